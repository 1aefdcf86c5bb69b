/- Part of the texts beneath a law: what its proof names. Conditions: none. -/
import Derived.Test.YtlcibdhmgclfjaaGreatQL17Nk
import Derived.Laws.Externs
import Derived.ProofKit
import Derived.OpenShut
import Derived.ChangeOld
import Derived.Below
import Derived.ChangeSlices
import Derived.Deep.Grids
import Derived.Deep.Strs
set_option linter.unusedSimpArgs false
set_option linter.unusedVariables false
set_option linter.unnecessarySimpa false
set_option linter.unusedSectionVars false
namespace Go.Proofs.YtlcibdhmgclfjaaGreat
open Go
section
variable {B : World} {σ : Env} {H : List HP} {P : Program} {d : Option Tmp} {ty : TypeId} {p : String} {af : Array Edge} {g : Option (Nat × Bool)}
theorem run_eq_map {t k e : TypeId} {q : Option Nat} (ht : ∀ w, (underlying t).run P w = .ok (.map k e) w) (w : World) : (Op.equal t (.map q) (.map none)).run P w = .ok q.isNone w := by
  show (Op.equalIn (9999 + 1) t (.map q) (.map none)).run P w = _
  rw [Op.equalIn]; simp only [Sem.run_bind, ht, Result.andThen_ok]; cases q <;> rfl
theorem ev_eqm {op : BinOp} {x y : Operand} {q : Option Nat} {c : Bool} {t u k e : TypeId} (ht : ∀ w, (underlying t).run P w = .ok (.map k e) w) (hx : evO σ x = some (.map q)) (hy : evO σ y = some (.map none)) (hc : (match op with | .eql => some q.isNone | .neq => some (!q.isNone) | _ => none) = some c) :
    Evs P B σ H ⟨d, .binOp op t x y u, ty, p, af, g⟩ (.bool c) := by
  intro a w kn _
  cases op <;> simp at hc <;> subst hc <;> simp only [execOp, kn.eval hx, kn.eval hy] <;> simp [binOp, eqGuard, run_eq_map ht]
theorem ev_ta1 {x : Operand} {s t : TypeId} {v : Value} {td : TypeDesc} (ht : ∀ w, (underlying t).run P w = .ok td w) (hi : isIf td = false) (hx : evO σ x = some (.iface t v)) : Evs P B σ H ⟨d, .typeAssert x s t false, ty, p, af, g⟩ v := by
  intro a w kn _
  cases td <;> simp [isIf] at hi <;> simp [execOp, kn.eval hx, Instr.typeAssert, ht]
theorem ch_mclone {α : Type} {kk : IntKind} {enc : α → Value} {r : Nat} {l : List (Int × α)} {U : List (Int × α) → List HP} {f : FuncId} {x : Operand} {t : TypeId} {at_ : Array TypeId} (hc : ∀ (args : Array Value) (w : World), (callFunc f args).run P w = ((Extern.MapsClone.clone args).run P w).andThen fun v w' => .ok (.value v) w')
    (hx : evO σ x = some (.iface t (.map (some r)))) [m : MapU H r kk enc l U] :
    Chg P B σ H ⟨d, .call ⟨.value (.func f), #[x], at_⟩, ty, p, af, g⟩ (fun v H' => ∃ b, v = .iface t (.map (some b)) ∧ H' = mapA kk enc b l :: H) := by
  intro a w kn hh
  obtain ⟨bn, clock, ho, hm⟩ := m.obj hh
  refine ⟨.value (.iface t (.map (some w.heap.size))), { w with heap := w.heap.push (.map (ments kk enc bn l).toArray clock) }, ?_, _, .inl rfl, _, ⟨_, rfl, rfl⟩, ?_⟩
  · have e : Extern.MapsClone.clone #[.iface t (.map (some r))] = (getObj r >>= fun o => match o with
        | .map entries clock => (newObj (.map entries clock) >>= fun n => pure (.iface t (.map (some n))))
        | _ => stuck "maps.clone: a map expected") := rfl
    have hg : (getObj r).run P w = .ok (.map (ments kk enc bn l).toArray clock) w := by simp [getObj, Sem.run, ho]
    have hfe : a.eval (.func f) = .func (.func f) #[] #[] := rfl
    simp [execOp, resolve, Deferred.ofValue, invoke, hfe, kn.eval hx, hc, e, hg]
  · exact (hh.new (.map (ments kk enc bn l).toArray clock)).map fun _ a => sat_head (fun k hk => ⟨bn, clock, hk, hm⟩) a
end
theorem mclone_ok (B : World) (H : List HP) (r : Nat) (l : List (Int × Int)) (U : List (Int × Int) → List HP) (m : MapU H r .i64 i64 l U) :
    ∀ w, Holds B H w → Calls Tryz.prog 177 [.map (some r)].toArray w (Ret B (fun rv H' => ∃ b, rv = .map (some b) ∧ H' = mapA .i64 i64 b l :: H) (fun _ _ => False)) := by
  refine fn_enter Tryz.func177 rfl Tryz.ntmps177 rfl (g_seq (g_region (kPa rfl rfl (p_nil (g_seq (g_seq (g_region (kPm rfl rfl (kPv (ev_eqm Tryz.runUnderlying159 rfl rfl rfl) rfl (p_nil (g_iff rfl (rfl) ?_)))))))))))
  refine g_skip (g_seq (g_region (kPm rfl rfl (kPv (ev_mki Tryz.runUnderlying159 rfl rfl) rfl (p_chg rfl (ch_mclone (fun args w => run_callFunc_extern Tryz.func187 (by kernel_rfl) (by kernel_rfl) (by kernel_rfl) (e := Extern.MapsClone.clone) (by kernel_rfl) args w) rfl) .free rfl rfl ?_)))))
  rintro _ _ ⟨b, rfl, rfl⟩
  refine kPv (ev_ta1 Tryz.runUnderlying159 rfl rfl) rfl (kPa rfl rfl (p_nil (go_sb [2] rfl (g_ret ?_))))
  exact ret_tmp Tryz.results177 rfl (fun w hh => ⟨_, ⟨b, rfl, rfl⟩, hh⟩)
structure MoveF (B : World) (f : FuncId) (fi ca : List Value) (ε : Type) (ExL : ε → List HP) (okp : Int → Prop) (to_ : Int → Int) (st : Int → ε → ε) : Prop where
  enter : ∀ args w, (callFunc f args).run Tryz.prog w = .ok (.enter f args) w
  says : ∀ (Fr : List HP) (p : Int) (e : ε), okp p → ∀ w, Holds B (ExL e ++ Fr) w → Calls Tryz.prog f (fi ++ [i64 p] ++ ca).toArray w (Ret B (fun rv H' => rv = i64 (to_ p) ∧ H' = ExL (st p e) ++ Fr) (fun _ _ => False))
def mvStep (to_ : Int → Int) (x : List (Int × Int) × List (Int × Int)) (p : Int × Int) : List (Int × Int) × List (Int × Int) := if to_ p.2 ≠ 0 then (mset x.1 p.1 (to_ p.2), mset x.2 (to_ p.2) p.1) else x
def TabS.moved (to_ : Int → Int) (last : Int) (ord : List (Int × Int)) : TabS := ⟨(ord.foldl (mvStep to_) ([], [])).1, (ord.foldl (mvStep to_) ([], [])).2, last⟩
theorem Holds.hop0 {B : World} {w : World} (L M : List HP) {E : List HP} (h : Holds B (L ++ (M ++ E)) w) : Holds B (M ++ (L ++ E)) w :=
  h.perm (by rw [← List.append_assoc, ← List.append_assoc]; exact List.Perm.append_right _ List.perm_append_comm)
theorem nodup_of {α : Type} {l : List (Int × α)} (h : (l.map Prod.fst).Nodup) : l.Nodup := List.Pairwise.of_map Prod.fst (fun a b h e => h (by rw [e])) h
theorem foldl_snoc {α β : Type} (f : β → α → β) (l : List α) (a : α) (b : β) : (l ++ [a]).foldl f b = f (l.foldl f b) a := by rw [List.foldl_append]; rfl
theorem hmoved_ok (B : World) (Fr : List HP) (b : Nat) (T : TabS) (f : FuncId) (fi ca : List Value) (ε : Type) (ExL : ε → List HP) (okp : Int → Prop) (to_ : Int → Int) (st : Int → ε → ε) (hM : MoveF B f fi ca ε ExL okp to_ st) (hok : ∀ p ∈ T.at_, okp p.2) (e0 : ε) :
    ∀ w, Holds B (TabA b T :: (ExL e0 ++ Fr)) w → Calls Tryz.prog 142 [ptr b, .func (.func f) fi.toArray ca.toArray].toArray w (Ret B (fun _ H' => ∃ ord : List (Int × Int), ord.Perm T.at_ ∧ H' = TabA b (TabS.moved to_ T.last ord) :: (ExL (ord.foldl (fun e (p : Int × Int) => st p.2 e) e0) ++ Fr)) (fun _ _ => False)) := by
  refine fn_enter Tryz.func142 rfl Tryz.ntmps142 rfl (go_tab fun b1 b2 => (g_seq (g_region (kPm rfl rfl ?_))))
  first | refine kPv (ev_nil rfl) rfl ?_ | refine kPv (ev_nilf rfl) rfl ?_
  refine kPv (ev_fa (m := _) fa_161_0 rfl rfl) rfl (kPv (ev_load Tryz.isAgg159 rfl rfl) rfl ?_)
  refine p_call rfl (en_f Tryz.call177 rfl) (mclone_ok B _ b1 T.at_ _ inferInstance) .free rfl rfl ?_ ?_
  rotate_left
  · rintro _ _ ⟨⟩
  rintro _ _ ⟨bo, rfl, rfl⟩
  refine kPa rfl rfl (p_nil (g_seq (g_region (kPm rfl rfl ?_))))
  first | refine kPv (ev_nil rfl) rfl ?_ | refine kPv (ev_nilf rfl) rfl ?_
  refine kPv (ev_fa (m := _) fa_161_0 rfl rfl) rfl (kPv (ev_load Tryz.isAgg159 rfl rfl) rfl (p_chg0 rfl (ch_clear rfl Tryz.runUnderlying159 rfl) .free rfl ?_))
  rintro _ _ rfl
  refine p_nil (go_sb [4, 0, 1] rfl (g_seq (g_region (kPm rfl rfl ?_))))
  first | refine kPv (ev_nil rfl) rfl ?_ | refine kPv (ev_nilf rfl) rfl ?_
  refine kPv (ev_fa (m := _) fa_161_1 rfl rfl) rfl (kPv (ev_load Tryz.isAgg159 rfl rfl) rfl (p_chg0 rfl (ch_clear rfl Tryz.runUnderlying159 rfl) .free rfl ?_))
  rintro _ _ rfl
  refine p_nil (g_seq (g_region (kPm rfl rfl (p_chg rfl (ch_range Tryz.runUnderlying159 rfl) .free rfl rfl ?_))))
  rintro _ _ ⟨it, rfl, rfl⟩
  refine p_nil (g_block (g_loopk (ι := List (Int × Int)) [22, 0, 1] (fun done => (done.length ≤ T.at_.length)) (fun done => []) (fun done => row b [.map (some b1), .map (some b2), i64 T.last] 161 :: mapA .i64 i64 b1 (done.foldl (mvStep to_) ([], [])).1 :: mapA .i64 i64 b2 (done.foldl (mvStep to_) ([], [])).2 :: iterA .i64 i64 bo it T.at_ done :: (ExL (done.foldl (fun e (p : Int × Int) => st p.2 e) e0) ++ Fr)) (fun done => T.at_.length - done.length) ([]) (Nat.zero_le _) (fun a w st => st.to trivial (fun hh => (hh.pk [1, 1, 1]))) ?_))
  rintro done hdl
  try simp only at hdl ⊢
  refine go_sub (σ' := [(22, _), (0, _), (1, _)]) (sub_r rfl) (g_seq (g_region (p_chg rfl (ch_next rfl) .free rfl rfl ?_)))
  rintro _ _ ⟨bb0, vs, done', rfl, hvs, rfl, hno, hyes⟩
  refine kPv (ev_ext rfl hvs) rfl (p_nil (g_seq ?_))
  refine g_if rfl (fun h24 => ?_) (fun h24 => ?_)
  · obtain ⟨pp, hpl, hpn, rfl⟩ := hyes h24
    refine go_iter it fun hl hd hsub => (g_skip (g_block (g_seq (g_region (kPv (ev_entry (p0 := pp) (dn := done) rfl) rfl (kPv (ev_ext rfl rfl) rfl (kPv (ev_ext rfl rfl) rfl (kPa rfl rfl (kPa rfl rfl (p_nil (g_seq ?_)))))))))))
    refine g_region (kPm rfl rfl (kPm rfl rfl ?_))
    refine p_call rfl (en_c hM.enter rfl rfl) (fun w hh => hM.says ([row b [.map (some b1), .map (some b2), i64 T.last] 161, mapA .i64 i64 b1 (done.foldl (mvStep to_) ([], [])).1, mapA .i64 i64 b2 (done.foldl (mvStep to_) ([], [])).2, iterA .i64 i64 bo it T.at_ (done ++ [pp])] ++ Fr) pp.2 (done.foldl (fun e (p : Int × Int) => st p.2 e) e0) (hok pp hpl) w (Holds.hop0 [row b [.map (some b1), .map (some b2), i64 T.last] 161, mapA .i64 i64 b1 (done.foldl (mvStep to_) ([], [])).1, mapA .i64 i64 b2 (done.foldl (mvStep to_) ([], [])).2, iterA .i64 i64 bo it T.at_ (done ++ [pp])] (ExL (done.foldl (fun e (p : Int × Int) => st p.2 e) e0)) hh)) .free rfl rfl ?_ ?_
    rotate_left
    · rintro _ _ ⟨⟩
    rintro _ _ ⟨rfl, rfl⟩
    refine go_conv (H' := [row b [.map (some b1), .map (some b2), i64 T.last] 161, mapA .i64 i64 b1 (done.foldl (mvStep to_) ([], [])).1, mapA .i64 i64 b2 (done.foldl (mvStep to_) ([], [])).2, iterA .i64 i64 bo it T.at_ (done ++ [pp])] ++ (ExL (st pp.2 (done.foldl (fun e (p : Int × Int) => st p.2 e) e0)) ++ Fr)) (fun w hh => Holds.hop0 (ExL (st pp.2 (done.foldl (fun e (p : Int × Int) => st p.2 e) e0))) [row b [.map (some b1), .map (some b2), i64 T.last] 161, mapA .i64 i64 b1 (done.foldl (mvStep to_) ([], [])).1, mapA .i64 i64 b2 (done.foldl (mvStep to_) ([], [])).2, iterA .i64 i64 bo it T.at_ (done ++ [pp])] hh) ?_
    simp only [List.cons_append, List.nil_append]
    refine kPa rfl rfl (p_nil (go_sb [7, 5, 22, 0, 1] rfl (g_seq (g_region (kPm rfl rfl (kPv (ev_cmp rfl rfl rfl) rfl (p_nil ?_)))))))
    refine g_if rfl (fun h32 => ?_) (fun h32 => ?_)
    · have hnz : to_ pp.2 ≠ 0 := by simpa using h32
      refine g_drawv [0, 1, 2, 3, 4, 5, 6, 7, 8, 9, 10, 11, 12, 13, 14, 15, 16, 17] [12, 14, 15, 17] [9, 10, 11] [12, 14, 15] [row b [.map (some b1), .map (some b2), i64 T.last] 161] Tryz.mixed (by kernel_rfl) ?_
      refine v_val rfl rfl rfl (ev_move rfl) .free rfl ?_
      first | refine v_val rfl rfl rfl (ev_nil rfl) .free rfl ?_ | refine v_val rfl rfl rfl (ev_nilf rfl) .free rfl ?_
      refine v_val rfl rfl rfl (ev_fa (m := _) fa_161_0 rfl rfl) .free rfl (v_val rfl rfl rfl (ev_load Tryz.isAgg159 rfl rfl) .free rfl (v_val rfl rfl rfl (ev_move rfl) .free rfl (v_val rfl rfl rfl (ev_move rfl) .free rfl ?_)))
      first | refine v_val rfl rfl rfl (ev_nil rfl) .free rfl ?_ | refine v_val rfl rfl rfl (ev_nilf rfl) .free rfl ?_
      refine v_val rfl rfl rfl (ev_fa (m := _) fa_161_1 rfl rfl) .free rfl (v_val rfl rfl rfl (ev_load Tryz.isAgg159 rfl rfl) .free rfl (v_hoist rfl rfl rfl (ev_move rfl) .free rfl (v_hoist rfl rfl rfl (ev_move rfl) .free rfl (v_hoist rfl rfl rfl (ev_move rfl) .free rfl (v_mark rfl rfl (go_pk [1] (p_chg rfl (ch_mapentry (u0 := (0 : Int)) Tryz.runUnderlying159 Tryz.runUnderlying3 Tryz.zeroValue3 rfl rfl) .free rfl rfl ?_)))))))
      rintro _ _ ⟨z1, st1, rfl, rfl⟩
      refine p_nil (v_on (v_val rfl rfl rfl (ev_ext rfl rfl) .free rfl (v_mark rfl rfl (p_chg0 rfl (ch_entrystore rfl rfl rfl rfl) .free rfl ?_))))
      rintro _ _ rfl
      refine p_nil (v_on (v_mark rfl rfl (go_pk [2] (p_chg rfl (ch_mapentry (u0 := (0 : Int)) Tryz.runUnderlying159 Tryz.runUnderlying3 Tryz.zeroValue3 rfl rfl) .free rfl rfl ?_))))
      rintro _ _ ⟨z2, st2, rfl, rfl⟩
      refine p_nil (v_on (v_val rfl rfl rfl (ev_ext rfl rfl) .free rfl (v_mark rfl rfl (p_chg0 rfl (ch_entrystore rfl rfl rfl rfl) .free rfl ?_))))
      rintro _ _ rfl
      refine p_nil (v_off rfl (v_nil (go_sb [22, 0, 1] rfl ?_)))
      have hle := iter_le hd hsub
      exact fun a w st_ => ⟨done ++ [pp], by first | omega | (simp; omega), by first | omega | (simp; omega), st_.to ⟨rfl, rfl, rfl, trivial⟩ (fun hh => (by have h := (hh.pk [2, 1]); rw [mset_entry, mset_entry] at h; rw [foldl_snoc, foldl_snoc, show mvStep to_ (done.foldl (mvStep to_) ([], [])) pp = (mset _ pp.1 (to_ pp.2), mset _ (to_ pp.2) pp.1) from if_pos hnz]; exact h))⟩
    · have hnz : to_ pp.2 = 0 := by simpa using h32
      refine g_skip ?_
      have hle := iter_le hd hsub
      exact fun a w st_ => ⟨done ++ [pp], by first | omega | (simp; omega), by first | omega | (simp; omega), st_.to ⟨rfl, rfl, rfl, trivial⟩ (fun hh => (by have h := hh; rw [foldl_snoc, foldl_snoc, show mvStep to_ (done.foldl (mvStep to_) ([], [])) pp = _ from if_neg (by simpa using hnz)]; exact h))⟩
  · obtain ⟨rfl, hall⟩ := hno h24
    refine go_iter it fun hl hd hsub => (g_exit ?_)
    exact end_none Tryz.results142 (fun w hh => ⟨_, ⟨done', (List.perm_ext_iff_of_nodup (nodup_of hd) (nodup_of hl)).2 fun x => ⟨hsub x, hall x⟩, rfl⟩, tab_holds (T := TabS.moved to_ T.last done') (hh.dp [3])⟩)
end Go.Proofs.YtlcibdhmgclfjaaGreat
namespace Go.Proofs.YtlcibdhmgclfjaaGreat
open Go
def namesM (c : Cfg) (b : Blk) (ml : List (Int × Obj3)) (v : Int) : Bool := v == 0 || (b.has c v && (mget ml v).isSome)
def refsM (s : Dev) (nf : Int → Bool) (o : Obj3) : Bool := (List.range o.2.1.toNat).all fun k => nf (s.load (o.2.2 + 1 + (k : Int)))
def stC (s : Dev) (nf : Int → Bool) (p : Obj3 × Int) (x : Int) : Bool × Int := if refsM s nf p.1 = true then (true, x) else (false, 9)
def Dev.check (s : Dev) (c : Cfg) : Int :=
  if (s.block c).2 ≠ 0 then (s.block c).2
  else if (s.starts c (s.block c).1).2 ≠ 0 then (s.starts c (s.block c).1).2
  else if (s.block c).1.rts.all (namesM c (s.block c).1 (s.starts c (s.block c).1).1) = true then
    (itl (stC s (namesM c (s.block c).1 (s.starts c (s.block c).1).1)) (s.objs c (s.block c).1 ((s.block c).1.used.toNat + 1) ((s.block c).1.place c 0)) 0).2
  else 9
theorem mval_o (o : Option Obj3) : mval objV (.agg #[i64 0, i64 0, i64 0]) o = objV (o.getD (0, 0, 0)) := by cases o <;> rfl
theorem take_succ_all {α : Type} {l : List α} {f : α → Bool} {k : Nat} (hk : k < l.length) (h : (l.take k).all f = true) (h2 : f l[k] = true) : (l.take (k + 1)).all f = true := by
  rw [List.take_succ_eq_append_getElem hk, List.all_append, h]; simp [h2]
theorem range_succ_all {f : Nat → Bool} {k : Nat} (h : (List.range k).all f = true) (h2 : f k = true) : (List.range (k + 1)).all f = true := by
  rw [List.range_succ, List.all_append, h]; simp [h2]
theorem cnames_ok (B : World) (Fr : List HP) (b1 b2 b3 mb : Nat) (c : Cfg) (hc : CfgW c) (b : Blk) (sv : Value) (hb : BlkW c b) (hsv : cell1 sv = true) (ml : List (Int × Obj3)) (v : Int) (hv : 0 ≤ v ∧ v < 18446744073709551616) :
    ∀ w, Holds B (row b1 [i64 b.act, i64 b.used, sv] 95 :: row b2 [i64 c.log, i64 c.roots, i64 c.space] 40 :: row b3 [.map (some mb)] 176 :: mapA .i64 objV mb ml :: Fr) w → Calls Tryz.prog 134 [w64 v, ptr b1, ptr b2, ptr b3].toArray w (PureR B (row b1 [i64 b.act, i64 b.used, sv] 95 :: row b2 [i64 c.log, i64 c.roots, i64 c.space] 40 :: row b3 [.map (some mb)] 176 :: mapA .i64 objV mb ml :: Fr) (.bool (namesM c b ml v))) := by
  refine fn_enter Tryz.func134 rfl Tryz.ntmps134 rfl (g_seq (g_region (kPa rfl rfl (p_nil (g_seq (g_seq (g_region (kPm rfl rfl (kPv (ev_cmp rfl rfl rfl) rfl (p_nil ?_))))))))))
  refine g_if rfl (fun h9 => ?_) (fun h9 => ?_)
  · have hres : namesM c b ml v = true := by unfold namesM; simp [show v = 0 by simpa using h9]
    refine g_seq (g_region (kPa rfl rfl (p_nil (g_ret ?_))))
    exact ret_tmp Tryz.results134 rfl (fun w hh => ⟨by rw [hres], hh⟩)
  · have hne : ¬ v = 0 := by simpa using h9
    refine g_skip (g_seq (g_seq (g_region (kPv (ev_loadA Tryz.isAgg95 Tryz.sizeOf95 rfl rfl) rfl ?_))))
    refine kPv (ev_loadA Tryz.isAgg40 Tryz.sizeOf40 rfl rfl) rfl ?_
    refine kPm rfl rfl (p_callq rfl (en_f Tryz.call135 rfl) (has_ok _ _ c hc b sv hb hsv _ hv) .free rfl rfl ?_)
    refine kPv (ev_not rfl) rfl (p_nil (go_sb [14, 5, 0, 3] rfl ?_))
    refine g_if rfl (fun h14 => ?_) (fun h14 => ?_)
    · have hh0 : b.has c v = false := by simpa using h14
      have hres : namesM c b ml v = false := by unfold namesM; simp [hne, hh0]
      refine g_seq (g_region (kPa rfl rfl (p_nil (g_ret ?_))))
      exact ret_tmp Tryz.results134 rfl (fun w hh => ⟨by rw [hres], hh⟩)
    · have hh0 : b.has c v = true := by simpa using h14
      have hvb := bhas_b hc hb hh0
      have hres : namesM c b ml v = (mget ml v).isSome := by unfold namesM; simp [hne, hh0]
      refine g_skip (g_seq (g_region (kPv (ev_load Tryz.isAgg176 rfl rfl) rfl (kPm rfl rfl ?_))))
      first | refine p_val rfl (ev_conv Tryz.runUnderlying26 Tryz.runUnderlying3 rfl (wr64 (by omega))) .free rfl rfl ?_ | refine p_val rfl (ev_conv Tryz.runUnderlying26 Tryz.runUnderlying3 rfl rfl) .free rfl rfl ?_
      refine kPv ((ev_lookup2 Tryz.runUnderlying176 Tryz.runUnderlying3 Tryz.zeroValue105 rfl rfl).eq (congrArg (fun v => Value.tuple #[v, .bool _]) (mval_o _))) rfl (kPm rfl rfl (kPv (ev_ext rfl rfl) rfl (kPv (ev_ext rfl rfl) rfl (p_chg rfl (ch_allocA Tryz.zeroValue105 rfl) .free rfl rfl ?_))))
      rintro _ _ ⟨b6, rfl, rfl⟩
      refine p_chg0 rfl (ch_storeA (vs := [i64 _, i64 _, i64 _]) Tryz.sizeOf105 rfl rfl rfl rfl rfl) .free rfl ?_
      rintro _ _ rfl
      refine kPa rfl rfl (p_nil (go_sb [7, 5] rfl (g_seq (g_region (kPm rfl rfl (kPa rfl rfl (p_nil (g_ret ?_))))))))
      exact ret_tmp Tryz.results134 rfl (fun w hh => ⟨by rw [hres]; rfl, hh.tail⟩)
theorem ccheck_ok (B : World) (Fr : List HP) (bd : Nat) (s : Dev) (c : Cfg) (hc : CfgW c) (hu : U64 s) :
    ∀ w, Holds B (DevA bd s :: Fr) w → Calls Tryz.prog 68 [ptr bd, cfgV c].toArray w (PureR B (DevA bd s :: Fr) (i64 (s.check c))) := by
  refine fn_enter_m Tryz.func68 rfl Tryz.ntmps68 rfl ?_
  have hrl := block_len (s := s) hc
  refine g_seq (g_region (p_chg rfl (ch_box1 rfl rfl) .free rfl rfl ?_))
  rintro _ _ ⟨b2, rfl, rfl⟩
  refine p_chg rfl (ch_boxA rfl) .free rfl rfl ?_
  rintro _ _ ⟨b3, rfl, rfl⟩
  refine kPa rfl rfl (p_nil (g_scope (g_seq (g_region (kPv (ev_load Tryz.isAgg28 rfl rfl) rfl (kPv (ev_loadA Tryz.isAgg40 Tryz.sizeOf40 rfl rfl) rfl ?_))))))
  refine go_pk [2] ?_
  refine p_call rfl (en_f Tryz.call111 rfl) (rread_ok _ _ _ _ c hc hu) .free rfl rfl ?_ ?_
  rotate_left
  · rintro _ _ ⟨⟩
  rintro _ _ ⟨sv, hsv, rfl, rfl⟩
  have hbk := block_w (s := s) hc hu
  refine kPm rfl rfl (kPv (ev_ext rfl rfl) rfl (kPv (ev_ext rfl rfl) rfl (p_chg rfl (ch_allocA Tryz.zeroValue95 rfl) .free rfl rfl ?_)))
  rintro _ _ ⟨b5, rfl, rfl⟩
  refine p_chg0 rfl (ch_storeA (vs := [i64 _, i64 _, sv]) Tryz.sizeOf95 rfl rfl rfl (all3 hsv) rfl) .free rfl ?_
  rintro _ _ rfl
  refine kPa rfl rfl (p_nil (go_sb [6, 5, 4, 3, 2] rfl (g_seq (g_seq (g_region (kPm rfl rfl (kPv (ev_cmp rfl rfl rfl) rfl (p_nil ?_))))))))
  refine g_if rfl (fun h21 => ?_) (fun h21 => ?_)
  · have he : (s.block c).2 ≠ 0 := by simpa using h21
    have hres : s.check c = (s.block c).2 := by unfold Dev.check; rw [if_pos he]
    refine g_seq (g_region (kPm rfl rfl (kPa rfl rfl (p_nil (g_ret ?_)))))
    exact ret_tmp_m Tryz.results68 rfl (.nil) (fun w hh => ⟨by rw [hres] <;> rfl, (hh.dp [0, 0, 1, 1])⟩)
  · have he : (s.block c).2 = 0 := by simpa using h21
    refine g_skip (g_seq (g_region (kPv (ev_load Tryz.isAgg28 rfl rfl) rfl (kPv (ev_loadA Tryz.isAgg40 Tryz.sizeOf40 rfl rfl) rfl ?_))))
    refine kPv (ev_loadA Tryz.isAgg95 Tryz.sizeOf95 rfl rfl) rfl ?_
    refine go_pk [2] ?_
    refine p_call rfl (en_f Tryz.call133 rfl) (wstarts_ok _ _ bd s c hc (s.block c).1 sv hbk hsv) .free rfl rfl ?_ ?_
    rotate_left
    · rintro _ _ ⟨⟩
    rintro _ _ ⟨mb, rfl, rfl⟩
    refine kPm rfl rfl (kPv (ev_ext rfl rfl) rfl (kPv (ev_ext rfl rfl) rfl (p_chg rfl (ch_alloc1 Tryz.zeroValue176 rfl) .free rfl rfl ?_)))
    rintro _ _ ⟨b7, rfl, rfl⟩
    refine p_chg0 rfl (ch_store Tryz.sizeOf176 rfl rfl rfl rfl) .free rfl ?_
    rintro _ _ rfl
    refine kPa rfl rfl (p_nil (go_sb [6, 7, 5, 4, 3, 2] rfl (g_seq (g_seq (g_region (kPm rfl rfl (kPv (ev_cmp rfl rfl rfl) rfl (p_nil ?_))))))))
    refine g_if rfl (fun h31 => ?_) (fun h31 => ?_)
    · have he2 : (s.starts c (s.block c).1).2 ≠ 0 := by simpa using h31
      have hres : s.check c = (s.starts c (s.block c).1).2 := by unfold Dev.check; rw [if_neg (by omega), if_pos he2]
      refine g_seq (g_region (kPm rfl rfl (kPa rfl rfl (p_nil (g_ret ?_)))))
      exact ret_tmp_m Tryz.results68 rfl (.nil) (fun w hh => ⟨by rw [hres] <;> rfl, (hh.dp [0, 0, 1, 1, 1, 1])⟩)
    · have he2 : (s.starts c (s.block c).1).2 = 0 := by simpa using h31
      refine g_skip (g_seq (g_region (p_chg rfl (ch_alloc1 Tryz.zeroValue33 rfl) .free rfl rfl ?_)))
      rintro _ _ ⟨b8, rfl, rfl⟩
      refine p_chg0 rfl (ch_store Tryz.sizeOf33 rfl rfl rfl rfl) .free rfl ?_
      rintro _ _ rfl
      refine p_nil (g_seq (g_region (kPv (ev_mkf rfl rfl) rfl (p_chg rfl (ch_alloc1 Tryz.zeroValue181 rfl) .free rfl rfl ?_))))
      rintro _ _ ⟨b9, rfl, rfl⟩
      refine p_chg0 rfl (ch_store Tryz.sizeOf181 rfl rfl rfl rfl) .free rfl ?_
      rintro _ _ rfl
      refine go_pk [6] (go_vecq fun qo co hqe hqo => ?_)
      subst hqe
      refine p_nil (g_seq (g_seq (g_region (kPv (ev_fa (m := _) fa_95_2 rfl rfl) rfl (kPv (ev_load Tryz.isAgg25 rfl rfl) rfl (kPv (ev_len rfl Tryz.runUnderlying25 ⟨_, rfl⟩ rfl) rfl (kPm rfl rfl (p_nil (g_block (g_loopk (ι := Nat) [36, 35, 9, 8, 5, 4, 3, 2] (fun k => (k ≤ (s.block c).1.rts.length) ∧ (((s.block c).1.rts.take k).all (namesM c (s.block c).1 (s.starts c (s.block c).1).1) = true)) (fun k => [(37, i64 k)]) (fun k => row b5 [i64 (s.block c).1.act, i64 (s.block c).1.used, .slice qo (s.block c).1.rts.length co] 95 :: row b3 [i64 c.log, i64 c.roots, i64 c.space] 40 :: row b7 [.map (some mb)] 176 :: mapA .i64 objV mb (s.starts c (s.block c).1).1 :: VecU 0 (.slice qo (s.block c).1.rts.length co, (s.block c).1.rts) :: DevA bd s :: row b8 [i64 0] 33 :: row b9 [.func (.func 134) #[] #[ptr b5, ptr b3, ptr b7]] 181 :: row b2 [ptr bd] 28 :: Fr) (fun k => (s.block c).1.rts.length - k) (0) (⟨Nat.zero_le _, rfl⟩) (fun a w st => st.to ⟨rfl, trivial⟩ (fun hh => (hh.pk [6, 6, 3, 3, 0, 2, 1]))) ?_))))))))))
      rintro k ⟨hk0, hkr⟩
      try simp only at hk0 hkr ⊢
      refine go_sub (σ' := [(37, i64 k), (36, _), (35, _), (9, _), (8, _), (5, _), (4, _), (3, _), (2, _)]) (sub_r rfl) (g_seq (g_region (kPv (ev_cmp rfl rfl rfl) rfl (p_nil (g_seq ?_)))))
      refine g_if rfl (fun h38 => ?_) (fun h38 => ?_)
      · have hk : k < (s.block c).1.rts.length := by simp at h38; omega
        obtain ⟨bq, oq, rfl⟩ := hqo k hk
        have hul : 0 ≤ (s.block c).1.rts[k] ∧ (s.block c).1.rts[k] < 18446744073709551616 := block_rts hu _ (List.getElem_mem hk)
        refine g_skip (g_seq (g_block (g_seq (g_region (kPv (ev_iaS Tryz.runUnderlying25 Tryz.sizeOf26 rfl rfl (by omega) (by omega)) rfl ?_)))))
        refine kPv (ev_loadS (v := w64 (s.block c).1.rts[k]) Tryz.isAgg26 (vec_slr 4 rfl) rfl (by rw [Int.toNat_natCast, List.getElem?_map, List.getElem?_eq_getElem hk]; rfl)) rfl ?_
        refine kPa rfl rfl (p_nil (g_seq (g_region (kPv (ev_load Tryz.isAgg181 rfl rfl) rfl (kPm rfl rfl ?_)))))
        refine p_callq rfl (en_c Tryz.call134 rfl rfl) (cnames_ok B _ b5 b3 b7 mb c hc (s.block c).1 _ hbk rfl (s.starts c (s.block c).1).1 (s.block c).1.rts[k] hul) .free rfl rfl ?_
        refine kPv (ev_not rfl) rfl (p_nil (go_sb [44, 37, 36, 35, 9, 8, 5, 4, 3, 2] rfl ?_))
        refine g_if rfl (fun h44 => ?_) (fun h44 => ?_)
        · have hnr : ¬ (namesM c (s.block c).1 (s.starts c (s.block c).1).1) (s.block c).1.rts[k] = true := by simpa using h44
          have hres : s.check c = 9 := by unfold Dev.check; rw [if_neg (by omega), if_neg (by omega), if_neg (fun hh => hnr (List.all_eq_true.1 hh _ (List.getElem_mem hk)))]
          refine g_seq (g_region (kPa rfl rfl (p_nil (g_ret ?_))))
          exact ret_tmp_m Tryz.results68 rfl (.nil) (fun w hh => ⟨by rw [hres] <;> rfl, (hh.dp [0, 0, 0, 0, 0, 1, 1, 1])⟩)
        · have hnr : (namesM c (s.block c).1 (s.starts c (s.block c).1).1) (s.block c).1.rts[k] = true := by simpa using h44
          refine g_skip (g_region ?_)
          first | refine p_val rfl (ev_add rfl rfl (wr64 (by omega))) .free rfl rfl ?_ | refine p_val rfl (ev_add rfl rfl rfl) .free rfl rfl ?_
          refine kPm rfl rfl (p_nil ?_)
          exact fun a w st_ => ⟨k + 1, ⟨by first | omega | (simp only; omega), take_succ_all hk hkr hnr⟩, by first | omega | (simp only; omega), st_.to (sub_r rfl) (fun hh => hh)⟩
      · have hk : ¬ k < (s.block c).1.rts.length := by simp at h38; omega
        obtain rfl : k = (s.block c).1.rts.length := by omega
        have hres : s.check c = (itl (stC s (namesM c (s.block c).1 (s.starts c (s.block c).1).1)) (s.objs c (s.block c).1 ((s.block c).1.used.toNat + 1) ((s.block c).1.place c 0)) 0).2 := by unfold Dev.check; rw [if_neg (by omega), if_neg (by omega), if_pos (by rw [List.take_length] at hkr; exact hkr)]
        refine g_exit (g_seq (g_label (g_seq (g_seq (g_region (kPv (ev_load Tryz.isAgg28 rfl rfl) rfl (kPv (ev_loadA Tryz.isAgg40 Tryz.sizeOf40 rfl rfl) rfl ?_)))))))
        refine kPv (ev_loadA Tryz.isAgg95 Tryz.sizeOf95 rfl rfl) rfl ?_
        refine p_call rfl (en_f Tryz.call136 rfl) (wobjs_ok _ _ bd c (s.block c).1 (.slice qo (s.block c).1.rts.length co) rfl) .free rfl rfl ?_ ?_
        rotate_left
        · rintro _ _ ⟨⟩
        rintro _ _ ⟨c3, c4, c5, rfl, rfl⟩
        refine p_nil (go_sb [49, 9, 8, 4, 2] rfl (g_block (g_range rfl Tryz.call170 ?_)))
        intro l m tmps hts hkn w hh
        have hk9 := hkn 9 _ rfl
        have hk2 := hkn 2 _ rfl
        have hk8 := hkn 8 _ rfl
        refine (wobj1_ok B (blk m (.deferred (some [])) :: VecU 0 (.slice qo (s.block c).1.rts.length co, (s.block c).1.rts) :: Fr) l 68 c3 c4 c5 bd c hc (s.block c).1 _ hbk rfl s Int _ rfl rfl (fun x => True) (fun x => [row b8 [i64 x] 33, row b5 [i64 (s.block c).1.act, i64 (s.block c).1.used, .slice qo (s.block c).1.rts.length co] 95, row b3 [i64 c.log, i64 c.roots, i64 c.space] 40, row b7 [.map (some mb)] 176, mapA .i64 objV mb (s.starts c (s.block c).1).1, row b9 [.func (.func 134) #[] #[ptr b5, ptr b3, ptr b7]] 181, row b2 [ptr bd] 28]) (fun _ => .exit 2) (stC s (namesM c (s.block c).1 (s.starts c (s.block c).1).1)) 0 trivial ?_ w (hh.pk [0, 1, 1, 1, 6, 6, 1, 1, 1, 1, 2, 2])).mono (Ret.mono ?_ fun _ _ h => h.elim)
        · intro p x hpw _
          have hp2 := hpw.r
          have hp1 := hpw.w
          have hp3 := hpw.at_
          refine ⟨trivial, fun E => ?_⟩
          simp only [List.cons_append, List.nil_append]
          refine round_go (n := 70) (σ := [(50, objV p.1), (51, i64 p.2), (9, ptr b9), (2, ptr b2), (8, ptr b8)]) Tryz.func68 (by simp [lrec, hts]) (KnA.knows (by simp [KnA, lrec, hts]; exact ⟨(Array.getElem?_eq_some_iff.1 hk9).2, (Array.getElem?_eq_some_iff.1 hk2).2, (Array.getElem?_eq_some_iff.1 hk8).2⟩)) rfl ?_
          refine g_region (p_chg rfl (ch_allocA Tryz.zeroValue105 rfl) .free rfl rfl ?_)
          rintro _ _ ⟨b12, rfl, rfl⟩
          refine p_chg0 rfl (ch_storeA (vs := [i64 p.1.1, i64 p.1.2.1, i64 p.1.2.2]) Tryz.sizeOf105 rfl rfl rfl rfl rfl) .free rfl ?_
          rintro _ _ rfl
          refine p_nil (go_pk [1] (go_mid (g_block (g_seq ?_))))
          generalize hrec : ({ state := LoopState.busy, .. } : Loop) = rec
          refine g_region (kPv (ev_fa (m := _) fa_105_0 rfl rfl) rfl (kPv (ev_fa (m := _) fa_38_1 rfl rfl) rfl (kPv (ev_load Tryz.isAgg3 rfl rfl) rfl (kPm rfl rfl (p_nil (g_block ?_))))))
          refine g_loopk (ι := Nat) [54, 12, 9, 2, 8] (fun j => ((j : Int) ≤ p.1.2.1) ∧ ((List.range j).all (fun k => (namesM c (s.block c).1 (s.starts c (s.block c).1).1) (s.load (p.1.2.2 + 1 + (k : Int)))) = true)) (fun j => [(55, i64 j)]) (fun j => row b5 [i64 (s.block c).1.act, i64 (s.block c).1.used, .slice qo (s.block c).1.rts.length co] 95 :: row b3 [i64 c.log, i64 c.roots, i64 c.space] 40 :: row b7 [.map (some mb)] 176 :: mapA .i64 objV mb (s.starts c (s.block c).1).1 :: row b12 [i64 p.1.1, i64 p.1.2.1, i64 p.1.2.2] 105 :: blk l (.loop rec) :: row c5 [i64 (s.block c).1.act, i64 (s.block c).1.used, .slice qo (s.block c).1.rts.length co] 95 :: row c4 [i64 c.log, i64 c.roots, i64 c.space] 40 :: row c3 [ptr bd] 28 :: DevA bd s :: row b8 [i64 x] 33 :: row b9 [.func (.func 134) #[] #[ptr b5, ptr b3, ptr b7]] 181 :: row b2 [ptr bd] 28 :: E) (fun j => p.1.2.1.toNat - j) (0) (⟨by first | omega | (simp only; omega), rfl⟩) (fun a w st => st.to ⟨rfl, trivial⟩ (fun hh => (hh.pk [7, 7, 7, 7, 1]))) ?_
          rintro j ⟨hj0, hall⟩
          try simp only at hj0 hall ⊢
          refine go_sub (σ' := [(55, i64 j), (54, _), (12, _), (9, _), (2, _), (8, _)]) (sub_r rfl) (g_seq (g_region (kPv (ev_cmp rfl rfl rfl) rfl (p_nil (g_seq ?_)))))
          refine g_if rfl (fun h56 => ?_) (fun h56 => ?_)
          · have hj : (j : Int) < p.1.2.1 := by simpa using h56
            refine g_skip (g_seq (g_block (g_seq (g_region (kPm rfl rfl (kPa rfl rfl (p_nil (g_seq (g_draw Tryz.mixed (by kernel_rfl) (by kernel_rfl) ?_)))))))))
            refine kQv (ev_load Tryz.isAgg181 rfl rfl) rfl (kQv (ev_load Tryz.isAgg28 rfl rfl) rfl (kQv (ev_fa (m := _) fa_105_1 rfl rfl) rfl (kQv (ev_load Tryz.isAgg3 rfl rfl) rfl ?_)))
            first | refine q_val rfl (ev_add rfl rfl (wr64 (by omega))) .free rfl ?_ | refine q_val rfl (ev_add rfl rfl rfl) .free rfl ?_
            refine kQm rfl rfl ?_
            first | refine q_val rfl (ev_add rfl rfl (wr64 (by omega))) .free rfl ?_ | refine q_val rfl (ev_add rfl rfl rfl) .free rfl ?_
            refine q_call rfl (en_f Tryz.call71 rfl) (ro_at (q := DevA) (fun Fr => nload_ok _ Fr _ _ _)) .free rfl ?_
            refine q_call rfl (en_c Tryz.call134 rfl rfl) (cnames_ok B _ b5 b3 b7 mb c hc (s.block c).1 _ hbk rfl (s.starts c (s.block c).1).1 (s.load (p.1.2.2 + 1 + (j : Int))) (hu.load _)) .free rfl ?_
            refine kQv (ev_not rfl) rfl (q_nil (go_sb [67, 55, 54, 12, 9, 2, 8] rfl ?_))
            refine g_if rfl (fun h67 => ?_) (fun h67 => ?_)
            · have hnall : ¬ (namesM c (s.block c).1 (s.starts c (s.block c).1).1) (s.load (p.1.2.2 + 1 + (j : Int))) = true := by simpa using h67
              subst hrec
              refine g_seq (g_region (p_chg0 rfl (ch_store Tryz.sizeOf33 rfl rfl rfl rfl) .free rfl ?_))
              rintro _ _ rfl
              refine p_nil (g_exit ?_)
              have hst : stC s (namesM c (s.block c).1 (s.starts c (s.block c).1).1) p x = (false, 9) := by unfold stC; rw [if_neg (show ¬ refsM s (namesM c (s.block c).1 (s.starts c (s.block c).1).1) p.1 = true from fun hh => hnall (List.all_eq_true.1 hh j (List.mem_range.2 (by omega))))]
              refine go_pk [5] ?_
              exact go_rJ fun w hh => ⟨_, ⟨by rw [hst], rfl⟩, by rw [hst]; exact ((hh.dp [5]).pk [0, 4, 4, 4, 4, 4])⟩
            · have hnm : (namesM c (s.block c).1 (s.starts c (s.block c).1).1) (s.load (p.1.2.2 + 1 + (j : Int))) = true := by simpa using h67
              refine g_skip (g_region ?_)
              first | refine p_val rfl (ev_add rfl rfl (wr64 (by omega))) .free rfl rfl ?_ | refine p_val rfl (ev_add rfl rfl rfl) .free rfl rfl ?_
              refine kPm rfl rfl (p_nil ?_)
              exact fun a w st_ => ⟨j + 1, ⟨by first | omega | (simp only; omega), range_succ_all hall hnm⟩, by first | omega | (simp only; omega), st_.to (sub_r rfl) (fun hh => hh)⟩
          · have hj : ¬ (j : Int) < p.1.2.1 := by simpa using h56
            have hall2 : refsM s (namesM c (s.block c).1 (s.starts c (s.block c).1).1) p.1 = true := by unfold refsM; rw [show p.1.2.1.toNat = j by omega]; exact hall
            subst hrec
            refine g_exit ?_
            have hst : stC s (namesM c (s.block c).1 (s.starts c (s.block c).1).1) p x = (true, x) := by unfold stC; rw [if_pos hall2]
            refine go_pk [5] ?_
            exact go_rK fun w hh => ⟨_, ⟨by rw [hst], rfl⟩, by rw [hst]; exact ((hh.dp [5]).pk [0, 4, 4, 4, 4, 4])⟩
        rintro _ _ ⟨_, rfl⟩
        simp only [List.cons_append, List.nil_append]
        refine ⟨_, _, fun w hh => hh, lst_busy (by simp [lrec]), fun hp => ?_, fun c' hc' => ?_⟩
        rotate_left
        · obtain ⟨h1, rfl⟩ := lst_some rfl hc'
          refine g_exit (g_seq (g_region (kPv (ev_load Tryz.isAgg33 rfl rfl) rfl (kPa rfl rfl (p_nil (g_ret ?_))))))
          exact ret_tmp_m Tryz.results68 rfl (.at 12 (.nil)) (fun w hh => ⟨by rw [hres] <;> rfl, (hh.dp [0, 0, 0, 0, 1, 1, 1, 1, 1, 1, 1, 1, 1])⟩)
        refine g_seq (g_region (kPv (ev_load Tryz.isAgg33 rfl rfl) rfl (kPa rfl rfl (p_nil (g_ret ?_)))))
        exact ret_tmp_m Tryz.results68 rfl (.at 12 (.nil)) (fun w hh => ⟨by rw [hres] <;> rfl, (hh.dp [0, 0, 0, 0, 1, 1, 1, 1, 1, 1, 1, 1, 1])⟩)
end Go.Proofs.YtlcibdhmgclfjaaGreat
namespace Go.Proofs.YtlcibdhmgclfjaaGreat
open Go
def blkIs (x : Blk × Int) (b : Blk) (e : Int) : Bool := x.1.act == b.act && x.1.used == b.used && x.1.rts == b.rts && x.2 == e
theorem blkIs_eq {x : Blk × Int} {b : Blk} {e : Int} (h : blkIs x b e = true) : x = (b, e) := by
  obtain ⟨⟨a1, a2, a3⟩, a4⟩ := x
  obtain ⟨b1, b2, b3⟩ := b
  simp only [blkIs, Bool.and_eq_true, beq_iff_eq] at h
  obtain ⟨⟨⟨rfl, rfl⟩, rfl⟩, rfl⟩ := h
  rfl
def prIs (x : Int × Int) (a e : Int) : Bool := x.1 == a && x.2 == e
theorem prIs_eq {x : Int × Int} {a e : Int} (h : prIs x a e = true) : x = (a, e) := by
  simp only [prIs, Bool.and_eq_true, beq_iff_eq] at h
  exact Prod.ext h.1 h.2
def obIs (x : Obj3 × Int) (o : Obj3) (e : Int) : Bool := x.1.1 == o.1 && x.1.2.1 == o.2.1 && x.1.2.2 == o.2.2 && x.2 == e
theorem obIs_eq {x : Obj3 × Int} {o : Obj3} {e : Int} (h : obIs x o e = true) : x = (o, e) := by
  simp only [obIs, Bool.and_eq_true, beq_iff_eq] at h
  exact Prod.ext (Prod.ext h.1.1.1 (Prod.ext h.1.1.2 h.1.2)) h.2
theorem cfg48 : CfgW ⟨3, 1, 48⟩ := ⟨by decide, by decide, by decide, by decide, by decide, by decide⟩
theorem mkC48 : (⟨3, 1, 48⟩ : Cfg) = mkC 0 0 40 := rfl
abbrev c8 : Cfg := ⟨3, 1, 8⟩
abbrev c48 : Cfg := ⟨3, 1, 48⟩
theorem n48 {N : Nat} (h : (N : Int) = c48.words) : N = 136 := by have : (N : Int) = 136 := h.trans (by decide); omega
theorem owriteD_ok (B : World) (Fr : List HP) (bd : Nat) (o : Obj3) (ho : ObjW o) (i v : Int) (hv : 0 ≤ v ∧ v < 18446744073709551616) (s : Dev) (hl : s.pow.lim < 0) (hu : U64 s) :
    ∀ w_, Holds B (DevA bd s :: Fr) w_ → Calls Tryz.prog 61 [objV o, i64 i, w64 v, .func (.func 120) [ptr bd].toArray #[]].toArray w_ (Ret B (fun rv H' => ∃ x s', setM devOp o i false v s () = .ok (x, ()) s' ∧ rv = i64 x ∧ s'.pow.lim < 0 ∧ s'.n = s.n ∧ U64 s' ∧ H' = DevA bd s' :: Fr) (fun _ _ => False)) := fun w_ hh => by
  obtain ⟨y, s2, hg, _, hg2, hg3⟩ := good_set (o := o) (i := i) (v := v) (r := false) hl
  refine (owrite_ok B Fr _ [ptr bd] bd 0 Unit (fun _ _ => pr True) devOp _ (storeD B bd 0) o ho i v hv s () hu w_ ((hh.unpr (p := True) trivial).back 1 (by simp))).mono fun en w' h => ?_
  cases en with
  | returned rv =>
    obtain ⟨H, ⟨x, e', s', hm, rfl, hok, rfl⟩, hh⟩ := h
    obtain ⟨rfl, rfl⟩ : y = (x, e') ∧ s2 = s' := by rw [hg] at hm; cases hm; exact ⟨rfl, rfl⟩
    exact ⟨_, ⟨x, s2, hm, rfl, hg2, hg3, hok, rfl⟩, (hh.front 1 rfl).tail⟩
  | panicked c =>
    obtain ⟨H, ⟨s', hm, _⟩, _⟩ := h
    rw [hg] at hm; cases hm
  | outgrown => exact h
theorem d8_eval (pa : Nat) : okB ((dev0 pa [] 56).format c8) (fun _ s => blkIs (s.block c8) ⟨0, 0, [0]⟩ 0) = true := by kernel_rfl
theorem d9_eval (pa : Nat) : okB ((dev0 pa [] 56).format c8) (fun _ s => okB (allocM devOp c8 2 0 s ()) fun x s1 => prIs x.1 40 0 && okB (allocM devOp c8 5 0 s1 ()) fun y _ => prIs y.1 0 4) = true := by kernel_rfl
theorem d10_eval (pa : Nat) : okB ((dev0 pa [] 136).format c48) (fun _ s => okB (fillN c48 [(1, 2)] s []) fun out sF => out == [40] && blkIs (sF.block c48) ⟨0, 3, [0]⟩ 0 && obIs (sF.objOf c48 ⟨0, 3, [0]⟩ 40) (2, 1, 40) 0 && prIs (sF.objRead (2, 1, 40) 0) 0 5 && okB (setM devOp (2, 1, 40) 1 false 9 sF ()) fun a s2 => a.1 == 0 && prIs (s2.objRead (2, 1, 40) 1) 9 0) = true := by kernel_rfl
theorem d11_eval (pa : Nat) : okB ((dev0 pa [] 136).format c48) (fun _ s => okB (fillN c48 [(0, 1)] s []) fun out sF => out == [40] && blkIs (sF.block c48) ⟨0, 2, [0]⟩ 0 && okB (linkObjs c48 ⟨0, 2, [0]⟩ (pickL [] [40] 0) [40] 0 sF) fun n1 s1 => n1 == some 0 && okB (linkRoots c48 (pickL [] [40] 0) 1 0 0 s1) fun _ s2 => blkIs (s2.block c48) ⟨0, 2, [0]⟩ 0 && (s2.starts c48 ⟨0, 2, [0]⟩).1 == [(40, (1, 0, 40))] && (s2.starts c48 ⟨0, 2, [0]⟩).2 == 0) = true := by kernel_rfl
theorem d12_eval (pa : Nat) : okB ((dev0 pa [] 56).format c8) (fun _ s => s.check c8 == 0 && okB (s.store 34 5) fun _ s1 => s1.check c8 == 9) = true := by kernel_rfl
theorem awake8_ok (B : World) (Fr : List HP) :
    ∀ w, Holds B Fr w → Calls Tryz.prog 212 [].toArray w (PureR B Fr (.bool true)) := by
  refine fn_enter Tryz.func212 rfl Tryz.ntmps212 rfl (g_seq (g_region (kPa rfl rfl (p_nil (g_seq (g_seq (g_region (p_callq rfl (en_f Tryz.call213 rfl) (awake7_ok _ _) .free rfl rfl ?_))))))))
  refine kPv (ev_not rfl) rfl (p_nil (g_iff rfl (rfl) (g_skip (g_seq (g_region (kPv (ev_build rfl (bld_40_0_1_2 _ _ _ rfl rfl rfl)) rfl (p_chg rfl (ch_allocA Tryz.zeroValue40 rfl) .free rfl rfl ?_)))))))
  rintro _ _ ⟨b1, rfl, rfl⟩
  refine p_chg0 rfl (ch_storeA (vs := _) Tryz.sizeOf40 rfl rfl rfl rfl rfl) .free rfl ?_
  rintro _ _ rfl
  refine p_nil (g_seq (g_region (kPv (ev_loadA Tryz.isAgg40 Tryz.sizeOf40 rfl rfl) rfl ?_)))
  refine p_call rfl (en_f Tryz.call49 rfl) (formatted_ok _ _ ⟨3, 1, 8⟩ cfg1 none 0 [] (by decide) (fun _ h => absurd h (Nat.not_lt_zero _)) SlR.nil) .free rfl rfl ?_ ?_
  rotate_left
  · rintro _ _ ⟨⟩
  rintro _ _ ⟨bd, pa, N, s0, hN, hf, rfl, rfl⟩
  obtain rfl : N = 56 := by have : (N : Int) = 56 := hN.trans (by decide); omega
  have hfm := fmt_of cfg1 hN hf
  have hu0 := format_u64 (dev0_u64 pa 56) cfg1 hf
  refine kPm rfl rfl (kPv (ev_ext rfl rfl) rfl (kPv (ev_ext rfl rfl) rfl (kPa rfl rfl (kPa rfl rfl (p_nil (go_sb [3, 2, 1, 0] rfl (g_seq (g_seq (g_region (kPm rfl rfl (kPv (ev_not rfl) rfl ?_)))))))))))
  refine p_nil (g_iff rfl (rfl) (g_skip (g_seq (g_region (kPm rfl rfl (kPv (ev_loadA Tryz.isAgg40 Tryz.sizeOf40 rfl rfl) rfl ?_))))))
  refine p_call rfl (en_f Tryz.call111 rfl) (rread_ok _ _ _ _ ⟨3, 1, 8⟩ cfg1 hu0) .free rfl rfl ?_ ?_
  rotate_left
  · rintro _ _ ⟨⟩
  rintro _ _ ⟨sv, hsv, rfl, rfl⟩
  rw [blkIs_eq (okB_ok (d8_eval pa) hf)]
  refine go_vecq fun qv cv hqv hqi => ?_
  subst hqv
  refine kPm rfl rfl (kPv (ev_ext rfl rfl) rfl (kPv (ev_ext rfl rfl) rfl (p_chg rfl (ch_allocA Tryz.zeroValue95 rfl) .free rfl rfl ?_)))
  rintro _ _ ⟨b4, rfl, rfl⟩
  refine p_chg0 rfl (ch_storeA (vs := _) Tryz.sizeOf95 rfl rfl rfl (by first | rfl | exact all3 (by assumption)) rfl) .free rfl ?_
  rintro _ _ rfl
  refine kPa rfl rfl (p_nil (go_sb [5, 4, 1, 0] rfl (g_seq (g_region (kPm rfl rfl (kPv (ev_cmp rfl rfl rfl) rfl (kPm rfl rfl (p_val rfl (ev_fa (m := _) fa_95_0 rfl rfl) (.on rfl rfl (beq_eq rfl)) rfl rfl (p_val rfl (ev_load Tryz.isAgg3 rfl rfl) (.on rfl rfl (beq_eq rfl)) rfl rfl (p_val rfl (ev_cmp rfl rfl rfl) (.on rfl rfl (beq_eq rfl)) rfl rfl (kPv (ev_pick_t rfl rfl rfl) rfl ?_)))))))))))
  refine kPm rfl rfl (p_val rfl (ev_fa (m := _) fa_95_1 rfl rfl) (.on rfl rfl (beq_eq rfl)) rfl rfl (p_val rfl (ev_load Tryz.isAgg3 rfl rfl) (.on rfl rfl (beq_eq rfl)) rfl rfl (p_val rfl (ev_cmp rfl rfl rfl) (.on rfl rfl (beq_eq rfl)) rfl rfl (kPv (ev_pick_t rfl rfl rfl) rfl (kPm rfl rfl (p_val rfl (ev_fa (m := _) fa_95_2 rfl rfl) (.on rfl rfl (beq_eq rfl)) rfl rfl (p_val rfl (ev_load Tryz.isAgg25 rfl rfl) (.on rfl rfl (beq_eq rfl)) rfl rfl (p_val rfl (ev_len rfl Tryz.runUnderlying25 ⟨_, rfl⟩ rfl) (.on rfl rfl (beq_eq rfl)) rfl rfl (p_val rfl (ev_cmp rfl rfl rfl) (.on rfl rfl (beq_eq rfl)) rfl rfl (kPv (ev_pick_t rfl rfl rfl) rfl (kPm rfl rfl ?_)))))))))))
  refine p_val rfl (ev_loadA Tryz.isAgg95 Tryz.sizeOf95 rfl rfl) (.on rfl rfl (beq_eq rfl)) rfl rfl ?_
  refine p_val rfl (ev_loadA Tryz.isAgg40 Tryz.sizeOf40 rfl rfl) (.on rfl rfl (beq_eq rfl)) rfl rfl ?_
  refine p_callq rfl (en_f Tryz.call112 rfl) (place_ok _ _ ⟨3, 1, 8⟩ cfg1 ⟨0, 0, [0]⟩ _ ⟨⟨by decide, by decide⟩, ⟨by decide, by decide⟩⟩ hsv 3 (by decide)) (.on rfl rfl (beq_eq rfl)) rfl rfl ?_
  refine p_val rfl (ev_cmp rfl rfl rfl) (.on rfl rfl (beq_eq rfl)) rfl rfl (kPv (ev_pick_t rfl rfl rfl) rfl (kPa rfl rfl (p_nil (go_sb [0] rfl (g_ret ?_)))))
  exact ret_tmp Tryz.results212 rfl (fun w hh => ⟨rfl, (hh.dp [0, 0, 0, 0])⟩)
theorem awake9_ok (B : World) (Fr : List HP) :
    ∀ w, Holds B Fr w → Calls Tryz.prog 211 [].toArray w (PureR B Fr (.bool true)) := by
  refine fn_enter Tryz.func211 rfl Tryz.ntmps211 rfl (g_seq (g_region (kPa rfl rfl (p_nil (g_seq (g_seq (g_region (p_callq rfl (en_f Tryz.call212 rfl) (awake8_ok _ _) .free rfl rfl ?_))))))))
  refine kPv (ev_not rfl) rfl (p_nil (g_iff rfl (rfl) (g_skip (g_seq (g_region (kPv (ev_build rfl (bld_40_0_1_2 _ _ _ rfl rfl rfl)) rfl (p_chg rfl (ch_allocA Tryz.zeroValue40 rfl) .free rfl rfl ?_)))))))
  rintro _ _ ⟨b1, rfl, rfl⟩
  refine p_chg0 rfl (ch_storeA (vs := _) Tryz.sizeOf40 rfl rfl rfl rfl rfl) .free rfl ?_
  rintro _ _ rfl
  refine p_nil (g_seq (g_region (kPv (ev_loadA Tryz.isAgg40 Tryz.sizeOf40 rfl rfl) rfl ?_)))
  refine p_call rfl (en_f Tryz.call49 rfl) (formatted_ok _ _ ⟨3, 1, 8⟩ cfg1 none 0 [] (by decide) (fun _ h => absurd h (Nat.not_lt_zero _)) SlR.nil) .free rfl rfl ?_ ?_
  rotate_left
  · rintro _ _ ⟨⟩
  rintro _ _ ⟨bd, pa, N, s0, hN, hf, rfl, rfl⟩
  obtain rfl : N = 56 := by have : (N : Int) = 56 := hN.trans (by decide); omega
  have hfm := fmt_of cfg1 hN hf
  have hu0 := format_u64 (dev0_u64 pa 56) cfg1 hf
  refine kPm rfl rfl (kPv (ev_ext rfl rfl) rfl (kPv (ev_ext rfl rfl) rfl (kPa rfl rfl (kPa rfl rfl (p_nil (go_sb [3, 2, 1, 0] rfl (g_seq (g_seq (g_region (kPm rfl rfl (kPv (ev_not rfl) rfl ?_)))))))))))
  refine p_nil (g_iff rfl (rfl) (g_skip (g_seq (g_region (kPm rfl rfl (kPv (ev_loadA Tryz.isAgg40 Tryz.sizeOf40 rfl rfl) rfl ?_))))))
  refine kPv (ev_build rfl (bld_38_0 _ rfl)) rfl (kPm rfl rfl (kPv (ev_mkf rfl rfl) rfl ?_))
  refine p_call rfl (en_f Tryz.call55 rfl) (allocD_ok _ _ bd ⟨3, 1, 8⟩ cfg1 2 0 s0 hfm.lim hu0) .free rfl rfl ?_ ?_
  rotate_left
  · rintro _ _ ⟨⟩
  rintro _ _ ⟨x1, s1, hm1, rfl, hl1, hn1, hu1, rfl⟩
  have hev := okB_ok (okB_ok (d9_eval pa) hf) hm1
  simp only [Bool.and_eq_true] at hev
  rw [prIs_eq hev.1]
  refine kPm rfl rfl (kPv (ev_ext rfl rfl) rfl (kPv (ev_ext rfl rfl) rfl (kPa rfl rfl (kPa rfl rfl (p_nil (go_sb [5, 4, 2, 1, 0] rfl (g_seq (g_region (kPm rfl rfl (kPv (ev_loadA Tryz.isAgg40 Tryz.sizeOf40 rfl rfl) rfl ?_))))))))))
  refine kPv (ev_build rfl (bld_38_0 _ rfl)) rfl (kPm rfl rfl (kPv (ev_mkf rfl rfl) rfl ?_))
  refine p_call rfl (en_f Tryz.call55 rfl) (allocD_ok _ _ bd ⟨3, 1, 8⟩ cfg1 5 0 s1 hl1 hu1) .free rfl rfl ?_ ?_
  rotate_left
  · rintro _ _ ⟨⟩
  rintro _ _ ⟨x2, s2, hm2, rfl, hl2, hn2, hu2, rfl⟩
  rw [show x2 = ((0 : Int), (4 : Int)) from prIs_eq (okB_ok hev.2 hm2)]
  refine kPm rfl rfl (kPv (ev_ext rfl rfl) rfl (kPv (ev_ext rfl rfl) rfl (kPa rfl rfl (kPa rfl rfl (p_nil (go_sb [7, 5, 4, 1, 0] rfl (g_seq (g_region (kPm rfl rfl (kPv (ev_loadA Tryz.isAgg40 Tryz.sizeOf40 rfl rfl) rfl ?_))))))))))
  refine p_callq rfl (en_f Tryz.call140 rfl) (from_ok _ _ ⟨3, 1, 8⟩ cfg1 0 (by decide) (by decide)) .free rfl rfl ?_
  refine kPv (ev_cmp rfl rfl rfl) rfl (kPm rfl rfl (p_val rfl (ev_move rfl) (.on rfl rfl (beq_eq rfl)) rfl rfl (p_val rfl (ev_cmp rfl rfl rfl) (.on rfl rfl (beq_eq rfl)) rfl rfl (kPv (ev_pick_t rfl rfl rfl) rfl (kPm rfl rfl (p_val rfl (ev_move rfl) (.on rfl rfl (beq_eq rfl)) rfl rfl (p_val rfl (ev_cmp rfl rfl rfl) (.on rfl rfl (beq_eq rfl)) rfl rfl (kPv (ev_pick_t rfl rfl rfl) rfl (kPa rfl rfl (p_nil (go_sb [0] rfl ?_)))))))))))
  refine g_ret ?_
  exact ret_tmp Tryz.results211 rfl (fun w hh => ⟨rfl, (hh.dp [0, 0])⟩)
abbrev encH (h : Int × Int) : List Value := [u8 h.1, u8 h.2]
theorem encH_w : EncW 2 encH := ⟨fun _ => rfl, fun _ => rfl⟩
theorem hh1 {a b : Int} (h1 : 0 ≤ a ∧ a < 256) (h2 : 0 ≤ b ∧ b < 256) : ∀ h ∈ [(a, b)], (0 ≤ h.1 ∧ h.1 < 256) ∧ (0 ≤ h.2 ∧ h.2 < 256) := fun h hm => by rw [List.mem_singleton.1 hm]; exact ⟨h1, h2⟩
theorem sln1 {B : World} {H : List HP} {b : Nat} {x y : Value} {T1 : TypeId} {U : List Value → List HP} [RowU H b [x, y] T1 U] {cap : Nat} : SlN B H (.slice (some ⟨b, 0, none⟩) 1 cap) 2 [[x, y]] :=
  SlN.row (cs := [[x, y]]) fun i c h => by
    cases i with
    | zero => cases h; exact ⟨rfl, fun j _ => by rw [Nat.zero_mul, Nat.zero_add, Nat.zero_add]⟩
    | succ i => cases h
theorem awake10_ok (B : World) (Fr : List HP) :
    ∀ w, Holds B Fr w → Calls Tryz.prog 209 [].toArray w (PureR B Fr (.bool true)) := by
  refine fn_enter Tryz.func209 rfl Tryz.ntmps209 rfl (g_seq (g_region (kPa rfl rfl (p_nil (g_seq (g_seq (g_region (p_callq rfl (en_f Tryz.call211 rfl) (awake9_ok _ _) .free rfl rfl ?_))))))))
  refine kPv (ev_not rfl) rfl (p_nil (g_iff rfl (rfl) (g_skip (g_seq (g_region (kPv (ev_build rfl (bld_24_2 _ rfl)) rfl (kPv (ev_build rfl (bld_209_0_1 _ _ rfl rfl)) rfl (p_chg rfl (ch_bsG encH_w (v := (1, 2)) Tryz.runUnderlying210 Tryz.sizeOf209 Tryz.zeroValue209 ⟨⟨by decide, by decide⟩, rfl⟩ rfl rfl) .free rfl rfl ?_))))))))
  rintro _ _ ⟨b17, rfl, rfl⟩
  refine p_call rfl (en_f Tryz.call181 rfl) (filled_ok _ _ 0 0 40 ⟨by decide, by decide, by decide⟩ ⟨3, 1, 48⟩ mkC48 [(1, 2)] (hh1 ⟨by decide, by decide⟩ ⟨by decide, by decide⟩) (by decide) (some ⟨b17, 0, none⟩) 1 sln1) .free rfl rfl ?_ ?_
  rotate_left
  · rintro _ _ ⟨⟩
  rintro _ _ ⟨bd, pa, N, s0, sF, out, ov, sv, hfm, hN, ⟨hus0, hf⟩, hfill, huF, hlF, hnF, hov, hsv, rfl, rfl⟩
  obtain rfl := n48 hN
  have hev := okB_ok (okB_ok (d10_eval pa) hf) hfill
  simp only [Bool.and_eq_true, beq_iff_eq] at hev
  obtain ⟨⟨⟨⟨rfl, e1⟩, e2⟩, e3⟩, e4⟩ := hev
  rw [blkIs_eq e1]
  refine go_pk [2] (go_vecq fun qo co hqo hqi => ?_)
  subst hqo
  obtain ⟨bO, oO, rfl⟩ := hqi 0 (by decide)
  have ho : ObjW (2, 1, 40) := ⟨⟨by decide, by decide⟩, ⟨by decide, by decide⟩, ⟨by decide, by decide⟩⟩
  refine kPm rfl rfl (kPv (ev_ext rfl rfl) rfl (kPv (ev_ext rfl rfl) rfl (kPv (ev_ext rfl rfl) rfl (kPv (ev_ext rfl rfl) rfl (p_chg rfl (ch_allocA Tryz.zeroValue40 rfl) .free rfl rfl ?_)))))
  rintro _ _ ⟨b2, rfl, rfl⟩
  refine p_chg rfl (ch_allocA Tryz.zeroValue95 rfl) .free rfl rfl ?_
  rintro _ _ ⟨b3, rfl, rfl⟩
  refine kPa rfl rfl (p_chg0 rfl (ch_storeA (vs := _) Tryz.sizeOf40 rfl rfl rfl rfl rfl) .free rfl ?_)
  rintro _ _ rfl
  refine p_chg0 rfl (ch_storeA (vs := _) Tryz.sizeOf95 rfl rfl rfl (by first | rfl | exact all3 (by assumption)) rfl) .free rfl ?_
  rintro _ _ rfl
  refine kPa rfl rfl (p_nil (go_sb [4, 1, 3, 2, 0] rfl (g_seq (g_seq (g_region (kPm rfl rfl (kPv (ev_eqp Tryz.runUnderlying28 rfl rfl rfl) rfl (kPm rfl rfl (p_val rfl (ev_move rfl) (.on rfl rfl (beq_eq rfl)) rfl rfl (p_val rfl (ev_len rfl Tryz.runUnderlying125 ⟨_, rfl⟩ rfl) (.on rfl rfl (beq_eq rfl)) rfl rfl (p_val rfl (ev_cmp rfl rfl rfl) (.on rfl rfl (beq_eq rfl)) rfl rfl ?_)))))))))))
  refine kPv (ev_pick_f rfl rfl rfl) rfl (p_nil (g_iff rfl (rfl) (g_skip (g_seq (go_conv (H' := VecA 3 i64 0 (.slice (some ⟨bO, oO, none⟩) 1 co, [40]) :: row b3 [i64 0, i64 3, sv] 95 :: row b2 [i64 3, i64 1, i64 48] 40 :: VecU 0 (sv, [0]) :: DevA bd sF :: Fr) (fun w hh => by have h := ((hh.dp [5]).pk [2]); exact h) ?_)))))
  refine g_drawT (.br [0, 1, 2, 3, 4, 5] 6 (.fin [7, 8, 9, 10, 11, 12]) 10 (.fin [6, 7, 8, 9, 11, 12])) [6, 10, 11] [0, 1, 2, 3, 4, 5, 7, 8, 9] [10, 11] [row b2 [i64 3, i64 1, i64 48] 40, row b3 [i64 0, i64 3, sv] 95, VecA 3 i64 0 (.slice (some ⟨bO, oO, none⟩) 1 co, [40])] [1, 0] (G := Nat) (fun b5 => [(5, ptr b5), (6, i64 (sF.objOf ⟨3, 1, 48⟩ ⟨0, 3, [0]⟩ 40).2)]) (fun b5 => row b5 [i64 (sF.objOf ⟨3, 1, 48⟩ ⟨0, 3, [0]⟩ 40).1.1, i64 (sF.objOf ⟨3, 1, 48⟩ ⟨0, 3, [0]⟩ 40).1.2.1, i64 (sF.objOf ⟨3, 1, 48⟩ ⟨0, 3, [0]⟩ 40).1.2.2] 105 :: VecA 3 i64 0 (.slice (some ⟨bO, oO, none⟩) 1 co, [40]) :: row b3 [i64 0, i64 3, sv] 95 :: row b2 [i64 3, i64 1, i64 48] 40 :: VecU 0 (sv, [0]) :: DevA bd sF :: Fr) Tryz.mixed (by kernel_rfl) ?_ ?_
  · skip
    refine t_br (v_hoist rfl rfl rfl (ev_move rfl) .free rfl (v_hoist rfl rfl rfl (ev_loadA Tryz.isAgg40 Tryz.sizeOf40 rfl rfl) .free rfl ?_))
    refine v_hoist rfl rfl rfl (ev_loadA Tryz.isAgg95 Tryz.sizeOf95 rfl rfl) .free rfl ?_
    refine v_hoist rfl rfl rfl (ev_move rfl) .free rfl (v_hoist rfl rfl rfl (ev_iaS Tryz.runUnderlying125 Tryz.sizeOf3 rfl rfl (by decide) (by decide)) .free rfl (v_hoist rfl rfl rfl (ev_loadS (v := i64 40) Tryz.isAgg3 (vec_slr 2 rfl) rfl rfl) .free rfl (v_nil ?_)))
    refine t_two rfl rfl ?_ ?_
    · skip
      refine p_callq rfl (en_f Tryz.call122 rfl) (ro_at (q := DevA) (fun Fr => obj_ok _ Fr _ _ ⟨3, 1, 48⟩ cfg48 ⟨0, 3, [0]⟩ sv ⟨⟨by decide, by decide⟩, ⟨by decide, by decide⟩⟩ hsv 40 (by decide))) .free rfl rfl ?_
      refine p_nil (t_off rfl (t_fin (v_hoist rfl rfl rfl (ev_move rfl) .free rfl (v_hoist rfl rfl rfl (ev_ext rfl rfl) .free rfl (v_hoist rfl rfl rfl (ev_ext rfl rfl) .free rfl (v_mark rfl rfl (p_chg rfl (ch_allocA Tryz.zeroValue105 rfl) .free rfl rfl ?_)))))))
      rintro _ _ ⟨b5, rfl, rfl⟩
      refine p_nil (v_on (v_mark rfl rfl (p_chg0 rfl (ch_storeA (vs := _) Tryz.sizeOf105 rfl rfl rfl rfl rfl) .free rfl ?_)))
      rintro _ _ rfl
      refine p_nil (v_on (v_val rfl rfl rfl (ev_assign rfl) .free rfl (v_nil ?_)))
      exact fun a w st_ => ⟨b5, st_.to (sub_r rfl) (fun hh => hh)⟩
    · skip
      refine p_chg rfl (ch_allocA Tryz.zeroValue105 rfl) .free rfl rfl ?_
      rintro _ _ ⟨b5, rfl, rfl⟩
      refine p_nil (t_on (t_fin (v_mark rfl rfl (p_callq rfl (en_f Tryz.call122 rfl) (ro_at (q := DevA) (fun Fr => obj_ok _ Fr _ _ ⟨3, 1, 48⟩ cfg48 ⟨0, 3, [0]⟩ sv ⟨⟨by decide, by decide⟩, ⟨by decide, by decide⟩⟩ hsv 40 (by decide))) .free rfl rfl ?_))))
      refine p_nil (v_off rfl (v_hoist rfl rfl rfl (ev_move rfl) .free rfl (v_hoist rfl rfl rfl (ev_ext rfl rfl) .free rfl (v_hoist rfl rfl rfl (ev_ext rfl rfl) .free rfl (v_mark rfl rfl (p_chg0 rfl (ch_storeA (vs := _) Tryz.sizeOf105 rfl rfl rfl rfl rfl) .free rfl ?_))))))
      rintro _ _ rfl
      refine p_nil (v_on (v_val rfl rfl rfl (ev_assign rfl) .free rfl (v_nil ?_)))
      exact fun a w st_ => ⟨b5, st_.to (sub_r rfl) (fun hh => hh)⟩
  intro b5
  refine go_sub (σ' := [(5, ptr b5), (6, i64 (sF.objOf ⟨3, 1, 48⟩ ⟨0, 3, [0]⟩ 40).2), (1, _), (0, _)]) (sub_r rfl) (g_seq ?_)
  rw [show sF.objOf ⟨3, 1, 48⟩ ⟨0, 3, [0]⟩ 40 = (((2 : Int), (1 : Int), (40 : Int)), (0 : Int)) from obIs_eq e2]
  refine g_region (kPv (ev_loadA Tryz.isAgg105 Tryz.sizeOf105 rfl rfl) rfl ?_)
  refine kPm rfl rfl (p_callq rfl (en_f Tryz.call72 rfl) (ro_at (q := DevA) (fun Fr => oread_ok _ Fr _ _ (2, 1, 40) ho 0)) .free rfl rfl ?_)
  refine kPm rfl rfl (kPv (ev_ext rfl rfl) rfl (kPv (ev_ext rfl rfl) rfl (kPa rfl rfl (kPa rfl rfl (p_nil (go_sb [8, 5, 6, 1, 0] rfl (g_seq (g_region (kPv (ev_loadA Tryz.isAgg105 Tryz.sizeOf105 rfl rfl) rfl ?_)))))))))
  refine kPm rfl rfl (kPv (ev_mkf rfl rfl) rfl (go_pk [5] ?_))
  refine p_call rfl (en_f Tryz.call61 rfl) (owriteD_ok B _ bd (2, 1, 40) ho 1 9 (by decide) sF hlF huF) .free rfl rfl ?_ ?_
  rotate_left
  · rintro _ _ ⟨⟩
  rintro _ _ ⟨x2, s2, hm2, rfl, hl2, hn2, hu2, rfl⟩
  have hev2 := okB_ok e4 hm2
  simp only [Bool.and_eq_true, beq_iff_eq] at hev2
  obtain ⟨f1, f2⟩ := hev2
  obtain rfl : x2 = 0 := f1
  refine kPa rfl rfl (p_nil (g_seq (g_region (kPv (ev_loadA Tryz.isAgg105 Tryz.sizeOf105 rfl rfl) rfl ?_))))
  refine kPm rfl rfl (p_callq rfl (en_f Tryz.call72 rfl) (ro_at (q := DevA) (fun Fr => oread_ok _ Fr _ _ (2, 1, 40) ho 1)) .free rfl rfl ?_)
  refine kPm rfl rfl (kPv (ev_ext rfl rfl) rfl (kPv (ev_ext rfl rfl) rfl (kPa rfl rfl (kPa rfl rfl (p_nil (go_sb [11, 10, 9, 8, 5, 6, 1, 0] rfl (g_seq ?_)))))))
  rw [show sF.objRead (2, 1, 40) 0 = ((0 : Int), (5 : Int)) from prIs_eq e3, show s2.objRead (2, 1, 40) 1 = ((9 : Int), (0 : Int)) from prIs_eq f2]
  refine g_region (kPm rfl rfl (kPv (ev_cmp rfl rfl rfl) rfl (kPm rfl rfl (p_val rfl (ev_move rfl) (.on rfl rfl (beq_eq rfl)) rfl rfl (p_val rfl (ev_cmp rfl rfl rfl) (.on rfl rfl (beq_eq rfl)) rfl rfl (kPv (ev_pick_t rfl rfl rfl) rfl (kPm rfl rfl (p_val rfl (ev_move rfl) (.on rfl rfl (beq_eq rfl)) rfl rfl (p_val rfl (ev_cmp rfl rfl rfl) (.on rfl rfl (beq_eq rfl)) rfl rfl (kPv (ev_pick_t rfl rfl rfl) rfl (kPm rfl rfl ?_)))))))))))
  refine p_val rfl (ev_move rfl) (.on rfl rfl (beq_eq rfl)) rfl rfl (p_val rfl (ev_cmp rfl rfl rfl) (.on rfl rfl (beq_eq rfl)) rfl rfl (kPv (ev_pick_t rfl rfl rfl) rfl (kPm rfl rfl (p_val rfl (ev_move rfl) (.on rfl rfl (beq_eq rfl)) rfl rfl (p_val rfl (ev_cmp rfl rfl rfl) (.on rfl rfl (beq_eq rfl)) rfl rfl (kPv (ev_pick_t rfl rfl rfl) rfl (kPm rfl rfl (p_val rfl (ev_loadA Tryz.isAgg105 Tryz.sizeOf105 rfl rfl) (.on rfl rfl (beq_eq rfl)) rfl rfl ?_))))))))
  refine p_val rfl (ev_move rfl) (.on rfl rfl (beq_eq rfl)) rfl rfl ?_
  refine p_call rfl (en_f Tryz.call173 rfl) (onames_ok _ _ (2, 1, 40) bd) (.on rfl rfl (beq_eq rfl)) rfl rfl ?_ ?_
  rotate_left
  · rintro _ _ ⟨⟩
  rintro _ _ ⟨n1, n2, rfl, rfl⟩
  refine p_val rfl (ev_eqfn Tryz.runUnderlying222 ⟨_, _, _, rfl⟩ rfl rfl rfl) (.on rfl rfl (beq_eq rfl)) rfl rfl (kPv (ev_pick_t rfl rfl rfl) rfl (kPa rfl rfl (p_nil (go_sb [0] rfl (g_ret ?_)))))
  exact ret_tmp Tryz.results209 rfl (fun w hh => ⟨rfl, (hh.dp [0, 0, 0, 0, 0, 0, 0, 0])⟩)
theorem awake11_ok (B : World) (Fr : List HP) :
    ∀ w, Holds B Fr w → Calls Tryz.prog 202 [].toArray w (PureR B Fr (.bool true)) := by
  refine fn_enter Tryz.func202 rfl Tryz.ntmps202 rfl (g_seq (g_region (kPa rfl rfl (p_nil (g_seq (g_seq (g_region (p_callq rfl (en_f Tryz.call209 rfl) (awake10_ok _ _) .free rfl rfl ?_))))))))
  refine kPv (ev_not rfl) rfl (p_nil (g_iff rfl (rfl) (g_skip (g_seq (g_region (kPv (ev_build rfl (bld_24_2 _ rfl)) rfl (kPv (ev_build rfl (bld_209_1 _ rfl)) rfl (p_chg rfl (ch_bsG encH_w (v := (0, 1)) Tryz.runUnderlying210 Tryz.sizeOf209 Tryz.zeroValue209 ⟨⟨by decide, by decide⟩, rfl⟩ rfl rfl) .free rfl rfl ?_))))))))
  rintro _ _ ⟨b12, rfl, rfl⟩
  refine p_call rfl (en_f Tryz.call162 rfl) (linked_ok _ _ 0 0 40 ⟨by decide, by decide, by decide⟩ ⟨3, 1, 48⟩ mkC48 [(0, 1)] (hh1 ⟨by decide, by decide⟩ ⟨by decide, by decide⟩) (by decide) (some ⟨b12, 0, none⟩) _ sln1 none 0 [] SlR.nil (fun _ h => (by cases h)) (by decide) (fun _ h => absurd h (Nat.not_lt_zero _)) 0 (by decide)) .free rfl rfl ?_ ?_
  rotate_left
  · rintro _ _ ⟨⟩
  rintro _ _ ⟨bd, pa, N, s0, sF, out, hfm, hN, ⟨hus0, hf⟩, hfill, hor⟩
  obtain rfl := n48 hN
  have hev := okB_ok (okB_ok (d11_eval pa) hf) hfill
  simp only [Bool.and_eq_true, beq_iff_eq] at hev
  obtain ⟨⟨rfl, e1⟩, e2⟩ := hev
  rw [blkIs_eq e1] at hor
  rcases hor with ⟨n1, n2, s1, s2, ov, sv, hl1, hl2, hu2, hlm2, hn2, hov, hsv, rfl, rfl⟩ | ⟨s1, hl1, _⟩
  rotate_left
  · have e3 := okB_ok e2 hl1
    simp only [Bool.and_eq_true, beq_iff_eq] at e3
    exact absurd e3.1 (by simp)
  have e3 := okB_ok e2 hl1
  simp only [Bool.and_eq_true, beq_iff_eq] at e3
  obtain ⟨e4, e5⟩ := e3
  obtain rfl : n1 = 0 := by injection e4
  have e6 := okB_ok e5 hl2
  simp only [Bool.and_eq_true, beq_iff_eq] at e6
  obtain ⟨⟨e7, e8⟩, e9⟩ := e6
  rw [blkIs_eq e7]
  refine go_pk [2] (go_vecq fun qo co hqo hqi => ?_)
  subst hqo
  obtain ⟨bO, oO, rfl⟩ := hqi 0 (by decide)
  refine kPm rfl rfl (kPv (ev_ext rfl rfl) rfl (kPv (ev_ext rfl rfl) rfl (kPv (ev_ext rfl rfl) rfl (kPv (ev_ext rfl rfl) rfl (p_chg rfl (ch_allocA Tryz.zeroValue40 rfl) .free rfl rfl ?_)))))
  rintro _ _ ⟨b2, rfl, rfl⟩
  refine p_chg rfl (ch_allocA Tryz.zeroValue95 rfl) .free rfl rfl ?_
  rintro _ _ ⟨b3, rfl, rfl⟩
  refine kPa rfl rfl (p_chg0 rfl (ch_storeA (vs := _) Tryz.sizeOf40 rfl rfl rfl rfl rfl) .free rfl ?_)
  rintro _ _ rfl
  refine p_chg0 rfl (ch_storeA (vs := _) Tryz.sizeOf95 rfl rfl rfl (by first | rfl | exact all3 (by assumption)) rfl) .free rfl ?_
  rintro _ _ rfl
  refine kPa rfl rfl (p_nil (go_sb [4, 1, 3, 2, 0] rfl (g_seq (g_seq (g_region (kPm rfl rfl (kPv (ev_eqp Tryz.runUnderlying28 rfl rfl rfl) rfl (kPm rfl rfl (p_val rfl (ev_move rfl) (.on rfl rfl (beq_eq rfl)) rfl rfl (p_val rfl (ev_loadA Tryz.isAgg40 Tryz.sizeOf40 rfl rfl) (.on rfl rfl (beq_eq rfl)) rfl rfl ?_))))))))))
  refine p_val rfl (ev_loadA Tryz.isAgg95 Tryz.sizeOf95 rfl rfl) (.on rfl rfl (beq_eq rfl)) rfl rfl ?_
  refine p_call rfl (en_f Tryz.call136 rfl) (wobjs_ok _ _ bd ⟨3, 1, 48⟩ ⟨0, 2, [0]⟩ sv hsv) (.on rfl rfl (beq_eq rfl)) rfl rfl ?_ ?_
  rotate_left
  · rintro _ _ ⟨⟩
  rintro _ _ ⟨c3, c4, c5, rfl, rfl⟩
  refine p_val rfl (ev_eqfn Tryz.runUnderlying183 ⟨_, _, _, rfl⟩ rfl rfl rfl) (.on rfl rfl (beq_eq rfl)) rfl rfl (kPv (ev_pick_f rfl rfl rfl) rfl (p_nil (go_sb [26, 4, 1, 3, 2, 0] rfl (g_iff rfl (rfl) (g_skip (g_seq (g_region (kPm rfl rfl (kPv (ev_loadA Tryz.isAgg40 Tryz.sizeOf40 rfl rfl) rfl ?_)))))))))
  refine kPv (ev_loadA Tryz.isAgg95 Tryz.sizeOf95 rfl rfl) rfl ?_
  refine go_pk [7] ?_
  refine p_call rfl (en_f Tryz.call133 rfl) (wstarts_ok _ _ bd s2 ⟨3, 1, 48⟩ cfg48 ⟨0, 2, [0]⟩ sv ⟨⟨by decide, by decide⟩, ⟨by decide, by decide⟩⟩ hsv) .free rfl rfl ?_ ?_
  rotate_left
  · rintro _ _ ⟨⟩
  rintro _ _ ⟨mb, rfl, rfl⟩
  rw [e8, e9]
  refine kPm rfl rfl (kPv (ev_ext rfl rfl) rfl (kPv (ev_ext rfl rfl) rfl (kPa rfl rfl (kPa rfl rfl (p_nil (go_sb [6, 5, 4, 0] rfl (g_seq (g_region (kPm rfl rfl (kPv (ev_cmp rfl rfl rfl) rfl (kPm rfl rfl ?_)))))))))))
  refine p_val rfl (ev_move rfl) (.on rfl rfl (beq_eq rfl)) rfl rfl (p_val rfl (ev_lenM rfl Tryz.runUnderlying176 rfl) (.on rfl rfl (beq_eq rfl)) rfl rfl (p_val rfl (ev_cmp rfl rfl rfl) (.on rfl rfl (beq_eq rfl)) rfl rfl (kPv (ev_pick_t rfl rfl rfl) rfl (kPm rfl rfl (p_val rfl (ev_move rfl) (.on rfl rfl (beq_eq rfl)) rfl rfl (p_val rfl (ev_len rfl Tryz.runUnderlying125 ⟨_, rfl⟩ rfl) (.on rfl rfl (beq_eq rfl)) rfl rfl (p_val rfl (ev_cmp rfl rfl rfl) (.on rfl rfl (beq_eq rfl)) rfl rfl (kPv (ev_pick_t rfl rfl rfl) rfl (kPm rfl rfl (p_val rfl (ev_move rfl) (.on rfl rfl (beq_eq rfl)) rfl rfl (p_val rfl (ev_move rfl) (.on rfl rfl (beq_eq rfl)) rfl rfl ?_)))))))))))
  refine p_val rfl (ev_iaS Tryz.runUnderlying125 Tryz.sizeOf3 rfl rfl (by decide) (by decide)) (.on rfl rfl (beq_eq rfl)) rfl rfl (p_val rfl (ev_loadS (v := i64 40) Tryz.isAgg3 (vec_slr 7 rfl) rfl rfl) (.on rfl rfl (beq_eq rfl)) rfl rfl (p_val rfl ((ev_lookup1 Tryz.runUnderlying176 Tryz.runUnderlying3 Tryz.zeroValue105 rfl rfl).eq (mval_o _)) (.on rfl rfl (beq_eq rfl)) rfl rfl (p_val rfl (ev_fieldA Tryz.runUnderlying105 (t := 38) (off := 0) rfl Tryz.isAgg38 Tryz.sizeOf38 rfl) (.on rfl rfl (beq_eq rfl)) rfl rfl (p_val rfl (ev_field1 Tryz.runUnderlying38 (t := 3) (off := 0) rfl Tryz.isAgg3 rfl rfl) (.on rfl rfl (beq_eq rfl)) rfl rfl (p_val rfl (ev_cmp rfl rfl rfl) (.on rfl rfl (beq_eq rfl)) rfl rfl (kPv (ev_pick_t rfl rfl rfl) rfl (kPa rfl rfl (p_nil (go_sb [0] rfl (g_ret ?_))))))))))
  exact ret_tmp Tryz.results202 rfl (fun w hh => ⟨rfl, (hh.dp [0, 0, 0, 0, 0, 0, 0, 0, 0, 0])⟩)
end Go.Proofs.YtlcibdhmgclfjaaGreat
namespace Go.Proofs.YtlcibdhmgclfjaaGreat
open Go
def hs2 : List (Int × Int) := [(0, 1), (0, 2)]
theorem hh2 : ∀ h ∈ [((0 : Int), (1 : Int)), (0, 2)], (0 ≤ h.1 ∧ h.1 < 256) ∧ (0 ≤ h.2 ∧ h.2 < 256) := fun h hm => by
  simp only [List.mem_cons, List.not_mem_nil, or_false] at hm
  rcases hm with rfl | rfl <;> exact ⟨by decide, by decide⟩
theorem sln2 {B : World} {H : List HP} {b : Nat} {x y z u : Value} {T1 : TypeId} {U : List Value → List HP} [RowU H b [x, y, z, u] T1 U] {cap : Nat} : SlN B H (.slice (some ⟨b, 0, none⟩) 2 cap) 2 [[x, y], [z, u]] :=
  SlN.row (cs := [[x, y], [z, u]]) fun i c h => by
    cases i with
    | zero =>
      cases h
      refine ⟨rfl, fun j hj => ?_⟩
      rcases j with _ | _ | j
      · rfl
      · rfl
      · omega
    | succ i =>
      cases i with
      | zero =>
        cases h
        refine ⟨rfl, fun j hj => ?_⟩
        rcases j with _ | _ | j
        · rfl
        · rfl
        · omega
      | succ i => cases h
theorem ch_bsG2 {α : Type} {B : World} {σ : Env} {H : List HP} {P : Program} {m : Nat} {enc : α → List Value} (he : EncW m enc) {d : Option Tmp} {ty : TypeId} {p : String} {af : Array Edge} {g : Option (Nat × Bool)} {t e : TypeId} {x y : Operand} {v u : α} {xv yv z : Value} (ht : ∀ w, (underlying t).run P w = .ok (.slice e) w) (hs : ∀ w, (sizeOf e).run P w = .ok m w) (hz : ∀ w, (zeroValue e).run P w = .ok z w) (hm0 : (0 < m ∧ m ≤ 1000) ∧ z.cells.size = m) (hx : evO σ x = some xv) (hv : xv.cells = (enc v).toArray) (hy : evO σ y = some yv) (hu : yv.cells = (enc u).toArray) :
    Chg P B σ H ⟨d, .buildSlice t 2 #[(0, x), (1, y)], ty, p, af, g⟩ (fun r H' => ∃ b, r = .slice (some ⟨b, 0, none⟩) 2 2 ∧ H' = row b (enc v ++ enc u) e :: H) := by
  intro a w kn hh
  refine ⟨.value (.slice (some ⟨w.heap.size, 0, none⟩) 2 2), { w with heap := w.heap.push (.cells (enc v ++ enc u).toArray e) }, ?_, _, .inl rfl, _, ⟨_, rfl, rfl⟩, by simpa [row] using hh.new _⟩
  have h1 : m ≠ 0 := by omega
  have h2 : ¬ 16777216 < 2 * m := by omega
  have hl : (enc v).length = m := he.len v
  have hl2 : (enc u).length = m := he.len u
  have key : ∀ (k : Nat) (vs : List Value) (a : Array Value) (j : Nat), k + vs.length ≤ a.size → (List.foldl (fun (cs : Array Value) (x : Value × Nat) => cs.setIfInBounds (k + x.2) x.1) a vs.zipIdx)[j]? = if k ≤ j ∧ j < k + vs.length then vs[j - k]? else a[j]? := by
    intro k vs a j h
    have := foldl_get vs k a h j
    rw [← this]
    congr 1
    have hz : vs.zipIdx k = vs.zipIdx.map fun x => (x.1, k + x.2) := by
      apply List.ext_getElem?
      intro i
      simp [List.getElem?_zipIdx]
      cases vs[i]? <;> simp
    rw [hz, List.foldl_map]
  have hsz : ∀ (g : Nat → Nat) (l : List (Value × Nat)) (a : Array Value), (List.foldl (fun (cs : Array Value) (x : Value × Nat) => cs.setIfInBounds (g x.2) x.1) a l).size = a.size := by
    intro g l
    induction l with
    | nil => intro a; rfl
    | cons x l ih => intro a; rw [List.foldl_cons, ih]; simp
  simp [execOp, Instr.buildSlice, ht, hs, Instr.fill, run_newRow, hz, kn.eval hx, hv, kn.eval hy, hu, h1, h2, hl, hl2]
  generalize hA : Array.map (fun x => z.cells[x % z.cells.size]!) (Array.range (2 * m)) = A
  have hAs : A.size = 2 * m := by rw [← hA]; simp
  rw [if_neg (by omega), if_neg (by omega), if_neg (by rw [hsz (fun x => x) _ A]; omega)]
  generalize hF : List.foldl (fun (cs : Array Value) (x : Value × Nat) => cs.setIfInBounds x.snd x.fst) A (enc v).zipIdx = F
  have hFs : F.size = 2 * m := by rw [← hF, hsz (fun x => x) _ A]; exact hAs
  have hF2 : ∀ j, F[j]? = if j < m then (enc v)[j]? else A[j]? := fun j => by
    have := foldl_get (enc v) 0 A (by omega) j
    rw [← hF, this]
    simp [hl]
  have e9 : List.foldl (fun (cs : Array Value) (x : Value × Nat) => cs.setIfInBounds (m + x.snd) x.fst) F (enc u).zipIdx = (enc v ++ enc u).toArray := by
    apply Array.ext_getElem?
    intro j
    rw [key m (enc u) F j (by omega), hF2, show (enc v ++ enc u).toArray[j]? = (enc v ++ enc u)[j]? by simp, List.getElem?_append, hl, hl2]
    by_cases h3 : j < m
    · rw [if_neg (by omega), if_pos h3, if_pos h3]
    · rw [if_neg h3]
      by_cases h4 : j < m + m
      · rw [if_pos (by omega), if_neg h3]
      · rw [if_neg (by omega), if_neg h3, List.getElem?_eq_none (by omega), Array.getElem?_eq_none (by omega)]
  simp only [e9]
  rfl
theorem d13_eval (pa : Nat) : okB ((dev0 pa [] 136).format c48) (fun _ s => okB (fillN c48 [(0, 1), (0, 2)] s []) fun out sF => out == [40, 42] && blkIs (sF.block c48) ⟨0, 5, [0]⟩ 0 && okB (linkObjs c48 ⟨0, 5, [0]⟩ (pickL [] [40, 42] 0) [40, 42] 0 sF) fun n1 s1 => n1 == some 0 && okB (linkRoots c48 (pickL [] [40, 42] 0) 1 0 0 s1) fun _ s2 => blkIs (s2.block c48) ⟨0, 5, [0]⟩ 0 && s2.reachSize c48 ⟨0, 5, [0]⟩ [] == 0 && s2.reachSize c48 ⟨0, 5, [0]⟩ [42] == 3) = true := by kernel_rfl
theorem d14_eval (pa bd : Nat) : okB ((dev0 pa [] 136).format c48) (fun _ s => okB (fillN c48 [(0, 1)] s []) fun out sF => out == [40] && blkIs (sF.block c48) ⟨0, 2, [0]⟩ 0 && okB (linkObjs c48 ⟨0, 2, [0]⟩ (pickL [] [40] 0) [40] 0 sF) fun n1 s1 => n1 == some 0 && okB (linkRoots c48 (pickL [] [40] 0) 1 0 0 s1) fun _ s2 => blkIs (s2.block c48) ⟨0, 2, [0]⟩ 0 && okB ((newCol bd c48 ⟨0, 2, [0]⟩ [0]).step s2) fun r s3 => !r.1 && okB (r.2.step s3) fun r2 _ => r2.1 && blkIs (r2.2.block, 0) ⟨1, 0, [0]⟩ 0) = true := by kernel_rfl
def went1 (o : Option ColS) (w v : Int) : Bool := match o with
  | some X => (mget X.went w).getD 0 == v
  | none => false
theorem d15_eval (pa bd : Nat) : okB ((dev0 pa [] 136).format c48) (fun _ s => okB (fillN c48 [(0, 1), (0, 2)] s []) fun out sF => out == [40, 42] && blkIs (sF.block c48) ⟨0, 5, [0]⟩ 0 && okB (linkObjs c48 ⟨0, 5, [0]⟩ (pickL [] [40, 42] 0) [40, 42] 0 sF) fun n1 s1 => n1 == some 0 && okB (linkRoots c48 (pickL [] [40, 42] 0) 1 0 0 s1) fun _ s2 => blkIs (s2.block c48) ⟨0, 5, [0]⟩ 0 && (openL bd c48 s2).n == 0 && okB (collectM bd c48 ⟨openL bd c48 s2, 0, 0, [], []⟩ s2 [42]) fun r s3 => r.2.1 == 0 && went1 r.1 42 88 && blkIs (s3.block c48) ⟨1, 3, [0]⟩ 0) = true := by kernel_rfl
theorem awake12_ok (B : World) (Fr : List HP) :
    ∀ w, Holds B Fr w → Calls Tryz.prog 189 [].toArray w (PureR B Fr (.bool true)) := by
  refine fn_enter Tryz.func189 rfl Tryz.ntmps189 rfl (g_seq (g_region (kPa rfl rfl (p_nil (g_seq (g_seq (g_region (p_callq rfl (en_f Tryz.call202 rfl) (awake11_ok _ _) .free rfl rfl ?_))))))))
  refine kPv (ev_not rfl) rfl (p_nil (g_iff rfl (rfl) (g_skip (g_seq (g_region (kPv (ev_build rfl (bld_40_0_1_2 _ _ _ rfl rfl rfl)) rfl (p_chg rfl (ch_allocA Tryz.zeroValue40 rfl) .free rfl rfl ?_)))))))
  rintro _ _ ⟨b1, rfl, rfl⟩
  refine p_chg0 rfl (ch_storeA (vs := _) Tryz.sizeOf40 rfl rfl rfl rfl rfl) .free rfl ?_
  rintro _ _ rfl
  refine p_nil (g_seq (g_region (kPv (ev_loadA Tryz.isAgg40 Tryz.sizeOf40 rfl rfl) rfl ?_)))
  refine p_call rfl (en_f Tryz.call49 rfl) (formatted_ok _ _ ⟨3, 1, 8⟩ cfg1 none 0 [] (by decide) (fun _ h => absurd h (Nat.not_lt_zero _)) SlR.nil) .free rfl rfl ?_ ?_
  rotate_left
  · rintro _ _ ⟨⟩
  rintro _ _ ⟨bd, pa, N, s0, hN, hf, rfl, rfl⟩
  obtain rfl : N = 56 := by have : (N : Int) = 56 := hN.trans (by decide); omega
  have hfm := fmt_of cfg1 hN hf
  have hu0 := format_u64 (dev0_u64 pa 56) cfg1 hf
  have hev := okB_ok (d12_eval pa) hf
  simp only [Bool.and_eq_true, beq_iff_eq] at hev
  refine kPm rfl rfl (kPv (ev_ext rfl rfl) rfl (kPv (ev_ext rfl rfl) rfl (kPa rfl rfl (kPa rfl rfl (p_nil (go_sb [3, 2, 1, 0] rfl (g_seq (g_seq (g_region (kPm rfl rfl (kPv (ev_not rfl) rfl ?_)))))))))))
  refine kPm rfl rfl (p_val rfl (ev_move rfl) (.on rfl rfl (beq_eq rfl)) rfl rfl (p_val rfl (ev_loadA Tryz.isAgg40 Tryz.sizeOf40 rfl rfl) (.on rfl rfl (beq_eq rfl)) rfl rfl ?_))
  refine p_callq rfl (en_f Tryz.call68 rfl) (ro_at (q := DevA) (fun Fr => ccheck_ok _ Fr _ s0 ⟨3, 1, 8⟩ cfg1 hu0)) (.on rfl rfl (beq_eq rfl)) rfl rfl ?_
  refine p_val rfl (ev_cmp rfl rfl rfl) (.on rfl rfl (beq_eq rfl)) rfl rfl (kPv (ev_pick_f rfl rfl rfl) rfl (p_nil (go_sb [19, 2, 1, 0] rfl (g_iff rfl (by rw [hev.1]; rfl) (g_skip (g_seq (g_region (kPm rfl rfl (kPv (ev_loadA Tryz.isAgg40 Tryz.sizeOf40 rfl rfl) rfl ?_)))))))))
  refine p_callq rfl (en_f Tryz.call59 rfl) (root_ok _ _ ⟨3, 1, 8⟩ cfg1 0 (by decide) (by decide)) .free rfl rfl ?_
  refine p_call rfl (en_f Tryz.call120 rfl) (nstoreL_ok _ _ bd s0 34 5 hfm.lim hu0 (by decide)) .free rfl rfl ?_ ?_
  rotate_left
  · rintro _ _ ⟨⟩
  rintro _ _ ⟨x1, s1, hm1, rfl, hl1, hn1, hu1, rfl⟩
  have hev2 := okB_ok hev.2 hm1
  simp only [beq_iff_eq] at hev2
  refine p_nil (g_seq (g_region (kPm rfl rfl (kPv (ev_loadA Tryz.isAgg40 Tryz.sizeOf40 rfl rfl) rfl ?_))))
  refine p_callq rfl (en_f Tryz.call68 rfl) (ro_at (q := DevA) (fun Fr => ccheck_ok _ Fr _ s1 ⟨3, 1, 8⟩ cfg1 hu1)) .free rfl rfl ?_
  refine kPv (ev_cmp rfl rfl rfl) rfl (kPa rfl rfl (p_nil (go_sb [0] rfl (g_ret ?_))))
  exact ret_tmp Tryz.results189 rfl (fun w hh => ⟨by rw [hev2]; rfl, (hh.dp [0, 0])⟩)
theorem awake13_ok (B : World) (Fr : List HP) :
    ∀ w, Holds B Fr w → Calls Tryz.prog 180 [].toArray w (PureR B Fr (.bool true)) := by
  refine fn_enter Tryz.func180 rfl Tryz.ntmps180 rfl (g_seq (g_region (kPa rfl rfl (p_nil (g_seq (g_seq (g_region (p_callq rfl (en_f Tryz.call189 rfl) (awake12_ok _ _) .free rfl rfl ?_))))))))
  refine kPv (ev_not rfl) rfl (p_nil (g_iff rfl (rfl) (g_skip (g_seq (g_region (kPv (ev_build rfl (bld_24_2 _ rfl)) rfl (kPv (ev_build rfl (bld_209_1 _ rfl)) rfl (kPv (ev_build rfl (bld_209_1 _ rfl)) rfl (p_chg rfl (ch_bsG2 encH_w (v := (0, 1)) (u := (0, 2)) Tryz.runUnderlying210 Tryz.sizeOf209 Tryz.zeroValue209 ⟨⟨by decide, by decide⟩, rfl⟩ rfl rfl rfl rfl) .free rfl rfl ?_)))))))))
  rintro _ _ ⟨b11, rfl, rfl⟩
  refine p_call rfl (en_f Tryz.call162 rfl) (linked_ok _ _ 0 0 40 ⟨by decide, by decide, by decide⟩ ⟨3, 1, 48⟩ mkC48 [(0, 1), (0, 2)] (hh2) (by decide) (some ⟨b11, 0, none⟩) _ sln2 none 0 [] SlR.nil (fun _ h => (by cases h)) (by decide) (fun _ h => absurd h (Nat.not_lt_zero _)) 0 (by decide)) .free rfl rfl ?_ ?_
  rotate_left
  · rintro _ _ ⟨⟩
  rintro _ _ ⟨bd, pa, N, s0, sF, out, hfm, hN, ⟨hus0, hf⟩, hfill, hor⟩
  obtain rfl := n48 hN
  have hev := okB_ok (okB_ok (d13_eval pa) hf) hfill
  simp only [Bool.and_eq_true, beq_iff_eq] at hev
  obtain ⟨⟨rfl, e1⟩, e2⟩ := hev
  rw [blkIs_eq e1] at hor
  rcases hor with ⟨n1, n2, s1, s2, ov, sv, hl1, hl2, hu2, hlm2, hn2, hov, hsv, rfl, rfl⟩ | ⟨s1, hl1, _⟩
  rotate_left
  · have e3 := okB_ok e2 hl1
    simp only [Bool.and_eq_true, beq_iff_eq] at e3
    exact absurd e3.1 (by simp)
  have e3 := okB_ok e2 hl1
  simp only [Bool.and_eq_true, beq_iff_eq] at e3
  obtain ⟨e4, e5⟩ := e3
  obtain rfl : n1 = 0 := by injection e4
  have e6 := okB_ok e5 hl2
  simp only [Bool.and_eq_true, beq_iff_eq] at e6
  obtain ⟨⟨e7, e8⟩, e9⟩ := e6
  rw [blkIs_eq e7]
  refine go_pk [2] (go_vecq fun qo co hqo hqi => ?_)
  subst hqo
  obtain ⟨bO, oO, rfl⟩ := hqi 0 (by decide)
  refine kPm rfl rfl (kPv (ev_ext rfl rfl) rfl (kPv (ev_ext rfl rfl) rfl (kPv (ev_ext rfl rfl) rfl (kPv (ev_ext rfl rfl) rfl (p_chg rfl (ch_allocA Tryz.zeroValue40 rfl) .free rfl rfl ?_)))))
  rintro _ _ ⟨b2, rfl, rfl⟩
  refine p_chg rfl (ch_allocA Tryz.zeroValue95 rfl) .free rfl rfl ?_
  rintro _ _ ⟨b3, rfl, rfl⟩
  refine kPa rfl rfl (p_chg0 rfl (ch_storeA (vs := _) Tryz.sizeOf40 rfl rfl rfl rfl rfl) .free rfl ?_)
  rintro _ _ rfl
  refine p_chg0 rfl (ch_storeA (vs := _) Tryz.sizeOf95 rfl rfl rfl (by first | rfl | exact all3 (by assumption)) rfl) .free rfl ?_
  rintro _ _ rfl
  refine kPa rfl rfl (p_nil (go_sb [4, 1, 3, 2, 0] rfl (g_seq (g_seq (g_region (kPm rfl rfl (kPv (ev_eqp Tryz.runUnderlying28 rfl rfl rfl) rfl (kPm rfl rfl (p_val rfl (ev_move rfl) (.on rfl rfl (beq_eq rfl)) rfl rfl (p_val rfl (ev_len rfl Tryz.runUnderlying125 ⟨_, rfl⟩ rfl) (.on rfl rfl (beq_eq rfl)) rfl rfl (p_val rfl (ev_cmp rfl rfl rfl) (.on rfl rfl (beq_eq rfl)) rfl rfl ?_)))))))))))
  refine kPv (ev_pick_f rfl rfl rfl) rfl (kPm rfl rfl (p_val rfl (ev_move rfl) (.on rfl rfl (beq_eq rfl)) rfl rfl (p_val rfl (ev_loadA Tryz.isAgg40 Tryz.sizeOf40 rfl rfl) (.on rfl rfl (beq_eq rfl)) rfl rfl ?_)))
  refine p_val rfl (ev_loadA Tryz.isAgg95 Tryz.sizeOf95 rfl rfl) (.on rfl rfl (beq_eq rfl)) rfl rfl ?_
  refine p_call rfl (en_f Tryz.call138 rfl) (wfrom_ok _ _ bd ⟨3, 1, 48⟩ ⟨0, 5, [0]⟩ sv hsv (.slice none 0 0) rfl) (.on rfl rfl (beq_eq rfl)) rfl rfl ?_ ?_
  rotate_left
  · rintro _ _ ⟨⟩
  rintro _ _ ⟨c1, c2, c3, c4, rfl, rfl⟩
  refine p_val rfl (ev_eqfn Tryz.runUnderlying186 ⟨_, _, _, rfl⟩ rfl rfl rfl) (.on rfl rfl (beq_eq rfl)) rfl rfl (kPv (ev_pick_f rfl rfl rfl) rfl (p_nil (go_sb [30, 4, 1, 3, 2, 0] rfl (g_iff rfl (rfl) (g_skip (g_seq (go_conv (H' := DevA bd s2 :: VecA 3 i64 0 (.slice (some ⟨bO, oO, none⟩) 2 co, [40, 42]) :: row b3 [i64 0, i64 5, sv] 95 :: row b2 [i64 3, i64 1, i64 48] 40 :: VecU 0 (sv, [0]) :: Fr) (fun w hh => by have h := ((hh.dp [0, 0, 0, 0, 5]).pk [4, 2]); exact h) (g_drawv [0, 1, 2, 3, 4, 5, 6, 7, 8, 9, 10, 11, 12, 13, 14, 15, 16, 17] [3, 13, 14] [6, 7, 8] [13] [row b2 [i64 3, i64 1, i64 48] 40, row b3 [i64 0, i64 5, sv] 95, VecA 3 i64 0 (.slice (some ⟨bO, oO, none⟩) 2 co, [40, 42])] Tryz.mixed (by kernel_rfl) ?_))))))))
  refine v_val rfl rfl rfl (ev_move rfl) .free rfl (v_val rfl rfl rfl (ev_loadA Tryz.isAgg40 Tryz.sizeOf40 rfl rfl) .free rfl ?_)
  refine v_val rfl rfl rfl (ev_loadA Tryz.isAgg95 Tryz.sizeOf95 rfl rfl) .free rfl ?_
  refine v_mark rfl rfl (p_callq rfl (en_f Tryz.call73 rfl) (wsize_ok B _ bd ⟨3, 1, 48⟩ cfg48 ⟨0, 5, [0]⟩ sv ⟨⟨by decide, by decide⟩, ⟨by decide, by decide⟩⟩ hsv s2 none 0 [] (fun _ h => (by cases h)) (by decide) (fun _ h => absurd h (Nat.not_lt_zero _)) SlR.nil) .free rfl rfl ?_)
  refine p_nil (v_off rfl (v_val rfl rfl rfl (ev_cmp rfl rfl rfl) .free rfl (v_val rfl rfl rfl (ev_move rfl) .free rfl (v_hoist rfl rfl rfl (ev_move rfl) (.on rfl rfl (beq_eq (by rw [e8]; rfl))) rfl (v_hoist rfl rfl rfl (ev_loadA Tryz.isAgg40 Tryz.sizeOf40 rfl rfl) (.on rfl rfl (beq_eq (by rw [e8]; rfl))) rfl ?_)))))
  refine v_hoist rfl rfl rfl (ev_loadA Tryz.isAgg95 Tryz.sizeOf95 rfl rfl) (.on rfl rfl (beq_eq (by rw [e8]; rfl))) rfl ?_
  refine v_val rfl rfl rfl (ev_move rfl) (.on rfl rfl (beq_eq (by rw [e8]; rfl))) rfl (v_val rfl rfl rfl (ev_iaS Tryz.runUnderlying125 Tryz.sizeOf3 rfl rfl (by decide) (by decide)) (.on rfl rfl (beq_eq (by rw [e8]; rfl))) rfl (v_val rfl rfl rfl (ev_loadS (v := i64 42) Tryz.isAgg3 (vec_slr 1 rfl) rfl rfl) (.on rfl rfl (beq_eq (by rw [e8]; rfl))) rfl (v_val rfl rfl rfl (ev_conv (c := 42) Tryz.runUnderlying3 Tryz.runUnderlying26 rfl (by decide)) (.on rfl rfl (beq_eq (by rw [e8]; rfl))) rfl (v_mark rfl rfl (p_chg rfl (ch_bs1 Tryz.runUnderlying25 Tryz.sizeOf26 Tryz.zeroValue26 rfl rfl rfl) (.on rfl rfl (beq_eq (by rw [e8]; rfl))) rfl rfl ?_)))))
  rintro _ _ ⟨b44, rfl, rfl⟩
  refine p_nil (v_on (go_pk [1] (v_mark rfl rfl (p_callq rfl (en_f Tryz.call73 rfl) (wsize_ok B _ bd ⟨3, 1, 48⟩ cfg48 ⟨0, 5, [0]⟩ sv ⟨⟨by decide, by decide⟩, ⟨by decide, by decide⟩⟩ hsv s2 (some ⟨b44, 0, none⟩) 1 [42] (fun v h => by rw [List.mem_singleton.1 h]; decide) (by decide) (fun _ _ => ⟨_, _, rfl⟩) (SlR.row (b := b44) rfl rfl)) (.on rfl rfl (beq_eq (by rw [e8]; rfl))) rfl rfl ?_))))
  refine p_nil (v_off rfl (v_val rfl rfl rfl (ev_cmp rfl rfl rfl) (.on rfl rfl (beq_eq (by rw [e8]; rfl))) rfl (v_val rfl rfl rfl (ev_pick_t rfl (by rw [e8]; rfl) rfl) .free rfl (v_val rfl rfl rfl (ev_assign rfl) .free rfl (v_nil (go_sb [0] rfl (g_ret ?_)))))))
  exact ret_tmp Tryz.results180 rfl (fun w hh => ⟨by rw [e9]; rfl, (hh.dp [0, 0, 0, 0, 0, 0])⟩)
theorem awake14_ok (B : World) (Fr : List HP) :
    ∀ w, Holds B Fr w → Calls Tryz.prog 161 [].toArray w (PureR B Fr (.bool true)) := by
  refine fn_enter Tryz.func161 rfl Tryz.ntmps161 rfl (g_seq (g_region (kPa rfl rfl (p_nil (g_seq (g_seq (g_region (p_callq rfl (en_f Tryz.call180 rfl) (awake13_ok _ _) .free rfl rfl ?_))))))))
  refine kPv (ev_not rfl) rfl (p_nil (g_iff rfl (rfl) (g_skip (g_seq (g_region (kPv (ev_build rfl (bld_24_2 _ rfl)) rfl (kPv (ev_build rfl (bld_209_1 _ rfl)) rfl (p_chg rfl (ch_bsG encH_w (v := (0, 1)) Tryz.runUnderlying210 Tryz.sizeOf209 Tryz.zeroValue209 ⟨⟨by decide, by decide⟩, rfl⟩ rfl rfl) .free rfl rfl ?_))))))))
  rintro _ _ ⟨b13, rfl, rfl⟩
  refine p_call rfl (en_f Tryz.call162 rfl) (linked_ok _ _ 0 0 40 ⟨by decide, by decide, by decide⟩ ⟨3, 1, 48⟩ mkC48 [(0, 1)] (hh1 ⟨by decide, by decide⟩ ⟨by decide, by decide⟩) (by decide) (some ⟨b13, 0, none⟩) _ sln1 none 0 [] SlR.nil (fun _ h => (by cases h)) (by decide) (fun _ h => absurd h (Nat.not_lt_zero _)) 0 (by decide)) .free rfl rfl ?_ ?_
  rotate_left
  · rintro _ _ ⟨⟩
  rintro _ _ ⟨bd, pa, N, s0, sF, out, hfm, hN, ⟨hus0, hf⟩, hfill, hor⟩
  obtain rfl := n48 hN
  have hev := okB_ok (okB_ok (d14_eval pa bd) hf) hfill
  simp only [Bool.and_eq_true, beq_iff_eq] at hev
  obtain ⟨⟨rfl, e1⟩, e2⟩ := hev
  rw [blkIs_eq e1] at hor
  rcases hor with ⟨n1, n2, s1, s2, ov, sv, hl1, hl2, hu2, hlm2, hn2, hov, hsv, rfl, rfl⟩ | ⟨s1, hl1, _⟩
  rotate_left
  · have e3 := okB_ok e2 hl1
    simp only [Bool.and_eq_true, beq_iff_eq] at e3
    exact absurd e3.1 (by simp)
  have e3 := okB_ok e2 hl1
  simp only [Bool.and_eq_true, beq_iff_eq] at e3
  obtain ⟨e4, e5⟩ := e3
  obtain rfl : n1 = 0 := by injection e4
  have e6 := okB_ok e5 hl2
  simp only [Bool.and_eq_true, beq_iff_eq] at e6
  obtain ⟨e7, e8⟩ := e6
  rw [blkIs_eq e7]
  refine go_pk [2] (go_vecq fun qo co hqo hqi => ?_)
  subst hqo
  obtain ⟨bO, oO, rfl⟩ := hqi 0 (by decide)
  refine kPm rfl rfl (kPv (ev_ext rfl rfl) rfl (kPv (ev_ext rfl rfl) rfl (kPv (ev_ext rfl rfl) rfl (kPv (ev_ext rfl rfl) rfl (p_chg rfl (ch_allocA Tryz.zeroValue40 rfl) .free rfl rfl ?_)))))
  rintro _ _ ⟨b2, rfl, rfl⟩
  refine p_chg rfl (ch_allocA Tryz.zeroValue95 rfl) .free rfl rfl ?_
  rintro _ _ ⟨b3, rfl, rfl⟩
  refine kPa rfl rfl (p_chg0 rfl (ch_storeA (vs := _) Tryz.sizeOf40 rfl rfl rfl rfl rfl) .free rfl ?_)
  rintro _ _ rfl
  refine p_chg0 rfl (ch_storeA (vs := _) Tryz.sizeOf95 rfl rfl rfl (by first | rfl | exact all3 (by assumption)) rfl) .free rfl ?_
  rintro _ _ rfl
  refine kPa rfl rfl (p_nil (go_sb [4, 1, 3, 2, 0] rfl (g_seq (g_seq (g_region (kPm rfl rfl (kPv (ev_eqp Tryz.runUnderlying28 rfl rfl rfl) rfl (kPm rfl rfl (p_val rfl (ev_move rfl) (.on rfl rfl (beq_eq rfl)) rfl rfl (p_val rfl (ev_len rfl Tryz.runUnderlying125 ⟨_, rfl⟩ rfl) (.on rfl rfl (beq_eq rfl)) rfl rfl (p_val rfl (ev_cmp rfl rfl rfl) (.on rfl rfl (beq_eq rfl)) rfl rfl ?_)))))))))))
  refine kPv (ev_pick_f rfl rfl rfl) rfl (p_nil (go_sb [25, 1, 3, 2, 0] rfl (g_iff rfl (rfl) (g_skip (g_seq (g_region (kPm rfl rfl (kPv (ev_loadA Tryz.isAgg40 Tryz.sizeOf40 rfl rfl) rfl ?_))))))))
  refine kPv (ev_loadA Tryz.isAgg95 Tryz.sizeOf95 rfl rfl) rfl ?_
  refine p_chg rfl (ch_bs1 Tryz.runUnderlying25 Tryz.sizeOf26 Tryz.zeroValue26 rfl rfl rfl) .free rfl rfl ?_
  rintro _ _ ⟨b29, rfl, rfl⟩
  refine go_pk [4] ?_
  refine p_call rfl (en_f Tryz.call78 rfl) (cnew_ok B _ bd ⟨3, 1, 48⟩ cfg48 ⟨0, 2, [0]⟩ ⟨⟨by decide, by decide⟩, ⟨by decide, by decide⟩⟩ sv hsv (some ⟨b29, 0, none⟩) 1 [0] (by decide) (fun h => by cases h) (SlR.row (b := b29) rfl rfl)) .free rfl rfl ?_ ?_
  rotate_left
  · rintro _ _ ⟨⟩
  rintro _ _ ⟨x, rfl, rfl⟩
  have hX0 : ColW (newCol bd ⟨3, 1, 48⟩ ⟨0, 2, [0]⟩ [0]) := newCol_w cfg48 ⟨⟨by decide, by decide⟩, ⟨by decide, by decide⟩⟩ (by decide) (fun v h => by rw [List.mem_singleton.1 h]; decide) (fun v h => by rw [List.mem_singleton.1 h]; decide)
  refine kPa rfl rfl (p_nil (go_sb [5, 0] rfl (g_seq (g_seq (g_region (kPm rfl rfl (kPv (ev_eqp Tryz.runUnderlying91 rfl rfl rfl) rfl (p_nil (g_iff rfl (rfl) (g_skip (g_seq ?_)))))))))))
  refine g_region (kPm rfl rfl (go_pk [0, 4] ?_))
  refine p_call rfl (en_f Tryz.call99 rfl) (cstep_ok B _ x (newCol bd ⟨3, 1, 48⟩ ⟨0, 2, [0]⟩ [0]) hX0 s2 hu2) .free rfl rfl ?_ ?_
  rotate_left
  · rintro _ _ ⟨s9, hm9, _⟩
    exact (okB_off e8 hm9).elim
  rintro _ _ ⟨r1, s3, hm1, rfl, rfl⟩
  have e9 := okB_ok e8 hm1
  simp only [Bool.and_eq_true, Bool.not_eq_true'] at e9
  obtain ⟨e10, e11⟩ := e9
  obtain ⟨hX1, hu3, _, hbd1, _⟩ := step_w hX0 hu2 hm1
  refine go_conv (H' := ColA x r1.2 :: DevA r1.2.bd s3 :: _) (fun w hh => by rw [hbd1]; exact hh) (kPm rfl rfl ?_)
  refine p_call rfl (en_f Tryz.call99 rfl) (cstep_ok B _ x r1.2 hX1 s3 hu3) .free rfl rfl ?_ ?_
  rotate_left
  · rintro _ _ ⟨s9, hm9, _⟩
    exact (okB_off e11 hm9).elim
  rintro _ _ ⟨r2, s4, hm2, rfl, rfl⟩
  have e12 := okB_ok e11 hm2
  simp only [Bool.and_eq_true] at e12
  obtain ⟨hX2, hu4, _⟩ := step_w hX1 hu3 hm2
  have hbl : r2.2.block = ⟨1, 0, [0]⟩ := congrArg Prod.fst (blkIs_eq e12.2)
  rw [e10, e12.1]
  refine kPa rfl rfl (kPa rfl rfl (p_nil (g_seq (g_region (kPm rfl rfl (kPv (ev_not rfl) rfl (kPm rfl rfl (p_val rfl (ev_move rfl) (.on rfl rfl (beq_eq rfl)) rfl rfl (kPv (ev_pick_t rfl rfl rfl) rfl (kPm rfl rfl (p_val rfl (ev_move rfl) (.on rfl rfl (beq_eq rfl)) rfl rfl ?_)))))))))))
  refine p_call rfl (en_f Tryz.call176 rfl) (cblock_ok B _ x r2.2 hX2) (.on rfl rfl (beq_eq rfl)) rfl rfl ?_ ?_
  rotate_left
  · rintro _ _ ⟨⟩
  rintro _ _ ⟨bv5, hbv5, rfl, rfl⟩
  rw [hbl]
  refine p_val rfl (ev_field1 Tryz.runUnderlying95 (t := 3) (off := 1) rfl Tryz.isAgg3 rfl rfl) (.on rfl rfl (beq_eq rfl)) rfl rfl (p_val rfl (ev_cmp rfl rfl rfl) (.on rfl rfl (beq_eq rfl)) rfl rfl (kPv (ev_pick_t rfl rfl rfl) rfl (kPm rfl rfl (p_val rfl (ev_move rfl) (.on rfl rfl (beq_eq rfl)) rfl rfl (go_pk [1] ?_)))))
  refine p_call rfl (en_f Tryz.call176 rfl) (cblock_ok B _ x r2.2 hX2) (.on rfl rfl (beq_eq rfl)) rfl rfl ?_ ?_
  rotate_left
  · rintro _ _ ⟨⟩
  rintro _ _ ⟨bv6, hbv6, rfl, rfl⟩
  rw [hbl]
  refine p_val rfl (ev_field1 Tryz.runUnderlying95 (t := 3) (off := 0) rfl Tryz.isAgg3 rfl rfl) (.on rfl rfl (beq_eq rfl)) rfl rfl (p_val rfl (ev_cmp rfl rfl rfl) (.on rfl rfl (beq_eq rfl)) rfl rfl (kPv (ev_pick_t rfl rfl rfl) rfl (kPa rfl rfl (p_nil (go_sb [0] rfl (g_ret ?_))))))
  exact ret_tmp Tryz.results161 rfl (fun w hh => ⟨rfl, (hh.dp [0, 0, 0, 0, 0, 0, 0, 0, 0])⟩)
theorem awake15_ok (B : World) (Fr : List HP) :
    ∀ w, Holds B Fr w → Calls Tryz.prog 106 [].toArray w (PureR B Fr (.bool true)) := by
  refine fn_enter Tryz.func106 rfl Tryz.ntmps106 rfl (g_seq (g_region (kPa rfl rfl (p_nil (g_seq (g_seq (g_region (p_callq rfl (en_f Tryz.call161 rfl) (awake14_ok _ _) .free rfl rfl ?_))))))))
  refine kPv (ev_not rfl) rfl (p_nil (g_iff rfl (rfl) (g_skip (g_seq (g_region (kPv (ev_build rfl (bld_24_2 _ rfl)) rfl (kPv (ev_build rfl (bld_209_1 _ rfl)) rfl (kPv (ev_build rfl (bld_209_1 _ rfl)) rfl (p_chg rfl (ch_bsG2 encH_w (v := (0, 1)) (u := (0, 2)) Tryz.runUnderlying210 Tryz.sizeOf209 Tryz.zeroValue209 ⟨⟨by decide, by decide⟩, rfl⟩ rfl rfl rfl rfl) .free rfl rfl ?_)))))))))
  rintro _ _ ⟨b16, rfl, rfl⟩
  refine p_call rfl (en_f Tryz.call162 rfl) (linked_ok _ _ 0 0 40 ⟨by decide, by decide, by decide⟩ ⟨3, 1, 48⟩ mkC48 [(0, 1), (0, 2)] (hh2) (by decide) (some ⟨b16, 0, none⟩) _ sln2 none 0 [] SlR.nil (fun _ h => (by cases h)) (by decide) (fun _ h => absurd h (Nat.not_lt_zero _)) 0 (by decide)) .free rfl rfl ?_ ?_
  rotate_left
  · rintro _ _ ⟨⟩
  rintro _ _ ⟨bd, pa, N, s0, sF, out, hfm, hN, ⟨hus0, hf⟩, hfill, hor⟩
  obtain rfl := n48 hN
  have hev := okB_ok (okB_ok (d15_eval pa bd) hf) hfill
  simp only [Bool.and_eq_true, beq_iff_eq] at hev
  obtain ⟨⟨rfl, e1⟩, e2⟩ := hev
  rw [blkIs_eq e1] at hor
  rcases hor with ⟨n1, n2, s1, s2, ov, sv, hl1, hl2, hu2, hlm2, hn2, hov, hsv, rfl, rfl⟩ | ⟨s1, hl1, _⟩
  rotate_left
  · have e3 := okB_ok e2 hl1
    simp only [Bool.and_eq_true, beq_iff_eq] at e3
    exact absurd e3.1 (by simp)
  have e3 := okB_ok e2 hl1
  simp only [Bool.and_eq_true, beq_iff_eq] at e3
  obtain ⟨e4, e5⟩ := e3
  obtain rfl : n1 = 0 := by injection e4
  have e6 := okB_ok e5 hl2
  simp only [Bool.and_eq_true, beq_iff_eq] at e6
  obtain ⟨⟨e7, e14⟩, e8⟩ := e6
  rw [blkIs_eq e7]
  refine go_pk [2] (go_vecq fun qo co hqo hqi => ?_)
  subst hqo
  obtain ⟨bO, oO, rfl⟩ := hqi 0 (by decide)
  refine kPm rfl rfl (kPv (ev_ext rfl rfl) rfl (kPv (ev_ext rfl rfl) rfl (kPv (ev_ext rfl rfl) rfl (kPv (ev_ext rfl rfl) rfl (p_chg rfl (ch_allocA Tryz.zeroValue40 rfl) .free rfl rfl ?_)))))
  rintro _ _ ⟨b2, rfl, rfl⟩
  refine p_chg rfl (ch_allocA Tryz.zeroValue95 rfl) .free rfl rfl ?_
  rintro _ _ ⟨b3, rfl, rfl⟩
  refine kPa rfl rfl (p_chg0 rfl (ch_storeA (vs := _) Tryz.sizeOf40 rfl rfl rfl rfl rfl) .free rfl ?_)
  rintro _ _ rfl
  refine p_chg0 rfl (ch_storeA (vs := _) Tryz.sizeOf95 rfl rfl rfl (by first | rfl | exact all3 (by assumption)) rfl) .free rfl ?_
  rintro _ _ rfl
  refine kPa rfl rfl (p_nil (go_sb [4, 1, 3, 2, 0] rfl (g_seq (g_seq (g_region (kPm rfl rfl (kPv (ev_eqp Tryz.runUnderlying28 rfl rfl rfl) rfl (kPm rfl rfl (p_val rfl (ev_move rfl) (.on rfl rfl (beq_eq rfl)) rfl rfl (p_val rfl (ev_len rfl Tryz.runUnderlying125 ⟨_, rfl⟩ rfl) (.on rfl rfl (beq_eq rfl)) rfl rfl (p_val rfl (ev_cmp rfl rfl rfl) (.on rfl rfl (beq_eq rfl)) rfl rfl ?_)))))))))))
  refine kPv (ev_pick_f rfl rfl rfl) rfl (kPm rfl rfl (p_val rfl (ev_fa (m := _) fa_95_1 rfl rfl) (.on rfl rfl (beq_eq rfl)) rfl rfl (p_val rfl (ev_load Tryz.isAgg3 rfl rfl) (.on rfl rfl (beq_eq rfl)) rfl rfl (p_val rfl (ev_cmp rfl rfl rfl) (.on rfl rfl (beq_eq rfl)) rfl rfl (kPv (ev_pick_f rfl rfl rfl) rfl (p_nil (go_sb [33, 4, 1, 2, 0] rfl (g_iff rfl (rfl) (g_skip (g_seq (g_region ?_)))))))))))
  refine kPm rfl rfl (kPv (ev_loadA Tryz.isAgg40 Tryz.sizeOf40 rfl rfl) rfl ?_)
  refine go_pk [4] ?_
  refine p_call rfl (en_f Tryz.call69 rfl) (snew_ok _ _ bd s2 ⟨3, 1, 48⟩ cfg48) .free rfl rfl ?_ ?_
  rotate_left
  · rintro _ _ ⟨⟩
  rintro _ _ ⟨bs, rfl, rfl⟩
  refine kPa rfl rfl (p_nil (g_seq (g_seq (g_region (go_secC fun bl o1 o2 => (kPm rfl rfl (kPv (ev_eqp Tryz.runUnderlying89 rfl rfl rfl) rfl (kPm rfl rfl (p_val rfl (ev_move rfl) (.on rfl rfl (beq_eq rfl)) rfl rfl ?_)))))))))
  first | refine p_val rfl (ev_nil rfl) (.on rfl rfl (beq_eq rfl)) rfl rfl ?_ | refine p_val rfl (ev_nilf rfl) (.on rfl rfl (beq_eq rfl)) rfl rfl ?_
  refine p_val rfl (ev_fa (m := _) fa_129_0 rfl rfl) (.on rfl rfl (beq_eq rfl)) rfl rfl (p_val rfl (ev_load Tryz.isAgg116 rfl rfl) (.on rfl rfl (beq_eq rfl)) rfl rfl (p_val rfl (ev_eqp Tryz.runUnderlying116 rfl rfl rfl) (.on rfl rfl (beq_eq rfl)) rfl rfl (kPv (ev_pick_f rfl rfl rfl) rfl (p_nil (go_sb [45, 5, 4, 1, 2, 0] rfl (g_iff rfl (rfl) (g_skip (g_seq (go_conv (fun w hh => secC_holds (S := (⟨openL bd ⟨3, 1, 48⟩ s2, 0, 0, [], []⟩ : SecS)) hh) (go_conv (H' := SecC bs (⟨openL bd ⟨3, 1, 48⟩ s2, 0, 0, [], []⟩ : SecS) :: DevA bd s2 :: row b2 [i64 3, i64 1, i64 48] 40 :: VecA 3 i64 0 (.slice (some ⟨bO, oO, none⟩) 2 co, [40, 42]) :: VecU 0 (sv, [0]) :: Fr) (fun w hh => by have h := (hh.dp [2, 5]); exact h) (g_drawv [0, 1, 2, 3, 4, 5, 6, 7, 8, 9, 10, 11, 12, 13] [7, 8] [0, 1, 2] [7] [row b2 [i64 3, i64 1, i64 48] 40, VecA 3 i64 0 (.slice (some ⟨bO, oO, none⟩) 2 co, [40, 42])] Tryz.mixed (by kernel_rfl) ?_)))))))))))
  refine v_hoist rfl rfl rfl (ev_move rfl) .free rfl (v_hoist rfl rfl rfl (ev_loadA Tryz.isAgg40 Tryz.sizeOf40 rfl rfl) .free rfl ?_)
  refine v_hoist rfl rfl rfl (ev_move rfl) .free rfl (v_val rfl rfl rfl (ev_move rfl) .free rfl (v_val rfl rfl rfl (ev_iaS Tryz.runUnderlying125 Tryz.sizeOf3 rfl rfl (by decide) (by decide)) .free rfl (v_val rfl rfl rfl (ev_loadS (v := i64 42) Tryz.isAgg3 (vec_slr 3 rfl) rfl rfl) .free rfl (v_val rfl rfl rfl (ev_conv (c := 42) Tryz.runUnderlying3 Tryz.runUnderlying26 rfl (by decide)) .free rfl (v_mark rfl rfl (p_chg rfl (ch_bs1 Tryz.runUnderlying25 Tryz.sizeOf26 Tryz.zeroValue26 rfl rfl rfl) .free rfl rfl ?_))))))
  rintro _ _ ⟨b54, rfl, rfl⟩
  refine p_nil (v_on (v_mark rfl rfl (go_pk [1, 1] ?_)))
  refine p_call rfl (en_f Tryz.call163 rfl) (fcollect_ok B _ bs bd (⟨openL bd ⟨3, 1, 48⟩ s2, 0, 0, [], []⟩ : SecS) ⟨3, 1, 48⟩ cfg48 s2 hu2 ⟨openL_w cfg48, by rw [hn2]; decide, rfl, rfl⟩ (some ⟨b54, 0, none⟩) 1 [42] (by decide) (fun v h => by rw [List.mem_singleton.1 h]; decide) (SlR.row (b := b54) rfl rfl)) .free rfl rfl ?_ ?_
  rotate_left
  · rintro _ _ ⟨s9, hm9, _⟩
    exact (okB_off e8 hm9).elim
  rintro _ _ ⟨r, s3, hm3, hor⟩
  have e9 := okB_ok e8 hm3
  simp only [Bool.and_eq_true, beq_iff_eq] at e9
  obtain ⟨⟨e10, e11⟩, e12⟩ := e9
  rcases hor with ⟨h1, _⟩ | ⟨x, X, hX, h0, rfl, rfl⟩
  · rw [h1] at e11; cases e11
  rw [hX] at e11
  have e13 : (mget X.went 42).getD 0 = 88 := by simpa [went1] using e11
  have hu3 := (collect_k cfg48 (fun v h => by rw [List.mem_singleton.1 h]; decide) (openL_w cfg48) hu2 (by rw [hn2]; decide) e14 hm3).1
  refine p_nil (v_off rfl (v_val rfl rfl rfl (ev_move rfl) .free rfl (v_val rfl rfl rfl (ev_ext rfl rfl) .free rfl (v_val rfl rfl rfl (ev_ext rfl rfl) .free rfl (v_val rfl rfl rfl (ev_assign rfl) .free rfl (v_val rfl rfl rfl (ev_assign rfl) .free rfl (v_nil (go_sb [7, 6, 4, 1, 2, 0] rfl (g_seq (g_region (kPm rfl rfl ?_)))))))))))
  refine kPv (ev_loadA Tryz.isAgg40 Tryz.sizeOf40 rfl rfl) rfl ?_
  refine go_pk [2] ?_
  refine p_call rfl (en_f Tryz.call111 rfl) (rread_ok _ _ _ _ ⟨3, 1, 48⟩ cfg48 hu3) .free rfl rfl ?_ ?_
  rotate_left
  · rintro _ _ ⟨⟩
  rintro _ _ ⟨sv3, hsv3, rfl, rfl⟩
  rw [blkIs_eq e12]
  refine kPm rfl rfl (kPv (ev_ext rfl rfl) rfl (kPv (ev_ext rfl rfl) rfl (p_chg rfl (ch_allocA Tryz.zeroValue95 rfl) .free rfl rfl ?_)))
  rintro _ _ ⟨b8, rfl, rfl⟩
  refine p_chg0 rfl (ch_storeA (vs := _) Tryz.sizeOf95 rfl rfl rfl (by first | rfl | exact all3 (by assumption)) rfl) .free rfl ?_
  rintro _ _ rfl
  refine kPa rfl rfl (p_nil (go_sb [9, 8, 7, 6, 4, 2, 0] rfl (g_seq (g_draw Tryz.mixed (by kernel_rfl) (by kernel_rfl) ?_))))
  refine kQm rfl rfl (kQv (ev_cmp rfl rfl rfl) rfl (kQm rfl rfl (q_val rfl (ev_move rfl) (.on rfl rfl (beq_eq rfl)) rfl (q_val rfl (ev_eqp Tryz.runUnderlying91 rfl rfl rfl) (.on rfl rfl (beq_eq rfl)) rfl (kQv (ev_pick_t rfl rfl rfl) rfl (kQm rfl rfl (q_val rfl (ev_move rfl) (.on rfl rfl (beq_eq rfl)) rfl (q_val rfl (ev_cmp rfl rfl rfl) (.on rfl rfl (beq_eq rfl)) rfl (kQv (ev_pick_t rfl rfl rfl) rfl (kQm rfl rfl (q_val rfl (ev_fa (m := _) fa_95_0 rfl rfl) (.on rfl rfl (beq_eq rfl)) rfl ?_)))))))))))
  refine q_val rfl (ev_load Tryz.isAgg3 rfl rfl) (.on rfl rfl (beq_eq rfl)) rfl (q_val rfl (ev_cmp rfl rfl rfl) (.on rfl rfl (beq_eq rfl)) rfl (kQv (ev_pick_t rfl rfl rfl) rfl (kQm rfl rfl (q_val rfl (ev_fa (m := _) fa_95_1 rfl rfl) (.on rfl rfl (beq_eq rfl)) rfl (q_val rfl (ev_load Tryz.isAgg3 rfl rfl) (.on rfl rfl (beq_eq rfl)) rfl (q_val rfl (ev_cmp rfl rfl rfl) (.on rfl rfl (beq_eq rfl)) rfl (kQv (ev_pick_t rfl rfl rfl) rfl (kQm rfl rfl (q_val rfl (ev_move rfl) (.on rfl rfl (beq_eq rfl)) rfl (q_val rfl (ev_move rfl) (.on rfl rfl (beq_eq rfl)) rfl (q_val rfl (ev_iaS Tryz.runUnderlying125 Tryz.sizeOf3 rfl rfl (by decide) (by decide)) (.on rfl rfl (beq_eq rfl)) rfl ?_)))))))))))
  refine q_val rfl (ev_loadS (v := i64 42) Tryz.isAgg3 (vec_slr 7 rfl) rfl rfl) (.on rfl rfl (beq_eq rfl)) rfl (q_val rfl (ev_conv (c := 42) Tryz.runUnderlying3 Tryz.runUnderlying26 rfl (by decide)) (.on rfl rfl (beq_eq rfl)) rfl (q_call rfl (en_f Tryz.call144 rfl) (ro_at (q := ColA) (fun Fr => cwent_ok B Fr x X 42)) (.on rfl rfl (beq_eq rfl)) rfl ?_))
  refine q_val rfl (ev_loadA Tryz.isAgg40 Tryz.sizeOf40 rfl rfl) (.on rfl rfl (beq_eq rfl)) rfl ?_
  refine q_call rfl (en_f Tryz.call140 rfl) (from_ok _ _ ⟨3, 1, 48⟩ cfg48 1 (by decide) (by decide)) (.on rfl rfl (beq_eq rfl)) rfl ?_
  refine q_val rfl (ev_cmp rfl rfl rfl) (.on rfl rfl (beq_eq rfl)) rfl (kQv (ev_pick_t rfl rfl rfl) rfl (kQa rfl rfl (q_nil (go_sb [0] rfl (g_ret ?_)))))
  exact ret_tmp Tryz.results106 rfl (fun w hh => ⟨by rw [e13]; rfl, (hh.dp [0, 0, 0, 0, 0, 0, 0, 0, 0])⟩)
end Go.Proofs.YtlcibdhmgclfjaaGreat
namespace Go.Proofs.YtlcibdhmgclfjaaGreat
open Go
theorem Tryz.ownKnobs : ownKnob Tryz.prog.godebug = none := by kernel_rfl
theorem Tryz.laidOut : laidOutB Tryz.prog = true := by kernel_rfl
theorem law_of {P : Program} {f : FuncId} {vs : Array Value} {W : World} (h : ∀ w, Holds W [old W] w → Calls P f vs w (PureR W [old W] (.bool true))) :
    Calls P f vs W (fun e w' => e = .returned (.bool true) ∧ RowKit.Below W.heap.size W w') := (h W (holds_old W)).mono fun _ _ ⟨h1, h2⟩ => ⟨h1, h2.oldb⟩
open Go.ChangeShapes Go.WideShapes in
set_option maxRecDepth 100000 in
theorem arg_st_u16_u16_u16 {H : Type} {enc : TypeId × Value → H} {W : World} {r : Reach} {base b1 : Nat} {held : Bool} {sp : Nat → Bool} {v : Value} {x : DataW H × List MemPlace}
    (hv : Value.okWide Tryz.prog W r b1 24 v) (h : ∃ fuel, DataW.trod enc Tryz.prog W base sp held fuel 24 v.cells.toList = some x) :
    ∃ z : Int × Int × Int, v = .agg #[u16 z.1, u16 z.2.1, u16 z.2.2] ∧ (Lit.int .u16 z.1).wf = true ∧ (Lit.int .u16 z.2.1).wf = true ∧ (Lit.int .u16 z.2.2).wf = true := by
  obtain ⟨fuel, hf⟩ := h
  obtain ⟨cs, rfl, hsz⟩ := okWide_struct Tryz.underlying24 hv
  have hsz : cs.size = 3 := hsz
  obtain ⟨y0, y1, y2, n, _, _, h0, h1, h2⟩ := Go.Deep.trod_struct3 Tryz.underlying24 hf
  obtain ⟨a, e0, _, w0⟩ := DataW.trod_int Tryz.underlying22 h0
  obtain ⟨b, e1, _, w1⟩ := DataW.trod_int Tryz.underlying22 h1
  obtain ⟨c, e2, _, w2⟩ := DataW.trod_int Tryz.underlying22 h2
  refine ⟨(a, b, c), ?_, w0, w1, w2⟩
  obtain ⟨l⟩ := cs
  match l, hsz with
  | [p, q, s], _ =>
    have e0 : [p] = [Value.int .u16 a] := e0
    have e1 : [q] = [Value.int .u16 b] := e1
    have e2 : [s] = [Value.int .u16 c] := e2
    cases e0; cases e1; cases e2; rfl
end Go.Proofs.YtlcibdhmgclfjaaGreat
namespace Go.Proofs.YtlcibdhmgclfjaaGreat
open Go
theorem accv_vec {B : World} {sv : Value} {xs : List Int} {Fr : List HP} {w : World} (h : Holds B (AccV 0 (sv, xs) :: Fr) w) : Holds B (VecA 3 i64 0 (sv, xs) :: Fr) w := by
  rcases holds_accv h with ⟨rfl, rfl, h2⟩ | ⟨bd, rest, rfl, h2⟩
  · exact vec_nil h2
  · exact vec_row rfl rfl h2
theorem mdel_mem {α : Type} {k : Int} {p : Int × α} : ∀ {l : List (Int × α)}, p ∈ mdel l k → p ∈ l
  | [], h => h
  | q :: l, h => by
    unfold mdel at h
    split at h
    · exact List.mem_cons_of_mem _ h
    · rcases List.mem_cons.1 h with rfl | h
      · exact List.mem_cons_self ..
      · exact List.mem_cons_of_mem _ (mdel_mem h)
theorem mdel_nodup {α : Type} {k : Int} : ∀ {l : List (Int × α)}, (l.map Prod.fst).Nodup → ((mdel l k).map Prod.fst).Nodup
  | [], h => h
  | q :: l, h => by
    rw [List.map_cons, List.nodup_cons] at h
    unfold mdel
    split
    · exact h.2
    · rw [List.map_cons, List.nodup_cons]
      refine ⟨fun hm => h.1 ?_, mdel_nodup h.2⟩
      obtain ⟨p, hp, e⟩ := List.mem_map.1 hm
      exact List.mem_map.2 ⟨p, mdel_mem hp, e⟩
theorem mget_notin {α : Type} {k : Int} : ∀ {l : List (Int × α)}, k ∉ l.map Prod.fst → mget l k = none
  | [], _ => rfl
  | q :: l, h => by
    rw [List.map_cons, List.mem_cons] at h
    unfold mget
    rw [if_neg (fun e => h (.inl e.symm)), mget_notin fun hm => h (.inr hm)]
theorem mget_mdel {α : Type} {k j : Int} : ∀ {l : List (Int × α)}, (l.map Prod.fst).Nodup → mget (mdel l k) j = if j = k then none else mget l j
  | [], _ => by unfold mdel mget; split <;> rfl
  | q :: l, h => by
    rw [List.map_cons, List.nodup_cons] at h
    unfold mdel
    split
    · rename_i hq
      by_cases hj : j = k
      · rw [if_pos hj]; subst hj; subst hq; exact mget_notin h.1
      · rw [if_neg hj]; conv => rhs; unfold mget
        rw [if_neg (fun e => hj (by rw [← e, hq]))]
    · rename_i hq
      conv => lhs; unfold mget
      by_cases hj : q.1 = j
      · rw [if_pos hj, if_neg (fun e => hq (by rw [hj, e]))]; unfold mget; rw [if_pos hj]
      · rw [if_neg hj, mget_mdel h.2]; conv => rhs; unfold mget
        rw [if_neg hj]
theorem mset_nodup {α : Type} {k : Int} {a : α} {l : List (Int × α)} (h : (l.map Prod.fst).Nodup) : ((mset l k a).map Prod.fst).Nodup := by
  by_cases hk : k ∈ l.map Prod.fst
  · rw [mset_keys hk]; exact h
  · rw [mset_none (mget_notin hk), List.map_append, List.nodup_append]
    exact ⟨h, by simp, fun x hx y hy => by simp at hy; subst hy; intro e; subst e; exact hk hx⟩
structure TabW (T : TabS) : Prop where
  last : 0 ≤ T.last
  n1 : (T.at_.map Prod.fst).Nodup
  n2 : (T.no.map Prod.fst).Nodup
  fwd : ∀ n p, mget T.at_ n = some p → mget T.no p = some n ∧ 1 ≤ n ∧ n ≤ T.last ∧ p ≠ 0
  bwd : ∀ p n, mget T.no p = some n → mget T.at_ n = some p
theorem tab_w0 : TabW ⟨[], [], 0⟩ := ⟨Int.le_refl 0, List.nodup_nil, List.nodup_nil, (fun _ _ h => by cases h), (fun _ _ h => by cases h)⟩
theorem TabW.len {T : TabS} (h : TabW T) : (T.at_.length : Int) ≤ T.last := by
  have h0 := h.last
  have := nodup_len T.last.toNat 1 _ h.n1 fun k hk => by
    cases hm : mget T.at_ k with
    | none => exact absurd hk (mget_none hm)
    | some p => have := h.fwd k p hm; omega
  simp only [List.length_map] at this; omega
theorem TabW.take {T : TabS} (h : TabW T) {p : Int} (hp : p ≠ 0) : TabW (T.take p).2 ∧ mget (T.take p).2.at_ (T.take p).1 = some p ∧ (1 ≤ (T.take p).1 ∧ (T.take p).1 ≤ (T.take p).2.last) ∧ (T.last ≤ (T.take p).2.last ∧ (T.take p).2.last ≤ T.last + 1) ∧ (∀ n, n ≠ (T.take p).1 → mget (T.take p).2.at_ n = mget T.at_ n) ∧
    ((mget T.no p = some (T.take p).1 ∧ (T.take p).2 = T) ∨ (mget T.no p = none ∧ (T.take p).1 = T.last + 1 ∧ (T.take p).2 = ⟨T.at_ ++ [(T.last + 1, p)], T.no ++ [(p, T.last + 1)], T.last + 1⟩)) := by
  have h0 := h.last
  unfold TabS.take
  rw [if_neg hp]
  cases hm : mget T.no p with
  | some n =>
    simp only [Option.isSome_some, if_true, Option.getD_some]
    have h1 := h.bwd p n hm
    have h2 := h.fwd n p h1
    exact ⟨h, h1, ⟨h2.2.1, h2.2.2.1⟩, ⟨by omega, by omega⟩, fun _ _ => by first | rfl | trivial, .inl (by simp)⟩
  | none =>
    simp only [Option.isSome_none, Bool.false_eq_true, if_false]
    have hn : mget T.at_ (T.last + 1) = none := by
      cases hx : mget T.at_ (T.last + 1) with
      | none => rfl
      | some q => have := h.fwd _ _ hx; omega
    refine ⟨⟨by first | omega | (simp only; omega), mset_nodup h.n1, mset_nodup h.n2, fun n q hq => ?_, fun q n hq => ?_⟩, by simp only [mget_mset, if_true], ⟨by first | omega | (simp only; omega), by first | omega | (simp only; omega)⟩, ⟨by first | omega | (simp only; omega), by first | omega | (simp only; omega)⟩, fun n hne => by simp only [mget_mset]; rw [if_neg hne], .inr ⟨trivial, trivial, by rw [mset_none hn, mset_none hm]⟩⟩
    · simp only [mget_mset] at hq ⊢
      split at hq
      · rename_i e; cases hq; subst e; exact ⟨if_pos rfl, by omega, by omega, hp⟩
      · rename_i e
        have h1 := h.fwd n q hq
        exact ⟨by rw [if_neg (fun e => by subst e; rw [hm] at h1; cases h1.1)]; exact h1.1, h1.2.1, by omega, h1.2.2.2⟩
    · simp only [mget_mset] at hq ⊢
      split at hq
      · rename_i e; cases hq; subst e; exact if_pos rfl
      · rename_i e
        have h1 := h.bwd q n hq
        have h2 := h.fwd n q h1
        rw [if_neg (by omega)]; exact h1
def TabS.drop (T : TabS) (n : Int) : TabS := ⟨mdel T.at_ n, if (mget T.at_ n).isSome = true then mdel T.no ((mget T.at_ n).getD 0) else T.no, T.last⟩
theorem TabW.drop {T : TabS} (h : TabW T) (n : Int) : TabW (T.drop n) ∧ (∀ j, mget (T.drop n).at_ j = if j = n then none else mget T.at_ j) := by
  unfold TabS.drop
  have hd : ∀ j, mget (mdel T.at_ n) j = if j = n then none else mget T.at_ j := fun j => mget_mdel h.n1
  refine ⟨?_, hd⟩
  cases hm : mget T.at_ n with
  | none =>
    simp only [Option.isSome_none, Bool.false_eq_true, if_false]
    refine ⟨h.last, mdel_nodup h.n1, h.n2, fun j p hj => ?_, fun p j hj => ?_⟩
    · simp only [hd] at hj; split at hj
      · cases hj
      · exact h.fwd j p hj
    · have h1 := h.bwd p j hj
      simp only [hd]
      rw [if_neg (fun e => by subst e; rw [hm] at h1; cases h1)]; exact h1
  | some q =>
    simp only [Option.isSome_some, if_true, Option.getD_some]
    have hq := h.fwd n q hm
    have hd2 : ∀ j, mget (mdel T.no q) j = if j = q then none else mget T.no j := fun j => mget_mdel h.n2
    refine ⟨h.last, mdel_nodup h.n1, mdel_nodup h.n2, fun j p hj => ?_, fun p j hj => ?_⟩
    · simp only [hd] at hj; split at hj
      · cases hj
      · rename_i hjn
        have h1 := h.fwd j p hj
        refine ⟨?_, h1.2⟩
        simp only [hd2]
        rw [if_neg (fun e => by subst e; rw [h1.1] at hq; exact hjn (by injection hq.1))]; exact h1.1
    · simp only [hd2] at hj; split at hj
      · cases hj
      · rename_i hpq
        have h1 := h.bwd p j hj
        simp only [hd]
        rw [if_neg (fun e => by subst e; rw [hm] at h1; exact hpq (by injection h1 with h1; exact h1.symm))]; exact h1
theorem awake16_ok (B : World) (Fr : List HP) :
    ∀ w, Holds B Fr w → Calls Tryz.prog 46 [].toArray w (PureR B Fr (.bool true)) := by
  refine fn_enter Tryz.func46 rfl Tryz.ntmps46 rfl (g_seq (g_region (kPa rfl rfl (p_nil (g_seq (g_seq (g_region (p_callq rfl (en_f Tryz.call106 rfl) (awake15_ok _ _) .free rfl rfl ?_))))))))
  refine kPv (ev_not rfl) rfl (p_nil (g_iff rfl (rfl) (g_skip (g_seq (g_region ?_)))))
  refine p_call rfl (en_f Tryz.call70 rfl) (hnew_ok _ _) .free rfl rfl ?_ ?_
  rotate_left
  · rintro _ _ ⟨⟩
  rintro _ _ ⟨tb, rfl, rfl⟩
  refine kPa rfl rfl (p_nil (g_seq (g_region (kPm rfl rfl (kPv (ev_eqp Tryz.runUnderlying90 rfl rfl rfl) rfl (kPm rfl rfl (p_val rfl (ev_move rfl) (.on rfl rfl (beq_eq rfl)) rfl rfl ?_)))))))
  refine p_call rfl (en_f Tryz.call57 rfl) (htake_ok _ _ _ _ _ ⟨by decide, by decide⟩) (.on rfl rfl (beq_eq rfl)) rfl rfl ?_ ?_
  rotate_left
  · rintro _ _ ⟨⟩
  rintro _ _ ⟨rfl, rfl⟩
  refine p_val rfl (ev_cmp rfl rfl rfl) (.on rfl rfl (beq_eq rfl)) rfl rfl (kPv (ev_pick_t rfl rfl rfl) rfl (kPm rfl rfl (p_val rfl (ev_move rfl) (.on rfl rfl (beq_eq rfl)) rfl rfl ?_)))
  refine p_call rfl (en_f Tryz.call57 rfl) (htake_ok _ _ _ _ _ ⟨by decide, by decide⟩) (.on rfl rfl (beq_eq rfl)) rfl rfl ?_ ?_
  rotate_left
  · rintro _ _ ⟨⟩
  rintro _ _ ⟨rfl, rfl⟩
  refine p_val rfl (ev_cmp rfl rfl rfl) (.on rfl rfl (beq_eq rfl)) rfl rfl (kPv (ev_pick_t rfl rfl rfl) rfl (kPm rfl rfl (p_val rfl (ev_move rfl) (.on rfl rfl (beq_eq rfl)) rfl rfl ?_)))
  refine p_call rfl (en_f Tryz.call57 rfl) (htake_ok _ _ _ _ _ ⟨by decide, by decide⟩) (.on rfl rfl (beq_eq rfl)) rfl rfl ?_ ?_
  rotate_left
  · rintro _ _ ⟨⟩
  rintro _ _ ⟨rfl, rfl⟩
  refine p_val rfl (ev_cmp rfl rfl rfl) (.on rfl rfl (beq_eq rfl)) rfl rfl (kPv (ev_pick_t rfl rfl rfl) rfl (kPm rfl rfl (p_val rfl (ev_move rfl) (.on rfl rfl (beq_eq rfl)) rfl rfl ?_)))
  refine p_call rfl (en_f Tryz.call57 rfl) (htake_ok _ _ _ _ _ ⟨by decide, by decide⟩) (.on rfl rfl (beq_eq rfl)) rfl rfl ?_ ?_
  rotate_left
  · rintro _ _ ⟨⟩
  rintro _ _ ⟨rfl, rfl⟩
  refine p_val rfl (ev_cmp rfl rfl rfl) (.on rfl rfl (beq_eq rfl)) rfl rfl (kPv (ev_pick_t rfl rfl rfl) rfl (kPa rfl rfl (p_nil (go_sb [0] rfl (g_ret ?_)))))
  exact ret_tmp Tryz.results46 rfl (fun w hh => ⟨rfl, (hh.dp [0])⟩)
end Go.Proofs.YtlcibdhmgclfjaaGreat
