/- A way that words are stored; room for objects; fields that are set; a root block written. Conditions: none. -/
import Derived.Test.YtbfheafpecgphaaGreatObj
set_option linter.unusedSimpArgs false
set_option linter.unusedVariables false
set_option linter.unnecessarySimpa false
set_option linter.unusedSectionVars false
namespace Go.Proofs.YtbfheafpecgphaaGreat
set_option linter.unusedSimpArgs false
set_option linter.unusedVariables false
open Go
/-- A way that words are stored: a function and its first arguments; what it does to a device and to what is beside it. -/
structure StoreF (B : World) (f : FuncId) (fi : List Value) (bd be : Nat) (ε : Type) (ExA : Nat → ε → HP) (op : Int → Int → Dev → ε → Out (Int × ε)) (ok : Dev → ε → Prop) : Prop where
  enter : ∀ args w, (callFunc f args).run Tryz.prog w = .ok (.enter f args) w
  u64 : ∀ s e, ok s e → U64 s
  says : ∀ (Fr : List HP) (i v : Int) (s : Dev) (e : ε), ok s e → ∀ w, Holds B (DevA bd s :: ExA be e :: Fr) w → Calls Tryz.prog f (fi ++ [i64 i, w64 v] ++ []).toArray w (Ret B (fun rv H' => ∃ a e' s', op i v s e = .ok (a, e') s' ∧ rv = i64 a ∧ H' = DevA bd s' :: ExA be e' :: Fr) (fun c H' => ∃ s', op i v s e = .off s' ∧ c = offc ∧ H' = DevA bd s' :: Fr))
  keeps : ∀ i v s e a e' s', ok s e → 0 ≤ v ∧ v < 18446744073709551616 → op i v s e = .ok (a, e') s' → ok s' e'
section
variable {ε : Type}
/-- An object's words: its head, noughts. -/
def fillM (op : Int → Int → Dev → ε → Out (Int × ε)) (at_ h0 : Int) : Nat → Int → Dev → ε → Out ((Int × Int) × ε)
  | 0, _, s, e => .ok ((at_, 0), e) s
  | f + 1, i, s, e => (op (at_ + i) (if i = 0 then h0 else 0) s e).then fun x s => if x.1 ≠ 0 then .ok ((0, x.1), x.2) s else fillM op at_ h0 f (i + 1) s x.2
def allocM (op : Int → Int → Dev → ε → Out (Int × ε)) (c : Cfg) (w r : Int) (s : Dev) (e : ε) : Out ((Int × Int) × ε) :=
  if chkH w r ≠ 0 then .ok ((0, chkH w r), e) s
  else if (s.block c).2 ≠ 0 then .ok ((0, (s.block c).2), e) s
  else if c.space - (s.block c).1.used < w + 1 then .ok ((0, 4), e) s
  else (op (c.active + 1) ((s.block c).1.used + (w + 1)) s e).then fun x s' => if x.1 ≠ 0 then .ok ((0, x.1), x.2) s' else fillM op ((s.block c).1.place c (s.block c).1.used) (packI w r) (w + 1).toNat 0 s' x.2
def setM (op : Int → Int → Dev → ε → Out (Int × ε)) (o : Obj3) (i : Int) (ref : Bool) (v : Int) (s : Dev) (e : ε) : Out (Int × ε) :=
  if (objField o i ref).2 ≠ 0 then .ok ((objField o i ref).2, e) s else op (objField o i ref).1 v s e
def writeN (op : Int → Int → Dev → ε → Out (Int × ε)) : List Int → Int → Dev → ε → Out (Int × ε)
  | [], _, s, e => .ok (0, e) s
  | v :: vs, i, s, e => if s.load i = v then writeN op vs (i + 1) s e else (op i v s e).then fun x s => if x.1 ≠ 0 then .ok x s else writeN op vs (i + 1) s x.2
def writeM (op : Int → Int → Dev → ε → Out (Int × ε)) (c : Cfg) (b : Blk) (s : Dev) (e : ε) : Out (Int × ε) := writeN op (b.act :: b.used :: b.rts) c.active s e
end
theorem packI_b (w r : Int) : 0 ≤ packI w r ∧ packI w r < 18446744073709551616 := by
  unfold packI bitI
  simp only [IntKind.wrap, IntKind.bits, IntKind.signed]
  simp; omega

theorem alloc_ok (B : World) (Fr : List HP) (f : FuncId) (fi : List Value) (bd be : Nat) (ε : Type) (ExA : Nat → ε → HP) (op : Int → Int → Dev → ε → Out (Int × ε)) (ok : Dev → ε → Prop) (hS : StoreF B f fi bd be ε ExA op ok) (c : Cfg) (hc : CfgW c) (w r : Int) (s : Dev) (e : ε) (hok : ok s e) :
    ∀ w_, Holds B (DevA bd s :: ExA be e :: Fr) w_ → Calls Tryz.prog 102 [ptr bd, cfgV c, .agg #[i64 w, i64 r], .func (.func f) fi.toArray #[]].toArray w_ (Ret B (fun rv H' => ∃ x e' s', allocM op c w r s e = .ok (x, e') s' ∧ rv = .tuple #[i64 x.1, i64 x.2] ∧ ok s' e' ∧ H' = DevA bd s' :: ExA be e' :: Fr) (fun ch H' => ∃ s', allocM op c w r s e = .off s' ∧ ch = offc ∧ H' = DevA bd s' :: Fr)) := by
  refine fn_enter Tryz.func102 rfl Tryz.ntmps102 rfl ?_
  have hb := block_w (s := s) hc (hS.u64 _ _ hok)
  have hb1 := hb.act
  have hb2 := hb.used
  have hcs := hc.s2
  have hfb := frm_b hc (k := (s.block c).1.act) (by omega)
  have hplace : (s.block c).1.place c (s.block c).1.used = c.frm (s.block c).1.act + (s.block c).1.used := rfl
  refine g_seq ?_; refine g_region ?_; refine p_chg rfl (ch_boxA rfl) .free rfl rfl ?_
  rintro _ _ ⟨b5, rfl, rfl⟩
  refine p_chg rfl (ch_boxA rfl) .free rfl rfl ?_
  rintro _ _ ⟨b6, rfl, rfl⟩
  refine kPa rfl rfl ?_; refine kPa rfl rfl ?_; refine p_nil ?_; refine g_seq ?_; refine g_seq ?_; refine g_region ?_; refine kPv (ev_loadA Tryz.isAgg87 Tryz.sizeOf87 rfl rfl) rfl ?_; refine p_callq rfl (en_f Tryz.call111 rfl) (hcheck_ok _ _ _ _) .free rfl rfl ?_; refine kPa rfl rfl ?_; refine p_nil ?_; refine g_seq ?_; refine g_region ?_; refine kPm rfl rfl ?_; refine kPv (ev_cmp rfl rfl rfl) rfl ?_; refine p_nil ?_
  refine g_if rfl (fun h21 => ?_) (fun h21 => ?_)
  · have hk1 : chkH w r ≠ 0 := by simpa using h21
    refine g_seq ?_; refine g_region ?_; refine kPm rfl rfl ?_; refine kPa rfl rfl ?_; refine kPa rfl rfl ?_; refine p_nil ?_; refine go_sub (σ' := [(9, _), (8, _), (6, _), (5, _), (0, _), (3, _)]) ⟨rfl, rfl, rfl, rfl, rfl, rfl, trivial⟩ ?_; refine g_ret ?_
    exact ret_tmp2 Tryz.results102 rfl rfl (fun w_ hh => ⟨_, ⟨_, e, s, by unfold allocM; rw [if_pos hk1], rfl, hok, rfl⟩, hh.tail.tail⟩)
  · have hk1 : ¬ chkH w r ≠ 0 := by simpa using h21
    have hwb := chkH_b (w := w) (r := r) (by omega)
    refine g_skip ?_; refine g_seq ?_; refine g_region ?_; refine kPm rfl rfl ?_; refine kPv (ev_loadA Tryz.isAgg30 Tryz.sizeOf30 rfl rfl) rfl ?_; refine go_pull DevA bd ?_
    refine p_call rfl (en_f Tryz.call15 rfl) (rread_ok _ _ _ _ c hc (hS.u64 _ _ hok)) .free rfl rfl ?_ ?_
    rotate_left
    · rintro _ _ ⟨⟩
    rintro _ _ ⟨sv, hsv, rfl, rfl⟩
    refine kPm rfl rfl ?_; refine kPv (ev_ext rfl rfl) rfl ?_; refine kPv (ev_ext rfl rfl) rfl ?_; refine p_chg rfl (ch_allocA Tryz.zeroValue33 rfl) .free rfl rfl ?_
    rintro _ _ ⟨b11, rfl, rfl⟩
    refine p_chg0 rfl (ch_storeA (vs := [i64 (s.block c).1.act, i64 (s.block c).1.used, sv]) Tryz.sizeOf33 rfl rfl rfl (all3 hsv) rfl) .free rfl ?_
    rintro _ _ rfl
    refine kPa rfl rfl ?_; refine p_nil ?_; refine go_sub (σ' := [(12, _), (11, _), (9, _), (8, _), (6, _), (5, _), (3, _)]) ⟨rfl, rfl, rfl, rfl, rfl, rfl, rfl, trivial⟩ ?_; refine g_seq ?_; refine g_seq ?_; refine g_region ?_; refine kPm rfl rfl ?_; refine kPv (ev_cmp rfl rfl rfl) rfl ?_; refine p_nil ?_
    refine g_if rfl (fun h30 => ?_) (fun h30 => ?_)
    · have hk2 : (s.block c).2 ≠ 0 := by simpa using h30
      refine g_seq ?_; refine g_region ?_; refine kPm rfl rfl ?_; refine kPa rfl rfl ?_; refine kPa rfl rfl ?_; refine p_nil ?_; refine g_ret ?_
      exact ret_tmp2 Tryz.results102 rfl rfl (fun w_ hh => ⟨_, ⟨_, e, s, by unfold allocM; rw [if_neg hk1, if_pos hk2], rfl, hok, rfl⟩, ((((((hh.front 0 rfl).tail.front 0 rfl).tail.front 1 rfl).tail.front 1 rfl).tail.front 1 rfl).front 1 rfl)⟩)
    · have hk2 : ¬ (s.block c).2 ≠ 0 := by simpa using h30
      refine g_skip ?_; refine g_seq ?_; refine g_seq ?_; refine g_draw Tryz.mixed (by kernel_rfl) (by kernel_rfl) ?_; refine kQv (ev_loadA Tryz.isAgg87 Tryz.sizeOf87 rfl rfl) rfl ?_; refine q_call rfl (en_f Tryz.call52 rfl) (hsize_ok _ _ _ _ (by omega)) .free rfl ?_; refine kQv (ev_fa (m := _) fa_30_2 rfl rfl) rfl ?_; refine kQv (ev_load Tryz.isAgg3 rfl rfl) rfl ?_; refine kQv (ev_fa (m := _) fa_33_1 rfl rfl) rfl ?_; refine kQv (ev_load Tryz.isAgg3 rfl rfl) rfl ?_
      first | refine q_val rfl (ev_sub rfl rfl (wr64 (by omega))) .free rfl ?_ | refine q_val rfl (ev_sub rfl rfl rfl) .free rfl ?_
      refine kQv (ev_cmp rfl rfl rfl) rfl ?_; refine q_nil ?_; refine go_sub (σ' := [(39, _), (11, _), (9, _), (8, _), (6, _), (5, _), (3, _)]) ⟨rfl, rfl, rfl, rfl, rfl, rfl, rfl, trivial⟩ ?_
      refine g_if rfl (fun h39 => ?_) (fun h39 => ?_)
      · have hk3 : c.space - (s.block c).1.used < w + 1 := by simpa using h39
        refine g_seq ?_; refine g_region ?_; refine kPa rfl rfl ?_; refine kPa rfl rfl ?_; refine p_nil ?_; refine g_ret ?_
        exact ret_tmp2 Tryz.results102 rfl rfl (fun w_ hh => ⟨_, ⟨_, e, s, by unfold allocM; rw [if_neg hk1, if_neg hk2, if_pos hk3], rfl, hok, rfl⟩, ((((((hh.front 0 rfl).tail.front 0 rfl).tail.front 1 rfl).tail.front 1 rfl).tail.front 1 rfl).front 1 rfl)⟩)
      · have hk3 : ¬ c.space - (s.block c).1.used < w + 1 := by simpa using h39
        refine g_skip ?_; refine g_seq ?_; refine g_region ?_; refine kPv (ev_loadA Tryz.isAgg33 Tryz.sizeOf33 rfl rfl) rfl ?_; refine kPv (ev_loadA Tryz.isAgg30 Tryz.sizeOf30 rfl rfl) rfl ?_; refine kPv (ev_fa (m := _) fa_33_1 rfl rfl) rfl ?_; refine kPv (ev_load Tryz.isAgg3 rfl rfl) rfl ?_; refine p_callq rfl (en_f Tryz.call94 rfl) (place_ok _ _ c hc _ sv hb hsv _ (by omega)) .free rfl rfl ?_; refine kPa rfl rfl ?_; refine p_nil ?_; refine g_seq ?_; refine g_seq ?_
        refine g_drawt 9 Tryz.mixed (by kernel_rfl) (by kernel_rfl) ?_; refine kQm rfl rfl ?_; refine kQv (ev_loadA Tryz.isAgg30 Tryz.sizeOf30 rfl rfl) rfl ?_; refine q_call rfl (en_f Tryz.call73 rfl) (cused_ok _ _ c hc) .free rfl ?_; refine kQv (ev_fa (m := _) fa_33_1 rfl rfl) rfl ?_; refine kQv (ev_load Tryz.isAgg3 rfl rfl) rfl ?_; refine kQv (ev_loadA Tryz.isAgg87 Tryz.sizeOf87 rfl rfl) rfl ?_; refine q_call rfl (en_f Tryz.call52 rfl) (hsize_ok _ _ _ _ (by omega)) .free rfl ?_
        first | refine q_val rfl (ev_add rfl rfl (wr64 (by omega))) .free rfl ?_ | refine q_val rfl (ev_add rfl rfl rfl) .free rfl ?_
        refine kQv (ev_conv Tryz.runUnderlying3 Tryz.runUnderlying52 rfl (wru64 (by omega))) rfl ?_; refine q_nil ?_; refine go_pull ExA be ?_; refine go_pull DevA bd ?_
        refine p_call rfl (en_c hS.enter rfl rfl) (hS.says _ _ _ _ _ hok) .free rfl rfl ?_ ?_
        rotate_left
        · rintro _ _ ⟨s9, hm9, rfl, rfl⟩
          exact pan_fn fun w hh => ⟨_, ⟨s9, by unfold allocM; rw [if_neg hk1, if_neg hk2, if_neg hk3]; rw [hm9]; rfl, rfl, rfl⟩, ((((hh.front 4 rfl).front 4 rfl).front 4 rfl).front 4 rfl).tail.tail.tail.tail⟩
        rintro _ _ ⟨a1, e1, s1, hm1, rfl, rfl⟩
        have hok1 := hS.keeps _ _ _ _ _ _ _ hok ⟨by omega, by omega⟩ hm1
        refine kPa rfl rfl ?_; refine p_nil ?_; refine go_sub (σ' := [(14, _), (13, _), (9, _), (8, _), (6, _), (3, _)]) ⟨rfl, rfl, rfl, rfl, rfl, rfl, trivial⟩ ?_; refine g_seq ?_; refine g_region ?_; refine kPm rfl rfl ?_; refine kPv (ev_cmp rfl rfl rfl) rfl ?_; refine p_nil ?_
        refine g_if rfl (fun h56 => ?_) (fun h56 => ?_)
        · have hk4 : a1 ≠ 0 := by simpa using h56
          refine g_seq ?_; refine g_region ?_; refine kPm rfl rfl ?_; refine kPa rfl rfl ?_; refine kPa rfl rfl ?_; refine p_nil ?_; refine g_ret ?_
          exact ret_tmp2 Tryz.results102 rfl rfl (fun w_ hh => ⟨_, ⟨_, e1, s1, by unfold allocM; rw [if_neg hk1, if_neg hk2, if_neg hk3]; rw [hm1, then_ok, if_pos hk4], rfl, hok1, rfl⟩, ((((((hh.front 2 rfl).tail.front 2 rfl).tail.front 2 rfl).tail.front 2 rfl).tail.front 1 rfl).front 1 rfl)⟩)
        · have hk4 : ¬ a1 ≠ 0 := by simpa using h56
          have hmid : allocM op c w r s e = fillM op ((s.block c).1.place c (s.block c).1.used) (packI w r) (w + 1).toNat 0 s1 e1 := by
            unfold allocM; rw [if_neg hk1, if_neg hk2, if_neg hk3, hm1, then_ok, if_neg hk4]
          refine g_skip ?_; refine g_seq ?_; refine g_seq ?_; refine g_region ?_; refine kPv (ev_loadA Tryz.isAgg87 Tryz.sizeOf87 rfl rfl) rfl ?_; refine p_callq rfl (en_f Tryz.call52 rfl) (hsize_ok _ _ _ _ (by omega)) .free rfl rfl ?_; refine kPm rfl rfl ?_; refine p_nil ?_; refine g_block ?_
          refine g_loop (ι := Nat × Dev × ε) (fun i => (i.1 : Int) ≤ w + 1 ∧ ok i.2.1 i.2.2 ∧ fillM op ((s.block c).1.place c (s.block c).1.used) (packI w r) (w + 1).toNat 0 s1 e1 = fillM op ((s.block c).1.place c (s.block c).1.used) (packI w r) ((w + 1).toNat - i.1) i.1 i.2.1 i.2.2) (fun i => [(3, .func (.func f) fi.toArray #[]), (6, ptr b6), (8, i64 0), (9, i64 0), (13, i64 ((s.block c).1.place c (s.block c).1.used)), (59, i64 (w + 1)), (60, i64 i.1)]) (fun i => DevA bd i.2.1 :: ExA be i.2.2 :: row b11 [i64 (s.block c).1.act, i64 (s.block c).1.used, sv] 33 :: VecU 0 (sv, (s.block c).1.rts) :: row b6 [i64 w, i64 r] 87 :: row b5 [i64 c.log, i64 c.roots, i64 c.space] 30 :: Fr) (fun i => (w + 1).toNat - i.1) (0, s1, e1) ⟨by simp only; omega, hok1, rfl⟩ (fun a w st => st.to ⟨rfl, rfl, rfl, rfl, rfl, rfl, rfl, trivial⟩ id) ?_
          rintro ⟨k, sL, eL⟩ ⟨hkw, hok2, hinv⟩
          simp only at hkw hok2 hinv ⊢
          refine g_seq ?_; refine g_region ?_; refine kPv (ev_cmp rfl rfl rfl) rfl ?_; refine p_nil ?_; refine g_seq ?_
          refine g_if rfl (fun h61 => ?_) (fun h61 => ?_)
          · have hk : (k : Int) < w + 1 := by simpa using h61
            refine g_skip ?_; refine g_seq ?_; refine g_block ?_; refine g_seq ?_; refine g_region ?_; refine kPm rfl rfl ?_; refine kPa rfl rfl ?_; refine p_nil ?_; refine g_seq ?_; refine g_region ?_; refine kPa rfl rfl ?_; refine p_nil ?_; refine g_seq ?_; refine g_seq ?_; refine g_region ?_; refine kPm rfl rfl ?_; refine kPv (ev_cmp rfl rfl rfl) rfl ?_; refine p_nil ?_
            refine go_sub (σ' := [(64, _), (16, _), (15, _), (60, _), (59, _), (13, _), (9, _), (8, _), (6, _), (3, _)]) ⟨rfl, rfl, rfl, rfl, rfl, rfl, rfl, rfl, rfl, rfl, trivial⟩ ?_
            refine g_if rfl (fun h64 => ?_) (fun h64 => ?_)
            · have hk0' : k = 0 := by simp at h64; omega
              have hst : fillM op ((s.block c).1.place c (s.block c).1.used) (packI w r) ((w + 1).toNat - k) k sL eL = (op (((s.block c).1.place c (s.block c).1.used) + k) (packI w r) sL eL).then fun x sz => if x.1 ≠ 0 then .ok ((0, x.1), x.2) sz else fillM op ((s.block c).1.place c (s.block c).1.used) (packI w r) ((w + 1).toNat - (k + 1)) ((k : Int) + 1) sz x.2 := by
                rw [show (w + 1).toNat - k = ((w + 1).toNat - (k + 1)) + 1 by omega]
                simp only [fillM]
                rw [if_pos (by omega)]
              have hVb := packI_b w r
              refine g_region ?_; refine kPv (ev_loadA Tryz.isAgg87 Tryz.sizeOf87 rfl rfl) rfl ?_; refine p_callq rfl (en_f Tryz.call112 rfl) (hpack_ok _ _ _ _) .free rfl rfl ?_; refine kPa rfl rfl ?_; refine p_nil ?_; refine g_seq ?_; refine g_region ?_; refine kPm rfl rfl ?_; refine kPm rfl rfl ?_; refine kPm rfl rfl ?_
              first | refine p_val rfl (ev_add rfl rfl (wr64 (by omega))) .free rfl rfl ?_ | refine p_val rfl (ev_add rfl rfl rfl) .free rfl rfl ?_
              refine kPm rfl rfl ?_; refine go_pull ExA be ?_; refine go_pull DevA bd ?_
              refine p_call rfl (en_c hS.enter rfl rfl) (hS.says _ _ _ _ _ hok2) .free rfl rfl ?_ ?_
              rotate_left
              · rintro _ _ ⟨s9, hm9, rfl, rfl⟩
                exact pan_fn fun w hh => ⟨_, ⟨s9, by rw [hmid, hinv, hst, hm9]; rfl, rfl, rfl⟩, ((((hh.front 4 rfl).front 4 rfl).front 4 rfl).front 4 rfl).tail.tail.tail.tail⟩
              rintro _ _ ⟨a2, e2, s2, hm2, rfl, rfl⟩
              have hok3 := hS.keeps _ _ _ _ _ _ _ hok2 hVb hm2
              refine kPa rfl rfl ?_; refine p_nil ?_; refine go_sub (σ' := [(17, _), (60, _), (59, _), (13, _), (9, _), (8, _), (6, _), (3, _)]) ⟨rfl, rfl, rfl, rfl, rfl, rfl, rfl, rfl, trivial⟩ ?_; refine g_seq ?_; refine g_region ?_; refine kPm rfl rfl ?_; refine kPv (ev_cmp rfl rfl rfl) rfl ?_; refine p_nil ?_
              refine g_if rfl (fun h74 => ?_) (fun h74 => ?_)
              · have hk5 : a2 ≠ 0 := by simpa using h74
                refine g_seq ?_; refine g_region ?_; refine kPm rfl rfl ?_; refine kPa rfl rfl ?_; refine kPa rfl rfl ?_; refine p_nil ?_; refine g_ret ?_
                exact ret_tmp2 Tryz.results102 rfl rfl (fun w_ hh => ⟨_, ⟨_, e2, s2, by rw [hmid, hinv, hst, hm2, then_ok, if_pos hk5], rfl, hok3, rfl⟩, ((((((hh.front 2 rfl).tail.front 2 rfl).tail.front 2 rfl).tail.front 2 rfl).tail.front 1 rfl).front 1 rfl)⟩)
              · have hk5 : ¬ a2 ≠ 0 := by simpa using h74
                refine g_skip ?_; refine g_region ?_
                first | refine p_val rfl (ev_add rfl rfl (wr64 (by omega))) .free rfl rfl ?_ | refine p_val rfl (ev_add rfl rfl rfl) .free rfl rfl ?_
                refine kPm rfl rfl ?_; refine p_nil ?_
                exact fun a w_ st => ⟨(k + 1, s2, e2), ⟨by simp only; omega, hok3, by rw [hinv, hst, hm2, then_ok, if_neg hk5]; push_cast; rfl⟩, by simp only; omega, st.to ⟨rfl, rfl, rfl, rfl, rfl, rfl, rfl, trivial⟩ id⟩
            · have hk0' : k ≠ 0 := by simp at h64; omega
              have hst : fillM op ((s.block c).1.place c (s.block c).1.used) (packI w r) ((w + 1).toNat - k) k sL eL = (op (((s.block c).1.place c (s.block c).1.used) + k) 0 sL eL).then fun x sz => if x.1 ≠ 0 then .ok ((0, x.1), x.2) sz else fillM op ((s.block c).1.place c (s.block c).1.used) (packI w r) ((w + 1).toNat - (k + 1)) ((k : Int) + 1) sz x.2 := by
                rw [show (w + 1).toNat - k = ((w + 1).toNat - (k + 1)) + 1 by omega]
                simp only [fillM]
                rw [if_neg (by omega)]
              have hVb : (0 : Int) ≤ 0 ∧ (0 : Int) < 18446744073709551616 := by decide
              refine g_skip ?_; refine g_seq ?_; refine g_region ?_; refine kPm rfl rfl ?_; refine kPm rfl rfl ?_; refine kPm rfl rfl ?_
              first | refine p_val rfl (ev_add rfl rfl (wr64 (by omega))) .free rfl rfl ?_ | refine p_val rfl (ev_add rfl rfl rfl) .free rfl rfl ?_
              refine kPm rfl rfl ?_; refine go_pull ExA be ?_; refine go_pull DevA bd ?_
              refine p_call rfl (en_c hS.enter rfl rfl) (hS.says _ _ _ _ _ hok2) .free rfl rfl ?_ ?_
              rotate_left
              · rintro _ _ ⟨s9, hm9, rfl, rfl⟩
                exact pan_fn fun w hh => ⟨_, ⟨s9, by rw [hmid, hinv, hst, hm9]; rfl, rfl, rfl⟩, ((((hh.front 4 rfl).front 4 rfl).front 4 rfl).front 4 rfl).tail.tail.tail.tail⟩
              rintro _ _ ⟨a2, e2, s2, hm2, rfl, rfl⟩
              have hok3 := hS.keeps _ _ _ _ _ _ _ hok2 hVb hm2
              refine kPa rfl rfl ?_; refine p_nil ?_; refine go_sub (σ' := [(17, _), (60, _), (59, _), (13, _), (9, _), (8, _), (6, _), (3, _)]) ⟨rfl, rfl, rfl, rfl, rfl, rfl, rfl, rfl, trivial⟩ ?_; refine g_seq ?_; refine g_region ?_; refine kPm rfl rfl ?_; refine kPv (ev_cmp rfl rfl rfl) rfl ?_; refine p_nil ?_
              refine g_if rfl (fun h74 => ?_) (fun h74 => ?_)
              · have hk5 : a2 ≠ 0 := by simpa using h74
                refine g_seq ?_; refine g_region ?_; refine kPm rfl rfl ?_; refine kPa rfl rfl ?_; refine kPa rfl rfl ?_; refine p_nil ?_; refine g_ret ?_
                exact ret_tmp2 Tryz.results102 rfl rfl (fun w_ hh => ⟨_, ⟨_, e2, s2, by rw [hmid, hinv, hst, hm2, then_ok, if_pos hk5], rfl, hok3, rfl⟩, ((((((hh.front 2 rfl).tail.front 2 rfl).tail.front 2 rfl).tail.front 2 rfl).tail.front 1 rfl).front 1 rfl)⟩)
              · have hk5 : ¬ a2 ≠ 0 := by simpa using h74
                refine g_skip ?_; refine g_region ?_
                first | refine p_val rfl (ev_add rfl rfl (wr64 (by omega))) .free rfl rfl ?_ | refine p_val rfl (ev_add rfl rfl rfl) .free rfl rfl ?_
                refine kPm rfl rfl ?_; refine p_nil ?_
                exact fun a w_ st => ⟨(k + 1, s2, e2), ⟨by simp only; omega, hok3, by rw [hinv, hst, hm2, then_ok, if_neg hk5]; push_cast; rfl⟩, by simp only; omega, st.to ⟨rfl, rfl, rfl, rfl, rfl, rfl, rfl, trivial⟩ id⟩
          · have hk : ¬ (k : Int) < w + 1 := by simpa using h61
            refine g_exit ?_; refine g_seq ?_; refine g_region ?_; refine kPm rfl rfl ?_; refine kPa rfl rfl ?_; refine kPa rfl rfl ?_; refine p_nil ?_; refine go_sub (σ' := [(9, _), (8, _)]) ⟨rfl, rfl, trivial⟩ ?_; refine g_ret ?_
            exact ret_tmp2 Tryz.results102 rfl rfl (fun w_ hh => ⟨_, ⟨(((s.block c).1.place c (s.block c).1.used), 0), eL, sL, by rw [hmid, hinv, show (w + 1).toNat - k = 0 by omega]; rfl, rfl, hok2, rfl⟩, ((((((hh.front 2 rfl).tail.front 2 rfl).tail.front 2 rfl).tail.front 2 rfl).tail.front 1 rfl).front 1 rfl)⟩)

end Go.Proofs.YtbfheafpecgphaaGreat
