/- Part of the texts beneath a law: what its proof names. Conditions: none. -/
import Derived.Test.YtbfheafpecgphaaGreatQL15Fh
set_option linter.unusedSimpArgs false
set_option linter.unusedVariables false
set_option linter.unnecessarySimpa false
set_option linter.unusedSectionVars false
namespace Go.Proofs.YtbfheafpecgphaaGreat
open Go
theorem fillM_res {ε : Type} {op : Int → Int → Dev → ε → Out (Int × ε)} {a h : Int} : ∀ (f : Nat) (i : Int) (s s' : Dev) (e e' : ε) (x : Int × Int), fillM op a h f i s e = .ok (x, e') s' → x.2 = 0 → x.1 = a
  | 0, _, s, s', e, e', x, hm, hx => by cases hm; rfl
  | f + 1, i, s, s', e, e', x, hm, hx => by
    unfold fillM at hm
    obtain ⟨y, s1, e1, hm⟩ := then_inv hm
    split at hm
    · cases hm; rename_i hne; exact absurd hx hne
    · exact fillM_res f _ s1 s' _ e' x hm hx
theorem allocM_res {ε : Type} {op : Int → Int → Dev → ε → Out (Int × ε)} {c : Cfg} {w r : Int} {s s' : Dev} {e e' : ε} {x : Int × Int} (hm : allocM op c w r s e = .ok (x, e') s') (hx : x.2 = 0) : x.1 = (s.block c).1.place c (s.block c).1.used := by
  unfold allocM at hm
  split at hm
  · rename_i h; cases hm; exact absurd hx h
  split at hm
  · rename_i h; cases hm; exact absurd hx h
  split at hm
  · cases hm; exact absurd hx (by decide)
  obtain ⟨y, s1, e1, hm⟩ := then_inv hm
  split at hm
  · rename_i h; cases hm; exact absurd hx h
  · exact fillM_res _ _ _ _ _ _ _ hm hx
theorem fillM_keeps {ε : Type} {op : Int → Int → Dev → ε → Out (Int × ε)} {ok : Dev → ε → Prop} (K : ∀ i v s e a e' s', ok s e → 0 ≤ v ∧ v < 18446744073709551616 → op i v s e = .ok (a, e') s' → ok s' e') {a h : Int} (hh : 0 ≤ h ∧ h < 18446744073709551616) : ∀ (f : Nat) (i : Int) (s s' : Dev) (e e' : ε) (x : Int × Int), ok s e → fillM op a h f i s e = .ok (x, e') s' → ok s' e'
  | 0, _, s, s', e, e', x, h0, hm => by cases hm; exact h0
  | f + 1, i, s, s', e, e', x, h0, hm => by
    unfold fillM at hm
    obtain ⟨⟨y, e1⟩, s1, h1, hm⟩ := then_inv hm
    have h2 := K _ _ _ _ _ _ _ h0 (by split <;> first | exact hh | decide) h1
    split at hm
    · cases hm; exact h2
    · exact fillM_keeps K hh f _ s1 s' _ e' x h2 hm
theorem allocM_keeps {ε : Type} {op : Int → Int → Dev → ε → Out (Int × ε)} {ok : Dev → ε → Prop} (K : ∀ i v s e a e' s', ok s e → 0 ≤ v ∧ v < 18446744073709551616 → op i v s e = .ok (a, e') s' → ok s' e') {c : Cfg} (hc : CfgW c) {w r : Int} {s s' : Dev} {e e' : ε} {x : Int × Int} (hb : BlkW c (s.block c).1) (h0 : ok s e) (hm : allocM op c w r s e = .ok (x, e') s') : ok s' e' := by
  have h1 := hb.used
  have h2 := hc.s2
  unfold allocM at hm
  split at hm
  · cases hm; exact h0
  rename_i hk
  have hw := chkH_b (w := w) (r := r) (by omega)
  split at hm
  · cases hm; exact h0
  split at hm
  · cases hm; exact h0
  obtain ⟨⟨y, e1⟩, s1, h3, hm⟩ := then_inv hm
  have h4 := K _ _ _ _ _ _ _ h0 ⟨by omega, by omega⟩ h3
  split at hm
  · cases hm; exact h4
  · exact fillM_keeps K (packI_b w r) _ _ _ _ _ _ _ h4 hm
theorem devOp_keeps : ∀ (i v : Int) (s : Dev) (e : Unit) (a : Int) (e' : Unit) (s' : Dev), U64 s → 0 ≤ v ∧ v < 18446744073709551616 → devOp i v s e = .ok (a, e') s' → U64 s' := fun i v s e a e' s' h hv hm => by
  obtain ⟨_, s1, h1, hm⟩ := then_inv hm
  cases hm; exact (store_u64 h hv h1).1
theorem place_b {c : Cfg} (hc : CfgW c) {b : Blk} (hb : BlkW c b) {i : Int} (hi : 0 ≤ i ∧ i ≤ c.space) : 0 ≤ b.place c i ∧ b.place c i ≤ 20000 := by
  have h1 := frm_b hc (k := b.act) (by have := hb.act; omega)
  have h2 := hb.act
  unfold Blk.place
  rcases (by omega : b.act = 0 ∨ b.act = 1) with e | e <;> (rw [e] at h1 ⊢; omega)
theorem fillN_b {c : Cfg} (hc : CfgW c) : ∀ (hs : List (Int × Int)) (s s' : Dev) (acc out : List Int), U64 s → fillN c hs s acc = .ok out s' → (∀ a ∈ acc, 0 ≤ a ∧ a ≤ 20000) → ∀ a ∈ out, 0 ≤ a ∧ a ≤ 20000
  | [], s, s', acc, out, _, hm, h => by cases hm; exact h
  | t :: hs, s, s', acc, out, hu, hm, h => by
    unfold fillN at hm
    obtain ⟨⟨x, e'⟩, s1, e1, hm⟩ := then_inv hm
    have hb := block_w (s := s) hc hu
    refine fillN_b hc hs s1 s' _ out (allocM_keeps (ok := fun s _ => U64 s) devOp_keeps hc hb hu e1) hm fun a ha => ?_
    split at ha
    · rename_i hx
      rcases List.mem_append.1 ha with ha | ha
      · exact h a ha
      · rw [List.mem_singleton.1 ha, allocM_res e1 hx]
        exact place_b hc hb hb.used
    · exact h a ha
theorem objOf_w {s : Dev} {c : Cfg} (hc : CfgW c) {b : Blk} (hb : BlkW c b) {a : Int} (h : (s.objOf c b a).2 = 0) : ObjW (s.objOf c b a).1 := by
  unfold Dev.objOf at h ⊢
  split at h
  · cases h
  split at h
  · cases h
  rename_i h1 h2
  rw [if_neg h1, if_neg h2]
  have h3 := unp_b (s.load a)
  have h4 := bhas_b hc hb (w := a) (by cases hh : b.has c a with
    | true => rfl
    | false => exact absurd (.inr hh) h1)
  exact ⟨⟨h3.1, h3.2.1⟩, ⟨h3.2.2.1, h3.2.2.2⟩, ⟨by simp only; omega, by simp only; omega⟩⟩
theorem good_set {o : Obj3} {i v : Int} {r : Bool} {s : Dev} (h1 : s.pow.lim < 0) : Good (setM devOp o i r v s ()) (fun _ => True) s.n := by
  unfold setM
  split
  · exact ⟨_, _, rfl, trivial, h1, rfl⟩
  · exact good_op h1
theorem opointD_ok (B : World) (Fr : List HP) (bd : Nat) (o : Obj3) (ho : ObjW o) (i v : Int) (hv : 0 ≤ v ∧ v ≤ 9223372036854775807) (s : Dev) (hl : s.pow.lim < 0) (hu : U64 s) :
    ∀ w_, Holds B (DevA bd s :: Fr) w_ → Calls Tryz.prog 69 [objV o, i64 i, i64 v, .func (.func 70) [ptr bd].toArray #[]].toArray w_ (Ret B (fun rv H' => ∃ x s', setM devOp o i true v s () = .ok (x, ()) s' ∧ rv = i64 x ∧ s'.pow.lim < 0 ∧ s'.n = s.n ∧ U64 s' ∧ H' = DevA bd s' :: Fr) (fun _ _ => False)) := fun w_ hh => by
  obtain ⟨y, s2, hg, _, hg2, hg3⟩ := good_set (o := o) (i := i) (v := v) (r := true) hl
  refine (opoint_ok B Fr _ [ptr bd] bd 0 Unit (fun _ _ => pr True) devOp _ (storeD B bd 0) o ho i v hv s () hu w_ ((hh.unpr (p := True) trivial).back 1 (by simp))).mono fun en w' h => ?_
  cases en with
  | returned rv =>
    obtain ⟨H, ⟨x, e', s', hm, rfl, hok, rfl⟩, hh⟩ := h
    obtain ⟨rfl, rfl⟩ : y = (x, e') ∧ s2 = s' := by rw [hg] at hm; cases hm; exact ⟨rfl, rfl⟩
    exact ⟨_, ⟨x, s2, hm, rfl, hg2, hg3, hok, rfl⟩, (hh.front 1 rfl).tail⟩
  | panicked c =>
    obtain ⟨H, ⟨s', hm, _⟩, _⟩ := h
    rw [hg] at hm; cases hm
  | outgrown => exact h
theorem fillN_len {c : Cfg} : ∀ {hs : List (Int × Int)} {s s' : Dev} {acc out : List Int}, fillN c hs s acc = .ok out s' → out.length ≤ acc.length + hs.length
  | [], s, s', acc, out, hm => by cases hm; exact Nat.le_add_right _ _
  | t :: hs, s, s', acc, out, hm => by
    unfold fillN at hm
    obtain ⟨⟨x, e'⟩, s1, e1, hm⟩ := then_inv hm
    have := fillN_len hm
    split at this
    · simp at this ⊢; omega
    · simp at this ⊢; omega
theorem nstoreL_ok (B : World) (Fr : List HP) (b : Nat) (s : Dev) (i v : Int) (hl : s.pow.lim < 0) (hu : U64 s) (hv : 0 ≤ v ∧ v < 18446744073709551616) :
    ∀ w, Holds B (DevA b s :: Fr) w → Calls Tryz.prog 70 [ptr b, i64 i, w64 v].toArray w (Ret B (fun rv H' => ∃ x s', s.store i v = .ok x s' ∧ rv = i64 x ∧ s'.pow.lim < 0 ∧ s'.n = s.n ∧ U64 s' ∧ H' = DevA b s' :: Fr) (fun _ _ => False)) := fun w hh => by
  obtain ⟨y, s2, hg, _, hg2, hg3⟩ := good_store (i := i) (v := v) hl
  refine (nstore_ok B Fr b s i v w hh).mono fun en w' h => ?_
  cases en with
  | returned rv =>
    obtain ⟨H, ⟨s', ⟨a, hm, rfl⟩, rfl⟩, hh⟩ := h
    obtain ⟨rfl, rfl⟩ : y = a ∧ s2 = s' := by rw [hg] at hm; cases hm; exact ⟨rfl, rfl⟩
    exact ⟨_, ⟨y, s2, hg, rfl, hg2, hg3, (store_u64 hu hv hg).1, rfl⟩, hh⟩
  | panicked c =>
    obtain ⟨H, ⟨s', ⟨hm, _⟩, _⟩, _⟩ := h
    rw [hg] at hm; cases hm
  | outgrown => exact h
theorem go_vecq {B : World} {n : Nat} {D : List Deferred} {σ : Env} {Fr : List HP} {K : Act → World → Prop} {T : TypeId} {enc : Int → Value} {sv : Value} {xs : List Int} (h : ∀ q cap, sv = .slice q xs.length cap → (∀ i, i < xs.length → ∃ b off, q = some ⟨b, off, none⟩) → GO B n D σ (VecA T enc 0 (sv, xs) :: Fr) K) : GO B n D σ (VecA T enc 0 (sv, xs) :: Fr) K := fun a w st => by
  rcases holds_vec st.holds with ⟨e1, e2, _⟩ | ⟨bd, pre, rest, k, _, e, _⟩
  · exact h none 0 (by rw [e2, e1]; rfl) (fun i hi => by rw [e1] at hi; exact absurd hi (Nat.not_lt_zero _)) a w st
  · exact h _ _ e (fun _ _ => ⟨_, _, rfl⟩) a w st
def pickL (l out : List Int) (sp : Int) (k : Nat) : Int :=
  if l.length ≤ k ∨ out.length = 0 ∨ l.getD k 0 % 5 = 0 then 0
  else if 0 < sp ∧ l.getD k 0 % sp = 1 then out.getD (l.getD k 0 % out.length).toNat 0 + 1 else out.getD (l.getD k 0 % out.length).toNat 0
theorem pickL_b {l out : List Int} {sp : Int} {k : Nat} (hob : ∀ x ∈ out, 0 ≤ x ∧ x ≤ 20000) : 0 ≤ pickL l out sp k ∧ pickL l out sp k ≤ 20001 := by
  have h : ∀ j, 0 ≤ out.getD j 0 ∧ out.getD j 0 ≤ 20000 := fun j => by
    rw [List.getD_eq_getElem?_getD]
    by_cases hj : j < out.length
    · rw [List.getElem?_eq_getElem hj]; exact hob _ (List.getElem_mem hj)
    · rw [List.getElem?_eq_none (by omega)]; decide
  unfold pickL
  split
  · decide
  · have h1 := h (l.getD k 0 % (out.length : Int)).toNat
    split <;> omega
def linkRefs (f : Nat → Int) (o : Obj3) : Nat → Nat → Int → Dev → Out Nat
  | 0, n, _, s => .ok n s
  | k + 1, n, i, s => (setM devOp o i true (f n) s ()).then fun _ s' => linkRefs f o k (n + 1) (i + 1) s'
def linkObjs (c : Cfg) (b : Blk) (f : Nat → Int) : List Int → Nat → Dev → Out (Option Nat)
  | [], n, s => .ok (some n) s
  | a :: t, n, s => if (s.objOf c b a).2 ≠ 0 then .ok none s else (linkRefs f (s.objOf c b a).1 (s.objOf c b a).1.2.1.toNat n 0 s).then fun n' s' => linkObjs c b f t n' s'
theorem linkObjs_cons (c : Cfg) (b : Blk) (f : Nat → Int) (a : Int) (t : List Int) (n : Nat) (s : Dev) : linkObjs c b f (a :: t) n s = if (s.objOf c b a).2 ≠ 0 then .ok none s else (linkRefs f (s.objOf c b a).1 (s.objOf c b a).1.2.1.toNat n 0 s).then fun n' s' => linkObjs c b f t n' s' := rfl
def linkRoots (c : Cfg) (f : Nat → Int) : Nat → Nat → Int → Dev → Out Nat
  | 0, n, _, s => .ok n s
  | k + 1, n, i, s => (s.store (c.root i) (f n)).then fun _ s' => linkRoots c f k (n + 1) (i + 1) s'
theorem lclos_ok (B : World) (Fr : List HP) (b0 b1 b2 b3 : Nat) (n : Nat) (ql qo : Option Addr) (cl co : Nat) (l out : List Int) (sp : Int) (hn : n ≤ 1000000000) (hl : SlR B Fr (.slice ql l.length cl) (l.map u16)) (ho : SlR B Fr (.slice qo out.length co) (out.map i64)) (hlb : ∀ x ∈ l, 0 ≤ x ∧ x < 65536) (hob : ∀ x ∈ out, 0 ≤ x ∧ x ≤ 20000) (hlen : l.length ≤ 1000000 ∧ out.length ≤ 1000000) (hsp : 0 ≤ sp ∧ sp < 256) (hql : ∀ i, i < l.length → ∃ b off, ql = some ⟨b, off, none⟩) (hqo : ∀ i, i < out.length → ∃ b off, qo = some ⟨b, off, none⟩) :
    ∀ w, Holds B (row b0 [i64 n] 3 :: row b1 [.slice ql l.length cl] 26 :: row b2 [.slice qo out.length co] 34 :: row b3 [u8 sp] 5 :: Fr) w → Calls Tryz.prog 68 [ptr b0, ptr b1, ptr b2, ptr b3].toArray w (Ret B (fun rv H' => rv = w64 (pickL l out sp n) ∧ H' = row b0 [i64 (n + 1 : Nat)] 3 :: row b1 [.slice ql l.length cl] 26 :: row b2 [.slice qo out.length co] 34 :: row b3 [u8 sp] 5 :: Fr) (fun _ _ => False)) := by
  refine fn_enter Tryz.func68 rfl Tryz.ntmps68 rfl ?_; refine g_seq ?_; refine g_region ?_; refine kPa rfl rfl ?_; refine p_nil ?_; refine g_seq ?_; refine g_seq ?_; refine g_region ?_; refine kPv (ev_load Tryz.isAgg3 rfl rfl) rfl ?_
  first | refine p_val rfl (ev_add rfl rfl (wr64 (by omega))) .free rfl rfl ?_ | refine p_val rfl (ev_add rfl rfl rfl) .free rfl rfl ?_
  refine p_chg0 rfl (ch_store Tryz.sizeOf3 rfl rfl rfl rfl) .free rfl ?_
  rintro _ _ rfl
  refine p_nil ?_; refine g_seq ?_; refine g_region ?_; refine kPv (ev_load Tryz.isAgg3 rfl rfl) rfl ?_; refine kPv (ev_load Tryz.isAgg26 rfl rfl) rfl ?_; refine kPv (ev_len rfl Tryz.runUnderlying26 ⟨_, rfl⟩ rfl) rfl ?_; refine kPv (ev_cmp rfl rfl rfl) rfl ?_; refine kPm rfl rfl ?_
  apply p_or (tp := 16) (t := 12) (σ1 := [(12, _), (4, _), (0, _), (1, _), (2, _), (3, _)]) 4 rfl ⟨rfl, rfl, rfl, rfl, rfl, rfl, trivial⟩
  · intro hg1
    refine p_val rfl (ev_load Tryz.isAgg34 rfl rfl) (.on rfl rfl (beq_eq hg1)) rfl rfl ?_; refine p_val rfl (ev_len rfl Tryz.runUnderlying34 ⟨_, rfl⟩ rfl) (.on rfl rfl (beq_eq hg1)) rfl rfl ?_; refine p_val rfl (ev_cmp rfl rfl rfl) (.on rfl rfl (beq_eq hg1)) rfl rfl ?_; refine kPv (ev_pick_f rfl hg1 rfl) rfl ?_
    exact p_seg rfl ⟨rfl, rfl, rfl, rfl, rfl, rfl, trivial⟩ (or_f hg1)
  · intro hg1
    refine p_skip rfl (.on rfl rfl (beq_ne hg1)) rfl ?_; refine p_skip rfl (.on rfl rfl (beq_ne hg1)) rfl ?_; refine p_skip rfl (.on rfl rfl (beq_ne hg1)) rfl ?_; refine kPv (ev_pick_t rfl hg1 rfl) rfl ?_
    exact p_seg rfl ⟨rfl, rfl, rfl, rfl, rfl, rfl, trivial⟩ (or_t hg1)
  refine kPm rfl rfl ?_
  apply p_or (tp := 25) (t := 17) (σ1 := [(17, _), (4, _), (0, _), (1, _), (2, _), (3, _)]) 8 rfl ⟨rfl, rfl, rfl, rfl, rfl, rfl, trivial⟩
  · intro hg2
    refine p_val rfl (ev_load Tryz.isAgg26 rfl rfl) (.on rfl rfl (beq_eq hg2)) rfl rfl ?_; refine p_val rfl (ev_load Tryz.isAgg3 rfl rfl) (.on rfl rfl (beq_eq hg2)) rfl rfl ?_
    first | refine p_val rfl (ev_sub rfl rfl (wr64 (by omega))) (.on rfl rfl (beq_eq hg2)) rfl rfl ?_ | refine p_val rfl (ev_sub rfl rfl rfl) (.on rfl rfl (beq_eq hg2)) rfl rfl ?_
    have hnl : n < l.length := by simp at hg2; omega
    obtain ⟨bL, oL, rfl⟩ := hql n hnl
    have hn1 : ((n : Int) + 1 - 1).toNat = n := by omega
    have hlx := hlb (l.getD n 0) (by rw [List.getD_eq_getElem?_getD, List.getElem?_eq_getElem hnl]; exact List.getElem_mem hnl)
    refine p_val rfl (ev_iaS Tryz.runUnderlying26 Tryz.sizeOf22 rfl rfl (by omega) (by omega)) (.on rfl rfl (beq_eq hg2)) rfl rfl ?_; refine p_val rfl (ev_loadS (v := u16 (l.getD n 0)) Tryz.isAgg22 ((((hl.cons _).cons _).cons _).cons _) rfl (by rw [hn1]; simp [hnl])) (.on rfl rfl (beq_eq hg2)) rfl rfl ?_
    refine p_val rfl (ev_rem (c := l.getD n 0 % 5) rfl rfl (by decide) (rem_e 5 (by omega))) (.on rfl rfl (beq_eq hg2)) rfl rfl ?_; refine p_val rfl (ev_cmp rfl rfl rfl) (.on rfl rfl (beq_eq hg2)) rfl rfl ?_; refine kPv (ev_pick_f rfl hg2 rfl) rfl ?_
    exact p_seg rfl ⟨rfl, rfl, rfl, rfl, rfl, rfl, trivial⟩ (or_f hg2)
  · intro hg2
    refine p_skip rfl (.on rfl rfl (beq_ne hg2)) rfl ?_; refine p_skip rfl (.on rfl rfl (beq_ne hg2)) rfl ?_; refine p_skip rfl (.on rfl rfl (beq_ne hg2)) rfl ?_; refine p_skip rfl (.on rfl rfl (beq_ne hg2)) rfl ?_; refine p_skip rfl (.on rfl rfl (beq_ne hg2)) rfl ?_; refine p_skip rfl (.on rfl rfl (beq_ne hg2)) rfl ?_; refine p_skip rfl (.on rfl rfl (beq_ne hg2)) rfl ?_; refine kPv (ev_pick_t rfl hg2 rfl) rfl ?_
    exact p_seg rfl ⟨rfl, rfl, rfl, rfl, rfl, rfl, trivial⟩ (or_t hg2)
  refine p_nil ?_
  refine g_if rfl (fun h25 => ?_) (fun h25 => ?_)
  · have hres : pickL l out sp n = 0 := by
      unfold pickL
      rw [if_pos (by simp [-List.length_eq_zero_iff] at h25 ⊢; omega)]
    refine g_seq ?_; refine g_region ?_; refine kPa rfl rfl ?_; refine p_nil ?_; refine g_ret ?_
    exact ret_tmp Tryz.results68 rfl (fun w hw => ⟨_, ⟨by rw [hres], rfl⟩, hw⟩)
  · have hcnd : n < l.length ∧ out.length ≠ 0 ∧ l.getD n 0 % 5 ≠ 0 := by simp [-List.length_eq_zero_iff] at h25 ⊢; omega
    have hnl := hcnd.1
    have hlx := hlb (l.getD n 0) (by rw [List.getD_eq_getElem?_getD, List.getElem?_eq_getElem hnl]; exact List.getElem_mem hnl)
    have hn1 : ((n : Int) + 1 - 1).toNat = n := by omega
    obtain ⟨bL, oL, rfl⟩ := hql n hnl
    have hop : (0 : Int) < out.length := by omega
    obtain ⟨j, hj0⟩ : ∃ j : Nat, (j : Int) = l.getD n 0 % (out.length : Int) := ⟨(l.getD n 0 % (out.length : Int)).toNat, by rw [Int.toNat_of_nonneg (Int.emod_nonneg _ (by omega))]⟩
    have hj : j < out.length := by have := Int.emod_lt_of_pos (l.getD n 0) hop; omega
    have hjm : (l.getD n 0).tmod (out.length : Int) = j := by rw [rem_e _ (by omega)]; omega
    have hox := hob (out.getD j 0) (by rw [List.getD_eq_getElem?_getD, List.getElem?_eq_getElem hj]; exact List.getElem_mem hj)
    obtain ⟨bO, oO, rfl⟩ := hqo j hj
    have hjt : (l.getD n 0 % (out.length : Int)).toNat = j := by omega
    have hcnd2 : ¬(l.length ≤ n ∨ out.length = 0 ∨ l.getD n 0 % 5 = 0) := by omega
    refine g_skip ?_; refine g_seq ?_; refine g_draw Tryz.mixed (by kernel_rfl) (by kernel_rfl) ?_; refine kQv (ev_load Tryz.isAgg34 rfl rfl) rfl ?_; refine kQv (ev_load Tryz.isAgg26 rfl rfl) rfl ?_; refine kQv (ev_load Tryz.isAgg3 rfl rfl) rfl ?_
    first | refine q_val rfl (ev_sub rfl rfl (wr64 (by omega))) .free rfl ?_ | refine q_val rfl (ev_sub rfl rfl rfl) .free rfl ?_
    refine kQv (ev_iaS Tryz.runUnderlying26 Tryz.sizeOf22 rfl rfl (by omega) (by omega)) rfl ?_; refine kQv (ev_loadS (v := u16 (l.getD n 0)) Tryz.isAgg22 ((((hl.cons _).cons _).cons _).cons _) rfl (by rw [hn1]; simp [hnl])) rfl ?_
    first | refine q_val rfl (ev_conv Tryz.runUnderlying22 Tryz.runUnderlying3 rfl (wr64 (by omega))) .free rfl ?_ | refine q_val rfl (ev_conv Tryz.runUnderlying22 Tryz.runUnderlying3 rfl rfl) .free rfl ?_
    refine kQv (ev_load Tryz.isAgg34 rfl rfl) rfl ?_; refine kQv (ev_len rfl Tryz.runUnderlying34 ⟨_, rfl⟩ rfl) rfl ?_; refine kQv (ev_rem (c := (j : Int)) rfl rfl (by omega) hjm) rfl ?_; refine kQv (ev_iaS Tryz.runUnderlying34 Tryz.sizeOf3 rfl rfl (by omega) (by omega)) rfl ?_; refine kQv (ev_loadS (v := i64 (out.getD j 0)) Tryz.isAgg3 ((((ho.cons _).cons _).cons _).cons _) rfl (by simp [hj])) rfl ?_; refine kQa rfl rfl ?_; refine q_nil ?_
    refine go_sub (σ' := [(5, _), (4, _), (0, _), (1, _), (3, _)]) ⟨rfl, rfl, rfl, rfl, rfl, trivial⟩ ?_; refine g_seq ?_; refine g_seq ?_; refine g_draw Tryz.mixed (by kernel_rfl) (by kernel_rfl) ?_; refine kQv (ev_load Tryz.isAgg5 rfl rfl) rfl ?_; refine kQv (ev_cmp rfl rfl rfl) rfl ?_; refine kQm rfl rfl ?_
    apply q_and (tp := 50) (t := 40) (σ1 := [(40, _), (5, _), (4, _)]) 10 rfl ⟨rfl, rfl, rfl, trivial⟩
    · intro hg3
      refine q_val rfl (ev_load Tryz.isAgg26 rfl rfl) (.on rfl rfl (beq_eq hg3)) rfl ?_; refine q_val rfl (ev_load Tryz.isAgg3 rfl rfl) (.on rfl rfl (beq_eq hg3)) rfl ?_
      first | refine q_val rfl (ev_sub rfl rfl (wr64 (by omega))) (.on rfl rfl (beq_eq hg3)) rfl ?_ | refine q_val rfl (ev_sub rfl rfl rfl) (.on rfl rfl (beq_eq hg3)) rfl ?_
      refine q_val rfl (ev_iaS Tryz.runUnderlying26 Tryz.sizeOf22 rfl rfl (by omega) (by omega)) (.on rfl rfl (beq_eq hg3)) rfl ?_; refine q_val rfl (ev_loadS (v := u16 (l.getD n 0)) Tryz.isAgg22 ((((hl.cons _).cons _).cons _).cons _) rfl (by rw [hn1]; simp [hnl])) (.on rfl rfl (beq_eq hg3)) rfl ?_
      refine q_val rfl (ev_load Tryz.isAgg5 rfl rfl) (.on rfl rfl (beq_eq hg3)) rfl ?_; refine q_val rfl (ev_conv Tryz.runUnderlying5 Tryz.runUnderlying22 rfl (show IntKind.u16.wrap sp = sp by simp [IntKind.wrap, IntKind.bits, IntKind.signed]; omega)) (.on rfl rfl (beq_eq hg3)) rfl ?_
      have hsp0 : 0 < sp := by simpa using hg3
      refine q_val rfl (ev_rem (c := l.getD n 0 % sp) rfl rfl (by omega) (rem_e _ (by omega))) (.on rfl rfl (beq_eq hg3)) rfl ?_; refine q_val rfl (ev_cmp rfl rfl rfl) (.on rfl rfl (beq_eq hg3)) rfl ?_; refine kQv (ev_pick_t rfl hg3 rfl) rfl ?_
      exact q_seg rfl ⟨rfl, rfl, rfl, trivial⟩ (and_t hg3)
    · intro hg3
      refine q_skip rfl (.on rfl rfl (beq_ne hg3)) rfl ?_; refine q_skip rfl (.on rfl rfl (beq_ne hg3)) rfl ?_; refine q_skip rfl (.on rfl rfl (beq_ne hg3)) rfl ?_; refine q_skip rfl (.on rfl rfl (beq_ne hg3)) rfl ?_; refine q_skip rfl (.on rfl rfl (beq_ne hg3)) rfl ?_; refine q_skip rfl (.on rfl rfl (beq_ne hg3)) rfl ?_; refine q_skip rfl (.on rfl rfl (beq_ne hg3)) rfl ?_; refine q_skip rfl (.on rfl rfl (beq_ne hg3)) rfl ?_; refine q_skip rfl (.on rfl rfl (beq_ne hg3)) rfl ?_
      refine kQv (ev_pick_f rfl hg3 rfl) rfl ?_
      exact q_seg rfl ⟨rfl, rfl, rfl, trivial⟩ (and_f hg3)
    refine q_nil ?_
    refine g_if rfl (fun h50 => ?_) (fun h50 => ?_)
    · have hk : 0 < sp ∧ l.getD n 0 % sp = 1 := by simpa using h50
      have hres : pickL l out sp n = out.getD j 0 + 1 := by unfold pickL; rw [if_neg hcnd2, if_pos hk, hjt]
      refine g_region ?_; refine kPm rfl rfl ?_
      first | refine p_val rfl (ev_add rfl rfl (wr64 (by omega))) .free rfl rfl ?_ | refine p_val rfl (ev_add rfl rfl rfl) .free rfl rfl ?_
      refine kPa rfl rfl ?_; refine p_nil ?_; refine g_seq ?_; refine g_region ?_; refine kPm rfl rfl ?_; refine kPv (ev_conv Tryz.runUnderlying3 Tryz.runUnderlying52 rfl (wru64 (by omega))) rfl ?_; refine kPa rfl rfl ?_; refine p_nil ?_; refine go_sub (σ' := [(4, _)]) ⟨rfl, trivial⟩ ?_; refine g_ret ?_
      exact ret_tmp Tryz.results68 rfl (fun w hw => ⟨_, ⟨by rw [hres], rfl⟩, hw⟩)
    · have hk : ¬ (0 < sp ∧ l.getD n 0 % sp = 1) := by simpa using h50
      have hres : pickL l out sp n = out.getD j 0 := by unfold pickL; rw [if_neg hcnd2, if_neg hk, hjt]
      refine g_skip ?_; refine g_seq ?_; refine g_region ?_; refine kPm rfl rfl ?_; refine kPv (ev_conv Tryz.runUnderlying3 Tryz.runUnderlying52 rfl (wru64 (by omega))) rfl ?_; refine kPa rfl rfl ?_; refine p_nil ?_; refine g_ret ?_
      exact ret_tmp Tryz.results68 rfl (fun w hw => ⟨_, ⟨by rw [hres], rfl⟩, hw⟩)
theorem linked_ok (B : World) (Fr : List HP) (x0 x1 x2 : Int) (hx : 0 ≤ x0 ∧ 0 ≤ x1 ∧ 0 ≤ x2) (c : Cfg) (hcm : c = mkC x0 x1 x2) (hs : List (Int × Int)) (hhs : ∀ h ∈ hs, (0 ≤ h.1 ∧ h.1 < 256) ∧ (0 ≤ h.2 ∧ h.2 < 256)) (hlen : hs.length ≤ 100000) (q : Option Addr) (cap : Nat) (hv : SlN B Fr (.slice q hs.length cap) 2 (hs.map fun h => [u8 h.1, u8 h.2])) (ql : Option Addr) (cl : Nat) (l : List Int) (hl : SlR B Fr (.slice ql l.length cl) (l.map u16)) (hlb : ∀ x ∈ l, 0 ≤ x ∧ x < 65536) (hll : l.length ≤ 1000000) (hql : ∀ i, i < l.length → ∃ b off, ql = some ⟨b, off, none⟩) (sp : Int) (hsp : 0 ≤ sp ∧ sp < 256) :
    ∀ w_, Holds B Fr w_ → Calls Tryz.prog 12 [.agg #[u16 x0, u16 x1, u16 x2], .slice q hs.length cap, .slice ql l.length cl, u8 sp].toArray w_ (Ret B (fun rv H' => ∃ (bd pa N : Nat) (s0 sF : Dev) (out : List Int), Fmt c N s0 ∧ (N : Int) = c.words ∧ (U64 s0 ∧ (dev0 pa [] N).format c = .ok 0 s0) ∧ fillN c hs s0 [] = .ok out sF ∧ ((∃ n1 n2 s1 s2 ov sv, linkObjs c (sF.block c).1 (pickL l out sp) out 0 sF = .ok (some n1) s1 ∧ linkRoots c (pickL l out sp) c.roots.toNat n1 0 s1 = .ok n2 s2 ∧ U64 s2 ∧ s2.pow.lim < 0 ∧ s2.n = N ∧ cell1 ov = true ∧ cell1 sv = true ∧ rv = .tuple #[ptr bd, cfgV c, blkV (s2.block c).1 sv, ov] ∧ H' = VecU 0 (sv, (s2.block c).1.rts) :: DevA bd s2 :: VecA 3 i64 0 (ov, out) :: Fr) ∨ (∃ s1, linkObjs c (sF.block c).1 (pickL l out sp) out 0 sF = .ok none s1 ∧ H' = Fr))) (fun _ _ => False)) := by
  refine fn_enter Tryz.func12 rfl Tryz.ntmps12 rfl ?_
  have hc : CfgW c := by rw [hcm]; exact mkC_w hx.1 hx.2.1 hx.2.2
  refine g_seq ?_; refine g_region ?_; refine p_chg rfl (ch_boxA rfl) .free rfl rfl ?_
  rintro _ _ ⟨b4, rfl, rfl⟩
  refine p_chg rfl (ch_box1 rfl rfl) .free rfl rfl ?_
  rintro _ _ ⟨b6, rfl, rfl⟩
  refine p_chg rfl (ch_box1 rfl rfl) .free rfl rfl ?_
  rintro _ _ ⟨b7, rfl, rfl⟩
  refine kPa rfl rfl ?_; refine p_chg rfl (ch_allocA Tryz.zeroValue30 rfl) .free rfl rfl ?_
  rintro _ _ ⟨b9, rfl, rfl⟩
  refine p_chg rfl (ch_allocA Tryz.zeroValue33 rfl) .free rfl rfl ?_
  rintro _ _ ⟨b10, rfl, rfl⟩
  refine kPa rfl rfl ?_; refine p_nil ?_; refine g_seq ?_; refine g_region ?_; refine kPv (ev_loadA Tryz.isAgg24 Tryz.sizeOf24 rfl rfl) rfl ?_; refine kPm rfl rfl ?_
  refine p_call rfl (en_f Tryz.call67 rfl) (filled_ok _ _ x0 x1 x2 hx c hcm hs hhs hlen q cap ((((((hv.cons _).cons _).cons _).cons _).cons _))) .free rfl rfl ?_ ?_
  rotate_left
  · rintro _ _ ⟨⟩
  rintro _ _ ⟨bd, pa, N, s0, sF, out, ov, sv, hfm, hN, ⟨hus0, hf0⟩, hfill, huF, hlF, hnF, hov, hsv, rfl, rfl⟩
  refine kPm rfl rfl ?_; refine kPv (ev_ext rfl rfl) rfl ?_; refine kPv (ev_ext rfl rfl) rfl ?_; refine kPv (ev_ext rfl rfl) rfl ?_; refine kPv (ev_ext rfl rfl) rfl ?_; refine p_chg rfl (ch_allocA Tryz.zeroValue30 rfl) .free rfl rfl ?_
  rintro _ _ ⟨b13, rfl, rfl⟩
  refine p_chg rfl (ch_allocA Tryz.zeroValue33 rfl) .free rfl rfl ?_
  rintro _ _ ⟨b14, rfl, rfl⟩
  refine p_chg rfl (ch_alloc1 Tryz.zeroValue34 rfl) .free rfl rfl ?_
  rintro _ _ ⟨b15, rfl, rfl⟩
  refine kPa rfl rfl ?_; refine p_chg0 rfl (ch_storeA (vs := _) Tryz.sizeOf30 rfl rfl rfl rfl rfl) .free rfl ?_
  rintro _ _ rfl
  refine p_chg0 rfl (ch_storeA (vs := [i64 (sF.block c).1.act, i64 (sF.block c).1.used, sv]) Tryz.sizeOf33 rfl rfl rfl (all3 hsv) rfl) .free rfl ?_
  rintro _ _ rfl
  refine p_chg0 rfl (ch_store Tryz.sizeOf34 rfl rfl hov rfl) .free rfl ?_
  rintro _ _ rfl
  refine go_front 5 rfl ?_
  simp only [List.eraseIdx_cons_succ, List.eraseIdx_cons_zero]
  refine go_vecq fun qo co hqe hqo => ?_
  subst hqe
  have hbk := block_w (s := sF) hc huF
  have hob : ∀ x ∈ out, 0 ≤ x ∧ x ≤ 20000 := fillN_b hc hs s0 sF [] out hus0 hfill (fun _ h => by cases h)
  have hol : out.length ≤ hs.length := by have := fillN_len hfill; simpa using this
  have hr1 := hc.r1
  have hr2 := hc.r2
  refine p_nil ?_; refine go_sub (σ' := [(12, _), (15, _), (14, _), (13, _), (11, _), (10, _), (9, _), (8, _), (7, _), (6, _)]) ⟨rfl, rfl, rfl, rfl, rfl, rfl, rfl, rfl, rfl, rfl, trivial⟩ ?_; refine g_seq ?_; refine g_seq ?_; refine g_region ?_; refine kPm rfl rfl ?_; refine kPv (ev_eqp Tryz.runUnderlying28 rfl rfl rfl) rfl ?_; refine p_nil ?_; refine g_iff rfl (rfl) ?_; refine g_skip ?_; refine g_seq ?_; refine g_region ?_; refine p_chg rfl (ch_alloc1 Tryz.zeroValue3 rfl) .free rfl rfl ?_
  rintro _ _ ⟨b16, rfl, rfl⟩
  refine p_chg0 rfl (ch_store Tryz.sizeOf3 rfl rfl rfl rfl) .free rfl ?_
  rintro _ _ rfl
  refine p_nil ?_; refine g_seq ?_; refine g_region ?_; refine kPv (ev_mkf rfl rfl) rfl ?_; refine kPa rfl rfl ?_; refine p_nil ?_; refine g_seq ?_; refine g_seq ?_; refine g_region ?_; refine kPv (ev_load Tryz.isAgg34 rfl rfl) rfl ?_; refine kPv (ev_len rfl Tryz.runUnderlying34 ⟨_, rfl⟩ rfl) rfl ?_; refine kPm rfl rfl ?_; refine p_nil ?_; refine g_block ?_
  refine g_loop (ι := Nat × Nat × Dev) (fun i => i.1 ≤ out.length ∧ i.2.1 ≤ 64 * i.1 ∧ U64 i.2.2 ∧ i.2.2.pow.lim < 0 ∧ i.2.2.n = N ∧ linkObjs c (sF.block c).1 (pickL l out sp) out 0 sF = linkObjs c (sF.block c).1 (pickL l out sp) (out.drop i.1) i.2.1 i.2.2) (fun i => [(8, .pointer none), (9, ptr b9), (10, ptr b10), (11, .slice none 0 0), (12, ptr bd), (13, ptr b13), (14, ptr b14), (15, ptr b15), (17, .func (.func 68) #[] #[ptr b16, ptr b6, ptr b15, ptr b7]), (37, .slice qo out.length co), (38, i64 out.length), (39, i64 i.1)]) (fun i => row b16 [i64 (i.2.1 : Nat)] 3 :: VecA 3 i64 0 (.slice qo out.length co, out) :: row b15 [.slice qo out.length co] 34 :: row b14 [i64 (sF.block c).1.act, i64 (sF.block c).1.used, sv] 33 :: row b13 [i64 c.log, i64 c.roots, i64 c.space] 30 :: VecU 0 (sv, (sF.block c).1.rts) :: DevA bd i.2.2 :: row b10 [i64 0, i64 0, .slice none 0 0] 33 :: row b9 [i64 0, i64 0, i64 0] 30 :: row b7 [u8 sp] 5 :: row b6 [.slice ql l.length cl] 26 :: row b4 [u16 x0, u16 x1, u16 x2] 24 :: Fr) (fun i => out.length - i.1) (0, 0, sF) ⟨Nat.zero_le _, Nat.zero_le _, huF, hlF, hnF, rfl⟩ (fun a w st => st.to ⟨rfl, rfl, rfl, rfl, rfl, rfl, rfl, rfl, rfl, rfl, rfl, rfl, trivial⟩ id) ?_
  rintro ⟨k, n, sL⟩ ⟨hk1, hn1, huL, hlL, hnL, hinv⟩
  simp only at hk1 hn1 huL hlL hnL hinv ⊢
  refine g_seq ?_; refine g_region ?_; refine kPv (ev_cmp rfl rfl rfl) rfl ?_; refine p_nil ?_; refine g_seq ?_
  refine g_if rfl (fun h40 => ?_) (fun h40 => ?_)
  · have hk : k < out.length := by simpa using h40
    have hak := hob _ (List.getElem_mem hk)
    obtain ⟨bQ, oQ, rfl⟩ := hqo k hk
    refine g_skip ?_; refine g_seq ?_; refine g_block ?_; refine g_seq ?_; refine g_region ?_; refine kPv (ev_iaS Tryz.runUnderlying34 Tryz.sizeOf3 rfl rfl (by omega) (by omega)) rfl ?_
    refine kPv (ev_loadS (v := i64 out[k]) Tryz.isAgg3 (vec_slr 1 rfl) rfl (by rw [Int.toNat_natCast, List.getElem?_map, List.getElem?_eq_getElem hk]; rfl)) rfl ?_
    refine kPa rfl rfl ?_; refine p_nil ?_; refine go_sub (σ' := [(19, _), (39, _), (38, _), (37, _), (17, _), (12, _), (15, _), (14, _), (13, _), (11, _), (10, _), (9, _), (8, _)]) ⟨rfl, rfl, rfl, rfl, rfl, rfl, rfl, rfl, rfl, rfl, rfl, rfl, rfl, trivial⟩ ?_; refine g_seq ?_; refine g_region ?_; refine kPm rfl rfl ?_; refine kPv (ev_loadA Tryz.isAgg30 Tryz.sizeOf30 rfl rfl) rfl ?_; refine kPv (ev_loadA Tryz.isAgg33 Tryz.sizeOf33 rfl rfl) rfl ?_; refine kPm rfl rfl ?_
    refine p_callq rfl (en_f Tryz.call51 rfl) (ro_at (q := DevA) (fun Fr => obj_ok _ Fr _ _ c hc _ _ hbk hsv out[k] (by omega))) .free rfl rfl ?_; refine kPm rfl rfl ?_; refine kPv (ev_ext rfl rfl) rfl ?_; refine kPv (ev_ext rfl rfl) rfl ?_; refine p_chg rfl (ch_allocA Tryz.zeroValue89 rfl) .free rfl rfl ?_
    rintro _ _ ⟨b20, rfl, rfl⟩
    refine p_chg0 rfl (ch_storeA (vs := _) Tryz.sizeOf89 rfl rfl rfl rfl rfl) .free rfl ?_
    rintro _ _ rfl
    refine kPa rfl rfl ?_; refine p_nil ?_; refine go_sub (σ' := [(21, _), (20, _), (39, _), (38, _), (37, _), (17, _), (12, _), (15, _), (14, _), (13, _), (11, _), (10, _), (9, _), (8, _)]) ⟨rfl, rfl, rfl, rfl, rfl, rfl, rfl, rfl, rfl, rfl, rfl, rfl, rfl, rfl, trivial⟩ ?_; refine g_seq ?_; refine g_seq ?_; refine g_region ?_; refine kPm rfl rfl ?_; refine kPv (ev_cmp rfl rfl rfl) rfl ?_; refine p_nil ?_
    refine g_if rfl (fun h52 => ?_) (fun h52 => ?_)
    · have hk2 : (sL.objOf c (sF.block c).1 out[k]).2 ≠ 0 := by simpa using h52
      refine g_seq ?_; refine g_drawv [0, 1, 2, 3, 4, 5] [3, 4] [1] [3] [row b14 [i64 (sF.block c).1.act, i64 (sF.block c).1.used, sv] 33] Tryz.mixed (by kernel_rfl) ?_; refine v_val rfl rfl rfl (ev_loadA Tryz.isAgg30 Tryz.sizeOf30 rfl rfl) .free rfl ?_; refine v_hoist rfl rfl rfl (ev_loadA Tryz.isAgg33 Tryz.sizeOf33 rfl rfl) .free rfl ?_; refine v_val rfl rfl rfl (ev_assign rfl) .free rfl ?_; refine v_mark rfl rfl ?_
      refine p_chg0 rfl (ch_storeA (vs := _) Tryz.sizeOf30 rfl rfl rfl rfl rfl) .free rfl ?_
      rintro _ _ rfl
      refine p_nil ?_; refine v_on ?_; refine v_mark rfl rfl ?_; refine p_chg0 rfl (ch_storeA (vs := [i64 (sF.block c).1.act, i64 (sF.block c).1.used, sv]) Tryz.sizeOf33 rfl rfl rfl (all3 hsv) rfl) .free rfl ?_
      rintro _ _ rfl
      refine p_nil ?_; refine v_off rfl ?_; refine v_val rfl rfl rfl (ev_assign rfl) .free rfl ?_; refine v_nil ?_; refine g_ret ?_
      exact ret_4 Tryz.results12 (.tmp rfl) (.cellA rfl Tryz.isAgg30 Tryz.sizeOf30 rfl rfl) (.cellA rfl Tryz.isAgg33 Tryz.sizeOf33 rfl rfl) (.tmp rfl) (fun w_ hh => ⟨_, ⟨bd, pa, N, s0, sF, out, hfm, hN, ⟨hus0, hf0⟩, hfill, .inr ⟨sL, by rw [hinv, List.drop_eq_getElem_cons hk]; rw [linkObjs_cons, if_pos hk2], rfl⟩⟩, hh.tail.tail.tail.tail.tail.tail.tail.tail.tail.tail.tail.tail.tail⟩)
    · have hk2 : (sL.objOf c (sF.block c).1 out[k]).2 = 0 := by simpa using h52
      have ho := objOf_w hc hbk hk2
      have ho1 := ho.w
      have ho2 := ho.r
      have ho3 := ho.at_
      refine g_skip ?_; refine g_seq ?_; refine g_region ?_; refine kPv (ev_fa (m := _) fa_89_0 rfl rfl) rfl ?_; refine kPv (ev_fa (m := _) fa_87_1 rfl rfl) rfl ?_; refine kPv (ev_load Tryz.isAgg3 rfl rfl) rfl ?_; refine kPm rfl rfl ?_; refine p_nil ?_; refine g_block ?_
      refine g_loop (ι := Nat × Nat × Dev) (fun i => (i.1 : Int) ≤ (sL.objOf c (sF.block c).1 out[k]).1.2.1 ∧ i.2.1 = n + i.1 ∧ U64 i.2.2 ∧ i.2.2.pow.lim < 0 ∧ i.2.2.n = N ∧ linkRefs (pickL l out sp) (sL.objOf c (sF.block c).1 out[k]).1 (sL.objOf c (sF.block c).1 out[k]).1.2.1.toNat n 0 sL = linkRefs (pickL l out sp) (sL.objOf c (sF.block c).1 out[k]).1 ((sL.objOf c (sF.block c).1 out[k]).1.2.1.toNat - i.1) i.2.1 i.1 i.2.2) (fun i => [(8, .pointer none), (9, ptr b9), (10, ptr b10), (11, .slice none 0 0), (12, ptr bd), (13, ptr b13), (14, ptr b14), (15, ptr b15), (17, .func (.func 68) #[] #[ptr b16, ptr b6, ptr b15, ptr b7]), (37, .slice (some ⟨bQ, oQ, none⟩) out.length co), (38, i64 out.length), (39, i64 k), (20, ptr b20), (57, i64 (sL.objOf c (sF.block c).1 out[k]).1.2.1), (58, i64 i.1)]) (fun i => row b20 [i64 (sL.objOf c (sF.block c).1 out[k]).1.1, i64 (sL.objOf c (sF.block c).1 out[k]).1.2.1, i64 (sL.objOf c (sF.block c).1 out[k]).1.2.2] 89 :: row b16 [i64 (i.2.1 : Nat)] 3 :: VecA 3 i64 0 (.slice (some ⟨bQ, oQ, none⟩) out.length co, out) :: row b15 [.slice (some ⟨bQ, oQ, none⟩) out.length co] 34 :: row b14 [i64 (sF.block c).1.act, i64 (sF.block c).1.used, sv] 33 :: row b13 [i64 c.log, i64 c.roots, i64 c.space] 30 :: VecU 0 (sv, (sF.block c).1.rts) :: DevA bd i.2.2 :: row b10 [i64 0, i64 0, .slice none 0 0] 33 :: row b9 [i64 0, i64 0, i64 0] 30 :: row b7 [u8 sp] 5 :: row b6 [.slice ql l.length cl] 26 :: row b4 [u16 x0, u16 x1, u16 x2] 24 :: Fr) (fun i => (sL.objOf c (sF.block c).1 out[k]).1.2.1.toNat - i.1) (0, n, sL) ⟨by simp only; omega, rfl, huL, hlL, hnL, rfl⟩ (fun a w st => st.to ⟨rfl, rfl, rfl, rfl, rfl, rfl, rfl, rfl, rfl, rfl, rfl, rfl, rfl, rfl, rfl, trivial⟩ id) ?_
      rintro ⟨j, nI, sI⟩ ⟨hj1, hnI, huI, hlI, hnI2, hinvI⟩
      simp only at hj1 hnI huI hlI hnI2 hinvI ⊢
      refine g_seq ?_; refine g_region ?_; refine kPv (ev_cmp rfl rfl rfl) rfl ?_; refine p_nil ?_; refine g_seq ?_
      refine g_if rfl (fun h59 => ?_) (fun h59 => ?_)
      · have hj : (j : Int) < (sL.objOf c (sF.block c).1 out[k]).1.2.1 := by simpa using h59
        refine g_skip ?_; refine g_seq ?_; refine g_block ?_; refine g_seq ?_; refine g_region ?_; refine kPm rfl rfl ?_; refine kPa rfl rfl ?_; refine p_nil ?_; refine go_sub (σ' := [(22, _), (58, _), (57, _), (20, _), (39, _), (38, _), (37, _), (17, _), (12, _), (15, _), (14, _), (13, _), (11, _), (10, _), (9, _), (8, _)]) ⟨rfl, rfl, rfl, rfl, rfl, rfl, rfl, rfl, rfl, rfl, rfl, rfl, rfl, rfl, rfl, rfl, trivial⟩ ?_
        refine g_drawv [0, 1, 2, 5, 6, 3, 4, 7] [3, 7] [0, 1, 5, 6] [3] [row b20 [i64 (sL.objOf c (sF.block c).1 out[k]).1.1, i64 (sL.objOf c (sF.block c).1 out[k]).1.2.1, i64 (sL.objOf c (sF.block c).1 out[k]).1.2.2] 89] Tryz.mixed (by kernel_rfl) ?_; refine v_hoist rfl rfl rfl (ev_loadA Tryz.isAgg89 Tryz.sizeOf89 rfl rfl) .free rfl ?_; refine v_hoist rfl rfl rfl (ev_move rfl) .free rfl ?_; refine v_val rfl rfl rfl (ev_move rfl) .free rfl ?_; refine v_hoist rfl rfl rfl (ev_move rfl) .free rfl ?_
        refine v_hoist rfl rfl rfl (ev_mkf rfl rfl) .free rfl ?_; refine v_mark rfl rfl ?_
        refine go_conv (H' := row b16 [i64 (nI : Nat)] 3 :: row b6 [.slice ql l.length cl] 26 :: row b15 [.slice (some ⟨bQ, oQ, none⟩) out.length co] 34 :: row b7 [u8 sp] 5 :: row b20 [i64 (sL.objOf c (sF.block c).1 out[k]).1.1, i64 (sL.objOf c (sF.block c).1 out[k]).1.2.1, i64 (sL.objOf c (sF.block c).1 out[k]).1.2.2] 89 :: VecA 3 i64 0 (.slice (some ⟨bQ, oQ, none⟩) out.length co, out) :: row b14 [i64 (sF.block c).1.act, i64 (sF.block c).1.used, sv] 33 :: row b13 [i64 c.log, i64 c.roots, i64 c.space] 30 :: VecU 0 (sv, (sF.block c).1.rts) :: DevA bd sI :: row b10 [i64 0, i64 0, .slice none 0 0] 33 :: row b9 [i64 0, i64 0, i64 0] 30 :: row b4 [u16 x0, u16 x1, u16 x2] 24 :: Fr) (fun w hh => (hh.pk [1, 10, 2, 8])) ?_
        refine p_call rfl (en_c Tryz.call68 rfl rfl) (lclos_ok B _ b16 b6 b15 b7 nI ql (some ⟨bQ, oQ, none⟩) cl co l out sp (by omega) ((((((((((hl.cons _).cons _).cons _).cons _).cons _).cons _).cons _).cons _).cons _)) (vec_slr 1 rfl) hlb hob ⟨by omega, by omega⟩ hsp hql hqo) .free rfl rfl ?_ ?_
        rotate_left
        · rintro _ _ ⟨⟩
        rintro _ _ ⟨rfl, rfl⟩
        refine p_nil ?_; refine v_on ?_
        have hpk := pickL_b (l := l) (sp := sp) (k := nI) hob
        refine v_val rfl rfl rfl (ev_conv Tryz.runUnderlying52 Tryz.runUnderlying3 rfl (wr64 (by omega))) .free rfl ?_; refine v_mark rfl rfl ?_; refine go_pull DevA bd ?_
        refine p_call rfl (en_f Tryz.call69 rfl) (opointD_ok _ _ bd (sL.objOf c (sF.block c).1 out[k]).1 ho _ ((pickL l out sp) nI) (by have := pickL_b (l := l) (sp := sp) (k := nI) hob; omega) sI hlI huI) .free rfl rfl ?_ ?_
        rotate_left
        · rintro _ _ ⟨⟩
        rintro _ _ ⟨x2, s2, hm2, rfl, hl2, hn2, hu2, rfl⟩
        refine p_nil ?_; refine v_off rfl ?_; refine v_nil ?_; refine go_sub (σ' := [(58, _), (57, _), (20, _), (39, _), (38, _), (37, _), (17, _), (12, _), (15, _), (14, _), (13, _), (11, _), (10, _), (9, _), (8, _)]) ⟨rfl, rfl, rfl, rfl, rfl, rfl, rfl, rfl, rfl, rfl, rfl, rfl, rfl, rfl, rfl, trivial⟩ ?_; refine g_region ?_
        first | refine p_val rfl (ev_add rfl rfl (wr64 (by omega))) .free rfl rfl ?_ | refine p_val rfl (ev_add rfl rfl rfl) .free rfl rfl ?_
        refine kPm rfl rfl ?_; refine p_nil ?_
        exact fun a w st => ⟨(j + 1, nI + 1, s2), ⟨by simp only; omega, by simp only; omega, hu2, hl2, hn2.trans hnI2, by
          rw [hinvI, show (sL.objOf c (sF.block c).1 out[k]).1.2.1.toNat - j = ((sL.objOf c (sF.block c).1 out[k]).1.2.1.toNat - (j + 1)) + 1 by omega]
          show (setM devOp (sL.objOf c (sF.block c).1 out[k]).1 j true ((pickL l out sp) nI) sI ()).then _ = _
          rw [hm2]
          push_cast
          rfl⟩, by simp only; omega, st.to ⟨rfl, rfl, rfl, rfl, rfl, rfl, rfl, rfl, rfl, rfl, rfl, rfl, rfl, rfl, rfl, trivial⟩ (fun hh => (hh.pk [5, 1, 4, 2, 3, 3, 3, 0, 2, 2, 1]))⟩
      · have hj : ¬ (j : Int) < (sL.objOf c (sF.block c).1 out[k]).1.2.1 := by simpa using h59
        refine g_exit ?_; refine g_region ?_
        first | refine p_val rfl (ev_add rfl rfl (wr64 (by omega))) .free rfl rfl ?_ | refine p_val rfl (ev_add rfl rfl rfl) .free rfl rfl ?_
        refine kPm rfl rfl ?_; refine p_nil ?_; refine go_sub (σ' := [(39, _), (38, _), (37, _), (17, _), (12, _), (15, _), (14, _), (13, _), (11, _), (10, _), (9, _), (8, _)]) ⟨rfl, rfl, rfl, rfl, rfl, rfl, rfl, rfl, rfl, rfl, rfl, rfl, trivial⟩ ?_
        exact fun a w st => ⟨(k + 1, nI, sI), ⟨by simp only; omega, by simp only; omega, huI, hlI, hnI2, by
          rw [hinv, List.drop_eq_getElem_cons hk]
          rw [linkObjs_cons, if_neg (by omega), hinvI, show (sL.objOf c (sF.block c).1 out[k]).1.2.1.toNat - j = 0 by omega]
          rfl⟩, by simp only; omega, st.to ⟨rfl, rfl, rfl, rfl, rfl, rfl, rfl, rfl, rfl, rfl, rfl, rfl, trivial⟩ (fun hh => hh.tail)⟩
  · have hk : ¬ k < out.length := by simpa using h40
    refine g_exit ?_; refine g_seq ?_; refine g_seq ?_; refine g_region ?_; refine kPv (ev_fa (m := _) fa_30_1 rfl rfl) rfl ?_; refine kPv (ev_load Tryz.isAgg3 rfl rfl) rfl ?_; refine kPm rfl rfl ?_; refine p_nil ?_; refine go_sub (σ' := [(73, _), (72, _), (17, _), (12, _), (15, _), (14, _), (13, _), (11, _), (10, _), (9, _), (8, _)]) ⟨rfl, rfl, rfl, rfl, rfl, rfl, rfl, rfl, rfl, rfl, rfl, trivial⟩ ?_; refine g_block ?_
    refine g_loop (ι := Nat × Nat × Dev) (fun i => (i.1 : Int) ≤ c.roots ∧ i.2.1 = n + i.1 ∧ U64 i.2.2 ∧ i.2.2.pow.lim < 0 ∧ i.2.2.n = N ∧ linkRoots c (pickL l out sp) c.roots.toNat n 0 sL = linkRoots c (pickL l out sp) (c.roots.toNat - i.1) i.2.1 i.1 i.2.2) (fun i => [(8, .pointer none), (9, ptr b9), (10, ptr b10), (11, .slice none 0 0), (12, ptr bd), (13, ptr b13), (14, ptr b14), (15, ptr b15), (17, .func (.func 68) #[] #[ptr b16, ptr b6, ptr b15, ptr b7]), (72, i64 c.roots), (73, i64 i.1)]) (fun i => row b16 [i64 (i.2.1 : Nat)] 3 :: VecA 3 i64 0 (.slice qo out.length co, out) :: row b15 [.slice qo out.length co] 34 :: row b14 [i64 (sF.block c).1.act, i64 (sF.block c).1.used, sv] 33 :: row b13 [i64 c.log, i64 c.roots, i64 c.space] 30 :: VecU 0 (sv, (sF.block c).1.rts) :: DevA bd i.2.2 :: row b10 [i64 0, i64 0, .slice none 0 0] 33 :: row b9 [i64 0, i64 0, i64 0] 30 :: row b7 [u8 sp] 5 :: row b6 [.slice ql l.length cl] 26 :: row b4 [u16 x0, u16 x1, u16 x2] 24 :: Fr) (fun i => c.roots.toNat - i.1) (0, n, sL) ⟨by simp only; omega, rfl, huL, hlL, hnL, rfl⟩ (fun a w st => st.to ⟨rfl, rfl, rfl, rfl, rfl, rfl, rfl, rfl, rfl, rfl, rfl, trivial⟩ id) ?_
    rintro ⟨i, nJ, sJ⟩ ⟨hi1, hnJ, huJ, hlJ, hnJ2, hinvJ⟩
    simp only at hi1 hnJ huJ hlJ hnJ2 hinvJ ⊢
    refine g_seq ?_; refine g_region ?_; refine kPv (ev_cmp rfl rfl rfl) rfl ?_; refine p_nil ?_; refine g_seq ?_
    refine g_if rfl (fun h74 => ?_) (fun h74 => ?_)
    · have hi : (i : Int) < c.roots := by simpa using h74
      refine g_skip ?_; refine g_seq ?_; refine g_block ?_; refine g_seq ?_; refine g_region ?_; refine kPm rfl rfl ?_; refine kPa rfl rfl ?_; refine p_nil ?_; refine g_region ?_; refine kPm rfl rfl ?_; refine kPv (ev_loadA Tryz.isAgg30 Tryz.sizeOf30 rfl rfl) rfl ?_; refine kPm rfl rfl ?_; refine p_callq rfl (en_f Tryz.call71 rfl) (root_ok _ _ c hc _ (by omega) (by omega)) .free rfl rfl ?_; refine kPm rfl rfl ?_
      refine go_conv (H' := row b16 [i64 (nJ : Nat)] 3 :: row b6 [.slice ql l.length cl] 26 :: row b15 [.slice qo out.length co] 34 :: row b7 [u8 sp] 5 :: VecA 3 i64 0 (.slice qo out.length co, out) :: row b14 [i64 (sF.block c).1.act, i64 (sF.block c).1.used, sv] 33 :: row b13 [i64 c.log, i64 c.roots, i64 c.space] 30 :: VecU 0 (sv, (sF.block c).1.rts) :: DevA bd sJ :: row b10 [i64 0, i64 0, .slice none 0 0] 33 :: row b9 [i64 0, i64 0, i64 0] 30 :: row b4 [u16 x0, u16 x1, u16 x2] 24 :: Fr) (fun w hh => (hh.pk [0, 9, 1, 7])) ?_
      refine p_call rfl (en_c Tryz.call68 rfl rfl) (lclos_ok B _ b16 b6 b15 b7 nJ ql qo cl co l out sp (by omega) (((((((((hl.cons _).cons _).cons _).cons _).cons _).cons _).cons _).cons _)) (vec_slr 0 rfl) hlb hob ⟨by omega, by omega⟩ hsp hql hqo) .free rfl rfl ?_ ?_
      rotate_left
      · rintro _ _ ⟨⟩
      rintro _ _ ⟨rfl, rfl⟩
      refine go_pull DevA bd ?_
      refine p_call rfl (en_f Tryz.call70 rfl) (nstoreL_ok _ _ _ _ _ (pickL l out sp nJ) hlJ huJ (by have := pickL_b (l := l) (sp := sp) (k := nJ) hob; omega)) .free rfl rfl ?_ ?_
      rotate_left
      · rintro _ _ ⟨⟩
      rintro _ _ ⟨x3, s3, hm3, rfl, hl3, hn3, hu3, rfl⟩
      refine p_nil ?_; refine go_sub (σ' := [(73, _), (72, _), (17, _), (12, _), (15, _), (14, _), (13, _), (11, _), (10, _), (9, _), (8, _)]) ⟨rfl, rfl, rfl, rfl, rfl, rfl, rfl, rfl, rfl, rfl, rfl, trivial⟩ ?_; refine g_region ?_
      first | refine p_val rfl (ev_add rfl rfl (wr64 (by omega))) .free rfl rfl ?_ | refine p_val rfl (ev_add rfl rfl rfl) .free rfl rfl ?_
      refine kPm rfl rfl ?_; refine p_nil ?_
      exact fun a w st => ⟨(i + 1, nJ + 1, s3), ⟨by simp only; omega, by simp only; omega, hu3, hl3, hn3.trans hnJ2, by
        rw [hinvJ, show c.roots.toNat - i = (c.roots.toNat - (i + 1)) + 1 by omega]
        show (sJ.store (c.root i) ((pickL l out sp) nJ)).then _ = _
        rw [hm3]
        push_cast
        rfl⟩, by simp only; omega, st.to ⟨rfl, rfl, rfl, rfl, rfl, rfl, rfl, rfl, rfl, rfl, rfl, trivial⟩ (fun hh => (hh.pk [1, 4, 2, 3, 3, 3, 0, 2, 2, 1]))⟩
    · have hi : ¬ (i : Int) < c.roots := by simpa using h74
      refine g_exit ?_; refine g_seq ?_; refine g_region ?_; refine kPm rfl rfl ?_; refine kPv (ev_loadA Tryz.isAgg30 Tryz.sizeOf30 rfl rfl) rfl ?_; refine go_pull DevA bd ?_
      refine p_call rfl (en_f Tryz.call15 rfl) (rread_ok _ _ _ _ c hc huJ) .free rfl rfl ?_ ?_
      rotate_left
      · rintro _ _ ⟨⟩
      rintro _ _ ⟨sv2, hsv2, rfl, rfl⟩
      refine kPm rfl rfl ?_; refine kPv (ev_ext rfl rfl) rfl ?_; refine kPv (ev_ext rfl rfl) rfl ?_; refine p_chg0 rfl (ch_storeA (vs := [i64 (sJ.block c).1.act, i64 (sJ.block c).1.used, sv2]) Tryz.sizeOf33 rfl rfl rfl (all3 hsv2) rfl) .free rfl ?_
      rintro _ _ rfl
      refine go_conv (H' := VecU 0 (sv2, (sJ.block c).1.rts) :: DevA bd sJ :: row b16 [i64 (nJ : Nat)] 3 :: VecA 3 i64 0 (.slice qo out.length co, out) :: row b15 [.slice qo out.length co] 34 :: row b14 [i64 (sJ.block c).1.act, i64 (sJ.block c).1.used, sv2] 33 :: row b13 [i64 c.log, i64 c.roots, i64 c.space] 30 :: VecU 0 (sv, (sF.block c).1.rts) :: row b10 [i64 0, i64 0, .slice none 0 0] 33 :: row b9 [i64 0, i64 0, i64 0] 30 :: row b7 [u8 sp] 5 :: row b6 [.slice ql l.length cl] 26 :: row b4 [u16 x0, u16 x1, u16 x2] 24 :: Fr) (fun w hh => hh) ?_
      refine p_nil ?_; refine go_sub (σ' := [(12, _), (15, _), (14, _), (13, _), (11, _), (10, _), (9, _), (8, _)]) ⟨rfl, rfl, rfl, rfl, rfl, rfl, rfl, rfl, trivial⟩ ?_; refine g_seq ?_; refine g_drawv [0, 1, 2, 3, 4, 5, 6, 7] [5, 6] [2, 3] [5, 6] [row b14 [i64 (sJ.block c).1.act, i64 (sJ.block c).1.used, sv2] 33, row b15 [.slice qo out.length co] 34] Tryz.mixed (by kernel_rfl) ?_; refine v_val rfl rfl rfl (ev_move rfl) .free rfl ?_
      refine v_val rfl rfl rfl (ev_loadA Tryz.isAgg30 Tryz.sizeOf30 rfl rfl) .free rfl ?_; refine v_hoist rfl rfl rfl (ev_loadA Tryz.isAgg33 Tryz.sizeOf33 rfl rfl) .free rfl ?_; refine v_hoist rfl rfl rfl (ev_load Tryz.isAgg34 rfl rfl) .free rfl ?_; refine v_val rfl rfl rfl (ev_assign rfl) .free rfl ?_; refine v_mark rfl rfl ?_; refine p_chg0 rfl (ch_storeA (vs := _) Tryz.sizeOf30 rfl rfl rfl rfl rfl) .free rfl ?_
      rintro _ _ rfl
      refine p_nil ?_; refine v_on ?_; refine v_mark rfl rfl ?_; refine p_chg0 rfl (ch_storeA (vs := [i64 (sJ.block c).1.act, i64 (sJ.block c).1.used, sv2]) Tryz.sizeOf33 rfl rfl rfl (all3 hsv2) rfl) .free rfl ?_
      rintro _ _ rfl
      refine p_nil ?_; refine v_on ?_; refine v_val rfl rfl rfl (ev_assign rfl) .free rfl ?_; refine v_nil ?_; refine go_sub (σ' := [(11, _), (8, _), (10, _), (9, _)]) ⟨rfl, rfl, rfl, rfl, trivial⟩ ?_; refine g_ret ?_
      exact ret_4 Tryz.results12 (.tmp rfl) (.cellA rfl Tryz.isAgg30 Tryz.sizeOf30 rfl rfl) (.cellA rfl Tryz.isAgg33 Tryz.sizeOf33 rfl rfl) (.tmp rfl) (fun w_ hh => ⟨_, ⟨bd, pa, N, s0, sF, out, hfm, hN, ⟨hus0, hf0⟩, hfill, .inl ⟨n, nJ, sL, sJ, _, sv2, by rw [hinv, List.drop_eq_nil_of_le (by omega)]; rfl, by rw [hinvJ, show c.roots.toNat - i = 0 by omega]; rfl, huJ, hlJ, hnJ2, rfl, hsv2, rfl, rfl⟩⟩, (hh.dp [2, 3, 3, 3, 3, 3, 3, 3, 3, 3])⟩)
end Go.Proofs.YtbfheafpecgphaaGreat
namespace Go.Proofs.YtbfheafpecgphaaGreat
open Go
def itl {α ι : Type} (st : α → ι → Bool × ι) : List α → ι → Bool × ι
  | [], x => (true, x)
  | a :: t, x => if (st a x).1 = true then itl st t (st a x).2 else (false, (st a x).2)
def lst {ι : Type} (r : Loop) (cd : ι → Code) (y : Bool × ι) : Loop := if y.1 = true then r else { r with state := .done, pending := some (cd y.2) }
theorem onames_ok (B : World) (H : List HP) (o : Obj3) (bd : Nat) :
    ∀ w, Holds B H w → Calls Tryz.prog 129 [objV o, ptr bd].toArray w (Ret B (fun v H' => ∃ b1 b2, v = .func (.func 142) [].toArray [ptr b1, ptr b2].toArray ∧ H' = row b2 [ptr bd] 28 :: row b1 [i64 o.1, i64 o.2.1, i64 o.2.2] 89 :: H) (fun _ _ => False)) := by
  refine fn_enter Tryz.func129 rfl Tryz.ntmps129 rfl ?_; refine g_seq ?_; refine g_region ?_; refine p_chg rfl (ch_boxA rfl) .free rfl rfl ?_
  rintro _ _ ⟨b2, rfl, rfl⟩
  refine p_chg rfl (ch_box1 rfl rfl) .free rfl rfl ?_
  rintro _ _ ⟨b3, rfl, rfl⟩
  refine kPa rfl rfl ?_; refine p_nil ?_; refine g_seq ?_; refine g_region ?_; refine kPv (ev_mkf rfl rfl) rfl ?_; refine kPa rfl rfl ?_; refine p_nil ?_; refine g_ret ?_
  exact ret_tmp Tryz.results129 rfl (fun w hw => ⟨_, ⟨_, _, rfl, rfl⟩, hw⟩)
theorem onam1_ok (B : World) (l f b1 b2 bd : Nat) (o : Obj3) (ho : ObjW o) (s : Dev) (ι : Type) (r : Loop) (hrf : r.fn = f) (hrp : r.params.size = 2) (I : ι → Prop) (Hx : ι → List HP) (cd : ι → Code) (st : (Int × Int) → ι → Bool × ι) (x0 : ι) (h0 : I x0) (hround : ∀ (p : Int × Int) (x : ι), I x → I (st p x).2 ∧ ∀ w, Holds B (blk l (.loop r) :: row b2 [ptr bd] 28 :: row b1 [i64 o.1, i64 o.2.1, i64 o.2.2] 89 :: DevA bd s :: Hx x) w → RoundIn (Wd (cxF f)) 0 Tryz.prog l f ((r.params.zip [i64 p.1, i64 p.2].toArray).foldl (fun tmps (t, a) => tmps.setIfInBounds t a) r.tmps) r.assign r.body w (Ret B (fun rv H' => rv = .bool (st p x).1 ∧ H' = blk l (.loop (lst r cd (st p x))) :: row b2 [ptr bd] 28 :: row b1 [i64 o.1, i64 o.2.1, i64 o.2.2] 89 :: DevA bd s :: Hx (st p x).2) (fun _ _ => False))) :
    ∀ w, Holds B (blk l (.loop r) :: row b2 [ptr bd] 28 :: row b1 [i64 o.1, i64 o.2.1, i64 o.2.2] 89 :: DevA bd s :: Hx x0) w → Calls Tryz.prog 142 [.func (.yield l) #[] #[], ptr b1, ptr b2].toArray w (Ret B (fun _ H' => I (itl st (s.objNames o o.2.1.toNat 0) x0).2 ∧ H' = blk l (.loop (lst r cd (itl st (s.objNames o o.2.1.toNat 0) x0))) :: row b2 [ptr bd] 28 :: row b1 [i64 o.1, i64 o.2.1, i64 o.2.2] 89 :: DevA bd s :: Hx (itl st (s.objNames o o.2.1.toNat 0) x0).2) (fun _ _ => False)) := by
  refine fn_enter Tryz.func142 rfl Tryz.ntmps142 rfl ?_
  have ho1 := ho.w
  have ho2 := ho.r
  have ho3 := ho.at_
  refine g_seq ?_; refine g_region ?_; refine kPv (ev_fa (m := _) fa_89_0 rfl rfl) rfl ?_; refine kPv (ev_fa (m := _) fa_87_1 rfl rfl) rfl ?_; refine kPv (ev_load Tryz.isAgg3 rfl rfl) rfl ?_; refine kPm rfl rfl ?_; refine p_nil ?_; refine g_block ?_
  refine g_loop (ι := Nat × ι) (fun i => (i.1 : Int) ≤ o.2.1 ∧ I i.2 ∧ itl st (s.objNames o o.2.1.toNat 0) x0 = itl st (s.objNames o (o.2.1.toNat - i.1) i.1) i.2) (fun i => [(0, .func (.yield l) #[] #[]), (1, ptr b1), (2, ptr b2), (8, i64 o.2.1), (9, i64 i.1)]) (fun i => blk l (.loop r) :: row b2 [ptr bd] 28 :: row b1 [i64 o.1, i64 o.2.1, i64 o.2.2] 89 :: DevA bd s :: Hx i.2) (fun i => o.2.1.toNat - i.1) (0, x0) ⟨by simp only; omega, h0, rfl⟩ (fun a w st => st.to ⟨rfl, rfl, rfl, rfl, rfl, trivial⟩ id) ?_
  rintro ⟨k, x⟩ ⟨hk1, hIx, hinv⟩
  simp only at hk1 hIx hinv ⊢
  refine g_seq ?_; refine g_region ?_; refine kPv (ev_cmp rfl rfl rfl) rfl ?_; refine p_nil ?_; refine g_seq ?_
  refine g_if rfl (fun h10 => ?_) (fun h10 => ?_)
  · have hk : (k : Int) < o.2.1 := by simpa using h10
    refine g_skip ?_; refine g_seq ?_; refine g_block ?_; refine g_seq ?_; refine g_region ?_; refine kPm rfl rfl ?_; refine kPa rfl rfl ?_; refine p_nil ?_; refine g_seq ?_; refine g_region ?_; refine kPv (ev_load Tryz.isAgg28 rfl rfl) rfl ?_; refine kPv (ev_fa (m := _) fa_89_1 rfl rfl) rfl ?_; refine kPv (ev_load Tryz.isAgg3 rfl rfl) rfl ?_
    first | refine p_val rfl (ev_add rfl rfl (wr64 (by omega))) .free rfl rfl ?_ | refine p_val rfl (ev_add rfl rfl rfl) .free rfl rfl ?_
    refine kPm rfl rfl ?_
    first | refine p_val rfl (ev_add rfl rfl (wr64 (by omega))) .free rfl rfl ?_ | refine p_val rfl (ev_add rfl rfl rfl) .free rfl rfl ?_
    refine p_callq rfl (en_f Tryz.call72 rfl) (ro_at (q := DevA) (fun Fr => nload_ok _ Fr _ _ _)) .free rfl rfl ?_
    first | refine p_val rfl (ev_conv Tryz.runUnderlying52 Tryz.runUnderlying3 rfl (wr64 (by omega))) .free rfl rfl ?_ | refine p_val rfl (ev_conv Tryz.runUnderlying52 Tryz.runUnderlying3 rfl rfl) .free rfl rfl ?_
    refine kPa rfl rfl ?_; refine p_nil ?_; refine go_sub (σ' := [(5, _), (4, _), (9, _), (8, _), (0, _), (1, _), (2, _)]) ⟨rfl, rfl, rfl, rfl, rfl, rfl, rfl, trivial⟩ ?_; refine g_seq ?_
    rcases Bool.eq_false_or_eq_true (((IntKind.i64.wrap (s.load (o.2.2 + 1 + (k : Int)))) != 0)) with hs4 | hs4
    · skip
      have hto : (IntKind.i64.wrap (s.load (o.2.2 + 1 + (k : Int)))) ≠ 0 := by simpa using hs4
      have hnm : s.objNames o (o.2.1.toNat - k) k = ((k : Int), (IntKind.i64.wrap (s.load (o.2.2 + 1 + (k : Int))))) :: s.objNames o (o.2.1.toNat - (k + 1)) ((k : Int) + 1) := by
        rw [show o.2.1.toNat - k = (o.2.1.toNat - (k + 1)) + 1 by omega]
        simp only [Dev.objNames]
        rw [if_pos hto]
      refine g_region ?_; refine kPm rfl rfl ?_; refine kPv (ev_cmp rfl rfl rfl) rfl ?_; refine kPm rfl rfl ?_; refine p_val rfl (ev_move rfl) (.on rfl rfl (beq_eq hs4)) rfl rfl ?_; refine p_val rfl (ev_move rfl) (.on rfl rfl (beq_eq hs4)) rfl rfl ?_; refine p_val rfl (ev_move rfl) (.on rfl rfl (beq_eq hs4)) rfl rfl ?_
      refine p_yield (f := f) rfl rfl (fun w hw => hw) (by rw [hrp]; rfl) hrf (hround ((k : Int), (IntKind.i64.wrap (s.load (o.2.2 + 1 + (k : Int))))) x hIx).2 (.on rfl rfl (beq_eq hs4)) rfl ?_ ?_
      rotate_left
      · rintro _ _ ⟨⟩
      rintro _ _ ⟨rfl, rfl⟩
      refine p_val rfl (ev_not rfl) (.on rfl rfl (beq_eq hs4)) rfl rfl ?_; refine kPv (ev_pick_t rfl hs4 rfl) rfl ?_; refine p_nil ?_; refine go_sub (σ' := [(28, _), (9, _), (8, _), (0, _), (1, _), (2, _)]) ⟨rfl, rfl, rfl, rfl, rfl, rfl, trivial⟩ ?_
      refine g_if rfl (fun h28 => ?_) (fun h28 => ?_)
      · have hg : (st ((k : Int), (IntKind.i64.wrap (s.load (o.2.2 + 1 + (k : Int))))) x).1 = false := by simpa using h28
        have hres : itl st (s.objNames o o.2.1.toNat 0) x0 = st ((k : Int), (IntKind.i64.wrap (s.load (o.2.2 + 1 + (k : Int))))) x := by rw [hinv, hnm]; simp only [itl]; rw [if_neg (by rw [hg]; decide)]; exact Prod.ext hg.symm rfl
        refine g_ret ?_
        exact ret_none Tryz.results142 (fun w hh => ⟨_, ⟨by rw [hres]; exact (hround ((k : Int), (IntKind.i64.wrap (s.load (o.2.2 + 1 + (k : Int))))) x hIx).1, by rw [hres]⟩, hh⟩)
      · have hg : (st ((k : Int), (IntKind.i64.wrap (s.load (o.2.2 + 1 + (k : Int))))) x).1 = true := by simpa using h28
        have hlr : lst r cd (st ((k : Int), (IntKind.i64.wrap (s.load (o.2.2 + 1 + (k : Int))))) x) = r := by unfold lst; rw [if_pos hg]
        refine g_skip ?_; refine g_region ?_
        first | refine p_val rfl (ev_add rfl rfl (wr64 (by omega))) .free rfl rfl ?_ | refine p_val rfl (ev_add rfl rfl rfl) .free rfl rfl ?_
        refine kPm rfl rfl ?_; refine p_nil ?_
        exact fun a w st_ => ⟨(k + 1, (st ((k : Int), (IntKind.i64.wrap (s.load (o.2.2 + 1 + (k : Int))))) x).2), ⟨by simp only; omega, (hround ((k : Int), (IntKind.i64.wrap (s.load (o.2.2 + 1 + (k : Int))))) x hIx).1, by rw [hinv, hnm]; simp only [itl]; rw [if_pos hg]; rfl⟩, by simp only; omega, st_.to ⟨rfl, rfl, rfl, rfl, rfl, trivial⟩ (fun hh => by rw [hlr] at hh; exact hh)⟩
    · skip
      have hto : (IntKind.i64.wrap (s.load (o.2.2 + 1 + (k : Int)))) = 0 := by simpa using hs4
      have hnm : s.objNames o (o.2.1.toNat - k) k = s.objNames o (o.2.1.toNat - (k + 1)) ((k : Int) + 1) := by
        rw [show o.2.1.toNat - k = (o.2.1.toNat - (k + 1)) + 1 by omega]
        simp only [Dev.objNames]
        rw [if_neg (by omega)]
      refine g_region ?_; refine kPm rfl rfl ?_; refine kPv (ev_cmp rfl rfl rfl) rfl ?_; refine kPm rfl rfl ?_; refine p_skip rfl (.on rfl rfl (beq_ne hs4)) rfl ?_; refine p_skip rfl (.on rfl rfl (beq_ne hs4)) rfl ?_; refine p_skip rfl (.on rfl rfl (beq_ne hs4)) rfl ?_; refine p_skip rfl (.on rfl rfl (beq_ne hs4)) rfl ?_; refine p_skip rfl (.on rfl rfl (beq_ne hs4)) rfl ?_; refine kPv (ev_pick_f rfl hs4 rfl) rfl ?_; refine p_nil ?_
      refine go_sub (σ' := [(28, _), (9, _), (8, _), (0, _), (1, _), (2, _)]) ⟨rfl, rfl, rfl, rfl, rfl, rfl, trivial⟩ ?_; refine g_iff rfl (rfl) ?_; refine g_skip ?_; refine g_region ?_
      first | refine p_val rfl (ev_add rfl rfl (wr64 (by omega))) .free rfl rfl ?_ | refine p_val rfl (ev_add rfl rfl rfl) .free rfl rfl ?_
      refine kPm rfl rfl ?_; refine p_nil ?_
      exact fun a w st_ => ⟨(k + 1, x), ⟨by simp only; omega, hIx, by rw [hinv, hnm]; rfl⟩, by simp only; omega, st_.to ⟨rfl, rfl, rfl, rfl, rfl, trivial⟩ id⟩
  · have hk : ¬ (k : Int) < o.2.1 := by simpa using h10
    refine g_exit ?_
    exact end_none Tryz.results142 (fun w hh => ⟨_, ⟨by rw [hinv, show o.2.1.toNat - k = 0 by omega]; exact hIx, by rw [hinv, show o.2.1.toNat - k = 0 by omega]; rfl⟩, hh⟩)
theorem itl1 {α ι : Type} {st : α → ι → Bool × ι} {a : α} {x : ι} : itl st [a] x = st a x := by
  simp only [itl]
  split
  · rename_i h; exact Prod.ext h.symm rfl
  · rename_i h; exact Prod.ext (Bool.eq_false_iff.2 h).symm rfl
theorem itl0 {α ι : Type} {st : α → ι → Bool × ι} {a : α} {t : List α} {x : ι} (h : (st a x).1 = false) : itl st (a :: t) x = st a x := by
  simp only [itl]
  rw [if_neg (by rw [h]; decide)]
  exact Prod.ext h.symm rfl
theorem objOf_b {s : Dev} {c : Cfg} {b : Blk} {a : Int} : 0 ≤ (s.objOf c b a).1.1 ∧ (s.objOf c b a).1.1 ≤ 64 := by
  have h := unp_b (s.load a)
  unfold Dev.objOf
  split
  · decide
  split
  · decide
  · exact ⟨h.1, h.2.1⟩
theorem objW0 {a : Int} (h : 0 ≤ a ∧ a ≤ 1000000) : ObjW (0, 0, a) := ⟨⟨Int.le_refl 0, (by decide : (0 : Int) ≤ 64)⟩, ⟨Int.le_refl 0, Int.le_refl 0⟩, h⟩
theorem objs_end {s : Dev} {c : Cfg} {b : Blk} {at_ : Int} (h : b.place c b.used ≤ at_) : ∀ f, s.objs c b f at_ = []
  | 0 => rfl
  | f + 1 => by simp only [Dev.objs]; rw [if_pos h]
theorem wobjs_ok (B : World) (H : List HP) (bd : Nat) (c : Cfg) (b : Blk) (sv : Value) (hsv : cell1 sv = true) :
    ∀ w, Holds B H w → Calls Tryz.prog 83 [ptr bd, cfgV c, blkV b sv].toArray w (Ret B (fun v H' => ∃ b3 b4 b5, v = .func (.func 109) [].toArray [ptr b5, ptr b4, ptr b3].toArray ∧ H' = row b5 [i64 b.act, i64 b.used, sv] 33 :: row b4 [i64 c.log, i64 c.roots, i64 c.space] 30 :: row b3 [ptr bd] 28 :: H) (fun _ _ => False)) := by
  refine fn_enter Tryz.func83 rfl Tryz.ntmps83 rfl ?_; refine g_seq ?_; refine g_region ?_; refine p_chg rfl (ch_box1 rfl rfl) .free rfl rfl ?_
  rintro _ _ ⟨b3, rfl, rfl⟩
  refine p_chg rfl (ch_boxA rfl) .free rfl rfl ?_
  rintro _ _ ⟨b4, rfl, rfl⟩
  refine p_chg rfl (ch_boxA rfl) .free rfl rfl ?_
  rintro _ _ ⟨b5, rfl, rfl⟩
  refine kPa rfl rfl ?_; refine p_nil ?_; refine g_seq ?_; refine g_region ?_; refine kPv (ev_mkf rfl rfl) rfl ?_; refine kPa rfl rfl ?_; refine p_nil ?_; refine go_sub (σ' := [(6, _)]) ⟨rfl, trivial⟩ ?_; refine g_ret ?_
  exact ret_tmp Tryz.results83 rfl (fun w hw => ⟨_, ⟨_, _, _, rfl, rfl⟩, hw⟩)
theorem wobj1_ok (B : World) (E : List HP) (l f b3 b4 b5 bd : Nat) (c : Cfg) (hc : CfgW c) (b : Blk) (sv : Value) (hb : BlkW c b) (hsv : cell1 sv = true) (s : Dev) (ι : Type) (r : Loop) (hrf : r.fn = f) (hrp : r.params.size = 2) (I : ι → Prop) (Hx : ι → List HP) (cd : ι → Code) (st : (Obj3 × Int) → ι → Bool × ι) (x0 : ι) (h0 : I x0) (hround : ∀ (p : Obj3 × Int) (x : ι), ObjW p.1 → I x → I (st p x).2 ∧ ∀ (E : List HP) w, Holds B (blk l (.loop r) :: row b5 [i64 b.act, i64 b.used, sv] 33 :: row b4 [i64 c.log, i64 c.roots, i64 c.space] 30 :: row b3 [ptr bd] 28 :: DevA bd s :: (Hx x ++ E)) w → RoundIn (Wd (cxF f)) 0 Tryz.prog l f ((r.params.zip [objV p.1, i64 p.2].toArray).foldl (fun tmps (t, a) => tmps.setIfInBounds t a) r.tmps) r.assign r.body w (Ret B (fun rv H' => rv = .bool (st p x).1 ∧ H' = blk l (.loop (lst r cd (st p x))) :: row b5 [i64 b.act, i64 b.used, sv] 33 :: row b4 [i64 c.log, i64 c.roots, i64 c.space] 30 :: row b3 [ptr bd] 28 :: DevA bd s :: (Hx (st p x).2 ++ E)) (fun _ _ => False))) :
    ∀ w, Holds B (blk l (.loop r) :: row b5 [i64 b.act, i64 b.used, sv] 33 :: row b4 [i64 c.log, i64 c.roots, i64 c.space] 30 :: row b3 [ptr bd] 28 :: DevA bd s :: (Hx x0 ++ E)) w → Calls Tryz.prog 109 [.func (.yield l) #[] #[], ptr b5, ptr b4, ptr b3].toArray w (Ret B (fun _ H' => I (itl st (s.objs c b (b.used.toNat + 1) (b.place c 0)) x0).2 ∧ H' = blk l (.loop (lst r cd (itl st (s.objs c b (b.used.toNat + 1) (b.place c 0)) x0))) :: row b5 [i64 b.act, i64 b.used, sv] 33 :: row b4 [i64 c.log, i64 c.roots, i64 c.space] 30 :: row b3 [ptr bd] 28 :: DevA bd s :: (Hx (itl st (s.objs c b (b.used.toNat + 1) (b.place c 0)) x0).2 ++ E)) (fun _ _ => False)) := by
  refine fn_enter Tryz.func109 rfl Tryz.ntmps109 rfl ?_
  have hb1 := hb.act
  have hb2 := hb.used
  have hcs := hc.s2
  have hfb := frm_b hc (k := b.act) (by omega)
  have hpl := place_b hc hb hb2
  have hp0 : b.place c 0 = c.frm b.act + 0 := rfl
  have hp1 : b.place c b.used = c.frm b.act + b.used := rfl
  refine g_seq ?_; refine g_draw Tryz.mixed (by kernel_rfl) (by kernel_rfl) ?_; refine kQv (ev_loadA Tryz.isAgg33 Tryz.sizeOf33 rfl rfl) rfl ?_; refine kQv (ev_loadA Tryz.isAgg30 Tryz.sizeOf30 rfl rfl) rfl ?_; refine q_call rfl (en_f Tryz.call94 rfl) (place_ok _ _ c hc b sv hb hsv _ (by omega)) .free rfl ?_; refine kQv (ev_loadA Tryz.isAgg33 Tryz.sizeOf33 rfl rfl) rfl ?_; refine kQv (ev_loadA Tryz.isAgg30 Tryz.sizeOf30 rfl rfl) rfl ?_; refine kQv (ev_fa (m := _) fa_33_1 rfl rfl) rfl ?_
  refine kQv (ev_load Tryz.isAgg3 rfl rfl) rfl ?_; refine q_call rfl (en_f Tryz.call94 rfl) (place_ok _ _ c hc b sv hb hsv _ (by omega)) .free rfl ?_; refine kQa rfl rfl ?_; refine kQa rfl rfl ?_; refine q_nil ?_; refine go_sub (σ' := [(6, _), (5, _), (0, _), (1, _), (2, _), (3, _)]) ⟨rfl, rfl, rfl, rfl, rfl, rfl, trivial⟩ ?_; refine g_block ?_
  refine g_loop (ι := Int × Nat × ι) (fun i => I i.2.2 ∧ (0 ≤ i.1 ∧ i.1 ≤ 100000) ∧ b.place c b.used - i.1 < i.2.1 ∧ itl st (s.objs c b (b.used.toNat + 1) (b.place c 0)) x0 = itl st (s.objs c b i.2.1 i.1) i.2.2) (fun i => [(0, .func (.yield l) #[] #[]), (1, ptr b5), (2, ptr b4), (3, ptr b3), (5, i64 i.1), (6, i64 (b.place c b.used))]) (fun i => blk l (.loop r) :: row b5 [i64 b.act, i64 b.used, sv] 33 :: row b4 [i64 c.log, i64 c.roots, i64 c.space] 30 :: row b3 [ptr bd] 28 :: DevA bd s :: (Hx i.2.2 ++ E)) (fun i => i.2.1) (b.place c 0, b.used.toNat + 1, x0) ⟨h0, by simp only; omega, by simp only; omega, rfl⟩ (fun a w st => st.to ⟨rfl, rfl, rfl, rfl, rfl, rfl, trivial⟩ id) ?_
  rintro ⟨a, n, x⟩ ⟨hIx, ha1, ha2, hinv⟩
  simp only at hIx ha1 ha2 hinv ⊢
  refine g_seq ?_; refine g_seq ?_; refine g_region ?_; refine kPm rfl rfl ?_; refine kPm rfl rfl ?_; refine kPv (ev_cmp rfl rfl rfl) rfl ?_; refine p_nil ?_
  refine g_if rfl (fun h19 => ?_) (fun h19 => ?_)
  · have hk : a < b.place c b.used := by simpa using h19
    obtain ⟨n, rfl⟩ : ∃ m, n = m + 1 := ⟨n - 1, by omega⟩
    refine g_skip ?_; refine g_block ?_; refine g_seq ?_; refine g_region ?_; refine kPv (ev_load Tryz.isAgg28 rfl rfl) rfl ?_; refine kPv (ev_loadA Tryz.isAgg30 Tryz.sizeOf30 rfl rfl) rfl ?_; refine kPv (ev_loadA Tryz.isAgg33 Tryz.sizeOf33 rfl rfl) rfl ?_; refine kPm rfl rfl ?_; refine p_callq rfl (en_f Tryz.call51 rfl) (ro_at (q := DevA) (fun Fr => obj_ok _ Fr _ _ c hc b sv hb hsv a (by omega))) .free rfl rfl ?_; refine kPm rfl rfl ?_; refine kPv (ev_ext rfl rfl) rfl ?_
    refine kPv (ev_ext rfl rfl) rfl ?_; refine p_chg rfl (ch_allocA Tryz.zeroValue89 rfl) .free rfl rfl ?_
    rintro _ _ ⟨b7, rfl, rfl⟩
    refine p_chg0 rfl (ch_storeA (vs := _) Tryz.sizeOf89 rfl rfl rfl rfl rfl) .free rfl ?_
    rintro _ _ rfl
    refine kPa rfl rfl ?_; refine p_nil ?_; refine go_sub (σ' := [(8, _), (7, _), (6, _), (5, _), (0, _), (1, _), (2, _), (3, _)]) ⟨rfl, rfl, rfl, rfl, rfl, rfl, rfl, rfl, trivial⟩ ?_; refine g_seq ?_; refine g_seq ?_; refine g_region ?_; refine kPm rfl rfl ?_; refine kPv (ev_cmp rfl rfl rfl) rfl ?_; refine p_nil ?_
    refine g_if rfl (fun h29 => ?_) (fun h29 => ?_)
    · have he : (s.objOf c b a).2 ≠ 0 := by simpa using h29
      have hob : s.objs c b (n + 1) a = [((0, 0, a), (s.objOf c b a).2)] := by
        simp only [Dev.objs]
        rw [if_neg (by omega), if_pos he]
      have ho1 : 0 ≤ (s.objOf c b a).1.1 ∧ (s.objOf c b a).1.1 ≤ 64 := objOf_b
      refine g_region ?_; refine kPm rfl rfl ?_; refine kPv (ev_build rfl (bld_89_1 _ rfl)) rfl ?_; refine p_chg0 rfl (ch_storeA (vs := _) Tryz.sizeOf89 rfl rfl rfl rfl rfl) .free rfl ?_
      rintro _ _ rfl
      refine p_nil ?_; refine g_seq ?_; refine g_seq ?_; refine g_region ?_; refine kPm rfl rfl ?_; refine kPv (ev_loadA Tryz.isAgg89 Tryz.sizeOf89 rfl rfl) rfl ?_; refine kPm rfl rfl ?_
      first | refine p_yield (f := f) (r := r) (H1 := row b5 [i64 b.act, i64 b.used, sv] 33 :: row b4 [i64 c.log, i64 c.roots, i64 c.space] 30 :: row b3 [ptr bd] 28 :: DevA bd s :: (Hx x ++ (row b7 [i64 (s.objOf c b a).1.1, i64 (s.objOf c b a).1.2.1, i64 (s.objOf c b a).1.2.2] 89 :: E))) rfl rfl (fun w hh => hh.perm (List.perm_middle (l₁ := blk l (.loop r) :: row b5 [i64 b.act, i64 b.used, sv] 33 :: row b4 [i64 c.log, i64 c.roots, i64 c.space] 30 :: row b3 [ptr bd] 28 :: DevA bd s :: Hx x)).symm) (by rw [hrp]; rfl) hrf ((hround (s.objOf c b a) x (objOf_w hc hb he) hIx).2 (row b7 [i64 (s.objOf c b a).1.1, i64 (s.objOf c b a).1.2.1, i64 (s.objOf c b a).1.2.2] 89 :: E)) .free rfl ?_ ?_ | refine p_yield (f := f) (r := r) (H1 := row b5 [i64 b.act, i64 b.used, sv] 33 :: row b4 [i64 c.log, i64 c.roots, i64 c.space] 30 :: row b3 [ptr bd] 28 :: DevA bd s :: (Hx x ++ (row b7 [i64 0, i64 0, i64 a] 89 :: E))) rfl rfl (fun w hh => hh.perm (List.perm_middle (l₁ := blk l (.loop r) :: row b5 [i64 b.act, i64 b.used, sv] 33 :: row b4 [i64 c.log, i64 c.roots, i64 c.space] 30 :: row b3 [ptr bd] 28 :: DevA bd s :: Hx x)).symm) (by rw [hrp]; rfl) hrf ((hround ((0, 0, a), (s.objOf c b a).2) x (objW0 (by omega)) hIx).2 (row b7 [i64 0, i64 0, i64 a] 89 :: E)) .free rfl ?_ ?_
      rotate_left
      · rintro _ _ ⟨⟩
      rintro _ _ ⟨rfl, rfl⟩
      first | refine go_conv (H' := row b7 [i64 (s.objOf c b a).1.1, i64 (s.objOf c b a).1.2.1, i64 (s.objOf c b a).1.2.2] 89 :: blk l (.loop (lst r cd (st (s.objOf c b a) x))) :: row b5 [i64 b.act, i64 b.used, sv] 33 :: row b4 [i64 c.log, i64 c.roots, i64 c.space] 30 :: row b3 [ptr bd] 28 :: DevA bd s :: (Hx (st (s.objOf c b a) x).2 ++ E)) (fun w hh => hh.perm (List.perm_middle (l₁ := blk l (.loop (lst r cd (st (s.objOf c b a) x))) :: row b5 [i64 b.act, i64 b.used, sv] 33 :: row b4 [i64 c.log, i64 c.roots, i64 c.space] 30 :: row b3 [ptr bd] 28 :: DevA bd s :: Hx (st (s.objOf c b a) x).2))) ?_ | refine go_conv (H' := row b7 [i64 0, i64 0, i64 a] 89 :: blk l (.loop (lst r cd (st ((0, 0, a), (s.objOf c b a).2) x))) :: row b5 [i64 b.act, i64 b.used, sv] 33 :: row b4 [i64 c.log, i64 c.roots, i64 c.space] 30 :: row b3 [ptr bd] 28 :: DevA bd s :: (Hx (st ((0, 0, a), (s.objOf c b a).2) x).2 ++ E)) (fun w hh => hh.perm (List.perm_middle (l₁ := blk l (.loop (lst r cd (st ((0, 0, a), (s.objOf c b a).2) x))) :: row b5 [i64 b.act, i64 b.used, sv] 33 :: row b4 [i64 c.log, i64 c.roots, i64 c.space] 30 :: row b3 [ptr bd] 28 :: DevA bd s :: Hx (st ((0, 0, a), (s.objOf c b a).2) x).2))) ?_
      refine kPv (ev_not rfl) rfl ?_; refine kPm rfl rfl ?_
      apply p_or (tp := 40) (t := 37) (σ1 := [(37, _), (7, _), (6, _), (5, _), (0, _), (1, _), (2, _), (3, _)]) 3 rfl ⟨rfl, rfl, rfl, rfl, rfl, rfl, rfl, rfl, trivial⟩
      · intro hg1
        refine p_val rfl (ev_move rfl) (.on rfl rfl (beq_eq hg1)) rfl rfl ?_; refine p_val rfl (ev_cmp rfl rfl rfl) (.on rfl rfl (beq_eq hg1)) rfl rfl ?_; refine kPv (ev_pick_f rfl hg1 rfl) rfl ?_
        exact p_seg rfl ⟨rfl, rfl, rfl, rfl, rfl, rfl, rfl, rfl, trivial⟩ (or_f hg1)
      · intro hg1
        refine p_skip rfl (.on rfl rfl (beq_ne hg1)) rfl ?_; refine p_skip rfl (.on rfl rfl (beq_ne hg1)) rfl ?_; refine kPv (ev_pick_t rfl hg1 rfl) rfl ?_
        exact p_seg rfl ⟨rfl, rfl, rfl, rfl, rfl, rfl, rfl, rfl, trivial⟩ (or_t hg1)
      refine p_nil ?_
      refine g_if rfl (fun h40 => ?_) (fun h40 => ?_)
      · try simp only [decide_eq_true_eq, decide_eq_false_iff_not, Bool.not_eq_true', Bool.not_eq_false', Bool.or_eq_true, Bool.and_eq_true, Bool.and_eq_false_iff, Bool.or_eq_false_iff, beq_iff_eq, bne_iff_ne, beq_eq_false_iff_ne, bne_eq_false_iff_eq, ge_iff_le, gt_iff_lt, ne_eq] at h40
        refine g_ret ?_
        exact ret_none Tryz.results109 (fun w hh => ⟨_, ⟨by rw [hinv, hob, itl1]; exact (hround ((0, 0, a), (s.objOf c b a).2) x (objW0 (by omega)) hIx).1, by rw [hinv, hob, itl1]⟩, hh.tail⟩)
      · have h40' := h40
        have hg : (st (s.objOf c b a) x).1 = true ∨ (s.objOf c b a).2 ≠ 0 := by first | exact .inr he | (left; simpa [he] using h40)
        have hlr : (st (s.objOf c b a) x).1 = true → lst r cd (st (s.objOf c b a) x) = r := fun hg => by unfold lst; rw [if_pos hg]
        refine g_skip ?_; refine g_region ?_; refine kPm rfl rfl ?_; refine kPv (ev_fa (m := _) fa_89_0 rfl rfl) rfl ?_; refine kPv (ev_loadA Tryz.isAgg87 Tryz.sizeOf87 rfl rfl) rfl ?_; refine p_callq rfl (en_f Tryz.call52 rfl) (hsize_ok _ _ _ _ (by omega)) .free rfl rfl ?_
        first | refine p_val rfl (ev_add rfl rfl (wr64 (by omega))) .free rfl rfl ?_ | refine p_val rfl (ev_add rfl rfl rfl) .free rfl rfl ?_
        refine kPa rfl rfl ?_; refine p_nil ?_; refine go_sub (σ' := [(5, _), (6, _), (0, _), (1, _), (2, _), (3, _)]) ⟨rfl, rfl, rfl, rfl, rfl, rfl, trivial⟩ ?_
        exact absurd (by simp at h40; exact h40.2) he
    · have he : (s.objOf c b a).2 = 0 := by simpa using h29
      have hob : s.objs c b (n + 1) a = s.objOf c b a :: s.objs c b n (a + ((s.objOf c b a).1.1 + 1)) := by
        simp only [Dev.objs]
        rw [if_neg (by omega), if_neg (by omega)]
      have ho := objOf_w hc hb he
      have ho1 := ho.w
      have ho2 := ho.r
      have ho3 := ho.at_
      refine g_skip ?_; refine g_seq ?_; refine g_seq ?_; refine g_region ?_; refine kPm rfl rfl ?_; refine kPv (ev_loadA Tryz.isAgg89 Tryz.sizeOf89 rfl rfl) rfl ?_; refine kPm rfl rfl ?_
      first | refine p_yield (f := f) (r := r) (H1 := row b5 [i64 b.act, i64 b.used, sv] 33 :: row b4 [i64 c.log, i64 c.roots, i64 c.space] 30 :: row b3 [ptr bd] 28 :: DevA bd s :: (Hx x ++ (row b7 [i64 (s.objOf c b a).1.1, i64 (s.objOf c b a).1.2.1, i64 (s.objOf c b a).1.2.2] 89 :: E))) rfl rfl (fun w hh => hh.perm (List.perm_middle (l₁ := blk l (.loop r) :: row b5 [i64 b.act, i64 b.used, sv] 33 :: row b4 [i64 c.log, i64 c.roots, i64 c.space] 30 :: row b3 [ptr bd] 28 :: DevA bd s :: Hx x)).symm) (by rw [hrp]; rfl) hrf ((hround (s.objOf c b a) x (objOf_w hc hb he) hIx).2 (row b7 [i64 (s.objOf c b a).1.1, i64 (s.objOf c b a).1.2.1, i64 (s.objOf c b a).1.2.2] 89 :: E)) .free rfl ?_ ?_ | refine p_yield (f := f) (r := r) (H1 := row b5 [i64 b.act, i64 b.used, sv] 33 :: row b4 [i64 c.log, i64 c.roots, i64 c.space] 30 :: row b3 [ptr bd] 28 :: DevA bd s :: (Hx x ++ (row b7 [i64 0, i64 0, i64 a] 89 :: E))) rfl rfl (fun w hh => hh.perm (List.perm_middle (l₁ := blk l (.loop r) :: row b5 [i64 b.act, i64 b.used, sv] 33 :: row b4 [i64 c.log, i64 c.roots, i64 c.space] 30 :: row b3 [ptr bd] 28 :: DevA bd s :: Hx x)).symm) (by rw [hrp]; rfl) hrf ((hround ((0, 0, a), (s.objOf c b a).2) x (objW0 (by omega)) hIx).2 (row b7 [i64 0, i64 0, i64 a] 89 :: E)) .free rfl ?_ ?_
      rotate_left
      · rintro _ _ ⟨⟩
      rintro _ _ ⟨rfl, rfl⟩
      first | refine go_conv (H' := row b7 [i64 (s.objOf c b a).1.1, i64 (s.objOf c b a).1.2.1, i64 (s.objOf c b a).1.2.2] 89 :: blk l (.loop (lst r cd (st (s.objOf c b a) x))) :: row b5 [i64 b.act, i64 b.used, sv] 33 :: row b4 [i64 c.log, i64 c.roots, i64 c.space] 30 :: row b3 [ptr bd] 28 :: DevA bd s :: (Hx (st (s.objOf c b a) x).2 ++ E)) (fun w hh => hh.perm (List.perm_middle (l₁ := blk l (.loop (lst r cd (st (s.objOf c b a) x))) :: row b5 [i64 b.act, i64 b.used, sv] 33 :: row b4 [i64 c.log, i64 c.roots, i64 c.space] 30 :: row b3 [ptr bd] 28 :: DevA bd s :: Hx (st (s.objOf c b a) x).2))) ?_ | refine go_conv (H' := row b7 [i64 0, i64 0, i64 a] 89 :: blk l (.loop (lst r cd (st ((0, 0, a), (s.objOf c b a).2) x))) :: row b5 [i64 b.act, i64 b.used, sv] 33 :: row b4 [i64 c.log, i64 c.roots, i64 c.space] 30 :: row b3 [ptr bd] 28 :: DevA bd s :: (Hx (st ((0, 0, a), (s.objOf c b a).2) x).2 ++ E)) (fun w hh => hh.perm (List.perm_middle (l₁ := blk l (.loop (lst r cd (st ((0, 0, a), (s.objOf c b a).2) x))) :: row b5 [i64 b.act, i64 b.used, sv] 33 :: row b4 [i64 c.log, i64 c.roots, i64 c.space] 30 :: row b3 [ptr bd] 28 :: DevA bd s :: Hx (st ((0, 0, a), (s.objOf c b a).2) x).2))) ?_
      refine kPv (ev_not rfl) rfl ?_; refine kPm rfl rfl ?_
      apply p_or (tp := 40) (t := 37) (σ1 := [(37, _), (7, _), (6, _), (5, _), (0, _), (1, _), (2, _), (3, _)]) 3 rfl ⟨rfl, rfl, rfl, rfl, rfl, rfl, rfl, rfl, trivial⟩
      · intro hg2
        refine p_val rfl (ev_move rfl) (.on rfl rfl (beq_eq hg2)) rfl rfl ?_; refine p_val rfl (ev_cmp rfl rfl rfl) (.on rfl rfl (beq_eq hg2)) rfl rfl ?_; refine kPv (ev_pick_f rfl hg2 rfl) rfl ?_
        exact p_seg rfl ⟨rfl, rfl, rfl, rfl, rfl, rfl, rfl, rfl, trivial⟩ (or_f hg2)
      · intro hg2
        refine p_skip rfl (.on rfl rfl (beq_ne hg2)) rfl ?_; refine p_skip rfl (.on rfl rfl (beq_ne hg2)) rfl ?_; refine kPv (ev_pick_t rfl hg2 rfl) rfl ?_
        exact p_seg rfl ⟨rfl, rfl, rfl, rfl, rfl, rfl, rfl, rfl, trivial⟩ (or_t hg2)
      refine p_nil ?_
      refine g_if rfl (fun h40 => ?_) (fun h40 => ?_)
      · try simp only [decide_eq_true_eq, decide_eq_false_iff_not, Bool.not_eq_true', Bool.not_eq_false', Bool.or_eq_true, Bool.and_eq_true, Bool.and_eq_false_iff, Bool.or_eq_false_iff, beq_iff_eq, bne_iff_ne, beq_eq_false_iff_ne, bne_eq_false_iff_eq, ge_iff_le, gt_iff_lt, ne_eq] at h40
        refine g_ret ?_
        exact ret_none Tryz.results109 (fun w hh => ⟨_, ⟨by rw [hinv, hob, itl0 (by simpa [he] using h40)]; exact (hround (s.objOf c b a) x (objOf_w hc hb he) hIx).1, by rw [hinv, hob, itl0 (by simpa [he] using h40)]⟩, hh.tail⟩)
      · have h40' := h40
        have hg : (st (s.objOf c b a) x).1 = true ∨ (s.objOf c b a).2 ≠ 0 := by first | exact .inr he | (left; simpa [he] using h40)
        have hlr : (st (s.objOf c b a) x).1 = true → lst r cd (st (s.objOf c b a) x) = r := fun hg => by unfold lst; rw [if_pos hg]
        refine g_skip ?_; refine g_region ?_; refine kPm rfl rfl ?_; refine kPv (ev_fa (m := _) fa_89_0 rfl rfl) rfl ?_; refine kPv (ev_loadA Tryz.isAgg87 Tryz.sizeOf87 rfl rfl) rfl ?_; refine p_callq rfl (en_f Tryz.call52 rfl) (hsize_ok _ _ _ _ (by omega)) .free rfl rfl ?_
        first | refine p_val rfl (ev_add rfl rfl (wr64 (by omega))) .free rfl rfl ?_ | refine p_val rfl (ev_add rfl rfl rfl) .free rfl rfl ?_
        refine kPa rfl rfl ?_; refine p_nil ?_; refine go_sub (σ' := [(5, _), (6, _), (0, _), (1, _), (2, _), (3, _)]) ⟨rfl, rfl, rfl, rfl, rfl, rfl, trivial⟩ ?_
        exact fun a_ w st_ => ⟨(_, n, (st (s.objOf c b a) x).2), ⟨(hround (s.objOf c b a) x (objOf_w hc hb he) hIx).1, by simp only; omega, by simp only; omega, by rw [hinv, hob]; simp only [itl]; rw [if_pos (hg.resolve_right (by omega))]⟩, by simp only; omega, st_.to ⟨rfl, rfl, rfl, rfl, rfl, rfl, trivial⟩ (fun hh => by have hh := hh.tail; rw [hlr (hg.resolve_right (by omega))] at hh; exact hh)⟩
  · have hk : ¬ a < b.place c b.used := by simpa using h19
    refine g_exit ?_
    exact end_none Tryz.results109 (fun w hh => ⟨_, ⟨by rw [hinv, objs_end (by omega)]; exact hIx, by rw [hinv, objs_end (by omega)]; rfl⟩, hh⟩)
end Go.Proofs.YtbfheafpecgphaaGreat
namespace Go.Proofs.YtbfheafpecgphaaGreat
open Go
theorem block_len {s : Dev} {c : Cfg} (hc : CfgW c) : (s.block c).1.rts.length ≤ 16 := by
  have := hc.r2
  unfold Dev.block
  split
  · exact Nat.zero_le _
  · rw [tab_len]; omega
theorem block_rts {s : Dev} {c : Cfg} (hu : U64 s) : ∀ x ∈ (s.block c).1.rts, 0 ≤ x ∧ x < 18446744073709551616 := by
  intro x hx
  unfold Dev.block at hx
  split at hx
  · cases hx
  · obtain ⟨i, _, rfl⟩ := List.mem_map.1 hx
    exact hu.load _
theorem lst_busy {ι : Type} {r : Loop} {cd : ι → Code} {y : Bool × ι} (h : r.state ≠ .busy) : (lst r cd y).state ≠ .busy := by
  unfold lst; split
  · exact h
  · simp
theorem lst_none {ι : Type} {r : Loop} {cd : ι → Code} {y : Bool × ι} (h : (lst r cd y).pending = none) : y.1 = true := by
  unfold lst at h; split at h
  · assumption
  · cases h
theorem lst_some {ι : Type} {r : Loop} {cd : ι → Code} {y : Bool × ι} {c : Code} (hr : r.pending = none) (h : (lst r cd y).pending = some c) : y.1 = false ∧ c = cd y.2 := by
  unfold lst at h; split at h
  · rw [hr] at h; cases h
  · rename_i h1; exact ⟨by simpa using h1, by simpa using h.symm⟩
def stS (p : Obj3 × Int) (x : List (Int × Obj3) × Int) : Bool × List (Int × Obj3) × Int := if p.2 ≠ 0 then (false, (x.1, p.2)) else (true, (mset x.1 p.1.2.2 p.1, x.2))
def Dev.startsI (s : Dev) (c : Cfg) (b : Blk) : Bool × List (Int × Obj3) × Int := itl stS (s.objs c b (b.used.toNat + 1) (b.place c 0)) ([], 0)
def Dev.starts (s : Dev) (c : Cfg) (b : Blk) : List (Int × Obj3) × Int := (s.startsI c b).2
theorem itl_inv {α ι : Type} {st : α → ι → Bool × ι} {I : ι → Prop} (h : ∀ a x, I x → (st a x).1 = true → I (st a x).2) : ∀ (l : List α) (x : ι), I x → (itl st l x).1 = true → I (itl st l x).2
  | [], x, hx, _ => hx
  | a :: t, x, hx, h1 => by
    unfold itl at h1 ⊢
    split at h1
    · rename_i ha; rw [if_pos ha]; exact itl_inv h t _ (h a x hx ha) h1
    · cases h1
theorem starts_ok {s : Dev} {c : Cfg} {b : Blk} (h : (s.startsI c b).1 = true) : (s.starts c b).2 = 0 :=
  itl_inv (I := fun x => x.2 = 0) (fun a x hx h => by
    unfold stS at h ⊢; split at h
    · cases h
    · rename_i h1; rw [if_neg h1]; exact hx) _ _ rfl h
theorem stS_bad : ∀ (l : List (Obj3 × Int)) (x : List (Int × Obj3) × Int), (itl stS l x).1 = false → ¬ (itl stS l x).2.2 = 0
  | [], x, h => by cases h
  | a :: t, x, h => by
    unfold itl at h ⊢
    split at h
    · rename_i ha; rw [if_pos ha]; exact stS_bad t _ h
    · rename_i ha; rw [if_neg ha]
      unfold stS at ha ⊢
      split at ha
      · rename_i h1; rw [if_pos h1]; exact h1
      · exact absurd rfl ha
theorem starts_bad {s : Dev} {c : Cfg} {b : Blk} (h : (s.startsI c b).1 = false) : ¬ (s.starts c b).2 = 0 := stS_bad _ _ h
theorem wstarts_ok (B : World) (Fr : List HP) (bd : Nat) (s : Dev) (c : Cfg) (hc : CfgW c) (b : Blk) (sv : Value) (hb : BlkW c b) (hsv : cell1 sv = true) :
    ∀ w, Holds B (DevA bd s :: Fr) w → Calls Tryz.prog 80 [ptr bd, cfgV c, blkV b sv].toArray w (Ret B (fun rv H' => ∃ mb, rv = .tuple #[.map (some mb), i64 (s.starts c b).2] ∧ H' = mapA .i64 objV mb (s.starts c b).1 :: DevA bd s :: Fr) (fun _ _ => False)) := by
  refine fn_enter_m Tryz.func80 rfl Tryz.ntmps80 rfl ?_; refine g_seq ?_; refine g_region ?_; refine p_chg rfl (ch_boxA rfl) .free rfl rfl ?_
  rintro _ _ ⟨b4, rfl, rfl⟩
  refine p_chg rfl (ch_boxA rfl) .free rfl rfl ?_
  rintro _ _ ⟨b5, rfl, rfl⟩
  refine p_chg rfl (ch_alloc1 Tryz.zeroValue124 rfl) .free rfl rfl ?_
  rintro _ _ ⟨b6, rfl, rfl⟩
  refine p_chg rfl (ch_alloc1 Tryz.zeroValue46 rfl) .free rfl rfl ?_
  rintro _ _ ⟨b7, rfl, rfl⟩
  refine p_nil ?_; refine g_seq ?_; refine g_region ?_; refine p_chg rfl (ch_makeMap .i64 objV) .free rfl rfl ?_
  rintro _ _ ⟨mb, rfl, rfl⟩
  refine p_chg rfl (ch_alloc1 Tryz.zeroValue124 rfl) .free rfl rfl ?_
  rintro _ _ ⟨b8, rfl, rfl⟩
  refine p_chg0 rfl (ch_store Tryz.sizeOf124 rfl rfl rfl rfl) .free rfl ?_
  rintro _ _ rfl
  refine p_nil ?_; refine g_seq ?_; refine g_seq ?_; refine g_region ?_; refine kPm rfl rfl ?_; refine kPv (ev_loadA Tryz.isAgg30 Tryz.sizeOf30 rfl rfl) rfl ?_; refine kPv (ev_loadA Tryz.isAgg33 Tryz.sizeOf33 rfl rfl) rfl ?_
  refine p_call rfl (en_f Tryz.call83 rfl) (wobjs_ok _ _ bd c b sv hsv) .free rfl rfl ?_ ?_
  rotate_left
  · rintro _ _ ⟨⟩
  rintro _ _ ⟨c3, c4, c5, rfl, rfl⟩
  refine p_nil ?_; refine go_sub (σ' := [(15, _), (8, _), (7, _), (6, _)]) ⟨rfl, rfl, rfl, rfl, trivial⟩ ?_; refine g_block ?_; refine g_range rfl Tryz.call109 ?_
  intro l m tmps hts hkn w hh
  have hk6 := hkn 6 _ rfl
  have hk7 := hkn 7 _ rfl
  have hk8 := hkn 8 _ rfl
  refine (wobj1_ok B (blk m (.deferred (some [])) :: row b5 [i64 b.act, i64 b.used, sv] 33 :: row b4 [i64 c.log, i64 c.roots, i64 c.space] 30 :: Fr) l 80 c3 c4 c5 bd c hc b sv hb hsv s (List (Int × Obj3) × Int) _ rfl rfl (fun x => True) (fun x => [mapA .i64 objV mb x.1, row b6 [if x.2 = 0 then .map none else .map (some mb)] 124, row b7 [i64 x.2] 46, row b8 [.map (some mb)] 124]) (fun _ => .ret) stS ([], 0) trivial ?_ w (hh.pk [0, 1, 1, 1, 7, 2, 3, 2, 1])).mono (Ret.mono ?_ fun _ _ h => h.elim)
  · intro p x _ _
    refine ⟨trivial, fun E => ?_⟩
    simp only [List.cons_append, List.nil_append]
    refine round_go (n := 27) (σ := [(16, objV p.1), (17, i64 p.2), (6, ptr b6), (7, ptr b7), (8, ptr b8)]) Tryz.func80 (by simp [lrec, hts]) (KnA.knows (by simp [KnA, lrec, hts]; exact ⟨(Array.getElem?_eq_some_iff.1 hk6).2, (Array.getElem?_eq_some_iff.1 hk7).2, (Array.getElem?_eq_some_iff.1 hk8).2⟩)) rfl ?_
    refine g_seq ?_; refine g_region ?_; refine p_chg rfl (ch_allocA Tryz.zeroValue89 rfl) .free rfl rfl ?_
    rintro _ _ ⟨b9, rfl, rfl⟩
    refine p_chg0 rfl (ch_storeA (vs := [i64 p.1.1, i64 p.1.2.1, i64 p.1.2.2]) Tryz.sizeOf89 rfl rfl rfl rfl rfl) .free rfl ?_
    rintro _ _ rfl
    refine p_nil ?_; refine g_region ?_; refine kPa rfl rfl ?_; refine p_nil ?_; refine go_pk [1] ?_; refine go_mid ?_; refine g_block ?_; refine g_seq ?_; refine g_seq ?_; refine g_region ?_; refine kPm rfl rfl ?_; refine kPv (ev_cmp rfl rfl rfl) rfl ?_; refine p_nil ?_
    refine g_if rfl (fun h19 => ?_) (fun h19 => ?_)
    · have h19' : p.2 ≠ 0 := by simpa using h19
      refine g_seq ?_; refine g_region ?_; refine kPv (ev_load Tryz.isAgg124 rfl rfl) rfl ?_; refine kPm rfl rfl ?_; refine p_chg0 rfl (ch_store Tryz.sizeOf124 rfl rfl rfl rfl) .free rfl ?_
      rintro _ _ rfl
      refine p_chg0 rfl (ch_store Tryz.sizeOf46 rfl rfl rfl rfl) .free rfl ?_
      rintro _ _ rfl
      refine p_nil ?_; refine go_sub (σ' := [(9, _), (6, _), (7, _), (8, _)]) ⟨rfl, rfl, rfl, rfl, trivial⟩ ?_; refine g_ret ?_
      have hst : stS p x = (false, (x.1, p.2)) := by unfold stS; rw [if_pos h19']
      exact go_rJ fun w hh => ⟨_, ⟨by rw [hst], rfl⟩, by rw [hst]; rw [if_neg h19']; exact (hh.dp [1])⟩
    · have h19' : p.2 = 0 := by simpa using h19
      refine g_skip ?_; refine g_region ?_; refine kPv (ev_load Tryz.isAgg124 rfl rfl) rfl ?_; refine kPv (ev_fa (m := _) fa_89_1 rfl rfl) rfl ?_; refine kPv (ev_load Tryz.isAgg3 rfl rfl) rfl ?_; refine kPv (ev_loadA Tryz.isAgg89 Tryz.sizeOf89 rfl rfl) rfl ?_; refine p_chg0 rfl (ch_mapset (enc := objV) (u := p.1) Tryz.runUnderlying124 Tryz.runUnderlying3 rfl rfl rfl rfl) .free rfl ?_
      rintro _ _ rfl
      refine p_nil ?_; refine go_sub (σ' := [(6, _), (7, _)]) ⟨rfl, rfl, trivial⟩ ?_
      have hst : stS p x = (true, (mset x.1 p.1.2.2 p.1, x.2)) := by unfold stS; rw [if_neg (by omega)]
      exact go_rK fun w hh => ⟨_, ⟨by rw [hst], rfl⟩, by rw [hst]; exact (hh.dp [1])⟩
  rintro _ _ ⟨_, rfl⟩
  simp only [List.cons_append, List.nil_append]
  refine ⟨_, _, fun w hh => hh, lst_busy (by simp [lrec]), fun hp => ?_, fun c' hc' => ?_⟩
  rotate_left
  · obtain ⟨h1, rfl⟩ := lst_some rfl hc'
    refine g_ret ?_
    exact ret_2_m Tryz.results80 (.at 9 .nil) (.cell1 rfl Tryz.isAgg124 rfl) (.cell1 rfl Tryz.isAgg46 rfl) fun w hh => ⟨_, ⟨mb, by have hb := starts_bad h1; unfold Dev.starts Dev.startsI at hb ⊢; rw [if_neg hb], rfl⟩, ((hh.dp [0, 0, 0, 0, 2, 2, 2, 2, 2, 2]).pk [1])⟩
  have hy := starts_ok (s := s) (c := c) (b := b) (lst_none hp)
  refine g_seq ?_; refine g_region ?_; refine kPv (ev_load Tryz.isAgg124 rfl rfl) rfl ?_; refine p_chg0 rfl (ch_store Tryz.sizeOf124 rfl rfl rfl rfl) .free rfl ?_
  rintro _ _ rfl
  refine p_chg0 rfl (ch_store Tryz.sizeOf46 rfl rfl rfl rfl) .free rfl ?_
  rintro _ _ rfl
  refine p_nil ?_; refine g_ret ?_
  exact ret_2_m Tryz.results80 (.at 9 (.nil)) (.cell1 rfl Tryz.isAgg124 rfl) (.cell1 rfl Tryz.isAgg46 rfl) (fun w hh => ⟨_, ⟨mb, by rw [hy], rfl⟩, ((hh.dp [0, 0, 0, 0, 2, 2, 2, 2, 2, 2]).pk [1])⟩)
end Go.Proofs.YtbfheafpecgphaaGreat
