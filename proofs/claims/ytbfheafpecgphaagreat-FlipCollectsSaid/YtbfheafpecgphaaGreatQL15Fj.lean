/- Part of the texts beneath a law: what its proof names. Conditions: none. -/
import Derived.Test.YtbfheafpecgphaaGreatQL15Fi
set_option linter.unusedSimpArgs false
set_option linter.unusedVariables false
set_option linter.unnecessarySimpa false
set_option linter.unusedSectionVars false
namespace Go.Proofs.YtbfheafpecgphaaGreat
open Go
abbrev enc3 (o : Obj3) : List Value := [i64 o.1, i64 o.2.1, i64 o.2.2]
theorem enc3_w : EncW 3 enc3 := ⟨fun _ => rfl, fun _ => rfl⟩
theorem mval_i (o : Option Int) : mval i64 (i64 0) o = i64 (o.getD 0) := by cases o <;> rfl
abbrev SeenS := List (Int × Unit) × List Obj3
def Dev.see (s : Dev) (c : Cfg) (b : Blk) (x : SeenS) (v : Int) : SeenS :=
  if (mget x.1 v).isSome = true ∨ b.has c v = false then x
  else if (s.objOf c b v).2 = 0 then (mset x.1 v (), x.2 ++ [(s.objOf c b v).1]) else x
def Dev.namesOf (s : Dev) (o : Obj3) : List Int := (s.objNames o o.2.1.toNat 0).map fun p => IntKind.u64.wrap p.2
def Dev.reachL (s : Dev) (c : Cfg) (b : Blk) : Nat → SeenS → List Obj3
  | 0, _ => []
  | f + 1, x => match x.2 with
    | [] => []
    | o :: t => o :: s.reachL c b f ((s.namesOf o).foldl (s.see c b) (x.1, t))
def Dev.reach (s : Dev) (c : Cfg) (b : Blk) (ws : List Int) : List Obj3 := s.reachL c b (b.used.toNat + 1) (ws.foldl (s.see c b) ([], []))
structure SeenW (s : Dev) (c : Cfg) (b : Blk) (x : SeenS) : Prop where
  nd : (x.1.map Prod.fst).Nodup
  rng : ∀ k ∈ x.1.map Prod.fst, c.frm b.act ≤ k ∧ k < c.frm b.act + b.used
  obj : ∀ o ∈ x.2, ObjW o
theorem seen_w0 {s : Dev} {c : Cfg} {b : Blk} : SeenW s c b ([], []) := ⟨List.nodup_nil, fun _ h => (by cases h), fun _ h => (by cases h)⟩
theorem mset_none {α : Type} {l : List (Int × α)} {k : Int} {a : α} (h : mget l k = none) : mset l k a = l ++ [(k, a)] := by
  induction l with
  | nil => rfl
  | cons p t ih =>
    unfold mget at h
    split at h
    · cases h
    · rename_i hp; unfold mset; rw [if_neg hp, ih h]; rfl
theorem see_w {s : Dev} {c : Cfg} (hc : CfgW c) {b : Blk} (hb : BlkW c b) {x : SeenS} (h : SeenW s c b x) (v : Int) : SeenW s c b (s.see c b x v) := by
  unfold Dev.see
  split
  · exact h
  split
  · rename_i h1 h2
    have h3 : mget x.1 v = none := by cases hm : mget x.1 v with
      | none => rfl
      | some _ => exact absurd (.inl (by rw [hm]; rfl)) h1
    have h4 : b.has c v = true := by cases hm : b.has c v with
      | true => rfl
      | false => exact absurd (.inr hm) h1
    have h5 := bhas_b hc hb h4
    rw [mset_none h3]
    refine ⟨?_, fun k hk => ?_, fun o ho => ?_⟩
    · rw [List.map_append, List.nodup_append]
      exact ⟨h.nd, by simp, fun a ha b' hb' => by simp at hb'; subst hb'; intro e; subst e; exact mget_none h3 ha⟩
    · rw [List.map_append, List.mem_append] at hk
      rcases hk with hk | hk
      · exact h.rng k hk
      · simp at hk; subst hk; omega
    · rcases List.mem_append.1 ho with ho | ho
      · exact h.obj o ho
      · rw [List.mem_singleton.1 ho]; exact objOf_w hc hb h2
  · exact h
theorem nodup_len : ∀ (n : Nat) (a : Int) (l : List Int), l.Nodup → (∀ k ∈ l, a ≤ k ∧ k < a + n) → l.length ≤ n
  | 0, a, l, _, h => by
    cases l with
    | nil => exact Nat.le_refl 0
    | cons x t => have := h x (List.mem_cons_self ..); omega
  | n + 1, a, l, hn, h => by
    have h1 := nodup_len n a (l.erase (a + n)) (hn.erase _) fun k hk => by
      have h2 := h k (List.mem_of_mem_erase hk)
      have h3 : k ≠ a + n := fun e => by subst e; exact (List.Nodup.not_mem_erase hn) hk
      omega
    have h4 : l.length ≤ (l.erase (a + n)).length + 1 := by rw [List.length_erase]; split <;> omega
    omega
theorem seen_len {s : Dev} {c : Cfg} {b : Blk} (hb : BlkW c b) {x : SeenS} (h : SeenW s c b x) : x.1.length ≤ b.used.toNat := by
  have h1 := hb.used
  have := nodup_len b.used.toNat (c.frm b.act) _ h.nd fun k hk => by have := h.rng k hk; omega
  simpa using this
def seenM (b : Blk) (x : SeenS) : Nat := b.used.toNat + x.2.length - x.1.length
theorem see_m {s : Dev} {c : Cfg} {b : Blk} (x : SeenS) (v : Int) : (s.see c b x v).2.length + x.1.length = x.2.length + (s.see c b x v).1.length := by
  unfold Dev.see
  split
  · omega
  split
  · rename_i h1 h2
    have h3 : mget x.1 v = none := by cases hm : mget x.1 v with
      | none => rfl
      | some _ => exact absurd (.inl (by rw [hm]; rfl)) h1
    rw [mset_none h3]; simp; omega
  · omega
theorem foldsee_m {s : Dev} {c : Cfg} {b : Blk} : ∀ (l : List Int) (x : SeenS), (l.foldl (s.see c b) x).2.length + x.1.length = x.2.length + (l.foldl (s.see c b) x).1.length
  | [], _ => rfl
  | v :: t, x => by
    have h1 := foldsee_m (s := s) (c := c) (b := b) t (s.see c b x v)
    have h2 := see_m (s := s) (c := c) (b := b) x v
    rw [List.foldl_cons]; omega
theorem see_ok (B : World) (Fr : List HP) (c1 c2 c3 c4 c5 mr bd : Nat) (s : Dev) (c : Cfg) (hc : CfgW c) (b : Blk) (sv : Value) (hb : BlkW c b) (hsv : cell1 sv = true) (x : SeenS) (hxl : x.2.length ≤ 1000000) (v : Int) (hv : 0 ≤ v ∧ v < 18446744073709551616) :
    ∀ w, Holds B (row c1 [.map (some mr)] 185 :: row c2 [i64 b.act, i64 b.used, sv] 33 :: row c3 [i64 c.log, i64 c.roots, i64 c.space] 30 :: row c4 [ptr bd] 28 :: VarG 186 89 3 enc3 c5 x.2 :: mapA .u64 unitE mr x.1 :: DevA bd s :: Fr) w → Calls Tryz.prog 128 [w64 v, ptr c1, ptr c2, ptr c3, ptr c4, ptr c5].toArray w (Ret B (fun _ H' => H' = row c1 [.map (some mr)] 185 :: row c2 [i64 b.act, i64 b.used, sv] 33 :: row c3 [i64 c.log, i64 c.roots, i64 c.space] 30 :: row c4 [ptr bd] 28 :: VarG 186 89 3 enc3 c5 (s.see c b x v).2 :: mapA .u64 unitE mr (s.see c b x v).1 :: DevA bd s :: Fr) (fun _ _ => False)) := by
  refine fn_enter Tryz.func128 rfl Tryz.ntmps128 rfl ?_; refine g_seq ?_; refine g_seq ?_; refine g_region ?_; refine kPv (ev_load Tryz.isAgg185 rfl rfl) rfl ?_; refine kPm rfl rfl ?_; refine kPv ((ev_lookup2 Tryz.runUnderlying185 Tryz.runUnderlying52 Tryz.zeroValue142 rfl rfl).eq (lk_unit _)) rfl ?_; refine kPm rfl rfl ?_; refine kPv (ev_ext rfl rfl) rfl ?_; refine kPv (ev_ext rfl rfl) rfl ?_; refine p_chg rfl (ch_allocA Tryz.zeroValue142 rfl) .free rfl rfl ?_
  rintro _ _ ⟨b7, rfl, rfl⟩
  refine p_chg0 rfl (ch_storeA (vs := []) Tryz.sizeOf142 rfl rfl rfl rfl rfl) .free rfl ?_
  rintro _ _ rfl
  refine kPa rfl rfl ?_; refine p_nil ?_; refine go_sub (σ' := [(8, _), (0, _), (1, _), (2, _), (3, _), (4, _), (5, _)]) ⟨rfl, rfl, rfl, rfl, rfl, rfl, rfl, trivial⟩ ?_; refine g_seq ?_; refine g_region ?_; refine kPm rfl rfl ?_; refine kPm rfl rfl ?_
  apply p_or (tp := 24) (t := 18) (σ1 := [(18, _), (0, _), (1, _), (2, _), (3, _), (4, _), (5, _)]) 6 rfl ⟨rfl, rfl, rfl, rfl, rfl, rfl, rfl, trivial⟩
  · intro hg1
    refine p_val rfl (ev_loadA Tryz.isAgg33 Tryz.sizeOf33 rfl rfl) (.on rfl rfl (beq_eq hg1)) rfl rfl ?_; refine p_val rfl (ev_loadA Tryz.isAgg30 Tryz.sizeOf30 rfl rfl) (.on rfl rfl (beq_eq hg1)) rfl rfl ?_; refine p_val rfl (ev_move rfl) (.on rfl rfl (beq_eq hg1)) rfl rfl ?_; refine p_callq rfl (en_f Tryz.call82 rfl) (has_ok _ _ c hc b sv hb hsv _ hv) (.on rfl rfl (beq_eq hg1)) rfl rfl ?_; refine p_val rfl (ev_not rfl) (.on rfl rfl (beq_eq hg1)) rfl rfl ?_
    refine kPv (ev_pick_f rfl hg1 rfl) rfl ?_
    exact p_seg rfl ⟨rfl, rfl, rfl, rfl, rfl, rfl, rfl, trivial⟩ (or_f hg1)
  · intro hg1
    refine p_skip rfl (.on rfl rfl (beq_ne hg1)) rfl ?_; refine p_skip rfl (.on rfl rfl (beq_ne hg1)) rfl ?_; refine p_skip rfl (.on rfl rfl (beq_ne hg1)) rfl ?_; refine p_skip rfl (.on rfl rfl (beq_ne hg1)) rfl ?_; refine p_skip rfl (.on rfl rfl (beq_ne hg1)) rfl ?_; refine kPv (ev_pick_t rfl hg1 rfl) rfl ?_
    exact p_seg rfl ⟨rfl, rfl, rfl, rfl, rfl, rfl, rfl, trivial⟩ (or_t hg1)
  refine p_nil ?_
  refine g_if rfl (fun h24 => ?_) (fun h24 => ?_)
  · have h1 : (mget x.1 v).isSome = true ∨ b.has c v = false := by simpa using h24
    have hres : s.see c b x v = x := by unfold Dev.see; rw [if_pos h1]
    refine g_ret ?_
    exact ret_none Tryz.results128 (fun w hh => ⟨_, rfl, by rw [hres]; exact (hh.dp [0])⟩)
  · have h1 : ¬((mget x.1 v).isSome = true ∨ b.has c v = false) := by simpa using h24
    have hh0 : b.has c v = true := by cases hm : b.has c v with
      | true => rfl
      | false => exact absurd (.inr hm) h1
    have hvb := bhas_b hc hb hh0
    refine g_skip ?_; refine g_seq ?_; refine g_region ?_; refine kPv (ev_load Tryz.isAgg28 rfl rfl) rfl ?_; refine kPv (ev_loadA Tryz.isAgg30 Tryz.sizeOf30 rfl rfl) rfl ?_; refine kPv (ev_loadA Tryz.isAgg33 Tryz.sizeOf33 rfl rfl) rfl ?_; refine kPm rfl rfl ?_
    first | refine p_val rfl (ev_conv Tryz.runUnderlying52 Tryz.runUnderlying3 rfl (wr64 (by omega))) .free rfl rfl ?_ | refine p_val rfl (ev_conv Tryz.runUnderlying52 Tryz.runUnderlying3 rfl rfl) .free rfl rfl ?_
    refine p_callq rfl (en_f Tryz.call51 rfl) (ro_at (q := DevA) (fun Fr => obj_ok _ Fr _ _ c hc b sv hb hsv v (by omega))) .free rfl rfl ?_; refine kPm rfl rfl ?_; refine kPv (ev_ext rfl rfl) rfl ?_; refine kPv (ev_ext rfl rfl) rfl ?_; refine p_chg rfl (ch_allocA Tryz.zeroValue89 rfl) .free rfl rfl ?_
    rintro _ _ ⟨b9, rfl, rfl⟩
    refine p_chg0 rfl (ch_storeA (vs := _) Tryz.sizeOf89 rfl rfl rfl rfl rfl) .free rfl ?_
    rintro _ _ rfl
    refine kPa rfl rfl ?_; refine p_nil ?_; refine go_sub (σ' := [(10, _), (9, _), (0, _), (1, _), (5, _)]) ⟨rfl, rfl, rfl, rfl, rfl, trivial⟩ ?_; refine g_seq ?_; refine g_region ?_; refine kPm rfl rfl ?_; refine kPv (ev_cmp rfl rfl rfl) rfl ?_; refine p_nil ?_
    refine g_if rfl (fun h35 => ?_) (fun h35 => ?_)
    · have h2 : (s.objOf c b v).2 = 0 := by simpa using h35
      have hres : s.see c b x v = (mset x.1 v (), x.2 ++ [(s.objOf c b v).1]) := by unfold Dev.see; rw [if_neg h1, if_pos h2]
      refine g_seq ?_; refine g_region ?_; refine kPv (ev_load Tryz.isAgg185 rfl rfl) rfl ?_; refine kPm rfl rfl ?_; refine kPv (ev_build rfl (bld_142)) rfl ?_; refine p_chg0 rfl (ch_mapset (enc := unitE) (u := ()) Tryz.runUnderlying185 Tryz.runUnderlying52 rfl rfl rfl rfl) .free rfl ?_
      rintro _ _ rfl
      refine p_nil ?_; refine go_sub (σ' := [(9, _), (5, _)]) ⟨rfl, rfl, trivial⟩ ?_; refine g_region ?_; refine go_pk [6] ?_; refine go_varg fun rv hrv => ?_; refine kPv (ev_load Tryz.isAgg186 rfl rfl) rfl ?_; refine kPv (ev_loadA Tryz.isAgg89 Tryz.sizeOf89 rfl rfl) rfl ?_; refine p_chg rfl (ch_bsG enc3_w (v := (s.objOf c b v).1) Tryz.runUnderlying186 Tryz.sizeOf89 Tryz.zeroValue89 ⟨⟨by decide, by decide⟩, rfl⟩ rfl rfl) .free rfl rfl ?_
      rintro _ _ ⟨b41, rfl, rfl⟩
      refine go_pk [2] ?_; refine p_chg rfl (ch_append_vecg enc3_w (ys := [(s.objOf c b v).1]) rfl rfl Tryz.runUnderlying186 Tryz.runUnderlying186 ⟨_, rfl⟩ Tryz.sizeOf89 Tryz.zeroValue89 rfl tb_89 rfl rfl (SlM.row (b := b41) rfl rfl) (Nat.succ_pos _) (by simp; omega)) .free rfl rfl ?_
      rintro rv2 _ ⟨hrv2, rfl⟩
      refine p_chg0 rfl (ch_store Tryz.sizeOf186 rfl rfl (by first | rfl | assumption) rfl) .free rfl ?_
      rintro _ _ rfl
      refine p_nil ?_
      exact end_none Tryz.results128 (fun w hh => ⟨_, rfl, by rw [hres]; exact (varg_holds hrv2 ((hh.dp [1, 2, 2]).pk [1])).pk [1, 1, 1, 1]⟩)
    · have h2 : ¬ (s.objOf c b v).2 = 0 := by simpa using h35
      have hres : s.see c b x v = x := by unfold Dev.see; rw [if_neg h1, if_neg h2]
      refine g_skip ?_
      exact end_none Tryz.results128 (fun w hh => ⟨_, rfl, by rw [hres]; exact (hh.dp [0, 0])⟩)
theorem itl_true {α ι : Type} {f : ι → α → ι} : ∀ (l : List α) (x : ι), itl (fun p x => (true, f x p)) l x = (true, l.foldl f x)
  | [], _ => rfl
  | a :: t, x => by unfold itl; rw [if_pos rfl]; exact itl_true t _
theorem itl_pos {α ι : Type} {st : α → ι → Bool × ι} {a : α} {t : List α} {x : ι} (h : (st a x).1 = true) : itl st (a :: t) x = itl st t (st a x).2 := by
  conv => lhs; unfold itl
  rw [if_pos h]
theorem u64w_b (v : Int) : 0 ≤ IntKind.u64.wrap v ∧ IntKind.u64.wrap v < 18446744073709551616 := by
  simp [IntKind.wrap, IntKind.bits, IntKind.signed]
  omega
theorem reachL_nil {s : Dev} {c : Cfg} {b : Blk} {x : SeenS} (h : x.2 = []) : ∀ n, s.reachL c b n x = []
  | 0 => rfl
  | n + 1 => by unfold Dev.reachL; rw [h]
theorem wfrom1_ok (B : World) (E : List HP) (l f b1 b2 b3 b4 bd : Nat) (c : Cfg) (hc : CfgW c) (b : Blk) (sv : Value) (hb : BlkW c b) (hsv : cell1 sv = true) (s : Dev) (q : Option Addr) (cap : Nat) (ws : List Int) (hws : ∀ v ∈ ws, 0 ≤ v ∧ v < 18446744073709551616) (hwn : ws.length ≤ 1000000) (hwq : ∀ i, i < ws.length → ∃ b off, q = some ⟨b, off, none⟩) (ι : Type) (r : Loop) (hrf : r.fn = f) (hrp : r.params.size = 1) (I : ι → Prop) (Hx : ι → List HP) (cd : ι → Code) (st : Obj3 → ι → Bool × ι) (y0 : ι) (h0 : I y0) (hwl : SlR B (Hx y0 ++ E) (.slice q ws.length cap) (ws.map w64)) (hround : ∀ (p : Obj3) (x : ι), ObjW p → I x → I (st p x).2 ∧ ∀ (E : List HP) w, Holds B (blk l (.loop r) :: DevA bd s :: (Hx x ++ E)) w → RoundIn (Wd (cxF f)) 0 Tryz.prog l f ((r.params.zip [objV p].toArray).foldl (fun tmps (t, a) => tmps.setIfInBounds t a) r.tmps) r.assign r.body w (Ret B (fun rv H' => rv = .bool (st p x).1 ∧ H' = blk l (.loop (lst r cd (st p x))) :: DevA bd s :: (Hx (st p x).2 ++ E)) (fun _ _ => False))) :
    ∀ w, Holds B (blk l (.loop r) :: row b1 [i64 b.act, i64 b.used, sv] 33 :: row b2 [i64 c.log, i64 c.roots, i64 c.space] 30 :: row b3 [ptr bd] 28 :: row b4 [.slice q ws.length cap] 31 :: DevA bd s :: (Hx y0 ++ E)) w → Calls Tryz.prog 127 [.func (.yield l) #[] #[], ptr b1, ptr b2, ptr b3, ptr b4].toArray w (Ret B (fun _ H' => I (itl st (s.reach c b ws) y0).2 ∧ H' = blk l (.loop (lst r cd (itl st (s.reach c b ws) y0))) :: DevA bd s :: (Hx (itl st (s.reach c b ws) y0).2 ++ E)) (fun _ _ => False)) := by
  refine fn_enter_m Tryz.func127 rfl Tryz.ntmps127 rfl ?_
  have hbu := hb.used
  have hcs := hc.s2
  refine g_seq ?_; refine g_region ?_; refine p_chg rfl (ch_makeMap .u64 unitE) .free rfl rfl ?_
  rintro _ _ ⟨mr, rfl, rfl⟩
  refine p_chg rfl (ch_alloc1 Tryz.zeroValue185 rfl) .free rfl rfl ?_
  rintro _ _ ⟨b6, rfl, rfl⟩
  refine p_chg0 rfl (ch_store Tryz.sizeOf185 rfl rfl (by first | rfl | assumption) rfl) .free rfl ?_
  rintro _ _ rfl
  refine p_nil ?_; refine g_seq ?_; refine g_region ?_; refine p_chg rfl (ch_alloc1 Tryz.zeroValue186 rfl) .free rfl rfl ?_
  rintro _ _ ⟨b7, rfl, rfl⟩
  refine go_conv (fun w hh => varg_nil (α := Obj3) (T := 89) (m := 3) (enc := enc3) hh) ?_; refine p_nil ?_; refine g_seq ?_; refine g_region ?_; refine kPv (ev_mkf rfl rfl) rfl ?_; refine p_chg rfl (ch_alloc1 Tryz.zeroValue151 rfl) .free rfl rfl ?_
  rintro _ _ ⟨b8, rfl, rfl⟩
  refine p_chg0 rfl (ch_store Tryz.sizeOf151 rfl rfl (by first | rfl | assumption) rfl) .free rfl ?_
  rintro _ _ rfl
  refine p_nil ?_; refine g_seq ?_; refine g_seq ?_; refine g_region ?_; refine kPv (ev_load Tryz.isAgg31 rfl rfl) rfl ?_; refine kPv (ev_len rfl Tryz.runUnderlying31 ⟨_, rfl⟩ rfl) rfl ?_; refine kPm rfl rfl ?_; refine p_nil ?_; refine g_block ?_
  refine g_loopk (ι := Nat × SeenS) [17, 16, 8, 7, 0, 3] (fun (k, x) => (k ≤ ws.length) ∧ (x = (ws.take k).foldl (s.see c b) ([], [])) ∧ (SeenW s c b x) ∧ (x.2.length ≤ x.1.length)) (fun (k, x) => [(18, i64 k)]) (fun (k, x) => row b6 [.map (some mr)] 185 :: row b1 [i64 b.act, i64 b.used, sv] 33 :: row b2 [i64 c.log, i64 c.roots, i64 c.space] 30 :: row b3 [ptr bd] 28 :: VarG 186 89 3 enc3 b7 x.2 :: mapA .u64 unitE mr x.1 :: DevA bd s :: row b8 [.func (.func 128) #[] #[ptr b6, ptr b1, ptr b2, ptr b3, ptr b7]] 151 :: blk l (.loop r) :: row b4 [.slice q ws.length cap] 31 :: (Hx y0 ++ E)) (fun (k, x) => ws.length - k) (0, ([], [])) (⟨Nat.zero_le _, rfl, seen_w0, Nat.le_refl _⟩) (fun a w st => st.to ⟨rfl, trivial⟩ (fun hh => (hh.pk [2, 4, 4, 4, 1, 1, 3]))) ?_
  rintro ⟨k, x⟩ ⟨hk0, hxe, hxw, hxl⟩
  try simp only at hk0 hxe hxw hxl ⊢
  refine go_sub (σ' := [(18, i64 k), (17, _), (16, _), (8, _), (7, _), (0, _), (3, _)]) ⟨rfl, rfl, rfl, rfl, rfl, rfl, rfl, trivial⟩ ?_; refine g_seq ?_; refine g_region ?_; refine kPv (ev_cmp rfl rfl rfl) rfl ?_; refine p_nil ?_; refine g_seq ?_
  refine g_if rfl (fun h19 => ?_) (fun h19 => ?_)
  · have hk : k < ws.length := by simp at h19; omega
    obtain ⟨bq, oq, rfl⟩ := hwq k hk
    have hsl := seen_len hb hxw
    refine g_skip ?_; refine g_seq ?_; refine g_block ?_; refine g_seq ?_; refine g_region ?_; refine kPv (ev_iaS Tryz.runUnderlying31 Tryz.sizeOf52 rfl rfl (by omega) (by omega)) rfl ?_
    refine kPv (ev_loadS (v := w64 ws[k]) Tryz.isAgg52 (hwl.up) rfl (by rw [Int.toNat_natCast, List.getElem?_map, List.getElem?_eq_getElem hk]; rfl)) rfl ?_
    refine kPa rfl rfl ?_; refine p_nil ?_; refine g_region ?_; refine kPv (ev_load Tryz.isAgg151 rfl rfl) rfl ?_; refine kPm rfl rfl ?_
    refine p_call rfl (en_c Tryz.call128 rfl rfl) (see_ok B _ b6 b1 b2 b3 b7 mr bd s c hc b sv hb hsv x (by omega) ws[k] (hws _ (List.getElem_mem hk))) .free rfl rfl ?_ ?_
    rotate_left
    · rintro _ _ ⟨⟩
    rintro _ _ rfl
    have hm1 := see_m (s := s) (c := c) (b := b) x ws[k]
    refine p_nil ?_; refine go_sub (σ' := [(18, _), (17, _), (16, _), (8, _), (7, _), (0, _), (3, _)]) ⟨rfl, rfl, rfl, rfl, rfl, rfl, rfl, trivial⟩ ?_; refine g_region ?_
    first | refine p_val rfl (ev_add rfl rfl (wr64 (by omega))) .free rfl rfl ?_ | refine p_val rfl (ev_add rfl rfl rfl) .free rfl rfl ?_
    refine kPm rfl rfl ?_; refine p_nil ?_
    exact fun a w st_ => ⟨(k + 1, (s.see c b x ws[k])), ⟨by omega, by rw [hxe, List.take_succ_eq_append_getElem hk, List.foldl_append]; rfl, see_w hc hb hxw _, by simp only; omega⟩, by simp only; omega, st_.to ⟨rfl, rfl, rfl, rfl, rfl, rfl, rfl, trivial⟩ (fun hh => hh)⟩
  · have hk : ¬ k < ws.length := by simp at h19; omega
    obtain rfl : k = ws.length := by omega
    rw [List.take_length] at hxe
    refine g_exit ?_; refine g_block ?_
    refine g_loopkD (ι := SeenS × ι × Nat × List Nat) [8, 7, 0, 3] (fun (x, y, n, ms) => (SeenW s c b x) ∧ (x.2.length ≤ x.1.length) ∧ (I y) ∧ (seenM b x < n) ∧ (itl st (s.reach c b ws) y0 = itl st (s.reachL c b n x) y)) (fun (x, y, n, ms) => marksD ms) (fun (x, y, n, ms) => []) (fun (x, y, n, ms) => blk l (.loop r) :: DevA bd s :: row b6 [.map (some mr)] 185 :: row b1 [i64 b.act, i64 b.used, sv] 33 :: row b2 [i64 c.log, i64 c.roots, i64 c.space] 30 :: row b3 [ptr bd] 28 :: VarG 186 89 3 enc3 b7 x.2 :: mapA .u64 unitE mr x.1 :: row b8 [.func (.func 128) #[] #[ptr b6, ptr b1, ptr b2, ptr b3, ptr b7]] 151 :: row b4 [.slice q ws.length cap] 31 :: marksH ms :: (Hx y ++ E)) (fun (x, y, n, ms) => n) (x, y0, b.used.toNat + 1, []) (⟨hxw, hxl, h0, by unfold seenM; omega, by rw [hxe]; rfl⟩) (fun a w st => st.to trivial (fun hh => ((marksH_nil (hh.pk [8, 6])).pk [1, 1, 1, 1, 1, 1, 1, 1, 1, 1]))) ?_
    rintro ⟨x, y, n, ms⟩ ⟨hxw, hxl, hIy, hn, hinv⟩
    try simp only at hxw hxl hIy hn hinv ⊢
    refine go_sub (σ' := [(8, _), (7, _), (0, _), (3, _)]) ⟨rfl, rfl, rfl, rfl, trivial⟩ ?_; refine g_seq ?_; refine g_seq ?_; refine go_pk [6] ?_; refine go_varg fun rv hrv => ?_; refine go_pk [1] ?_; refine go_vecgq fun q2 cap2 hq2 hqi => ?_
    subst hq2
    refine g_region ?_; refine kPv (ev_load Tryz.isAgg186 rfl rfl) rfl ?_; refine kPv (ev_len rfl Tryz.runUnderlying186 ⟨_, rfl⟩ rfl) rfl ?_; refine kPv (ev_cmp rfl rfl rfl) rfl ?_; refine p_nil ?_
    refine g_if rfl (fun h28 => ?_) (fun h28 => ?_)
    · obtain ⟨x1, x2⟩ := x
      obtain ⟨o, t, rfl⟩ : ∃ o t, x2 = o :: t := by
        cases x2 with
        | nil => simp at h28
        | cons o t => exact ⟨o, t, rfl⟩
      obtain ⟨bq2, oq2, rfl⟩ := hqi 0 (Nat.succ_pos _)
      have ho : ObjW o := hxw.obj o (List.mem_cons_self ..)
      obtain ⟨n, rfl⟩ : ∃ m, n = m + 1 := ⟨n - 1, by omega⟩
      have hrl : s.reachL c b (n + 1) (x1, o :: t) = o :: s.reachL c b n ((s.namesOf o).foldl (s.see c b) (x1, t)) := rfl
      have hIy2 := (hround o y ho hIy).1
      simp only at hrv hxl ⊢
      refine g_skip ?_; refine g_block ?_; refine g_seq ?_; refine g_region ?_; refine kPv (ev_load Tryz.isAgg186 rfl rfl) rfl ?_; refine kPv (ev_ia (m := oq2 + 0 * 3) Tryz.runUnderlying186 Tryz.sizeOf89 rfl rfl (by decide) (by simp only [List.length_cons]; omega) rfl) rfl ?_
      refine kPv (ev_loadN (i := 0) Tryz.isAgg89 Tryz.sizeOf89 (vecg_sln enc3_w 0 rfl) rfl rfl) rfl ?_; refine p_chg rfl (ch_allocA Tryz.zeroValue89 rfl) .free rfl rfl ?_
      rintro _ _ ⟨b11, rfl, rfl⟩
      refine p_chg0 rfl (ch_storeA (vs := _) Tryz.sizeOf89 rfl rfl rfl rfl rfl) .free rfl ?_
      rintro _ _ rfl
      refine p_nil ?_; refine g_seq ?_; refine g_region ?_; refine kPv (ev_load Tryz.isAgg186 rfl rfl) rfl ?_; refine go_pk [1] ?_; refine p_chg rfl (ch_tail_vecg enc3_w (v := o) (xs := t) Tryz.runUnderlying186 Tryz.sizeOf89 rfl rfl) .free rfl rfl ?_
      rintro rv3 _ ⟨hrv3, rfl⟩
      refine p_chg0 rfl (ch_store Tryz.sizeOf186 rfl rfl (by first | rfl | assumption) rfl) .free rfl ?_
      rintro _ _ rfl
      refine p_nil ?_; refine go_sub (σ' := [(11, _), (8, _), (7, _), (0, _), (3, _)]) ⟨rfl, rfl, rfl, rfl, rfl, trivial⟩ ?_; refine g_seq ?_; refine g_seq ?_; refine go_pk [2, 0] ?_; refine go_conv (fun w hh => varg_holds hrv3 hh) ?_; refine go_pk [2, 2, 1, 1, 1, 1, 1] ?_; refine g_region ?_; refine kPm rfl rfl ?_; refine kPv (ev_loadA Tryz.isAgg89 Tryz.sizeOf89 rfl rfl) rfl ?_
      refine p_yield (f := f) (r := r) (H1 := DevA bd s :: (Hx y ++ ([row b11 [i64 o.1, i64 o.2.1, i64 o.2.2] 89, row b6 [.map (some mr)] 185, row b1 [i64 b.act, i64 b.used, sv] 33, row b2 [i64 c.log, i64 c.roots, i64 c.space] 30, row b3 [ptr bd] 28, VarG 186 89 3 enc3 b7 t, mapA .u64 unitE mr x1, row b8 [.func (.func 128) #[] #[ptr b6, ptr b1, ptr b2, ptr b3, ptr b7]] 151, row b4 [.slice q ws.length cap] 31, marksH ms] ++ E))) rfl rfl (fun w hh => (Holds.hop [row b11 [i64 o.1, i64 o.2.1, i64 o.2.2] 89, row b6 [.map (some mr)] 185, row b1 [i64 b.act, i64 b.used, sv] 33, row b2 [i64 c.log, i64 c.roots, i64 c.space] 30, row b3 [ptr bd] 28, VarG 186 89 3 enc3 b7 t, mapA .u64 unitE mr x1, row b8 [.func (.func 128) #[] #[ptr b6, ptr b1, ptr b2, ptr b3, ptr b7]] 151, row b4 [.slice q ws.length cap] 31, marksH ms] (Hx y) hh)) (by rw [hrp]; rfl) hrf ((hround o y ho hIy).2 ([row b11 [i64 o.1, i64 o.2.1, i64 o.2.2] 89, row b6 [.map (some mr)] 185, row b1 [i64 b.act, i64 b.used, sv] 33, row b2 [i64 c.log, i64 c.roots, i64 c.space] 30, row b3 [ptr bd] 28, VarG 186 89 3 enc3 b7 t, mapA .u64 unitE mr x1, row b8 [.func (.func 128) #[] #[ptr b6, ptr b1, ptr b2, ptr b3, ptr b7]] 151, row b4 [.slice q ws.length cap] 31, marksH ms] ++ E)) .free rfl ?_ ?_
      rotate_left
      · rintro _ _ ⟨⟩
      rintro _ _ ⟨rfl, rfl⟩
      refine go_conv (H' := blk l (.loop (lst r cd (st o y))) :: DevA bd s :: ([row b11 [i64 o.1, i64 o.2.1, i64 o.2.2] 89, row b6 [.map (some mr)] 185, row b1 [i64 b.act, i64 b.used, sv] 33, row b2 [i64 c.log, i64 c.roots, i64 c.space] 30, row b3 [ptr bd] 28, VarG 186 89 3 enc3 b7 t, mapA .u64 unitE mr x1, row b8 [.func (.func 128) #[] #[ptr b6, ptr b1, ptr b2, ptr b3, ptr b7]] 151, row b4 [.slice q ws.length cap] 31, marksH ms] ++ (Hx (st o y).2 ++ E))) (fun w hh => Holds.hop (Hx (st o y).2) [row b11 [i64 o.1, i64 o.2.1, i64 o.2.2] 89, row b6 [.map (some mr)] 185, row b1 [i64 b.act, i64 b.used, sv] 33, row b2 [i64 c.log, i64 c.roots, i64 c.space] 30, row b3 [ptr bd] 28, VarG 186 89 3 enc3 b7 t, mapA .u64 unitE mr x1, row b8 [.func (.func 128) #[] #[ptr b6, ptr b1, ptr b2, ptr b3, ptr b7]] 151, row b4 [.slice q ws.length cap] 31, marksH ms] hh) ?_
      simp only [List.cons_append, List.nil_append]
      refine kPv (ev_not rfl) rfl ?_; refine p_nil ?_
      refine g_if rfl (fun h37 => ?_) (fun h37 => ?_)
      · have hg : (st o y).1 = false := by simpa using h37
        refine g_ret ?_
        exact ret_none_m Tryz.results127 (marks_at 11) (fun w hh => ⟨_, ⟨by rw [hinv, hrl, itl0 hg]; exact hIy2, by rw [hinv, hrl, itl0 hg]⟩, (hh.dp [2, 2, 2, 2, 2, 2, 2, 2, 2])⟩)
      · have hg : (st o y).1 = true := by simpa using h37
        refine g_skip ?_; refine g_seq ?_; refine g_region ?_; refine kPv (ev_loadA Tryz.isAgg89 Tryz.sizeOf89 rfl rfl) rfl ?_; refine kPv (ev_load Tryz.isAgg28 rfl rfl) rfl ?_
        refine p_call rfl (en_f Tryz.call129 rfl) (onames_ok _ _ o bd) .free rfl rfl ?_ ?_
        rotate_left
        · rintro _ _ ⟨⟩
        rintro _ _ ⟨n1, n2, rfl, rfl⟩
        refine p_nil ?_; refine go_sub (σ' := [(40, _), (8, _), (7, _), (0, _), (3, _)]) ⟨rfl, rfl, rfl, rfl, rfl, trivial⟩ ?_; refine g_block ?_; refine g_range rfl Tryz.call142 ?_
        intro l2 m tmps hts hkn w hh
        have hk8 := hkn 8 _ rfl
        have hlr : lst r cd (st o y) = r := by unfold lst; rw [if_pos hg]
        have hh2 := ((hh.dp [6]).pk [0, 1, 1, 2, 2, 2, 2, 2, 2, 2, 2, 1, 1, 1])
        rw [hlr] at hh2
        refine (onam1_ok B l2 127 n1 n2 bd o ho s SeenS _ rfl rfl (fun x => x.2.length ≤ x.1.length ∧ SeenW s c b x) (fun x => row b6 [.map (some mr)] 185 :: row b1 [i64 b.act, i64 b.used, sv] 33 :: row b2 [i64 c.log, i64 c.roots, i64 c.space] 30 :: row b3 [ptr bd] 28 :: VarG 186 89 3 enc3 b7 x.2 :: mapA .u64 unitE mr x.1 :: row b8 [.func (.func 128) #[] #[ptr b6, ptr b1, ptr b2, ptr b3, ptr b7]] 151 :: blk l (.loop r) :: row b4 [.slice q ws.length cap] 31 :: marksH ms :: blk m (.deferred (some [])) :: (Hx (st o y).2 ++ E)) (fun _ => .ret) (fun (p : Int × Int) (x : SeenS) => (true, s.see c b x (IntKind.u64.wrap p.2))) (x1, t) ?_ ?_ w hh2).mono (Ret.mono ?_ fun _ _ h => h.elim)
        · exact ⟨by simp only [List.length_cons] at hxl; simp only; omega, ⟨hxw.nd, hxw.rng, fun o' ho' => hxw.obj o' (List.mem_cons_of_mem _ ho')⟩⟩
        · rintro p x ⟨hxl, hxw⟩
          have hsl := seen_len hb hxw
          have hm1 := see_m (s := s) (c := c) (b := b) x (IntKind.u64.wrap p.2)
          refine ⟨⟨by simp only; omega, see_w hc hb hxw _⟩, ?_⟩
          refine round_go (n := 47) (σ := [(41, i64 p.1), (42, i64 p.2), (8, ptr b8)]) Tryz.func127 (by simp [lrec, hts]) (KnA.knows (by simp [KnA, lrec, hts]; exact (Array.getElem?_eq_some_iff.1 hk8).2)) rfl ?_; refine g_region ?_; refine kPa rfl rfl ?_; refine p_nil ?_; refine go_mid ?_; refine g_block ?_; refine g_region ?_; refine kPv (ev_load Tryz.isAgg151 rfl rfl) rfl ?_; refine kPm rfl rfl ?_
          first | refine p_val rfl (ev_conv Tryz.runUnderlying3 Tryz.runUnderlying52 rfl (wru64 (by omega))) .free rfl rfl ?_ | refine p_val rfl (ev_conv Tryz.runUnderlying3 Tryz.runUnderlying52 rfl rfl) .free rfl rfl ?_
          refine go_pk [4, 4, 4, 4, 4, 4, 3] ?_
          refine p_call rfl (en_c Tryz.call128 rfl rfl) (see_ok B _ b6 b1 b2 b3 b7 mr bd s c hc b sv hb hsv x (by omega) (IntKind.u64.wrap p.2) (u64w_b _)) .free rfl rfl ?_ ?_
          rotate_left
          · rintro _ _ ⟨⟩
          rintro _ _ rfl
          refine p_nil ?_; refine go_sub (σ' := []) trivial ?_; refine go_pk [7] ?_
          exact go_rK fun w hh => ⟨_, ⟨rfl, rfl⟩, (hh.pk [0, 7, 7, 6])⟩
        rintro _ _ ⟨⟨hxl2, hxw2⟩, rfl⟩
        rw [itl_true] at hxl2 hxw2 ⊢
        have hfe : List.foldl (fun x (p : Int × Int) => s.see c b x (IntKind.u64.wrap p.2)) (x1, t) (s.objNames o o.2.1.toNat 0) = (s.namesOf o).foldl (s.see c b) (x1, t) := by unfold Dev.namesOf; rw [List.foldl_map]
        rw [hfe] at hxl2 hxw2 ⊢
        have hm2 := foldsee_m (s := s) (c := c) (b := b) (s.namesOf o) (x1, t)
        simp only at hxl2 hxw2 hm2
        have hs1 := seen_len hb hxw2
        have hs2 := seen_len hb hxw
        simp only at hs1 hs2
        refine ⟨_, _, fun w hh => hh, lst_busy (by simp [lrec]), fun hp => ?_, fun c' hc' => absurd (lst_some rfl hc').1 (fun h => Bool.noConfusion h)⟩
        exact fun a w st_ => ⟨(_, (st o y).2, n, m :: ms), ⟨hxw2, hxl2, hIy2, by unfold seenM at hn ⊢; simp only [List.length_cons] at hn ⊢; omega, by rw [hinv, hrl, itl_pos hg]⟩, by simp only; omega, st_.to ⟨rfl, rfl, rfl, rfl, trivial⟩ (fun hh => ((marksH_cons ((hh.dp [0, 0, 0]).pk [11, 10, 8])).pk [1, 1, 1, 1, 1, 1, 1, 1, 1, 1]))⟩
    · have hxn : x.2 = [] := by
        cases hx2 : x.2 with
        | nil => rfl
        | cons o t => rw [hx2] at h28; simp at h28
      refine g_exit ?_
      exact end_none_m Tryz.results127 (marks_at 11) (fun w hh => ⟨_, ⟨by rw [hinv, reachL_nil hxn]; exact hIy, by rw [hinv, reachL_nil hxn]; rfl⟩, (hh.dp [0, 0, 2, 2, 2, 2, 2, 2, 2])⟩)
theorem wfrom_ok (B : World) (H : List HP) (bd : Nat) (c : Cfg) (b : Blk) (sv : Value) (hsv : cell1 sv = true) (wv : Value) (hwv : cell1 wv = true) :
    ∀ w, Holds B H w → Calls Tryz.prog 119 [ptr bd, cfgV c, blkV b sv, wv].toArray w (Ret B (fun v H' => ∃ b1 b2 b3 b4, v = .func (.func 127) [].toArray [ptr b1, ptr b2, ptr b3, ptr b4].toArray ∧ H' = row b4 [wv] 31 :: row b1 [i64 b.act, i64 b.used, sv] 33 :: row b2 [i64 c.log, i64 c.roots, i64 c.space] 30 :: row b3 [ptr bd] 28 :: H) (fun _ _ => False)) := by
  refine fn_enter Tryz.func119 rfl Tryz.ntmps119 rfl ?_; refine g_seq ?_; refine g_region ?_; refine p_chg rfl (ch_box1 rfl rfl) .free rfl rfl ?_
  rintro _ _ ⟨b4, rfl, rfl⟩
  refine p_chg rfl (ch_boxA rfl) .free rfl rfl ?_
  rintro _ _ ⟨b5, rfl, rfl⟩
  refine p_chg rfl (ch_boxA rfl) .free rfl rfl ?_
  rintro _ _ ⟨b6, rfl, rfl⟩
  refine p_chg rfl (ch_box1 rfl hwv) .free rfl rfl ?_
  rintro _ _ ⟨b7, rfl, rfl⟩
  refine kPa rfl rfl ?_; refine p_nil ?_; refine g_seq ?_; refine g_region ?_; refine kPv (ev_mkf rfl rfl) rfl ?_; refine kPa rfl rfl ?_; refine p_nil ?_; refine go_sub (σ' := [(8, _)]) ⟨rfl, trivial⟩ ?_; refine g_ret ?_
  exact ret_tmp Tryz.results119 rfl (fun w hw => ⟨_, ⟨_, _, _, _, rfl, rfl⟩, hw⟩)
def sizeI (n : Int) (o : Obj3) : Int := IntKind.i64.wrap (n + (o.1 + 1))
def Dev.reachSize (s : Dev) (c : Cfg) (b : Blk) (ws : List Int) : Int := (s.reach c b ws).foldl sizeI 0
theorem wsize_ok (B : World) (Fr : List HP) (bd : Nat) (c : Cfg) (hc : CfgW c) (b : Blk) (sv : Value) (hb : BlkW c b) (hsv : cell1 sv = true) (s : Dev) (q : Option Addr) (cap : Nat) (ws : List Int) (hws : ∀ v ∈ ws, 0 ≤ v ∧ v < 18446744073709551616) (hwn : ws.length ≤ 1000000) (hwq : ∀ i, i < ws.length → ∃ b off, q = some ⟨b, off, none⟩) (hwl : SlR B Fr (.slice q ws.length cap) (ws.map w64)) :
    ∀ w, Holds B (DevA bd s :: Fr) w → Calls Tryz.prog 120 [ptr bd, cfgV c, blkV b sv, .slice q ws.length cap].toArray w (PureR B (DevA bd s :: Fr) (i64 (s.reachSize c b ws))) := by
  refine fn_enter_m Tryz.func120 rfl Tryz.ntmps120 rfl ?_; refine g_seq ?_; refine g_region ?_; refine p_chg rfl (ch_boxA rfl) .free rfl rfl ?_
  rintro _ _ ⟨b5, rfl, rfl⟩
  refine p_chg rfl (ch_boxA rfl) .free rfl rfl ?_
  rintro _ _ ⟨b6, rfl, rfl⟩
  refine kPa rfl rfl ?_; refine p_nil ?_; refine g_seq ?_; refine g_region ?_; refine p_chg rfl (ch_alloc1 Tryz.zeroValue3 rfl) .free rfl rfl ?_
  rintro _ _ ⟨b9, rfl, rfl⟩
  refine p_chg0 rfl (ch_store Tryz.sizeOf3 rfl rfl rfl rfl) .free rfl ?_
  rintro _ _ rfl
  refine p_nil ?_; refine g_seq ?_; refine g_seq ?_; refine g_region ?_; refine kPm rfl rfl ?_; refine kPv (ev_loadA Tryz.isAgg30 Tryz.sizeOf30 rfl rfl) rfl ?_; refine kPv (ev_loadA Tryz.isAgg33 Tryz.sizeOf33 rfl rfl) rfl ?_; refine kPm rfl rfl ?_
  refine p_call rfl (en_f Tryz.call119 rfl) (wfrom_ok _ _ bd c b sv hsv (.slice q ws.length cap) rfl) .free rfl rfl ?_ ?_
  rotate_left
  · rintro _ _ ⟨⟩
  rintro _ _ ⟨c1, c2, c3, c4, rfl, rfl⟩
  refine p_nil ?_; refine go_sub (σ' := [(15, _), (9, _), (8, _)]) ⟨rfl, rfl, rfl, trivial⟩ ?_; refine g_block ?_; refine g_range rfl Tryz.call127 ?_
  intro l m tmps hts hkn w hh
  have hk9 := hkn 9 _ rfl
  refine (wfrom1_ok B (blk m (.deferred (some [])) :: Fr) l 120 c1 c2 c3 c4 bd c hc b sv hb hsv s q cap ws hws hwn hwq Int _ rfl rfl (fun x => True) (fun x => [row b9 [i64 x] 3]) (fun _ => .ret) (fun o x => (true, sizeI x o)) 0 trivial ((hwl.cons _).cons _) ?_ w ((hh.dp [7, 7]).pk [0, 2, 2, 2, 1, 2, 1])).mono (Ret.mono ?_ fun _ _ h => h.elim)
  · intro o x ho _
    have ho1 := ho.w
    refine ⟨trivial, fun E => ?_⟩
    simp only [List.cons_append, List.nil_append]
    refine round_go (n := 23) (σ := [(16, objV o), (9, ptr b9)]) Tryz.func120 (by simp [lrec, hts]) (KnA.knows (by simp [KnA, lrec, hts]; exact (Array.getElem?_eq_some_iff.1 hk9).2)) rfl ?_; refine g_region ?_; refine p_chg rfl (ch_allocA Tryz.zeroValue89 rfl) .free rfl rfl ?_
    rintro _ _ ⟨b10, rfl, rfl⟩
    refine p_chg0 rfl (ch_storeA (vs := _) Tryz.sizeOf89 rfl rfl rfl rfl rfl) .free rfl ?_
    rintro _ _ rfl
    refine p_nil ?_; refine go_pk [1] ?_; refine go_mid ?_; refine g_block ?_; refine g_drawt 5 Tryz.mixed (by kernel_rfl) (by kernel_rfl) ?_; refine kQv (ev_load Tryz.isAgg3 rfl rfl) rfl ?_; refine kQv (ev_fa (m := _) fa_89_0 rfl rfl) rfl ?_; refine kQv (ev_loadA Tryz.isAgg87 Tryz.sizeOf87 rfl rfl) rfl ?_; refine q_call rfl (en_f Tryz.call52 rfl) (hsize_ok _ _ _ _ (by omega)) .free rfl ?_; refine kQv (ev_add (c := sizeI x o) rfl rfl rfl) rfl ?_; refine q_nil ?_
    refine p_chg0 rfl (ch_store Tryz.sizeOf3 rfl rfl rfl rfl) .free rfl ?_
    rintro _ _ rfl
    refine p_nil ?_; refine go_sub (σ' := []) trivial ?_
    exact go_rK fun w hh => ⟨_, ⟨rfl, rfl⟩, (hh.dp [1])⟩
  rintro _ _ ⟨_, rfl⟩
  rw [itl_true]
  simp only [List.cons_append, List.nil_append]
  refine ⟨_, _, fun w hh => hh, lst_busy (by simp [lrec]), fun hp => ?_, fun c' hc' => absurd (lst_some rfl hc').1 (fun h => Bool.noConfusion h)⟩
  refine g_seq ?_; refine g_region ?_; refine kPv (ev_load Tryz.isAgg3 rfl rfl) rfl ?_; refine kPa rfl rfl ?_; refine p_nil ?_; refine g_ret ?_
  exact ret_tmp_m Tryz.results120 rfl (.at 3 (.nil)) (fun w hh => ⟨rfl, (hh.dp [0, 1, 1])⟩)
end Go.Proofs.YtbfheafpecgphaaGreat
namespace Go.Proofs.YtbfheafpecgphaaGreat
open Go
structure ColS where
  bd : Nat
  c : Cfg
  b : Blk
  to_ : Int
  scan : Int
  free : Int
  todo : List Int
  went : List (Int × Int)
  done : Bool
abbrev colRow (S : ColS) (rsv tsv : Value) (mw : Nat) : List Value := [ptr S.bd, i64 S.c.log, i64 S.c.roots, i64 S.c.space, i64 S.b.act, i64 S.b.used, rsv, i64 S.to_, i64 S.scan, i64 S.free, tsv, .map (some mw), .bool S.done]
def ColA (x : Nat) (S : ColS) : HP := hex fun (p : Value × Value × Nat) => grp [row x (colRow S p.1 p.2.1 p.2.2) 115, VecU 0 (p.1, S.b.rts), VecU 0 (p.2.1, S.todo), mapA .u64 i64 p.2.2 S.went, pr (cell1 p.1 = true ∧ cell1 p.2.1 = true)]
theorem go_col {B : World} {n : Nat} {D : List Deferred} {σ : Env} {x : Nat} {S : ColS} {Fr : List HP} {K : Act → World → Prop} (h : ∀ rsv tsv mw, cell1 rsv = true → cell1 tsv = true → GO B n D σ (row x (colRow S rsv tsv mw) 115 :: VecU 0 (rsv, S.b.rts) :: VecU 0 (tsv, S.todo) :: mapA .u64 i64 mw S.went :: Fr) K) : GO B n D σ (ColA x S :: Fr) K := fun a w st => by
  obtain ⟨p, hx⟩ := st.holds.hex
  have h2 := (hx.grp.front 4 rfl).pr
  exact h _ _ _ h2.1.1 h2.1.2 a w ⟨st.toStA, h2.2⟩
theorem col_holds {B : World} {x mw : Nat} {S : ColS} {rsv tsv : Value} {Fr : List HP} {w : World} (hr : cell1 rsv = true) (ht : cell1 tsv = true) (h : Holds B (row x (colRow S rsv tsv mw) 115 :: VecU 0 (rsv, S.b.rts) :: VecU 0 (tsv, S.todo) :: mapA .u64 i64 mw S.went :: Fr) w) : Holds B (ColA x S :: Fr) w :=
  Holds.unhex (rsv, tsv, mw) (Holds.ungrp (l := [row x (colRow S rsv tsv mw) 115, VecU 0 (rsv, S.b.rts), VecU 0 (tsv, S.todo), mapA .u64 i64 mw S.went, pr _]) ((h.unpr ⟨hr, ht⟩).back 4 (by simp)))
def cpyN : Nat → Int → Int → Int → Dev → Out Unit
  | 0, _, _, _, s => .ok () s
  | k + 1, i, a, f, s => (s.store (a + i) (s.load (f + i))).then fun _ s' => cpyN k (i + 1) a f s'
theorem cpyN_succ (k : Nat) (i a f : Int) (s : Dev) : cpyN (k + 1) i a f s = (s.store (a + i) (s.load (f + i))).then fun _ s' => cpyN k (i + 1) a f s' := rfl
def ColS.copied (S : ColS) (s : Dev) (w : Int) : Out (Int × ColS) :=
  if (mget S.went w).isSome = true then .ok ((mget S.went w).getD 0, S) s
  else if S.b.has S.c w = false then .ok (0, S) s
  else if (s.objOf S.c S.b w).2 ≠ 0 then .ok (0, S) s
  else (cpyN ((s.objOf S.c S.b w).1.1 + 1).toNat 0 S.free (s.objOf S.c S.b w).1.2.2 s).then fun _ s' => .ok (S.free, { S with free := S.free + ((s.objOf S.c S.b w).1.1 + 1), went := mset S.went w S.free }) s'
def refsN : Nat → Int → ColS → Dev → Out ColS
  | 0, _, S, s => .ok S s
  | k + 1, i, S, s => if s.load (S.scan + 1 + i) = 0 then refsN k (i + 1) S s
    else (S.copied s (s.load (S.scan + 1 + i))).then fun r s1 => (s1.store (S.scan + 1 + i) r.1).then fun _ s2 => refsN k (i + 1) r.2 s2
def keepN : Nat → Int → Int → Dev → Out Unit
  | 0, _, _, s => .ok () s
  | f + 1, i, e, s => if i < e then (s.flush i).then fun _ s' => keepN f (i + 8) e s' else .ok () s
def ColS.keep (S : ColS) (s : Dev) : Out Unit :=
  (keepN ((S.free - S.to_).toNat + 1) S.to_ S.free s).then fun _ s' => if S.to_ < S.free then s'.fence else .ok () s'
def ColS.step (S : ColS) (s : Dev) : Out (Bool × ColS) :=
  if S.done = true then .ok (true, S) s
  else match S.todo with
    | w :: t => (S.copied s w).then fun r s' => .ok (false, { r.2 with todo := t }) s'
    | [] => if S.scan < S.free then
        (refsN (unp (s.load S.scan)).2.1.toNat 0 S s).then fun S' s' => .ok (false, { S' with scan := S'.scan + ((unp (s.load S.scan)).1 + 1) }) s'
      else (S.keep s).then fun _ s' => .ok (true, { S with done := true }) s'
def runN : Nat → ColS → Dev → Out ColS
  | 0, S, s => .ok S s
  | f + 1, S, s => (S.step s).then fun r s' => if r.1 = true then .ok r.2 s' else runN f r.2 s'
def ColS.meas (S : ColS) : Nat := S.todo.length + (S.free - S.scan).toNat + 66 * (S.b.used.toNat - S.went.length) + (if S.done = true then 0 else 1)
def ColS.run (S : ColS) (s : Dev) : Out ColS := runN (S.meas + 1) S s
def ColS.block (S : ColS) : Blk := ⟨1 - S.b.act, S.free - S.to_, S.b.rts.map fun w => (mget S.went w).getD 0⟩
def newCol (bd : Nat) (c : Cfg) (b : Blk) (ws : List Int) : ColS := ⟨bd, c, b, c.frm (1 - b.act), c.frm (1 - b.act), c.frm (1 - b.act), ws, [], false⟩
structure ColW (S : ColS) : Prop where
  c : CfgW S.c
  b : BlkW S.c S.b
  rl : S.b.rts.length ≤ 16
  to_ : 0 ≤ S.to_ ∧ S.to_ ≤ 20000
  scan : S.to_ ≤ S.scan ∧ S.scan ≤ 400000
  free : S.to_ ≤ S.free ∧ S.free ≤ S.to_ + 65 * S.went.length
  nd : (S.went.map Prod.fst).Nodup
  rng : ∀ k ∈ S.went.map Prod.fst, S.c.frm S.b.act ≤ k ∧ k < S.c.frm S.b.act + S.b.used
  val : ∀ p ∈ S.went, 0 ≤ p.2 ∧ p.2 ≤ 1000000
  todo : ∀ v ∈ S.todo, 0 ≤ v ∧ v < 18446744073709551616
  rts : ∀ v ∈ S.b.rts, 0 ≤ v ∧ v < 18446744073709551616
theorem ColW.wl {S : ColS} (h : ColW S) : S.went.length ≤ S.b.used.toNat := by
  have h1 := h.b.used
  have := nodup_len S.b.used.toNat (S.c.frm S.b.act) _ h.nd fun k hk => by have := h.rng k hk; omega
  simpa using this
theorem ColW.fb {S : ColS} (h : ColW S) : S.free ≤ 300000 := by
  have h1 := h.wl; have h2 := h.b.used; have h3 := h.c.s2; have h4 := h.free; have h5 := h.to_; omega
theorem ColW.vb {S : ColS} (h : ColW S) (w : Int) : 0 ≤ (mget S.went w).getD 0 ∧ (mget S.went w).getD 0 ≤ 1000000 := by
  cases hm : mget S.went w with
  | none => exact ⟨Int.le_refl 0, by decide⟩
  | some v => exact h.val _ (mget_mem hm)
theorem copied_w {S : ColS} (h : ColW S) {s s' : Dev} {w : Int} {r : Int × ColS} (e : S.copied s w = .ok r s') : ColW r.2 ∧ (0 ≤ r.1 ∧ r.1 ≤ 1000000) ∧ r.2.scan = S.scan ∧ r.2.todo = S.todo ∧ r.2.done = S.done ∧ r.2.b = S.b ∧ r.2.bd = S.bd ∧ r.2.c = S.c ∧ r.2.to_ = S.to_ ∧ S.free ≤ r.2.free ∧ r.2.free - S.free + 66 * (S.b.used.toNat - r.2.went.length : Nat) ≤ 66 * (S.b.used.toNat - S.went.length : Nat) := by
  have hwl := h.wl; have hfb := h.fb; have hto := h.to_; have hfr := h.free
  unfold ColS.copied at e
  split at e
  · cases e; exact ⟨h, h.vb w, rfl, rfl, rfl, rfl, rfl, rfl, rfl, Int.le_refl _, by simp only; omega⟩
  rename_i h1
  split at e
  · cases e; exact ⟨h, ⟨Int.le_refl 0, by simp only; omega⟩, rfl, rfl, rfl, rfl, rfl, rfl, rfl, Int.le_refl _, by simp only; omega⟩
  rename_i h2
  split at e
  · cases e; exact ⟨h, ⟨Int.le_refl 0, by simp only; omega⟩, rfl, rfl, rfl, rfl, rfl, rfl, rfl, Int.le_refl _, by simp only; omega⟩
  obtain ⟨_, s1, _, e⟩ := then_inv e
  cases e
  have h3 : mget S.went w = none := by cases hm : mget S.went w with
    | none => rfl
    | some _ => exact absurd (by rw [hm]; rfl) h1
  have h4 : S.b.has S.c w = true := by cases hm : S.b.has S.c w with
    | true => rfl
    | false => exact absurd hm h2
  have h5 := bhas_b h.c h.b h4
  have h6 := objOf_b (s := s) (c := S.c) (b := S.b) (a := w)
  have hnk : w ∉ S.went.map Prod.fst := mget_none h3
  have hnd : ((S.went ++ [(w, S.free)]).map Prod.fst).Nodup := by
    rw [List.map_append, List.nodup_append]
    exact ⟨h.nd, by simp, fun a ha b' hb' => by simp at hb'; subst hb'; intro e; subst e; exact hnk ha⟩
  have hrng : ∀ k ∈ (S.went ++ [(w, S.free)]).map Prod.fst, S.c.frm S.b.act ≤ k ∧ k < S.c.frm S.b.act + S.b.used := fun k hk => by
    rw [List.map_append, List.mem_append] at hk
    rcases hk with hk | hk
    · exact h.rng k hk
    · simp at hk; subst hk; omega
  have hl2 := nodup_len S.b.used.toNat (S.c.frm S.b.act) _ hnd fun k hk => by have := hrng k hk; have := h.b.used; omega
  simp only [List.length_map, List.length_append, List.length_cons, List.length_nil] at hl2
  refine ⟨⟨h.c, h.b, h.rl, h.to_, h.scan, ?_, by rw [mset_none h3]; exact hnd, by rw [mset_none h3]; exact hrng, fun p hp => ?_, h.todo, h.rts⟩, ⟨by simp only; omega, by simp only; omega⟩, rfl, rfl, rfl, rfl, rfl, rfl, rfl, by simp only; omega, ?_⟩
  · rw [mset_none h3]; simp only [List.length_append, List.length_cons, List.length_nil]; omega
  · rw [mset_none h3] at hp
    rcases List.mem_append.1 hp with hp | hp
    · exact h.val p hp
    · rw [List.mem_singleton.1 hp]; simp only; omega
  · rw [mset_none h3]; simp only [List.length_append, List.length_cons, List.length_nil]; omega
theorem cpyN_u64 : ∀ (k : Nat) (i a f : Int) (s s' : Dev), U64 s → cpyN k i a f s = .ok () s' → U64 s' ∧ s'.n = s.n
  | 0, _, _, _, s, s', h, e => by cases e; exact ⟨h, rfl⟩
  | k + 1, i, a, f, s, s', h, e => by
    unfold cpyN at e
    obtain ⟨_, s1, e1, e⟩ := then_inv e
    have h1 := store_u64 h (h.load _) e1
    have h2 := cpyN_u64 k _ _ _ s1 s' h1.1 e
    exact ⟨h2.1, h2.2.trans h1.2⟩
theorem copied_u64 {S : ColS} {s s' : Dev} {w : Int} {r : Int × ColS} (hu : U64 s) (e : S.copied s w = .ok r s') : U64 s' ∧ s'.n = s.n := by
  unfold ColS.copied at e
  split at e
  · cases e; exact ⟨hu, rfl⟩
  split at e
  · cases e; exact ⟨hu, rfl⟩
  split at e
  · cases e; exact ⟨hu, rfl⟩
  obtain ⟨_, s1, e1, e⟩ := then_inv e
  cases e; exact cpyN_u64 _ _ _ _ _ _ hu e1
theorem ccopied_ok (B : World) (Fr : List HP) (x : Nat) (S : ColS) (hS : ColW S) (s : Dev) (hu : U64 s) (v : Int) (hv : 0 ≤ v ∧ v < 18446744073709551616) :
    ∀ w, Holds B (ColA x S :: DevA S.bd s :: Fr) w → Calls Tryz.prog 105 [ptr x, w64 v].toArray w (Ret B (fun rv H' => ∃ r s', S.copied s v = .ok r s' ∧ rv = i64 r.1 ∧ H' = ColA x r.2 :: DevA S.bd s' :: Fr) (fun c H' => ∃ s', S.copied s v = .off s' ∧ c = offc ∧ H' = DevA S.bd s' :: Fr)) := by
  refine fn_enter Tryz.func105 rfl Tryz.ntmps105 rfl ?_; refine go_col fun rsv tsv mw hrsv htsv => ?_
  have hfb := hS.fb
  have hfr := hS.free
  have hto := hS.to_
  refine g_seq ?_; refine g_region ?_; refine kPa rfl rfl ?_; refine p_nil ?_; refine g_seq ?_; refine g_seq ?_; refine g_region ?_; refine kPm rfl rfl ?_
  first | refine kPv (ev_nil rfl) rfl ?_ | refine kPv (ev_nilf rfl) rfl ?_
  refine kPv (ev_fa (m := _) fa_115_7 rfl rfl) rfl ?_; refine kPv (ev_load Tryz.isAgg113 rfl rfl) rfl ?_; refine kPm rfl rfl ?_; refine kPv ((ev_lookup2 Tryz.runUnderlying113 Tryz.runUnderlying52 Tryz.zeroValue3 rfl rfl).eq (congrArg (fun v => Value.tuple #[v, .bool _]) (mval_i _))) rfl ?_; refine kPm rfl rfl ?_; refine kPv (ev_ext rfl rfl) rfl ?_; refine kPv (ev_ext rfl rfl) rfl ?_; refine kPa rfl rfl ?_; refine kPa rfl rfl ?_; refine p_nil ?_
  refine go_sub (σ' := [(6, _), (5, _), (4, _), (0, _), (1, _)]) ⟨rfl, rfl, rfl, rfl, rfl, trivial⟩ ?_; refine g_seq ?_; refine g_region ?_; refine kPm rfl rfl ?_; refine p_nil ?_
  refine g_if rfl (fun h20 => ?_) (fun h20 => ?_)
  · have h1 : (mget S.went v).isSome = true := by simpa using h20
    have hres : S.copied s v = .ok ((mget S.went v).getD 0, S) s := by unfold ColS.copied; rw [if_pos h1]
    refine g_seq ?_; refine g_region ?_; refine kPm rfl rfl ?_; refine kPa rfl rfl ?_; refine p_nil ?_; refine g_ret ?_
    exact ret_tmp Tryz.results105 rfl (fun w hh => ⟨_, ⟨_, _, hres, rfl, rfl⟩, col_holds hrsv htsv hh⟩)
  · have h1 : ¬ (mget S.went v).isSome = true := by simpa using h20
    refine g_skip ?_; refine g_seq ?_; refine g_seq ?_; refine g_draw Tryz.mixed (by kernel_rfl) (by kernel_rfl) ?_; refine kQm rfl rfl ?_
    first | refine kQv (ev_nil rfl) rfl ?_ | refine kQv (ev_nilf rfl) rfl ?_
    refine kQv (ev_fa (m := _) fa_115_2 rfl rfl) rfl ?_; refine kQv (ev_loadA Tryz.isAgg33 Tryz.sizeOf33 rfl rfl) rfl ?_; refine kQm rfl rfl ?_
    first | refine kQv (ev_nil rfl) rfl ?_ | refine kQv (ev_nilf rfl) rfl ?_
    refine kQv (ev_fa (m := _) fa_115_1 rfl rfl) rfl ?_; refine kQv (ev_loadA Tryz.isAgg30 Tryz.sizeOf30 rfl rfl) rfl ?_; refine kQm rfl rfl ?_; refine q_call rfl (en_f Tryz.call82 rfl) (has_ok _ _ S.c hS.c S.b rsv hS.b hrsv _ hv) .free rfl ?_; refine kQv (ev_not rfl) rfl ?_; refine q_nil ?_; refine go_sub (σ' := [(32, _), (4, _), (0, _), (1, _)]) ⟨rfl, rfl, rfl, rfl, trivial⟩ ?_
    refine g_if rfl (fun h32 => ?_) (fun h32 => ?_)
    · have h2 : S.b.has S.c v = false := by simpa using h32
      have hres : S.copied s v = .ok (0, S) s := by unfold ColS.copied; rw [if_neg h1, if_pos h2]
      refine g_seq ?_; refine g_region ?_; refine kPa rfl rfl ?_; refine p_nil ?_; refine g_ret ?_
      exact ret_tmp Tryz.results105 rfl (fun w hh => ⟨_, ⟨_, _, hres, rfl, rfl⟩, col_holds hrsv htsv hh⟩)
    · have hh0 : S.b.has S.c v = true := by simpa using h32
      have h2 : ¬ S.b.has S.c v = false := by rw [hh0]; decide
      have hvb := bhas_b hS.c hS.b hh0
      refine g_skip ?_; refine g_seq ?_
      refine g_drawT (.br [0, 1, 2, 3, 4, 5, 6, 7, 8, 9, 10, 11, 12, 13] 14 (.fin [15, 16, 17, 18, 19, 20]) 18 (.fin [14, 15, 16, 17, 19, 20])) [14, 18, 19] [0, 1, 2, 3, 4, 5, 6, 7, 8, 9, 10, 11, 12, 13, 15, 16, 17] [18, 19] [row x (colRow S rsv tsv mw) 115] [4, 0, 1] (G := Nat) (fun b7 => [(7, ptr b7), (8, i64 (s.objOf S.c S.b v).2)]) (fun b7 => row b7 [i64 (s.objOf S.c S.b v).1.1, i64 (s.objOf S.c S.b v).1.2.1, i64 (s.objOf S.c S.b v).1.2.2] 89 :: row x (colRow S rsv tsv mw) 115 :: VecU 0 (rsv, S.b.rts) :: VecU 0 (tsv, S.todo) :: mapA .u64 i64 mw S.went :: DevA S.bd s :: Fr) Tryz.mixed (by kernel_rfl) ?_ ?_
      · skip
        refine t_br ?_; refine v_hoist rfl rfl rfl (ev_move rfl) .free rfl ?_
        first | refine v_hoist rfl rfl rfl (ev_nil rfl) .free rfl ?_ | refine v_hoist rfl rfl rfl (ev_nilf rfl) .free rfl ?_
        refine v_hoist rfl rfl rfl (ev_fa (m := _) fa_115_0 rfl rfl) .free rfl ?_; refine v_hoist rfl rfl rfl (ev_load Tryz.isAgg28 rfl rfl) .free rfl ?_; refine v_hoist rfl rfl rfl (ev_move rfl) .free rfl ?_
        first | refine v_hoist rfl rfl rfl (ev_nil rfl) .free rfl ?_ | refine v_hoist rfl rfl rfl (ev_nilf rfl) .free rfl ?_
        refine v_hoist rfl rfl rfl (ev_fa (m := _) fa_115_1 rfl rfl) .free rfl ?_; refine v_hoist rfl rfl rfl (ev_loadA Tryz.isAgg30 Tryz.sizeOf30 rfl rfl) .free rfl ?_; refine v_hoist rfl rfl rfl (ev_move rfl) .free rfl ?_
        first | refine v_hoist rfl rfl rfl (ev_nil rfl) .free rfl ?_ | refine v_hoist rfl rfl rfl (ev_nilf rfl) .free rfl ?_
        refine v_hoist rfl rfl rfl (ev_fa (m := _) fa_115_2 rfl rfl) .free rfl ?_; refine v_hoist rfl rfl rfl (ev_loadA Tryz.isAgg33 Tryz.sizeOf33 rfl rfl) .free rfl ?_; refine v_hoist rfl rfl rfl (ev_move rfl) .free rfl ?_
        have hvb := bhas_b hS.c hS.b hh0
        refine v_hoist rfl rfl rfl (ev_conv Tryz.runUnderlying52 Tryz.runUnderlying3 rfl (wr64 (by omega))) .free rfl ?_; refine v_nil ?_
        refine t_two rfl rfl ?_ ?_
        · skip
          refine p_callq rfl (en_f Tryz.call51 rfl) (ro_at (q := DevA) (fun Fr => obj_ok _ Fr _ _ S.c hS.c S.b rsv hS.b hrsv v (by omega))) .free rfl rfl ?_; refine p_nil ?_; refine t_off rfl ?_; refine t_fin ?_; refine v_hoist rfl rfl rfl (ev_move rfl) .free rfl ?_; refine v_hoist rfl rfl rfl (ev_ext rfl rfl) .free rfl ?_; refine v_hoist rfl rfl rfl (ev_ext rfl rfl) .free rfl ?_; refine v_mark rfl rfl ?_; refine p_chg rfl (ch_allocA Tryz.zeroValue89 rfl) .free rfl rfl ?_
          rintro _ _ ⟨b7, rfl, rfl⟩
          refine p_nil ?_; refine v_on ?_; refine v_mark rfl rfl ?_; refine p_chg0 rfl (ch_storeA (vs := _) Tryz.sizeOf89 rfl rfl rfl rfl rfl) .free rfl ?_
          rintro _ _ rfl
          refine p_nil ?_; refine v_on ?_; refine v_val rfl rfl rfl (ev_assign rfl) .free rfl ?_; refine v_nil ?_
          exact fun a w st_ => ⟨b7, st_.to ⟨rfl, rfl, rfl, rfl, rfl, trivial⟩ (fun hh => hh)⟩
        · skip
          refine p_chg rfl (ch_allocA Tryz.zeroValue89 rfl) .free rfl rfl ?_
          rintro _ _ ⟨b7, rfl, rfl⟩
          refine p_nil ?_; refine t_on ?_; refine t_fin ?_; refine v_mark rfl rfl ?_; refine p_callq rfl (en_f Tryz.call51 rfl) (ro_at (q := DevA) (fun Fr => obj_ok _ Fr _ _ S.c hS.c S.b rsv hS.b hrsv v (by omega))) .free rfl rfl ?_; refine p_nil ?_; refine v_off rfl ?_; refine v_hoist rfl rfl rfl (ev_move rfl) .free rfl ?_; refine v_hoist rfl rfl rfl (ev_ext rfl rfl) .free rfl ?_; refine v_hoist rfl rfl rfl (ev_ext rfl rfl) .free rfl ?_; refine v_mark rfl rfl ?_
          refine p_chg0 rfl (ch_storeA (vs := _) Tryz.sizeOf89 rfl rfl rfl rfl rfl) .free rfl ?_
          rintro _ _ rfl
          refine p_nil ?_; refine v_on ?_; refine v_val rfl rfl rfl (ev_assign rfl) .free rfl ?_; refine v_nil ?_
          exact fun a w st_ => ⟨b7, st_.to ⟨rfl, rfl, rfl, rfl, rfl, trivial⟩ (fun hh => hh)⟩
      intro b7
      refine go_sub (σ' := [(7, ptr b7), (8, i64 (s.objOf S.c S.b v).2), (4, _), (0, _), (1, _)]) ⟨rfl, rfl, rfl, rfl, rfl, trivial⟩ ?_; refine g_seq ?_; refine g_seq ?_; refine g_region ?_; refine kPm rfl rfl ?_; refine kPv (ev_cmp rfl rfl rfl) rfl ?_; refine p_nil ?_
      refine g_if rfl (fun h52 => ?_) (fun h52 => ?_)
      · have h3 : (s.objOf S.c S.b v).2 ≠ 0 := by simpa using h52
        have hres : S.copied s v = .ok (0, S) s := by unfold ColS.copied; rw [if_neg h1, if_neg h2, if_pos h3]
        refine g_seq ?_; refine g_region ?_; refine kPa rfl rfl ?_; refine p_nil ?_; refine g_ret ?_
        exact ret_tmp Tryz.results105 rfl (fun w hh => ⟨_, ⟨_, _, hres, rfl, rfl⟩, col_holds hrsv htsv (hh.dp [0])⟩)
      · have h3 : ¬ (s.objOf S.c S.b v).2 ≠ 0 := by simpa using h52
        have ho := objOf_w hS.c hS.b (a := v) (s := s) (by omega)
        have ho1 := ho.w
        have ho3 := ho.at_
        have hcp : S.copied s v = (cpyN ((s.objOf S.c S.b v).1.1 + 1).toNat 0 S.free (s.objOf S.c S.b v).1.2.2 s).then fun _ s' => .ok (S.free, { S with free := S.free + ((s.objOf S.c S.b v).1.1 + 1), went := mset S.went v S.free }) s' := by unfold ColS.copied; rw [if_neg h1, if_neg h2, if_neg h3]
        refine g_skip ?_; refine g_seq ?_; refine g_region ?_; refine kPm rfl rfl ?_
        first | refine kPv (ev_nil rfl) rfl ?_ | refine kPv (ev_nilf rfl) rfl ?_
        refine kPv (ev_fa (m := _) fa_115_5 rfl rfl) rfl ?_; refine kPv (ev_load Tryz.isAgg3 rfl rfl) rfl ?_; refine kPa rfl rfl ?_; refine p_nil ?_; refine go_sub (σ' := [(9, _), (7, _), (4, _), (0, _), (1, _)]) ⟨rfl, rfl, rfl, rfl, rfl, trivial⟩ ?_; refine g_seq ?_; refine g_seq ?_; refine g_region ?_; refine kPv (ev_fa (m := _) fa_89_0 rfl rfl) rfl ?_; refine kPv (ev_loadA Tryz.isAgg87 Tryz.sizeOf87 rfl rfl) rfl ?_
        refine p_callq rfl (en_f Tryz.call52 rfl) (hsize_ok _ _ _ _ (by omega)) .free rfl rfl ?_; refine kPm rfl rfl ?_; refine p_nil ?_; refine g_block ?_
        refine g_loopk (ι := Nat × Dev) [59, 9, 7, 4, 0, 1] (fun (i, sI) => ((i : Int) ≤ (s.objOf S.c S.b v).1.1 + 1) ∧ (cpyN ((s.objOf S.c S.b v).1.1 + 1).toNat 0 S.free (s.objOf S.c S.b v).1.2.2 s = cpyN (((s.objOf S.c S.b v).1.1 + 1).toNat - i) i S.free (s.objOf S.c S.b v).1.2.2 sI)) (fun (i, sI) => [(60, i64 i)]) (fun (i, sI) => row b7 [i64 (s.objOf S.c S.b v).1.1, i64 (s.objOf S.c S.b v).1.2.1, i64 (s.objOf S.c S.b v).1.2.2] 89 :: row x (colRow S rsv tsv mw) 115 :: VecU 0 (rsv, S.b.rts) :: VecU 0 (tsv, S.todo) :: mapA .u64 i64 mw S.went :: DevA S.bd sI :: Fr) (fun (i, sI) => ((s.objOf S.c S.b v).1.1 + 1).toNat - i) (0, s) (⟨by first | omega | (simp only; omega), rfl⟩) (fun a w st => st.to ⟨rfl, trivial⟩ (fun hh => hh)) ?_
        rintro ⟨i, sI⟩ ⟨hi0, hinv⟩
        try simp only at hi0 hinv ⊢
        refine go_sub (σ' := [(60, i64 i), (59, _), (9, _), (7, _), (4, _), (0, _), (1, _)]) ⟨rfl, rfl, rfl, rfl, rfl, rfl, rfl, trivial⟩ ?_; refine g_seq ?_; refine g_region ?_; refine kPv (ev_cmp rfl rfl rfl) rfl ?_; refine p_nil ?_; refine g_seq ?_
        refine g_if rfl (fun h61 => ?_) (fun h61 => ?_)
        · have hi : (i : Int) < (s.objOf S.c S.b v).1.1 + 1 := by simpa using h61
          refine g_skip ?_; refine g_seq ?_; refine g_block ?_; refine g_seq ?_; refine g_region ?_; refine kPm rfl rfl ?_; refine kPa rfl rfl ?_; refine p_nil ?_; refine g_drawt 16 Tryz.mixed (by kernel_rfl) (by kernel_rfl) ?_; refine kQm rfl rfl ?_
          first | refine kQv (ev_nil rfl) rfl ?_ | refine kQv (ev_nilf rfl) rfl ?_
          refine kQv (ev_fa (m := _) fa_115_0 rfl rfl) rfl ?_; refine kQv (ev_load Tryz.isAgg28 rfl rfl) rfl ?_; refine kQm rfl rfl ?_; refine kQm rfl rfl ?_
          first | refine q_val rfl (ev_add rfl rfl (wr64 (by omega))) .free rfl ?_ | refine q_val rfl (ev_add rfl rfl rfl) .free rfl ?_
          refine kQm rfl rfl ?_
          first | refine kQv (ev_nil rfl) rfl ?_ | refine kQv (ev_nilf rfl) rfl ?_
          refine kQv (ev_fa (m := _) fa_115_0 rfl rfl) rfl ?_; refine kQv (ev_load Tryz.isAgg28 rfl rfl) rfl ?_; refine kQv (ev_fa (m := _) fa_89_1 rfl rfl) rfl ?_; refine kQv (ev_load Tryz.isAgg3 rfl rfl) rfl ?_; refine kQm rfl rfl ?_
          first | refine q_val rfl (ev_add rfl rfl (wr64 (by omega))) .free rfl ?_ | refine q_val rfl (ev_add rfl rfl rfl) .free rfl ?_
          refine q_call rfl (en_f Tryz.call72 rfl) (ro_at (q := DevA) (fun Fr => nload_ok _ Fr _ _ _)) .free rfl ?_; refine q_nil ?_
          refine p_call rfl (en_f Tryz.call70 rfl) (up_at (fun Fr => nstore_ok _ Fr _ _ _ _)) .free rfl rfl ?_ ?_
          rotate_left
          · rintro _ _ ⟨s9, ⟨hm9, rfl⟩, rfl⟩
            exact pan_fn fun w hh => ⟨_, ⟨s9, by rw [hcp, hinv, show ((s.objOf S.c S.b v).1.1 + 1).toNat - i = (((s.objOf S.c S.b v).1.1 + 1).toNat - (i + 1)) + 1 by omega, cpyN_succ, hm9]; rfl, rfl, rfl⟩, (hh.dp [0, 0, 0, 0, 0])⟩
          rintro _ _ ⟨s1, ⟨e1, hm1, rfl⟩, rfl⟩
          refine p_nil ?_; refine go_sub (σ' := [(60, _), (59, _), (9, _), (7, _), (4, _), (0, _), (1, _)]) ⟨rfl, rfl, rfl, rfl, rfl, rfl, rfl, trivial⟩ ?_; refine g_region ?_
          first | refine p_val rfl (ev_add rfl rfl (wr64 (by omega))) .free rfl rfl ?_ | refine p_val rfl (ev_add rfl rfl rfl) .free rfl rfl ?_
          refine kPm rfl rfl ?_; refine p_nil ?_
          exact fun a w st_ => ⟨(i + 1, s1), ⟨by first | omega | (simp only; omega), by rw [hinv, show ((s.objOf S.c S.b v).1.1 + 1).toNat - i = (((s.objOf S.c S.b v).1.1 + 1).toNat - (i + 1)) + 1 by omega, cpyN_succ, hm1]; rfl⟩, by first | omega | (simp only; omega), st_.to ⟨rfl, rfl, rfl, rfl, rfl, rfl, rfl, trivial⟩ (fun hh => hh)⟩
        · have hi : ¬ (i : Int) < (s.objOf S.c S.b v).1.1 + 1 := by simpa using h61
          refine g_exit ?_; refine g_seq ?_; refine g_drawt 10 Tryz.mixed (by kernel_rfl) (by kernel_rfl) ?_; refine kQm rfl rfl ?_
          first | refine kQv (ev_nil rfl) rfl ?_ | refine kQv (ev_nilf rfl) rfl ?_
          refine kQv (ev_fa (m := _) fa_115_5 rfl rfl) rfl ?_; refine kQv (ev_load Tryz.isAgg3 rfl rfl) rfl ?_; refine kQv (ev_fa (m := _) fa_89_0 rfl rfl) rfl ?_; refine kQv (ev_loadA Tryz.isAgg87 Tryz.sizeOf87 rfl rfl) rfl ?_; refine q_call rfl (en_f Tryz.call52 rfl) (hsize_ok _ _ _ _ (by omega)) .free rfl ?_
          first | refine q_val rfl (ev_add rfl rfl (wr64 (by omega))) .free rfl ?_ | refine q_val rfl (ev_add rfl rfl rfl) .free rfl ?_
          first | refine kQv (ev_nil rfl) rfl ?_ | refine kQv (ev_nilf rfl) rfl ?_
          refine kQv (ev_fa (m := _) fa_115_5 rfl rfl) rfl ?_; refine q_nil ?_; refine p_chg0 rfl (ch_store Tryz.sizeOf3 rfl rfl rfl rfl) .free rfl ?_
          rintro _ _ rfl
          refine p_nil ?_; refine go_sub (σ' := [(9, _), (4, _), (0, _), (1, _)]) ⟨rfl, rfl, rfl, rfl, trivial⟩ ?_; refine g_seq ?_; refine g_region ?_; refine kPm rfl rfl ?_
          first | refine kPv (ev_nil rfl) rfl ?_ | refine kPv (ev_nilf rfl) rfl ?_
          refine kPv (ev_fa (m := _) fa_115_7 rfl rfl) rfl ?_; refine kPv (ev_load Tryz.isAgg113 rfl rfl) rfl ?_; refine kPm rfl rfl ?_; refine kPm rfl rfl ?_; refine p_chg0 rfl (ch_mapset (enc := i64) Tryz.runUnderlying113 Tryz.runUnderlying52 rfl rfl rfl rfl) .free rfl ?_
          rintro _ _ rfl
          refine p_nil ?_; refine go_sub (σ' := [(9, _), (4, _)]) ⟨rfl, rfl, trivial⟩ ?_; refine g_seq ?_; refine g_region ?_; refine kPm rfl rfl ?_; refine kPa rfl rfl ?_; refine p_nil ?_; refine g_ret ?_
          exact ret_tmp Tryz.results105 rfl (fun w hh => ⟨_, ⟨_, _, by rw [hcp, hinv, show ((s.objOf S.c S.b v).1.1 + 1).toNat - i = 0 by omega]; rfl, rfl, rfl⟩, col_holds (S := { S with free := S.free + ((s.objOf S.c S.b v).1.1 + 1), went := mset S.went v S.free }) hrsv htsv (hh.dp [0])⟩)
end Go.Proofs.YtbfheafpecgphaaGreat
namespace Go.Proofs.YtbfheafpecgphaaGreat
open Go
theorem refsN_w : ∀ (k : Nat) (i : Int) (S S' : ColS) (s s' : Dev), ColW S → U64 s → S.todo = [] → refsN k i S s = .ok S' s' → ColW S' ∧ U64 s' ∧ S'.scan = S.scan ∧ S'.todo = [] ∧ S'.done = S.done ∧ S'.b = S.b ∧ S'.bd = S.bd ∧ S'.c = S.c ∧ S'.to_ = S.to_ ∧ S.free ≤ S'.free ∧ S'.free - S.free + 66 * (S.b.used.toNat - S'.went.length : Nat) ≤ 66 * (S.b.used.toNat - S.went.length : Nat)
  | 0, _, S, S', s, s', h, hu, ht, e => by cases e; exact ⟨h, hu, rfl, ht, rfl, rfl, rfl, rfl, rfl, Int.le_refl _, by omega⟩
  | k + 1, i, S, S', s, s', h, hu, ht, e => by
    unfold refsN at e
    split at e
    · exact refsN_w k _ S S' s s' h hu ht e
    · obtain ⟨r, s1, e1, e⟩ := then_inv e
      obtain ⟨_, s2, e2, e⟩ := then_inv e
      obtain ⟨h1, hv, h2, h3, h4, h5, h6, h7, h8, h9, h10⟩ := copied_w h e1
      have u1 := copied_u64 hu e1
      have u2 := store_u64 u1.1 (by omega) e2
      obtain ⟨g1, gu, g2, g3, g4, g5, g6, g7, g8, g9, g10⟩ := refsN_w k _ r.2 S' s2 s' h1 u2.1 (h3.trans ht) e
      rw [h5] at g10
      exact ⟨g1, gu, g2.trans h2, g3, g4.trans h4, g5.trans h5, g6.trans h6, g7.trans h7, g8.trans h8, Int.le_trans h9 g9, by omega⟩
theorem keepN_u64 : ∀ (f : Nat) (i e : Int) (s s' : Dev) (a : Unit), U64 s → keepN f i e s = .ok a s' → U64 s'
  | 0, _, _, s, s', a, h, e => by cases e; exact h
  | f + 1, i, e', s, s', a, h, e => by
    unfold keepN at e
    split at e
    · obtain ⟨_, s1, e1, e⟩ := then_inv e
      exact keepN_u64 f _ _ s1 s' a (flush_u64 h e1).1 e
    · cases e; exact h
theorem keep_u64 {S : ColS} {s s' : Dev} {a : Unit} (h : U64 s) (e : S.keep s = .ok a s') : U64 s' := by
  unfold ColS.keep at e
  obtain ⟨_, s1, e1, e⟩ := then_inv e
  have h1 := keepN_u64 _ _ _ _ _ _ h e1
  split at e
  · exact (fence_u64 h1 e).1
  · cases e; exact h1
theorem step_w {S : ColS} (h : ColW S) {s s' : Dev} (hu : U64 s) {r : Bool × ColS} (e : S.step s = .ok r s') : ColW r.2 ∧ U64 s' ∧ r.2.b = S.b ∧ r.2.bd = S.bd ∧ r.2.c = S.c ∧ r.2.to_ = S.to_ ∧ r.1 = r.2.done ∧ (r.1 = false → r.2.meas < S.meas) := by
  have hwl := h.wl; have hfb := h.fb
  unfold ColS.step at e
  split at e
  · rename_i hd; cases e; exact ⟨h, hu, rfl, rfl, rfl, rfl, hd.symm, fun hh => by cases hh⟩
  rename_i hd
  have hd0 : S.done = false := by simpa using hd
  split at e
  · rename_i w t ht
    obtain ⟨r1, s1, e1, e⟩ := then_inv e
    cases e
    obtain ⟨h1, _, h2, h3, h4, h5, h6, h7, h8, h9, h10⟩ := copied_w h e1
    refine ⟨⟨h1.c, h1.b, h1.rl, h1.to_, h1.scan, h1.free, h1.nd, h1.rng, h1.val, fun v hv => h.todo v (by rw [ht]; exact List.mem_cons_of_mem _ hv), h1.rts⟩, (copied_u64 hu e1).1, h5, h6, h7, h8, by simp only [h4, hd0], fun _ => ?_⟩
    unfold ColS.meas
    simp only [ht, h2, h4, h5, List.length_cons]
    split <;> omega
  · rename_i ht
    have hub := unp_b (s.load S.scan)
    split at e
    · rename_i hlt
      obtain ⟨S1, s1, e1, e⟩ := then_inv e
      cases e
      obtain ⟨h1, gu, h2, h3, h4, h5, h6, h7, h8, h9, h10⟩ := refsN_w _ _ _ _ _ _ h hu ht e1
      have hsc := h.scan
      refine ⟨⟨h1.c, h1.b, h1.rl, h1.to_, ⟨by have := h1.scan; simp only; omega, by simp only; omega⟩, h1.free, h1.nd, h1.rng, h1.val, h1.todo, h1.rts⟩, gu, h5, h6, h7, h8, by simp only [h4, hd0], fun _ => ?_⟩
      unfold ColS.meas
      simp only [ht, h2, h3, h4, h5]
      split <;> omega
    · obtain ⟨_, s1, e1, e⟩ := then_inv e
      cases e
      exact ⟨⟨h.c, h.b, h.rl, h.to_, h.scan, h.free, h.nd, h.rng, h.val, h.todo, h.rts⟩, keep_u64 hu e1, rfl, rfl, rfl, rfl, rfl, fun hh => by cases hh⟩
def ColF (x bd : Nat) (sc : Int) : HP := hex fun (y : Nat → Value) => row x [ptr bd, y 1, y 2, y 3, y 4, y 5, y 6, y 7, i64 sc, y 9, y 10, y 11, y 12] 115
theorem col_f {B : World} {x : Nat} {S : ColS} {Fr : List HP} {w : World} (h : Holds B (ColA x S :: Fr) w) : Holds B [ColF x S.bd S.scan] w := by
  obtain ⟨p, hx⟩ := h.hex
  refine Holds.unhex (fun i => (colRow S p.1 p.2.1 p.2.2).getD i .nilIface) ?_
  have h2 := hx.grp
  exact h2.map fun k a => by
    obtain ⟨h1, h2, d, s1, s2, ha, hl⟩ := a
    exact ⟨h1, h2, d, s1, s2, ha, trivial⟩
instance SubH.colf {H Fr : List HP} {x : Nat} {S : ColS} [r : PullH H (ColA x S) Fr] : SubH H [ColF x S.bd S.scan] := ⟨fun h hh => by
  obtain ⟨i, h1, h2⟩ := r.get
  obtain ⟨k1, k2, d, s1, s2, ⟨p, hp⟩, hl⟩ := sat_front i h1 hh
  obtain ⟨g1, g2, d', t1, t2, ha, hg⟩ := hp
  exact ⟨g1, fun _ => none, fun _ => .inr rfl, t1.trans s1, (fun _ _ e => nomatch e), ⟨fun i => (colRow S p.1 p.2.1 p.2.2).getD i .nilIface, ha⟩, trivial⟩⟩
theorem ev_hex {B : World} {σ : Env} {P : Program} {α : Type} {A : α → HP} {o : Oper} {v : Value} (h : ∀ y, Evs P B σ [A y] o v) : Evs P B σ [hex A] o v := fun a w kn hh => by
  obtain ⟨y, hy⟩ := hh.hex
  exact h y a w kn hy
theorem go_colf {B : World} {n : Nat} {D : List Deferred} {σ : Env} {H H0 : List HP} {P : Program} {ro : Cx} {K : Act → World → Prop} {X : Ext} {ops : Array Oper} {ms hs cs : List Nat} {ord : List Nat} {c : Bool} (f : ∀ w, Holds B H w → Holds B H0 w) (h : GO B n D σ H (wpV P ro ops ms hs cs (Holds B H0) X K ord)) : GO B n D σ H (fun a w => (c = true → Holds B H0 w) ∧ wpV P ro ops ms hs cs (Holds B H0) X K ord a w) := fun a w s => ⟨fun _ => f w s.holds, h a w s⟩
theorem keepN_succ (f : Nat) (i e : Int) (s : Dev) : keepN (f + 1) i e s = if i < e then (s.flush i).then fun _ s' => keepN f (i + 8) e s' else .ok () s := rfl
theorem refsN_succ (k : Nat) (i : Int) (S : ColS) (s : Dev) : refsN (k + 1) i S s = if s.load (S.scan + 1 + i) = 0 then refsN k (i + 1) S s else (S.copied s (s.load (S.scan + 1 + i))).then fun r s1 => (s1.store (S.scan + 1 + i) r.1).then fun _ s2 => refsN k (i + 1) r.2 s2 := rfl
theorem runN_succ (f : Nat) (S : ColS) (s : Dev) : runN (f + 1) S s = (S.step s).then fun r s' => if r.1 = true then .ok r.2 s' else runN f r.2 s' := rfl
theorem ckeep_ok (B : World) (Fr : List HP) (x : Nat) (S : ColS) (hS : ColW S) (s : Dev) (hu : U64 s) :
    ∀ w, Holds B (ColA x S :: DevA S.bd s :: Fr) w → Calls Tryz.prog 106 [ptr x].toArray w (Ret B (fun rv H' => ∃ r s', S.keep s = .ok r s' ∧ rv = unitV r ∧ H' = ColA x { S with done := true } :: DevA S.bd s' :: Fr) (fun c H' => ∃ s', S.keep s = .off s' ∧ c = offc ∧ H' = DevA S.bd s' :: Fr)) := by
  refine fn_enter Tryz.func106 rfl Tryz.ntmps106 rfl ?_; refine go_col fun rsv tsv mw hrsv htsv => ?_
  have hfb := hS.fb
  have hfr := hS.free
  have hto := hS.to_
  refine g_seq ?_; refine g_seq ?_; refine g_region ?_; refine kPm rfl rfl ?_
  first | refine kPv (ev_nil rfl) rfl ?_ | refine kPv (ev_nilf rfl) rfl ?_
  refine kPv (ev_fa (m := _) fa_115_3 rfl rfl) rfl ?_; refine kPv (ev_load Tryz.isAgg3 rfl rfl) rfl ?_; refine kPa rfl rfl ?_; refine p_nil ?_; refine g_block ?_
  refine g_loopk (ι := Int × Nat × Dev) [0] (fun (i, n, sI) => (S.to_ ≤ i ∧ i ≤ 400000) ∧ (S.free - i ≤ n) ∧ (keepN ((S.free - S.to_).toNat + 1) S.to_ S.free s = keepN (n + 1) i S.free sI)) (fun (i, n, sI) => [(2, i64 i)]) (fun (i, n, sI) => row x (colRow S rsv tsv mw) 115 :: VecU 0 (rsv, S.b.rts) :: VecU 0 (tsv, S.todo) :: mapA .u64 i64 mw S.went :: DevA S.bd sI :: Fr) (fun (i, n, sI) => n) (S.to_, (S.free - S.to_).toNat, s) (⟨⟨by first | omega | (simp only; omega), by first | omega | (simp only; omega)⟩, by first | omega | (simp only; omega), rfl⟩) (fun a w st => st.to ⟨rfl, trivial⟩ (fun hh => hh)) ?_
  rintro ⟨i, n, sI⟩ ⟨hi0, hn, hinv⟩
  try simp only at hi0 hn hinv ⊢
  refine go_sub (σ' := [(2, i64 i), (0, _)]) ⟨rfl, rfl, trivial⟩ ?_; refine g_seq ?_; refine g_seq ?_; refine g_region ?_; refine kPm rfl rfl ?_; refine kPm rfl rfl ?_
  first | refine kPv (ev_nil rfl) rfl ?_ | refine kPv (ev_nilf rfl) rfl ?_
  refine kPv (ev_fa (m := _) fa_115_5 rfl rfl) rfl ?_; refine kPv (ev_load Tryz.isAgg3 rfl rfl) rfl ?_; refine kPv (ev_cmp rfl rfl rfl) rfl ?_; refine p_nil ?_
  refine g_if rfl (fun h12 => ?_) (fun h12 => ?_)
  · have hlt : i < S.free := by simpa using h12
    refine g_skip ?_; refine g_seq ?_; refine g_block ?_; refine g_region ?_; refine kPm rfl rfl ?_
    first | refine kPv (ev_nil rfl) rfl ?_ | refine kPv (ev_nilf rfl) rfl ?_
    refine kPv (ev_fa (m := _) fa_115_0 rfl rfl) rfl ?_; refine kPv (ev_load Tryz.isAgg28 rfl rfl) rfl ?_; refine kPm rfl rfl ?_
    refine p_call rfl (en_f Tryz.call34 rfl) (up_at (fun Fr => nflush_ok _ Fr _ _ _)) .free rfl rfl ?_ ?_
    rotate_left
    · rintro _ _ ⟨s9, ⟨hm9, rfl⟩, rfl⟩
      exact pan_fn fun w hh => ⟨_, ⟨s9, by unfold ColS.keep; rw [hinv, keepN_succ, if_pos hlt, hm9]; rfl, rfl, rfl⟩, (hh.dp [0, 0, 0, 0])⟩
    rintro _ _ ⟨s1, ⟨e1, hm1, rfl⟩, rfl⟩
    refine p_nil ?_; refine go_sub (σ' := [(2, _), (0, _)]) ⟨rfl, rfl, trivial⟩ ?_; refine g_region ?_; refine kPm rfl rfl ?_
    first | refine p_val rfl (ev_add rfl rfl (wr64 (by omega))) .free rfl rfl ?_ | refine p_val rfl (ev_add rfl rfl rfl) .free rfl rfl ?_
    refine kPa rfl rfl ?_; refine p_nil ?_
    exact fun a w st_ => ⟨(i + 8, n - 1, s1), ⟨by first | omega | (simp only; omega), by first | omega | (simp only; omega), by rw [hinv, keepN_succ, if_pos hlt, hm1, show n = n - 1 + 1 by omega]; rfl⟩, by first | omega | (simp only; omega), st_.to ⟨rfl, rfl, trivial⟩ (fun hh => hh)⟩
  · have hlt : ¬ i < S.free := by simpa using h12
    refine g_exit ?_; refine g_seq ?_; refine g_seq ?_; refine g_draw Tryz.mixed (by kernel_rfl) (by kernel_rfl) ?_; refine kQm rfl rfl ?_
    first | refine kQv (ev_nil rfl) rfl ?_ | refine kQv (ev_nilf rfl) rfl ?_
    refine kQv (ev_fa (m := _) fa_115_5 rfl rfl) rfl ?_; refine kQv (ev_load Tryz.isAgg3 rfl rfl) rfl ?_; refine kQm rfl rfl ?_
    first | refine kQv (ev_nil rfl) rfl ?_ | refine kQv (ev_nilf rfl) rfl ?_
    refine kQv (ev_fa (m := _) fa_115_3 rfl rfl) rfl ?_; refine kQv (ev_load Tryz.isAgg3 rfl rfl) rfl ?_; refine kQv (ev_cmp rfl rfl rfl) rfl ?_; refine q_nil ?_; refine go_sub (σ' := [(29, _), (0, _)]) ⟨rfl, rfl, trivial⟩ ?_
    refine g_if rfl (fun h29 => ?_) (fun h29 => ?_)
    · have hgt : S.to_ < S.free := by simpa using h29
      refine g_region ?_; refine kPm rfl rfl ?_
      first | refine kPv (ev_nil rfl) rfl ?_ | refine kPv (ev_nilf rfl) rfl ?_
      refine kPv (ev_fa (m := _) fa_115_0 rfl rfl) rfl ?_; refine kPv (ev_load Tryz.isAgg28 rfl rfl) rfl ?_
      refine p_call rfl (en_f Tryz.call35 rfl) (up_at (fun Fr => nfence_ok _ Fr _ _)) .free rfl rfl ?_ ?_
      rotate_left
      · rintro _ _ ⟨s9, ⟨hm9, rfl⟩, rfl⟩
        exact pan_fn fun w hh => ⟨_, ⟨s9, by unfold ColS.keep; rw [hinv, keepN_succ, if_neg hlt]; simp only [then_ok]; rw [if_pos hgt]; exact hm9, rfl, rfl⟩, (hh.dp [0, 0, 0, 0])⟩
      rintro _ _ ⟨s2, ⟨e2, hm2, rfl⟩, rfl⟩
      refine p_nil ?_; refine g_region ?_; refine kPm rfl rfl ?_
      first | refine kPv (ev_nil rfl) rfl ?_ | refine kPv (ev_nilf rfl) rfl ?_
      refine kPv (ev_fa (m := _) fa_115_8 rfl rfl) rfl ?_; refine p_chg0 rfl (ch_store Tryz.sizeOf4 rfl rfl rfl rfl) .free rfl ?_
      rintro _ _ rfl
      refine p_nil ?_; refine go_sub (σ' := []) trivial ?_
      exact end_none Tryz.results106 (fun w hh => ⟨_, ⟨(), _, by unfold ColS.keep; rw [hinv, keepN_succ, if_neg hlt]; simp only [then_ok]; rw [if_pos hgt]; exact hm2, rfl, rfl⟩, col_holds (S := { S with done := true }) hrsv htsv hh⟩)
    · have hgt : ¬ S.to_ < S.free := by simpa using h29
      refine g_skip ?_; refine g_region ?_; refine kPm rfl rfl ?_
      first | refine kPv (ev_nil rfl) rfl ?_ | refine kPv (ev_nilf rfl) rfl ?_
      refine kPv (ev_fa (m := _) fa_115_8 rfl rfl) rfl ?_; refine p_chg0 rfl (ch_store Tryz.sizeOf4 rfl rfl rfl rfl) .free rfl ?_
      rintro _ _ rfl
      refine p_nil ?_
      exact end_none Tryz.results106 (fun w hh => ⟨_, ⟨(), _, by unfold ColS.keep; rw [hinv, keepN_succ, if_neg hlt]; simp only [then_ok]; rw [if_neg hgt], rfl, rfl⟩, col_holds (S := { S with done := true }) hrsv htsv hh⟩)
theorem cwent_ok (B : World) (Fr : List HP) (x : Nat) (S : ColS) (v : Int) :
    ∀ w, Holds B (ColA x S :: Fr) w → Calls Tryz.prog 55 [ptr x, w64 v].toArray w (PureR B (ColA x S :: Fr) (i64 ((mget S.went v).getD 0))) := by
  refine fn_enter Tryz.func55 rfl Tryz.ntmps55 rfl ?_; refine go_col fun rsv tsv mw hrsv htsv => ?_; refine g_seq ?_; refine g_region ?_; refine kPa rfl rfl ?_; refine p_nil ?_; refine g_seq ?_; refine g_region ?_; refine kPm rfl rfl ?_
  first | refine kPv (ev_nil rfl) rfl ?_ | refine kPv (ev_nilf rfl) rfl ?_
  refine kPv (ev_fa (m := _) fa_115_7 rfl rfl) rfl ?_; refine kPv (ev_load Tryz.isAgg113 rfl rfl) rfl ?_; refine kPm rfl rfl ?_; refine kPv ((ev_lookup1 Tryz.runUnderlying113 Tryz.runUnderlying52 Tryz.zeroValue3 rfl rfl).eq (mval_i _)) rfl ?_; refine kPa rfl rfl ?_; refine p_nil ?_; refine go_sub (σ' := [(4, _)]) ⟨rfl, trivial⟩ ?_; refine g_ret ?_
  exact ret_tmp Tryz.results55 rfl (fun w hh => ⟨rfl, col_holds hrsv htsv hh⟩)
theorem cstep_ok (B : World) (Fr : List HP) (x : Nat) (S : ColS) (hS : ColW S) (s : Dev) (hu : U64 s) :
    ∀ w, Holds B (ColA x S :: DevA S.bd s :: Fr) w → Calls Tryz.prog 74 [ptr x].toArray w (Ret B (fun rv H' => ∃ r s', S.step s = .ok r s' ∧ rv = .bool r.1 ∧ H' = ColA x r.2 :: DevA S.bd s' :: Fr) (fun c H' => ∃ s', S.step s = .off s' ∧ c = offc ∧ H' = DevA S.bd s' :: Fr)) := by
  refine fn_enter Tryz.func74 rfl Tryz.ntmps74 rfl ?_; refine go_col fun rsv tsv mw hrsv htsv => ?_
  have hfb := hS.fb
  have hfr := hS.free
  have hto := hS.to_
  have hscan := hS.scan
  have hub := unp_b (s.load S.scan)
  refine g_seq ?_; refine g_region ?_; refine kPa rfl rfl ?_; refine p_nil ?_; refine g_seq ?_; refine g_block ?_; refine g_seq ?_; refine g_region ?_; refine kPm rfl rfl ?_
  first | refine kPv (ev_nil rfl) rfl ?_ | refine kPv (ev_nilf rfl) rfl ?_
  refine kPv (ev_fa (m := _) fa_115_8 rfl rfl) rfl ?_; refine kPv (ev_load Tryz.isAgg4 rfl rfl) rfl ?_; refine kPa rfl rfl ?_; refine p_nil ?_
  refine g_if rfl (fun h9 => ?_) (fun h9 => ?_)
  · have hdone : S.done = true := h9
    have hres : S.step s = .ok (true, S) s := by unfold ColS.step; rw [if_pos hdone]
    refine g_skip ?_; refine g_seq ?_; refine g_region ?_; refine kPm rfl rfl ?_
    first | refine kPv (ev_nil rfl) rfl ?_ | refine kPv (ev_nilf rfl) rfl ?_
    refine kPv (ev_fa (m := _) fa_115_8 rfl rfl) rfl ?_; refine kPv (ev_load Tryz.isAgg4 rfl rfl) rfl ?_; refine kPa rfl rfl ?_; refine p_nil ?_; refine go_sub (σ' := [(2, _)]) ⟨rfl, trivial⟩ ?_; refine g_ret ?_
    exact ret_tmp Tryz.results74 rfl (fun w hh => ⟨_, ⟨_, _, hres, by rw [hdone], rfl⟩, col_holds hrsv htsv hh⟩)
  · have hdone : S.done = false := h9
    refine go_pk [2] ?_; refine go_vecq fun qt ct hqt hqi => ?_
    subst hqt
    refine go_pk [1, 1, 0, 0] ?_; refine g_seq ?_; refine g_region ?_; refine kPm rfl rfl ?_
    first | refine kPv (ev_nil rfl) rfl ?_ | refine kPv (ev_nilf rfl) rfl ?_
    refine kPv (ev_fa (m := _) fa_115_6 rfl rfl) rfl ?_; refine kPv (ev_load Tryz.isAgg31 rfl rfl) rfl ?_; refine kPv (ev_len rfl Tryz.runUnderlying31 ⟨_, rfl⟩ rfl) rfl ?_; refine kPv (ev_cmp rfl rfl rfl) rfl ?_; refine kPa rfl rfl ?_; refine p_nil ?_; refine go_sub (σ' := [(14, _), (2, _), (0, _)]) ⟨rfl, rfl, rfl, trivial⟩ ?_
    refine g_if rfl (fun h14 => ?_) (fun h14 => ?_)
    · obtain ⟨v, t, htd⟩ : ∃ v t, S.todo = v :: t := by
        cases ht : S.todo with
        | nil => rw [ht] at h14; simp at h14
        | cons v t => exact ⟨v, t, rfl⟩
      obtain ⟨bq, oq, rfl⟩ := hqi 0 (by rw [htd]; exact Nat.succ_pos _)
      refine g_seq ?_; refine g_region ?_; refine kPm rfl rfl ?_; refine kPm rfl rfl ?_
      first | refine kPv (ev_nil rfl) rfl ?_ | refine kPv (ev_nilf rfl) rfl ?_
      refine kPv (ev_fa (m := _) fa_115_6 rfl rfl) rfl ?_; refine kPv (ev_load Tryz.isAgg31 rfl rfl) rfl ?_; refine kPv (ev_iaS Tryz.runUnderlying31 Tryz.sizeOf52 rfl rfl (by decide) (by rw [htd]; simp only [List.length_cons]; omega)) rfl ?_
      refine kPv (ev_loadS (v := w64 v) Tryz.isAgg52 (vec_slr 2 rfl) rfl (by rw [htd]; rfl)) rfl ?_
      refine go_conv (fun w hh => col_holds hrsv htsv hh) ?_
      refine p_call rfl (en_f Tryz.call105 rfl) (ccopied_ok B _ x S hS s hu v (hS.todo _ (by rw [htd]; exact List.mem_cons_self ..))) .free rfl rfl ?_ ?_
      rotate_left
      · rintro _ _ ⟨s9, hm9, rfl, rfl⟩
        exact pan_fn fun w hh => ⟨_, ⟨s9, by unfold ColS.step; rw [if_neg (by rw [hdone]; decide)]; simp only [htd]; rw [hm9]; rfl, rfl, rfl⟩, hh⟩
      rintro _ _ ⟨r1, s1, hm1, rfl, rfl⟩
      obtain ⟨hS1, hrv1, hsc1, htd1, hdn1, hb1, hbd1, hc1, hto1, hfr1, hms1⟩ := copied_w hS hm1
      have hu1 := (copied_u64 hu hm1).1
      refine p_nil ?_; refine go_sub (σ' := [(2, _), (0, _)]) ⟨rfl, rfl, trivial⟩ ?_; refine g_region ?_; refine go_col fun rsv2 tsv2 mw2 hrsv2 htsv2 => ?_; refine kPm rfl rfl ?_; refine kPm rfl rfl ?_
      first | refine kPv (ev_nil rfl) rfl ?_ | refine kPv (ev_nilf rfl) rfl ?_
      refine kPv (ev_fa (m := _) fa_115_6 rfl rfl) rfl ?_; refine go_pk [2] ?_; refine go_conv (H' := VecU 0 (tsv2, v :: t) :: _) (fun w hh => by rw [htd1, htd] at hh; exact hh) ?_
      refine kPv (ev_load Tryz.isAgg31 rfl rfl) rfl ?_; refine p_chg rfl (ch_tail_vec (v := v) (xs := t) Tryz.runUnderlying31 Tryz.sizeOf52 rfl rfl) .free rfl rfl ?_
      rintro tv3 _ ⟨htv3, rfl⟩
      refine go_pk [1, 1] ?_
      first | refine kPv (ev_nil rfl) rfl ?_ | refine kPv (ev_nilf rfl) rfl ?_
      refine kPv (ev_fa (m := _) fa_115_6 rfl rfl) rfl ?_; refine p_chg0 rfl (ch_store Tryz.sizeOf31 rfl rfl (by first | rfl | assumption) rfl) .free rfl ?_
      rintro _ _ rfl
      refine p_nil ?_; refine go_sub (σ' := [(2, _), (0, _)]) ⟨rfl, rfl, trivial⟩ ?_; refine g_seq ?_; refine g_region ?_; refine kPm rfl rfl ?_
      first | refine kPv (ev_nil rfl) rfl ?_ | refine kPv (ev_nilf rfl) rfl ?_
      refine kPv (ev_fa (m := _) fa_115_8 rfl rfl) rfl ?_; refine kPv (ev_load Tryz.isAgg4 rfl rfl) rfl ?_; refine kPa rfl rfl ?_; refine p_nil ?_; refine g_ret ?_
      exact ret_tmp Tryz.results74 rfl (fun w hh => ⟨_, ⟨_, _, by unfold ColS.step; rw [if_neg (by rw [hdone]; decide)]; simp only [htd]; rw [hm1]; rfl, by rw [hdn1, hdone], rfl⟩, col_holds (S := { r1.2 with todo := t }) hrsv2 htv3 hh⟩)
    · have htd : S.todo = [] := by
        cases ht : S.todo with
        | nil => rfl
        | cons v t => rw [ht] at h14; simp at h14 <;> omega
      refine g_seq ?_; refine g_draw Tryz.mixed (by kernel_rfl) (by kernel_rfl) ?_; refine kQm rfl rfl ?_
      first | refine kQv (ev_nil rfl) rfl ?_ | refine kQv (ev_nilf rfl) rfl ?_
      refine kQv (ev_fa (m := _) fa_115_4 rfl rfl) rfl ?_; refine kQv (ev_load Tryz.isAgg3 rfl rfl) rfl ?_; refine kQm rfl rfl ?_
      first | refine kQv (ev_nil rfl) rfl ?_ | refine kQv (ev_nilf rfl) rfl ?_
      refine kQv (ev_fa (m := _) fa_115_5 rfl rfl) rfl ?_; refine kQv (ev_load Tryz.isAgg3 rfl rfl) rfl ?_; refine kQv (ev_cmp rfl rfl rfl) rfl ?_; refine kQa rfl rfl ?_; refine q_nil ?_; refine go_sub (σ' := [(37, _), (2, _), (0, _)]) ⟨rfl, rfl, rfl, trivial⟩ ?_
      refine g_if rfl (fun h37 => ?_) (fun h37 => ?_)
      · have hlt : S.scan < S.free := by simpa using h37
        have hstep : S.step s = (refsN (unp (s.load S.scan)).2.1.toNat 0 S s).then fun S' s' => .ok (false, { S' with scan := S'.scan + ((unp (s.load S.scan)).1 + 1) }) s' := by unfold ColS.step; rw [if_neg (by rw [hdone]; decide)]; simp only [htd]; rw [if_pos hlt]
        refine g_seq ?_
        refine g_drawT (.br [0, 1, 2, 3, 4, 5, 6, 7] 8 (.br [] 9 (.fin [10, 11, 12, 13, 14, 15]) 13 (.fin [9, 10, 11, 12, 14, 15])) 13 (.fin [8, 9, 10, 11, 12, 14, 15])) [8, 9, 13, 14] [0, 1, 2, 3, 4, 5, 6, 7, 10, 11, 12] [13, 14] [row x (colRow S rsv (.slice qt S.todo.length ct) mw) 115] [2, 0] (G := Nat) (fun b3 => [(3, ptr b3), (4, .bool (unp (s.load S.scan)).2.2)]) (fun b3 => row b3 [i64 (unp (s.load S.scan)).1, i64 (unp (s.load S.scan)).2.1] 87 :: row x (colRow S rsv (.slice qt S.todo.length ct) mw) 115 :: VecU 0 (rsv, S.b.rts) :: VecU 0 (.slice qt S.todo.length ct, S.todo) :: mapA .u64 i64 mw S.went :: DevA S.bd s :: Fr) Tryz.mixed (by kernel_rfl) ?_ ?_
        · skip
          refine t_br ?_; refine v_hoist rfl rfl rfl (ev_move rfl) .free rfl ?_
          first | refine v_hoist rfl rfl rfl (ev_nil rfl) .free rfl ?_ | refine v_hoist rfl rfl rfl (ev_nilf rfl) .free rfl ?_
          refine v_hoist rfl rfl rfl (ev_fa (m := _) fa_115_0 rfl rfl) .free rfl ?_; refine v_hoist rfl rfl rfl (ev_load Tryz.isAgg28 rfl rfl) .free rfl ?_; refine v_hoist rfl rfl rfl (ev_move rfl) .free rfl ?_
          first | refine v_hoist rfl rfl rfl (ev_nil rfl) .free rfl ?_ | refine v_hoist rfl rfl rfl (ev_nilf rfl) .free rfl ?_
          refine v_hoist rfl rfl rfl (ev_fa (m := _) fa_115_4 rfl rfl) .free rfl ?_; refine v_hoist rfl rfl rfl (ev_load Tryz.isAgg3 rfl rfl) .free rfl ?_; refine v_nil ?_
          refine t_two rfl rfl ?_ ?_
          · skip
            refine p_callq rfl (en_f Tryz.call72 rfl) (ro_at (q := DevA) (fun Fr => nload_ok _ Fr _ _ _)) .free rfl rfl ?_; refine p_nil ?_; refine t_off rfl ?_; refine t_br ?_; refine v_nil ?_
            refine t_two rfl rfl ?_ ?_
            · skip
              refine p_callq rfl (en_f Tryz.call93 rfl) (unpack_ok _ _ _) .free rfl rfl ?_; refine p_nil ?_; refine t_off rfl ?_; refine t_fin ?_; refine v_hoist rfl rfl rfl (ev_move rfl) .free rfl ?_; refine v_hoist rfl rfl rfl (ev_ext rfl rfl) .free rfl ?_; refine v_hoist rfl rfl rfl (ev_ext rfl rfl) .free rfl ?_; refine v_mark rfl rfl ?_; refine p_chg rfl (ch_allocA Tryz.zeroValue87 rfl) .free rfl rfl ?_
              rintro _ _ ⟨b3, rfl, rfl⟩
              refine p_nil ?_; refine v_on ?_; refine v_mark rfl rfl ?_; refine p_chg0 rfl (ch_storeA (vs := _) Tryz.sizeOf87 rfl rfl rfl rfl rfl) .free rfl ?_
              rintro _ _ rfl
              refine p_nil ?_; refine v_on ?_; refine v_val rfl rfl rfl (ev_assign rfl) .free rfl ?_; refine v_nil ?_
              exact fun a w st_ => ⟨b3, st_.to ⟨rfl, rfl, rfl, rfl, trivial⟩ (fun hh => hh)⟩
            · skip
              refine p_chg rfl (ch_allocA Tryz.zeroValue87 rfl) .free rfl rfl ?_
              rintro _ _ ⟨b3, rfl, rfl⟩
              refine p_nil ?_; refine t_on ?_; refine t_fin ?_; refine v_mark rfl rfl ?_; refine p_callq rfl (en_f Tryz.call93 rfl) (unpack_ok _ _ _) .free rfl rfl ?_; refine p_nil ?_; refine v_off rfl ?_; refine v_hoist rfl rfl rfl (ev_move rfl) .free rfl ?_; refine v_hoist rfl rfl rfl (ev_ext rfl rfl) .free rfl ?_; refine v_hoist rfl rfl rfl (ev_ext rfl rfl) .free rfl ?_; refine v_mark rfl rfl ?_; refine p_chg0 rfl (ch_storeA (vs := _) Tryz.sizeOf87 rfl rfl rfl rfl rfl) .free rfl ?_
              rintro _ _ rfl
              refine p_nil ?_; refine v_on ?_; refine v_val rfl rfl rfl (ev_assign rfl) .free rfl ?_; refine v_nil ?_
              exact fun a w st_ => ⟨b3, st_.to ⟨rfl, rfl, rfl, rfl, trivial⟩ (fun hh => hh)⟩
          · skip
            refine p_chg rfl (ch_allocA Tryz.zeroValue87 rfl) .free rfl rfl ?_
            rintro _ _ ⟨b3, rfl, rfl⟩
            refine p_nil ?_; refine t_on ?_; refine t_fin ?_; refine v_mark rfl rfl ?_; refine p_callq rfl (en_f Tryz.call72 rfl) (ro_at (q := DevA) (fun Fr => nload_ok _ Fr _ _ _)) .free rfl rfl ?_; refine p_nil ?_; refine v_off rfl ?_; refine v_mark rfl rfl ?_; refine p_callq rfl (en_f Tryz.call93 rfl) (unpack_ok _ _ _) .free rfl rfl ?_; refine p_nil ?_; refine v_off rfl ?_; refine v_hoist rfl rfl rfl (ev_move rfl) .free rfl ?_; refine v_hoist rfl rfl rfl (ev_ext rfl rfl) .free rfl ?_
            refine v_hoist rfl rfl rfl (ev_ext rfl rfl) .free rfl ?_; refine v_mark rfl rfl ?_; refine p_chg0 rfl (ch_storeA (vs := _) Tryz.sizeOf87 rfl rfl rfl rfl rfl) .free rfl ?_
            rintro _ _ rfl
            refine p_nil ?_; refine v_on ?_; refine v_val rfl rfl rfl (ev_assign rfl) .free rfl ?_; refine v_nil ?_
            exact fun a w st_ => ⟨b3, st_.to ⟨rfl, rfl, rfl, rfl, trivial⟩ (fun hh => hh)⟩
        intro b3
        refine go_sub (σ' := [(3, ptr b3), (4, .bool (unp (s.load S.scan)).2.2), (2, _), (0, _)]) ⟨rfl, rfl, rfl, rfl, trivial⟩ ?_; refine g_seq ?_; refine g_seq ?_; refine go_pk [1, 1, 1, 1] ?_; refine go_conv (fun w hh => col_holds hrsv htsv hh) ?_; refine g_region ?_; refine kPv (ev_fa (m := _) fa_87_1 rfl rfl) rfl ?_; refine kPv (ev_load Tryz.isAgg3 rfl rfl) rfl ?_; refine kPm rfl rfl ?_; refine p_nil ?_; refine g_block ?_
        refine g_loopk (ι := Nat × ColS × Dev) [61, 3, 2, 0] (fun (i, SI, sI) => ((i : Int) ≤ (unp (s.load S.scan)).2.1) ∧ (ColW SI) ∧ (U64 sI) ∧ (SI.todo = []) ∧ (SI.done = S.done) ∧ (SI.bd = S.bd) ∧ (SI.scan = S.scan) ∧ (refsN (unp (s.load S.scan)).2.1.toNat 0 S s = refsN ((unp (s.load S.scan)).2.1.toNat - i) i SI sI)) (fun (i, SI, sI) => [(62, i64 i)]) (fun (i, SI, sI) => row b3 [i64 (unp (s.load S.scan)).1, i64 (unp (s.load S.scan)).2.1] 87 :: ColA x SI :: DevA SI.bd sI :: Fr) (fun (i, SI, sI) => (unp (s.load S.scan)).2.1.toNat - i) (0, S, s) (⟨by first | omega | (simp only; omega), hS, hu, htd, rfl, rfl, rfl, rfl⟩) (fun a w st => st.to ⟨rfl, trivial⟩ (fun hh => (hh.pk [1]))) ?_
        rintro ⟨i, SI, sI⟩ ⟨hi0, hSI, huI, htdI, hdI, hbdI, hscI0, hinv⟩
        try simp only at hi0 hSI huI htdI hdI hbdI hscI0 hinv ⊢
        refine go_sub (σ' := [(62, i64 i), (61, _), (3, _), (2, _), (0, _)]) ⟨rfl, rfl, rfl, rfl, rfl, trivial⟩ ?_; refine g_seq ?_; refine g_region ?_; refine kPv (ev_cmp rfl rfl rfl) rfl ?_; refine p_nil ?_; refine g_seq ?_
        refine g_if rfl (fun h63 => ?_) (fun h63 => ?_)
        · have hi : (i : Int) < (unp (s.load S.scan)).2.1 := by simpa using h63
          have hscI := hSI.scan
          refine g_skip ?_; refine g_seq ?_; refine g_block ?_; refine g_seq ?_; refine g_region ?_; refine kPm rfl rfl ?_; refine kPa rfl rfl ?_; refine p_nil ?_; refine g_seq ?_; refine go_pk [1] ?_; refine go_col fun rsv2 tsv2 mw2 hrsv2 htsv2 => ?_; refine g_draw Tryz.mixed (by kernel_rfl) (by kernel_rfl) ?_; refine kQm rfl rfl ?_
          first | refine kQv (ev_nil rfl) rfl ?_ | refine kQv (ev_nilf rfl) rfl ?_
          refine kQv (ev_fa (m := _) fa_115_0 rfl rfl) rfl ?_; refine kQv (ev_load Tryz.isAgg28 rfl rfl) rfl ?_; refine kQm rfl rfl ?_
          first | refine kQv (ev_nil rfl) rfl ?_ | refine kQv (ev_nilf rfl) rfl ?_
          refine kQv (ev_fa (m := _) fa_115_4 rfl rfl) rfl ?_; refine kQv (ev_load Tryz.isAgg3 rfl rfl) rfl ?_
          first | refine q_val rfl (ev_add rfl rfl (wr64 (by omega))) .free rfl ?_ | refine q_val rfl (ev_add rfl rfl rfl) .free rfl ?_
          refine kQm rfl rfl ?_
          first | refine q_val rfl (ev_add rfl rfl (wr64 (by omega))) .free rfl ?_ | refine q_val rfl (ev_add rfl rfl rfl) .free rfl ?_
          refine q_call rfl (en_f Tryz.call72 rfl) (ro_at (q := DevA) (fun Fr => nload_ok _ Fr _ _ _)) .free rfl ?_; refine kQa rfl rfl ?_; refine q_nil ?_; refine go_sub (σ' := [(6, _), (5, _), (62, _), (61, _), (3, _), (2, _), (0, _)]) ⟨rfl, rfl, rfl, rfl, rfl, rfl, rfl, trivial⟩ ?_; refine g_seq ?_; refine go_conv (fun w hh => col_holds hrsv2 htsv2 hh) ?_; refine g_region ?_; refine kPm rfl rfl ?_; refine kPv (ev_cmp rfl rfl rfl) rfl ?_; refine p_nil ?_
          refine g_if rfl (fun h78 => ?_) (fun h78 => ?_)
          · have hne : ¬ sI.load (SI.scan + 1 + i) = 0 := by simpa using h78
            refine go_pk [0, 1] ?_; refine go_conv (fun w hh => hh) ?_; refine g_drawv [0, 1, 2, 3, 4, 5, 6, 7, 8, 9, 10, 11, 12, 13, 14, 15] [13, 15] [0, 1, 2, 3, 4, 5, 6, 7, 8, 9, 10] [13] [ColF x SI.bd SI.scan] Tryz.mixed (by kernel_rfl) ?_; refine v_hoist rfl rfl rfl (ev_move rfl) .free rfl ?_
            first | refine v_hoist rfl rfl rfl (ev_nil rfl) .free rfl ?_ | refine v_hoist rfl rfl rfl (ev_nilf rfl) .free rfl ?_
            refine v_hoist rfl rfl rfl (ev_fa (m := _) fa_115_0 rfl rfl) .free rfl ?_; refine v_hoist rfl rfl rfl (ev_hex fun y => ev_load Tryz.isAgg28 rfl rfl) .free rfl ?_; refine v_hoist rfl rfl rfl (ev_move rfl) .free rfl ?_
            first | refine v_hoist rfl rfl rfl (ev_nil rfl) .free rfl ?_ | refine v_hoist rfl rfl rfl (ev_nilf rfl) .free rfl ?_
            refine v_hoist rfl rfl rfl (ev_fa (m := _) fa_115_4 rfl rfl) .free rfl ?_; refine v_hoist rfl rfl rfl (ev_hex fun y => ev_load Tryz.isAgg3 rfl rfl) .free rfl ?_
            first | refine v_hoist rfl rfl rfl (ev_add rfl rfl (wr64 (by omega))) .free rfl ?_ | refine v_hoist rfl rfl rfl (ev_add rfl rfl rfl) .free rfl ?_
            refine v_hoist rfl rfl rfl (ev_move rfl) .free rfl ?_
            first | refine v_hoist rfl rfl rfl (ev_add rfl rfl (wr64 (by omega))) .free rfl ?_ | refine v_hoist rfl rfl rfl (ev_add rfl rfl rfl) .free rfl ?_
            refine v_val rfl rfl rfl (ev_move rfl) .free rfl ?_; refine v_val rfl rfl rfl (ev_move rfl) .free rfl ?_; refine v_mark rfl rfl ?_
            refine p_call rfl (en_f Tryz.call105 rfl) (ccopied_ok B _ x SI hSI sI huI (sI.load (SI.scan + 1 + i)) (huI.load _)) .free rfl rfl ?_ ?_
            rotate_left
            · rintro _ _ ⟨s9, hm9, rfl, rfl⟩
              exact pan_fn fun w hh => ⟨_, ⟨s9, by rw [hstep, hinv, show (unp (s.load S.scan)).2.1.toNat - i = ((unp (s.load S.scan)).2.1.toNat - (i + 1)) + 1 by omega, refsN_succ, if_neg hne, hm9]; rfl, rfl, rfl⟩, by rw [← hbdI]; exact hh.dp [1]⟩
            rintro _ _ ⟨r2, s2, hm2, rfl, rfl⟩
            obtain ⟨hS2, hrv2, hsc2, htd2, hdn2, hb2, hbd2, hc2, hto2, hfr2, hms2⟩ := copied_w hSI hm2
            have hu2 := (copied_u64 huI hm2).1
            refine p_nil ?_; refine go_colf (fun w hh => by have h5 := col_f hh; rw [hbd2, hsc2] at h5; exact h5) ?_
            refine v_val rfl rfl rfl (ev_conv Tryz.runUnderlying3 Tryz.runUnderlying52 rfl (wru64 (by omega))) .free rfl ?_; refine v_mark rfl rfl ?_
            refine p_call rfl (en_f Tryz.call70 rfl) (up_at (fun Fr => nstore_ok _ Fr _ _ _ _)) .free rfl rfl ?_ ?_
            rotate_left
            · rintro _ _ ⟨s9, ⟨hm9, rfl⟩, rfl⟩
              exact pan_fn fun w hh => ⟨_, ⟨s9, by rw [hstep, hinv, show (unp (s.load S.scan)).2.1.toNat - i = ((unp (s.load S.scan)).2.1.toNat - (i + 1)) + 1 by omega, refsN_succ, if_neg hne, hm2]; simp only [then_ok]; rw [hm9]; rfl, rfl, rfl⟩, by rw [← hbdI]; exact (hh.dp [0, 1])⟩
            rintro _ _ ⟨s3, ⟨e3, hm3, rfl⟩, rfl⟩
            refine p_nil ?_; refine v_off rfl ?_; refine v_nil ?_; refine go_sub (σ' := [(62, _), (61, _), (3, _), (2, _), (0, _)]) ⟨rfl, rfl, rfl, rfl, rfl, trivial⟩ ?_; refine g_region ?_
            first | refine p_val rfl (ev_add rfl rfl (wr64 (by omega))) .free rfl rfl ?_ | refine p_val rfl (ev_add rfl rfl rfl) .free rfl rfl ?_
            refine kPm rfl rfl ?_; refine p_nil ?_
            exact fun a w st_ => ⟨(i + 1, r2.2, s3), ⟨by first | omega | (simp only; omega), hS2, (store_u64 hu2 (by omega) hm3).1, htd2.trans htdI, hdn2.trans hdI, hbd2.trans hbdI, hsc2.trans hscI0, by rw [hinv, show (unp (s.load S.scan)).2.1.toNat - i = ((unp (s.load S.scan)).2.1.toNat - (i + 1)) + 1 by omega, refsN_succ, if_neg hne, hm2]; simp only [then_ok]; rw [hm3]; rfl⟩, by first | omega | (simp only; omega), st_.to ⟨rfl, rfl, rfl, rfl, rfl, trivial⟩ (fun hh => (by first | exact (hh.pk [2]) | (simp only [hbd2]; exact (hh.pk [2]))))⟩
          · have hne : sI.load (SI.scan + 1 + i) = 0 := by simpa using h78
            refine g_skip ?_; refine g_region ?_
            first | refine p_val rfl (ev_add rfl rfl (wr64 (by omega))) .free rfl rfl ?_ | refine p_val rfl (ev_add rfl rfl rfl) .free rfl rfl ?_
            refine kPm rfl rfl ?_; refine p_nil ?_
            exact fun a w st_ => ⟨(i + 1, SI, sI), ⟨by first | omega | (simp only; omega), hSI, huI, htdI, hdI, hbdI, hscI0, by rw [hinv, show (unp (s.load S.scan)).2.1.toNat - i = ((unp (s.load S.scan)).2.1.toNat - (i + 1)) + 1 by omega, refsN_succ, if_pos hne]; rfl⟩, by first | omega | (simp only; omega), st_.to ⟨rfl, rfl, rfl, rfl, rfl, trivial⟩ (fun hh => (by first | exact (hh.pk [1]) | (simp only [hbd2]; exact (hh.pk [1]))))⟩
        · have hi : ¬ (i : Int) < (unp (s.load S.scan)).2.1 := by simpa using h63
          have hscI := hSI.scan
          refine g_exit ?_; refine go_pk [1] ?_; refine go_col fun rsv3 tsv3 mw3 hrsv3 htsv3 => ?_; refine g_drawt 9 Tryz.mixed (by kernel_rfl) (by kernel_rfl) ?_; refine kQm rfl rfl ?_
          first | refine kQv (ev_nil rfl) rfl ?_ | refine kQv (ev_nilf rfl) rfl ?_
          refine kQv (ev_fa (m := _) fa_115_4 rfl rfl) rfl ?_; refine kQv (ev_load Tryz.isAgg3 rfl rfl) rfl ?_; refine kQv (ev_loadA Tryz.isAgg87 Tryz.sizeOf87 rfl rfl) rfl ?_; refine q_call rfl (en_f Tryz.call52 rfl) (hsize_ok _ _ _ _ (by omega)) .free rfl ?_
          first | refine q_val rfl (ev_add rfl rfl (wr64 (by omega))) .free rfl ?_ | refine q_val rfl (ev_add rfl rfl rfl) .free rfl ?_
          first | refine kQv (ev_nil rfl) rfl ?_ | refine kQv (ev_nilf rfl) rfl ?_
          refine kQv (ev_fa (m := _) fa_115_4 rfl rfl) rfl ?_; refine q_nil ?_; refine p_chg0 rfl (ch_store Tryz.sizeOf3 rfl rfl rfl rfl) .free rfl ?_
          rintro _ _ rfl
          refine p_nil ?_; refine go_sub (σ' := [(2, _), (0, _)]) ⟨rfl, rfl, trivial⟩ ?_; refine g_seq ?_; refine g_region ?_; refine kPm rfl rfl ?_
          first | refine kPv (ev_nil rfl) rfl ?_ | refine kPv (ev_nilf rfl) rfl ?_
          refine kPv (ev_fa (m := _) fa_115_8 rfl rfl) rfl ?_; refine kPv (ev_load Tryz.isAgg4 rfl rfl) rfl ?_; refine kPa rfl rfl ?_; refine p_nil ?_; refine g_ret ?_
          exact ret_tmp Tryz.results74 rfl (fun w hh => ⟨_, ⟨_, _, by rw [hstep, hinv, show (unp (s.load S.scan)).2.1.toNat - i = 0 by omega]; rfl, by rw [hdI, hdone], rfl⟩, by rw [← hbdI]; exact col_holds (S := { SI with scan := SI.scan + ((unp (s.load S.scan)).1 + 1) }) hrsv3 htsv3 (hh.dp [4])⟩)
      · have hlt : ¬ S.scan < S.free := by simpa using h37
        refine go_conv (fun w hh => col_holds hrsv htsv hh) ?_; refine g_region ?_; refine kPm rfl rfl ?_
        refine p_call rfl (en_f Tryz.call106 rfl) (ckeep_ok B _ x S hS s hu) .free rfl rfl ?_ ?_
        rotate_left
        · rintro _ _ ⟨s9, hm9, rfl, rfl⟩
          exact pan_fn fun w hh => ⟨_, ⟨s9, by unfold ColS.step; rw [if_neg (by rw [hdone]; decide)]; simp only [htd]; rw [if_neg hlt, hm9]; rfl, rfl, rfl⟩, hh⟩
        rintro _ _ ⟨r1, s1, hm1, rfl, rfl⟩
        refine go_col fun rsv4 tsv4 mw4 hrsv4 htsv4 => ?_; refine p_nil ?_; refine g_seq ?_; refine g_region ?_; refine kPm rfl rfl ?_
        first | refine kPv (ev_nil rfl) rfl ?_ | refine kPv (ev_nilf rfl) rfl ?_
        refine kPv (ev_fa (m := _) fa_115_8 rfl rfl) rfl ?_; refine kPv (ev_load Tryz.isAgg4 rfl rfl) rfl ?_; refine kPa rfl rfl ?_; refine p_nil ?_; refine go_sub (σ' := [(2, _)]) ⟨rfl, trivial⟩ ?_; refine g_ret ?_
        exact ret_tmp Tryz.results74 rfl (fun w hh => ⟨_, ⟨(true, { S with done := true }), s1, by unfold ColS.step; rw [if_neg (by rw [hdone]; decide)]; simp only [htd]; rw [if_neg hlt, hm1]; rfl, rfl, rfl⟩, col_holds (S := { S with done := true }) hrsv4 htsv4 hh⟩)
end Go.Proofs.YtbfheafpecgphaaGreat
