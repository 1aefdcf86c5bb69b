/- What is named: what From and Size do. Conditions: none. -/
import Derived.Test.YtbfheafpecgphaaGreatWst
import Derived.Test.YtbfheafpecgphaaGreatVeg
set_option linter.unusedSimpArgs false
set_option linter.unusedVariables false
set_option linter.unnecessarySimpa false
set_option linter.unusedSectionVars false
namespace Go.Proofs.YtbfheafpecgphaaGreat
set_option linter.unusedSimpArgs false
set_option linter.unusedVariables false
open Go
abbrev enc3 (o : Obj3) : List Value := [i64 o.1, i64 o.2.1, i64 o.2.2]
theorem enc3_w : EncW 3 enc3 := ⟨fun _ => rfl, fun _ => rfl⟩
theorem mval_i (o : Option Int) : mval i64 (i64 0) o = i64 (o.getD 0) := by cases o <;> rfl
abbrev SeenS := List (Int × Unit) × List Obj3
def Dev.see (s : Dev) (c : Cfg) (b : Blk) (x : SeenS) (v : Int) : SeenS :=
  if (mget x.1 v).isSome = true ∨ b.has c v = false then x
  else if (s.objOf c b v).2 = 0 then (mset x.1 v (), x.2 ++ [(s.objOf c b v).1]) else x
/-- What an object names, as words. -/
def Dev.namesOf (s : Dev) (o : Obj3) : List Int := (s.objNames o o.2.1.toNat 0).map fun p => IntKind.u64.wrap p.2
/-- Objects one behind the other: each is told; then what it names is put behind. -/
def Dev.reachL (s : Dev) (c : Cfg) (b : Blk) : Nat → SeenS → List Obj3
  | 0, _ => []
  | f + 1, x => match x.2 with
    | [] => []
    | o :: t => o :: s.reachL c b f ((s.namesOf o).foldl (s.see c b) (x.1, t))
def Dev.reach (s : Dev) (c : Cfg) (b : Blk) (ws : List Int) : List Obj3 := s.reachL c b (b.used.toNat + 1) (ws.foldl (s.see c b) ([], []))
/-- What is seen: words of the space, each once; rows of objects that may be. -/
structure SeenW (s : Dev) (c : Cfg) (b : Blk) (x : SeenS) : Prop where
  nd : (x.1.map Prod.fst).Nodup
  rng : ∀ k ∈ x.1.map Prod.fst, c.frm b.act ≤ k ∧ k < c.frm b.act + b.used
  obj : ∀ o ∈ x.2, ObjW o
theorem seen_w0 {s : Dev} {c : Cfg} {b : Blk} : SeenW s c b ([], []) := ⟨List.nodup_nil, fun _ h => (by cases h), fun _ h => (by cases h)⟩
theorem mset_none {α : Type} {l : List (Int × α)} {k : Int} {a : α} (h : mget l k = none) : mset l k a = l ++ [(k, a)] := by
  induction l with
  | nil => rfl
  | cons p t ih =>
    unfold mget at h
    split at h
    · cases h
    · rename_i hp; unfold mset; rw [if_neg hp, ih h]; rfl
theorem see_w {s : Dev} {c : Cfg} (hc : CfgW c) {b : Blk} (hb : BlkW c b) {x : SeenS} (h : SeenW s c b x) (v : Int) : SeenW s c b (s.see c b x v) := by
  unfold Dev.see
  split
  · exact h
  split
  · rename_i h1 h2
    have h3 : mget x.1 v = none := by cases hm : mget x.1 v with
      | none => rfl
      | some _ => exact absurd (.inl (by rw [hm]; rfl)) h1
    have h4 : b.has c v = true := by cases hm : b.has c v with
      | true => rfl
      | false => exact absurd (.inr hm) h1
    have h5 := bhas_b hc hb h4
    rw [mset_none h3]
    refine ⟨?_, fun k hk => ?_, fun o ho => ?_⟩
    · rw [List.map_append, List.nodup_append]
      exact ⟨h.nd, by simp, fun a ha b' hb' => by simp at hb'; subst hb'; intro e; subst e; exact mget_none h3 ha⟩
    · rw [List.map_append, List.mem_append] at hk
      rcases hk with hk | hk
      · exact h.rng k hk
      · simp at hk; subst hk; omega
    · rcases List.mem_append.1 ho with ho | ho
      · exact h.obj o ho
      · rw [List.mem_singleton.1 ho]; exact objOf_w hc hb h2
  · exact h
theorem foldsee_w {s : Dev} {c : Cfg} (hc : CfgW c) {b : Blk} (hb : BlkW c b) : ∀ (l : List Int) {x : SeenS}, SeenW s c b x → SeenW s c b (l.foldl (s.see c b) x)
  | [], _, h => h
  | v :: t, _, h => foldsee_w hc hb t (see_w hc hb h v)
/-- Numbers of a range, unlike: no more than the range has. -/
theorem nodup_len : ∀ (n : Nat) (a : Int) (l : List Int), l.Nodup → (∀ k ∈ l, a ≤ k ∧ k < a + n) → l.length ≤ n
  | 0, a, l, _, h => by
    cases l with
    | nil => exact Nat.le_refl 0
    | cons x t => have := h x (List.mem_cons_self ..); omega
  | n + 1, a, l, hn, h => by
    have h1 := nodup_len n a (l.erase (a + n)) (hn.erase _) fun k hk => by
      have h2 := h k (List.mem_of_mem_erase hk)
      have h3 : k ≠ a + n := fun e => by subst e; exact (List.Nodup.not_mem_erase hn) hk
      omega
    have h4 : l.length ≤ (l.erase (a + n)).length + 1 := by rw [List.length_erase]; split <;> omega
    omega
theorem seen_len {s : Dev} {c : Cfg} {b : Blk} (hb : BlkW c b) {x : SeenS} (h : SeenW s c b x) : x.1.length ≤ b.used.toNat := by
  have h1 := hb.used
  have := nodup_len b.used.toNat (c.frm b.act) _ h.nd fun k hk => by have := h.rng k hk; omega
  simpa using this
/-- How many rounds are left, at most. -/
def seenM (b : Blk) (x : SeenS) : Nat := b.used.toNat + x.2.length - x.1.length
theorem see_m {s : Dev} {c : Cfg} {b : Blk} (x : SeenS) (v : Int) : (s.see c b x v).2.length + x.1.length = x.2.length + (s.see c b x v).1.length := by
  unfold Dev.see
  split
  · omega
  split
  · rename_i h1 h2
    have h3 : mget x.1 v = none := by cases hm : mget x.1 v with
      | none => rfl
      | some _ => exact absurd (.inl (by rw [hm]; rfl)) h1
    rw [mset_none h3]; simp; omega
  · omega
theorem foldsee_m {s : Dev} {c : Cfg} {b : Blk} : ∀ (l : List Int) (x : SeenS), (l.foldl (s.see c b) x).2.length + x.1.length = x.2.length + (l.foldl (s.see c b) x).1.length
  | [], _ => rfl
  | v :: t, x => by
    have h1 := foldsee_m (s := s) (c := c) (b := b) t (s.see c b x v)
    have h2 := see_m (s := s) (c := c) (b := b) x v
    rw [List.foldl_cons]; omega

theorem see_ok (B : World) (Fr : List HP) (c1 c2 c3 c4 c5 mr bd : Nat) (s : Dev) (c : Cfg) (hc : CfgW c) (b : Blk) (sv : Value) (hb : BlkW c b) (hsv : cell1 sv = true) (x : SeenS) (hxl : x.2.length ≤ 1000000) (v : Int) (hv : 0 ≤ v ∧ v < 18446744073709551616) :
    ∀ w, Holds B (row c1 [.map (some mr)] 185 :: row c2 [i64 b.act, i64 b.used, sv] 33 :: row c3 [i64 c.log, i64 c.roots, i64 c.space] 30 :: row c4 [ptr bd] 28 :: VarG 186 89 3 enc3 c5 x.2 :: mapA .u64 unitE mr x.1 :: DevA bd s :: Fr) w → Calls Tryz.prog 128 [w64 v, ptr c1, ptr c2, ptr c3, ptr c4, ptr c5].toArray w (Ret B (fun _ H' => H' = row c1 [.map (some mr)] 185 :: row c2 [i64 b.act, i64 b.used, sv] 33 :: row c3 [i64 c.log, i64 c.roots, i64 c.space] 30 :: row c4 [ptr bd] 28 :: VarG 186 89 3 enc3 c5 (s.see c b x v).2 :: mapA .u64 unitE mr (s.see c b x v).1 :: DevA bd s :: Fr) (fun _ _ => False)) := by
  refine fn_enter Tryz.func128 rfl Tryz.ntmps128 rfl ?_; refine g_seq ?_; refine g_seq ?_; refine g_region ?_; refine kPv (ev_load Tryz.isAgg185 rfl rfl) rfl ?_; refine kPm rfl rfl ?_; refine kPv ((ev_lookup2 Tryz.runUnderlying185 Tryz.runUnderlying52 Tryz.zeroValue142 rfl rfl).eq (lk_unit _)) rfl ?_; refine kPm rfl rfl ?_; refine kPv (ev_ext rfl rfl) rfl ?_; refine kPv (ev_ext rfl rfl) rfl ?_; refine p_chg rfl (ch_allocA Tryz.zeroValue142 rfl) .free rfl rfl ?_
  rintro _ _ ⟨b7, rfl, rfl⟩
  refine p_chg0 rfl (ch_storeA (vs := []) Tryz.sizeOf142 rfl rfl rfl rfl rfl) .free rfl ?_
  rintro _ _ rfl
  refine kPa rfl rfl ?_; refine p_nil ?_; refine go_sub (σ' := [(8, _), (0, _), (1, _), (2, _), (3, _), (4, _), (5, _)]) ⟨rfl, rfl, rfl, rfl, rfl, rfl, rfl, trivial⟩ ?_; refine g_seq ?_; refine g_region ?_; refine kPm rfl rfl ?_; refine kPm rfl rfl ?_
  apply p_or (tp := 24) (t := 18) (σ1 := [(18, _), (0, _), (1, _), (2, _), (3, _), (4, _), (5, _)]) 6 rfl ⟨rfl, rfl, rfl, rfl, rfl, rfl, rfl, trivial⟩
  · intro hg1
    refine p_val rfl (ev_loadA Tryz.isAgg33 Tryz.sizeOf33 rfl rfl) (.on rfl rfl (beq_eq hg1)) rfl rfl ?_; refine p_val rfl (ev_loadA Tryz.isAgg30 Tryz.sizeOf30 rfl rfl) (.on rfl rfl (beq_eq hg1)) rfl rfl ?_; refine p_val rfl (ev_move rfl) (.on rfl rfl (beq_eq hg1)) rfl rfl ?_; refine p_callq rfl (en_f Tryz.call82 rfl) (has_ok _ _ c hc b sv hb hsv _ hv) (.on rfl rfl (beq_eq hg1)) rfl rfl ?_; refine p_val rfl (ev_not rfl) (.on rfl rfl (beq_eq hg1)) rfl rfl ?_
    refine kPv (ev_pick_f rfl hg1 rfl) rfl ?_
    exact p_seg rfl ⟨rfl, rfl, rfl, rfl, rfl, rfl, rfl, trivial⟩ (or_f hg1)
  · intro hg1
    refine p_skip rfl (.on rfl rfl (beq_ne hg1)) rfl ?_; refine p_skip rfl (.on rfl rfl (beq_ne hg1)) rfl ?_; refine p_skip rfl (.on rfl rfl (beq_ne hg1)) rfl ?_; refine p_skip rfl (.on rfl rfl (beq_ne hg1)) rfl ?_; refine p_skip rfl (.on rfl rfl (beq_ne hg1)) rfl ?_; refine kPv (ev_pick_t rfl hg1 rfl) rfl ?_
    exact p_seg rfl ⟨rfl, rfl, rfl, rfl, rfl, rfl, rfl, trivial⟩ (or_t hg1)
  refine p_nil ?_
  refine g_if rfl (fun h24 => ?_) (fun h24 => ?_)
  · have h1 : (mget x.1 v).isSome = true ∨ b.has c v = false := by simpa using h24
    have hres : s.see c b x v = x := by unfold Dev.see; rw [if_pos h1]
    refine g_ret ?_
    exact ret_none Tryz.results128 (fun w hh => ⟨_, rfl, by rw [hres]; exact (hh.dp [0])⟩)
  · have h1 : ¬((mget x.1 v).isSome = true ∨ b.has c v = false) := by simpa using h24
    have hh0 : b.has c v = true := by cases hm : b.has c v with
      | true => rfl
      | false => exact absurd (.inr hm) h1
    have hvb := bhas_b hc hb hh0
    refine g_skip ?_; refine g_seq ?_; refine g_region ?_; refine kPv (ev_load Tryz.isAgg28 rfl rfl) rfl ?_; refine kPv (ev_loadA Tryz.isAgg30 Tryz.sizeOf30 rfl rfl) rfl ?_; refine kPv (ev_loadA Tryz.isAgg33 Tryz.sizeOf33 rfl rfl) rfl ?_; refine kPm rfl rfl ?_
    first | refine p_val rfl (ev_conv Tryz.runUnderlying52 Tryz.runUnderlying3 rfl (wr64 (by omega))) .free rfl rfl ?_ | refine p_val rfl (ev_conv Tryz.runUnderlying52 Tryz.runUnderlying3 rfl rfl) .free rfl rfl ?_
    refine p_callq rfl (en_f Tryz.call51 rfl) (ro_at (q := DevA) (fun Fr => obj_ok _ Fr _ _ c hc b sv hb hsv v (by omega))) .free rfl rfl ?_; refine kPm rfl rfl ?_; refine kPv (ev_ext rfl rfl) rfl ?_; refine kPv (ev_ext rfl rfl) rfl ?_; refine p_chg rfl (ch_allocA Tryz.zeroValue89 rfl) .free rfl rfl ?_
    rintro _ _ ⟨b9, rfl, rfl⟩
    refine p_chg0 rfl (ch_storeA (vs := _) Tryz.sizeOf89 rfl rfl rfl rfl rfl) .free rfl ?_
    rintro _ _ rfl
    refine kPa rfl rfl ?_; refine p_nil ?_; refine go_sub (σ' := [(10, _), (9, _), (0, _), (1, _), (5, _)]) ⟨rfl, rfl, rfl, rfl, rfl, trivial⟩ ?_; refine g_seq ?_; refine g_region ?_; refine kPm rfl rfl ?_; refine kPv (ev_cmp rfl rfl rfl) rfl ?_; refine p_nil ?_
    refine g_if rfl (fun h35 => ?_) (fun h35 => ?_)
    · have h2 : (s.objOf c b v).2 = 0 := by simpa using h35
      have hres : s.see c b x v = (mset x.1 v (), x.2 ++ [(s.objOf c b v).1]) := by unfold Dev.see; rw [if_neg h1, if_pos h2]
      refine g_seq ?_; refine g_region ?_; refine kPv (ev_load Tryz.isAgg185 rfl rfl) rfl ?_; refine kPm rfl rfl ?_; refine kPv (ev_build rfl (bld_142)) rfl ?_; refine p_chg0 rfl (ch_mapset (enc := unitE) (u := ()) Tryz.runUnderlying185 Tryz.runUnderlying52 rfl rfl rfl rfl) .free rfl ?_
      rintro _ _ rfl
      refine p_nil ?_; refine go_sub (σ' := [(9, _), (5, _)]) ⟨rfl, rfl, trivial⟩ ?_; refine g_region ?_; refine go_pk [6] ?_; refine go_varg fun rv hrv => ?_; refine kPv (ev_load Tryz.isAgg186 rfl rfl) rfl ?_; refine kPv (ev_loadA Tryz.isAgg89 Tryz.sizeOf89 rfl rfl) rfl ?_; refine p_chg rfl (ch_bsG enc3_w (v := (s.objOf c b v).1) Tryz.runUnderlying186 Tryz.sizeOf89 Tryz.zeroValue89 ⟨⟨by decide, by decide⟩, rfl⟩ rfl rfl) .free rfl rfl ?_
      rintro _ _ ⟨b41, rfl, rfl⟩
      refine go_pk [2] ?_; refine p_chg rfl (ch_append_vecg enc3_w (ys := [(s.objOf c b v).1]) rfl rfl Tryz.runUnderlying186 Tryz.runUnderlying186 ⟨_, rfl⟩ Tryz.sizeOf89 Tryz.zeroValue89 rfl tb_89 rfl rfl (SlM.row (b := b41) rfl rfl) (Nat.succ_pos _) (by simp; omega)) .free rfl rfl ?_
      rintro rv2 _ ⟨hrv2, rfl⟩
      refine p_chg0 rfl (ch_store Tryz.sizeOf186 rfl rfl (by first | rfl | assumption) rfl) .free rfl ?_
      rintro _ _ rfl
      refine p_nil ?_
      exact end_none Tryz.results128 (fun w hh => ⟨_, rfl, by rw [hres]; exact (varg_holds hrv2 ((hh.dp [1, 2, 2]).pk [1])).pk [1, 1, 1, 1]⟩)
    · have h2 : ¬ (s.objOf c b v).2 = 0 := by simpa using h35
      have hres : s.see c b x v = x := by unfold Dev.see; rw [if_neg h1, if_neg h2]
      refine g_skip ?_
      exact end_none Tryz.results128 (fun w hh => ⟨_, rfl, by rw [hres]; exact (hh.dp [0, 0])⟩)


theorem itl_true {α ι : Type} {f : ι → α → ι} : ∀ (l : List α) (x : ι), itl (fun p x => (true, f x p)) l x = (true, l.foldl f x)
  | [], _ => rfl
  | a :: t, x => by unfold itl; rw [if_pos rfl]; exact itl_true t _
theorem itl_pos {α ι : Type} {st : α → ι → Bool × ι} {a : α} {t : List α} {x : ι} (h : (st a x).1 = true) : itl st (a :: t) x = itl st t (st a x).2 := by
  conv => lhs; unfold itl
  rw [if_pos h]
theorem u64i64 {v : Int} (h : 0 ≤ v ∧ v < 18446744073709551616) : IntKind.u64.wrap (IntKind.i64.wrap v) = v := by
  simp [IntKind.wrap, IntKind.bits, IntKind.signed]
  split <;> omega
theorem u64w_b (v : Int) : 0 ≤ IntKind.u64.wrap v ∧ IntKind.u64.wrap v < 18446744073709551616 := by
  simp [IntKind.wrap, IntKind.bits, IntKind.signed]
  omega
theorem reachL_nil {s : Dev} {c : Cfg} {b : Blk} {x : SeenS} (h : x.2 = []) : ∀ n, s.reachL c b n x = []
  | 0 => rfl
  | n + 1 => by unfold Dev.reachL; rw [h]

theorem wfrom1_ok (B : World) (E : List HP) (l f b1 b2 b3 b4 bd : Nat) (c : Cfg) (hc : CfgW c) (b : Blk) (sv : Value) (hb : BlkW c b) (hsv : cell1 sv = true) (s : Dev) (q : Option Addr) (cap : Nat) (ws : List Int) (hws : ∀ v ∈ ws, 0 ≤ v ∧ v < 18446744073709551616) (hwn : ws.length ≤ 1000000) (hwq : ∀ i, i < ws.length → ∃ b off, q = some ⟨b, off, none⟩) (ι : Type) (r : Loop) (hrf : r.fn = f) (hrp : r.params.size = 1) (I : ι → Prop) (Hx : ι → List HP) (cd : ι → Code) (st : Obj3 → ι → Bool × ι) (y0 : ι) (h0 : I y0) (hwl : SlR B (Hx y0 ++ E) (.slice q ws.length cap) (ws.map w64)) (hround : ∀ (p : Obj3) (x : ι), ObjW p → I x → I (st p x).2 ∧ ∀ (E : List HP) w, Holds B (blk l (.loop r) :: DevA bd s :: (Hx x ++ E)) w → RoundIn (Wd (cxF f)) 0 Tryz.prog l f ((r.params.zip [objV p].toArray).foldl (fun tmps (t, a) => tmps.setIfInBounds t a) r.tmps) r.assign r.body w (Ret B (fun rv H' => rv = .bool (st p x).1 ∧ H' = blk l (.loop (lst r cd (st p x))) :: DevA bd s :: (Hx (st p x).2 ++ E)) (fun _ _ => False))) :
    ∀ w, Holds B (blk l (.loop r) :: row b1 [i64 b.act, i64 b.used, sv] 33 :: row b2 [i64 c.log, i64 c.roots, i64 c.space] 30 :: row b3 [ptr bd] 28 :: row b4 [.slice q ws.length cap] 31 :: DevA bd s :: (Hx y0 ++ E)) w → Calls Tryz.prog 127 [.func (.yield l) #[] #[], ptr b1, ptr b2, ptr b3, ptr b4].toArray w (Ret B (fun _ H' => I (itl st (s.reach c b ws) y0).2 ∧ H' = blk l (.loop (lst r cd (itl st (s.reach c b ws) y0))) :: DevA bd s :: (Hx (itl st (s.reach c b ws) y0).2 ++ E)) (fun _ _ => False)) := by
  refine fn_enter_m Tryz.func127 rfl Tryz.ntmps127 rfl ?_
  have hbu := hb.used
  have hcs := hc.s2
  refine g_seq ?_; refine g_region ?_; refine p_chg rfl (ch_makeMap .u64 unitE) .free rfl rfl ?_
  rintro _ _ ⟨mr, rfl, rfl⟩
  refine p_chg rfl (ch_alloc1 Tryz.zeroValue185 rfl) .free rfl rfl ?_
  rintro _ _ ⟨b6, rfl, rfl⟩
  refine p_chg0 rfl (ch_store Tryz.sizeOf185 rfl rfl (by first | rfl | assumption) rfl) .free rfl ?_
  rintro _ _ rfl
  refine p_nil ?_; refine g_seq ?_; refine g_region ?_; refine p_chg rfl (ch_alloc1 Tryz.zeroValue186 rfl) .free rfl rfl ?_
  rintro _ _ ⟨b7, rfl, rfl⟩
  refine go_conv (fun w hh => varg_nil (α := Obj3) (T := 89) (m := 3) (enc := enc3) hh) ?_; refine p_nil ?_; refine g_seq ?_; refine g_region ?_; refine kPv (ev_mkf rfl rfl) rfl ?_; refine p_chg rfl (ch_alloc1 Tryz.zeroValue151 rfl) .free rfl rfl ?_
  rintro _ _ ⟨b8, rfl, rfl⟩
  refine p_chg0 rfl (ch_store Tryz.sizeOf151 rfl rfl (by first | rfl | assumption) rfl) .free rfl ?_
  rintro _ _ rfl
  refine p_nil ?_; refine g_seq ?_; refine g_seq ?_; refine g_region ?_; refine kPv (ev_load Tryz.isAgg31 rfl rfl) rfl ?_; refine kPv (ev_len rfl Tryz.runUnderlying31 ⟨_, rfl⟩ rfl) rfl ?_; refine kPm rfl rfl ?_; refine p_nil ?_; refine g_block ?_
  refine g_loopk (ι := Nat × SeenS) [17, 16, 8, 7, 0, 3] (fun (k, x) => (k ≤ ws.length) ∧ (x = (ws.take k).foldl (s.see c b) ([], [])) ∧ (SeenW s c b x) ∧ (x.2.length ≤ x.1.length)) (fun (k, x) => [(18, i64 k)]) (fun (k, x) => row b6 [.map (some mr)] 185 :: row b1 [i64 b.act, i64 b.used, sv] 33 :: row b2 [i64 c.log, i64 c.roots, i64 c.space] 30 :: row b3 [ptr bd] 28 :: VarG 186 89 3 enc3 b7 x.2 :: mapA .u64 unitE mr x.1 :: DevA bd s :: row b8 [.func (.func 128) #[] #[ptr b6, ptr b1, ptr b2, ptr b3, ptr b7]] 151 :: blk l (.loop r) :: row b4 [.slice q ws.length cap] 31 :: (Hx y0 ++ E)) (fun (k, x) => ws.length - k) (0, ([], [])) (⟨Nat.zero_le _, rfl, seen_w0, Nat.le_refl _⟩) (fun a w st => st.to ⟨rfl, trivial⟩ (fun hh => (hh.pk [2, 4, 4, 4, 1, 1, 3]))) ?_
  rintro ⟨k, x⟩ ⟨hk0, hxe, hxw, hxl⟩
  try simp only at hk0 hxe hxw hxl ⊢
  refine go_sub (σ' := [(18, i64 k), (17, _), (16, _), (8, _), (7, _), (0, _), (3, _)]) ⟨rfl, rfl, rfl, rfl, rfl, rfl, rfl, trivial⟩ ?_; refine g_seq ?_; refine g_region ?_; refine kPv (ev_cmp rfl rfl rfl) rfl ?_; refine p_nil ?_; refine g_seq ?_
  refine g_if rfl (fun h19 => ?_) (fun h19 => ?_)
  · have hk : k < ws.length := by simp at h19; omega
    obtain ⟨bq, oq, rfl⟩ := hwq k hk
    have hsl := seen_len hb hxw
    refine g_skip ?_; refine g_seq ?_; refine g_block ?_; refine g_seq ?_; refine g_region ?_; refine kPv (ev_iaS Tryz.runUnderlying31 Tryz.sizeOf52 rfl rfl (by omega) (by omega)) rfl ?_
    refine kPv (ev_loadS (v := w64 ws[k]) Tryz.isAgg52 (hwl.up) rfl (by rw [Int.toNat_natCast, List.getElem?_map, List.getElem?_eq_getElem hk]; rfl)) rfl ?_
    refine kPa rfl rfl ?_; refine p_nil ?_; refine g_region ?_; refine kPv (ev_load Tryz.isAgg151 rfl rfl) rfl ?_; refine kPm rfl rfl ?_
    refine p_call rfl (en_c Tryz.call128 rfl rfl) (see_ok B _ b6 b1 b2 b3 b7 mr bd s c hc b sv hb hsv x (by omega) ws[k] (hws _ (List.getElem_mem hk))) .free rfl rfl ?_ ?_
    rotate_left
    · rintro _ _ ⟨⟩
    rintro _ _ rfl
    have hm1 := see_m (s := s) (c := c) (b := b) x ws[k]
    refine p_nil ?_; refine go_sub (σ' := [(18, _), (17, _), (16, _), (8, _), (7, _), (0, _), (3, _)]) ⟨rfl, rfl, rfl, rfl, rfl, rfl, rfl, trivial⟩ ?_; refine g_region ?_
    first | refine p_val rfl (ev_add rfl rfl (wr64 (by omega))) .free rfl rfl ?_ | refine p_val rfl (ev_add rfl rfl rfl) .free rfl rfl ?_
    refine kPm rfl rfl ?_; refine p_nil ?_
    exact fun a w st_ => ⟨(k + 1, (s.see c b x ws[k])), ⟨by omega, by rw [hxe, List.take_succ_eq_append_getElem hk, List.foldl_append]; rfl, see_w hc hb hxw _, by simp only; omega⟩, by simp only; omega, st_.to ⟨rfl, rfl, rfl, rfl, rfl, rfl, rfl, trivial⟩ (fun hh => hh)⟩
  · have hk : ¬ k < ws.length := by simp at h19; omega
    obtain rfl : k = ws.length := by omega
    rw [List.take_length] at hxe
    refine g_exit ?_; refine g_block ?_
    refine g_loopkD (ι := SeenS × ι × Nat × List Nat) [8, 7, 0, 3] (fun (x, y, n, ms) => (SeenW s c b x) ∧ (x.2.length ≤ x.1.length) ∧ (I y) ∧ (seenM b x < n) ∧ (itl st (s.reach c b ws) y0 = itl st (s.reachL c b n x) y)) (fun (x, y, n, ms) => marksD ms) (fun (x, y, n, ms) => []) (fun (x, y, n, ms) => blk l (.loop r) :: DevA bd s :: row b6 [.map (some mr)] 185 :: row b1 [i64 b.act, i64 b.used, sv] 33 :: row b2 [i64 c.log, i64 c.roots, i64 c.space] 30 :: row b3 [ptr bd] 28 :: VarG 186 89 3 enc3 b7 x.2 :: mapA .u64 unitE mr x.1 :: row b8 [.func (.func 128) #[] #[ptr b6, ptr b1, ptr b2, ptr b3, ptr b7]] 151 :: row b4 [.slice q ws.length cap] 31 :: marksH ms :: (Hx y ++ E)) (fun (x, y, n, ms) => n) (x, y0, b.used.toNat + 1, []) (⟨hxw, hxl, h0, by unfold seenM; omega, by rw [hxe]; rfl⟩) (fun a w st => st.to trivial (fun hh => ((marksH_nil (hh.pk [8, 6])).pk [1, 1, 1, 1, 1, 1, 1, 1, 1, 1]))) ?_
    rintro ⟨x, y, n, ms⟩ ⟨hxw, hxl, hIy, hn, hinv⟩
    try simp only at hxw hxl hIy hn hinv ⊢
    refine go_sub (σ' := [(8, _), (7, _), (0, _), (3, _)]) ⟨rfl, rfl, rfl, rfl, trivial⟩ ?_; refine g_seq ?_; refine g_seq ?_; refine go_pk [6] ?_; refine go_varg fun rv hrv => ?_; refine go_pk [1] ?_; refine go_vecgq fun q2 cap2 hq2 hqi => ?_
    subst hq2
    refine g_region ?_; refine kPv (ev_load Tryz.isAgg186 rfl rfl) rfl ?_; refine kPv (ev_len rfl Tryz.runUnderlying186 ⟨_, rfl⟩ rfl) rfl ?_; refine kPv (ev_cmp rfl rfl rfl) rfl ?_; refine p_nil ?_
    refine g_if rfl (fun h28 => ?_) (fun h28 => ?_)
    · obtain ⟨x1, x2⟩ := x
      obtain ⟨o, t, rfl⟩ : ∃ o t, x2 = o :: t := by
        cases x2 with
        | nil => simp at h28
        | cons o t => exact ⟨o, t, rfl⟩
      obtain ⟨bq2, oq2, rfl⟩ := hqi 0 (Nat.succ_pos _)
      have ho : ObjW o := hxw.obj o (List.mem_cons_self ..)
      obtain ⟨n, rfl⟩ : ∃ m, n = m + 1 := ⟨n - 1, by omega⟩
      have hrl : s.reachL c b (n + 1) (x1, o :: t) = o :: s.reachL c b n ((s.namesOf o).foldl (s.see c b) (x1, t)) := rfl
      have hIy2 := (hround o y ho hIy).1
      simp only at hrv hxl ⊢
      refine g_skip ?_; refine g_block ?_; refine g_seq ?_; refine g_region ?_; refine kPv (ev_load Tryz.isAgg186 rfl rfl) rfl ?_; refine kPv (ev_ia (m := oq2 + 0 * 3) Tryz.runUnderlying186 Tryz.sizeOf89 rfl rfl (by decide) (by simp only [List.length_cons]; omega) rfl) rfl ?_
      refine kPv (ev_loadN (i := 0) Tryz.isAgg89 Tryz.sizeOf89 (vecg_sln enc3_w 0 rfl) rfl rfl) rfl ?_; refine p_chg rfl (ch_allocA Tryz.zeroValue89 rfl) .free rfl rfl ?_
      rintro _ _ ⟨b11, rfl, rfl⟩
      refine p_chg0 rfl (ch_storeA (vs := _) Tryz.sizeOf89 rfl rfl rfl rfl rfl) .free rfl ?_
      rintro _ _ rfl
      refine p_nil ?_; refine g_seq ?_; refine g_region ?_; refine kPv (ev_load Tryz.isAgg186 rfl rfl) rfl ?_; refine go_pk [1] ?_; refine p_chg rfl (ch_tail_vecg enc3_w (v := o) (xs := t) Tryz.runUnderlying186 Tryz.sizeOf89 rfl rfl) .free rfl rfl ?_
      rintro rv3 _ ⟨hrv3, rfl⟩
      refine p_chg0 rfl (ch_store Tryz.sizeOf186 rfl rfl (by first | rfl | assumption) rfl) .free rfl ?_
      rintro _ _ rfl
      refine p_nil ?_; refine go_sub (σ' := [(11, _), (8, _), (7, _), (0, _), (3, _)]) ⟨rfl, rfl, rfl, rfl, rfl, trivial⟩ ?_; refine g_seq ?_; refine g_seq ?_; refine go_pk [2, 0] ?_; refine go_conv (fun w hh => varg_holds hrv3 hh) ?_; refine go_pk [2, 2, 1, 1, 1, 1, 1] ?_; refine g_region ?_; refine kPm rfl rfl ?_; refine kPv (ev_loadA Tryz.isAgg89 Tryz.sizeOf89 rfl rfl) rfl ?_
      refine p_yield (f := f) (r := r) (H1 := DevA bd s :: (Hx y ++ ([row b11 [i64 o.1, i64 o.2.1, i64 o.2.2] 89, row b6 [.map (some mr)] 185, row b1 [i64 b.act, i64 b.used, sv] 33, row b2 [i64 c.log, i64 c.roots, i64 c.space] 30, row b3 [ptr bd] 28, VarG 186 89 3 enc3 b7 t, mapA .u64 unitE mr x1, row b8 [.func (.func 128) #[] #[ptr b6, ptr b1, ptr b2, ptr b3, ptr b7]] 151, row b4 [.slice q ws.length cap] 31, marksH ms] ++ E))) rfl rfl (fun w hh => (Holds.hop [row b11 [i64 o.1, i64 o.2.1, i64 o.2.2] 89, row b6 [.map (some mr)] 185, row b1 [i64 b.act, i64 b.used, sv] 33, row b2 [i64 c.log, i64 c.roots, i64 c.space] 30, row b3 [ptr bd] 28, VarG 186 89 3 enc3 b7 t, mapA .u64 unitE mr x1, row b8 [.func (.func 128) #[] #[ptr b6, ptr b1, ptr b2, ptr b3, ptr b7]] 151, row b4 [.slice q ws.length cap] 31, marksH ms] (Hx y) hh)) (by rw [hrp]; rfl) hrf ((hround o y ho hIy).2 ([row b11 [i64 o.1, i64 o.2.1, i64 o.2.2] 89, row b6 [.map (some mr)] 185, row b1 [i64 b.act, i64 b.used, sv] 33, row b2 [i64 c.log, i64 c.roots, i64 c.space] 30, row b3 [ptr bd] 28, VarG 186 89 3 enc3 b7 t, mapA .u64 unitE mr x1, row b8 [.func (.func 128) #[] #[ptr b6, ptr b1, ptr b2, ptr b3, ptr b7]] 151, row b4 [.slice q ws.length cap] 31, marksH ms] ++ E)) .free rfl ?_ ?_
      rotate_left
      · rintro _ _ ⟨⟩
      rintro _ _ ⟨rfl, rfl⟩
      refine go_conv (H' := blk l (.loop (lst r cd (st o y))) :: DevA bd s :: ([row b11 [i64 o.1, i64 o.2.1, i64 o.2.2] 89, row b6 [.map (some mr)] 185, row b1 [i64 b.act, i64 b.used, sv] 33, row b2 [i64 c.log, i64 c.roots, i64 c.space] 30, row b3 [ptr bd] 28, VarG 186 89 3 enc3 b7 t, mapA .u64 unitE mr x1, row b8 [.func (.func 128) #[] #[ptr b6, ptr b1, ptr b2, ptr b3, ptr b7]] 151, row b4 [.slice q ws.length cap] 31, marksH ms] ++ (Hx (st o y).2 ++ E))) (fun w hh => Holds.hop (Hx (st o y).2) [row b11 [i64 o.1, i64 o.2.1, i64 o.2.2] 89, row b6 [.map (some mr)] 185, row b1 [i64 b.act, i64 b.used, sv] 33, row b2 [i64 c.log, i64 c.roots, i64 c.space] 30, row b3 [ptr bd] 28, VarG 186 89 3 enc3 b7 t, mapA .u64 unitE mr x1, row b8 [.func (.func 128) #[] #[ptr b6, ptr b1, ptr b2, ptr b3, ptr b7]] 151, row b4 [.slice q ws.length cap] 31, marksH ms] hh) ?_
      simp only [List.cons_append, List.nil_append]
      refine kPv (ev_not rfl) rfl ?_; refine p_nil ?_
      refine g_if rfl (fun h37 => ?_) (fun h37 => ?_)
      · have hg : (st o y).1 = false := by simpa using h37
        refine g_ret ?_
        exact ret_none_m Tryz.results127 (marks_at 11) (fun w hh => ⟨_, ⟨by rw [hinv, hrl, itl0 hg]; exact hIy2, by rw [hinv, hrl, itl0 hg]⟩, (hh.dp [2, 2, 2, 2, 2, 2, 2, 2, 2])⟩)
      · have hg : (st o y).1 = true := by simpa using h37
        refine g_skip ?_; refine g_seq ?_; refine g_region ?_; refine kPv (ev_loadA Tryz.isAgg89 Tryz.sizeOf89 rfl rfl) rfl ?_; refine kPv (ev_load Tryz.isAgg28 rfl rfl) rfl ?_
        refine p_call rfl (en_f Tryz.call129 rfl) (onames_ok _ _ o bd) .free rfl rfl ?_ ?_
        rotate_left
        · rintro _ _ ⟨⟩
        rintro _ _ ⟨n1, n2, rfl, rfl⟩
        refine p_nil ?_; refine go_sub (σ' := [(40, _), (8, _), (7, _), (0, _), (3, _)]) ⟨rfl, rfl, rfl, rfl, rfl, trivial⟩ ?_; refine g_block ?_; refine g_range rfl Tryz.call142 ?_
        intro l2 m tmps hts hkn w hh
        have hk8 := hkn 8 _ rfl
        have hlr : lst r cd (st o y) = r := by unfold lst; rw [if_pos hg]
        have hh2 := ((hh.dp [6]).pk [0, 1, 1, 2, 2, 2, 2, 2, 2, 2, 2, 1, 1, 1])
        rw [hlr] at hh2
        refine (onam1_ok B l2 127 n1 n2 bd o ho s SeenS _ rfl rfl (fun x => x.2.length ≤ x.1.length ∧ SeenW s c b x) (fun x => row b6 [.map (some mr)] 185 :: row b1 [i64 b.act, i64 b.used, sv] 33 :: row b2 [i64 c.log, i64 c.roots, i64 c.space] 30 :: row b3 [ptr bd] 28 :: VarG 186 89 3 enc3 b7 x.2 :: mapA .u64 unitE mr x.1 :: row b8 [.func (.func 128) #[] #[ptr b6, ptr b1, ptr b2, ptr b3, ptr b7]] 151 :: blk l (.loop r) :: row b4 [.slice q ws.length cap] 31 :: marksH ms :: blk m (.deferred (some [])) :: (Hx (st o y).2 ++ E)) (fun _ => .ret) (fun (p : Int × Int) (x : SeenS) => (true, s.see c b x (IntKind.u64.wrap p.2))) (x1, t) ?_ ?_ w hh2).mono (Ret.mono ?_ fun _ _ h => h.elim)
        · exact ⟨by simp only [List.length_cons] at hxl; simp only; omega, ⟨hxw.nd, hxw.rng, fun o' ho' => hxw.obj o' (List.mem_cons_of_mem _ ho')⟩⟩
        · rintro p x ⟨hxl, hxw⟩
          have hsl := seen_len hb hxw
          have hm1 := see_m (s := s) (c := c) (b := b) x (IntKind.u64.wrap p.2)
          refine ⟨⟨by simp only; omega, see_w hc hb hxw _⟩, ?_⟩
          refine round_go (n := 47) (σ := [(41, i64 p.1), (42, i64 p.2), (8, ptr b8)]) Tryz.func127 (by simp [lrec, hts]) (KnA.knows (by simp [KnA, lrec, hts]; exact (Array.getElem?_eq_some_iff.1 hk8).2)) rfl ?_; refine g_region ?_; refine kPa rfl rfl ?_; refine p_nil ?_; refine go_mid ?_; refine g_block ?_; refine g_region ?_; refine kPv (ev_load Tryz.isAgg151 rfl rfl) rfl ?_; refine kPm rfl rfl ?_
          first | refine p_val rfl (ev_conv Tryz.runUnderlying3 Tryz.runUnderlying52 rfl (wru64 (by omega))) .free rfl rfl ?_ | refine p_val rfl (ev_conv Tryz.runUnderlying3 Tryz.runUnderlying52 rfl rfl) .free rfl rfl ?_
          refine go_pk [4, 4, 4, 4, 4, 4, 3] ?_
          refine p_call rfl (en_c Tryz.call128 rfl rfl) (see_ok B _ b6 b1 b2 b3 b7 mr bd s c hc b sv hb hsv x (by omega) (IntKind.u64.wrap p.2) (u64w_b _)) .free rfl rfl ?_ ?_
          rotate_left
          · rintro _ _ ⟨⟩
          rintro _ _ rfl
          refine p_nil ?_; refine go_sub (σ' := []) trivial ?_; refine go_pk [7] ?_
          exact go_rK fun w hh => ⟨_, ⟨rfl, rfl⟩, (hh.pk [0, 7, 7, 6])⟩
        rintro _ _ ⟨⟨hxl2, hxw2⟩, rfl⟩
        rw [itl_true] at hxl2 hxw2 ⊢
        have hfe : List.foldl (fun x (p : Int × Int) => s.see c b x (IntKind.u64.wrap p.2)) (x1, t) (s.objNames o o.2.1.toNat 0) = (s.namesOf o).foldl (s.see c b) (x1, t) := by unfold Dev.namesOf; rw [List.foldl_map]
        rw [hfe] at hxl2 hxw2 ⊢
        have hm2 := foldsee_m (s := s) (c := c) (b := b) (s.namesOf o) (x1, t)
        simp only at hxl2 hxw2 hm2
        have hs1 := seen_len hb hxw2
        have hs2 := seen_len hb hxw
        simp only at hs1 hs2
        refine ⟨_, _, fun w hh => hh, lst_busy (by simp [lrec]), fun hp => ?_, fun c' hc' => absurd (lst_some rfl hc').1 (fun h => Bool.noConfusion h)⟩
        exact fun a w st_ => ⟨(_, (st o y).2, n, m :: ms), ⟨hxw2, hxl2, hIy2, by unfold seenM at hn ⊢; simp only [List.length_cons] at hn ⊢; omega, by rw [hinv, hrl, itl_pos hg]⟩, by simp only; omega, st_.to ⟨rfl, rfl, rfl, rfl, trivial⟩ (fun hh => ((marksH_cons ((hh.dp [0, 0, 0]).pk [11, 10, 8])).pk [1, 1, 1, 1, 1, 1, 1, 1, 1, 1]))⟩
    · have hxn : x.2 = [] := by
        cases hx2 : x.2 with
        | nil => rfl
        | cons o t => rw [hx2] at h28; simp at h28
      refine g_exit ?_
      exact end_none_m Tryz.results127 (marks_at 11) (fun w hh => ⟨_, ⟨by rw [hinv, reachL_nil hxn]; exact hIy, by rw [hinv, reachL_nil hxn]; rfl⟩, (hh.dp [0, 0, 2, 2, 2, 2, 2, 2, 2])⟩)

theorem wfrom_ok (B : World) (H : List HP) (bd : Nat) (c : Cfg) (b : Blk) (sv : Value) (hsv : cell1 sv = true) (wv : Value) (hwv : cell1 wv = true) :
    ∀ w, Holds B H w → Calls Tryz.prog 119 [ptr bd, cfgV c, blkV b sv, wv].toArray w (Ret B (fun v H' => ∃ b1 b2 b3 b4, v = .func (.func 127) [].toArray [ptr b1, ptr b2, ptr b3, ptr b4].toArray ∧ H' = row b4 [wv] 31 :: row b1 [i64 b.act, i64 b.used, sv] 33 :: row b2 [i64 c.log, i64 c.roots, i64 c.space] 30 :: row b3 [ptr bd] 28 :: H) (fun _ _ => False)) := by
  refine fn_enter Tryz.func119 rfl Tryz.ntmps119 rfl ?_; refine g_seq ?_; refine g_region ?_; refine p_chg rfl (ch_box1 rfl rfl) .free rfl rfl ?_
  rintro _ _ ⟨b4, rfl, rfl⟩
  refine p_chg rfl (ch_boxA rfl) .free rfl rfl ?_
  rintro _ _ ⟨b5, rfl, rfl⟩
  refine p_chg rfl (ch_boxA rfl) .free rfl rfl ?_
  rintro _ _ ⟨b6, rfl, rfl⟩
  refine p_chg rfl (ch_box1 rfl hwv) .free rfl rfl ?_
  rintro _ _ ⟨b7, rfl, rfl⟩
  refine kPa rfl rfl ?_; refine p_nil ?_; refine g_seq ?_; refine g_region ?_; refine kPv (ev_mkf rfl rfl) rfl ?_; refine kPa rfl rfl ?_; refine p_nil ?_; refine go_sub (σ' := [(8, _)]) ⟨rfl, trivial⟩ ?_; refine g_ret ?_
  exact ret_tmp Tryz.results119 rfl (fun w hw => ⟨_, ⟨_, _, _, _, rfl, rfl⟩, hw⟩)


def sizeI (n : Int) (o : Obj3) : Int := IntKind.i64.wrap (n + (o.1 + 1))
def Dev.reachSize (s : Dev) (c : Cfg) (b : Blk) (ws : List Int) : Int := (s.reach c b ws).foldl sizeI 0

theorem wsize_ok (B : World) (Fr : List HP) (bd : Nat) (c : Cfg) (hc : CfgW c) (b : Blk) (sv : Value) (hb : BlkW c b) (hsv : cell1 sv = true) (s : Dev) (q : Option Addr) (cap : Nat) (ws : List Int) (hws : ∀ v ∈ ws, 0 ≤ v ∧ v < 18446744073709551616) (hwn : ws.length ≤ 1000000) (hwq : ∀ i, i < ws.length → ∃ b off, q = some ⟨b, off, none⟩) (hwl : SlR B Fr (.slice q ws.length cap) (ws.map w64)) :
    ∀ w, Holds B (DevA bd s :: Fr) w → Calls Tryz.prog 120 [ptr bd, cfgV c, blkV b sv, .slice q ws.length cap].toArray w (PureR B (DevA bd s :: Fr) (i64 (s.reachSize c b ws))) := by
  refine fn_enter_m Tryz.func120 rfl Tryz.ntmps120 rfl ?_; refine g_seq ?_; refine g_region ?_; refine p_chg rfl (ch_boxA rfl) .free rfl rfl ?_
  rintro _ _ ⟨b5, rfl, rfl⟩
  refine p_chg rfl (ch_boxA rfl) .free rfl rfl ?_
  rintro _ _ ⟨b6, rfl, rfl⟩
  refine kPa rfl rfl ?_; refine p_nil ?_; refine g_seq ?_; refine g_region ?_; refine p_chg rfl (ch_alloc1 Tryz.zeroValue3 rfl) .free rfl rfl ?_
  rintro _ _ ⟨b9, rfl, rfl⟩
  refine p_chg0 rfl (ch_store Tryz.sizeOf3 rfl rfl rfl rfl) .free rfl ?_
  rintro _ _ rfl
  refine p_nil ?_; refine g_seq ?_; refine g_seq ?_; refine g_region ?_; refine kPm rfl rfl ?_; refine kPv (ev_loadA Tryz.isAgg30 Tryz.sizeOf30 rfl rfl) rfl ?_; refine kPv (ev_loadA Tryz.isAgg33 Tryz.sizeOf33 rfl rfl) rfl ?_; refine kPm rfl rfl ?_
  refine p_call rfl (en_f Tryz.call119 rfl) (wfrom_ok _ _ bd c b sv hsv (.slice q ws.length cap) rfl) .free rfl rfl ?_ ?_
  rotate_left
  · rintro _ _ ⟨⟩
  rintro _ _ ⟨c1, c2, c3, c4, rfl, rfl⟩
  refine p_nil ?_; refine go_sub (σ' := [(15, _), (9, _), (8, _)]) ⟨rfl, rfl, rfl, trivial⟩ ?_; refine g_block ?_; refine g_range rfl Tryz.call127 ?_
  intro l m tmps hts hkn w hh
  have hk9 := hkn 9 _ rfl
  refine (wfrom1_ok B (blk m (.deferred (some [])) :: Fr) l 120 c1 c2 c3 c4 bd c hc b sv hb hsv s q cap ws hws hwn hwq Int _ rfl rfl (fun x => True) (fun x => [row b9 [i64 x] 3]) (fun _ => .ret) (fun o x => (true, sizeI x o)) 0 trivial ((hwl.cons _).cons _) ?_ w ((hh.dp [7, 7]).pk [0, 2, 2, 2, 1, 2, 1])).mono (Ret.mono ?_ fun _ _ h => h.elim)
  · intro o x ho _
    have ho1 := ho.w
    refine ⟨trivial, fun E => ?_⟩
    simp only [List.cons_append, List.nil_append]
    refine round_go (n := 23) (σ := [(16, objV o), (9, ptr b9)]) Tryz.func120 (by simp [lrec, hts]) (KnA.knows (by simp [KnA, lrec, hts]; exact (Array.getElem?_eq_some_iff.1 hk9).2)) rfl ?_; refine g_region ?_; refine p_chg rfl (ch_allocA Tryz.zeroValue89 rfl) .free rfl rfl ?_
    rintro _ _ ⟨b10, rfl, rfl⟩
    refine p_chg0 rfl (ch_storeA (vs := _) Tryz.sizeOf89 rfl rfl rfl rfl rfl) .free rfl ?_
    rintro _ _ rfl
    refine p_nil ?_; refine go_pk [1] ?_; refine go_mid ?_; refine g_block ?_; refine g_drawt 5 Tryz.mixed (by kernel_rfl) (by kernel_rfl) ?_; refine kQv (ev_load Tryz.isAgg3 rfl rfl) rfl ?_; refine kQv (ev_fa (m := _) fa_89_0 rfl rfl) rfl ?_; refine kQv (ev_loadA Tryz.isAgg87 Tryz.sizeOf87 rfl rfl) rfl ?_; refine q_call rfl (en_f Tryz.call52 rfl) (hsize_ok _ _ _ _ (by omega)) .free rfl ?_; refine kQv (ev_add (c := sizeI x o) rfl rfl rfl) rfl ?_; refine q_nil ?_
    refine p_chg0 rfl (ch_store Tryz.sizeOf3 rfl rfl rfl rfl) .free rfl ?_
    rintro _ _ rfl
    refine p_nil ?_; refine go_sub (σ' := []) trivial ?_
    exact go_rK fun w hh => ⟨_, ⟨rfl, rfl⟩, (hh.dp [1])⟩
  rintro _ _ ⟨_, rfl⟩
  rw [itl_true]
  simp only [List.cons_append, List.nil_append]
  refine ⟨_, _, fun w hh => hh, lst_busy (by simp [lrec]), fun hp => ?_, fun c' hc' => absurd (lst_some rfl hc').1 (fun h => Bool.noConfusion h)⟩
  refine g_seq ?_; refine g_region ?_; refine kPv (ev_load Tryz.isAgg3 rfl rfl) rfl ?_; refine kPa rfl rfl ?_; refine p_nil ?_; refine g_ret ?_
  exact ret_tmp_m Tryz.results120 rfl (.at 3 (.nil)) (fun w hh => ⟨rfl, (hh.dp [0, 1, 1])⟩)

end Go.Proofs.YtbfheafpecgphaaGreat
