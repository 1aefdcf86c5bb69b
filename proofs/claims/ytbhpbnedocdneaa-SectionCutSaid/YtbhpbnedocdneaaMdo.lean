/- What chapter 7's model of a section does, call by call. Conditions: none. -/
import Derived.Test.YtbhpbnedocdneaaHlp
import Derived.Test.YtbhpbnedocdneaaSec
import Derived.Test.YtbhpbnedocdneaaSin
set_option linter.unusedSimpArgs false
set_option linter.unusedVariables false
set_option linter.unnecessarySimpa false
set_option linter.unusedSectionVars false
namespace Go.Proofs.Ytbhpbnedocdneaa
set_option linter.unusedSimpArgs false
set_option linter.unusedVariables false
open Go
abbrev u8 (x : Int) : Value := .int .u8 x
theorem tget {α : Type} {n k : Nat} {f : Nat → α} {rest : List α} (h : k < n) : (tab n f ++ rest)[k]? = some (f k) := by
  rw [List.getElem?_append_left (by rw [tab_len]; exact h), tab_get h]
theorem tset {n k : Nat} {f : Nat → Int} {v : Int} {rest : List Value} (h : k < n) : (tab n (fun i => w64 (f i)) ++ rest).set k (w64 v) = tab n (fun i => w64 (upd f k v i)) ++ rest := by
  rw [List.set_append_left _ _ (by rw [tab_len]; exact h), tab_set]
  congr 1
  refine tab_congr fun i _ => ?_
  simp only [upd]; split <;> rfl
/-- The model: words that stand, as they were; which have a record; is one open; what is fresh. -/
structure MS where
  c : Cfg
  nw : Nat
  now : Nat → Int
  was : Option (Nat → Int)
  js : List Int
  o : Bool
  f : Int
  t : Int
def WasV (nw : Nat) (v : Value) (w : Option (Nat → Int)) : HP := match w with
  | none => pr (v = .slice none 0 0)
  | some g => hex fun (x : Nat × List Value) => grp [row x.1 (tab nw (fun i => w64 (g i)) ++ x.2) 46, pr (v = .slice (some ⟨x.1, 0, none⟩) nw (nw + x.2.length))]
theorem was_some {B : World} {nw : Nat} {v : Value} {g : Nat → Int} {Fr : List HP} {w : World} (h : Holds B (WasV nw v (some g) :: Fr) w) : ∃ b rest, v = .slice (some ⟨b, 0, none⟩) nw (nw + rest.length) ∧ Holds B (row b (tab nw (fun i => w64 (g i)) ++ rest) 46 :: Fr) w := by
  obtain ⟨⟨b, rest⟩, hx⟩ := Holds.hex h
  have h2 := (hx.grp.front 1 rfl).pr
  exact ⟨b, rest, h2.1, h2.2⟩
theorem was_row {B : World} {nw b n c : Nat} {g : Nat → Int} {rest : List Value} {Fr : List HP} {w : World} (hn : n = nw) (hc : c = nw + rest.length) (h : Holds B (row b (tab nw (fun i => w64 (g i)) ++ rest) 46 :: Fr) w) : Holds B (WasV nw (.slice (some ⟨b, 0, none⟩) n c) (some g) :: Fr) w := by
  subst hn; subst hc
  refine Holds.unhex (b, rest) (Holds.ungrp (l := [row b (tab n (fun i => w64 (g i)) ++ rest) 46, pr _]) ?_)
  exact (h.unpr rfl).back 1 (by simp)
abbrev mRow (b bc : Nat) (M : MS) (n c : Nat) (wv sv : Value) (o : Bool) (f t : Int) : HP := row b [i64 M.c.log, i64 M.c.roots, i64 M.c.space, .slice (some ⟨bc, 0, none⟩) n c, wv, sv, .bool o, i64 f, i64 t] 42
abbrev nRow (bc nw : Nat) (now : Nat → Int) (rest : List Value) : HP := row bc (tab nw (fun i => w64 (now i)) ++ rest) 46
def MA (b : Nat) (M : MS) : HP := hex fun (x : Nat × List Value × Value × Value) => grp [mRow b x.1 M M.nw (M.nw + x.2.1.length) x.2.2.1 x.2.2.2 M.o M.f M.t, nRow x.1 M.nw M.now x.2.1, WasV M.nw x.2.2.1 M.was, AccV 0 (x.2.2.2, M.js)]
theorem go_ma {B : World} {n : Nat} {D : List Deferred} {σ : Env} {b : Nat} {M : MS} {Fr : List HP} {K : Act → World → Prop} (h : ∀ bc rest wv sv, GO B n D σ (mRow b bc M M.nw (M.nw + rest.length) wv sv M.o M.f M.t :: nRow bc M.nw M.now rest :: WasV M.nw wv M.was :: AccV 0 (sv, M.js) :: Fr) K) : GO B n D σ (MA b M :: Fr) K := fun a w st => by
  obtain ⟨⟨bc, rest, wv, sv⟩, hx⟩ := Holds.hex st.holds
  exact h bc rest wv sv a w ⟨st.toStA, hx.grp⟩
theorem ma_holds {B : World} {b bc : Nat} {M : MS} {rest : List Value} {wv sv : Value} {Fr : List HP} {w : World} (h : Holds B (mRow b bc M M.nw (M.nw + rest.length) wv sv M.o M.f M.t :: nRow bc M.nw M.now rest :: WasV M.nw wv M.was :: AccV 0 (sv, M.js) :: Fr) w) : Holds B (MA b M :: Fr) w :=
  Holds.unhex (bc, rest, wv, sv) (Holds.ungrp (l := [mRow b bc M M.nw (M.nw + rest.length) wv sv M.o M.f M.t, nRow bc M.nw M.now rest, WasV M.nw wv M.was, AccV 0 (sv, M.js)]) h)
/-- The place of a store, by a number. -/
def Cfg.ix (c : Cfg) (at_ : Int) : Int := c.active - 4 + at_ % (c.words - c.active + 8)
/-- Are a device's words the model's? -/
def MS.same (M : MS) (s : Dev) : Prop := ∀ i, i < M.nw → s.now (M.c.active.toNat + i) = M.now i ∨ (M.f ≤ M.c.active + i ∧ M.c.active + i < M.t)
def MS.begin (M : MS) (f t : Int) : MS := { M with o := true, f := f, t := t, js := [], was := some M.now }
def MS.abort (M : MS) (g : Nat → Int) : MS := { M with o := false, now := fun j => if M.c.active + j < M.f ∨ M.t ≤ M.c.active + j then g j else M.now j }
/-- A store: what it must answer; what is then. -/
def MS.put (M : MS) (i v : Int) : Int × MS :=
  if i < M.c.active ∨ M.c.words ≤ i then (1, M)
  else if (i < M.f ∨ M.t ≤ i) ∧ i ∉ M.js then (if (M.js.length : Int) = M.c.log then (3, M) else (0, { M with js := M.js ++ [i], now := upd M.now (i - M.c.active).toNat v }))
  else (0, { M with now := upd M.now (i - M.c.active).toNat v })
theorem go_slr {B : World} {n : Nat} {D : List Deferred} {σ : Env} {H : List HP} {K : Act → World → Prop} {q : Option Addr} {m cap : Nat} {cs : List Value} (hr : SlR B H (.slice q m cap) cs) (hk : 0 < cs.length) (h : ∀ b off, q = some ⟨b, off, none⟩ → GO B n D σ H K) : GO B n D σ H K := fun a w st => by
  obtain ⟨q', cap', e, hc⟩ := hr.ex
  injection e with e1 e2 e3
  obtain ⟨b, off, h1, _⟩ := hc w st.holds 0 hk
  exact h b off (e1.trans h1) a w st
theorem acc_slr {B : World} {H : List HP} {q : Option Addr} {cap : Nat} {xs : List Int} (i : Nat) (e : H[i]? = some (AccV 0 (.slice q xs.length cap, xs))) : SlR B H (.slice q xs.length cap) (xs.map i64) := by
  refine ⟨q, cap, by simp, fun w hw j hj => ?_⟩
  rw [List.length_map] at hj
  rcases holds_accv (hw.front i e) with ⟨h1, _, _⟩ | ⟨bd, rest, h1, h2⟩
  · rw [h1] at hj; exact absurd hj (Nat.not_lt_zero _)
  · injection h1 with h1 _ _
    refine ⟨bd, 0, h1, ?_⟩
    rw [h2.ucell (b := bd) (0 + j), Nat.zero_add, List.getElem?_append_left (by rw [List.length_map]; exact hj)]
/-- A number put behind an accumulated slice. -/
theorem ch_append_acc {B : World} {σ : Env} {P : Program} {d : Option Tmp} {ty : TypeId} {p : String} {af : Array Edge} {g : Option (Nat × Bool)} {t : TypeId} {x y : Operand} {at_ : Array TypeId} {u : TypeId} {ud : TypeDesc} {b1 : Nat} {v : Int} {sv : Value} {xs : List Int} {Fr : List HP} {T1 : TypeId}
    (ha : at_[0]? = some t) (ha' : at_[1]? = some u) (ht : ∀ w, (underlying t).run P w = .ok (.slice 3) w) (hu : ∀ w, (underlying u).run P w = .ok ud w) (hud : ∃ q, ud = .slice q) (hs : ∀ w, (sizeOf 3).run P w = .ok 1 w) (hz : ∀ w, (zeroValue 3).run P w = .ok (i64 0) w) (hfb : fewBytes P 3)
    (hx : evO σ x = some sv) (hy : evO σ y = some (.slice (some ⟨b1, 0, none⟩) 1 1)) (hn : xs.length + 1 ≤ 1000000000) :
    Chg P B σ (AccV 0 (sv, xs) :: row b1 [i64 v] T1 :: Fr) ⟨d, .call ⟨.builtin .append, #[x, y], at_⟩, ty, p, af, g⟩ (fun v' H' => cell1 v' = true ∧ H' = AccV 0 (v', xs ++ [v]) :: Fr) := by
  intro a w kn hh
  rcases holds_accv hh with ⟨h1, h2, h3⟩ | ⟨bd, rest, h1, h3⟩
  · subst h2; subst h1
    obtain ⟨r, w', e1, u, e2, H', ⟨bn, cn, rest, e3, _, e4, rfl⟩, e5⟩ := ch_append_nil (H := row b1 [i64 v] T1 :: Fr) (d := d) (ty := ty) (p := p) (af := af) (g := g) ha ha' ht hu hud hs hz rfl hfb hx hy (SlR.row (xs := [i64 v]) rfl rfl) (by simp) (by simp) a w kn h3
    subst e4
    refine ⟨r, w', e1, _, e2, _, ⟨rfl, rfl⟩, ?_⟩
    exact accv_row (xs := [v]) rfl (by simpa using e3.symm) ((e5.front 1 rfl).tail)
  · subst h1
    obtain ⟨r, w', e1, u, e2, H', hY, e5⟩ := ch_append (H := row bd (xs.map i64 ++ rest) 3 :: row b1 [i64 v] T1 :: Fr) (d := d) (ty := ty) (p := p) (af := af) (g := g) (b := bd) ha ha' ht hu hud hs hz rfl hfb hx hy (SlR.row (xs := [i64 v]) rfl rfl) (by simp) (by omega) (by simpa using hn) rfl a w kn h3
    rcases hY with ⟨g1, rfl, rfl⟩ | ⟨g1, bn, cn, rest', g2, _, rfl, rfl⟩
    · refine ⟨r, w', e1, _, e2, _, ⟨rfl, rfl⟩, ?_⟩
      have g1 : xs.length + 1 ≤ xs.length + rest.length := g1
      rw [acc_put (by omega)] at e5
      exact accv_row (by simp) (by simp; omega) ((e5.front 1 rfl).tail)
    · refine ⟨r, w', e1, _, e2, _, ⟨rfl, rfl⟩, ?_⟩
      have e : (xs ++ [v]).map i64 ++ rest' = ((xs.map i64 ++ rest).drop 0).take xs.length ++ [i64 v] ++ rest' := by simp
      rw [← e] at e5
      exact accv_row (by simp) (by simpa using g2.symm) ((((e5.front 1 rfl).tail).front 1 rfl).tail)
theorem go_was {B : World} {n : Nat} {D : List Deferred} {σ : Env} {nw : Nat} {v : Value} {g : Nat → Int} {Fr : List HP} {K : Act → World → Prop} (h : ∀ b rest, v = .slice (some ⟨b, 0, none⟩) nw (nw + rest.length) → GO B n D σ (row b (tab nw (fun i => w64 (g i)) ++ rest) 46 :: Fr) K) : GO B n D σ (WasV nw v (some g) :: Fr) K := fun a w st => by
  obtain ⟨b, rest, e, hh⟩ := was_some st.holds
  exact h b rest e a w ⟨st.toStA, hh⟩
theorem SlR.tabr {B : World} {H : List HP} {n b cap : Nat} {f : Nat → Value} {rest : List Value} {T : TypeId} {U : List Value → List HP} [RowU H b (tab n f ++ rest) T U] : SlR B H (.slice (some ⟨b, 0, none⟩) n cap) (tab n f) :=
  SlR.row (cs := Proofs.Ytbhpbnedocdneaa.tab n f ++ rest) (T := T) (U := U) (by rw [List.drop_zero, List.take_append_of_le_length (by rw [tab_len]; omega), List.take_of_length_le (by rw [tab_len]; omega)]) (by rw [tab_len])
theorem now_put {k : Nat} {f : Nat → Int} {g : Nat → Int} {q : Nat → Prop} [DecidablePred q] (h : q k) : (upd (fun j => if j < k ∧ q j then g j else f j) k (g k)) = fun j => if j < k + 1 ∧ q j then g j else f j := by
  funext j
  simp only [upd]
  by_cases e : j = k
  · subst e; simp [h]
  · rw [if_neg e]
    by_cases c : j < k ∧ q j
    · rw [if_pos c, if_pos ⟨by omega, c.2⟩]
    · rw [if_neg c, if_neg (fun h => c ⟨by omega, h.2⟩)]
theorem now_skip {k : Nat} {f : Nat → Int} {g : Nat → Int} {q : Nat → Prop} [DecidablePred q] (h : ¬ q k) : (fun j => if j < k ∧ q j then g j else f j) = fun j => if j < k + 1 ∧ q j then g j else f j := by
  funext j
  by_cases c : j < k ∧ q j
  · rw [if_pos c, if_pos ⟨by omega, c.2⟩]
  · rw [if_neg c, if_neg]
    rintro ⟨h1, h2⟩
    by_cases e : j = k
    · subst e; exact h h2
    · exact c ⟨by omega, h2⟩
theorem abort_holds {B : World} {b bc : Nat} {M : MS} {rest : List Value} {wv sv : Value} {g : Nat → Int} {Fr : List HP} {w : World} (hwas : M.was = some g) (h : Holds B (mRow b bc M M.nw (M.nw + rest.length) wv sv false M.f M.t :: nRow bc M.nw (fun j => if j < M.nw ∧ (M.c.active + j < M.f ∨ M.t ≤ M.c.active + j) then g j else M.now j) rest :: WasV M.nw wv (some g) :: AccV 0 (sv, M.js) :: Fr) w) : Holds B (MA b (M.abort g) :: Fr) w := by
  refine ma_holds (M := M.abort g) (bc := bc) (rest := rest) (wv := wv) (sv := sv) ?_
  rw [show (M.abort g).was = some g from hwas]
  have e : (tab M.nw fun i => w64 (if i < M.nw ∧ (M.c.active + i < M.f ∨ M.t ≤ M.c.active + i) then g i else M.now i)) = tab M.nw fun i => w64 ((M.abort g).now i) := tab_congr fun i hi => by
    simp only [MS.abort]
    by_cases c : M.c.active + i < M.f ∨ M.t ≤ M.c.active + i
    · rw [if_pos ⟨hi, c⟩, if_pos c]
    · rw [if_neg (fun h => c h.2), if_neg c]
  simp only [nRow] at h ⊢
  rw [e] at h
  exact h

theorem span_ok (B : World) (H : List HP) (c : Cfg) (hc : CfgW c) (n : Int) (hn : 0 ≤ n) :
    ∀ w, Holds B H w → Calls Try.prog 55 [cfgV c, u8 n].toArray w (PureR B H (.agg #[i64 (c.words - n % 20), i64 c.words])) := by
  refine fn_enter Try.func55 rfl Try.ntmps55 rfl ?_
  have hwb := words_b hc
  refine g_seq ?_
  refine g_region ?_
  refine p_chg rfl (ch_boxA rfl) .free rfl rfl ?_
  rintro _ _ ⟨b2, rfl, rfl⟩
  refine p_chg rfl (ch_allocA Try.zeroValue35 rfl) .free rfl rfl ?_
  rintro _ _ ⟨b4, rfl, rfl⟩
  refine p_nil ?_
  refine g_seq ?_
  refine g_drawt 9 Try.mixed (by kernel_rfl) (by kernel_rfl) ?_
  refine q_val rfl (ev_loadA Try.isAgg38 Try.sizeOf38 rfl rfl) .free rfl ?_
  refine q_call rfl (en_f Try.call13 rfl) (cwords_ok _ _ c hc) .free rfl ?_
  refine q_val rfl (ev_move rfl) .free rfl ?_
  refine q_val rfl (ev_rem (c := n % 20) rfl rfl (by decide) (rem_e 20 hn)) .free rfl ?_
  first | refine q_val rfl (ev_conv Try.runUnderlying5 Try.runUnderlying3 rfl (wr64 (by omega))) .free rfl ?_ | refine q_val rfl (ev_conv Try.runUnderlying5 Try.runUnderlying3 rfl rfl) .free rfl ?_
  first | refine q_val rfl (ev_sub rfl rfl (wr64 (by omega))) .free rfl ?_ | refine q_val rfl (ev_sub rfl rfl rfl) .free rfl ?_
  refine q_val rfl (ev_loadA Try.isAgg38 Try.sizeOf38 rfl rfl) .free rfl ?_
  refine q_call rfl (en_f Try.call13 rfl) (cwords_ok _ _ c hc) .free rfl ?_
  refine q_val rfl (ev_build rfl (bld_35_0_1 _ _ rfl rfl)) .free rfl ?_
  refine q_nil ?_
  refine p_chg0 rfl (ch_storeA (vs := _) Try.sizeOf35 rfl rfl rfl rfl rfl) .free rfl ?_
  rintro _ _ rfl
  refine p_nil ?_
  refine go_sub (σ' := [(4, _)]) ⟨rfl, trivial⟩ ?_
  refine g_ret ?_
  exact ret_1 Try.results55 (.cellA rfl Try.isAgg35 Try.sizeOf35 rfl rfl) (fun w hh => ⟨rfl, hh.tail.tail⟩)

theorem idx_before {x : Int} : ∀ {xs : List Int} {k : Nat} (_ : k < xs.idxOf x) (hk : k < xs.length), xs[k] ≠ x
  | [], k, _, hk => absurd hk (Nat.not_lt_zero _)
  | y :: xs, 0, h, _ => fun e => by
    have e : y = x := e
    subst e; simp at h
  | y :: xs, k + 1, h, hk => by
    have hk' : k < xs.length := by simpa using hk
    by_cases e : y = x
    · subst e; simp at h
    · have h2 : (y :: xs).idxOf x = xs.idxOf x + 1 := by rw [List.idxOf_cons, show (y == x) = false from beq_false_of_ne e]; rfl
      rw [h2] at h
      exact idx_before (x := x) (xs := xs) (k := k) (by omega) hk'
theorem index_ok (B : World) (H : List HP) (q : Option Addr) (cap : Nat) (xs : List Int) (x : Int) (hx : xs.length ≤ 1000000) (r1 : SlR B H (.slice q xs.length cap) (xs.map i64)) :
    ∀ w, Holds B H w → Calls Try.prog 69 [.slice q xs.length cap, i64 x].toArray w (PureR B H (i64 (if x ∈ xs then xs.idxOf x else -1))) := by
  refine fn_enter Try.func69 rfl Try.ntmps69 rfl ?_
  refine g_seq ?_
  refine g_region ?_
  refine p_val rfl (ev_assign rfl) .free rfl rfl ?_
  refine p_nil ?_
  refine g_seq ?_
  refine g_seq ?_
  refine g_region ?_
  refine p_val rfl (ev_move rfl) .free rfl rfl ?_
  refine p_val rfl (ev_len rfl Try.runUnderlying40 ⟨_, rfl⟩ rfl) .free rfl rfl ?_
  refine p_val rfl (ev_move rfl) .free rfl rfl ?_
  refine p_nil ?_
  refine g_block ?_
  refine g_loop (ι := Nat) (fun k => k ≤ xs.length ∧ ∀ j (h : j < xs.length), j < k → x ≠ xs[j]) (fun k => [(0, .slice q xs.length cap), (1, i64 x), (4, i64 0), (7, i64 xs.length), (8, i64 k)]) (fun _ => H) (fun k => xs.length - k) 0 ⟨Nat.zero_le _, fun j _ h => absurd h (Nat.not_lt_zero _)⟩ (fun a w st => st.to ⟨rfl, rfl, rfl, rfl, rfl, trivial⟩ id) ?_
  rintro k ⟨hk1, hk2⟩
  refine g_seq ?_
  refine g_region ?_
  refine p_val rfl (ev_cmp rfl rfl rfl) .free rfl rfl ?_
  refine p_nil ?_
  refine g_seq ?_
  refine g_if rfl (fun h9 => ?_) (fun h9 => ?_)
  · have hk : k < xs.length := by simpa using h9
    refine g_skip ?_
    refine g_seq ?_
    refine g_block ?_
    refine g_seq ?_
    refine g_region ?_
    refine p_val rfl (ev_move rfl) .free rfl rfl ?_
    refine p_val rfl (ev_assign rfl) .free rfl rfl ?_
    refine p_nil ?_
    refine g_seq ?_
    refine g_region ?_
    refine go_slr r1 (by rw [List.length_map]; omega) fun b1 o1 hq => ?_
    subst hq
    refine p_val rfl (ev_move rfl) .free rfl rfl ?_
    refine p_val rfl (ev_move rfl) .free rfl rfl ?_
    refine p_val rfl (ev_move rfl) .free rfl rfl ?_
    refine p_val rfl (ev_iaS Try.runUnderlying40 Try.sizeOf3 rfl rfl (by omega) (by omega)) .free rfl rfl ?_
    refine p_val rfl (ev_loadS (v := i64 xs[k]) Try.isAgg3 r1 rfl (by rw [Int.toNat_natCast, List.getElem?_map, List.getElem?_eq_getElem hk]; rfl)) .free rfl rfl ?_
    refine p_val rfl (ev_cmp rfl rfl rfl) .free rfl rfl ?_
    refine p_nil ?_
    refine go_sub (σ' := [(16, _), (5, _), (8, _), (7, _), (4, _), (0, _), (1, _)]) ⟨rfl, rfl, rfl, rfl, rfl, rfl, rfl, trivial⟩ ?_
    refine g_if rfl (fun h16 => ?_) (fun h16 => ?_)
    · have hkk : x = xs[k] := by simpa using h16
      refine g_seq ?_
      refine g_region ?_
      refine p_val rfl (ev_move rfl) .free rfl rfl ?_
      refine p_val rfl (ev_assign rfl) .free rfl rfl ?_
      refine p_nil ?_
      refine g_ret ?_
      exact ret_tmp Try.results69 rfl (fun w hh => ⟨by
      have hm : x ∈ xs := hkk ▸ List.getElem_mem hk
      have h3 : xs.idxOf x = k := by
        have hb : xs.idxOf x < xs.length := List.idxOf_lt_length_of_mem hm
        have he : xs[xs.idxOf x] = x := List.getElem_idxOf hb
        rcases Nat.lt_trichotomy (xs.idxOf x) k with h | h | h
        · exact absurd he.symm (hk2 _ hb h)
        · exact h
        · exact absurd hkk.symm (idx_before h hk)
      rw [if_pos hm, h3], hh⟩)
    · have hkk : x ≠ xs[k] := by simpa using h16
      refine g_skip ?_
      refine g_region ?_
      first | refine p_val rfl (ev_add rfl rfl (wr64 (by omega))) .free rfl rfl ?_ | refine p_val rfl (ev_add rfl rfl rfl) .free rfl rfl ?_
      refine p_val rfl (ev_move rfl) .free rfl rfl ?_
      refine p_nil ?_
      exact fun a w st => ⟨k + 1, ⟨by omega, fun j hj hjk => by
        rcases Nat.lt_succ_iff_lt_or_eq.1 hjk with h | h
        · exact hk2 j hj h
        · subst h; exact hkk⟩, by omega, st.to ⟨rfl, rfl, rfl, rfl, rfl, trivial⟩ id⟩
  · have hk : ¬ k < xs.length := by simpa using h9
    refine g_exit ?_
    refine g_seq ?_
    refine g_region ?_
    refine p_val rfl (ev_assign rfl) .free rfl rfl ?_
    refine p_nil ?_
    refine g_ret ?_
    exact ret_tmp Try.results69 rfl (fun w hh => ⟨by
      rw [if_neg fun hm => ?_]
      obtain ⟨j, hj, e⟩ := List.mem_iff_getElem.1 hm
      exact hk2 j hj (by omega) e.symm, hh⟩)


theorem contains_ok (B : World) (H : List HP) (q : Option Addr) (cap : Nat) (xs : List Int) (x : Int) (hx : xs.length ≤ 1000000) (r1 : SlR B H (.slice q xs.length cap) (xs.map i64)) :
    ∀ w, Holds B H w → Calls Try.prog 56 [.slice q xs.length cap, i64 x].toArray w (PureR B H (.bool (decide (x ∈ xs)))) := by
  refine fn_enter Try.func56 rfl Try.ntmps56 rfl ?_
  refine g_seq ?_
  refine g_region ?_
  refine p_val rfl (ev_assign rfl) .free rfl rfl ?_
  refine p_nil ?_
  refine g_seq ?_
  refine g_region ?_
  refine p_val rfl (ev_move rfl) .free rfl rfl ?_
  refine p_val rfl (ev_move rfl) .free rfl rfl ?_
  refine p_callq rfl (en_f Try.call69 rfl) (index_ok _ _ q cap xs x hx r1) .free rfl rfl ?_
  refine p_val rfl (ev_cmp rfl rfl rfl) .free rfl rfl ?_
  refine p_val rfl (ev_assign rfl) .free rfl rfl ?_
  refine p_nil ?_
  refine g_ret ?_
  exact ret_tmp Try.results56 rfl (fun w hh => ⟨by
      congr 1
      by_cases hm : x ∈ xs
      · rw [if_pos hm]; simp [hm]
      · rw [if_neg hm]; simp [hm], hh⟩)

theorem msame_ok (B : World) (Fr : List HP) (bm bd bc : Nat) (rest : List Value) (wv sv : Value) (M : MS) (s : Dev) (hc : CfgW M.c) (hn : (s.n : Int) = M.c.words) (hnw : M.nw = s.n - M.c.active.toNat) (hsame : M.same s) :
    ∀ w, Holds B (mRow bm bc M M.nw (M.nw + rest.length) wv sv M.o M.f M.t :: nRow bc M.nw M.now rest :: WasV M.nw wv M.was :: AccV 0 (sv, M.js) :: DevA bd s :: Fr) w → Calls Try.prog 19 [ptr bm, ptr bd].toArray w (PureR B (mRow bm bc M M.nw (M.nw + rest.length) wv sv M.o M.f M.t :: nRow bc M.nw M.now rest :: WasV M.nw wv M.was :: AccV 0 (sv, M.js) :: DevA bd s :: Fr) (.bool true)) := by
  refine fn_enter Try.func19 rfl Try.ntmps19 rfl ?_
  obtain ⟨hA1, hA2, hA3⟩ := act_w hc
  refine g_seq ?_
  refine g_region ?_
  refine p_val rfl (ev_assign rfl) .free rfl rfl ?_
  refine p_nil ?_
  refine g_seq ?_
  refine g_seq ?_
  refine g_region ?_
  refine p_val rfl (ev_move rfl) .free rfl rfl ?_
  refine p_val rfl (ev_move rfl) .free rfl rfl ?_
  first | refine p_val rfl (ev_nil rfl) .free rfl rfl ?_ | refine p_val rfl (ev_nilf rfl) .free rfl rfl ?_
  refine p_val rfl (ev_fa (m := _) fa_42_0 rfl rfl) .free rfl rfl ?_
  refine p_val rfl (ev_loadA Try.isAgg38 Try.sizeOf38 rfl rfl) .free rfl rfl ?_
  refine go_pull DevA bd ?_
  refine p_call rfl (en_f Try.call21 rfl) (words7_ok _ _ _ _ M.c hc hn) .free rfl rfl ?_ ?_
  rotate_left
  · rintro _ _ ⟨⟩
  rintro _ _ ⟨bw, restw, rfl, rfl⟩
  refine p_val rfl (ev_len rfl Try.runUnderlying39 ⟨_, rfl⟩ rfl) .free rfl rfl ?_
  refine p_val rfl (ev_move rfl) .free rfl rfl ?_
  refine p_nil ?_
  refine g_block ?_
  refine g_loop (ι := Nat) (fun k => k ≤ s.n - M.c.active.toNat) (fun k => [(0, ptr bm), (1, ptr bd), (4, .bool false), (13, .slice (some ⟨bw, M.c.active.toNat, none⟩) (s.n - M.c.active.toNat) (s.n + restw.length - M.c.active.toNat)), (14, i64 (s.n - M.c.active.toNat : Nat)), (15, i64 k)]) (fun _ => _) (fun k => s.n - M.c.active.toNat - k) 0 (Nat.zero_le _) (fun a w st => st.to ⟨rfl, rfl, rfl, rfl, rfl, rfl, trivial⟩ id) ?_
  intro k hk0
  refine g_seq ?_
  refine g_region ?_
  refine p_val rfl (ev_cmp rfl rfl rfl) .free rfl rfl ?_
  refine p_nil ?_
  refine g_seq ?_
  refine g_if rfl (fun h16 => ?_) (fun h16 => ?_)
  · have hk : k < s.n - M.c.active.toNat := by simpa using h16
    have hkk := hsame k (by omega)
    refine g_skip ?_
    refine g_seq ?_
    refine g_block ?_
    refine g_seq ?_
    refine g_region ?_
    refine p_val rfl (ev_move rfl) .free rfl rfl ?_
    refine p_val rfl ((ev_iaS Try.runUnderlying39 Try.sizeOf46 rfl rfl (by omega) (by omega))) .free rfl rfl ?_
    refine p_val rfl ((ev_load (v := w64 (s.now (M.c.active.toNat + k))) Try.isAgg46 rfl (by rw [Int.toNat_natCast]; exact tget (by omega)))) .free rfl rfl ?_
    refine p_val rfl (ev_assign rfl) .free rfl rfl ?_
    refine p_val rfl (ev_assign rfl) .free rfl rfl ?_
    refine p_nil ?_
    refine go_sub (σ' := [(6, _), (5, _), (15, _), (14, _), (13, _), (4, _), (0, _), (1, _)]) ⟨rfl, rfl, rfl, rfl, rfl, rfl, rfl, rfl, trivial⟩ ?_
    refine g_seq ?_
    refine g_region ?_
    refine p_val rfl (ev_move rfl) .free rfl rfl ?_
    first | refine p_val rfl (ev_nil rfl) .free rfl rfl ?_ | refine p_val rfl (ev_nilf rfl) .free rfl rfl ?_
    refine p_val rfl (ev_fa (m := _) fa_42_0 rfl rfl) .free rfl rfl ?_
    refine p_val rfl (ev_loadA Try.isAgg38 Try.sizeOf38 rfl rfl) .free rfl rfl ?_
    refine p_callq rfl (en_f Try.call12 rfl) (active_ok _ _ M.c hc) .free rfl rfl ?_
    refine p_val rfl (ev_move rfl) .free rfl rfl ?_
    first | refine p_val rfl (ev_add rfl rfl (wr64 (by omega))) .free rfl rfl ?_ | refine p_val rfl (ev_add rfl rfl rfl) .free rfl rfl ?_
    refine p_val rfl (ev_assign rfl) .free rfl rfl ?_
    refine p_nil ?_
    refine go_sub (σ' := [(7, _), (6, _), (5, _), (15, _), (14, _), (13, _), (4, _), (0, _), (1, _)]) ⟨rfl, rfl, rfl, rfl, rfl, rfl, rfl, rfl, rfl, trivial⟩ ?_
    refine g_seq ?_
    refine g_region ?_
    refine p_val rfl (ev_move rfl) .free rfl rfl ?_
    refine p_val rfl (ev_move rfl) .free rfl rfl ?_
    first | refine p_val rfl (ev_nil rfl) .free rfl rfl ?_ | refine p_val rfl (ev_nilf rfl) .free rfl rfl ?_
    refine p_val rfl (ev_fa (m := _) fa_42_1 rfl rfl) .free rfl rfl ?_
    refine p_val rfl (ev_load Try.isAgg39 rfl rfl) .free rfl rfl ?_
    refine p_val rfl (ev_move rfl) .free rfl rfl ?_
    refine p_val rfl ((ev_iaS Try.runUnderlying39 Try.sizeOf46 rfl rfl (by omega) (by omega))) .free rfl rfl ?_
    refine p_val rfl ((ev_load (v := w64 (M.now k)) Try.isAgg46 rfl (by rw [Nat.zero_add, Int.toNat_natCast]; exact tget (by omega)))) .free rfl rfl ?_
    refine p_val rfl (ev_cmp rfl rfl rfl) .free rfl rfl ?_
    refine p_val rfl (ev_move rfl) .free rfl rfl ?_
    apply p_and (tp := 53) (t := 36) (σ1 := [(36, _), (15, _), (14, _), (13, _), (4, _), (0, _), (1, _)]) 17 rfl ⟨rfl, rfl, rfl, rfl, rfl, rfl, rfl, trivial⟩
    · intro hg1
      refine p_val rfl (ev_move rfl) (.on rfl rfl (beq_eq hg1)) rfl rfl ?_
      refine p_val rfl (ev_move rfl) (.on rfl rfl (beq_eq hg1)) rfl rfl ?_
      first | refine p_val rfl (ev_nil rfl) (.on rfl rfl (beq_eq hg1)) rfl rfl ?_ | refine p_val rfl (ev_nilf rfl) (.on rfl rfl (beq_eq hg1)) rfl rfl ?_
      refine p_val rfl (ev_fa (m := _) fa_42_5 rfl rfl) (.on rfl rfl (beq_eq hg1)) rfl rfl ?_
      refine p_val rfl (ev_fa (m := _) fa_35_0 rfl rfl) (.on rfl rfl (beq_eq hg1)) rfl rfl ?_
      refine p_val rfl (ev_load Try.isAgg3 rfl rfl) (.on rfl rfl (beq_eq hg1)) rfl rfl ?_
      refine p_val rfl (ev_cmp rfl rfl rfl) (.on rfl rfl (beq_eq hg1)) rfl rfl ?_
      refine p_val rfl (ev_move rfl) (.on rfl rfl (beq_eq hg1)) rfl rfl ?_
      apply p_or (tp := 52) (t := 44) (σ1 := [(44, _), (36, _), (15, _), (14, _), (13, _), (4, _), (0, _), (1, _)]) 8 rfl ⟨rfl, rfl, rfl, rfl, rfl, rfl, rfl, rfl, trivial⟩
      · intro hg2
        refine p_val rfl (ev_move rfl) (.on rfl rfl (beq_eq hg2)) rfl rfl ?_
        refine p_val rfl (ev_move rfl) (.on rfl rfl (beq_eq hg2)) rfl rfl ?_
        first | refine p_val rfl (ev_nil rfl) (.on rfl rfl (beq_eq hg2)) rfl rfl ?_ | refine p_val rfl (ev_nilf rfl) (.on rfl rfl (beq_eq hg2)) rfl rfl ?_
        refine p_val rfl (ev_fa (m := _) fa_42_5 rfl rfl) (.on rfl rfl (beq_eq hg2)) rfl rfl ?_
        refine p_val rfl (ev_fa (m := _) fa_35_1 rfl rfl) (.on rfl rfl (beq_eq hg2)) rfl rfl ?_
        refine p_val rfl (ev_load Try.isAgg3 rfl rfl) (.on rfl rfl (beq_eq hg2)) rfl rfl ?_
        refine p_val rfl (ev_cmp rfl rfl rfl) (.on rfl rfl (beq_eq hg2)) rfl rfl ?_
        refine p_val rfl (ev_pick_f rfl hg2 rfl) (.on rfl rfl (beq_eq hg1)) rfl rfl ?_
        exact p_seg rfl ⟨rfl, rfl, rfl, rfl, rfl, rfl, rfl, rfl, trivial⟩ (or_f hg2)
      · intro hg2
        refine p_skip rfl (.on rfl rfl (beq_ne hg2)) rfl ?_
        refine p_skip rfl (.on rfl rfl (beq_ne hg2)) rfl ?_
        refine p_skip rfl (.on rfl rfl (beq_ne hg2)) rfl ?_
        refine p_skip rfl (.on rfl rfl (beq_ne hg2)) rfl ?_
        refine p_skip rfl (.on rfl rfl (beq_ne hg2)) rfl ?_
        refine p_skip rfl (.on rfl rfl (beq_ne hg2)) rfl ?_
        refine p_skip rfl (.on rfl rfl (beq_ne hg2)) rfl ?_
        refine p_val rfl (ev_pick_t rfl hg2 rfl) (.on rfl rfl (beq_eq hg1)) rfl rfl ?_
        exact p_seg rfl ⟨rfl, rfl, rfl, rfl, rfl, rfl, rfl, rfl, trivial⟩ (or_t hg2)
      refine p_val rfl (ev_pick_t rfl hg1 rfl) .free rfl rfl ?_
      exact p_seg rfl ⟨rfl, rfl, rfl, rfl, rfl, rfl, rfl, trivial⟩ (and_t hg1)
    · intro hg1
      refine p_skip rfl (.on rfl rfl (beq_ne hg1)) rfl ?_
      refine p_skip rfl (.on rfl rfl (beq_ne hg1)) rfl ?_
      refine p_skip rfl (.on rfl rfl (beq_ne hg1)) rfl ?_
      refine p_skip rfl (.on rfl rfl (beq_ne hg1)) rfl ?_
      refine p_skip rfl (.on rfl rfl (beq_ne hg1)) rfl ?_
      refine p_skip rfl (.on rfl rfl (beq_ne hg1)) rfl ?_
      refine p_skip rfl (.on rfl rfl (beq_ne hg1)) rfl ?_
      refine p_skip rfl (.on rfl rfl (beq_ne hg1)) rfl ?_
      refine p_skip rfl (.und rfl rfl) rfl ?_
      refine p_skip rfl (.und rfl rfl) rfl ?_
      refine p_skip rfl (.und rfl rfl) rfl ?_
      refine p_skip rfl (.und rfl rfl) rfl ?_
      refine p_skip rfl (.und rfl rfl) rfl ?_
      refine p_skip rfl (.und rfl rfl) rfl ?_
      refine p_skip rfl (.und rfl rfl) rfl ?_
      refine p_skip rfl (.on rfl rfl (beq_ne hg1)) rfl ?_
      refine p_val rfl (ev_pick_f rfl hg1 rfl) .free rfl rfl ?_
      exact p_seg rfl ⟨rfl, rfl, rfl, rfl, rfl, rfl, rfl, trivial⟩ (and_f hg1)
    refine p_nil ?_
    refine g_iff rfl (by
        simp only [Bool.and_eq_false_iff, Bool.or_eq_false_iff, decide_eq_false_iff_not, bne_eq_false_iff_eq]
        omega) ?_
    refine g_skip ?_
    refine g_region ?_
    first | refine p_val rfl (ev_add rfl rfl (wr64 (by omega))) .free rfl rfl ?_ | refine p_val rfl (ev_add rfl rfl rfl) .free rfl rfl ?_
    refine p_val rfl (ev_move rfl) .free rfl rfl ?_
    refine p_nil ?_
    exact fun a w st => ⟨k + 1, by omega, by omega, st.to ⟨rfl, rfl, rfl, rfl, rfl, rfl, trivial⟩ id⟩
  · have hk : ¬ k < s.n - M.c.active.toNat := by simpa using h16
    refine g_exit ?_
    refine g_seq ?_
    refine g_region ?_
    refine p_val rfl (ev_assign rfl) .free rfl rfl ?_
    refine p_nil ?_
    refine go_sub (σ' := [(4, _)]) ⟨rfl, trivial⟩ ?_
    refine g_ret ?_
    exact ret_tmp Try.results19 rfl (fun w hh => ⟨rfl, ((((hh.tail.front 4 rfl).front 4 rfl).front 4 rfl).front 4 rfl)⟩)

theorem mdoC_ok (B : World) (Fr : List HP) (bm bs : Nat) (S : SecS) (M : MS) (hc : CfgW M.c) (hnw : M.nw = M.c.words.toNat - M.c.active.toNat) (ki at_ v fh : Int) (hki : 0 ≤ ki) (hat : 0 ≤ at_ ∧ at_ ≤ 65535) (hfr : 0 ≤ fh) (ho : M.o = false) :
    ∀ w, Holds B (MA bm M :: SecC bs S :: Fr) w → Calls Try.prog 18 [ptr bm, ptr bs, .agg #[u8 ki, .int .u16 at_, w64 v], u8 fh].toArray w (Ret B (fun rv H' => rv = .bool true ∧ ((ki % 8 = 0 ∧ H' = MA bm (M.begin (M.c.words - fh % 20) M.c.words) :: SecO bs { S with ff := M.c.words - fh % 20, ft := M.c.words, seen := [], dirty := [] } :: Fr) ∨ (ki % 8 ≠ 0 ∧ H' = MA bm M :: SecC bs S :: Fr))) (fun _ _ => False)) := by
  refine fn_enter Try.func18 rfl Try.ntmps18 rfl ?_
  obtain ⟨hA1, hA2, hA3⟩ := act_w hc
  have hm0 := Int.emod_nonneg at_ (show M.c.words - M.c.active + 8 ≠ 0 by omega)
  have hm9 := Int.emod_lt_of_pos at_ (show 0 < M.c.words - M.c.active + 8 by omega)
  refine go_ma fun bc rest wv sv => ?_
  refine g_seq ?_
  refine g_region ?_
  refine p_chg rfl (ch_boxA rfl) .free rfl rfl ?_
  rintro _ _ ⟨b6, rfl, rfl⟩
  refine p_val rfl (ev_assign rfl) .free rfl rfl ?_
  refine p_nil ?_
  refine g_seq ?_
  refine g_seq ?_
  refine g_region ?_
  refine p_val rfl (ev_fa (m := _) fa_56_0 rfl rfl) .free rfl rfl ?_
  refine p_val rfl (ev_load Try.isAgg5 rfl rfl) .free rfl rfl ?_
  refine p_val rfl ((ev_rem (c := ki % 8) rfl rfl (by decide) (rem_e 8 hki))) .free rfl rfl ?_
  refine p_nil ?_
  refine g_block ?_
  refine g_seq ?_
  refine g_region ?_
  refine p_val rfl (ev_cmp rfl rfl rfl) .free rfl rfl ?_
  refine p_val rfl (ev_assign rfl) .free rfl rfl ?_
  refine p_nil ?_
  refine g_if rfl (fun h19 => ?_) (fun h19 => ?_)
  · have q0 : ki % 8 = 0 := by simpa using h19
    refine g_seq ?_
    refine g_region ?_
    refine p_val rfl (ev_move rfl) .free rfl rfl ?_
    refine p_val rfl (ev_move rfl) .free rfl rfl ?_
    first | refine p_val rfl (ev_nil rfl) .free rfl rfl ?_ | refine p_val rfl (ev_nilf rfl) .free rfl rfl ?_
    refine p_val rfl (ev_fa (m := _) fa_42_0 rfl rfl) .free rfl rfl ?_
    refine p_val rfl (ev_loadA Try.isAgg38 Try.sizeOf38 rfl rfl) .free rfl rfl ?_
    refine p_val rfl (ev_move rfl) .free rfl rfl ?_
    refine p_callq rfl (en_f Try.call55 rfl) (span_ok _ _ M.c hc _ hfr) .free rfl rfl ?_
    refine go_pull SecC bs ?_
    refine p_call rfl (en_f Try.call11 rfl) (sbeginC_ok _ _ _ _ _ _) .free rfl rfl ?_ ?_
    rotate_left
    · rintro _ _ ⟨⟩
    rintro _ _ ⟨rfl, rfl⟩
    refine p_val rfl (ev_assign rfl) .free rfl rfl ?_
    refine p_nil ?_
    refine go_sub (σ' := [(9, _), (8, _), (6, _), (0, _), (1, _), (3, _)]) ⟨rfl, rfl, rfl, rfl, rfl, rfl, trivial⟩ ?_
    refine g_seq ?_
    refine g_seq ?_
    refine g_region ?_
    refine p_val rfl (ev_move rfl) .free rfl rfl ?_
    first | refine p_val rfl (ev_nil rfl) .free rfl rfl ?_ | refine p_val rfl (ev_nilf rfl) .free rfl rfl ?_
    refine p_val rfl (ev_fa (m := _) fa_42_4 rfl rfl) .free rfl rfl ?_
    refine p_val rfl (ev_load Try.isAgg4 rfl rfl) .free rfl rfl ?_
    refine p_nil ?_
    refine g_iff rfl (ho) ?_
    refine g_skip ?_
    refine g_seq ?_
    refine go_conv (H' := pr True :: mRow bm bc M M.nw (M.nw + rest.length) wv sv false M.f M.t :: nRow bc M.nw M.now rest :: SecO bs { S with ff := M.c.words - fh % 20, ft := M.c.words, seen := [], dirty := [] } :: row b6 [u8 ki, .int .u16 at_, w64 v] 56 :: WasV M.nw wv M.was :: AccV 0 (sv, M.js) :: Fr) (fun w hh => by rw [ho] at hh; exact (((((hh.front 1 rfl).front 1 rfl).front 3 rfl).front 3 rfl)).unpr trivial) ?_
    refine go_sub (σ' := [(0, ptr bm), (1, ptr bs), (3, u8 fh), (6, .pointer (some ⟨b6, 0, none⟩)), (8, .bool false), (9, i64 0)]) ⟨rfl, rfl, rfl, rfl, rfl, rfl, trivial⟩ ?_
    refine g_anyg (G := Nat × List Value) [0, 1, 3, 6, 8, 9] (fun g i => match i with | 0 => ptr bm | 1 => ptr bm | 2 => ptr bm | 3 => ptr bm | 4 => ptr bm | 5 => ptr bm | 6 => .pointer (some ⟨bm, 0, none⟩) | 7 => cfgV M.c | 8 => u8 fh | 9 => .agg #[i64 (M.c.words - fh % 20), i64 M.c.words] | 10 => ptr bm | 11 => ptr bm | 12 => .pointer (some ⟨bm, 3, none⟩) | 13 => .slice (some ⟨bc, 0, none⟩) M.nw (M.nw + rest.length) | 14 => .slice (some ⟨g.1, 0, none⟩) M.nw (M.nw + g.2.length) | 15 => ptr bm | 16 => .pointer (some ⟨bm, 6, none⟩) | 18 => ptr bm | 19 => .pointer (some ⟨bm, 7, none⟩) | 21 => ptr bm | 22 => .pointer (some ⟨bm, 5, none⟩) | 24 => ptr bm | 25 => .pointer (some ⟨bm, 4, none⟩) | _ => undef) (fun L g => (if (L.getD 14 false) = true then row g.1 (tab M.nw (fun i => w64 (M.now i)) ++ g.2) 46 else pr True) :: row bm [i64 M.c.log, i64 M.c.roots, i64 M.c.space, .slice (some ⟨bc, 0, none⟩) M.nw (M.nw + rest.length), (if (L.getD 26 false) = true then .slice (some ⟨g.1, 0, none⟩) M.nw (M.nw + g.2.length) else wv), (if (L.getD 23 false) = true then .slice none 0 0 else sv), .bool (L.getD 17 false), i64 (if (L.getD 20 false) = true then M.c.words - fh % 20 else M.f), i64 (if (L.getD 20 false) = true then M.c.words else M.t)] 42 :: nRow bc M.nw M.now rest :: SecO bs { S with ff := M.c.words - fh % 20, ft := M.c.words, seen := [], dirty := [] } :: row b6 [u8 ki, .int .u16 at_, w64 v] 56 :: WasV M.nw wv M.was :: AccV 0 (sv, M.js) :: Fr) (0, []) (fun g => [(0, ptr bm), (1, ptr bs), (3, u8 fh), (6, .pointer (some ⟨b6, 0, none⟩)), (8, .bool false), (9, i64 0)]) (fun g => row g.1 (tab M.nw (fun i => w64 (M.now i)) ++ g.2) 46 :: mRow bm bc M M.nw (M.nw + rest.length) (.slice (some ⟨g.1, 0, none⟩) M.nw (M.nw + g.2.length)) (.slice none 0 0) true (M.c.words - fh % 20) M.c.words :: nRow bc M.nw M.now rest :: SecO bs { S with ff := M.c.words - fh % 20, ft := M.c.words, seen := [], dirty := [] } :: row b6 [u8 ki, .int .u16 at_, w64 v] 56 :: WasV M.nw wv M.was :: AccV 0 (sv, M.js) :: Fr) Try.mixed (by kernel_rfl) (fun t v h => look_mem h) rfl ?_ ?_ ?_
    · intro i o ho L g hsz hun hcl hdep a hk hd w hw
      have hi : i < 27 := (Array.getElem?_eq_some_iff.1 ho).1
      have hL : L.size = 27 := hsz
      obtain rfl | rfl | rfl | rfl | rfl | rfl | rfl | rfl | rfl | rfl | rfl | rfl | rfl | rfl | rfl | rfl | rfl | rfl | rfl | rfl | rfl | rfl | rfl | rfl | rfl | rfl | rfl : i = 0 ∨ i = 1 ∨ i = 2 ∨ i = 3 ∨ i = 4 ∨ i = 5 ∨ i = 6 ∨ i = 7 ∨ i = 8 ∨ i = 9 ∨ i = 10 ∨ i = 11 ∨ i = 12 ∨ i = 13 ∨ i = 14 ∨ i = 15 ∨ i = 16 ∨ i = 17 ∨ i = 18 ∨ i = 19 ∨ i = 20 ∨ i = 21 ∨ i = 22 ∨ i = 23 ∨ i = 24 ∨ i = 25 ∨ i = 26 := by omega
      · obtain rfl := Option.some.inj (show some _ = some o from ho)
        have hk' := hk
        have hun' : L.getD 0 false = false := getD_both hun
        refine doz_val (v := ptr bm) ?_ hk' hw ⟨g, fun _ => rfl, fun _ _ _ => rfl, by simpa only [getD_set_ne false (show (0 : Nat) ≠ 14 by decide), getD_set_ne false (show (0 : Nat) ≠ 17 by decide), getD_set_ne false (show (0 : Nat) ≠ 20 by decide), getD_set_ne false (show (0 : Nat) ≠ 23 by decide), getD_set_ne false (show (0 : Nat) ≠ 26 by decide)] using hw⟩
        first | exact ev_move rfl | exact Evs.eq (ev_move rfl) rfl
      · obtain rfl := Option.some.inj (show some _ = some o from ho)
        have hk' := hk
        have hun' : L.getD 1 false = false := getD_both hun
        refine doz_val (v := ptr bm) ?_ hk' hw ⟨g, fun _ => rfl, fun _ _ _ => rfl, by simpa only [getD_set_ne false (show (1 : Nat) ≠ 14 by decide), getD_set_ne false (show (1 : Nat) ≠ 17 by decide), getD_set_ne false (show (1 : Nat) ≠ 20 by decide), getD_set_ne false (show (1 : Nat) ≠ 23 by decide), getD_set_ne false (show (1 : Nat) ≠ 26 by decide)] using hw⟩
        first | exact ev_move rfl | exact Evs.eq (ev_move rfl) rfl
      · obtain rfl := Option.some.inj (show some _ = some o from ho)
        have hk' := hk
        have hun' : L.getD 2 false = false := getD_both hun
        refine doz_val (v := ptr bm) ?_ hk' hw ⟨g, fun _ => rfl, fun _ _ _ => rfl, by simpa only [getD_set_ne false (show (2 : Nat) ≠ 14 by decide), getD_set_ne false (show (2 : Nat) ≠ 17 by decide), getD_set_ne false (show (2 : Nat) ≠ 20 by decide), getD_set_ne false (show (2 : Nat) ≠ 23 by decide), getD_set_ne false (show (2 : Nat) ≠ 26 by decide)] using hw⟩
        first | exact ev_move rfl | exact Evs.eq (ev_move rfl) rfl
      · obtain rfl := Option.some.inj (show some _ = some o from ho)
        have hk' := hk
        have hun' : L.getD 3 false = false := getD_both hun
        refine doz_val (v := ptr bm) ?_ hk' hw ⟨g, fun _ => rfl, fun _ _ _ => rfl, by simpa only [getD_set_ne false (show (3 : Nat) ≠ 14 by decide), getD_set_ne false (show (3 : Nat) ≠ 17 by decide), getD_set_ne false (show (3 : Nat) ≠ 20 by decide), getD_set_ne false (show (3 : Nat) ≠ 23 by decide), getD_set_ne false (show (3 : Nat) ≠ 26 by decide)] using hw⟩
        first | exact ev_move rfl | exact Evs.eq (ev_move rfl) rfl
      · obtain rfl := Option.some.inj (show some _ = some o from ho)
        have hk' := hk
        have hun' : L.getD 4 false = false := getD_both hun
        refine doz_val (v := ptr bm) ?_ hk' hw ⟨g, fun _ => rfl, fun _ _ _ => rfl, by simpa only [getD_set_ne false (show (4 : Nat) ≠ 14 by decide), getD_set_ne false (show (4 : Nat) ≠ 17 by decide), getD_set_ne false (show (4 : Nat) ≠ 20 by decide), getD_set_ne false (show (4 : Nat) ≠ 23 by decide), getD_set_ne false (show (4 : Nat) ≠ 26 by decide)] using hw⟩
        first | exact ev_move rfl | exact Evs.eq (ev_move rfl) rfl
      · obtain rfl := Option.some.inj (show some _ = some o from ho)
        have d4_data : L.getD 4 false = true := hdep ⟨4, .data⟩ (by simp) rfl
        have d4 := d4_data
        have v4 : a.tmps[39]? = some (ptr bm) := hd 4 _ 39 rfl rfl d4
        have hk' := (knows_cons v4 hk)
        have hun' : L.getD 5 false = false := getD_both hun
        refine doz_val (v := ptr bm) ?_ hk' hw ⟨g, fun _ => rfl, fun _ _ _ => rfl, by simpa only [getD_set_ne false (show (5 : Nat) ≠ 14 by decide), getD_set_ne false (show (5 : Nat) ≠ 17 by decide), getD_set_ne false (show (5 : Nat) ≠ 20 by decide), getD_set_ne false (show (5 : Nat) ≠ 23 by decide), getD_set_ne false (show (5 : Nat) ≠ 26 by decide)] using hw⟩
        first | exact ev_nil rfl | exact ev_nilf rfl | exact Evs.eq (ev_nil rfl) rfl | exact Evs.eq (ev_nilf rfl) rfl
      · obtain rfl := Option.some.inj (show some _ = some o from ho)
        have d5_data : L.getD 5 false = true := hdep ⟨5, .data⟩ (by simp) rfl
        have d5 := d5_data
        have v5 : a.tmps[40]? = some (ptr bm) := hd 5 _ 40 rfl rfl d5
        have hk' := (knows_cons v5 hk)
        have hun' : L.getD 6 false = false := getD_both hun
        refine doz_val (v := .pointer (some ⟨bm, 0, none⟩)) ?_ hk' hw ⟨g, fun _ => rfl, fun _ _ _ => rfl, by simpa only [getD_set_ne false (show (6 : Nat) ≠ 14 by decide), getD_set_ne false (show (6 : Nat) ≠ 17 by decide), getD_set_ne false (show (6 : Nat) ≠ 20 by decide), getD_set_ne false (show (6 : Nat) ≠ 23 by decide), getD_set_ne false (show (6 : Nat) ≠ 26 by decide)] using hw⟩
        first | exact ev_fa (m := _) fa_42_0 rfl rfl | exact Evs.eq (ev_fa (m := _) fa_42_0 rfl rfl) rfl
      · obtain rfl := Option.some.inj (show some _ = some o from ho)
        have d6_data : L.getD 6 false = true := hdep ⟨6, .data⟩ (by simp) rfl
        have d6 := d6_data
        have v6 : a.tmps[41]? = some (.pointer (some ⟨bm, 0, none⟩)) := hd 6 _ 41 rfl rfl d6
        have hk' := (knows_cons v6 hk)
        have hun' : L.getD 7 false = false := getD_both hun
        refine doz_val (v := cfgV M.c) ?_ hk' hw ⟨g, fun _ => rfl, fun _ _ _ => rfl, by simpa only [getD_set_ne false (show (7 : Nat) ≠ 14 by decide), getD_set_ne false (show (7 : Nat) ≠ 17 by decide), getD_set_ne false (show (7 : Nat) ≠ 20 by decide), getD_set_ne false (show (7 : Nat) ≠ 23 by decide), getD_set_ne false (show (7 : Nat) ≠ 26 by decide)] using hw⟩
        first | exact ev_loadA Try.isAgg38 Try.sizeOf38 rfl rfl | exact Evs.eq (ev_loadA Try.isAgg38 Try.sizeOf38 rfl rfl) rfl
      · obtain rfl := Option.some.inj (show some _ = some o from ho)
        have hk' := hk
        have hun' : L.getD 8 false = false := getD_both hun
        refine doz_val (v := u8 fh) ?_ hk' hw ⟨g, fun _ => rfl, fun _ _ _ => rfl, by simpa only [getD_set_ne false (show (8 : Nat) ≠ 14 by decide), getD_set_ne false (show (8 : Nat) ≠ 17 by decide), getD_set_ne false (show (8 : Nat) ≠ 20 by decide), getD_set_ne false (show (8 : Nat) ≠ 23 by decide), getD_set_ne false (show (8 : Nat) ≠ 26 by decide)] using hw⟩
        first | exact ev_move rfl | exact Evs.eq (ev_move rfl) rfl
      · obtain rfl := Option.some.inj (show some _ = some o from ho)
        have d7_data : L.getD 7 false = true := hdep ⟨7, .data⟩ (by simp) rfl
        have d7 := d7_data
        have d8_data : L.getD 8 false = true := hdep ⟨8, .data⟩ (by simp) rfl
        have d8 := d8_data
        have v7 : a.tmps[42]? = some (cfgV M.c) := hd 7 _ 42 rfl rfl d7
        have v8 : a.tmps[43]? = some (u8 fh) := hd 8 _ 43 rfl rfl d8
        have hk' := (knows_cons v8 (knows_cons v7 hk))
        have hun' : L.getD 9 false = false := getD_both hun
        exact doz_pure (en_f Try.call55 rfl) (span_ok _ _ M.c hc _ hfr) hk' hw (fun w' hw' => ⟨g, fun _ => rfl, fun _ _ _ => rfl, by simpa only [getD_set_ne false (show (9 : Nat) ≠ 14 by decide), getD_set_ne false (show (9 : Nat) ≠ 17 by decide), getD_set_ne false (show (9 : Nat) ≠ 20 by decide), getD_set_ne false (show (9 : Nat) ≠ 23 by decide), getD_set_ne false (show (9 : Nat) ≠ 26 by decide)] using hw'⟩)
      · obtain rfl := Option.some.inj (show some _ = some o from ho)
        have hk' := hk
        have hun' : L.getD 10 false = false := getD_both hun
        refine doz_val (v := ptr bm) ?_ hk' hw ⟨g, fun _ => rfl, fun _ _ _ => rfl, by simpa only [getD_set_ne false (show (10 : Nat) ≠ 14 by decide), getD_set_ne false (show (10 : Nat) ≠ 17 by decide), getD_set_ne false (show (10 : Nat) ≠ 20 by decide), getD_set_ne false (show (10 : Nat) ≠ 23 by decide), getD_set_ne false (show (10 : Nat) ≠ 26 by decide)] using hw⟩
        first | exact ev_move rfl | exact Evs.eq (ev_move rfl) rfl
      · obtain rfl := Option.some.inj (show some _ = some o from ho)
        have d10_data : L.getD 10 false = true := hdep ⟨10, .data⟩ (by simp) rfl
        have d10 := d10_data
        have v10 : a.tmps[45]? = some (ptr bm) := hd 10 _ 45 rfl rfl d10
        have hk' := (knows_cons v10 hk)
        have hun' : L.getD 11 false = false := getD_both hun
        refine doz_val (v := ptr bm) ?_ hk' hw ⟨g, fun _ => rfl, fun _ _ _ => rfl, by simpa only [getD_set_ne false (show (11 : Nat) ≠ 14 by decide), getD_set_ne false (show (11 : Nat) ≠ 17 by decide), getD_set_ne false (show (11 : Nat) ≠ 20 by decide), getD_set_ne false (show (11 : Nat) ≠ 23 by decide), getD_set_ne false (show (11 : Nat) ≠ 26 by decide)] using hw⟩
        first | exact ev_nil rfl | exact ev_nilf rfl | exact Evs.eq (ev_nil rfl) rfl | exact Evs.eq (ev_nilf rfl) rfl
      · obtain rfl := Option.some.inj (show some _ = some o from ho)
        have d11_data : L.getD 11 false = true := hdep ⟨11, .data⟩ (by simp) rfl
        have d11 := d11_data
        have v11 : a.tmps[46]? = some (ptr bm) := hd 11 _ 46 rfl rfl d11
        have hk' := (knows_cons v11 hk)
        have hun' : L.getD 12 false = false := getD_both hun
        refine doz_val (v := .pointer (some ⟨bm, 3, none⟩)) ?_ hk' hw ⟨g, fun _ => rfl, fun _ _ _ => rfl, by simpa only [getD_set_ne false (show (12 : Nat) ≠ 14 by decide), getD_set_ne false (show (12 : Nat) ≠ 17 by decide), getD_set_ne false (show (12 : Nat) ≠ 20 by decide), getD_set_ne false (show (12 : Nat) ≠ 23 by decide), getD_set_ne false (show (12 : Nat) ≠ 26 by decide)] using hw⟩
        first | exact ev_fa (m := _) fa_42_1 rfl rfl | exact Evs.eq (ev_fa (m := _) fa_42_1 rfl rfl) rfl
      · obtain rfl := Option.some.inj (show some _ = some o from ho)
        have d12_data : L.getD 12 false = true := hdep ⟨12, .data⟩ (by simp) rfl
        have d12 := d12_data
        have v12 : a.tmps[47]? = some (.pointer (some ⟨bm, 3, none⟩)) := hd 12 _ 47 rfl rfl d12
        have hk' := (knows_cons v12 hk)
        have hun' : L.getD 13 false = false := getD_both hun
        refine doz_val (v := .slice (some ⟨bc, 0, none⟩) M.nw (M.nw + rest.length)) ?_ hk' hw ⟨g, fun _ => rfl, fun _ _ _ => rfl, by simpa only [getD_set_ne false (show (13 : Nat) ≠ 14 by decide), getD_set_ne false (show (13 : Nat) ≠ 17 by decide), getD_set_ne false (show (13 : Nat) ≠ 20 by decide), getD_set_ne false (show (13 : Nat) ≠ 23 by decide), getD_set_ne false (show (13 : Nat) ≠ 26 by decide)] using hw⟩
        first | exact ev_load Try.isAgg39 rfl rfl | exact Evs.eq (ev_load Try.isAgg39 rfl rfl) rfl
      · obtain rfl := Option.some.inj (show some _ = some o from ho)
        have d13_data : L.getD 13 false = true := hdep ⟨13, .data⟩ (by simp) rfl
        have d13 := d13_data
        have v13 : a.tmps[48]? = some (.slice (some ⟨bc, 0, none⟩) M.nw (M.nw + rest.length)) := hd 13 _ 48 rfl rfl d13
        have hk' := (knows_cons v13 hk)
        have hun' : L.getD 14 false = false := getD_both hun
        have n26 : L.getD 26 false = false := by
          cases h : L.getD 26 false with
          | false => rfl
          | true => have h2 := hcl 26 _ rfl h ⟨14, .data⟩ (by simp) rfl; rw [hun'] at h2; cases h2
        simp only [hun'] at hw
        refine doz_call (en_f Try.call34 rfl) (clone64_ok B _ _ _ _ (tab M.nw (fun i => w64 (M.now i))) (by simp) (by rw [tab_len]; omega) (by simp [tab, cell1]) SlR.tabr) hk' hw ?_
        rintro v H' ⟨bn, rest', rfl, rfl⟩ w' hw'
        refine ⟨(bn, rest'), fun _ => rfl, fun j hj hl => ?_, ?_⟩
        · match j with
          | 14 => exact absurd rfl hj
          | 0 | 1 | 2 | 3 | 4 | 5 | 6 | 7 | 8 | 9 | 10 | 11 | 12 | 13 | 15 | 16 | 18 | 19 | 21 | 22 | 24 | 25 => rfl
          | 17 | 20 | 23 | 26 | _ + 27 => rfl
        · simp only [getD_set_ne false (show (14 : Nat) ≠ 17 by decide), getD_set_ne false (show (14 : Nat) ≠ 20 by decide), getD_set_ne false (show (14 : Nat) ≠ 23 by decide), getD_set_ne false (show (14 : Nat) ≠ 26 by decide), getD_set_eq (show 14 < L.size by omega)]
          simp only [n26, if_true] at hw' ⊢
          exact (hw'.front 1 rfl).tail
      · obtain rfl := Option.some.inj (show some _ = some o from ho)
        have d0_data : L.getD 0 false = true := hdep ⟨0, .data⟩ (by simp) rfl
        have d0 := d0_data
        have d0_phase : L.getD 0 false = true := hdep ⟨0, .phase⟩ (by simp) rfl
        have d0 := d0_phase
        have d14_phase : L.getD 14 false = true := hdep ⟨14, .phase⟩ (by simp) rfl
        have d14 := d14_phase
        have v0 : a.tmps[35]? = some (ptr bm) := hd 0 _ 35 rfl rfl d0
        have hk' := (knows_cons v0 hk)
        have hun' : L.getD 15 false = false := getD_both hun
        refine doz_val (v := ptr bm) ?_ hk' hw ⟨g, fun _ => rfl, fun _ _ _ => rfl, by simpa only [getD_set_ne false (show (15 : Nat) ≠ 14 by decide), getD_set_ne false (show (15 : Nat) ≠ 17 by decide), getD_set_ne false (show (15 : Nat) ≠ 20 by decide), getD_set_ne false (show (15 : Nat) ≠ 23 by decide), getD_set_ne false (show (15 : Nat) ≠ 26 by decide)] using hw⟩
        first | exact ev_nil rfl | exact ev_nilf rfl | exact Evs.eq (ev_nil rfl) rfl | exact Evs.eq (ev_nilf rfl) rfl
      · obtain rfl := Option.some.inj (show some _ = some o from ho)
        have d15_data : L.getD 15 false = true := hdep ⟨15, .data⟩ (by simp) rfl
        have d15 := d15_data
        have d14_phase : L.getD 14 false = true := hdep ⟨14, .phase⟩ (by simp) rfl
        have d14 := d14_phase
        have v15 : a.tmps[50]? = some (ptr bm) := hd 15 _ 50 rfl rfl d15
        have hk' := (knows_cons v15 hk)
        have hun' : L.getD 16 false = false := getD_both hun
        refine doz_val (v := .pointer (some ⟨bm, 6, none⟩)) ?_ hk' hw ⟨g, fun _ => rfl, fun _ _ _ => rfl, by simpa only [getD_set_ne false (show (16 : Nat) ≠ 14 by decide), getD_set_ne false (show (16 : Nat) ≠ 17 by decide), getD_set_ne false (show (16 : Nat) ≠ 20 by decide), getD_set_ne false (show (16 : Nat) ≠ 23 by decide), getD_set_ne false (show (16 : Nat) ≠ 26 by decide)] using hw⟩
        first | exact ev_fa (m := _) fa_42_4 rfl rfl | exact Evs.eq (ev_fa (m := _) fa_42_4 rfl rfl) rfl
      · obtain rfl := Option.some.inj (show some _ = some o from ho)
        have d16_data : L.getD 16 false = true := hdep ⟨16, .data⟩ (by simp) rfl
        have d16 := d16_data
        have d14_chain : L.getD 14 false = true := hdep ⟨14, .chain⟩ (by simp) rfl
        have d14 := d14_chain
        have d14_phase : L.getD 14 false = true := hdep ⟨14, .phase⟩ (by simp) rfl
        have d14 := d14_phase
        have v16 : a.tmps[51]? = some (.pointer (some ⟨bm, 6, none⟩)) := hd 16 _ 51 rfl rfl d16
        have hk' := (knows_cons v16 hk)
        have hun' : L.getD 17 false = false := getD_both hun
        refine doz_chg (ch_store Try.sizeOf4 rfl rfl rfl rfl) hk' hw ?_
        rintro v H' rfl w' hw'
        refine ⟨g, fun h => absurd rfl h, fun _ _ _ => rfl, ?_⟩
        simp only [getD_set_ne false (show (17 : Nat) ≠ 14 by decide), getD_set_ne false (show (17 : Nat) ≠ 20 by decide), getD_set_ne false (show (17 : Nat) ≠ 23 by decide), getD_set_ne false (show (17 : Nat) ≠ 26 by decide), getD_set_eq (show 17 < L.size by omega)]
        simp only [hun', if_true] at hw' ⊢
        exact hw'
      · obtain rfl := Option.some.inj (show some _ = some o from ho)
        have d1_data : L.getD 1 false = true := hdep ⟨1, .data⟩ (by simp) rfl
        have d1 := d1_data
        have d1_phase : L.getD 1 false = true := hdep ⟨1, .phase⟩ (by simp) rfl
        have d1 := d1_phase
        have d14_phase : L.getD 14 false = true := hdep ⟨14, .phase⟩ (by simp) rfl
        have d14 := d14_phase
        have d17_phase : L.getD 17 false = true := hdep ⟨17, .phase⟩ (by simp) rfl
        have d17 := d17_phase
        have v1 : a.tmps[36]? = some (ptr bm) := hd 1 _ 36 rfl rfl d1
        have hk' := (knows_cons v1 hk)
        have hun' : L.getD 18 false = false := getD_both hun
        refine doz_val (v := ptr bm) ?_ hk' hw ⟨g, fun _ => rfl, fun _ _ _ => rfl, by simpa only [getD_set_ne false (show (18 : Nat) ≠ 14 by decide), getD_set_ne false (show (18 : Nat) ≠ 17 by decide), getD_set_ne false (show (18 : Nat) ≠ 20 by decide), getD_set_ne false (show (18 : Nat) ≠ 23 by decide), getD_set_ne false (show (18 : Nat) ≠ 26 by decide)] using hw⟩
        first | exact ev_nil rfl | exact ev_nilf rfl | exact Evs.eq (ev_nil rfl) rfl | exact Evs.eq (ev_nilf rfl) rfl
      · obtain rfl := Option.some.inj (show some _ = some o from ho)
        have d18_data : L.getD 18 false = true := hdep ⟨18, .data⟩ (by simp) rfl
        have d18 := d18_data
        have d14_phase : L.getD 14 false = true := hdep ⟨14, .phase⟩ (by simp) rfl
        have d14 := d14_phase
        have d17_phase : L.getD 17 false = true := hdep ⟨17, .phase⟩ (by simp) rfl
        have d17 := d17_phase
        have v18 : a.tmps[52]? = some (ptr bm) := hd 18 _ 52 rfl rfl d18
        have hk' := (knows_cons v18 hk)
        have hun' : L.getD 19 false = false := getD_both hun
        refine doz_val (v := .pointer (some ⟨bm, 7, none⟩)) ?_ hk' hw ⟨g, fun _ => rfl, fun _ _ _ => rfl, by simpa only [getD_set_ne false (show (19 : Nat) ≠ 14 by decide), getD_set_ne false (show (19 : Nat) ≠ 17 by decide), getD_set_ne false (show (19 : Nat) ≠ 20 by decide), getD_set_ne false (show (19 : Nat) ≠ 23 by decide), getD_set_ne false (show (19 : Nat) ≠ 26 by decide)] using hw⟩
        first | exact ev_fa (m := _) fa_42_5 rfl rfl | exact Evs.eq (ev_fa (m := _) fa_42_5 rfl rfl) rfl
      · obtain rfl := Option.some.inj (show some _ = some o from ho)
        have d19_data : L.getD 19 false = true := hdep ⟨19, .data⟩ (by simp) rfl
        have d19 := d19_data
        have d9_data : L.getD 9 false = true := hdep ⟨9, .data⟩ (by simp) rfl
        have d9 := d9_data
        have d17_chain : L.getD 17 false = true := hdep ⟨17, .chain⟩ (by simp) rfl
        have d17 := d17_chain
        have d9_phase : L.getD 9 false = true := hdep ⟨9, .phase⟩ (by simp) rfl
        have d9 := d9_phase
        have d14_phase : L.getD 14 false = true := hdep ⟨14, .phase⟩ (by simp) rfl
        have d14 := d14_phase
        have d17_phase : L.getD 17 false = true := hdep ⟨17, .phase⟩ (by simp) rfl
        have d17 := d17_phase
        have v9 : a.tmps[44]? = some (.agg #[i64 (M.c.words - fh % 20), i64 M.c.words]) := hd 9 _ 44 rfl rfl d9
        have v19 : a.tmps[53]? = some (.pointer (some ⟨bm, 7, none⟩)) := hd 19 _ 53 rfl rfl d19
        have hk' := (knows_cons v19 (knows_cons v9 hk))
        have hun' : L.getD 20 false = false := getD_both hun
        refine doz_chg (ch_storeA (vs := [i64 (M.c.words - fh % 20), i64 M.c.words]) Try.sizeOf35 rfl rfl rfl rfl rfl) hk' hw ?_
        rintro v H' rfl w' hw'
        refine ⟨g, fun h => absurd rfl h, fun _ _ _ => rfl, ?_⟩
        simp only [getD_set_ne false (show (20 : Nat) ≠ 14 by decide), getD_set_ne false (show (20 : Nat) ≠ 17 by decide), getD_set_ne false (show (20 : Nat) ≠ 23 by decide), getD_set_ne false (show (20 : Nat) ≠ 26 by decide), getD_set_eq (show 20 < L.size by omega)]
        simp only [hun', if_true] at hw' ⊢
        exact hw'
      · obtain rfl := Option.some.inj (show some _ = some o from ho)
        have d2_data : L.getD 2 false = true := hdep ⟨2, .data⟩ (by simp) rfl
        have d2 := d2_data
        have d2_phase : L.getD 2 false = true := hdep ⟨2, .phase⟩ (by simp) rfl
        have d2 := d2_phase
        have d14_phase : L.getD 14 false = true := hdep ⟨14, .phase⟩ (by simp) rfl
        have d14 := d14_phase
        have d17_phase : L.getD 17 false = true := hdep ⟨17, .phase⟩ (by simp) rfl
        have d17 := d17_phase
        have d20_phase : L.getD 20 false = true := hdep ⟨20, .phase⟩ (by simp) rfl
        have d20 := d20_phase
        have v2 : a.tmps[37]? = some (ptr bm) := hd 2 _ 37 rfl rfl d2
        have hk' := (knows_cons v2 hk)
        have hun' : L.getD 21 false = false := getD_both hun
        refine doz_val (v := ptr bm) ?_ hk' hw ⟨g, fun _ => rfl, fun _ _ _ => rfl, by simpa only [getD_set_ne false (show (21 : Nat) ≠ 14 by decide), getD_set_ne false (show (21 : Nat) ≠ 17 by decide), getD_set_ne false (show (21 : Nat) ≠ 20 by decide), getD_set_ne false (show (21 : Nat) ≠ 23 by decide), getD_set_ne false (show (21 : Nat) ≠ 26 by decide)] using hw⟩
        first | exact ev_nil rfl | exact ev_nilf rfl | exact Evs.eq (ev_nil rfl) rfl | exact Evs.eq (ev_nilf rfl) rfl
      · obtain rfl := Option.some.inj (show some _ = some o from ho)
        have d21_data : L.getD 21 false = true := hdep ⟨21, .data⟩ (by simp) rfl
        have d21 := d21_data
        have d14_phase : L.getD 14 false = true := hdep ⟨14, .phase⟩ (by simp) rfl
        have d14 := d14_phase
        have d17_phase : L.getD 17 false = true := hdep ⟨17, .phase⟩ (by simp) rfl
        have d17 := d17_phase
        have d20_phase : L.getD 20 false = true := hdep ⟨20, .phase⟩ (by simp) rfl
        have d20 := d20_phase
        have v21 : a.tmps[54]? = some (ptr bm) := hd 21 _ 54 rfl rfl d21
        have hk' := (knows_cons v21 hk)
        have hun' : L.getD 22 false = false := getD_both hun
        refine doz_val (v := .pointer (some ⟨bm, 5, none⟩)) ?_ hk' hw ⟨g, fun _ => rfl, fun _ _ _ => rfl, by simpa only [getD_set_ne false (show (22 : Nat) ≠ 14 by decide), getD_set_ne false (show (22 : Nat) ≠ 17 by decide), getD_set_ne false (show (22 : Nat) ≠ 20 by decide), getD_set_ne false (show (22 : Nat) ≠ 23 by decide), getD_set_ne false (show (22 : Nat) ≠ 26 by decide)] using hw⟩
        first | exact ev_fa (m := _) fa_42_3 rfl rfl | exact Evs.eq (ev_fa (m := _) fa_42_3 rfl rfl) rfl
      · obtain rfl := Option.some.inj (show some _ = some o from ho)
        have d22_data : L.getD 22 false = true := hdep ⟨22, .data⟩ (by simp) rfl
        have d22 := d22_data
        have d20_chain : L.getD 20 false = true := hdep ⟨20, .chain⟩ (by simp) rfl
        have d20 := d20_chain
        have d14_phase : L.getD 14 false = true := hdep ⟨14, .phase⟩ (by simp) rfl
        have d14 := d14_phase
        have d17_phase : L.getD 17 false = true := hdep ⟨17, .phase⟩ (by simp) rfl
        have d17 := d17_phase
        have d20_phase : L.getD 20 false = true := hdep ⟨20, .phase⟩ (by simp) rfl
        have d20 := d20_phase
        have v22 : a.tmps[55]? = some (.pointer (some ⟨bm, 5, none⟩)) := hd 22 _ 55 rfl rfl d22
        have hk' := (knows_cons v22 hk)
        have hun' : L.getD 23 false = false := getD_both hun
        refine doz_chg (ch_store Try.sizeOf40 rfl rfl rfl rfl) hk' hw ?_
        rintro v H' rfl w' hw'
        refine ⟨g, fun h => absurd rfl h, fun _ _ _ => rfl, ?_⟩
        simp only [getD_set_ne false (show (23 : Nat) ≠ 14 by decide), getD_set_ne false (show (23 : Nat) ≠ 17 by decide), getD_set_ne false (show (23 : Nat) ≠ 20 by decide), getD_set_ne false (show (23 : Nat) ≠ 26 by decide), getD_set_eq (show 23 < L.size by omega)]
        simp only [hun', if_true] at hw' ⊢
        exact hw'
      · obtain rfl := Option.some.inj (show some _ = some o from ho)
        have d3_data : L.getD 3 false = true := hdep ⟨3, .data⟩ (by simp) rfl
        have d3 := d3_data
        have d3_phase : L.getD 3 false = true := hdep ⟨3, .phase⟩ (by simp) rfl
        have d3 := d3_phase
        have d14_phase : L.getD 14 false = true := hdep ⟨14, .phase⟩ (by simp) rfl
        have d14 := d14_phase
        have d17_phase : L.getD 17 false = true := hdep ⟨17, .phase⟩ (by simp) rfl
        have d17 := d17_phase
        have d20_phase : L.getD 20 false = true := hdep ⟨20, .phase⟩ (by simp) rfl
        have d20 := d20_phase
        have d23_phase : L.getD 23 false = true := hdep ⟨23, .phase⟩ (by simp) rfl
        have d23 := d23_phase
        have v3 : a.tmps[38]? = some (ptr bm) := hd 3 _ 38 rfl rfl d3
        have hk' := (knows_cons v3 hk)
        have hun' : L.getD 24 false = false := getD_both hun
        refine doz_val (v := ptr bm) ?_ hk' hw ⟨g, fun _ => rfl, fun _ _ _ => rfl, by simpa only [getD_set_ne false (show (24 : Nat) ≠ 14 by decide), getD_set_ne false (show (24 : Nat) ≠ 17 by decide), getD_set_ne false (show (24 : Nat) ≠ 20 by decide), getD_set_ne false (show (24 : Nat) ≠ 23 by decide), getD_set_ne false (show (24 : Nat) ≠ 26 by decide)] using hw⟩
        first | exact ev_nil rfl | exact ev_nilf rfl | exact Evs.eq (ev_nil rfl) rfl | exact Evs.eq (ev_nilf rfl) rfl
      · obtain rfl := Option.some.inj (show some _ = some o from ho)
        have d24_data : L.getD 24 false = true := hdep ⟨24, .data⟩ (by simp) rfl
        have d24 := d24_data
        have d14_phase : L.getD 14 false = true := hdep ⟨14, .phase⟩ (by simp) rfl
        have d14 := d14_phase
        have d17_phase : L.getD 17 false = true := hdep ⟨17, .phase⟩ (by simp) rfl
        have d17 := d17_phase
        have d20_phase : L.getD 20 false = true := hdep ⟨20, .phase⟩ (by simp) rfl
        have d20 := d20_phase
        have d23_phase : L.getD 23 false = true := hdep ⟨23, .phase⟩ (by simp) rfl
        have d23 := d23_phase
        have v24 : a.tmps[56]? = some (ptr bm) := hd 24 _ 56 rfl rfl d24
        have hk' := (knows_cons v24 hk)
        have hun' : L.getD 25 false = false := getD_both hun
        refine doz_val (v := .pointer (some ⟨bm, 4, none⟩)) ?_ hk' hw ⟨g, fun _ => rfl, fun _ _ _ => rfl, by simpa only [getD_set_ne false (show (25 : Nat) ≠ 14 by decide), getD_set_ne false (show (25 : Nat) ≠ 17 by decide), getD_set_ne false (show (25 : Nat) ≠ 20 by decide), getD_set_ne false (show (25 : Nat) ≠ 23 by decide), getD_set_ne false (show (25 : Nat) ≠ 26 by decide)] using hw⟩
        first | exact ev_fa (m := _) fa_42_2 rfl rfl | exact Evs.eq (ev_fa (m := _) fa_42_2 rfl rfl) rfl
      · obtain rfl := Option.some.inj (show some _ = some o from ho)
        have d25_data : L.getD 25 false = true := hdep ⟨25, .data⟩ (by simp) rfl
        have d25 := d25_data
        have d14_data : L.getD 14 false = true := hdep ⟨14, .data⟩ (by simp) rfl
        have d14 := d14_data
        have d23_chain : L.getD 23 false = true := hdep ⟨23, .chain⟩ (by simp) rfl
        have d23 := d23_chain
        have d14_phase : L.getD 14 false = true := hdep ⟨14, .phase⟩ (by simp) rfl
        have d14 := d14_phase
        have d17_phase : L.getD 17 false = true := hdep ⟨17, .phase⟩ (by simp) rfl
        have d17 := d17_phase
        have d20_phase : L.getD 20 false = true := hdep ⟨20, .phase⟩ (by simp) rfl
        have d20 := d20_phase
        have d23_phase : L.getD 23 false = true := hdep ⟨23, .phase⟩ (by simp) rfl
        have d23 := d23_phase
        have v14 : a.tmps[49]? = some (.slice (some ⟨g.1, 0, none⟩) M.nw (M.nw + g.2.length)) := hd 14 _ 49 rfl rfl d14
        have v25 : a.tmps[57]? = some (.pointer (some ⟨bm, 4, none⟩)) := hd 25 _ 57 rfl rfl d25
        have hk' := (knows_cons v25 (knows_cons v14 hk))
        have hun' : L.getD 26 false = false := getD_both hun
        refine doz_chg (ch_store Try.sizeOf39 rfl rfl rfl rfl) hk' hw ?_
        rintro v H' rfl w' hw'
        refine ⟨g, fun h => absurd rfl h, fun _ _ _ => rfl, ?_⟩
        simp only [getD_set_ne false (show (26 : Nat) ≠ 14 by decide), getD_set_ne false (show (26 : Nat) ≠ 17 by decide), getD_set_ne false (show (26 : Nat) ≠ 20 by decide), getD_set_ne false (show (26 : Nat) ≠ 23 by decide), getD_set_eq (show 26 < L.size by omega)]
        simp only [hun', if_true] at hw' ⊢
        exact hw'
    · intro L g hall a w hk hd hw
      have h14 := hall 14 (by decide)
      have h17 := hall 17 (by decide)
      have h20 := hall 20 (by decide)
      have h23 := hall 23 (by decide)
      have h26 := hall 26 (by decide)
      simp only [h14, h17, h20, h23, h26, if_true] at hw
      exact ⟨hk, hw⟩
    intro g
    refine g_seq ?_
    refine g_region ?_
    refine p_val rfl (ev_move rfl) .free rfl rfl ?_
    refine p_val rfl (ev_cmp rfl rfl rfl) .free rfl rfl ?_
    refine p_val rfl (ev_assign rfl) .free rfl rfl ?_
    refine p_nil ?_
    refine go_sub (σ' := [(8, _), (6, _), (0, _), (1, _)]) ⟨rfl, rfl, rfl, rfl, trivial⟩ ?_
    refine g_ret ?_
    exact ret_tmp Try.results18 rfl (fun w hh => ⟨_, ⟨rfl, .inl ⟨q0, rfl⟩⟩, ma_holds (M := M.begin (M.c.words - fh % 20) M.c.words) (((((accv_nil (was_row (g := M.now) (nw := M.nw) rfl rfl ((((hh.front 4 rfl).tail.front 4 rfl).tail.front 4 rfl).tail.front 0 rfl))).front 0 rfl).front 1 rfl).front 3 rfl).front 3 rfl)⟩)
  · have q0 : ki % 8 ≠ 0 := by simpa using h19
    refine g_seq ?_
    refine g_region ?_
    refine p_val rfl (ev_cmp rfl rfl rfl) .free rfl rfl ?_
    refine p_val rfl (ev_assign rfl) .free rfl rfl ?_
    refine p_nil ?_
    refine go_sub (σ' := [(60, _), (18, _), (8, _), (6, _), (0, _), (1, _)]) ⟨rfl, rfl, rfl, rfl, rfl, rfl, trivial⟩ ?_
    refine g_if rfl (fun h60 => ?_) (fun h60 => ?_)
    · have q1 : ki % 8 = 1 := by simpa using h60
      refine g_seq ?_
      refine g_region ?_
      refine p_val rfl (ev_move rfl) .free rfl rfl ?_
      refine p_callq rfl (en_f Try.call17 rfl) (ro_at (q := SecC) (fun Fr => scommitC_ok _ Fr _ _)) .free rfl rfl ?_
      refine p_val rfl (ev_assign rfl) .free rfl rfl ?_
      refine p_nil ?_
      refine g_seq ?_
      refine g_seq ?_
      refine g_region ?_
      refine p_val rfl (ev_move rfl) .free rfl rfl ?_
      first | refine p_val rfl (ev_nil rfl) .free rfl rfl ?_ | refine p_val rfl (ev_nilf rfl) .free rfl rfl ?_
      refine p_val rfl (ev_fa (m := _) fa_42_4 rfl rfl) .free rfl rfl ?_
      refine p_val rfl (ev_load Try.isAgg4 rfl rfl) .free rfl rfl ?_
      refine p_val rfl (ev_not rfl) .free rfl rfl ?_
      refine p_nil ?_
      refine go_sub (σ' := [(68, _), (10, _), (8, _), (6, _), (0, _), (1, _)]) ⟨rfl, rfl, rfl, rfl, rfl, rfl, trivial⟩ ?_
      refine g_ift rfl (by rw [ho]; rfl) ?_
      refine g_seq ?_
      refine g_region ?_
      refine p_val rfl (ev_move rfl) .free rfl rfl ?_
      refine p_val rfl (ev_cmp rfl rfl rfl) .free rfl rfl ?_
      refine p_val rfl (ev_assign rfl) .free rfl rfl ?_
      refine p_nil ?_
      refine g_ret ?_
      exact ret_tmp Try.results18 rfl (fun w hh => ⟨_, ⟨rfl, .inr ⟨by omega, rfl⟩⟩, ma_holds ((((((hh.front 0 rfl).tail.front 4 rfl).front 4 rfl).front 4 rfl).front 4 rfl).front 4 rfl)⟩)
    · have q1 : ki % 8 ≠ 1 := by simpa using h60
      refine g_seq ?_
      refine g_region ?_
      refine p_val rfl (ev_cmp rfl rfl rfl) .free rfl rfl ?_
      refine p_val rfl (ev_assign rfl) .free rfl rfl ?_
      refine p_nil ?_
      refine g_if rfl (fun h76 => ?_) (fun h76 => ?_)
      · have q2 : ki % 8 = 2 := by simpa using h76
        refine g_seq ?_
        refine g_region ?_
        refine p_val rfl (ev_move rfl) .free rfl rfl ?_
        refine p_callq rfl (en_f Try.call22 rfl) (ro_at (q := SecC) (fun Fr => sabortC_ok _ Fr _ _)) .free rfl rfl ?_
        refine p_val rfl (ev_assign rfl) .free rfl rfl ?_
        refine p_nil ?_
        refine g_seq ?_
        refine g_seq ?_
        refine g_region ?_
        refine p_val rfl (ev_move rfl) .free rfl rfl ?_
        first | refine p_val rfl (ev_nil rfl) .free rfl rfl ?_ | refine p_val rfl (ev_nilf rfl) .free rfl rfl ?_
        refine p_val rfl (ev_fa (m := _) fa_42_4 rfl rfl) .free rfl rfl ?_
        refine p_val rfl (ev_load Try.isAgg4 rfl rfl) .free rfl rfl ?_
        refine p_val rfl (ev_not rfl) .free rfl rfl ?_
        refine p_nil ?_
        refine go_sub (σ' := [(84, _), (11, _), (8, _), (6, _), (0, _), (1, _)]) ⟨rfl, rfl, rfl, rfl, rfl, rfl, trivial⟩ ?_
        refine g_ift rfl (by rw [ho]; rfl) ?_
        refine g_seq ?_
        refine g_region ?_
        refine p_val rfl (ev_move rfl) .free rfl rfl ?_
        refine p_val rfl (ev_cmp rfl rfl rfl) .free rfl rfl ?_
        refine p_val rfl (ev_assign rfl) .free rfl rfl ?_
        refine p_nil ?_
        refine g_ret ?_
        exact ret_tmp Try.results18 rfl (fun w hh => ⟨_, ⟨rfl, .inr ⟨by omega, rfl⟩⟩, ma_holds ((((((hh.front 0 rfl).tail.front 4 rfl).front 4 rfl).front 4 rfl).front 4 rfl).front 4 rfl)⟩)
      · have q2 : ki % 8 ≠ 2 := by simpa using h76
        refine g_skip ?_
        refine g_seq ?_
        refine g_draw Try.mixed (by kernel_rfl) (by kernel_rfl) ?_
        refine q_val rfl (ev_move rfl) .free rfl ?_
        first | refine q_val rfl (ev_nil rfl) .free rfl ?_ | refine q_val rfl (ev_nilf rfl) .free rfl ?_
        refine q_val rfl (ev_fa (m := _) fa_42_0 rfl rfl) .free rfl ?_
        refine q_val rfl (ev_loadA Try.isAgg38 Try.sizeOf38 rfl rfl) .free rfl ?_
        refine q_call rfl (en_f Try.call12 rfl) (active_ok _ _ M.c hc) .free rfl ?_
        first | refine q_val rfl (ev_sub rfl rfl (wr64 (by omega))) .free rfl ?_ | refine q_val rfl (ev_sub rfl rfl rfl) .free rfl ?_
        refine q_val rfl (ev_fa (m := _) fa_56_1 rfl rfl) .free rfl ?_
        refine q_val rfl (ev_load Try.isAgg22 rfl rfl) .free rfl ?_
        first | refine q_val rfl (ev_conv Try.runUnderlying22 Try.runUnderlying3 rfl (wr64 (by omega))) .free rfl ?_ | refine q_val rfl (ev_conv Try.runUnderlying22 Try.runUnderlying3 rfl rfl) .free rfl ?_
        refine q_val rfl (ev_move rfl) .free rfl ?_
        first | refine q_val rfl (ev_nil rfl) .free rfl ?_ | refine q_val rfl (ev_nilf rfl) .free rfl ?_
        refine q_val rfl (ev_fa (m := _) fa_42_0 rfl rfl) .free rfl ?_
        refine q_val rfl (ev_loadA Try.isAgg38 Try.sizeOf38 rfl rfl) .free rfl ?_
        refine q_call rfl (en_f Try.call13 rfl) (cwords_ok _ _ M.c hc) .free rfl ?_
        refine q_val rfl (ev_move rfl) .free rfl ?_
        first | refine q_val rfl (ev_nil rfl) .free rfl ?_ | refine q_val rfl (ev_nilf rfl) .free rfl ?_
        refine q_val rfl (ev_fa (m := _) fa_42_0 rfl rfl) .free rfl ?_
        refine q_val rfl (ev_loadA Try.isAgg38 Try.sizeOf38 rfl rfl) .free rfl ?_
        refine q_call rfl (en_f Try.call12 rfl) (active_ok _ _ M.c hc) .free rfl ?_
        first | refine q_val rfl (ev_sub rfl rfl (wr64 (by omega))) .free rfl ?_ | refine q_val rfl (ev_sub rfl rfl rfl) .free rfl ?_
        first | refine q_val rfl (ev_add rfl rfl (wr64 (by omega))) .free rfl ?_ | refine q_val rfl (ev_add rfl rfl rfl) .free rfl ?_
        refine q_val rfl ((ev_rem (c := at_ % (M.c.words - M.c.active + 8)) rfl rfl (by omega) (rem_e _ hat.1))) .free rfl ?_
        refine q_val rfl ((ev_add (c := M.c.ix at_) rfl rfl ((wr64 (by omega)).trans rfl))) .free rfl ?_
        refine q_val rfl (ev_assign rfl) .free rfl ?_
        refine q_nil ?_
        refine go_sub (σ' := [(14, _), (8, _), (6, _), (0, _), (1, _)]) ⟨rfl, rfl, rfl, rfl, rfl, trivial⟩ ?_
        refine g_seq ?_
        refine g_region ?_
        refine p_val rfl (ev_move rfl) .free rfl rfl ?_
        refine p_val rfl (ev_move rfl) .free rfl rfl ?_
        refine p_val rfl (ev_fa (m := _) fa_56_2 rfl rfl) .free rfl rfl ?_
        refine p_val rfl (ev_load Try.isAgg46 rfl rfl) .free rfl rfl ?_
        refine p_callq rfl (en_f Try.call14 rfl) (ro_at (q := SecC) (fun Fr => sstoreC_ok _ Fr _ _ _ _)) .free rfl rfl ?_
        refine p_val rfl (ev_assign rfl) .free rfl rfl ?_
        refine p_nil ?_
        refine g_seq ?_
        refine g_block ?_
        refine g_seq ?_
        refine g_region ?_
        refine p_val rfl (ev_move rfl) .free rfl rfl ?_
        first | refine p_val rfl (ev_nil rfl) .free rfl rfl ?_ | refine p_val rfl (ev_nilf rfl) .free rfl rfl ?_
        refine p_val rfl (ev_fa (m := _) fa_42_4 rfl rfl) .free rfl rfl ?_
        refine p_val rfl (ev_load Try.isAgg4 rfl rfl) .free rfl rfl ?_
        refine p_val rfl (ev_not rfl) .free rfl rfl ?_
        refine p_val rfl (ev_assign rfl) .free rfl rfl ?_
        refine p_nil ?_
        refine go_sub (σ' := [(165, _), (15, _), (14, _), (8, _), (6, _), (0, _)]) ⟨rfl, rfl, rfl, rfl, rfl, rfl, trivial⟩ ?_
        refine g_ift rfl (by rw [ho]; rfl) ?_
        refine g_seq ?_
        refine g_region ?_
        refine p_val rfl (ev_move rfl) .free rfl rfl ?_
        refine p_val rfl (ev_cmp rfl rfl rfl) .free rfl rfl ?_
        refine p_val rfl (ev_assign rfl) .free rfl rfl ?_
        refine p_nil ?_
        refine g_ret ?_
        exact ret_tmp Try.results18 rfl (fun w hh => ⟨_, ⟨rfl, .inr ⟨by omega, rfl⟩⟩, ma_holds ((((((hh.front 0 rfl).tail.front 4 rfl).front 4 rfl).front 4 rfl).front 4 rfl).front 4 rfl)⟩)

theorem mdoO_ok (B : World) (Fr : List HP) (bm bs : Nat) (S : SecS) (M : MS) (hc : CfgW M.c) (hnw : M.nw = M.c.words.toNat - M.c.active.toNat) (ki at_ v fh : Int) (hki : 0 ≤ ki) (hat : 0 ≤ at_ ∧ at_ ≤ 65535) (hfr : 0 ≤ fh) (s : Dev) (ho : M.o = true) (hSw : SecW S) (hdl : S.dirty.length ≤ 1000000) (hjl : M.js.length ≤ 1000000) (g : Nat → Int) (hwas : M.was = some g) :
    ∀ w, Holds B (MA bm M :: SecO bs S :: DevA S.L.d s :: Fr) w → Calls Try.prog 18 [ptr bm, ptr bs, .agg #[u8 ki, .int .u16 at_, w64 v], u8 fh].toArray w (Ret B (fun rv H' => (ki % 8 = 0 ∧ rv = .bool true ∧ H' = MA bm M :: SecO bs S :: DevA S.L.d s :: Fr) ∨ (ki % 8 = 1 ∧ rv = .bool true ∧ ∃ S' s', S.commit s = .ok S' s' ∧ H' = MA bm { M with o := false } :: SecC bs S' :: DevA S.L.d s' :: Fr) ∨ (ki % 8 = 2 ∧ rv = .bool true ∧ ∃ S' s', S.abort s = .ok S' s' ∧ H' = MA bm (M.abort g) :: SecC bs S' :: DevA S.L.d s' :: Fr) ∨ (ki % 8 ≠ 0 ∧ ki % 8 ≠ 1 ∧ ki % 8 ≠ 2 ∧ ∃ a S' s', S.store s (M.c.ix at_) v = .ok (a, S') s' ∧ rv = .bool (a == (M.put (M.c.ix at_) v).1) ∧ H' = MA bm (M.put (M.c.ix at_) v).2 :: SecO bs S' :: DevA S.L.d s' :: Fr)) (fun c H' => ∃ s', ((ki % 8 = 1 ∧ S.commit s = .off s') ∨ (ki % 8 = 2 ∧ S.abort s = .off s') ∨ (ki % 8 ≠ 0 ∧ ki % 8 ≠ 1 ∧ ki % 8 ≠ 2 ∧ S.store s (M.c.ix at_) v = .off s')) ∧ c = offc ∧ H' = MA bm M :: DevA S.L.d s' :: Fr)) := by
  refine fn_enter Try.func18 rfl Try.ntmps18 rfl ?_
  obtain ⟨hA1, hA2, hA3⟩ := act_w hc
  have hm0 := Int.emod_nonneg at_ (show M.c.words - M.c.active + 8 ≠ 0 by omega)
  have hm9 := Int.emod_lt_of_pos at_ (show 0 < M.c.words - M.c.active + 8 by omega)
  refine go_ma fun bc rest wv sv => ?_
  have hjn := hnw
  refine g_seq ?_
  refine g_region ?_
  refine p_chg rfl (ch_boxA rfl) .free rfl rfl ?_
  rintro _ _ ⟨b6, rfl, rfl⟩
  refine p_val rfl (ev_assign rfl) .free rfl rfl ?_
  refine p_nil ?_
  refine g_seq ?_
  refine g_seq ?_
  refine g_region ?_
  refine p_val rfl (ev_fa (m := _) fa_56_0 rfl rfl) .free rfl rfl ?_
  refine p_val rfl (ev_load Try.isAgg5 rfl rfl) .free rfl rfl ?_
  refine p_val rfl ((ev_rem (c := ki % 8) rfl rfl (by decide) (rem_e 8 hki))) .free rfl rfl ?_
  refine p_nil ?_
  refine g_block ?_
  refine g_seq ?_
  refine g_region ?_
  refine p_val rfl (ev_cmp rfl rfl rfl) .free rfl rfl ?_
  refine p_val rfl (ev_assign rfl) .free rfl rfl ?_
  refine p_nil ?_
  refine g_if rfl (fun h19 => ?_) (fun h19 => ?_)
  · have q0 : ki % 8 = 0 := by simpa using h19
    refine g_seq ?_
    refine g_region ?_
    refine p_val rfl (ev_move rfl) .free rfl rfl ?_
    refine p_val rfl (ev_move rfl) .free rfl rfl ?_
    first | refine p_val rfl (ev_nil rfl) .free rfl rfl ?_ | refine p_val rfl (ev_nilf rfl) .free rfl rfl ?_
    refine p_val rfl (ev_fa (m := _) fa_42_0 rfl rfl) .free rfl rfl ?_
    refine p_val rfl (ev_loadA Try.isAgg38 Try.sizeOf38 rfl rfl) .free rfl rfl ?_
    refine p_val rfl (ev_move rfl) .free rfl rfl ?_
    refine p_callq rfl (en_f Try.call55 rfl) (span_ok _ _ M.c hc _ hfr) .free rfl rfl ?_
    refine p_callq rfl (en_f Try.call11 rfl) (ro_at (q := SecO) (fun Fr => sbeginO_ok _ Fr _ _ _ _)) .free rfl rfl ?_
    refine p_val rfl (ev_assign rfl) .free rfl rfl ?_
    refine p_nil ?_
    refine go_sub (σ' := [(9, _), (8, _), (6, _), (0, _), (1, _), (3, _)]) ⟨rfl, rfl, rfl, rfl, rfl, rfl, trivial⟩ ?_
    refine g_seq ?_
    refine g_seq ?_
    refine g_region ?_
    refine p_val rfl (ev_move rfl) .free rfl rfl ?_
    first | refine p_val rfl (ev_nil rfl) .free rfl rfl ?_ | refine p_val rfl (ev_nilf rfl) .free rfl rfl ?_
    refine p_val rfl (ev_fa (m := _) fa_42_4 rfl rfl) .free rfl rfl ?_
    refine p_val rfl (ev_load Try.isAgg4 rfl rfl) .free rfl rfl ?_
    refine p_nil ?_
    refine g_ift rfl (ho) ?_
    refine g_seq ?_
    refine g_region ?_
    refine p_val rfl (ev_move rfl) .free rfl rfl ?_
    refine p_val rfl (ev_cmp rfl rfl rfl) .free rfl rfl ?_
    refine p_val rfl (ev_assign rfl) .free rfl rfl ?_
    refine p_nil ?_
    refine g_ret ?_
    exact ret_tmp Try.results18 rfl (fun w hh => ⟨_, .inl ⟨q0, rfl, rfl⟩, ma_holds (((((((hh.front 0 rfl).tail.front 5 rfl).front 5 rfl).front 5 rfl).front 5 rfl).front 5 rfl).front 5 rfl)⟩)
  · have q0 : ki % 8 ≠ 0 := by simpa using h19
    refine g_seq ?_
    refine g_region ?_
    refine p_val rfl (ev_cmp rfl rfl rfl) .free rfl rfl ?_
    refine p_val rfl (ev_assign rfl) .free rfl rfl ?_
    refine p_nil ?_
    refine go_sub (σ' := [(60, _), (18, _), (8, _), (6, _), (0, _), (1, _)]) ⟨rfl, rfl, rfl, rfl, rfl, rfl, trivial⟩ ?_
    refine g_if rfl (fun h60 => ?_) (fun h60 => ?_)
    · have q1 : ki % 8 = 1 := by simpa using h60
      refine g_seq ?_
      refine g_region ?_
      refine p_val rfl (ev_move rfl) .free rfl rfl ?_
      refine go_pull DevA S.L.d ?_
      refine go_pull SecO bs ?_
      refine p_call rfl (en_f Try.call17 rfl) (scommitO_ok _ _ _ _ _ hSw hdl) .free rfl rfl ?_ ?_
      rotate_left
      · rintro _ _ ⟨s', hm1, rfl, rfl⟩
        exact pan_fn fun w hh => ⟨_, ⟨s', .inl ⟨q1, hm1⟩, rfl, rfl⟩, ma_holds (((((hh.front 1 rfl).tail.front 4 rfl).front 4 rfl).front 4 rfl).front 4 rfl)⟩
      rintro _ _ ⟨S', s', hm1, rfl, rfl⟩
      refine p_val rfl (ev_assign rfl) .free rfl rfl ?_
      refine p_nil ?_
      refine g_seq ?_
      refine g_seq ?_
      refine g_region ?_
      refine p_val rfl (ev_move rfl) .free rfl rfl ?_
      first | refine p_val rfl (ev_nil rfl) .free rfl rfl ?_ | refine p_val rfl (ev_nilf rfl) .free rfl rfl ?_
      refine p_val rfl (ev_fa (m := _) fa_42_4 rfl rfl) .free rfl rfl ?_
      refine p_val rfl (ev_load Try.isAgg4 rfl rfl) .free rfl rfl ?_
      refine p_val rfl (ev_not rfl) .free rfl rfl ?_
      refine p_nil ?_
      refine go_sub (σ' := [(68, _), (10, _), (8, _), (6, _), (0, _), (1, _)]) ⟨rfl, rfl, rfl, rfl, rfl, rfl, trivial⟩ ?_
      refine g_iff rfl (by rw [ho]; rfl) ?_
      refine g_skip ?_
      refine g_seq ?_
      refine g_region ?_
      refine p_val rfl (ev_move rfl) .free rfl rfl ?_
      first | refine p_val rfl (ev_nil rfl) .free rfl rfl ?_ | refine p_val rfl (ev_nilf rfl) .free rfl rfl ?_
      refine p_val rfl (ev_fa (m := _) fa_42_4 rfl rfl) .free rfl rfl ?_
      refine p_chg0 rfl (ch_store Try.sizeOf4 rfl rfl rfl rfl) .free rfl ?_
      rintro _ _ rfl
      refine p_nil ?_
      refine g_seq ?_
      refine g_region ?_
      refine p_val rfl (ev_move rfl) .free rfl rfl ?_
      refine p_val rfl (ev_cmp rfl rfl rfl) .free rfl rfl ?_
      refine p_val rfl (ev_assign rfl) .free rfl rfl ?_
      refine p_nil ?_
      refine go_sub (σ' := [(8, _), (6, _), (0, _), (1, _)]) ⟨rfl, rfl, rfl, rfl, trivial⟩ ?_
      refine g_ret ?_
      exact ret_tmp Try.results18 rfl (fun w hh => ⟨_, .inr (.inl ⟨q1, rfl, S', s', hm1, rfl⟩), ma_holds (M := { M with o := false }) (((((((hh.front 2 rfl).tail.front 1 rfl).front 1 rfl).front 5 rfl).front 5 rfl).front 5 rfl).front 5 rfl)⟩)
    · have q1 : ki % 8 ≠ 1 := by simpa using h60
      refine g_seq ?_
      refine g_region ?_
      refine p_val rfl (ev_cmp rfl rfl rfl) .free rfl rfl ?_
      refine p_val rfl (ev_assign rfl) .free rfl rfl ?_
      refine p_nil ?_
      refine g_if rfl (fun h76 => ?_) (fun h76 => ?_)
      · have q2 : ki % 8 = 2 := by simpa using h76
        refine g_seq ?_
        refine g_region ?_
        refine p_val rfl (ev_move rfl) .free rfl rfl ?_
        refine go_pull DevA S.L.d ?_
        refine go_pull SecO bs ?_
        refine p_call rfl (en_f Try.call22 rfl) (sabortO_ok _ _ _ _ _ hSw) .free rfl rfl ?_ ?_
        rotate_left
        · rintro _ _ ⟨s', hm2, rfl, rfl⟩
          exact pan_fn fun w hh => ⟨_, ⟨s', .inr (.inl ⟨q2, hm2⟩), rfl, rfl⟩, ma_holds (((((hh.front 1 rfl).tail.front 4 rfl).front 4 rfl).front 4 rfl).front 4 rfl)⟩
        rintro _ _ ⟨S', s', hm2, rfl, rfl⟩
        refine p_val rfl (ev_assign rfl) .free rfl rfl ?_
        refine p_nil ?_
        refine g_seq ?_
        refine g_seq ?_
        refine g_region ?_
        refine p_val rfl (ev_move rfl) .free rfl rfl ?_
        first | refine p_val rfl (ev_nil rfl) .free rfl rfl ?_ | refine p_val rfl (ev_nilf rfl) .free rfl rfl ?_
        refine p_val rfl (ev_fa (m := _) fa_42_4 rfl rfl) .free rfl rfl ?_
        refine p_val rfl (ev_load Try.isAgg4 rfl rfl) .free rfl rfl ?_
        refine p_val rfl (ev_not rfl) .free rfl rfl ?_
        refine p_nil ?_
        refine go_sub (σ' := [(84, _), (11, _), (8, _), (6, _), (0, _), (1, _)]) ⟨rfl, rfl, rfl, rfl, rfl, rfl, trivial⟩ ?_
        refine g_iff rfl (by rw [ho]; rfl) ?_
        refine g_skip ?_
        refine g_seq ?_
        refine g_region ?_
        refine p_val rfl (ev_move rfl) .free rfl rfl ?_
        first | refine p_val rfl (ev_nil rfl) .free rfl rfl ?_ | refine p_val rfl (ev_nilf rfl) .free rfl rfl ?_
        refine p_val rfl (ev_fa (m := _) fa_42_4 rfl rfl) .free rfl rfl ?_
        refine p_chg0 rfl (ch_store Try.sizeOf4 rfl rfl rfl rfl) .free rfl ?_
        rintro _ _ rfl
        refine p_nil ?_
        refine g_seq ?_
        refine g_seq ?_
        refine g_region ?_
        refine go_front 5 rfl ?_
        simp only [List.eraseIdx_cons_succ, List.eraseIdx_cons_zero, hwas]
        refine go_was fun bw restw hwv => ?_
        subst hwv
        refine p_val rfl (ev_move rfl) .free rfl rfl ?_
        first | refine p_val rfl (ev_nil rfl) .free rfl rfl ?_ | refine p_val rfl (ev_nilf rfl) .free rfl rfl ?_
        refine p_val rfl (ev_fa (m := _) fa_42_1 rfl rfl) .free rfl rfl ?_
        refine p_val rfl (ev_load Try.isAgg39 rfl rfl) .free rfl rfl ?_
        refine p_val rfl (ev_len rfl Try.runUnderlying39 ⟨_, rfl⟩ rfl) .free rfl rfl ?_
        refine p_val rfl (ev_move rfl) .free rfl rfl ?_
        refine p_nil ?_
        refine go_sub (σ' := [(95, _), (94, _), (11, _), (8, _), (6, _), (0, _), (1, _)]) ⟨rfl, rfl, rfl, rfl, rfl, rfl, rfl, trivial⟩ ?_
        refine g_block ?_
        refine g_loop (ι := Nat) (fun k => k ≤ M.nw) (fun k => [(0, ptr bm), (1, ptr bs), (6, .pointer (some ⟨b6, 0, none⟩)), (8, .bool false), (11, i64 0), (94, i64 M.nw), (95, i64 k)]) (fun k => row bw (tab M.nw (fun i => w64 (g i)) ++ restw) 46 :: SecC bs S' :: DevA S.L.d s' :: row b6 [u8 ki, .int .u16 at_, w64 v] 56 :: mRow bm bc M M.nw (M.nw + rest.length) (.slice (some ⟨bw, 0, none⟩) M.nw (M.nw + restw.length)) sv false M.f M.t :: nRow bc M.nw (fun j => if j < k ∧ (M.c.active + j < M.f ∨ M.t ≤ M.c.active + j) then g j else M.now j) rest :: AccV 0 (sv, M.js) :: Fr) (fun k => M.nw - k) 0 (Nat.zero_le _) (fun a w st => st.to ⟨rfl, rfl, rfl, rfl, rfl, rfl, rfl, trivial⟩ (fun hh => by have h9 := hh; simp only [Nat.not_lt_zero, false_and, if_false]; exact h9)) ?_
        intro k hk0
        refine g_seq ?_
        refine g_region ?_
        refine p_val rfl ((ev_cmp rfl rfl rfl)) .free rfl rfl ?_
        refine p_nil ?_
        refine g_seq ?_
        refine g_if rfl (fun h96 => ?_) (fun h96 => ?_)
        · have hk : k < M.nw := by simpa using h96
          refine g_skip ?_
          refine g_seq ?_
          refine g_block ?_
          refine g_seq ?_
          refine g_region ?_
          refine p_val rfl (ev_move rfl) .free rfl rfl ?_
          refine p_val rfl (ev_assign rfl) .free rfl rfl ?_
          refine p_nil ?_
          refine g_seq ?_
          refine g_region ?_
          refine p_val rfl (ev_move rfl) .free rfl rfl ?_
          first | refine p_val rfl (ev_nil rfl) .free rfl rfl ?_ | refine p_val rfl (ev_nilf rfl) .free rfl rfl ?_
          refine p_val rfl (ev_fa (m := _) fa_42_0 rfl rfl) .free rfl rfl ?_
          refine p_val rfl (ev_loadA Try.isAgg38 Try.sizeOf38 rfl rfl) .free rfl rfl ?_
          refine p_callq rfl (en_f Try.call12 rfl) (active_ok _ _ M.c hc) .free rfl rfl ?_
          refine p_val rfl (ev_move rfl) .free rfl rfl ?_
          refine p_val rfl ((ev_add rfl rfl (wr64 (by omega)))) .free rfl rfl ?_
          refine p_val rfl (ev_assign rfl) .free rfl rfl ?_
          refine p_nil ?_
          refine go_sub (σ' := [(13, _), (12, _), (95, _), (94, _), (11, _), (8, _), (6, _), (0, _), (1, _)]) ⟨rfl, rfl, rfl, rfl, rfl, rfl, rfl, rfl, rfl, trivial⟩ ?_
          refine g_seq ?_
          refine g_region ?_
          refine p_val rfl (ev_move rfl) .free rfl rfl ?_
          refine p_val rfl (ev_move rfl) .free rfl rfl ?_
          first | refine p_val rfl (ev_nil rfl) .free rfl rfl ?_ | refine p_val rfl (ev_nilf rfl) .free rfl rfl ?_
          refine p_val rfl (ev_fa (m := _) fa_42_5 rfl rfl) .free rfl rfl ?_
          refine p_val rfl (ev_fa (m := _) fa_35_0 rfl rfl) .free rfl rfl ?_
          refine p_val rfl (ev_load Try.isAgg3 rfl rfl) .free rfl rfl ?_
          refine p_val rfl (ev_cmp rfl rfl rfl) .free rfl rfl ?_
          refine p_val rfl (ev_move rfl) .free rfl rfl ?_
          apply p_or (tp := 120) (t := 112) (σ1 := [(112, _), (12, _), (95, _), (94, _), (11, _), (8, _), (6, _), (0, _), (1, _)]) 8 rfl ⟨rfl, rfl, rfl, rfl, rfl, rfl, rfl, rfl, rfl, trivial⟩
          · intro hg1
            refine p_val rfl (ev_move rfl) (.on rfl rfl (beq_eq hg1)) rfl rfl ?_
            refine p_val rfl (ev_move rfl) (.on rfl rfl (beq_eq hg1)) rfl rfl ?_
            first | refine p_val rfl (ev_nil rfl) (.on rfl rfl (beq_eq hg1)) rfl rfl ?_ | refine p_val rfl (ev_nilf rfl) (.on rfl rfl (beq_eq hg1)) rfl rfl ?_
            refine p_val rfl (ev_fa (m := _) fa_42_5 rfl rfl) (.on rfl rfl (beq_eq hg1)) rfl rfl ?_
            refine p_val rfl (ev_fa (m := _) fa_35_1 rfl rfl) (.on rfl rfl (beq_eq hg1)) rfl rfl ?_
            refine p_val rfl (ev_load Try.isAgg3 rfl rfl) (.on rfl rfl (beq_eq hg1)) rfl rfl ?_
            refine p_val rfl (ev_cmp rfl rfl rfl) (.on rfl rfl (beq_eq hg1)) rfl rfl ?_
            refine p_val rfl (ev_pick_f rfl hg1 rfl) .free rfl rfl ?_
            exact p_seg rfl ⟨rfl, rfl, rfl, rfl, rfl, rfl, rfl, rfl, rfl, trivial⟩ (or_f hg1)
          · intro hg1
            refine p_skip rfl (.on rfl rfl (beq_ne hg1)) rfl ?_
            refine p_skip rfl (.on rfl rfl (beq_ne hg1)) rfl ?_
            refine p_skip rfl (.on rfl rfl (beq_ne hg1)) rfl ?_
            refine p_skip rfl (.on rfl rfl (beq_ne hg1)) rfl ?_
            refine p_skip rfl (.on rfl rfl (beq_ne hg1)) rfl ?_
            refine p_skip rfl (.on rfl rfl (beq_ne hg1)) rfl ?_
            refine p_skip rfl (.on rfl rfl (beq_ne hg1)) rfl ?_
            refine p_val rfl (ev_pick_t rfl hg1 rfl) .free rfl rfl ?_
            exact p_seg rfl ⟨rfl, rfl, rfl, rfl, rfl, rfl, rfl, rfl, rfl, trivial⟩ (or_t hg1)
          refine p_nil ?_
          refine g_if rfl (fun h120 => ?_) (fun h120 => ?_)
          · have hfk : M.c.active + k < M.f ∨ M.t ≤ M.c.active + k := by simpa using h120
            refine g_drawt 13 Try.mixed (by kernel_rfl) (by kernel_rfl) ?_
            refine q_val rfl (ev_move rfl) .free rfl ?_
            first | refine q_val rfl (ev_nil rfl) .free rfl ?_ | refine q_val rfl (ev_nilf rfl) .free rfl ?_
            refine q_val rfl (ev_fa (m := _) fa_42_1 rfl rfl) .free rfl ?_
            refine q_val rfl (ev_load Try.isAgg39 rfl rfl) .free rfl ?_
            refine q_val rfl (ev_move rfl) .free rfl ?_
            refine q_val rfl (ev_move rfl) .free rfl ?_
            first | refine q_val rfl (ev_nil rfl) .free rfl ?_ | refine q_val rfl (ev_nilf rfl) .free rfl ?_
            refine q_val rfl (ev_fa (m := _) fa_42_2 rfl rfl) .free rfl ?_
            refine q_val rfl (ev_load Try.isAgg39 rfl rfl) .free rfl ?_
            refine q_val rfl (ev_move rfl) .free rfl ?_
            refine q_val rfl ((ev_iaS Try.runUnderlying39 Try.sizeOf46 rfl rfl (by omega) (by omega))) .free rfl ?_
            refine q_val rfl ((ev_load (v := w64 (g k)) Try.isAgg46 rfl (by rw [Nat.zero_add, Int.toNat_natCast]; exact tget hk))) .free rfl ?_
            refine q_val rfl ((ev_iaS Try.runUnderlying39 Try.sizeOf46 rfl rfl (by omega) (by omega))) .free rfl ?_
            refine q_nil ?_
            refine p_chg0 rfl (ch_store Try.sizeOf46 rfl rfl rfl (by rw [Nat.blt_eq, List.length_append, tab_len]; omega)) .free rfl ?_
            rintro _ _ rfl
            rw [Nat.zero_add, Int.toNat_natCast, tset hk]
            refine p_nil ?_
            refine go_sub (σ' := [(95, _), (94, _), (11, _), (8, _), (6, _), (0, _), (1, _)]) ⟨rfl, rfl, rfl, rfl, rfl, rfl, rfl, trivial⟩ ?_
            refine g_region ?_
            first | refine p_val rfl (ev_add rfl rfl (wr64 (by omega))) .free rfl rfl ?_ | refine p_val rfl (ev_add rfl rfl rfl) .free rfl rfl ?_
            refine p_val rfl (ev_move rfl) .free rfl rfl ?_
            refine p_nil ?_
            refine go_conv (fun w hh => by first | exact (show Holds B _ w from (by rw [now_put hfk] at hh; exact hh)) | exact (show Holds B _ w from (by rw [now_skip hfk] at hh; exact hh))) ?_
            exact fun a w st => ⟨k + 1, by omega, by omega, st.to ⟨rfl, rfl, rfl, rfl, rfl, rfl, rfl, trivial⟩ id⟩
          · have hfk : ¬ (M.c.active + k < M.f ∨ M.t ≤ M.c.active + k) := by simp at h120; omega
            refine g_skip ?_
            refine g_region ?_
            first | refine p_val rfl (ev_add rfl rfl (wr64 (by omega))) .free rfl rfl ?_ | refine p_val rfl (ev_add rfl rfl rfl) .free rfl rfl ?_
            refine p_val rfl (ev_move rfl) .free rfl rfl ?_
            refine p_nil ?_
            refine go_conv (fun w hh => by first | exact (show Holds B _ w from (by rw [now_put hfk] at hh; exact hh)) | exact (show Holds B _ w from (by rw [now_skip hfk] at hh; exact hh))) ?_
            exact fun a w st => ⟨k + 1, by omega, by omega, st.to ⟨rfl, rfl, rfl, rfl, rfl, rfl, rfl, trivial⟩ id⟩
        · have hk : ¬ k < M.nw := by simpa using h96
          obtain rfl : k = M.nw := by omega
          refine g_exit ?_
          refine g_seq ?_
          refine g_region ?_
          refine p_val rfl (ev_move rfl) .free rfl rfl ?_
          refine p_val rfl (ev_cmp rfl rfl rfl) .free rfl rfl ?_
          refine p_val rfl (ev_assign rfl) .free rfl rfl ?_
          refine p_nil ?_
          refine g_ret ?_
          exact ret_tmp Try.results18 rfl (fun w hh => ⟨_, .inr (.inr (.inl ⟨q2, rfl, S', s', hm2, rfl⟩)), abort_holds hwas (((((((was_row (nw := M.nw) rfl rfl ((hh.front 3 rfl).tail.front 0 rfl)).front 2 rfl).front 2 rfl).front 5 rfl).front 3 rfl).front 5 rfl).front 5 rfl)⟩)
      · have q2 : ki % 8 ≠ 2 := by simpa using h76
        refine g_skip ?_
        refine g_seq ?_
        refine g_draw Try.mixed (by kernel_rfl) (by kernel_rfl) ?_
        refine q_val rfl (ev_move rfl) .free rfl ?_
        first | refine q_val rfl (ev_nil rfl) .free rfl ?_ | refine q_val rfl (ev_nilf rfl) .free rfl ?_
        refine q_val rfl (ev_fa (m := _) fa_42_0 rfl rfl) .free rfl ?_
        refine q_val rfl (ev_loadA Try.isAgg38 Try.sizeOf38 rfl rfl) .free rfl ?_
        refine q_call rfl (en_f Try.call12 rfl) (active_ok _ _ M.c hc) .free rfl ?_
        first | refine q_val rfl (ev_sub rfl rfl (wr64 (by omega))) .free rfl ?_ | refine q_val rfl (ev_sub rfl rfl rfl) .free rfl ?_
        refine q_val rfl (ev_fa (m := _) fa_56_1 rfl rfl) .free rfl ?_
        refine q_val rfl (ev_load Try.isAgg22 rfl rfl) .free rfl ?_
        first | refine q_val rfl (ev_conv Try.runUnderlying22 Try.runUnderlying3 rfl (wr64 (by omega))) .free rfl ?_ | refine q_val rfl (ev_conv Try.runUnderlying22 Try.runUnderlying3 rfl rfl) .free rfl ?_
        refine q_val rfl (ev_move rfl) .free rfl ?_
        first | refine q_val rfl (ev_nil rfl) .free rfl ?_ | refine q_val rfl (ev_nilf rfl) .free rfl ?_
        refine q_val rfl (ev_fa (m := _) fa_42_0 rfl rfl) .free rfl ?_
        refine q_val rfl (ev_loadA Try.isAgg38 Try.sizeOf38 rfl rfl) .free rfl ?_
        refine q_call rfl (en_f Try.call13 rfl) (cwords_ok _ _ M.c hc) .free rfl ?_
        refine q_val rfl (ev_move rfl) .free rfl ?_
        first | refine q_val rfl (ev_nil rfl) .free rfl ?_ | refine q_val rfl (ev_nilf rfl) .free rfl ?_
        refine q_val rfl (ev_fa (m := _) fa_42_0 rfl rfl) .free rfl ?_
        refine q_val rfl (ev_loadA Try.isAgg38 Try.sizeOf38 rfl rfl) .free rfl ?_
        refine q_call rfl (en_f Try.call12 rfl) (active_ok _ _ M.c hc) .free rfl ?_
        first | refine q_val rfl (ev_sub rfl rfl (wr64 (by omega))) .free rfl ?_ | refine q_val rfl (ev_sub rfl rfl rfl) .free rfl ?_
        first | refine q_val rfl (ev_add rfl rfl (wr64 (by omega))) .free rfl ?_ | refine q_val rfl (ev_add rfl rfl rfl) .free rfl ?_
        refine q_val rfl ((ev_rem (c := at_ % (M.c.words - M.c.active + 8)) rfl rfl (by omega) (rem_e _ hat.1))) .free rfl ?_
        refine q_val rfl ((ev_add (c := M.c.ix at_) rfl rfl ((wr64 (by omega)).trans rfl))) .free rfl ?_
        refine q_val rfl (ev_assign rfl) .free rfl ?_
        refine q_nil ?_
        refine go_sub (σ' := [(14, _), (8, _), (6, _), (0, _), (1, _)]) ⟨rfl, rfl, rfl, rfl, rfl, trivial⟩ ?_
        refine g_seq ?_
        refine g_region ?_
        refine p_val rfl (ev_move rfl) .free rfl rfl ?_
        refine p_val rfl (ev_move rfl) .free rfl rfl ?_
        refine p_val rfl (ev_fa (m := _) fa_56_2 rfl rfl) .free rfl rfl ?_
        refine p_val rfl (ev_load Try.isAgg46 rfl rfl) .free rfl rfl ?_
        refine go_pull DevA S.L.d ?_
        refine go_pull SecO bs ?_
        refine p_call rfl (en_f Try.call14 rfl) (sstoreO_ok _ _ _ _ _ hSw _ _) .free rfl rfl ?_ ?_
        rotate_left
        · rintro _ _ ⟨s', hm3, rfl, rfl⟩
          exact pan_fn fun w hh => ⟨_, ⟨s', .inr (.inr ⟨q0, q1, q2, hm3⟩), rfl, rfl⟩, ma_holds (((((hh.front 1 rfl).tail.front 4 rfl).front 4 rfl).front 4 rfl).front 4 rfl)⟩
        rintro _ _ ⟨a, S', s', hm3, rfl, rfl⟩
        refine p_val rfl (ev_assign rfl) .free rfl rfl ?_
        refine p_nil ?_
        refine g_seq ?_
        refine g_block ?_
        refine g_seq ?_
        refine g_region ?_
        refine p_val rfl (ev_move rfl) .free rfl rfl ?_
        first | refine p_val rfl (ev_nil rfl) .free rfl rfl ?_ | refine p_val rfl (ev_nilf rfl) .free rfl rfl ?_
        refine p_val rfl (ev_fa (m := _) fa_42_4 rfl rfl) .free rfl rfl ?_
        refine p_val rfl (ev_load Try.isAgg4 rfl rfl) .free rfl rfl ?_
        refine p_val rfl (ev_not rfl) .free rfl rfl ?_
        refine p_val rfl (ev_assign rfl) .free rfl rfl ?_
        refine p_nil ?_
        refine go_sub (σ' := [(165, _), (15, _), (14, _), (8, _), (6, _), (0, _)]) ⟨rfl, rfl, rfl, rfl, rfl, rfl, trivial⟩ ?_
        refine g_iff rfl (by rw [ho]; rfl) ?_
        refine g_seq ?_
        refine g_region ?_
        refine p_val rfl (ev_move rfl) .free rfl rfl ?_
        refine p_val rfl (ev_move rfl) .free rfl rfl ?_
        first | refine p_val rfl (ev_nil rfl) .free rfl rfl ?_ | refine p_val rfl (ev_nilf rfl) .free rfl rfl ?_
        refine p_val rfl (ev_fa (m := _) fa_42_0 rfl rfl) .free rfl rfl ?_
        refine p_val rfl (ev_loadA Try.isAgg38 Try.sizeOf38 rfl rfl) .free rfl rfl ?_
        refine p_callq rfl (en_f Try.call12 rfl) (active_ok _ _ M.c hc) .free rfl rfl ?_
        refine p_val rfl (ev_cmp rfl rfl rfl) .free rfl rfl ?_
        refine p_val rfl (ev_move rfl) .free rfl rfl ?_
        apply p_or (tp := 189) (t := 181) (σ1 := [(181, _), (15, _), (14, _), (8, _), (6, _), (0, _)]) 8 rfl ⟨rfl, rfl, rfl, rfl, rfl, rfl, trivial⟩
        · intro hg2
          refine p_val rfl (ev_move rfl) (.on rfl rfl (beq_eq hg2)) rfl rfl ?_
          refine p_val rfl (ev_move rfl) (.on rfl rfl (beq_eq hg2)) rfl rfl ?_
          first | refine p_val rfl (ev_nil rfl) (.on rfl rfl (beq_eq hg2)) rfl rfl ?_ | refine p_val rfl (ev_nilf rfl) (.on rfl rfl (beq_eq hg2)) rfl rfl ?_
          refine p_val rfl (ev_fa (m := _) fa_42_0 rfl rfl) (.on rfl rfl (beq_eq hg2)) rfl rfl ?_
          refine p_val rfl (ev_loadA Try.isAgg38 Try.sizeOf38 rfl rfl) (.on rfl rfl (beq_eq hg2)) rfl rfl ?_
          refine p_callq rfl (en_f Try.call13 rfl) (cwords_ok _ _ M.c hc) (.on rfl rfl (beq_eq hg2)) rfl rfl ?_
          refine p_val rfl (ev_cmp rfl rfl rfl) (.on rfl rfl (beq_eq hg2)) rfl rfl ?_
          refine p_val rfl (ev_pick_f rfl hg2 rfl) .free rfl rfl ?_
          exact p_seg rfl ⟨rfl, rfl, rfl, rfl, rfl, rfl, trivial⟩ (or_f hg2)
        · intro hg2
          refine p_skip rfl (.on rfl rfl (beq_ne hg2)) rfl ?_
          refine p_skip rfl (.on rfl rfl (beq_ne hg2)) rfl ?_
          refine p_skip rfl (.on rfl rfl (beq_ne hg2)) rfl ?_
          refine p_skip rfl (.on rfl rfl (beq_ne hg2)) rfl ?_
          refine p_skip rfl (.on rfl rfl (beq_ne hg2)) rfl ?_
          refine p_skip rfl (.on rfl rfl (beq_ne hg2)) rfl ?_
          refine p_skip rfl (.on rfl rfl (beq_ne hg2)) rfl ?_
          refine p_val rfl (ev_pick_t rfl hg2 rfl) .free rfl rfl ?_
          exact p_seg rfl ⟨rfl, rfl, rfl, rfl, rfl, rfl, trivial⟩ (or_t hg2)
        refine p_val rfl (ev_assign rfl) .free rfl rfl ?_
        refine p_nil ?_
        refine g_if rfl (fun h173 => ?_) (fun h173 => ?_)
        · have hout : M.c.ix at_ < M.c.active ∨ M.c.words ≤ M.c.ix at_ := by simpa using h173
          have hput : M.put (M.c.ix at_) v = (1, M) := by unfold MS.put; rw [if_pos hout]
          refine g_seq ?_
          refine g_region ?_
          refine p_val rfl (ev_move rfl) .free rfl rfl ?_
          refine p_val rfl (ev_cmp rfl rfl rfl) .free rfl rfl ?_
          refine p_val rfl (ev_assign rfl) .free rfl rfl ?_
          refine p_nil ?_
          refine g_ret ?_
          exact ret_tmp Try.results18 rfl (fun w hh => ⟨_, .inr (.inr (.inr ⟨q0, q1, q2, a, S', s', hm3, by rw [hput], rfl⟩)), by rw [hput]; exact ma_holds (((((((hh.front 2 rfl).tail.front 1 rfl).front 1 rfl).front 5 rfl).front 5 rfl).front 5 rfl).front 5 rfl)⟩)
        · have hin : M.c.active ≤ M.c.ix at_ ∧ M.c.ix at_ < M.c.words := by simp at h173; omega
          have hnout : ¬(M.c.ix at_ < M.c.active ∨ M.c.words ≤ M.c.ix at_) := by omega
          refine go_front 6 rfl ?_
          simp only [List.eraseIdx_cons_succ, List.eraseIdx_cons_zero]
          refine go_accsl fun q cap hq => ?_
          subst hq
          refine g_skip ?_
          refine g_seq ?_
          refine g_seq ?_
          refine g_region ?_
          refine p_val rfl (ev_move rfl) .free rfl rfl ?_
          refine p_val rfl (ev_move rfl) .free rfl rfl ?_
          first | refine p_val rfl (ev_nil rfl) .free rfl rfl ?_ | refine p_val rfl (ev_nilf rfl) .free rfl rfl ?_
          refine p_val rfl (ev_fa (m := _) fa_42_5 rfl rfl) .free rfl rfl ?_
          refine p_val rfl (ev_fa (m := _) fa_35_0 rfl rfl) .free rfl rfl ?_
          refine p_val rfl (ev_load Try.isAgg3 rfl rfl) .free rfl rfl ?_
          refine p_val rfl (ev_cmp rfl rfl rfl) .free rfl rfl ?_
          refine p_val rfl (ev_move rfl) .free rfl rfl ?_
          apply p_or (tp := 207) (t := 199) (σ1 := [(199, _), (15, _), (14, _), (8, _), (6, _), (0, _)]) 8 rfl ⟨rfl, rfl, rfl, rfl, rfl, rfl, trivial⟩
          · intro hg3
            refine p_val rfl (ev_move rfl) (.on rfl rfl (beq_eq hg3)) rfl rfl ?_
            refine p_val rfl (ev_move rfl) (.on rfl rfl (beq_eq hg3)) rfl rfl ?_
            first | refine p_val rfl (ev_nil rfl) (.on rfl rfl (beq_eq hg3)) rfl rfl ?_ | refine p_val rfl (ev_nilf rfl) (.on rfl rfl (beq_eq hg3)) rfl rfl ?_
            refine p_val rfl (ev_fa (m := _) fa_42_5 rfl rfl) (.on rfl rfl (beq_eq hg3)) rfl rfl ?_
            refine p_val rfl (ev_fa (m := _) fa_35_1 rfl rfl) (.on rfl rfl (beq_eq hg3)) rfl rfl ?_
            refine p_val rfl (ev_load Try.isAgg3 rfl rfl) (.on rfl rfl (beq_eq hg3)) rfl rfl ?_
            refine p_val rfl (ev_cmp rfl rfl rfl) (.on rfl rfl (beq_eq hg3)) rfl rfl ?_
            refine p_val rfl (ev_pick_f rfl hg3 rfl) .free rfl rfl ?_
            exact p_seg rfl ⟨rfl, rfl, rfl, rfl, rfl, rfl, trivial⟩ (or_f hg3)
          · intro hg3
            refine p_skip rfl (.on rfl rfl (beq_ne hg3)) rfl ?_
            refine p_skip rfl (.on rfl rfl (beq_ne hg3)) rfl ?_
            refine p_skip rfl (.on rfl rfl (beq_ne hg3)) rfl ?_
            refine p_skip rfl (.on rfl rfl (beq_ne hg3)) rfl ?_
            refine p_skip rfl (.on rfl rfl (beq_ne hg3)) rfl ?_
            refine p_skip rfl (.on rfl rfl (beq_ne hg3)) rfl ?_
            refine p_skip rfl (.on rfl rfl (beq_ne hg3)) rfl ?_
            refine p_val rfl (ev_pick_t rfl hg3 rfl) .free rfl rfl ?_
            exact p_seg rfl ⟨rfl, rfl, rfl, rfl, rfl, rfl, trivial⟩ (or_t hg3)
          refine p_val rfl (ev_move rfl) .free rfl rfl ?_
          apply p_and (tp := 216) (t := 208) (σ1 := [(208, _), (15, _), (14, _), (8, _), (6, _), (0, _)]) 8 rfl ⟨rfl, rfl, rfl, rfl, rfl, rfl, trivial⟩
          · intro hg4
            refine p_val rfl (ev_move rfl) (.on rfl rfl (beq_eq hg4)) rfl rfl ?_
            first | refine p_val rfl (ev_nil rfl) (.on rfl rfl (beq_eq hg4)) rfl rfl ?_ | refine p_val rfl (ev_nilf rfl) (.on rfl rfl (beq_eq hg4)) rfl rfl ?_
            refine p_val rfl (ev_fa (m := _) fa_42_3 rfl rfl) (.on rfl rfl (beq_eq hg4)) rfl rfl ?_
            refine p_val rfl (ev_load Try.isAgg40 rfl rfl) (.on rfl rfl (beq_eq hg4)) rfl rfl ?_
            refine p_val rfl (ev_move rfl) (.on rfl rfl (beq_eq hg4)) rfl rfl ?_
            refine p_callq rfl (en_f Try.call56 rfl) (contains_ok _ _ q cap M.js _ hjl (acc_slr 0 rfl)) (.on rfl rfl (beq_eq hg4)) rfl rfl ?_
            refine p_val rfl (ev_not rfl) (.on rfl rfl (beq_eq hg4)) rfl rfl ?_
            refine p_val rfl (ev_pick_t rfl hg4 rfl) .free rfl rfl ?_
            exact p_seg rfl ⟨rfl, rfl, rfl, rfl, rfl, rfl, trivial⟩ (and_t hg4)
          · intro hg4
            refine p_skip rfl (.on rfl rfl (beq_ne hg4)) rfl ?_
            refine p_skip rfl (.on rfl rfl (beq_ne hg4)) rfl ?_
            refine p_skip rfl (.on rfl rfl (beq_ne hg4)) rfl ?_
            refine p_skip rfl (.on rfl rfl (beq_ne hg4)) rfl ?_
            refine p_skip rfl (.on rfl rfl (beq_ne hg4)) rfl ?_
            refine p_skip rfl (.on rfl rfl (beq_ne hg4)) rfl ?_
            refine p_skip rfl (.on rfl rfl (beq_ne hg4)) rfl ?_
            refine p_val rfl (ev_pick_f rfl hg4 rfl) .free rfl rfl ?_
            exact p_seg rfl ⟨rfl, rfl, rfl, rfl, rfl, rfl, trivial⟩ (and_f hg4)
          refine p_nil ?_
          refine g_if rfl (fun h216 => ?_) (fun h216 => ?_)
          · have hfj : (M.c.ix at_ < M.f ∨ M.t ≤ M.c.ix at_) ∧ M.c.ix at_ ∉ M.js := by simpa using h216
            refine g_seq ?_
            refine g_seq ?_
            refine g_draw Try.mixed (by kernel_rfl) (by kernel_rfl) ?_
            refine q_val rfl (ev_move rfl) .free rfl ?_
            first | refine q_val rfl (ev_nil rfl) .free rfl ?_ | refine q_val rfl (ev_nilf rfl) .free rfl ?_
            refine q_val rfl (ev_fa (m := _) fa_42_3 rfl rfl) .free rfl ?_
            refine q_val rfl (ev_load Try.isAgg40 rfl rfl) .free rfl ?_
            refine q_val rfl (ev_len rfl Try.runUnderlying40 ⟨_, rfl⟩ rfl) .free rfl ?_
            refine q_val rfl (ev_move rfl) .free rfl ?_
            first | refine q_val rfl (ev_nil rfl) .free rfl ?_ | refine q_val rfl (ev_nilf rfl) .free rfl ?_
            refine q_val rfl (ev_fa (m := _) fa_42_0 rfl rfl) .free rfl ?_
            refine q_val rfl (ev_fa (m := _) fa_38_0 rfl rfl) .free rfl ?_
            refine q_val rfl (ev_load Try.isAgg3 rfl rfl) .free rfl ?_
            refine q_val rfl (ev_cmp rfl rfl rfl) .free rfl ?_
            refine q_nil ?_
            refine go_sub (σ' := [(227, _), (15, _), (14, _), (8, _), (6, _), (0, _)]) ⟨rfl, rfl, rfl, rfl, rfl, rfl, trivial⟩ ?_
            refine g_if rfl (fun h227 => ?_) (fun h227 => ?_)
            · have hfull : (M.js.length : Int) = M.c.log := by simpa using h227
              have hput : M.put (M.c.ix at_) v = (3, M) := by unfold MS.put; rw [if_neg hnout, if_pos hfj, if_pos hfull]
              refine g_seq ?_
              refine g_region ?_
              refine p_val rfl (ev_move rfl) .free rfl rfl ?_
              refine p_val rfl (ev_cmp rfl rfl rfl) .free rfl rfl ?_
              refine p_val rfl (ev_assign rfl) .free rfl rfl ?_
              refine p_nil ?_
              refine g_ret ?_
              exact ret_tmp Try.results18 rfl (fun w hh => ⟨_, .inr (.inr (.inr ⟨q0, q1, q2, a, S', s', hm3, by rw [hput], rfl⟩)), by rw [hput]; exact ma_holds (((((((hh.front 3 rfl).tail.front 2 rfl).front 2 rfl).front 2 rfl).front 5 rfl).front 5 rfl).front 5 rfl)⟩)
            · have hfull : ¬ (M.js.length : Int) = M.c.log := by simpa using h227
              have hput : M.put (M.c.ix at_) v = (0, { M with js := M.js ++ [M.c.ix at_], now := upd M.now (M.c.ix at_ - M.c.active).toNat v }) := by unfold MS.put; rw [if_neg hnout, if_pos hfj, if_neg hfull]
              refine g_skip ?_
              refine g_region ?_
              refine p_val rfl (ev_move rfl) .free rfl rfl ?_
              refine p_val rfl (ev_move rfl) .free rfl rfl ?_
              first | refine p_val rfl (ev_nil rfl) .free rfl rfl ?_ | refine p_val rfl (ev_nilf rfl) .free rfl rfl ?_
              refine p_val rfl (ev_fa (m := _) fa_42_3 rfl rfl) .free rfl rfl ?_
              refine p_val rfl (ev_load Try.isAgg40 rfl rfl) .free rfl rfl ?_
              refine p_val rfl (ev_move rfl) .free rfl rfl ?_
              refine p_chg rfl (ch_bs1 Try.runUnderlying40 Try.sizeOf3 Try.zeroValue3 rfl rfl rfl) .free rfl rfl ?_
              rintro _ _ ⟨b1, rfl, rfl⟩
              refine go_front 1 rfl ?_
              simp only [List.eraseIdx_cons_succ, List.eraseIdx_cons_zero]
              refine p_chg rfl (ch_append_acc rfl rfl Try.runUnderlying40 Try.runUnderlying40 ⟨_, rfl⟩ Try.sizeOf3 Try.zeroValue3 tb_3 rfl rfl (by omega)) .free rfl rfl ?_
              rintro sv2 _ ⟨hsv2, rfl⟩
              first | refine p_val rfl (ev_nil rfl) .free rfl rfl ?_ | refine p_val rfl (ev_nilf rfl) .free rfl rfl ?_
              refine p_val rfl (ev_fa (m := _) fa_42_3 rfl rfl) .free rfl rfl ?_
              refine p_chg0 rfl (ch_store Try.sizeOf40 rfl rfl hsv2 rfl) .free rfl ?_
              rintro _ _ rfl
              refine p_nil ?_
              refine go_sub (σ' := [(15, _), (14, _), (8, _), (6, _), (0, _)]) ⟨rfl, rfl, rfl, rfl, rfl, trivial⟩ ?_
              refine g_seq ?_
              refine g_drawt 14 Try.mixed (by kernel_rfl) (by kernel_rfl) ?_
              refine q_val rfl (ev_move rfl) .free rfl ?_
              first | refine q_val rfl (ev_nil rfl) .free rfl ?_ | refine q_val rfl (ev_nilf rfl) .free rfl ?_
              refine q_val rfl (ev_fa (m := _) fa_42_1 rfl rfl) .free rfl ?_
              refine q_val rfl (ev_load Try.isAgg39 rfl rfl) .free rfl ?_
              refine q_val rfl (ev_move rfl) .free rfl ?_
              refine q_val rfl (ev_move rfl) .free rfl ?_
              first | refine q_val rfl (ev_nil rfl) .free rfl ?_ | refine q_val rfl (ev_nilf rfl) .free rfl ?_
              refine q_val rfl (ev_fa (m := _) fa_42_0 rfl rfl) .free rfl ?_
              refine q_val rfl (ev_loadA Try.isAgg38 Try.sizeOf38 rfl rfl) .free rfl ?_
              refine q_call rfl (en_f Try.call12 rfl) (active_ok _ _ M.c hc) .free rfl ?_
              first | refine q_val rfl (ev_sub rfl rfl (wr64 (by omega))) .free rfl ?_ | refine q_val rfl (ev_sub rfl rfl rfl) .free rfl ?_
              refine q_val rfl (ev_fa (m := _) fa_56_2 rfl rfl) .free rfl ?_
              refine q_val rfl (ev_load Try.isAgg46 rfl rfl) .free rfl ?_
              refine q_val rfl ((ev_iaS Try.runUnderlying39 Try.sizeOf46 rfl rfl (by omega) (by omega))) .free rfl ?_
              refine q_nil ?_
              refine p_chg0 rfl (ch_store Try.sizeOf46 rfl rfl rfl (by rw [Nat.blt_eq, List.length_append, tab_len]; omega)) .free rfl ?_
              rintro _ _ rfl
              rw [Nat.zero_add, tset (by omega)]
              refine p_nil ?_
              refine go_sub (σ' := [(15, _), (8, _)]) ⟨rfl, rfl, trivial⟩ ?_
              refine g_seq ?_
              refine g_region ?_
              refine p_val rfl (ev_move rfl) .free rfl rfl ?_
              refine p_val rfl (ev_cmp rfl rfl rfl) .free rfl rfl ?_
              refine p_val rfl (ev_assign rfl) .free rfl rfl ?_
              refine p_nil ?_
              refine g_ret ?_
              exact ret_tmp Try.results18 rfl (fun w hh => ⟨_, .inr (.inr (.inr ⟨q0, q1, q2, a, S', s', hm3, by rw [hput], rfl⟩)), by rw [hput]; exact ma_holds (((((((hh.front 3 rfl).tail.front 2 rfl).front 2 rfl).front 2 rfl).front 5 rfl).front 5 rfl).front 5 rfl)⟩)
          · have hfj : ¬((M.c.ix at_ < M.f ∨ M.t ≤ M.c.ix at_) ∧ M.c.ix at_ ∉ M.js) := by simpa using h216
            have hput : M.put (M.c.ix at_) v = (0, { M with now := upd M.now (M.c.ix at_ - M.c.active).toNat v }) := by unfold MS.put; rw [if_neg hnout, if_neg hfj]
            refine g_skip ?_
            refine g_seq ?_
            refine g_drawt 14 Try.mixed (by kernel_rfl) (by kernel_rfl) ?_
            refine q_val rfl (ev_move rfl) .free rfl ?_
            first | refine q_val rfl (ev_nil rfl) .free rfl ?_ | refine q_val rfl (ev_nilf rfl) .free rfl ?_
            refine q_val rfl (ev_fa (m := _) fa_42_1 rfl rfl) .free rfl ?_
            refine q_val rfl (ev_load Try.isAgg39 rfl rfl) .free rfl ?_
            refine q_val rfl (ev_move rfl) .free rfl ?_
            refine q_val rfl (ev_move rfl) .free rfl ?_
            first | refine q_val rfl (ev_nil rfl) .free rfl ?_ | refine q_val rfl (ev_nilf rfl) .free rfl ?_
            refine q_val rfl (ev_fa (m := _) fa_42_0 rfl rfl) .free rfl ?_
            refine q_val rfl (ev_loadA Try.isAgg38 Try.sizeOf38 rfl rfl) .free rfl ?_
            refine q_call rfl (en_f Try.call12 rfl) (active_ok _ _ M.c hc) .free rfl ?_
            first | refine q_val rfl (ev_sub rfl rfl (wr64 (by omega))) .free rfl ?_ | refine q_val rfl (ev_sub rfl rfl rfl) .free rfl ?_
            refine q_val rfl (ev_fa (m := _) fa_56_2 rfl rfl) .free rfl ?_
            refine q_val rfl (ev_load Try.isAgg46 rfl rfl) .free rfl ?_
            refine q_val rfl ((ev_iaS Try.runUnderlying39 Try.sizeOf46 rfl rfl (by omega) (by omega))) .free rfl ?_
            refine q_nil ?_
            refine p_chg0 rfl (ch_store Try.sizeOf46 rfl rfl rfl (by rw [Nat.blt_eq, List.length_append, tab_len]; omega)) .free rfl ?_
            rintro _ _ rfl
            rw [Nat.zero_add, tset (by omega)]
            refine p_nil ?_
            refine go_sub (σ' := [(15, _), (8, _)]) ⟨rfl, rfl, trivial⟩ ?_
            refine g_seq ?_
            refine g_region ?_
            refine p_val rfl (ev_move rfl) .free rfl rfl ?_
            refine p_val rfl (ev_cmp rfl rfl rfl) .free rfl rfl ?_
            refine p_val rfl (ev_assign rfl) .free rfl rfl ?_
            refine p_nil ?_
            refine g_ret ?_
            exact ret_tmp Try.results18 rfl (fun w hh => ⟨_, .inr (.inr (.inr ⟨q0, q1, q2, a, S', s', hm3, by rw [hput], rfl⟩)), by rw [hput]; exact ma_holds (((((((hh.front 3 rfl).tail.front 2 rfl).front 2 rfl).front 2 rfl).front 5 rfl).front 5 rfl).front 5 rfl)⟩)

end Go.Proofs.Ytbhpbnedocdneaa
