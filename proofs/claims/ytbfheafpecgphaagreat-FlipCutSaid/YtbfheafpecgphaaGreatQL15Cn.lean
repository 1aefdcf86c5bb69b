/- Part of the texts beneath a law: what its proof names. Conditions: none. -/
import Derived.Test.YtbfheafpecgphaaGreatQL15Cm
set_option linter.unusedSimpArgs false
set_option linter.unusedVariables false
set_option linter.unnecessarySimpa false
set_option linter.unusedSectionVars false
namespace Go.Proofs.YtbfheafpecgphaaGreat
open Go
theorem block_rlen {c : Cfg} (hc : CfgW c) {s : Dev} {b : Blk} (hb : s.block c = (b, 0)) : (b.rts.length : Int) = c.roots := by
  have h2 : (s.block c).2 = 0 := by rw [hb]
  have hbe : b = (s.block c).1 := by rw [hb]
  rw [hbe]
  unfold Dev.block at h2 ⊢
  split at h2
  · cases h2
  · rename_i hne
    rw [if_neg hne, tab_len]; have := hc.r1; omega
theorem block_cong {c : Cfg} (hc : CfgW c) {s t : Dev} (h : ∀ j : Int, c.active ≤ j → j < c.active + 2 + c.roots → t.load j = s.load j) : t.block c = s.block c := by
  have hr1 := hc.r1
  unfold Dev.block
  rw [h _ (by omega) (by omega), h _ (by omega) (by omega)]
  have : (tab c.roots.toNat fun i => t.load (c.root i)) = tab c.roots.toNat fun i => s.load (c.root i) := tab_congr fun i hi => h _ (by simp only [Cfg.root]; omega) (by simp only [Cfg.root]; omega)
  rw [this]
theorem cut_end {c : Cfg} (hc : CfgW c) {N : Nat} (hN : (N : Int) = c.words) {s : Dev} {b : Blk} (hb : s.block c = (b, 0)) (hb0 : b.act = 0) {L : List Int} (hh : HeapW c b s.load L) (hu : U64 s) (hn : s.n = N) {t : Dev} (hn' : t.n = N) (hu' : U64 t)
    (h : (∀ x : Nat, c.active ≤ x → x < N → (x : Int) < c.frm 1 → t.now x = s.now x) ∨ ∃ (X : ColS) (s1 : Dev), DI c b s.load L (c.frm 1) b.rts X s1 ∧ s1.n = N ∧ U64 s1 ∧
        ∀ x : Nat, c.active ≤ x → x < N → ((x : Int) < c.frm 1 ∨ (x : Int) < X.free) → t.now x = if (x : Int) < c.active + 2 + c.roots then (X.block.act :: X.block.used :: X.block.rts).getD (x - c.active.toNat) 0 else s1.now x) :
    ∃ b' : Blk, t.block c = (b', 0) ∧ t.check c = 0 ∧ ((b'.act = b.act ∧ ∀ x : Nat, c.active ≤ x → (x : Int) < c.frm 1 → t.now x = s.now x) ∨
      (b'.act ≠ b.act ∧ b'.rts.length = b.rts.length ∧ ∃ R : List (Int × Int), R.length ≤ 1000000 ∧ (∀ o : Dev, o.load = s.load → IsoR c b o b' t R) ∧ ∀ i (h1 : i < b.rts.length) (h2 : i < b'.rts.length), PrR R b.rts[i] b'.rts[i])) := by
  have hA := act_w hc
  have hs1 := hc.s1
  have hbe : b = (s.block c).1 := by rw [hb]
  have hbw : BlkW c b := by rw [hbe]; exact block_w hc hu
  have G : GcH c b s.load L (c.frm 1) (c.frm 1 + c.space) := ⟨hc, hbw, hh, by rw [hb0]; rfl, rfl, fun x => hu.load x⟩
  have hap := G.apart
  have hlo0 := G.lo0
  have hf0 := frm_b hc (k := 0) (by omega)
  have hrl := block_rlen hc hb
  have hl : ∀ (s t : Dev), s.n = N → t.n = N → ∀ j : Int, 0 ≤ j → j < N → t.now j.toNat = s.now j.toNat → t.load j = s.load j := fun s t h1 h2 j h3 h4 h5 => by
    rw [load_nat (k := j.toNat) (by omega) (by omega), load_nat (k := j.toNat) (by omega) (by omega)]; exact h5
  rcases h with h | ⟨X, s1, hD, hn1, hu1, h⟩
  · have hld : ∀ j : Int, c.active ≤ j → j < c.frm 1 → t.load j = s.load j := fun j h1 h2 => hl s t hn hn' j (by omega) (by omega) (h _ (by omega) (by omega) (by omega))
    have hbt : t.block c = (b, 0) := by rw [block_cong hc (s := s) fun j h1 h2 => hld j h1 (by omega)]; exact hb
    have hu0 := hbw.used
    have hht : HeapW c b t.load L := hh.congr fun j h1 h2 => hld j (by unfold Blk.place at h1; rw [hb0] at h1; omega) (by
      have h9 := hap.2.2.1
      unfold Blk.place at h2; rw [hb0] at h2
      have := lines_b (n := c.space) (by omega)
      have e1 : c.frm 1 = c.frm 0 + linesI c.space := by simp [Cfg.frm]
      omega)
    exact ⟨b, hbt, heap_check hc hu' hbt hht, .inl ⟨rfl, fun x h1 h2 => h x h1 (by omega) h2⟩⟩
  · have hbl := hD.block G
    have hus := hD.used G
    have hfr := hD.ci.free G
    have hlx : (X.block.rts.length : Int) = c.roots := by rw [hbl]; simp only [List.length_map]; exact hrl
    have hbX : BlkW c X.block := ⟨by rw [hbl]; have := hbw.act; simp only; omega, ⟨hus.2.1, by have := hbw.used; omega⟩⟩
    have hbt : t.block c = (X.block, 0) := flip_block hc (s := t) hn' hN hlx hbX fun x h1 => by
      split
      · rename_i h2
        rw [h x h1 (by omega) (.inl (by omega)), if_pos h2]
      · rfl
    have hld : ∀ j : Int, c.frm 1 ≤ j → j < X.free → t.load j = s1.load j := fun j h1 h2 => hl s1 t hn1 hn' j (by omega) (by omega) (by
      rw [h _ (by omega) (by omega) (.inr (by omega)), if_neg (by omega)])
    have hht := hD.heap G (fun w hw => hw) hld
    refine ⟨X.block, hbt, heap_check hc hu' hbt hht, .inr ⟨?_, ?_, X.went, ?_, fun o ho => ?_, fun i h1 h2 => ?_⟩⟩
    · rw [hbl]; simp only; omega
    · omega
    · have h1 := hht.tile.len
      have h2 := hbX.used
      have h3 := hc.s2
      rw [List.length_map] at h1
      unfold Blk.place at h1
      omega
    · rw [← ho] at G hD
      exact iso_went hc G hD hbX hht hld
    · have hm := hD.ws _ (List.getElem_mem h1)
      have e : X.block.rts[i] = tr X.went b.rts[i] := by simp only [hbl, List.getElem_map]
      rw [e]
      rcases hm with hz | hk
      · exact .inl ⟨hz, by rw [hz]; exact tr_not (hD.ci.zero G)⟩
      · exact .inr (hD.trm hk).2
end Go.Proofs.YtbfheafpecgphaaGreat
namespace Go.Proofs.YtbfheafpecgphaaGreat
open Go
theorem Left.uq {s t : Dev} (h : UQ s) (ht : Left s t) : UQ t := by
  have hu : U64 t := fun x => by
    rcases ht.p x with e | e | e
    · rw [e]; exact h.k x
    · rw [e]; exact h.fk x
    · rw [e]; exact h.u x
  exact ⟨hu, fun x => by rw [ht.kept]; exact hu x, fun k f e => by rw [ht.q] at e; cases e⟩
structure FlI (s2 : Dev) (k : Nat) (s : Dev) : Prop where
  now : s.now = s2.now
  n : s.n = s2.n
  lim : s.pow.lim < 0
  pk : ∀ x, x < k → s.pk x = s.now x
  uq : UQ s
theorem FlI.step {s2 s : Dev} {k : Nat} (h : FlI s2 k s) : FlI s2 (k + 1) (s.up.fl k) :=
  ⟨h.now, h.n, h.lim, fun x hx => by
    rw [pk_flush]
    split
    · rfl
    · rename_i hne
      exact h.pk x (by
        rcases Nat.lt_or_ge x k with h1 | h1
        · exact h1
        · have : x = k := by omega
          subst this; exact absurd rfl hne), h.uq.fl _⟩
theorem FlI.calm {c : Cfg} (hc : CfgW c) {N : Nat} (hN : (N : Int) = c.words) {s0 s2 s : Dev} (hfm : Fmt c N s0) {out : List Int} {u : Int} (hF : Fi c N s0.kept s2 out u) (h : FlI s2 N s) (F : Nat → Prop) (pa : Nat) (pw : Pow) : CutI c N F s.now 1 [] { s.up.fe with pa := pa, pow := pw } := by
  have hact := hc.act
  have hw := words_b hc
  have hA := act_w hc
  have hlog : 0 ≤ c.log := by have := hc.l1; have := hc.r1; omega
  have hlow : ∀ x : Nat, (x : Int) < c.active → s.now x = s0.now x := fun x hx => by rw [h.now, hF.h.low x hx, hfm.calm.kept]
  have hP : ∀ x w, x < N → ({ s.up.fe with pa := pa, pow := pw } : Dev).P x w → w = s.now x := fun x w hx hw => by
    rcases hw with h1 | h1 | h1
    · exact h1.trans (h.pk x hx)
    · exact h1.trans (h.pk x hx)
    · exact h1
  have hrc : ∀ k : Nat, (k : Int) < c.log → ((16 + 4 * k : Nat) : Int) < c.active := fun k hk => by omega
  refine ⟨h.n.trans hF.h.n, by decide, by decide, by simpa using hlog, fun v hv => ?_, fun k hk => absurd hk (Nat.not_lt_zero _), fun k _ hk v hv => ?_, fun x _ _ h3 _ v hv => hP x v h3 hv⟩
  · rw [hP 8 v (by omega) hv, hlow 8 (by omega)]; exact hfm.ep.1
  · have h1 := hrc k hk
    rw [hP _ _ (by omega) hv, hlow _ h1, hfm.st.recs k hk]; decide
theorem FlI.uq0 {c : Cfg} {N : Nat} {s0 s2 : Dev} (hfm : Fmt c N s0) (hu0 : U64 s0) {out : List Int} {u : Int} (hF : Fi c N s0.kept s2 out u) : FlI s2 0 s2 :=
  ⟨rfl, rfl, hF.h.lim, fun x hx => absurd hx (Nat.not_lt_zero _), hF.h.u, fun x => by rw [hF.h.kept, hfm.calm.kept]; exact hu0 x, fun k f e => by rw [hF.h.q] at e; cases e⟩
theorem FlI.all {c : Cfg} (hc : CfgW c) {N : Nat} (hN : (N : Int) = c.words) {s0 s2 s : Dev} (hfm : Fmt c N s0) {out : List Int} {u : Int} (hF : Fi c N s0.kept s2 out u) (h : FlI s2 N s) {b : Blk} (hb : s2.block c = (b, 0)) (hh : HeapW c b s2.load out) :
    ∃ s3, s3 = s.up.fe ∧ s3.load = s2.load ∧ s3.n = N ∧ UQ s3 ∧ (∀ (F : Nat → Prop) (pa : Nat) (pw : Pow), CutI c N F s3.now 1 [] { s3 with pa := pa, pow := pw }) ∧ s3.block c = (b, 0) ∧ HeapW c b s3.load out := by
  have hn := h.n
  have hn2 := hF.h.n
  have hld : s.up.fe.load = s2.load := by
    funext j
    unfold Dev.load Dev.has
    show (if (decide (0 ≤ j) && decide (j < (s.n : Int))) = true then s.now j.toNat else 0) = _
    rw [hn, h.now]
  refine ⟨_, rfl, hld, hn.trans hn2, h.uq.fe, fun F pa pw => h.calm hc hN hfm hF F pa pw, ?_, by rw [hld]; exact hh⟩
  rw [block_cong hc (s := s2) (fun j _ _ => congrFun hld j)]; exact hb
theorem CutR.n {c : Cfg} {N bd : Nat} {b : Blk} {m0 : Int → Int} {L : List Int} {K : Nat → Int} {s : Dev} (h : CutR c N bd b m0 L K s) : s.n = N := by
  rcases h with h | ⟨X, s1, M, _, _, _, _, _, h⟩
  · obtain ⟨_, _, h1⟩ := h _ (left_crash s fun _ => 0)
    exact h1.n
  · rcases h _ (left_crash s fun _ => 0) with ⟨_, _, h1⟩ | ⟨_, _, h1⟩ <;> exact h1.n
end Go.Proofs.YtbfheafpecgphaaGreat
namespace Go.Proofs.YtbfheafpecgphaaGreat
open Go
def chc (bits : Int) (i : Nat) : Int := IntKind.u8.wrap (bitI .and .u64 (bits.fdiv (2 ^ min (2 * ((i : Int) % 32)).toNat IntKind.u64.bits)) 3)
theorem chc_pos (bits : Int) (i : Nat) : 0 ≤ chc bits i := by
  unfold chc
  simp only [IntKind.wrap, IntKind.bits, IntKind.signed]; simp; omega
theorem choice_ok (B : World) (H : List HP) (bits : Int) (i : Nat) (hi : i ≤ 1000000) :
    ∀ w, Holds B H w → Calls Tryz.prog 25 [w64 bits, i64 i].toArray w (PureR B H (.int .u8 (chc bits i))) := by
  refine fn_enter Tryz.func25 rfl Tryz.ntmps25 rfl ?_; refine g_seq ?_; refine g_region ?_; refine kPa rfl rfl ?_; refine p_nil ?_; refine g_seq ?_; refine g_region ?_; refine kPm rfl rfl ?_; refine kPm rfl rfl ?_; refine kPv (ev_rem (c := (i : Int) % 32) rfl rfl (by decide) (rem_e 32 (by omega))) rfl ?_
  first | refine p_val rfl (ev_mul rfl rfl (wr64 (by omega))) .free rfl rfl ?_ | refine p_val rfl (ev_mul rfl rfl rfl) .free rfl rfl ?_
  refine kPv (ev_shr rfl rfl (by omega) rfl) rfl ?_; refine kPv (ev_and rfl rfl rfl) rfl ?_
  first | refine p_val rfl (ev_conv Tryz.runUnderlying52 Tryz.runUnderlying5 rfl (wru8 (by omega))) .free rfl rfl ?_ | refine p_val rfl (ev_conv Tryz.runUnderlying52 Tryz.runUnderlying5 rfl rfl) .free rfl rfl ?_
  refine kPa rfl rfl ?_; refine p_nil ?_; refine go_sub (σ' := [(4, _)]) ⟨rfl, trivial⟩ ?_; refine g_ret ?_
  exact ret_tmp Tryz.results25 rfl (fun w hw => ⟨rfl, hw⟩)
theorem ins_ers {α : Type} {x : α} : ∀ {l : List α} {i : Nat}, l[i]? = some x → (l.eraseIdx i).insertIdx i x = l
  | [], _, h => by simp at h
  | y :: l, 0, h => by simp at h; subst h; rfl
  | y :: l, i + 1, h => by
    have h1 : l[i]? = some x := by simpa using h
    show (y :: l.eraseIdx i).insertIdx (i + 1) x = y :: l
    rw [List.insertIdx_succ_cons, ins_ers h1]
theorem pure_front {B : World} {P : Program} {f : FuncId} {vs : Array Value} {v : Value} {H : List HP} {A : HP} (i : Nat) (e : H[i]? = some A) (h : ∀ w, Holds B (A :: H.eraseIdx i) w → Calls P f vs w (PureR B (A :: H.eraseIdx i) v)) : ∀ w, Holds B H w → Calls P f vs w (PureR B H v) :=
  fun w hw => (h w (hw.front i e)).mono fun _ _ ⟨h1, h2⟩ => ⟨h1, by
    have hi : i < H.length := (List.getElem?_eq_some_iff.1 e).1
    have h3 := h2.back i (by rw [List.length_eraseIdx]; split <;> omega)
    rwa [ins_ers e] at h3⟩
theorem fcutCh_ok (B : World) (H : List HP) (bb : Nat) (bits : Int) (i : Nat) (hi : i ≤ 1000000) :
    ∀ w, Holds B (row bb [w64 bits] 52 :: H) w → Calls Tryz.prog 40 [i64 i, ptr bb].toArray w (PureR B (row bb [w64 bits] 52 :: H) (.int .u8 (chc bits i))) := by
  refine fn_enter Tryz.func40 rfl Tryz.ntmps40 rfl ?_; refine g_seq ?_; refine g_region ?_; refine kPa rfl rfl ?_; refine p_nil ?_; refine g_seq ?_; refine g_region ?_; refine kPv (ev_load Tryz.isAgg52 rfl rfl) rfl ?_; refine kPm rfl rfl ?_; refine p_callq rfl (en_f Tryz.call25 rfl) (choice_ok _ _ bits i hi) .free rfl rfl ?_; refine kPa rfl rfl ?_; refine p_nil ?_; refine g_ret ?_
  exact ret_tmp Tryz.results40 rfl (fun w hw => ⟨rfl, hw⟩)
theorem fcutCh_c (B : World) (Fr : List HP) (j n bb : Nat) (bits : Int) (hn : n ≤ 1000000) (hj : Fr[j]? = some (row bb [w64 bits] 52)) : Chooses B Fr 40 [ptr bb] n (chc bits) where
  enter := Tryz.call40
  pos := chc_pos bits
  says := fun H hF i hi => by
    obtain ⟨l, rfl⟩ := hF.ex
    exact pure_front (l.length + j) (by rw [List.getElem?_append_right (by omega), Nat.add_sub_cancel_left]; exact hj) (fcutCh_ok B _ bb bits i (by omega))
end Go.Proofs.YtbfheafpecgphaaGreat
