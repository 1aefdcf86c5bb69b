/- The root block written. Conditions: none. -/
import Derived.Test.YtbfheafpecgphaaGreatStf
import Derived.Test.YtbfheafpecgphaaGreatVeb
set_option linter.unusedSimpArgs false
set_option linter.unusedVariables false
set_option linter.unnecessarySimpa false
set_option linter.unusedSectionVars false
namespace Go.Proofs.YtbfheafpecgphaaGreat
set_option linter.unusedSimpArgs false
set_option linter.unusedVariables false
open Go

theorem rwrite_ok (B : World) (Fr : List HP) (f : FuncId) (fi : List Value) (bd be : Nat) (ε : Type) (ExA : Nat → ε → HP) (op : Int → Int → Dev → ε → Out (Int × ε)) (ok : Dev → ε → Prop) (hS : StoreF B f fi bd be ε ExA op ok) (c : Cfg) (hc : CfgW c) (b : Blk) (hb : 0 ≤ b.act ∧ b.act < 9223372036854775808 ∧ 0 ≤ b.used ∧ b.used < 9223372036854775808) (hw64 : ∀ x ∈ b.rts, 0 ≤ x ∧ x < 18446744073709551616) (hl0 : 0 < b.rts.length) (hl1 : b.rts.length ≤ 100000) (sv : Value) (hsv : cell1 sv = true) (hsl : SlR B Fr sv (b.rts.map w64)) (s : Dev) (e : ε) (hok : ok s e) :
    ∀ w_, Holds B (DevA bd s :: ExA be e :: Fr) w_ → Calls Tryz.prog 75 [ptr bd, cfgV c, blkV b sv, .func (.func f) fi.toArray #[]].toArray w_ (Ret B (fun rv H' => ∃ x e' s', writeM op c b s e = .ok (x, e') s' ∧ rv = i64 x ∧ ok s' e' ∧ H' = DevA bd s' :: ExA be e' :: Fr) (fun ch H' => ∃ s', writeM op c b s e = .off s' ∧ ch = offc ∧ H' = DevA bd s' :: Fr)) := by
  refine fn_enter Tryz.func75 rfl Tryz.ntmps75 rfl ?_
  obtain ⟨hA1, hA2, hA3⟩ := act_b hc
  have hws : ∀ x ∈ (b.act :: b.used :: b.rts), 0 ≤ x ∧ x < 18446744073709551616 := fun x hx => by
    simp only [List.mem_cons] at hx
    rcases hx with rfl | rfl | hx
    · omega
    · omega
    · exact hw64 x hx
  refine g_seq ?_; refine g_region ?_; refine p_chg rfl (ch_boxA rfl) .free rfl rfl ?_
  rintro _ _ ⟨b5, rfl, rfl⟩
  refine p_chg rfl (ch_boxA rfl) .free rfl rfl ?_
  rintro _ _ ⟨b6, rfl, rfl⟩
  refine kPa rfl rfl ?_; refine p_nil ?_; refine g_seq ?_; refine g_region ?_; refine kPv (ev_fa (m := _) fa_33_0 rfl rfl) rfl ?_; refine kPv (ev_load Tryz.isAgg3 rfl rfl) rfl ?_; refine kPv (ev_conv Tryz.runUnderlying3 Tryz.runUnderlying52 rfl (wru64 (by omega))) rfl ?_; refine kPv (ev_fa (m := _) fa_33_1 rfl rfl) rfl ?_; refine kPv (ev_load Tryz.isAgg3 rfl rfl) rfl ?_; refine kPv (ev_conv Tryz.runUnderlying3 Tryz.runUnderlying52 rfl (wru64 (by omega))) rfl ?_
  refine p_chg rfl (ch_bs2 Tryz.runUnderlying31 Tryz.sizeOf52 Tryz.zeroValue52 rfl rfl rfl rfl rfl) .free rfl rfl ?_
  rintro _ _ ⟨b20, rfl, rfl⟩
  refine kPv (ev_fa (m := _) fa_33_2 rfl rfl) rfl ?_; refine kPv (ev_load Tryz.isAgg31 rfl rfl) rfl ?_; refine go_conv (H' := VecA 52 w64 0 (.slice (some ⟨b20, 0, none⟩) 2 2, [b.act, b.used]) :: _) (fun w hh => vec_row rfl rfl hh) ?_; refine p_chg rfl (ch_append_vecs (yv := sv) (ys := b.rts) rfl rfl Tryz.runUnderlying31 Tryz.runUnderlying31 ⟨_, rfl⟩ Tryz.sizeOf52 Tryz.zeroValue52 rfl (fun _ => rfl) tb_52 rfl rfl ((((hsl.cons _).cons _).cons _).cons _) hl0 (by simp; omega)) .free rfl rfl ?_
  rintro sv2 _ ⟨hsv2, rfl⟩
  refine go_vecsa (by simp) fun bW oW capW hW => ?_
  subst hW
  refine kPa rfl rfl ?_; refine p_nil ?_; refine go_sub (σ' := [(9, _), (8, _), (5, _), (0, _), (3, _)]) ⟨rfl, rfl, rfl, rfl, rfl, trivial⟩ ?_; refine g_seq ?_; refine g_seq ?_; refine g_region ?_; refine kPm rfl rfl ?_; refine kPv (ev_len rfl Tryz.runUnderlying31 ⟨_, rfl⟩ rfl) rfl ?_; refine kPm rfl rfl ?_; refine p_nil ?_; refine g_block ?_
  refine g_loop (ι := Nat × Dev × ε) (fun i => i.1 ≤ (b.act :: b.used :: b.rts).length ∧ ok i.2.1 i.2.2 ∧ writeM op c b s e = writeN op ((b.act :: b.used :: b.rts).drop i.1) (c.active + i.1) i.2.1 i.2.2) (fun i => [(0, ptr bd), (3, .func (.func f) fi.toArray #[]), (5, ptr b5), (8, i64 0), (24, .slice (some ⟨bW, oW, none⟩) (b.act :: b.used :: b.rts).length capW), (25, i64 ((b.act :: b.used :: b.rts).length : Nat)), (26, i64 i.1)]) (fun i => VecA 52 w64 0 (.slice (some ⟨bW, oW, none⟩) (b.act :: b.used :: b.rts).length capW, (b.act :: b.used :: b.rts)) :: row b6 [i64 b.act, i64 b.used, sv] 33 :: row b5 [i64 c.log, i64 c.roots, i64 c.space] 30 :: DevA bd i.2.1 :: ExA be i.2.2 :: Fr) (fun i => (b.act :: b.used :: b.rts).length - i.1) (0, s, e) ⟨Nat.zero_le _, hok, by simp [writeM]⟩ (fun a w st => st.to ⟨rfl, rfl, rfl, rfl, rfl, rfl, rfl, trivial⟩ id) ?_
  rintro ⟨k, sL, eL⟩ ⟨hkw, hok2, hinv⟩
  simp only at hkw hok2 hinv ⊢
  have hr1 := hc.r1
  have hkb : (k : Int) ≤ 200000 := by simp at hkw; omega
  refine g_seq ?_; refine g_region ?_; refine kPv (ev_cmp rfl rfl rfl) rfl ?_; refine p_nil ?_; refine g_seq ?_
  refine g_if rfl (fun h27 => ?_) (fun h27 => ?_)
  · have hk : k < (b.act :: b.used :: b.rts).length := by simp at h27 ⊢; omega
    have hwk := hws _ (List.getElem_mem hk)
    have hst : writeN op ((b.act :: b.used :: b.rts).drop k) (c.active + k) sL eL = if sL.load (c.active + k) = (b.act :: b.used :: b.rts)[k] then writeN op ((b.act :: b.used :: b.rts).drop (k + 1)) (c.active + (k + 1 : Nat)) sL eL else (op (c.active + k) ((b.act :: b.used :: b.rts)[k]) sL eL).then fun x s9 => if x.1 ≠ 0 then .ok x s9 else writeN op ((b.act :: b.used :: b.rts).drop (k + 1)) (c.active + (k + 1 : Nat)) s9 x.2 := by
      rw [List.drop_eq_getElem_cons hk]
      push_cast
      rw [← Int.add_assoc]
      rfl
    refine g_skip ?_; refine g_seq ?_; refine g_block ?_; refine g_seq ?_; refine g_region ?_; refine kPm rfl rfl ?_; refine kPv (ev_iaS Tryz.runUnderlying31 Tryz.sizeOf52 rfl rfl (by omega) (by omega)) rfl ?_
    refine kPv (ev_loadS (v := w64 (b.act :: b.used :: b.rts)[k]) Tryz.isAgg52 (vec_slr 0 rfl) rfl (by rw [Int.toNat_natCast, List.getElem?_map, List.getElem?_eq_getElem hk]; rfl)) rfl ?_
    refine kPa rfl rfl ?_; refine kPa rfl rfl ?_; refine p_nil ?_; refine g_seq ?_; refine g_region ?_; refine kPv (ev_loadA Tryz.isAgg30 Tryz.sizeOf30 rfl rfl) rfl ?_; refine p_callq rfl (en_f Tryz.call45 rfl) (active_ok _ _ c hc) .free rfl rfl ?_; refine kPm rfl rfl ?_
    first | refine p_val rfl (ev_add rfl rfl (wr64 (by omega))) .free rfl rfl ?_ | refine p_val rfl (ev_add rfl rfl rfl) .free rfl rfl ?_
    refine kPa rfl rfl ?_; refine p_nil ?_; refine go_sub (σ' := [(12, _), (11, _), (26, _), (25, _), (24, _), (8, _), (5, _), (0, _), (3, _)]) ⟨rfl, rfl, rfl, rfl, rfl, rfl, rfl, rfl, rfl, trivial⟩ ?_; refine g_seq ?_; refine g_seq ?_; refine g_region ?_; refine kPm rfl rfl ?_; refine kPm rfl rfl ?_; refine p_callq rfl (en_f Tryz.call72 rfl) (ro_at (q := DevA) (fun Fr => nload_ok _ Fr _ _ _)) .free rfl rfl ?_; refine kPm rfl rfl ?_; refine kPv (ev_cmp rfl rfl rfl) rfl ?_; refine p_nil ?_
    refine g_if rfl (fun h39 => ?_) (fun h39 => ?_)
    · have hk4 : sL.load (c.active + k) = (b.act :: b.used :: b.rts)[k] := by simpa using h39
      refine g_exit ?_; refine g_region ?_
      first | refine p_val rfl (ev_add rfl rfl (wr64 (by omega))) .free rfl rfl ?_ | refine p_val rfl (ev_add rfl rfl rfl) .free rfl rfl ?_
      refine kPm rfl rfl ?_; refine p_nil ?_; refine go_sub (σ' := [(26, _), (25, _), (24, _), (8, _), (5, _), (0, _), (3, _)]) ⟨rfl, rfl, rfl, rfl, rfl, rfl, rfl, trivial⟩ ?_
      exact fun a w_ st => ⟨(k + 1, sL, eL), ⟨by simp only; omega, hok2, by rw [hinv, hst, if_pos hk4]⟩, by simp only; omega, st.to ⟨rfl, rfl, rfl, rfl, rfl, rfl, rfl, trivial⟩ id⟩
    · have hk4 : ¬ sL.load (c.active + k) = (b.act :: b.used :: b.rts)[k] := by simpa using h39
      refine g_skip ?_; refine g_seq ?_; refine g_region ?_; refine kPm rfl rfl ?_; refine kPm rfl rfl ?_; refine kPm rfl rfl ?_; refine go_pull ExA be ?_; refine go_pull DevA bd ?_
      refine p_call rfl (en_c hS.enter rfl rfl) (hS.says _ _ _ _ _ hok2) .free rfl rfl ?_ ?_
      rotate_left
      · rintro _ _ ⟨s9, hm9, rfl, rfl⟩
        exact pan_fn fun w hh => ⟨_, ⟨s9, by rw [hinv, hst, if_neg hk4, hm9]; rfl, rfl, rfl⟩, (((hh.front 3 rfl).front 3 rfl).front 3 rfl).tail.tail.tail⟩
      rintro _ _ ⟨a2, e2, s2, hm2, rfl, rfl⟩
      have hok3 := hS.keeps _ _ _ _ _ _ _ hok2 hwk hm2
      refine kPa rfl rfl ?_; refine p_nil ?_; refine go_sub (σ' := [(13, _), (26, _), (25, _), (24, _), (8, _), (5, _), (0, _), (3, _)]) ⟨rfl, rfl, rfl, rfl, rfl, rfl, rfl, rfl, trivial⟩ ?_; refine g_seq ?_; refine g_region ?_; refine kPm rfl rfl ?_; refine kPv (ev_cmp rfl rfl rfl) rfl ?_; refine p_nil ?_
      refine g_if rfl (fun h45 => ?_) (fun h45 => ?_)
      · have hk5 : a2 ≠ 0 := by simpa using h45
        refine g_seq ?_; refine g_region ?_; refine kPm rfl rfl ?_; refine kPa rfl rfl ?_; refine p_nil ?_; refine g_ret ?_
        exact ret_tmp Tryz.results75 rfl (fun w_ hh => ⟨_, ⟨_, e2, s2, by rw [hinv, hst, if_neg hk4, hm2, then_ok, if_pos hk5], rfl, hok3, rfl⟩, (((hh.front 4 rfl).front 4 rfl).front 4 rfl).tail.tail.tail⟩)
      · have hk5 : ¬ a2 ≠ 0 := by simpa using h45
        refine g_skip ?_; refine g_region ?_
        first | refine p_val rfl (ev_add rfl rfl (wr64 (by omega))) .free rfl rfl ?_ | refine p_val rfl (ev_add rfl rfl rfl) .free rfl rfl ?_
        refine kPm rfl rfl ?_; refine p_nil ?_
        exact fun a w_ st => ⟨(k + 1, s2, e2), ⟨by simp only; omega, hok3, by rw [hinv, hst, if_neg hk4, hm2, then_ok, if_neg hk5]⟩, by simp only; omega, st.to ⟨rfl, rfl, rfl, rfl, rfl, rfl, rfl, trivial⟩ (fun hh => (((((hh.front 1 rfl).front 1 rfl).front 4 rfl).front 4 rfl).front 4 rfl))⟩
  · have hk : ¬ k < (b.act :: b.used :: b.rts).length := by simp at h27 ⊢; omega
    refine g_exit ?_; refine g_seq ?_; refine g_region ?_; refine kPa rfl rfl ?_; refine p_nil ?_; refine go_sub (σ' := [(8, _)]) ⟨rfl, trivial⟩ ?_; refine g_ret ?_
    exact ret_tmp Tryz.results75 rfl (fun w_ hh => ⟨_, ⟨0, eL, sL, by rw [hinv, List.drop_eq_nil_of_le (by omega)]; rfl, rfl, hok2, rfl⟩, hh.tail.tail.tail⟩)

end Go.Proofs.YtbfheafpecgphaaGreat
