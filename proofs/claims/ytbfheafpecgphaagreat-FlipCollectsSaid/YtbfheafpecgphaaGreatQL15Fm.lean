/- Part of the texts beneath a law: what its proof names. Conditions: none. -/
import Derived.Test.YtbfheafpecgphaaGreatQL15Fl
import Derived.ProofKit
import Derived.OpenShut
import Derived.ChangeOld
import Derived.Below
import Derived.ChangeSlices
import Derived.Deep.Grids
import Derived.Deep.Strs
import Derived.ChangeSame
set_option linter.unusedSimpArgs false
set_option linter.unusedVariables false
set_option linter.unnecessarySimpa false
set_option linter.unusedSectionVars false
namespace Go.Proofs.YtbfheafpecgphaaGreat
open Go
theorem iso_went {c : Cfg} {b : Blk} {s s1 t : Dev} {L ws : List Int} {lo hi : Int} {X : ColS} (hc : CfgW c) (G : GcH c b s.load L lo hi) (h : DI c b s.load L lo ws X s1) (hbX : BlkW c X.block) (hX : HeapW c X.block t.load (X.went.map Prod.snd)) (ht : ∀ j, lo ≤ j → j < X.free → t.load j = s1.load j) : IsoR c b s X.block t X.went := by
  refine ⟨fun p hp => ?_, fun p hp q hq e => ?_, fun p hp q hq e => h.ci.offs.inj hp hq e, fun p hp => ?_⟩
  · have h1 := heap_b hc G.hb G.heap (h.ci.inL p hp)
    have h2 := heap_b hc hbX hX (List.mem_map_of_mem hp)
    omega
  · have h1 := tr_of h.ci.nd hp
    have h2 := tr_of h.ci.nd hq
    rw [e, h2] at h1
    exact Prod.ext e h1.symm
  · have hz := osz_b s.load p.1
    have hm := h.ci.offs.mem hp
    have hd := h.head hp
    have e0 : t.load p.2 = s.load p.1 := by rw [ht _ (by omega) (by omega)]; exact hd.2.2
    refine ⟨osz s.load p.1 - 1, orf s.load p.1, (heap_of hc G.hb G.heap (h.ci.inL p hp)).1, ?_, by omega, by omega, fun i hi => ?_⟩
    · rw [(heap_of hc hbX hX (List.mem_map_of_mem hp)).1]
      unfold osz orf; rw [e0]
    · rw [ht _ (by omega) (by omega), h.fld hp (by omega) (by omega)]
      by_cases hr : (i : Int) < orf s.load p.1
      · rw [if_pos hr, if_pos hr]
        rcases h.name hp (by omega) hr with hz0 | hk
        · exact .inl ⟨hz0, by rw [hz0]; exact tr_not (h.ci.zero G)⟩
        · exact .inr (h.trm hk).2
      · rw [if_neg hr, if_neg hr]
end Go.Proofs.YtbfheafpecgphaaGreat
namespace Go.Proofs.YtbfheafpecgphaaGreat
open Go
def blkIs (x : Blk × Int) (b : Blk) (e : Int) : Bool := x.1.act == b.act && x.1.used == b.used && x.1.rts == b.rts && x.2 == e
theorem blkIs_eq {x : Blk × Int} {b : Blk} {e : Int} (h : blkIs x b e = true) : x = (b, e) := by
  obtain ⟨⟨a1, a2, a3⟩, a4⟩ := x
  obtain ⟨b1, b2, b3⟩ := b
  simp only [blkIs, Bool.and_eq_true, beq_iff_eq] at h
  obtain ⟨⟨⟨rfl, rfl⟩, rfl⟩, rfl⟩ := h
  rfl
def prIs (x : Int × Int) (a e : Int) : Bool := x.1 == a && x.2 == e
theorem prIs_eq {x : Int × Int} {a e : Int} (h : prIs x a e = true) : x = (a, e) := by
  simp only [prIs, Bool.and_eq_true, beq_iff_eq] at h
  exact Prod.ext h.1 h.2
def obIs (x : Obj3 × Int) (o : Obj3) (e : Int) : Bool := x.1.1 == o.1 && x.1.2.1 == o.2.1 && x.1.2.2 == o.2.2 && x.2 == e
theorem obIs_eq {x : Obj3 × Int} {o : Obj3} {e : Int} (h : obIs x o e = true) : x = (o, e) := by
  simp only [obIs, Bool.and_eq_true, beq_iff_eq] at h
  exact Prod.ext (Prod.ext h.1.1.1 (Prod.ext h.1.1.2 h.1.2)) h.2
theorem cfg48 : CfgW ⟨3, 1, 48⟩ := ⟨by decide, by decide, by decide, by decide, by decide, by decide⟩
theorem mkC48 : (⟨3, 1, 48⟩ : Cfg) = mkC 0 0 40 := rfl
abbrev c8 : Cfg := ⟨3, 1, 8⟩
abbrev c48 : Cfg := ⟨3, 1, 48⟩
theorem n48 {N : Nat} (h : (N : Int) = c48.words) : N = 136 := by have : (N : Int) = 136 := h.trans (by decide); omega
theorem owriteD_ok (B : World) (Fr : List HP) (bd : Nat) (o : Obj3) (ho : ObjW o) (i v : Int) (hv : 0 ≤ v ∧ v < 18446744073709551616) (s : Dev) (hl : s.pow.lim < 0) (hu : U64 s) :
    ∀ w_, Holds B (DevA bd s :: Fr) w_ → Calls Tryz.prog 150 [objV o, i64 i, w64 v, .func (.func 70) [ptr bd].toArray #[]].toArray w_ (Ret B (fun rv H' => ∃ x s', setM devOp o i false v s () = .ok (x, ()) s' ∧ rv = i64 x ∧ s'.pow.lim < 0 ∧ s'.n = s.n ∧ U64 s' ∧ H' = DevA bd s' :: Fr) (fun _ _ => False)) := fun w_ hh => by
  obtain ⟨y, s2, hg, _, hg2, hg3⟩ := good_set (o := o) (i := i) (v := v) (r := false) hl
  refine (owrite_ok B Fr _ [ptr bd] bd 0 Unit (fun _ _ => pr True) devOp _ (storeD B bd 0) o ho i v hv s () hu w_ ((hh.unpr (p := True) trivial).back 1 (by simp))).mono fun en w' h => ?_
  cases en with
  | returned rv =>
    obtain ⟨H, ⟨x, e', s', hm, rfl, hok, rfl⟩, hh⟩ := h
    obtain ⟨rfl, rfl⟩ : y = (x, e') ∧ s2 = s' := by rw [hg] at hm; cases hm; exact ⟨rfl, rfl⟩
    exact ⟨_, ⟨x, s2, hm, rfl, hg2, hg3, hok, rfl⟩, (hh.front 1 rfl).tail⟩
  | panicked c =>
    obtain ⟨H, ⟨s', hm, _⟩, _⟩ := h
    rw [hg] at hm; cases hm
  | outgrown => exact h
theorem d8_eval (pa : Nat) : okB ((dev0 pa [] 56).format c8) (fun _ s => blkIs (s.block c8) ⟨0, 0, [0]⟩ 0) = true := by kernel_rfl
theorem d9_eval (pa : Nat) : okB ((dev0 pa [] 56).format c8) (fun _ s => okB (allocM devOp c8 2 0 s ()) fun x s1 => prIs x.1 40 0 && okB (allocM devOp c8 5 0 s1 ()) fun y _ => prIs y.1 0 4) = true := by kernel_rfl
theorem d10_eval (pa : Nat) : okB ((dev0 pa [] 136).format c48) (fun _ s => okB (fillN c48 [(1, 2)] s []) fun out sF => out == [40] && blkIs (sF.block c48) ⟨0, 3, [0]⟩ 0 && obIs (sF.objOf c48 ⟨0, 3, [0]⟩ 40) (2, 1, 40) 0 && prIs (sF.objRead (2, 1, 40) 0) 0 5 && okB (setM devOp (2, 1, 40) 1 false 9 sF ()) fun a s2 => a.1 == 0 && prIs (s2.objRead (2, 1, 40) 1) 9 0) = true := by kernel_rfl
theorem d11_eval (pa : Nat) : okB ((dev0 pa [] 136).format c48) (fun _ s => okB (fillN c48 [(0, 1)] s []) fun out sF => out == [40] && blkIs (sF.block c48) ⟨0, 2, [0]⟩ 0 && okB (linkObjs c48 ⟨0, 2, [0]⟩ (pickL [] [40] 0) [40] 0 sF) fun n1 s1 => n1 == some 0 && okB (linkRoots c48 (pickL [] [40] 0) 1 0 0 s1) fun _ s2 => blkIs (s2.block c48) ⟨0, 2, [0]⟩ 0 && (s2.starts c48 ⟨0, 2, [0]⟩).1 == [(40, (1, 0, 40))] && (s2.starts c48 ⟨0, 2, [0]⟩).2 == 0) = true := by kernel_rfl
theorem d12_eval (pa : Nat) : okB ((dev0 pa [] 56).format c8) (fun _ s => s.check c8 == 0 && okB (s.store 34 5) fun _ s1 => s1.check c8 == 9) = true := by kernel_rfl
theorem awake8_ok (B : World) (Fr : List HP) :
    ∀ w, Holds B Fr w → Calls Tryz.prog 152 [].toArray w (PureR B Fr (.bool true)) := by
  refine fn_enter Tryz.func152 rfl Tryz.ntmps152 rfl ?_; refine g_seq ?_; refine g_region ?_; refine kPa rfl rfl ?_; refine p_nil ?_; refine g_seq ?_; refine g_seq ?_; refine g_region ?_; refine p_callq rfl (en_f Tryz.call153 rfl) (awake7_ok _ _) .free rfl rfl ?_; refine kPv (ev_not rfl) rfl ?_; refine p_nil ?_; refine g_iff rfl (rfl) ?_; refine g_skip ?_; refine g_seq ?_; refine g_region ?_; refine kPv (ev_build rfl (bld_30_0_1_2 _ _ _ rfl rfl rfl)) rfl ?_
  refine p_chg rfl (ch_allocA Tryz.zeroValue30 rfl) .free rfl rfl ?_
  rintro _ _ ⟨b1, rfl, rfl⟩
  refine p_chg0 rfl (ch_storeA (vs := _) Tryz.sizeOf30 rfl rfl rfl rfl rfl) .free rfl ?_
  rintro _ _ rfl
  refine p_nil ?_; refine g_seq ?_; refine g_region ?_; refine kPv (ev_loadA Tryz.isAgg30 Tryz.sizeOf30 rfl rfl) rfl ?_
  refine p_call rfl (en_f Tryz.call101 rfl) (formatted_ok _ _ ⟨3, 1, 8⟩ cfg1 none 0 [] (by decide) (fun _ h => absurd h (Nat.not_lt_zero _)) SlR.nil) .free rfl rfl ?_ ?_
  rotate_left
  · rintro _ _ ⟨⟩
  rintro _ _ ⟨bd, pa, N, s0, hN, hf, rfl, rfl⟩
  obtain rfl : N = 56 := by have : (N : Int) = 56 := hN.trans (by decide); omega
  have hfm := fmt_of cfg1 hN hf
  have hu0 := format_u64 (dev0_u64 pa 56) cfg1 hf
  refine kPm rfl rfl ?_; refine kPv (ev_ext rfl rfl) rfl ?_; refine kPv (ev_ext rfl rfl) rfl ?_; refine kPa rfl rfl ?_; refine kPa rfl rfl ?_; refine p_nil ?_; refine go_sub (σ' := [(3, _), (2, _), (1, _), (0, _)]) ⟨rfl, rfl, rfl, rfl, trivial⟩ ?_; refine g_seq ?_; refine g_seq ?_; refine g_region ?_; refine kPm rfl rfl ?_; refine kPv (ev_not rfl) rfl ?_; refine p_nil ?_; refine g_iff rfl (rfl) ?_; refine g_skip ?_; refine g_seq ?_; refine g_region ?_; refine kPm rfl rfl ?_
  refine kPv (ev_loadA Tryz.isAgg30 Tryz.sizeOf30 rfl rfl) rfl ?_
  refine p_call rfl (en_f Tryz.call15 rfl) (rread_ok _ _ _ _ ⟨3, 1, 8⟩ cfg1 hu0) .free rfl rfl ?_ ?_
  rotate_left
  · rintro _ _ ⟨⟩
  rintro _ _ ⟨sv, hsv, rfl, rfl⟩
  rw [blkIs_eq (okB_ok (d8_eval pa) hf)]
  refine go_vecq fun qv cv hqv hqi => ?_
  subst hqv
  refine kPm rfl rfl ?_; refine kPv (ev_ext rfl rfl) rfl ?_; refine kPv (ev_ext rfl rfl) rfl ?_; refine p_chg rfl (ch_allocA Tryz.zeroValue33 rfl) .free rfl rfl ?_
  rintro _ _ ⟨b4, rfl, rfl⟩
  refine p_chg0 rfl (ch_storeA (vs := _) Tryz.sizeOf33 rfl rfl rfl (by first | rfl | exact all3 (by assumption)) rfl) .free rfl ?_
  rintro _ _ rfl
  refine kPa rfl rfl ?_; refine p_nil ?_; refine go_sub (σ' := [(5, _), (4, _), (1, _), (0, _)]) ⟨rfl, rfl, rfl, rfl, trivial⟩ ?_; refine g_seq ?_; refine g_region ?_; refine kPm rfl rfl ?_; refine kPv (ev_cmp rfl rfl rfl) rfl ?_; refine kPm rfl rfl ?_; refine p_val rfl (ev_fa (m := _) fa_33_0 rfl rfl) (.on rfl rfl (beq_eq rfl)) rfl rfl ?_; refine p_val rfl (ev_load Tryz.isAgg3 rfl rfl) (.on rfl rfl (beq_eq rfl)) rfl rfl ?_
  refine p_val rfl (ev_cmp rfl rfl rfl) (.on rfl rfl (beq_eq rfl)) rfl rfl ?_; refine kPv (ev_pick_t rfl rfl rfl) rfl ?_; refine kPm rfl rfl ?_; refine p_val rfl (ev_fa (m := _) fa_33_1 rfl rfl) (.on rfl rfl (beq_eq rfl)) rfl rfl ?_; refine p_val rfl (ev_load Tryz.isAgg3 rfl rfl) (.on rfl rfl (beq_eq rfl)) rfl rfl ?_; refine p_val rfl (ev_cmp rfl rfl rfl) (.on rfl rfl (beq_eq rfl)) rfl rfl ?_; refine kPv (ev_pick_t rfl rfl rfl) rfl ?_; refine kPm rfl rfl ?_
  refine p_val rfl (ev_fa (m := _) fa_33_2 rfl rfl) (.on rfl rfl (beq_eq rfl)) rfl rfl ?_; refine p_val rfl (ev_load Tryz.isAgg31 rfl rfl) (.on rfl rfl (beq_eq rfl)) rfl rfl ?_; refine p_val rfl (ev_len rfl Tryz.runUnderlying31 ⟨_, rfl⟩ rfl) (.on rfl rfl (beq_eq rfl)) rfl rfl ?_; refine p_val rfl (ev_cmp rfl rfl rfl) (.on rfl rfl (beq_eq rfl)) rfl rfl ?_; refine kPv (ev_pick_t rfl rfl rfl) rfl ?_; refine kPm rfl rfl ?_
  refine p_val rfl (ev_loadA Tryz.isAgg33 Tryz.sizeOf33 rfl rfl) (.on rfl rfl (beq_eq rfl)) rfl rfl ?_; refine p_val rfl (ev_loadA Tryz.isAgg30 Tryz.sizeOf30 rfl rfl) (.on rfl rfl (beq_eq rfl)) rfl rfl ?_; refine p_callq rfl (en_f Tryz.call94 rfl) (place_ok _ _ ⟨3, 1, 8⟩ cfg1 ⟨0, 0, [0]⟩ _ ⟨⟨by decide, by decide⟩, ⟨by decide, by decide⟩⟩ hsv 3 (by decide)) (.on rfl rfl (beq_eq rfl)) rfl rfl ?_; refine p_val rfl (ev_cmp rfl rfl rfl) (.on rfl rfl (beq_eq rfl)) rfl rfl ?_
  refine kPv (ev_pick_t rfl rfl rfl) rfl ?_; refine kPa rfl rfl ?_; refine p_nil ?_; refine go_sub (σ' := [(0, _)]) ⟨rfl, trivial⟩ ?_; refine g_ret ?_
  exact ret_tmp Tryz.results152 rfl (fun w hh => ⟨rfl, (hh.dp [0, 0, 0, 0])⟩)
theorem awake9_ok (B : World) (Fr : List HP) :
    ∀ w, Holds B Fr w → Calls Tryz.prog 148 [].toArray w (PureR B Fr (.bool true)) := by
  refine fn_enter Tryz.func148 rfl Tryz.ntmps148 rfl ?_; refine g_seq ?_; refine g_region ?_; refine kPa rfl rfl ?_; refine p_nil ?_; refine g_seq ?_; refine g_seq ?_; refine g_region ?_; refine p_callq rfl (en_f Tryz.call152 rfl) (awake8_ok _ _) .free rfl rfl ?_; refine kPv (ev_not rfl) rfl ?_; refine p_nil ?_; refine g_iff rfl (rfl) ?_; refine g_skip ?_; refine g_seq ?_; refine g_region ?_; refine kPv (ev_build rfl (bld_30_0_1_2 _ _ _ rfl rfl rfl)) rfl ?_
  refine p_chg rfl (ch_allocA Tryz.zeroValue30 rfl) .free rfl rfl ?_
  rintro _ _ ⟨b1, rfl, rfl⟩
  refine p_chg0 rfl (ch_storeA (vs := _) Tryz.sizeOf30 rfl rfl rfl rfl rfl) .free rfl ?_
  rintro _ _ rfl
  refine p_nil ?_; refine g_seq ?_; refine g_region ?_; refine kPv (ev_loadA Tryz.isAgg30 Tryz.sizeOf30 rfl rfl) rfl ?_
  refine p_call rfl (en_f Tryz.call101 rfl) (formatted_ok _ _ ⟨3, 1, 8⟩ cfg1 none 0 [] (by decide) (fun _ h => absurd h (Nat.not_lt_zero _)) SlR.nil) .free rfl rfl ?_ ?_
  rotate_left
  · rintro _ _ ⟨⟩
  rintro _ _ ⟨bd, pa, N, s0, hN, hf, rfl, rfl⟩
  obtain rfl : N = 56 := by have : (N : Int) = 56 := hN.trans (by decide); omega
  have hfm := fmt_of cfg1 hN hf
  have hu0 := format_u64 (dev0_u64 pa 56) cfg1 hf
  refine kPm rfl rfl ?_; refine kPv (ev_ext rfl rfl) rfl ?_; refine kPv (ev_ext rfl rfl) rfl ?_; refine kPa rfl rfl ?_; refine kPa rfl rfl ?_; refine p_nil ?_; refine go_sub (σ' := [(3, _), (2, _), (1, _), (0, _)]) ⟨rfl, rfl, rfl, rfl, trivial⟩ ?_; refine g_seq ?_; refine g_seq ?_; refine g_region ?_; refine kPm rfl rfl ?_; refine kPv (ev_not rfl) rfl ?_; refine p_nil ?_; refine g_iff rfl (rfl) ?_; refine g_skip ?_; refine g_seq ?_; refine g_region ?_; refine kPm rfl rfl ?_
  refine kPv (ev_loadA Tryz.isAgg30 Tryz.sizeOf30 rfl rfl) rfl ?_; refine kPv (ev_build rfl (bld_87_0 _ rfl)) rfl ?_; refine kPm rfl rfl ?_; refine kPv (ev_mkf rfl rfl) rfl ?_
  refine p_call rfl (en_f Tryz.call102 rfl) (allocD_ok _ _ bd ⟨3, 1, 8⟩ cfg1 2 0 s0 hfm.lim hu0) .free rfl rfl ?_ ?_
  rotate_left
  · rintro _ _ ⟨⟩
  rintro _ _ ⟨x1, s1, hm1, rfl, hl1, hn1, hu1, rfl⟩
  have hev := okB_ok (okB_ok (d9_eval pa) hf) hm1
  simp only [Bool.and_eq_true] at hev
  rw [prIs_eq hev.1]
  refine kPm rfl rfl ?_; refine kPv (ev_ext rfl rfl) rfl ?_; refine kPv (ev_ext rfl rfl) rfl ?_; refine kPa rfl rfl ?_; refine kPa rfl rfl ?_; refine p_nil ?_; refine go_sub (σ' := [(5, _), (4, _), (2, _), (1, _), (0, _)]) ⟨rfl, rfl, rfl, rfl, rfl, trivial⟩ ?_; refine g_seq ?_; refine g_region ?_; refine kPm rfl rfl ?_; refine kPv (ev_loadA Tryz.isAgg30 Tryz.sizeOf30 rfl rfl) rfl ?_; refine kPv (ev_build rfl (bld_87_0 _ rfl)) rfl ?_; refine kPm rfl rfl ?_; refine kPv (ev_mkf rfl rfl) rfl ?_
  refine p_call rfl (en_f Tryz.call102 rfl) (allocD_ok _ _ bd ⟨3, 1, 8⟩ cfg1 5 0 s1 hl1 hu1) .free rfl rfl ?_ ?_
  rotate_left
  · rintro _ _ ⟨⟩
  rintro _ _ ⟨x2, s2, hm2, rfl, hl2, hn2, hu2, rfl⟩
  rw [show x2 = ((0 : Int), (4 : Int)) from prIs_eq (okB_ok hev.2 hm2)]
  refine kPm rfl rfl ?_; refine kPv (ev_ext rfl rfl) rfl ?_; refine kPv (ev_ext rfl rfl) rfl ?_; refine kPa rfl rfl ?_; refine kPa rfl rfl ?_; refine p_nil ?_; refine go_sub (σ' := [(7, _), (5, _), (4, _), (1, _), (0, _)]) ⟨rfl, rfl, rfl, rfl, rfl, trivial⟩ ?_; refine g_seq ?_; refine g_region ?_; refine kPm rfl rfl ?_; refine kPv (ev_loadA Tryz.isAgg30 Tryz.sizeOf30 rfl rfl) rfl ?_; refine p_callq rfl (en_f Tryz.call46 rfl) (from_ok _ _ ⟨3, 1, 8⟩ cfg1 0 (by decide) (by decide)) .free rfl rfl ?_
  refine kPv (ev_cmp rfl rfl rfl) rfl ?_; refine kPm rfl rfl ?_; refine p_val rfl (ev_move rfl) (.on rfl rfl (beq_eq rfl)) rfl rfl ?_; refine p_val rfl (ev_cmp rfl rfl rfl) (.on rfl rfl (beq_eq rfl)) rfl rfl ?_; refine kPv (ev_pick_t rfl rfl rfl) rfl ?_; refine kPm rfl rfl ?_; refine p_val rfl (ev_move rfl) (.on rfl rfl (beq_eq rfl)) rfl rfl ?_; refine p_val rfl (ev_cmp rfl rfl rfl) (.on rfl rfl (beq_eq rfl)) rfl rfl ?_; refine kPv (ev_pick_t rfl rfl rfl) rfl ?_; refine kPa rfl rfl ?_
  refine p_nil ?_; refine go_sub (σ' := [(0, _)]) ⟨rfl, trivial⟩ ?_; refine g_ret ?_
  exact ret_tmp Tryz.results148 rfl (fun w hh => ⟨rfl, (hh.dp [0, 0])⟩)
abbrev encH (h : Int × Int) : List Value := [u8 h.1, u8 h.2]
theorem encH_w : EncW 2 encH := ⟨fun _ => rfl, fun _ => rfl⟩
theorem hh1 {a b : Int} (h1 : 0 ≤ a ∧ a < 256) (h2 : 0 ≤ b ∧ b < 256) : ∀ h ∈ [(a, b)], (0 ≤ h.1 ∧ h.1 < 256) ∧ (0 ≤ h.2 ∧ h.2 < 256) := fun h hm => by rw [List.mem_singleton.1 hm]; exact ⟨h1, h2⟩
theorem sln1 {B : World} {H : List HP} {b : Nat} {x y : Value} {T1 : TypeId} {U : List Value → List HP} [RowU H b [x, y] T1 U] {cap : Nat} : SlN B H (.slice (some ⟨b, 0, none⟩) 1 cap) 2 [[x, y]] :=
  SlN.row (cs := [[x, y]]) fun i c h => by
    cases i with
    | zero => cases h; exact ⟨rfl, fun j _ => by rw [Nat.zero_mul, Nat.zero_add, Nat.zero_add]⟩
    | succ i => cases h
theorem awake10_ok (B : World) (Fr : List HP) :
    ∀ w, Holds B Fr w → Calls Tryz.prog 141 [].toArray w (PureR B Fr (.bool true)) := by
  refine fn_enter Tryz.func141 rfl Tryz.ntmps141 rfl ?_; refine g_seq ?_; refine g_region ?_; refine kPa rfl rfl ?_; refine p_nil ?_; refine g_seq ?_; refine g_seq ?_; refine g_region ?_; refine p_callq rfl (en_f Tryz.call148 rfl) (awake9_ok _ _) .free rfl rfl ?_; refine kPv (ev_not rfl) rfl ?_; refine p_nil ?_; refine g_iff rfl (rfl) ?_; refine g_skip ?_; refine g_seq ?_; refine g_region ?_; refine kPv (ev_build rfl (bld_24_2 _ rfl)) rfl ?_
  refine kPv (ev_build rfl (bld_107_0_1 _ _ rfl rfl)) rfl ?_; refine p_chg rfl (ch_bsG encH_w (v := (1, 2)) Tryz.runUnderlying25 Tryz.sizeOf107 Tryz.zeroValue107 ⟨⟨by decide, by decide⟩, rfl⟩ rfl rfl) .free rfl rfl ?_
  rintro _ _ ⟨b17, rfl, rfl⟩
  refine p_call rfl (en_f Tryz.call67 rfl) (filled_ok _ _ 0 0 40 ⟨by decide, by decide, by decide⟩ ⟨3, 1, 48⟩ mkC48 [(1, 2)] (hh1 ⟨by decide, by decide⟩ ⟨by decide, by decide⟩) (by decide) (some ⟨b17, 0, none⟩) 1 sln1) .free rfl rfl ?_ ?_
  rotate_left
  · rintro _ _ ⟨⟩
  rintro _ _ ⟨bd, pa, N, s0, sF, out, ov, sv, hfm, hN, ⟨hus0, hf⟩, hfill, huF, hlF, hnF, hov, hsv, rfl, rfl⟩
  obtain rfl := n48 hN
  have hev := okB_ok (okB_ok (d10_eval pa) hf) hfill
  simp only [Bool.and_eq_true, beq_iff_eq] at hev
  obtain ⟨⟨⟨⟨rfl, e1⟩, e2⟩, e3⟩, e4⟩ := hev
  rw [blkIs_eq e1]
  refine go_pk [2] ?_; refine go_vecq fun qo co hqo hqi => ?_
  subst hqo
  obtain ⟨bO, oO, rfl⟩ := hqi 0 (by decide)
  have ho : ObjW (2, 1, 40) := ⟨⟨by decide, by decide⟩, ⟨by decide, by decide⟩, ⟨by decide, by decide⟩⟩
  refine kPm rfl rfl ?_; refine kPv (ev_ext rfl rfl) rfl ?_; refine kPv (ev_ext rfl rfl) rfl ?_; refine kPv (ev_ext rfl rfl) rfl ?_; refine kPv (ev_ext rfl rfl) rfl ?_; refine p_chg rfl (ch_allocA Tryz.zeroValue30 rfl) .free rfl rfl ?_
  rintro _ _ ⟨b2, rfl, rfl⟩
  refine p_chg rfl (ch_allocA Tryz.zeroValue33 rfl) .free rfl rfl ?_
  rintro _ _ ⟨b3, rfl, rfl⟩
  refine kPa rfl rfl ?_; refine p_chg0 rfl (ch_storeA (vs := _) Tryz.sizeOf30 rfl rfl rfl rfl rfl) .free rfl ?_
  rintro _ _ rfl
  refine p_chg0 rfl (ch_storeA (vs := _) Tryz.sizeOf33 rfl rfl rfl (by first | rfl | exact all3 (by assumption)) rfl) .free rfl ?_
  rintro _ _ rfl
  refine kPa rfl rfl ?_; refine p_nil ?_; refine go_sub (σ' := [(4, _), (1, _), (3, _), (2, _), (0, _)]) ⟨rfl, rfl, rfl, rfl, rfl, trivial⟩ ?_; refine g_seq ?_; refine g_seq ?_; refine g_region ?_; refine kPm rfl rfl ?_; refine kPv (ev_eqp Tryz.runUnderlying28 rfl rfl rfl) rfl ?_; refine kPm rfl rfl ?_; refine p_val rfl (ev_move rfl) (.on rfl rfl (beq_eq rfl)) rfl rfl ?_; refine p_val rfl (ev_len rfl Tryz.runUnderlying34 ⟨_, rfl⟩ rfl) (.on rfl rfl (beq_eq rfl)) rfl rfl ?_
  refine p_val rfl (ev_cmp rfl rfl rfl) (.on rfl rfl (beq_eq rfl)) rfl rfl ?_; refine kPv (ev_pick_f rfl rfl rfl) rfl ?_; refine p_nil ?_; refine g_iff rfl (rfl) ?_; refine g_skip ?_; refine g_seq ?_; refine go_conv (H' := VecA 3 i64 0 (.slice (some ⟨bO, oO, none⟩) 1 co, [40]) :: row b3 [i64 0, i64 3, sv] 33 :: row b2 [i64 3, i64 1, i64 48] 30 :: VecU 0 (sv, [0]) :: DevA bd sF :: Fr) (fun w hh => by have h := ((hh.dp [5]).pk [2]); exact h) ?_
  refine g_drawT (.br [0, 1, 2, 3, 4, 5] 6 (.fin [7, 8, 9, 10, 11, 12]) 10 (.fin [6, 7, 8, 9, 11, 12])) [6, 10, 11] [0, 1, 2, 3, 4, 5, 7, 8, 9] [10, 11] [row b2 [i64 3, i64 1, i64 48] 30, row b3 [i64 0, i64 3, sv] 33, VecA 3 i64 0 (.slice (some ⟨bO, oO, none⟩) 1 co, [40])] [1, 0] (G := Nat) (fun b5 => [(5, ptr b5), (6, i64 (sF.objOf ⟨3, 1, 48⟩ ⟨0, 3, [0]⟩ 40).2)]) (fun b5 => row b5 [i64 (sF.objOf ⟨3, 1, 48⟩ ⟨0, 3, [0]⟩ 40).1.1, i64 (sF.objOf ⟨3, 1, 48⟩ ⟨0, 3, [0]⟩ 40).1.2.1, i64 (sF.objOf ⟨3, 1, 48⟩ ⟨0, 3, [0]⟩ 40).1.2.2] 89 :: VecA 3 i64 0 (.slice (some ⟨bO, oO, none⟩) 1 co, [40]) :: row b3 [i64 0, i64 3, sv] 33 :: row b2 [i64 3, i64 1, i64 48] 30 :: VecU 0 (sv, [0]) :: DevA bd sF :: Fr) Tryz.mixed (by kernel_rfl) ?_ ?_
  · skip
    refine t_br ?_; refine v_hoist rfl rfl rfl (ev_move rfl) .free rfl ?_; refine v_hoist rfl rfl rfl (ev_loadA Tryz.isAgg30 Tryz.sizeOf30 rfl rfl) .free rfl ?_; refine v_hoist rfl rfl rfl (ev_loadA Tryz.isAgg33 Tryz.sizeOf33 rfl rfl) .free rfl ?_; refine v_hoist rfl rfl rfl (ev_move rfl) .free rfl ?_; refine v_hoist rfl rfl rfl (ev_iaS Tryz.runUnderlying34 Tryz.sizeOf3 rfl rfl (by decide) (by decide)) .free rfl ?_
    refine v_hoist rfl rfl rfl (ev_loadS (v := i64 40) Tryz.isAgg3 (vec_slr 2 rfl) rfl rfl) .free rfl ?_; refine v_nil ?_
    refine t_two rfl rfl ?_ ?_
    · skip
      refine p_callq rfl (en_f Tryz.call51 rfl) (ro_at (q := DevA) (fun Fr => obj_ok _ Fr _ _ ⟨3, 1, 48⟩ cfg48 ⟨0, 3, [0]⟩ sv ⟨⟨by decide, by decide⟩, ⟨by decide, by decide⟩⟩ hsv 40 (by decide))) .free rfl rfl ?_; refine p_nil ?_; refine t_off rfl ?_; refine t_fin ?_; refine v_hoist rfl rfl rfl (ev_move rfl) .free rfl ?_; refine v_hoist rfl rfl rfl (ev_ext rfl rfl) .free rfl ?_; refine v_hoist rfl rfl rfl (ev_ext rfl rfl) .free rfl ?_; refine v_mark rfl rfl ?_
      refine p_chg rfl (ch_allocA Tryz.zeroValue89 rfl) .free rfl rfl ?_
      rintro _ _ ⟨b5, rfl, rfl⟩
      refine p_nil ?_; refine v_on ?_; refine v_mark rfl rfl ?_; refine p_chg0 rfl (ch_storeA (vs := _) Tryz.sizeOf89 rfl rfl rfl rfl rfl) .free rfl ?_
      rintro _ _ rfl
      refine p_nil ?_; refine v_on ?_; refine v_val rfl rfl rfl (ev_assign rfl) .free rfl ?_; refine v_nil ?_
      exact fun a w st_ => ⟨b5, st_.to ⟨rfl, rfl, rfl, rfl, trivial⟩ (fun hh => hh)⟩
    · skip
      refine p_chg rfl (ch_allocA Tryz.zeroValue89 rfl) .free rfl rfl ?_
      rintro _ _ ⟨b5, rfl, rfl⟩
      refine p_nil ?_; refine t_on ?_; refine t_fin ?_; refine v_mark rfl rfl ?_; refine p_callq rfl (en_f Tryz.call51 rfl) (ro_at (q := DevA) (fun Fr => obj_ok _ Fr _ _ ⟨3, 1, 48⟩ cfg48 ⟨0, 3, [0]⟩ sv ⟨⟨by decide, by decide⟩, ⟨by decide, by decide⟩⟩ hsv 40 (by decide))) .free rfl rfl ?_; refine p_nil ?_; refine v_off rfl ?_; refine v_hoist rfl rfl rfl (ev_move rfl) .free rfl ?_; refine v_hoist rfl rfl rfl (ev_ext rfl rfl) .free rfl ?_; refine v_hoist rfl rfl rfl (ev_ext rfl rfl) .free rfl ?_
      refine v_mark rfl rfl ?_; refine p_chg0 rfl (ch_storeA (vs := _) Tryz.sizeOf89 rfl rfl rfl rfl rfl) .free rfl ?_
      rintro _ _ rfl
      refine p_nil ?_; refine v_on ?_; refine v_val rfl rfl rfl (ev_assign rfl) .free rfl ?_; refine v_nil ?_
      exact fun a w st_ => ⟨b5, st_.to ⟨rfl, rfl, rfl, rfl, trivial⟩ (fun hh => hh)⟩
  intro b5
  refine go_sub (σ' := [(5, ptr b5), (6, i64 (sF.objOf ⟨3, 1, 48⟩ ⟨0, 3, [0]⟩ 40).2), (1, _), (0, _)]) ⟨rfl, rfl, rfl, rfl, trivial⟩ ?_; refine g_seq ?_
  rw [show sF.objOf ⟨3, 1, 48⟩ ⟨0, 3, [0]⟩ 40 = (((2 : Int), (1 : Int), (40 : Int)), (0 : Int)) from obIs_eq e2]
  refine g_region ?_; refine kPv (ev_loadA Tryz.isAgg89 Tryz.sizeOf89 rfl rfl) rfl ?_; refine kPm rfl rfl ?_; refine p_callq rfl (en_f Tryz.call149 rfl) (ro_at (q := DevA) (fun Fr => oread_ok _ Fr _ _ (2, 1, 40) ho 0)) .free rfl rfl ?_; refine kPm rfl rfl ?_; refine kPv (ev_ext rfl rfl) rfl ?_; refine kPv (ev_ext rfl rfl) rfl ?_; refine kPa rfl rfl ?_; refine kPa rfl rfl ?_; refine p_nil ?_; refine go_sub (σ' := [(8, _), (5, _), (6, _), (1, _), (0, _)]) ⟨rfl, rfl, rfl, rfl, rfl, trivial⟩ ?_
  refine g_seq ?_; refine g_region ?_; refine kPv (ev_loadA Tryz.isAgg89 Tryz.sizeOf89 rfl rfl) rfl ?_; refine kPm rfl rfl ?_; refine kPv (ev_mkf rfl rfl) rfl ?_; refine go_pk [5] ?_
  refine p_call rfl (en_f Tryz.call150 rfl) (owriteD_ok B _ bd (2, 1, 40) ho 1 9 (by decide) sF hlF huF) .free rfl rfl ?_ ?_
  rotate_left
  · rintro _ _ ⟨⟩
  rintro _ _ ⟨x2, s2, hm2, rfl, hl2, hn2, hu2, rfl⟩
  have hev2 := okB_ok e4 hm2
  simp only [Bool.and_eq_true, beq_iff_eq] at hev2
  obtain ⟨f1, f2⟩ := hev2
  obtain rfl : x2 = 0 := f1
  refine kPa rfl rfl ?_; refine p_nil ?_; refine g_seq ?_; refine g_region ?_; refine kPv (ev_loadA Tryz.isAgg89 Tryz.sizeOf89 rfl rfl) rfl ?_; refine kPm rfl rfl ?_; refine p_callq rfl (en_f Tryz.call149 rfl) (ro_at (q := DevA) (fun Fr => oread_ok _ Fr _ _ (2, 1, 40) ho 1)) .free rfl rfl ?_; refine kPm rfl rfl ?_; refine kPv (ev_ext rfl rfl) rfl ?_; refine kPv (ev_ext rfl rfl) rfl ?_; refine kPa rfl rfl ?_; refine kPa rfl rfl ?_; refine p_nil ?_
  refine go_sub (σ' := [(11, _), (10, _), (9, _), (8, _), (5, _), (6, _), (1, _), (0, _)]) ⟨rfl, rfl, rfl, rfl, rfl, rfl, rfl, rfl, trivial⟩ ?_; refine g_seq ?_
  rw [show sF.objRead (2, 1, 40) 0 = ((0 : Int), (5 : Int)) from prIs_eq e3, show s2.objRead (2, 1, 40) 1 = ((9 : Int), (0 : Int)) from prIs_eq f2]
  refine g_region ?_; refine kPm rfl rfl ?_; refine kPv (ev_cmp rfl rfl rfl) rfl ?_; refine kPm rfl rfl ?_; refine p_val rfl (ev_move rfl) (.on rfl rfl (beq_eq rfl)) rfl rfl ?_; refine p_val rfl (ev_cmp rfl rfl rfl) (.on rfl rfl (beq_eq rfl)) rfl rfl ?_; refine kPv (ev_pick_t rfl rfl rfl) rfl ?_; refine kPm rfl rfl ?_; refine p_val rfl (ev_move rfl) (.on rfl rfl (beq_eq rfl)) rfl rfl ?_; refine p_val rfl (ev_cmp rfl rfl rfl) (.on rfl rfl (beq_eq rfl)) rfl rfl ?_
  refine kPv (ev_pick_t rfl rfl rfl) rfl ?_; refine kPm rfl rfl ?_; refine p_val rfl (ev_move rfl) (.on rfl rfl (beq_eq rfl)) rfl rfl ?_; refine p_val rfl (ev_cmp rfl rfl rfl) (.on rfl rfl (beq_eq rfl)) rfl rfl ?_; refine kPv (ev_pick_t rfl rfl rfl) rfl ?_; refine kPm rfl rfl ?_; refine p_val rfl (ev_move rfl) (.on rfl rfl (beq_eq rfl)) rfl rfl ?_; refine p_val rfl (ev_cmp rfl rfl rfl) (.on rfl rfl (beq_eq rfl)) rfl rfl ?_; refine kPv (ev_pick_t rfl rfl rfl) rfl ?_; refine kPm rfl rfl ?_
  refine p_val rfl (ev_loadA Tryz.isAgg89 Tryz.sizeOf89 rfl rfl) (.on rfl rfl (beq_eq rfl)) rfl rfl ?_; refine p_val rfl (ev_move rfl) (.on rfl rfl (beq_eq rfl)) rfl rfl ?_
  refine p_call rfl (en_f Tryz.call129 rfl) (onames_ok _ _ (2, 1, 40) bd) (.on rfl rfl (beq_eq rfl)) rfl rfl ?_ ?_
  rotate_left
  · rintro _ _ ⟨⟩
  rintro _ _ ⟨n1, n2, rfl, rfl⟩
  refine p_val rfl (ev_eqfn Tryz.runUnderlying188 ⟨_, _, _, rfl⟩ rfl rfl rfl) (.on rfl rfl (beq_eq rfl)) rfl rfl ?_; refine kPv (ev_pick_t rfl rfl rfl) rfl ?_; refine kPa rfl rfl ?_; refine p_nil ?_; refine go_sub (σ' := [(0, _)]) ⟨rfl, trivial⟩ ?_; refine g_ret ?_
  exact ret_tmp Tryz.results141 rfl (fun w hh => ⟨rfl, (hh.dp [0, 0, 0, 0, 0, 0, 0, 0])⟩)
theorem awake11_ok (B : World) (Fr : List HP) :
    ∀ w, Holds B Fr w → Calls Tryz.prog 126 [].toArray w (PureR B Fr (.bool true)) := by
  refine fn_enter Tryz.func126 rfl Tryz.ntmps126 rfl ?_; refine g_seq ?_; refine g_region ?_; refine kPa rfl rfl ?_; refine p_nil ?_; refine g_seq ?_; refine g_seq ?_; refine g_region ?_; refine p_callq rfl (en_f Tryz.call141 rfl) (awake10_ok _ _) .free rfl rfl ?_; refine kPv (ev_not rfl) rfl ?_; refine p_nil ?_; refine g_iff rfl (rfl) ?_; refine g_skip ?_; refine g_seq ?_; refine g_region ?_; refine kPv (ev_build rfl (bld_24_2 _ rfl)) rfl ?_; refine kPv (ev_build rfl (bld_107_1 _ rfl)) rfl ?_
  refine p_chg rfl (ch_bsG encH_w (v := (0, 1)) Tryz.runUnderlying25 Tryz.sizeOf107 Tryz.zeroValue107 ⟨⟨by decide, by decide⟩, rfl⟩ rfl rfl) .free rfl rfl ?_
  rintro _ _ ⟨b12, rfl, rfl⟩
  refine p_call rfl (en_f Tryz.call12 rfl) (linked_ok _ _ 0 0 40 ⟨by decide, by decide, by decide⟩ ⟨3, 1, 48⟩ mkC48 [(0, 1)] (hh1 ⟨by decide, by decide⟩ ⟨by decide, by decide⟩) (by decide) (some ⟨b12, 0, none⟩) _ sln1 none 0 [] SlR.nil (fun _ h => (by cases h)) (by decide) (fun _ h => absurd h (Nat.not_lt_zero _)) 0 (by decide)) .free rfl rfl ?_ ?_
  rotate_left
  · rintro _ _ ⟨⟩
  rintro _ _ ⟨bd, pa, N, s0, sF, out, hfm, hN, ⟨hus0, hf⟩, hfill, hor⟩
  obtain rfl := n48 hN
  have hev := okB_ok (okB_ok (d11_eval pa) hf) hfill
  simp only [Bool.and_eq_true, beq_iff_eq] at hev
  obtain ⟨⟨rfl, e1⟩, e2⟩ := hev
  rw [blkIs_eq e1] at hor
  rcases hor with ⟨n1, n2, s1, s2, ov, sv, hl1, hl2, hu2, hlm2, hn2, hov, hsv, rfl, rfl⟩ | ⟨s1, hl1, _⟩
  rotate_left
  · have e3 := okB_ok e2 hl1
    simp only [Bool.and_eq_true, beq_iff_eq] at e3
    exact absurd e3.1 (by simp)
  have e3 := okB_ok e2 hl1
  simp only [Bool.and_eq_true, beq_iff_eq] at e3
  obtain ⟨e4, e5⟩ := e3
  obtain rfl : n1 = 0 := by injection e4
  have e6 := okB_ok e5 hl2
  simp only [Bool.and_eq_true, beq_iff_eq] at e6
  obtain ⟨⟨e7, e8⟩, e9⟩ := e6
  rw [blkIs_eq e7]
  refine go_pk [2] ?_; refine go_vecq fun qo co hqo hqi => ?_
  subst hqo
  obtain ⟨bO, oO, rfl⟩ := hqi 0 (by decide)
  refine kPm rfl rfl ?_; refine kPv (ev_ext rfl rfl) rfl ?_; refine kPv (ev_ext rfl rfl) rfl ?_; refine kPv (ev_ext rfl rfl) rfl ?_; refine kPv (ev_ext rfl rfl) rfl ?_; refine p_chg rfl (ch_allocA Tryz.zeroValue30 rfl) .free rfl rfl ?_
  rintro _ _ ⟨b2, rfl, rfl⟩
  refine p_chg rfl (ch_allocA Tryz.zeroValue33 rfl) .free rfl rfl ?_
  rintro _ _ ⟨b3, rfl, rfl⟩
  refine kPa rfl rfl ?_; refine p_chg0 rfl (ch_storeA (vs := _) Tryz.sizeOf30 rfl rfl rfl rfl rfl) .free rfl ?_
  rintro _ _ rfl
  refine p_chg0 rfl (ch_storeA (vs := _) Tryz.sizeOf33 rfl rfl rfl (by first | rfl | exact all3 (by assumption)) rfl) .free rfl ?_
  rintro _ _ rfl
  refine kPa rfl rfl ?_; refine p_nil ?_; refine go_sub (σ' := [(4, _), (1, _), (3, _), (2, _), (0, _)]) ⟨rfl, rfl, rfl, rfl, rfl, trivial⟩ ?_; refine g_seq ?_; refine g_seq ?_; refine g_region ?_; refine kPm rfl rfl ?_; refine kPv (ev_eqp Tryz.runUnderlying28 rfl rfl rfl) rfl ?_; refine kPm rfl rfl ?_; refine p_val rfl (ev_move rfl) (.on rfl rfl (beq_eq rfl)) rfl rfl ?_; refine p_val rfl (ev_loadA Tryz.isAgg30 Tryz.sizeOf30 rfl rfl) (.on rfl rfl (beq_eq rfl)) rfl rfl ?_
  refine p_val rfl (ev_loadA Tryz.isAgg33 Tryz.sizeOf33 rfl rfl) (.on rfl rfl (beq_eq rfl)) rfl rfl ?_
  refine p_call rfl (en_f Tryz.call83 rfl) (wobjs_ok _ _ bd ⟨3, 1, 48⟩ ⟨0, 2, [0]⟩ sv hsv) (.on rfl rfl (beq_eq rfl)) rfl rfl ?_ ?_
  rotate_left
  · rintro _ _ ⟨⟩
  rintro _ _ ⟨c3, c4, c5, rfl, rfl⟩
  refine p_val rfl (ev_eqfn Tryz.runUnderlying131 ⟨_, _, _, rfl⟩ rfl rfl rfl) (.on rfl rfl (beq_eq rfl)) rfl rfl ?_; refine kPv (ev_pick_f rfl rfl rfl) rfl ?_; refine p_nil ?_; refine go_sub (σ' := [(26, _), (4, _), (1, _), (3, _), (2, _), (0, _)]) ⟨rfl, rfl, rfl, rfl, rfl, rfl, trivial⟩ ?_; refine g_iff rfl (rfl) ?_; refine g_skip ?_; refine g_seq ?_; refine g_region ?_; refine kPm rfl rfl ?_; refine kPv (ev_loadA Tryz.isAgg30 Tryz.sizeOf30 rfl rfl) rfl ?_
  refine kPv (ev_loadA Tryz.isAgg33 Tryz.sizeOf33 rfl rfl) rfl ?_; refine go_pk [7] ?_
  refine p_call rfl (en_f Tryz.call80 rfl) (wstarts_ok _ _ bd s2 ⟨3, 1, 48⟩ cfg48 ⟨0, 2, [0]⟩ sv ⟨⟨by decide, by decide⟩, ⟨by decide, by decide⟩⟩ hsv) .free rfl rfl ?_ ?_
  rotate_left
  · rintro _ _ ⟨⟩
  rintro _ _ ⟨mb, rfl, rfl⟩
  rw [e8, e9]
  refine kPm rfl rfl ?_; refine kPv (ev_ext rfl rfl) rfl ?_; refine kPv (ev_ext rfl rfl) rfl ?_; refine kPa rfl rfl ?_; refine kPa rfl rfl ?_; refine p_nil ?_; refine go_sub (σ' := [(6, _), (5, _), (4, _), (0, _)]) ⟨rfl, rfl, rfl, rfl, trivial⟩ ?_; refine g_seq ?_; refine g_region ?_; refine kPm rfl rfl ?_; refine kPv (ev_cmp rfl rfl rfl) rfl ?_; refine kPm rfl rfl ?_; refine p_val rfl (ev_move rfl) (.on rfl rfl (beq_eq rfl)) rfl rfl ?_
  refine p_val rfl (ev_lenM rfl Tryz.runUnderlying124 rfl) (.on rfl rfl (beq_eq rfl)) rfl rfl ?_; refine p_val rfl (ev_cmp rfl rfl rfl) (.on rfl rfl (beq_eq rfl)) rfl rfl ?_; refine kPv (ev_pick_t rfl rfl rfl) rfl ?_; refine kPm rfl rfl ?_; refine p_val rfl (ev_move rfl) (.on rfl rfl (beq_eq rfl)) rfl rfl ?_; refine p_val rfl (ev_len rfl Tryz.runUnderlying34 ⟨_, rfl⟩ rfl) (.on rfl rfl (beq_eq rfl)) rfl rfl ?_; refine p_val rfl (ev_cmp rfl rfl rfl) (.on rfl rfl (beq_eq rfl)) rfl rfl ?_
  refine kPv (ev_pick_t rfl rfl rfl) rfl ?_; refine kPm rfl rfl ?_; refine p_val rfl (ev_move rfl) (.on rfl rfl (beq_eq rfl)) rfl rfl ?_; refine p_val rfl (ev_move rfl) (.on rfl rfl (beq_eq rfl)) rfl rfl ?_; refine p_val rfl (ev_iaS Tryz.runUnderlying34 Tryz.sizeOf3 rfl rfl (by decide) (by decide)) (.on rfl rfl (beq_eq rfl)) rfl rfl ?_; refine p_val rfl (ev_loadS (v := i64 40) Tryz.isAgg3 (vec_slr 7 rfl) rfl rfl) (.on rfl rfl (beq_eq rfl)) rfl rfl ?_
  refine p_val rfl ((ev_lookup1 Tryz.runUnderlying124 Tryz.runUnderlying3 Tryz.zeroValue89 rfl rfl).eq (mval_o _)) (.on rfl rfl (beq_eq rfl)) rfl rfl ?_; refine p_val rfl (ev_fieldA Tryz.runUnderlying89 (t := 87) (off := 0) rfl Tryz.isAgg87 Tryz.sizeOf87 rfl) (.on rfl rfl (beq_eq rfl)) rfl rfl ?_; refine p_val rfl (ev_field1 Tryz.runUnderlying87 (t := 3) (off := 0) rfl Tryz.isAgg3 rfl rfl) (.on rfl rfl (beq_eq rfl)) rfl rfl ?_
  refine p_val rfl (ev_cmp rfl rfl rfl) (.on rfl rfl (beq_eq rfl)) rfl rfl ?_; refine kPv (ev_pick_t rfl rfl rfl) rfl ?_; refine kPa rfl rfl ?_; refine p_nil ?_; refine go_sub (σ' := [(0, _)]) ⟨rfl, trivial⟩ ?_; refine g_ret ?_
  exact ret_tmp Tryz.results126 rfl (fun w hh => ⟨rfl, (hh.dp [0, 0, 0, 0, 0, 0, 0, 0, 0, 0])⟩)
end Go.Proofs.YtbfheafpecgphaaGreat
namespace Go.Proofs.YtbfheafpecgphaaGreat
open Go
structure TabS where
  at_ : List (Int × Int)
  no : List (Int × Int)
  last : Int
def TabS.take (T : TabS) (p : Int) : Int × TabS :=
  if p = 0 then (0, T) else if (mget T.no p).isSome = true then ((mget T.no p).getD 0, T)
  else (T.last + 1, ⟨mset T.at_ (T.last + 1) p, mset T.no p (T.last + 1), T.last + 1⟩)
end Go.Proofs.YtbfheafpecgphaaGreat
namespace Go.Proofs.YtbfheafpecgphaaGreat
open Go
def hs2 : List (Int × Int) := [(0, 1), (0, 2)]
theorem hh2 : ∀ h ∈ [((0 : Int), (1 : Int)), (0, 2)], (0 ≤ h.1 ∧ h.1 < 256) ∧ (0 ≤ h.2 ∧ h.2 < 256) := fun h hm => by
  simp only [List.mem_cons, List.not_mem_nil, or_false] at hm
  rcases hm with rfl | rfl <;> exact ⟨by decide, by decide⟩
theorem sln2 {B : World} {H : List HP} {b : Nat} {x y z u : Value} {T1 : TypeId} {U : List Value → List HP} [RowU H b [x, y, z, u] T1 U] {cap : Nat} : SlN B H (.slice (some ⟨b, 0, none⟩) 2 cap) 2 [[x, y], [z, u]] :=
  SlN.row (cs := [[x, y], [z, u]]) fun i c h => by
    cases i with
    | zero =>
      cases h
      refine ⟨rfl, fun j hj => ?_⟩
      rcases j with _ | _ | j
      · rfl
      · rfl
      · omega
    | succ i =>
      cases i with
      | zero =>
        cases h
        refine ⟨rfl, fun j hj => ?_⟩
        rcases j with _ | _ | j
        · rfl
        · rfl
        · omega
      | succ i => cases h
theorem ch_bsG2 {α : Type} {B : World} {σ : Env} {H : List HP} {P : Program} {m : Nat} {enc : α → List Value} (he : EncW m enc) {d : Option Tmp} {ty : TypeId} {p : String} {af : Array Edge} {g : Option (Nat × Bool)} {t e : TypeId} {x y : Operand} {v u : α} {xv yv z : Value} (ht : ∀ w, (underlying t).run P w = .ok (.slice e) w) (hs : ∀ w, (sizeOf e).run P w = .ok m w) (hz : ∀ w, (zeroValue e).run P w = .ok z w) (hm0 : (0 < m ∧ m ≤ 1000) ∧ z.cells.size = m) (hx : evO σ x = some xv) (hv : xv.cells = (enc v).toArray) (hy : evO σ y = some yv) (hu : yv.cells = (enc u).toArray) :
    Chg P B σ H ⟨d, .buildSlice t 2 #[(0, x), (1, y)], ty, p, af, g⟩ (fun r H' => ∃ b, r = .slice (some ⟨b, 0, none⟩) 2 2 ∧ H' = row b (enc v ++ enc u) e :: H) := by
  intro a w kn hh
  refine ⟨.value (.slice (some ⟨w.heap.size, 0, none⟩) 2 2), { w with heap := w.heap.push (.cells (enc v ++ enc u).toArray e) }, ?_, _, .inl rfl, _, ⟨_, rfl, rfl⟩, by simpa [row] using hh.new _⟩
  have h1 : m ≠ 0 := by omega
  have h2 : ¬ 16777216 < 2 * m := by omega
  have hl : (enc v).length = m := he.len v
  have hl2 : (enc u).length = m := he.len u
  have key : ∀ (k : Nat) (vs : List Value) (a : Array Value) (j : Nat), k + vs.length ≤ a.size → (List.foldl (fun (cs : Array Value) (x : Value × Nat) => cs.setIfInBounds (k + x.2) x.1) a vs.zipIdx)[j]? = if k ≤ j ∧ j < k + vs.length then vs[j - k]? else a[j]? := by
    intro k vs a j h
    have := foldl_get vs k a h j
    rw [← this]
    congr 1
    have hz : vs.zipIdx k = vs.zipIdx.map fun x => (x.1, k + x.2) := by
      apply List.ext_getElem?
      intro i
      simp [List.getElem?_zipIdx]
      cases vs[i]? <;> simp
    rw [hz, List.foldl_map]
  have hsz : ∀ (g : Nat → Nat) (l : List (Value × Nat)) (a : Array Value), (List.foldl (fun (cs : Array Value) (x : Value × Nat) => cs.setIfInBounds (g x.2) x.1) a l).size = a.size := by
    intro g l
    induction l with
    | nil => intro a; rfl
    | cons x l ih => intro a; rw [List.foldl_cons, ih]; simp
  simp [execOp, Instr.buildSlice, ht, hs, Instr.fill, run_newRow, hz, kn.eval hx, hv, kn.eval hy, hu, h1, h2, hl, hl2]
  generalize hA : Array.map (fun x => z.cells[x % z.cells.size]!) (Array.range (2 * m)) = A
  have hAs : A.size = 2 * m := by rw [← hA]; simp
  rw [if_neg (by omega), if_neg (by omega), if_neg (by rw [hsz (fun x => x) _ A]; omega)]
  generalize hF : List.foldl (fun (cs : Array Value) (x : Value × Nat) => cs.setIfInBounds x.snd x.fst) A (enc v).zipIdx = F
  have hFs : F.size = 2 * m := by rw [← hF, hsz (fun x => x) _ A]; exact hAs
  have hF2 : ∀ j, F[j]? = if j < m then (enc v)[j]? else A[j]? := fun j => by
    have := foldl_get (enc v) 0 A (by omega) j
    rw [← hF, this]
    simp [hl]
  have e9 : List.foldl (fun (cs : Array Value) (x : Value × Nat) => cs.setIfInBounds (m + x.snd) x.fst) F (enc u).zipIdx = (enc v ++ enc u).toArray := by
    apply Array.ext_getElem?
    intro j
    rw [key m (enc u) F j (by omega), hF2, show (enc v ++ enc u).toArray[j]? = (enc v ++ enc u)[j]? by simp, List.getElem?_append, hl, hl2]
    by_cases h3 : j < m
    · rw [if_neg (by omega), if_pos h3, if_pos h3]
    · rw [if_neg h3]
      by_cases h4 : j < m + m
      · rw [if_pos (by omega), if_neg h3]
      · rw [if_neg (by omega), if_neg h3, List.getElem?_eq_none (by omega), Array.getElem?_eq_none (by omega)]
  simp only [e9]
  rfl
theorem d13_eval (pa : Nat) : okB ((dev0 pa [] 136).format c48) (fun _ s => okB (fillN c48 [(0, 1), (0, 2)] s []) fun out sF => out == [40, 42] && blkIs (sF.block c48) ⟨0, 5, [0]⟩ 0 && okB (linkObjs c48 ⟨0, 5, [0]⟩ (pickL [] [40, 42] 0) [40, 42] 0 sF) fun n1 s1 => n1 == some 0 && okB (linkRoots c48 (pickL [] [40, 42] 0) 1 0 0 s1) fun _ s2 => blkIs (s2.block c48) ⟨0, 5, [0]⟩ 0 && s2.reachSize c48 ⟨0, 5, [0]⟩ [] == 0 && s2.reachSize c48 ⟨0, 5, [0]⟩ [42] == 3) = true := by kernel_rfl
theorem d14_eval (pa bd : Nat) : okB ((dev0 pa [] 136).format c48) (fun _ s => okB (fillN c48 [(0, 1)] s []) fun out sF => out == [40] && blkIs (sF.block c48) ⟨0, 2, [0]⟩ 0 && okB (linkObjs c48 ⟨0, 2, [0]⟩ (pickL [] [40] 0) [40] 0 sF) fun n1 s1 => n1 == some 0 && okB (linkRoots c48 (pickL [] [40] 0) 1 0 0 s1) fun _ s2 => blkIs (s2.block c48) ⟨0, 2, [0]⟩ 0 && okB ((newCol bd c48 ⟨0, 2, [0]⟩ [0]).step s2) fun r s3 => !r.1 && okB (r.2.step s3) fun r2 _ => r2.1 && blkIs (r2.2.block, 0) ⟨1, 0, [0]⟩ 0) = true := by kernel_rfl
def went1 (o : Option ColS) (w v : Int) : Bool := match o with
  | some X => (mget X.went w).getD 0 == v
  | none => false
theorem d15_eval (pa bd : Nat) : okB ((dev0 pa [] 136).format c48) (fun _ s => okB (fillN c48 [(0, 1), (0, 2)] s []) fun out sF => out == [40, 42] && blkIs (sF.block c48) ⟨0, 5, [0]⟩ 0 && okB (linkObjs c48 ⟨0, 5, [0]⟩ (pickL [] [40, 42] 0) [40, 42] 0 sF) fun n1 s1 => n1 == some 0 && okB (linkRoots c48 (pickL [] [40, 42] 0) 1 0 0 s1) fun _ s2 => blkIs (s2.block c48) ⟨0, 5, [0]⟩ 0 && (openL bd c48 s2).n == 0 && okB (collectM bd c48 ⟨openL bd c48 s2, 0, 0, [], []⟩ s2 [42]) fun r s3 => r.2.1 == 0 && went1 r.1 42 88 && blkIs (s3.block c48) ⟨1, 3, [0]⟩ 0) = true := by kernel_rfl
theorem awake12_ok (B : World) (Fr : List HP) :
    ∀ w, Holds B Fr w → Calls Tryz.prog 118 [].toArray w (PureR B Fr (.bool true)) := by
  refine fn_enter Tryz.func118 rfl Tryz.ntmps118 rfl ?_; refine g_seq ?_; refine g_region ?_; refine kPa rfl rfl ?_; refine p_nil ?_; refine g_seq ?_; refine g_seq ?_; refine g_region ?_; refine p_callq rfl (en_f Tryz.call126 rfl) (awake11_ok _ _) .free rfl rfl ?_; refine kPv (ev_not rfl) rfl ?_; refine p_nil ?_; refine g_iff rfl (rfl) ?_; refine g_skip ?_; refine g_seq ?_; refine g_region ?_; refine kPv (ev_build rfl (bld_30_0_1_2 _ _ _ rfl rfl rfl)) rfl ?_
  refine p_chg rfl (ch_allocA Tryz.zeroValue30 rfl) .free rfl rfl ?_
  rintro _ _ ⟨b1, rfl, rfl⟩
  refine p_chg0 rfl (ch_storeA (vs := _) Tryz.sizeOf30 rfl rfl rfl rfl rfl) .free rfl ?_
  rintro _ _ rfl
  refine p_nil ?_; refine g_seq ?_; refine g_region ?_; refine kPv (ev_loadA Tryz.isAgg30 Tryz.sizeOf30 rfl rfl) rfl ?_
  refine p_call rfl (en_f Tryz.call101 rfl) (formatted_ok _ _ ⟨3, 1, 8⟩ cfg1 none 0 [] (by decide) (fun _ h => absurd h (Nat.not_lt_zero _)) SlR.nil) .free rfl rfl ?_ ?_
  rotate_left
  · rintro _ _ ⟨⟩
  rintro _ _ ⟨bd, pa, N, s0, hN, hf, rfl, rfl⟩
  obtain rfl : N = 56 := by have : (N : Int) = 56 := hN.trans (by decide); omega
  have hfm := fmt_of cfg1 hN hf
  have hu0 := format_u64 (dev0_u64 pa 56) cfg1 hf
  have hev := okB_ok (d12_eval pa) hf
  simp only [Bool.and_eq_true, beq_iff_eq] at hev
  refine kPm rfl rfl ?_; refine kPv (ev_ext rfl rfl) rfl ?_; refine kPv (ev_ext rfl rfl) rfl ?_; refine kPa rfl rfl ?_; refine kPa rfl rfl ?_; refine p_nil ?_; refine go_sub (σ' := [(3, _), (2, _), (1, _), (0, _)]) ⟨rfl, rfl, rfl, rfl, trivial⟩ ?_; refine g_seq ?_; refine g_seq ?_; refine g_region ?_; refine kPm rfl rfl ?_; refine kPv (ev_not rfl) rfl ?_; refine kPm rfl rfl ?_; refine p_val rfl (ev_move rfl) (.on rfl rfl (beq_eq rfl)) rfl rfl ?_
  refine p_val rfl (ev_loadA Tryz.isAgg30 Tryz.sizeOf30 rfl rfl) (.on rfl rfl (beq_eq rfl)) rfl rfl ?_; refine p_callq rfl (en_f Tryz.call27 rfl) (ro_at (q := DevA) (fun Fr => ccheck_ok _ Fr _ s0 ⟨3, 1, 8⟩ cfg1 hu0)) (.on rfl rfl (beq_eq rfl)) rfl rfl ?_; refine p_val rfl (ev_cmp rfl rfl rfl) (.on rfl rfl (beq_eq rfl)) rfl rfl ?_; refine kPv (ev_pick_f rfl rfl rfl) rfl ?_; refine p_nil ?_; refine go_sub (σ' := [(19, _), (2, _), (1, _), (0, _)]) ⟨rfl, rfl, rfl, rfl, trivial⟩ ?_
  refine g_iff rfl (by rw [hev.1]; rfl) ?_
  refine g_skip ?_; refine g_seq ?_; refine g_region ?_; refine kPm rfl rfl ?_; refine kPv (ev_loadA Tryz.isAgg30 Tryz.sizeOf30 rfl rfl) rfl ?_; refine p_callq rfl (en_f Tryz.call71 rfl) (root_ok _ _ ⟨3, 1, 8⟩ cfg1 0 (by decide) (by decide)) .free rfl rfl ?_
  refine p_call rfl (en_f Tryz.call70 rfl) (nstoreL_ok _ _ bd s0 34 5 hfm.lim hu0 (by decide)) .free rfl rfl ?_ ?_
  rotate_left
  · rintro _ _ ⟨⟩
  rintro _ _ ⟨x1, s1, hm1, rfl, hl1, hn1, hu1, rfl⟩
  have hev2 := okB_ok hev.2 hm1
  simp only [beq_iff_eq] at hev2
  refine p_nil ?_; refine g_seq ?_; refine g_region ?_; refine kPm rfl rfl ?_; refine kPv (ev_loadA Tryz.isAgg30 Tryz.sizeOf30 rfl rfl) rfl ?_; refine p_callq rfl (en_f Tryz.call27 rfl) (ro_at (q := DevA) (fun Fr => ccheck_ok _ Fr _ s1 ⟨3, 1, 8⟩ cfg1 hu1)) .free rfl rfl ?_; refine kPv (ev_cmp rfl rfl rfl) rfl ?_; refine kPa rfl rfl ?_; refine p_nil ?_; refine go_sub (σ' := [(0, _)]) ⟨rfl, trivial⟩ ?_; refine g_ret ?_
  exact ret_tmp Tryz.results118 rfl (fun w hh => ⟨by rw [hev2]; rfl, (hh.dp [0, 0])⟩)
theorem awake13_ok (B : World) (Fr : List HP) :
    ∀ w, Holds B Fr w → Calls Tryz.prog 99 [].toArray w (PureR B Fr (.bool true)) := by
  refine fn_enter Tryz.func99 rfl Tryz.ntmps99 rfl ?_; refine g_seq ?_; refine g_region ?_; refine kPa rfl rfl ?_; refine p_nil ?_; refine g_seq ?_; refine g_seq ?_; refine g_region ?_; refine p_callq rfl (en_f Tryz.call118 rfl) (awake12_ok _ _) .free rfl rfl ?_; refine kPv (ev_not rfl) rfl ?_; refine p_nil ?_; refine g_iff rfl (rfl) ?_; refine g_skip ?_; refine g_seq ?_; refine g_region ?_; refine kPv (ev_build rfl (bld_24_2 _ rfl)) rfl ?_; refine kPv (ev_build rfl (bld_107_1 _ rfl)) rfl ?_
  refine kPv (ev_build rfl (bld_107_1 _ rfl)) rfl ?_; refine p_chg rfl (ch_bsG2 encH_w (v := (0, 1)) (u := (0, 2)) Tryz.runUnderlying25 Tryz.sizeOf107 Tryz.zeroValue107 ⟨⟨by decide, by decide⟩, rfl⟩ rfl rfl rfl rfl) .free rfl rfl ?_
  rintro _ _ ⟨b11, rfl, rfl⟩
  refine p_call rfl (en_f Tryz.call12 rfl) (linked_ok _ _ 0 0 40 ⟨by decide, by decide, by decide⟩ ⟨3, 1, 48⟩ mkC48 [(0, 1), (0, 2)] (hh2) (by decide) (some ⟨b11, 0, none⟩) _ sln2 none 0 [] SlR.nil (fun _ h => (by cases h)) (by decide) (fun _ h => absurd h (Nat.not_lt_zero _)) 0 (by decide)) .free rfl rfl ?_ ?_
  rotate_left
  · rintro _ _ ⟨⟩
  rintro _ _ ⟨bd, pa, N, s0, sF, out, hfm, hN, ⟨hus0, hf⟩, hfill, hor⟩
  obtain rfl := n48 hN
  have hev := okB_ok (okB_ok (d13_eval pa) hf) hfill
  simp only [Bool.and_eq_true, beq_iff_eq] at hev
  obtain ⟨⟨rfl, e1⟩, e2⟩ := hev
  rw [blkIs_eq e1] at hor
  rcases hor with ⟨n1, n2, s1, s2, ov, sv, hl1, hl2, hu2, hlm2, hn2, hov, hsv, rfl, rfl⟩ | ⟨s1, hl1, _⟩
  rotate_left
  · have e3 := okB_ok e2 hl1
    simp only [Bool.and_eq_true, beq_iff_eq] at e3
    exact absurd e3.1 (by simp)
  have e3 := okB_ok e2 hl1
  simp only [Bool.and_eq_true, beq_iff_eq] at e3
  obtain ⟨e4, e5⟩ := e3
  obtain rfl : n1 = 0 := by injection e4
  have e6 := okB_ok e5 hl2
  simp only [Bool.and_eq_true, beq_iff_eq] at e6
  obtain ⟨⟨e7, e8⟩, e9⟩ := e6
  rw [blkIs_eq e7]
  refine go_pk [2] ?_; refine go_vecq fun qo co hqo hqi => ?_
  subst hqo
  obtain ⟨bO, oO, rfl⟩ := hqi 0 (by decide)
  refine kPm rfl rfl ?_; refine kPv (ev_ext rfl rfl) rfl ?_; refine kPv (ev_ext rfl rfl) rfl ?_; refine kPv (ev_ext rfl rfl) rfl ?_; refine kPv (ev_ext rfl rfl) rfl ?_; refine p_chg rfl (ch_allocA Tryz.zeroValue30 rfl) .free rfl rfl ?_
  rintro _ _ ⟨b2, rfl, rfl⟩
  refine p_chg rfl (ch_allocA Tryz.zeroValue33 rfl) .free rfl rfl ?_
  rintro _ _ ⟨b3, rfl, rfl⟩
  refine kPa rfl rfl ?_; refine p_chg0 rfl (ch_storeA (vs := _) Tryz.sizeOf30 rfl rfl rfl rfl rfl) .free rfl ?_
  rintro _ _ rfl
  refine p_chg0 rfl (ch_storeA (vs := _) Tryz.sizeOf33 rfl rfl rfl (by first | rfl | exact all3 (by assumption)) rfl) .free rfl ?_
  rintro _ _ rfl
  refine kPa rfl rfl ?_; refine p_nil ?_; refine go_sub (σ' := [(4, _), (1, _), (3, _), (2, _), (0, _)]) ⟨rfl, rfl, rfl, rfl, rfl, trivial⟩ ?_; refine g_seq ?_; refine g_seq ?_; refine g_region ?_; refine kPm rfl rfl ?_; refine kPv (ev_eqp Tryz.runUnderlying28 rfl rfl rfl) rfl ?_; refine kPm rfl rfl ?_; refine p_val rfl (ev_move rfl) (.on rfl rfl (beq_eq rfl)) rfl rfl ?_; refine p_val rfl (ev_len rfl Tryz.runUnderlying34 ⟨_, rfl⟩ rfl) (.on rfl rfl (beq_eq rfl)) rfl rfl ?_
  refine p_val rfl (ev_cmp rfl rfl rfl) (.on rfl rfl (beq_eq rfl)) rfl rfl ?_; refine kPv (ev_pick_f rfl rfl rfl) rfl ?_; refine kPm rfl rfl ?_; refine p_val rfl (ev_move rfl) (.on rfl rfl (beq_eq rfl)) rfl rfl ?_; refine p_val rfl (ev_loadA Tryz.isAgg30 Tryz.sizeOf30 rfl rfl) (.on rfl rfl (beq_eq rfl)) rfl rfl ?_; refine p_val rfl (ev_loadA Tryz.isAgg33 Tryz.sizeOf33 rfl rfl) (.on rfl rfl (beq_eq rfl)) rfl rfl ?_
  refine p_call rfl (en_f Tryz.call119 rfl) (wfrom_ok _ _ bd ⟨3, 1, 48⟩ ⟨0, 5, [0]⟩ sv hsv (.slice none 0 0) rfl) (.on rfl rfl (beq_eq rfl)) rfl rfl ?_ ?_
  rotate_left
  · rintro _ _ ⟨⟩
  rintro _ _ ⟨c1, c2, c3, c4, rfl, rfl⟩
  refine p_val rfl (ev_eqfn Tryz.runUnderlying178 ⟨_, _, _, rfl⟩ rfl rfl rfl) (.on rfl rfl (beq_eq rfl)) rfl rfl ?_; refine kPv (ev_pick_f rfl rfl rfl) rfl ?_; refine p_nil ?_; refine go_sub (σ' := [(30, _), (4, _), (1, _), (3, _), (2, _), (0, _)]) ⟨rfl, rfl, rfl, rfl, rfl, rfl, trivial⟩ ?_; refine g_iff rfl (rfl) ?_; refine g_skip ?_; refine g_seq ?_
  refine go_conv (H' := DevA bd s2 :: VecA 3 i64 0 (.slice (some ⟨bO, oO, none⟩) 2 co, [40, 42]) :: row b3 [i64 0, i64 5, sv] 33 :: row b2 [i64 3, i64 1, i64 48] 30 :: VecU 0 (sv, [0]) :: Fr) (fun w hh => by have h := ((hh.dp [0, 0, 0, 0, 5]).pk [4, 2]); exact h) ?_
  refine g_drawv [0, 1, 2, 3, 4, 5, 6, 7, 8, 9, 10, 11, 12, 13, 14, 15, 16, 17] [3, 13, 14] [6, 7, 8] [13] [row b2 [i64 3, i64 1, i64 48] 30, row b3 [i64 0, i64 5, sv] 33, VecA 3 i64 0 (.slice (some ⟨bO, oO, none⟩) 2 co, [40, 42])] Tryz.mixed (by kernel_rfl) ?_; refine v_val rfl rfl rfl (ev_move rfl) .free rfl ?_; refine v_val rfl rfl rfl (ev_loadA Tryz.isAgg30 Tryz.sizeOf30 rfl rfl) .free rfl ?_; refine v_val rfl rfl rfl (ev_loadA Tryz.isAgg33 Tryz.sizeOf33 rfl rfl) .free rfl ?_
  refine v_mark rfl rfl ?_; refine p_callq rfl (en_f Tryz.call120 rfl) (wsize_ok B _ bd ⟨3, 1, 48⟩ cfg48 ⟨0, 5, [0]⟩ sv ⟨⟨by decide, by decide⟩, ⟨by decide, by decide⟩⟩ hsv s2 none 0 [] (fun _ h => (by cases h)) (by decide) (fun _ h => absurd h (Nat.not_lt_zero _)) SlR.nil) .free rfl rfl ?_; refine p_nil ?_; refine v_off rfl ?_; refine v_val rfl rfl rfl (ev_cmp rfl rfl rfl) .free rfl ?_; refine v_val rfl rfl rfl (ev_move rfl) .free rfl ?_
  refine v_hoist rfl rfl rfl (ev_move rfl) (.on rfl rfl (beq_eq (by rw [e8]; rfl))) rfl ?_
  refine v_hoist rfl rfl rfl (ev_loadA Tryz.isAgg30 Tryz.sizeOf30 rfl rfl) (.on rfl rfl (beq_eq (by rw [e8]; rfl))) rfl ?_
  refine v_hoist rfl rfl rfl (ev_loadA Tryz.isAgg33 Tryz.sizeOf33 rfl rfl) (.on rfl rfl (beq_eq (by rw [e8]; rfl))) rfl ?_
  refine v_val rfl rfl rfl (ev_move rfl) (.on rfl rfl (beq_eq (by rw [e8]; rfl))) rfl ?_
  refine v_val rfl rfl rfl (ev_iaS Tryz.runUnderlying34 Tryz.sizeOf3 rfl rfl (by decide) (by decide)) (.on rfl rfl (beq_eq (by rw [e8]; rfl))) rfl ?_
  refine v_val rfl rfl rfl (ev_loadS (v := i64 42) Tryz.isAgg3 (vec_slr 1 rfl) rfl rfl) (.on rfl rfl (beq_eq (by rw [e8]; rfl))) rfl ?_
  refine v_val rfl rfl rfl (ev_conv (c := 42) Tryz.runUnderlying3 Tryz.runUnderlying52 rfl (by decide)) (.on rfl rfl (beq_eq (by rw [e8]; rfl))) rfl ?_
  refine v_mark rfl rfl ?_; refine p_chg rfl (ch_bs1 Tryz.runUnderlying31 Tryz.sizeOf52 Tryz.zeroValue52 rfl rfl rfl) (.on rfl rfl (beq_eq (by rw [e8]; rfl))) rfl rfl ?_
  rintro _ _ ⟨b44, rfl, rfl⟩
  refine p_nil ?_; refine v_on ?_; refine go_pk [1] ?_; refine v_mark rfl rfl ?_; refine p_callq rfl (en_f Tryz.call120 rfl) (wsize_ok B _ bd ⟨3, 1, 48⟩ cfg48 ⟨0, 5, [0]⟩ sv ⟨⟨by decide, by decide⟩, ⟨by decide, by decide⟩⟩ hsv s2 (some ⟨b44, 0, none⟩) 1 [42] (fun v h => by rw [List.mem_singleton.1 h]; decide) (by decide) (fun _ _ => ⟨_, _, rfl⟩) (SlR.row (b := b44) rfl rfl)) (.on rfl rfl (beq_eq (by rw [e8]; rfl))) rfl rfl ?_
  refine p_nil ?_; refine v_off rfl ?_; refine v_val rfl rfl rfl (ev_cmp rfl rfl rfl) (.on rfl rfl (beq_eq (by rw [e8]; rfl))) rfl ?_
  refine v_val rfl rfl rfl (ev_pick_t rfl (by rw [e8]; rfl) rfl) .free rfl ?_
  refine v_val rfl rfl rfl (ev_assign rfl) .free rfl ?_; refine v_nil ?_; refine go_sub (σ' := [(0, _)]) ⟨rfl, trivial⟩ ?_; refine g_ret ?_
  exact ret_tmp Tryz.results99 rfl (fun w hh => ⟨by rw [e9]; rfl, (hh.dp [0, 0, 0, 0, 0, 0])⟩)
theorem awake14_ok (B : World) (Fr : List HP) :
    ∀ w, Holds B Fr w → Calls Tryz.prog 66 [].toArray w (PureR B Fr (.bool true)) := by
  refine fn_enter Tryz.func66 rfl Tryz.ntmps66 rfl ?_; refine g_seq ?_; refine g_region ?_; refine kPa rfl rfl ?_; refine p_nil ?_; refine g_seq ?_; refine g_seq ?_; refine g_region ?_; refine p_callq rfl (en_f Tryz.call99 rfl) (awake13_ok _ _) .free rfl rfl ?_; refine kPv (ev_not rfl) rfl ?_; refine p_nil ?_; refine g_iff rfl (rfl) ?_; refine g_skip ?_; refine g_seq ?_; refine g_region ?_; refine kPv (ev_build rfl (bld_24_2 _ rfl)) rfl ?_; refine kPv (ev_build rfl (bld_107_1 _ rfl)) rfl ?_
  refine p_chg rfl (ch_bsG encH_w (v := (0, 1)) Tryz.runUnderlying25 Tryz.sizeOf107 Tryz.zeroValue107 ⟨⟨by decide, by decide⟩, rfl⟩ rfl rfl) .free rfl rfl ?_
  rintro _ _ ⟨b13, rfl, rfl⟩
  refine p_call rfl (en_f Tryz.call12 rfl) (linked_ok _ _ 0 0 40 ⟨by decide, by decide, by decide⟩ ⟨3, 1, 48⟩ mkC48 [(0, 1)] (hh1 ⟨by decide, by decide⟩ ⟨by decide, by decide⟩) (by decide) (some ⟨b13, 0, none⟩) _ sln1 none 0 [] SlR.nil (fun _ h => (by cases h)) (by decide) (fun _ h => absurd h (Nat.not_lt_zero _)) 0 (by decide)) .free rfl rfl ?_ ?_
  rotate_left
  · rintro _ _ ⟨⟩
  rintro _ _ ⟨bd, pa, N, s0, sF, out, hfm, hN, ⟨hus0, hf⟩, hfill, hor⟩
  obtain rfl := n48 hN
  have hev := okB_ok (okB_ok (d14_eval pa bd) hf) hfill
  simp only [Bool.and_eq_true, beq_iff_eq] at hev
  obtain ⟨⟨rfl, e1⟩, e2⟩ := hev
  rw [blkIs_eq e1] at hor
  rcases hor with ⟨n1, n2, s1, s2, ov, sv, hl1, hl2, hu2, hlm2, hn2, hov, hsv, rfl, rfl⟩ | ⟨s1, hl1, _⟩
  rotate_left
  · have e3 := okB_ok e2 hl1
    simp only [Bool.and_eq_true, beq_iff_eq] at e3
    exact absurd e3.1 (by simp)
  have e3 := okB_ok e2 hl1
  simp only [Bool.and_eq_true, beq_iff_eq] at e3
  obtain ⟨e4, e5⟩ := e3
  obtain rfl : n1 = 0 := by injection e4
  have e6 := okB_ok e5 hl2
  simp only [Bool.and_eq_true, beq_iff_eq] at e6
  obtain ⟨e7, e8⟩ := e6
  rw [blkIs_eq e7]
  refine go_pk [2] ?_; refine go_vecq fun qo co hqo hqi => ?_
  subst hqo
  obtain ⟨bO, oO, rfl⟩ := hqi 0 (by decide)
  refine kPm rfl rfl ?_; refine kPv (ev_ext rfl rfl) rfl ?_; refine kPv (ev_ext rfl rfl) rfl ?_; refine kPv (ev_ext rfl rfl) rfl ?_; refine kPv (ev_ext rfl rfl) rfl ?_; refine p_chg rfl (ch_allocA Tryz.zeroValue30 rfl) .free rfl rfl ?_
  rintro _ _ ⟨b2, rfl, rfl⟩
  refine p_chg rfl (ch_allocA Tryz.zeroValue33 rfl) .free rfl rfl ?_
  rintro _ _ ⟨b3, rfl, rfl⟩
  refine kPa rfl rfl ?_; refine p_chg0 rfl (ch_storeA (vs := _) Tryz.sizeOf30 rfl rfl rfl rfl rfl) .free rfl ?_
  rintro _ _ rfl
  refine p_chg0 rfl (ch_storeA (vs := _) Tryz.sizeOf33 rfl rfl rfl (by first | rfl | exact all3 (by assumption)) rfl) .free rfl ?_
  rintro _ _ rfl
  refine kPa rfl rfl ?_; refine p_nil ?_; refine go_sub (σ' := [(4, _), (1, _), (3, _), (2, _), (0, _)]) ⟨rfl, rfl, rfl, rfl, rfl, trivial⟩ ?_; refine g_seq ?_; refine g_seq ?_; refine g_region ?_; refine kPm rfl rfl ?_; refine kPv (ev_eqp Tryz.runUnderlying28 rfl rfl rfl) rfl ?_; refine kPm rfl rfl ?_; refine p_val rfl (ev_move rfl) (.on rfl rfl (beq_eq rfl)) rfl rfl ?_; refine p_val rfl (ev_len rfl Tryz.runUnderlying34 ⟨_, rfl⟩ rfl) (.on rfl rfl (beq_eq rfl)) rfl rfl ?_
  refine p_val rfl (ev_cmp rfl rfl rfl) (.on rfl rfl (beq_eq rfl)) rfl rfl ?_; refine kPv (ev_pick_f rfl rfl rfl) rfl ?_; refine p_nil ?_; refine go_sub (σ' := [(25, _), (1, _), (3, _), (2, _), (0, _)]) ⟨rfl, rfl, rfl, rfl, rfl, trivial⟩ ?_; refine g_iff rfl (rfl) ?_; refine g_skip ?_; refine g_seq ?_; refine g_region ?_; refine kPm rfl rfl ?_; refine kPv (ev_loadA Tryz.isAgg30 Tryz.sizeOf30 rfl rfl) rfl ?_; refine kPv (ev_loadA Tryz.isAgg33 Tryz.sizeOf33 rfl rfl) rfl ?_
  refine p_chg rfl (ch_bs1 Tryz.runUnderlying31 Tryz.sizeOf52 Tryz.zeroValue52 rfl rfl rfl) .free rfl rfl ?_
  rintro _ _ ⟨b29, rfl, rfl⟩
  refine go_pk [4] ?_
  refine p_call rfl (en_f Tryz.call16 rfl) (cnew_ok B _ bd ⟨3, 1, 48⟩ cfg48 ⟨0, 2, [0]⟩ ⟨⟨by decide, by decide⟩, ⟨by decide, by decide⟩⟩ sv hsv (some ⟨b29, 0, none⟩) 1 [0] (by decide) (fun h => by cases h) (SlR.row (b := b29) rfl rfl)) .free rfl rfl ?_ ?_
  rotate_left
  · rintro _ _ ⟨⟩
  rintro _ _ ⟨x, rfl, rfl⟩
  have hX0 : ColW (newCol bd ⟨3, 1, 48⟩ ⟨0, 2, [0]⟩ [0]) := newCol_w cfg48 ⟨⟨by decide, by decide⟩, ⟨by decide, by decide⟩⟩ (by decide) (fun v h => by rw [List.mem_singleton.1 h]; decide) (fun v h => by rw [List.mem_singleton.1 h]; decide)
  refine kPa rfl rfl ?_; refine p_nil ?_; refine go_sub (σ' := [(5, _), (0, _)]) ⟨rfl, rfl, trivial⟩ ?_; refine g_seq ?_; refine g_seq ?_; refine g_region ?_; refine kPm rfl rfl ?_; refine kPv (ev_eqp Tryz.runUnderlying45 rfl rfl rfl) rfl ?_; refine p_nil ?_; refine g_iff rfl (rfl) ?_; refine g_skip ?_; refine g_seq ?_; refine g_region ?_; refine kPm rfl rfl ?_; refine go_pk [0, 4] ?_
  refine p_call rfl (en_f Tryz.call74 rfl) (cstep_ok B _ x (newCol bd ⟨3, 1, 48⟩ ⟨0, 2, [0]⟩ [0]) hX0 s2 hu2) .free rfl rfl ?_ ?_
  rotate_left
  · rintro _ _ ⟨s9, hm9, _⟩
    exact (okB_off e8 hm9).elim
  rintro _ _ ⟨r1, s3, hm1, rfl, rfl⟩
  have e9 := okB_ok e8 hm1
  simp only [Bool.and_eq_true, Bool.not_eq_true'] at e9
  obtain ⟨e10, e11⟩ := e9
  obtain ⟨hX1, hu3, _, hbd1, _⟩ := step_w hX0 hu2 hm1
  refine go_conv (H' := ColA x r1.2 :: DevA r1.2.bd s3 :: _) (fun w hh => by rw [hbd1]; exact hh) ?_
  refine kPm rfl rfl ?_
  refine p_call rfl (en_f Tryz.call74 rfl) (cstep_ok B _ x r1.2 hX1 s3 hu3) .free rfl rfl ?_ ?_
  rotate_left
  · rintro _ _ ⟨s9, hm9, _⟩
    exact (okB_off e11 hm9).elim
  rintro _ _ ⟨r2, s4, hm2, rfl, rfl⟩
  have e12 := okB_ok e11 hm2
  simp only [Bool.and_eq_true] at e12
  obtain ⟨hX2, hu4, _⟩ := step_w hX1 hu3 hm2
  have hbl : r2.2.block = ⟨1, 0, [0]⟩ := congrArg Prod.fst (blkIs_eq e12.2)
  rw [e10, e12.1]
  refine kPa rfl rfl ?_; refine kPa rfl rfl ?_; refine p_nil ?_; refine g_seq ?_; refine g_region ?_; refine kPm rfl rfl ?_; refine kPv (ev_not rfl) rfl ?_; refine kPm rfl rfl ?_; refine p_val rfl (ev_move rfl) (.on rfl rfl (beq_eq rfl)) rfl rfl ?_; refine kPv (ev_pick_t rfl rfl rfl) rfl ?_; refine kPm rfl rfl ?_; refine p_val rfl (ev_move rfl) (.on rfl rfl (beq_eq rfl)) rfl rfl ?_
  refine p_call rfl (en_f Tryz.call76 rfl) (cblock_ok B _ x r2.2 hX2) (.on rfl rfl (beq_eq rfl)) rfl rfl ?_ ?_
  rotate_left
  · rintro _ _ ⟨⟩
  rintro _ _ ⟨bv5, hbv5, rfl, rfl⟩
  rw [hbl]
  refine p_val rfl (ev_field1 Tryz.runUnderlying33 (t := 3) (off := 1) rfl Tryz.isAgg3 rfl rfl) (.on rfl rfl (beq_eq rfl)) rfl rfl ?_; refine p_val rfl (ev_cmp rfl rfl rfl) (.on rfl rfl (beq_eq rfl)) rfl rfl ?_; refine kPv (ev_pick_t rfl rfl rfl) rfl ?_; refine kPm rfl rfl ?_; refine p_val rfl (ev_move rfl) (.on rfl rfl (beq_eq rfl)) rfl rfl ?_; refine go_pk [1] ?_
  refine p_call rfl (en_f Tryz.call76 rfl) (cblock_ok B _ x r2.2 hX2) (.on rfl rfl (beq_eq rfl)) rfl rfl ?_ ?_
  rotate_left
  · rintro _ _ ⟨⟩
  rintro _ _ ⟨bv6, hbv6, rfl, rfl⟩
  rw [hbl]
  refine p_val rfl (ev_field1 Tryz.runUnderlying33 (t := 3) (off := 0) rfl Tryz.isAgg3 rfl rfl) (.on rfl rfl (beq_eq rfl)) rfl rfl ?_; refine p_val rfl (ev_cmp rfl rfl rfl) (.on rfl rfl (beq_eq rfl)) rfl rfl ?_; refine kPv (ev_pick_t rfl rfl rfl) rfl ?_; refine kPa rfl rfl ?_; refine p_nil ?_; refine go_sub (σ' := [(0, _)]) ⟨rfl, trivial⟩ ?_; refine g_ret ?_
  exact ret_tmp Tryz.results66 rfl (fun w hh => ⟨rfl, (hh.dp [0, 0, 0, 0, 0, 0, 0, 0, 0])⟩)
theorem awake15_ok (B : World) (Fr : List HP) :
    ∀ w, Holds B Fr w → Calls Tryz.prog 11 [].toArray w (PureR B Fr (.bool true)) := by
  refine fn_enter Tryz.func11 rfl Tryz.ntmps11 rfl ?_; refine g_seq ?_; refine g_region ?_; refine kPa rfl rfl ?_; refine p_nil ?_; refine g_seq ?_; refine g_seq ?_; refine g_region ?_; refine p_callq rfl (en_f Tryz.call66 rfl) (awake14_ok _ _) .free rfl rfl ?_; refine kPv (ev_not rfl) rfl ?_; refine p_nil ?_; refine g_iff rfl (rfl) ?_; refine g_skip ?_; refine g_seq ?_; refine g_region ?_; refine kPv (ev_build rfl (bld_24_2 _ rfl)) rfl ?_; refine kPv (ev_build rfl (bld_107_1 _ rfl)) rfl ?_
  refine kPv (ev_build rfl (bld_107_1 _ rfl)) rfl ?_; refine p_chg rfl (ch_bsG2 encH_w (v := (0, 1)) (u := (0, 2)) Tryz.runUnderlying25 Tryz.sizeOf107 Tryz.zeroValue107 ⟨⟨by decide, by decide⟩, rfl⟩ rfl rfl rfl rfl) .free rfl rfl ?_
  rintro _ _ ⟨b16, rfl, rfl⟩
  refine p_call rfl (en_f Tryz.call12 rfl) (linked_ok _ _ 0 0 40 ⟨by decide, by decide, by decide⟩ ⟨3, 1, 48⟩ mkC48 [(0, 1), (0, 2)] (hh2) (by decide) (some ⟨b16, 0, none⟩) _ sln2 none 0 [] SlR.nil (fun _ h => (by cases h)) (by decide) (fun _ h => absurd h (Nat.not_lt_zero _)) 0 (by decide)) .free rfl rfl ?_ ?_
  rotate_left
  · rintro _ _ ⟨⟩
  rintro _ _ ⟨bd, pa, N, s0, sF, out, hfm, hN, ⟨hus0, hf⟩, hfill, hor⟩
  obtain rfl := n48 hN
  have hev := okB_ok (okB_ok (d15_eval pa bd) hf) hfill
  simp only [Bool.and_eq_true, beq_iff_eq] at hev
  obtain ⟨⟨rfl, e1⟩, e2⟩ := hev
  rw [blkIs_eq e1] at hor
  rcases hor with ⟨n1, n2, s1, s2, ov, sv, hl1, hl2, hu2, hlm2, hn2, hov, hsv, rfl, rfl⟩ | ⟨s1, hl1, _⟩
  rotate_left
  · have e3 := okB_ok e2 hl1
    simp only [Bool.and_eq_true, beq_iff_eq] at e3
    exact absurd e3.1 (by simp)
  have e3 := okB_ok e2 hl1
  simp only [Bool.and_eq_true, beq_iff_eq] at e3
  obtain ⟨e4, e5⟩ := e3
  obtain rfl : n1 = 0 := by injection e4
  have e6 := okB_ok e5 hl2
  simp only [Bool.and_eq_true, beq_iff_eq] at e6
  obtain ⟨⟨e7, e14⟩, e8⟩ := e6
  rw [blkIs_eq e7]
  refine go_pk [2] ?_; refine go_vecq fun qo co hqo hqi => ?_
  subst hqo
  obtain ⟨bO, oO, rfl⟩ := hqi 0 (by decide)
  refine kPm rfl rfl ?_; refine kPv (ev_ext rfl rfl) rfl ?_; refine kPv (ev_ext rfl rfl) rfl ?_; refine kPv (ev_ext rfl rfl) rfl ?_; refine kPv (ev_ext rfl rfl) rfl ?_; refine p_chg rfl (ch_allocA Tryz.zeroValue30 rfl) .free rfl rfl ?_
  rintro _ _ ⟨b2, rfl, rfl⟩
  refine p_chg rfl (ch_allocA Tryz.zeroValue33 rfl) .free rfl rfl ?_
  rintro _ _ ⟨b3, rfl, rfl⟩
  refine kPa rfl rfl ?_; refine p_chg0 rfl (ch_storeA (vs := _) Tryz.sizeOf30 rfl rfl rfl rfl rfl) .free rfl ?_
  rintro _ _ rfl
  refine p_chg0 rfl (ch_storeA (vs := _) Tryz.sizeOf33 rfl rfl rfl (by first | rfl | exact all3 (by assumption)) rfl) .free rfl ?_
  rintro _ _ rfl
  refine kPa rfl rfl ?_; refine p_nil ?_; refine go_sub (σ' := [(4, _), (1, _), (3, _), (2, _), (0, _)]) ⟨rfl, rfl, rfl, rfl, rfl, trivial⟩ ?_; refine g_seq ?_; refine g_seq ?_; refine g_region ?_; refine kPm rfl rfl ?_; refine kPv (ev_eqp Tryz.runUnderlying28 rfl rfl rfl) rfl ?_; refine kPm rfl rfl ?_; refine p_val rfl (ev_move rfl) (.on rfl rfl (beq_eq rfl)) rfl rfl ?_; refine p_val rfl (ev_len rfl Tryz.runUnderlying34 ⟨_, rfl⟩ rfl) (.on rfl rfl (beq_eq rfl)) rfl rfl ?_
  refine p_val rfl (ev_cmp rfl rfl rfl) (.on rfl rfl (beq_eq rfl)) rfl rfl ?_; refine kPv (ev_pick_f rfl rfl rfl) rfl ?_; refine kPm rfl rfl ?_; refine p_val rfl (ev_fa (m := _) fa_33_1 rfl rfl) (.on rfl rfl (beq_eq rfl)) rfl rfl ?_; refine p_val rfl (ev_load Tryz.isAgg3 rfl rfl) (.on rfl rfl (beq_eq rfl)) rfl rfl ?_; refine p_val rfl (ev_cmp rfl rfl rfl) (.on rfl rfl (beq_eq rfl)) rfl rfl ?_; refine kPv (ev_pick_f rfl rfl rfl) rfl ?_; refine p_nil ?_
  refine go_sub (σ' := [(33, _), (4, _), (1, _), (2, _), (0, _)]) ⟨rfl, rfl, rfl, rfl, rfl, trivial⟩ ?_; refine g_iff rfl (rfl) ?_; refine g_skip ?_; refine g_seq ?_; refine g_region ?_; refine kPm rfl rfl ?_; refine kPv (ev_loadA Tryz.isAgg30 Tryz.sizeOf30 rfl rfl) rfl ?_; refine go_pk [4] ?_
  refine p_call rfl (en_f Tryz.call13 rfl) (snew_ok _ _ bd s2 ⟨3, 1, 48⟩ cfg48) .free rfl rfl ?_ ?_
  rotate_left
  · rintro _ _ ⟨⟩
  rintro _ _ ⟨bs, rfl, rfl⟩
  refine kPa rfl rfl ?_; refine p_nil ?_; refine g_seq ?_; refine g_seq ?_; refine g_region ?_; refine go_secC fun bl o1 o2 => ?_; refine kPm rfl rfl ?_; refine kPv (ev_eqp Tryz.runUnderlying37 rfl rfl rfl) rfl ?_; refine kPm rfl rfl ?_; refine p_val rfl (ev_move rfl) (.on rfl rfl (beq_eq rfl)) rfl rfl ?_
  first | refine p_val rfl (ev_nil rfl) (.on rfl rfl (beq_eq rfl)) rfl rfl ?_ | refine p_val rfl (ev_nilf rfl) (.on rfl rfl (beq_eq rfl)) rfl rfl ?_
  refine p_val rfl (ev_fa (m := _) fa_44_0 rfl rfl) (.on rfl rfl (beq_eq rfl)) rfl rfl ?_; refine p_val rfl (ev_load Tryz.isAgg39 rfl rfl) (.on rfl rfl (beq_eq rfl)) rfl rfl ?_; refine p_val rfl (ev_eqp Tryz.runUnderlying39 rfl rfl rfl) (.on rfl rfl (beq_eq rfl)) rfl rfl ?_; refine kPv (ev_pick_f rfl rfl rfl) rfl ?_; refine p_nil ?_; refine go_sub (σ' := [(45, _), (5, _), (4, _), (1, _), (2, _), (0, _)]) ⟨rfl, rfl, rfl, rfl, rfl, rfl, trivial⟩ ?_; refine g_iff rfl (rfl) ?_; refine g_skip ?_
  refine g_seq ?_; refine go_conv (fun w hh => secC_holds (S := (⟨openL bd ⟨3, 1, 48⟩ s2, 0, 0, [], []⟩ : SecS)) hh) ?_; refine go_conv (H' := SecC bs (⟨openL bd ⟨3, 1, 48⟩ s2, 0, 0, [], []⟩ : SecS) :: DevA bd s2 :: row b2 [i64 3, i64 1, i64 48] 30 :: VecA 3 i64 0 (.slice (some ⟨bO, oO, none⟩) 2 co, [40, 42]) :: VecU 0 (sv, [0]) :: Fr) (fun w hh => by have h := (hh.dp [2, 5]); exact h) ?_
  refine g_drawv [0, 1, 2, 3, 4, 5, 6, 7, 8, 9, 10, 11, 12, 13] [7, 8] [0, 1, 2] [7] [row b2 [i64 3, i64 1, i64 48] 30, VecA 3 i64 0 (.slice (some ⟨bO, oO, none⟩) 2 co, [40, 42])] Tryz.mixed (by kernel_rfl) ?_; refine v_hoist rfl rfl rfl (ev_move rfl) .free rfl ?_; refine v_hoist rfl rfl rfl (ev_loadA Tryz.isAgg30 Tryz.sizeOf30 rfl rfl) .free rfl ?_; refine v_hoist rfl rfl rfl (ev_move rfl) .free rfl ?_; refine v_val rfl rfl rfl (ev_move rfl) .free rfl ?_
  refine v_val rfl rfl rfl (ev_iaS Tryz.runUnderlying34 Tryz.sizeOf3 rfl rfl (by decide) (by decide)) .free rfl ?_; refine v_val rfl rfl rfl (ev_loadS (v := i64 42) Tryz.isAgg3 (vec_slr 3 rfl) rfl rfl) .free rfl ?_; refine v_val rfl rfl rfl (ev_conv (c := 42) Tryz.runUnderlying3 Tryz.runUnderlying52 rfl (by decide)) .free rfl ?_; refine v_mark rfl rfl ?_; refine p_chg rfl (ch_bs1 Tryz.runUnderlying31 Tryz.sizeOf52 Tryz.zeroValue52 rfl rfl rfl) .free rfl rfl ?_
  rintro _ _ ⟨b54, rfl, rfl⟩
  refine p_nil ?_; refine v_on ?_; refine v_mark rfl rfl ?_; refine go_pk [1, 1] ?_
  refine p_call rfl (en_f Tryz.call14 rfl) (fcollect_ok B _ bs bd (⟨openL bd ⟨3, 1, 48⟩ s2, 0, 0, [], []⟩ : SecS) ⟨3, 1, 48⟩ cfg48 s2 hu2 ⟨openL_w cfg48, by rw [hn2]; decide, rfl, rfl⟩ (some ⟨b54, 0, none⟩) 1 [42] (by decide) (fun v h => by rw [List.mem_singleton.1 h]; decide) (SlR.row (b := b54) rfl rfl)) .free rfl rfl ?_ ?_
  rotate_left
  · rintro _ _ ⟨s9, hm9, _⟩
    exact (okB_off e8 hm9).elim
  rintro _ _ ⟨r, s3, hm3, hor⟩
  have e9 := okB_ok e8 hm3
  simp only [Bool.and_eq_true, beq_iff_eq] at e9
  obtain ⟨⟨e10, e11⟩, e12⟩ := e9
  rcases hor with ⟨h1, _⟩ | ⟨x, X, hX, h0, rfl, rfl⟩
  · rw [h1] at e11; cases e11
  rw [hX] at e11
  have e13 : (mget X.went 42).getD 0 = 88 := by simpa [went1] using e11
  have hu3 := (collect_k cfg48 (fun v h => by rw [List.mem_singleton.1 h]; decide) (openL_w cfg48) hu2 (by rw [hn2]; decide) e14 hm3).1
  refine p_nil ?_; refine v_off rfl ?_; refine v_val rfl rfl rfl (ev_move rfl) .free rfl ?_; refine v_val rfl rfl rfl (ev_ext rfl rfl) .free rfl ?_; refine v_val rfl rfl rfl (ev_ext rfl rfl) .free rfl ?_; refine v_val rfl rfl rfl (ev_assign rfl) .free rfl ?_; refine v_val rfl rfl rfl (ev_assign rfl) .free rfl ?_; refine v_nil ?_; refine go_sub (σ' := [(7, _), (6, _), (4, _), (1, _), (2, _), (0, _)]) ⟨rfl, rfl, rfl, rfl, rfl, rfl, trivial⟩ ?_; refine g_seq ?_; refine g_region ?_
  refine kPm rfl rfl ?_; refine kPv (ev_loadA Tryz.isAgg30 Tryz.sizeOf30 rfl rfl) rfl ?_; refine go_pk [2] ?_
  refine p_call rfl (en_f Tryz.call15 rfl) (rread_ok _ _ _ _ ⟨3, 1, 48⟩ cfg48 hu3) .free rfl rfl ?_ ?_
  rotate_left
  · rintro _ _ ⟨⟩
  rintro _ _ ⟨sv3, hsv3, rfl, rfl⟩
  rw [blkIs_eq e12]
  refine kPm rfl rfl ?_; refine kPv (ev_ext rfl rfl) rfl ?_; refine kPv (ev_ext rfl rfl) rfl ?_; refine p_chg rfl (ch_allocA Tryz.zeroValue33 rfl) .free rfl rfl ?_
  rintro _ _ ⟨b8, rfl, rfl⟩
  refine p_chg0 rfl (ch_storeA (vs := _) Tryz.sizeOf33 rfl rfl rfl (by first | rfl | exact all3 (by assumption)) rfl) .free rfl ?_
  rintro _ _ rfl
  refine kPa rfl rfl ?_; refine p_nil ?_; refine go_sub (σ' := [(9, _), (8, _), (7, _), (6, _), (4, _), (2, _), (0, _)]) ⟨rfl, rfl, rfl, rfl, rfl, rfl, rfl, trivial⟩ ?_; refine g_seq ?_; refine g_draw Tryz.mixed (by kernel_rfl) (by kernel_rfl) ?_; refine kQm rfl rfl ?_; refine kQv (ev_cmp rfl rfl rfl) rfl ?_; refine kQm rfl rfl ?_; refine q_val rfl (ev_move rfl) (.on rfl rfl (beq_eq rfl)) rfl ?_; refine q_val rfl (ev_eqp Tryz.runUnderlying45 rfl rfl rfl) (.on rfl rfl (beq_eq rfl)) rfl ?_
  refine kQv (ev_pick_t rfl rfl rfl) rfl ?_; refine kQm rfl rfl ?_; refine q_val rfl (ev_move rfl) (.on rfl rfl (beq_eq rfl)) rfl ?_; refine q_val rfl (ev_cmp rfl rfl rfl) (.on rfl rfl (beq_eq rfl)) rfl ?_; refine kQv (ev_pick_t rfl rfl rfl) rfl ?_; refine kQm rfl rfl ?_; refine q_val rfl (ev_fa (m := _) fa_33_0 rfl rfl) (.on rfl rfl (beq_eq rfl)) rfl ?_; refine q_val rfl (ev_load Tryz.isAgg3 rfl rfl) (.on rfl rfl (beq_eq rfl)) rfl ?_
  refine q_val rfl (ev_cmp rfl rfl rfl) (.on rfl rfl (beq_eq rfl)) rfl ?_; refine kQv (ev_pick_t rfl rfl rfl) rfl ?_; refine kQm rfl rfl ?_; refine q_val rfl (ev_fa (m := _) fa_33_1 rfl rfl) (.on rfl rfl (beq_eq rfl)) rfl ?_; refine q_val rfl (ev_load Tryz.isAgg3 rfl rfl) (.on rfl rfl (beq_eq rfl)) rfl ?_; refine q_val rfl (ev_cmp rfl rfl rfl) (.on rfl rfl (beq_eq rfl)) rfl ?_; refine kQv (ev_pick_t rfl rfl rfl) rfl ?_; refine kQm rfl rfl ?_
  refine q_val rfl (ev_move rfl) (.on rfl rfl (beq_eq rfl)) rfl ?_; refine q_val rfl (ev_move rfl) (.on rfl rfl (beq_eq rfl)) rfl ?_; refine q_val rfl (ev_iaS Tryz.runUnderlying34 Tryz.sizeOf3 rfl rfl (by decide) (by decide)) (.on rfl rfl (beq_eq rfl)) rfl ?_; refine q_val rfl (ev_loadS (v := i64 42) Tryz.isAgg3 (vec_slr 7 rfl) rfl rfl) (.on rfl rfl (beq_eq rfl)) rfl ?_; refine q_val rfl (ev_conv (c := 42) Tryz.runUnderlying3 Tryz.runUnderlying52 rfl (by decide)) (.on rfl rfl (beq_eq rfl)) rfl ?_
  refine q_call rfl (en_f Tryz.call55 rfl) (ro_at (q := ColA) (fun Fr => cwent_ok B Fr x X 42)) (.on rfl rfl (beq_eq rfl)) rfl ?_; refine q_val rfl (ev_loadA Tryz.isAgg30 Tryz.sizeOf30 rfl rfl) (.on rfl rfl (beq_eq rfl)) rfl ?_; refine q_call rfl (en_f Tryz.call46 rfl) (from_ok _ _ ⟨3, 1, 48⟩ cfg48 1 (by decide) (by decide)) (.on rfl rfl (beq_eq rfl)) rfl ?_; refine q_val rfl (ev_cmp rfl rfl rfl) (.on rfl rfl (beq_eq rfl)) rfl ?_; refine kQv (ev_pick_t rfl rfl rfl) rfl ?_; refine kQa rfl rfl ?_
  refine q_nil ?_; refine go_sub (σ' := [(0, _)]) ⟨rfl, trivial⟩ ?_; refine g_ret ?_
  exact ret_tmp Tryz.results11 rfl (fun w hh => ⟨by rw [e13]; rfl, (hh.dp [0, 0, 0, 0, 0, 0, 0, 0, 0])⟩)
end Go.Proofs.YtbfheafpecgphaaGreat
namespace Go.Proofs.YtbfheafpecgphaaGreat
open Go
theorem Tryz.ownKnobs : ownKnob Tryz.prog.godebug = none := by kernel_rfl
theorem Tryz.laidOut : laidOutB Tryz.prog = true := by kernel_rfl
theorem law_of {P : Program} {f : FuncId} {vs : Array Value} {W : World} (h : ∀ w, Holds W [old W] w → Calls P f vs w (PureR W [old W] (.bool true))) :
    Calls P f vs W (fun e w' => e = .returned (.bool true) ∧ RowKit.Below W.heap.size W w') := (h W (holds_old W)).mono fun _ _ ⟨h1, h2⟩ => ⟨h1, h2.oldb⟩
theorem arg_sl_u16 {H : Type} {enc : TypeId × Value → H} {W : World} {base : Nat} {held : Bool} {a : Option Addr} {len cap : Nat} {x : DataW H × List MemPlace}
    (h : ∃ fuel, DataW.trod enc Tryz.prog W base (fun _ => true) held fuel 26 (Value.slice a len cap).cells.toList = some x) : ∃ xs : List Int, len = xs.length ∧ len ≤ 9223372036854775807 ∧ ArgRow W a len 1 (fun i => [u16 (xs.getD i 0)]) ∧ ∀ x ∈ xs, 0 ≤ x ∧ x ≤ 65535 := by
  obtain ⟨fuel, hf⟩ := h
  rcases Go.ChangeShapes.open_ints Tryz.underlying26 Tryz.underlying22 (by kernel_rfl) hf with ⟨hcs, _⟩ | ⟨y, l, c, zs, hcs, _, hl, hm, hlen, hbd, hcell, hbd2⟩
  · simp [Value.cells] at hcs
    obtain ⟨rfl, rfl, rfl⟩ := hcs
    exact ⟨[], rfl, by omega, ⟨fun i hi => by omega⟩, fun x hx => by simp at hx⟩
  · simp [Value.cells] at hcs
    obtain ⟨rfl, rfl, rfl⟩ := hcs
    unfold maxLen at hm
    simp only [if_true] at hlen
    refine ⟨zs.take len, by rw [List.length_take]; omega, by omega, ⟨fun i hi => ?_⟩, fun x hx => bounds_u16 (hbd2 x (List.mem_of_mem_take hx))⟩
    have h0 := hcell i (by omega)
    obtain ⟨b, o, s⟩ := y
    have hs : s = none := by
      have h1 := hcell 0 (by omega)
      have e0 : (⟨b, o, s⟩ : Addr).add 0 = ⟨b, o, s⟩ := rfl
      rw [e0] at h1
      unfold World.cell? at h1
      split at h1
      · cases s with
        | none => rfl
        | some q => simp at h1
      · cases h1
    subst hs
    refine ⟨b, o, rfl, rfl, fun j hj => ?_⟩
    obtain rfl : j = 0 := by omega
    rw [add_eq] at h0
    have e1 : (List.take len zs)[i]?.getD 0 = zs[i]?.getD 0 := by
      rw [List.getElem?_take_of_lt hi]
    simpa [e1] using h0
theorem slr_u16 {W : World} {H : List HP} [HasOld H W] {a : Option Addr} {cap : Nat} {xs : List Int} (h : ArgRow W a xs.length 1 (fun i => [u16 (xs.getD i 0)])) : SlR W H (.slice a xs.length cap) (xs.map u16) := by
  have h1 := SlR.arg (H := H) (cap := cap) h
  have e : (List.range xs.length).map (fun i => u16 (xs.getD i 0)) = xs.map u16 := by
    apply List.ext_getElem
    · simp
    · intro i h1 h2
      simp at h1
      simp [h1]
  rwa [e] at h1
open Go.ChangeShapes Go.WideShapes in
set_option maxRecDepth 100000 in
theorem arg_st_u16_u16_u16 {H : Type} {enc : TypeId × Value → H} {W : World} {r : Reach} {base b1 : Nat} {held : Bool} {sp : Nat → Bool} {v : Value} {x : DataW H × List MemPlace}
    (hv : Value.okWide Tryz.prog W r b1 24 v) (h : ∃ fuel, DataW.trod enc Tryz.prog W base sp held fuel 24 v.cells.toList = some x) :
    ∃ z : Int × Int × Int, v = .agg #[u16 z.1, u16 z.2.1, u16 z.2.2] ∧ (Lit.int .u16 z.1).wf = true ∧ (Lit.int .u16 z.2.1).wf = true ∧ (Lit.int .u16 z.2.2).wf = true := by
  obtain ⟨fuel, hf⟩ := h
  obtain ⟨cs, rfl, hsz⟩ := okWide_struct Tryz.underlying24 hv
  have hsz : cs.size = 3 := hsz
  obtain ⟨y0, y1, y2, n, _, _, h0, h1, h2⟩ := Go.Deep.trod_struct3 Tryz.underlying24 hf
  obtain ⟨a, e0, _, w0⟩ := DataW.trod_int Tryz.underlying22 h0
  obtain ⟨b, e1, _, w1⟩ := DataW.trod_int Tryz.underlying22 h1
  obtain ⟨c, e2, _, w2⟩ := DataW.trod_int Tryz.underlying22 h2
  refine ⟨(a, b, c), ?_, w0, w1, w2⟩
  obtain ⟨l⟩ := cs
  match l, hsz with
  | [p, q, s], _ =>
    have e0 : [p] = [Value.int .u16 a] := e0
    have e1 : [q] = [Value.int .u16 b] := e1
    have e2 : [s] = [Value.int .u16 c] := e2
    cases e0; cases e1; cases e2; rfl
end Go.Proofs.YtbfheafpecgphaaGreat
namespace Go.Proofs.YtbfheafpecgphaaGreat
open Go
theorem some_u8 {W : World} {a : Option Addr} {n : Nat} {f : Nat → Value} (h : ArgRow W a n 1 (fun i => [f i])) : ∀ i, i < n → ∃ b off, a = some ⟨b, off, none⟩ := fun i hi => by
  obtain ⟨b, o, e, _⟩ := h.cell i hi; exact ⟨b, o, e⟩
end Go.Proofs.YtbfheafpecgphaaGreat
namespace Go.Proofs.YtbfheafpecgphaaGreat
open Go
set_option maxRecDepth 100000 in
theorem arg_sl_st_u8_u8 {H : Type} {enc : TypeId × Value → H} {W : World} {base : Nat} {held : Bool} {a : Option Addr} {len cap : Nat} {x : DataW H × List MemPlace}
    (h : ∃ fuel, DataW.trod enc Tryz.prog W base (fun _ => true) held fuel 25 (Value.slice a len cap).cells.toList = some x) : ∃ f : Nat → Int × Int, len ≤ 9223372036854775807 ∧ (∀ i, i < len → 0 ≤ (f i).1 ∧ (f i).1 ≤ 255 ∧ 0 ≤ (f i).2 ∧ (f i).2 ≤ 255) ∧ ArgRow W a len 2 (fun i => [.int .u8 (f i).1, .int .u8 (f i).2]) := by
  obtain ⟨fuel, hf⟩ := h
  rcases Go.Deep.open_slice Tryz.underlying25 hf with ⟨hcs, _⟩ | ⟨y, l, c, m, n, D, Pl, hcs, _, hl, hm, hmm, _, hx⟩
  · simp [Value.cells] at hcs
    obtain ⟨rfl, rfl, rfl⟩ := hcs
    exact ⟨fun _ => (0, 0), by omega, fun i hi => by omega, ⟨fun i hi => by omega⟩⟩
  · simp [Value.cells] at hcs
    obtain ⟨rfl, rfl, rfl⟩ := hcs
    unfold maxLen at hm
    simp only [if_true] at hmm
    have hc2 : Tryz.prog.cellsOf 107 = 2 := by kernel_rfl
    have each : ∀ i, i < len → ∃ p : Int × Int, (0 ≤ p.1 ∧ p.1 ≤ 255 ∧ 0 ≤ p.2 ∧ p.2 ≤ 255) ∧ W.cell? (y.add (i * 2)) = some (.int .u8 p.1) ∧ W.cell? ((y.add (i * 2)).add 1) = some (.int .u8 p.2) := fun i hi => by
      obtain ⟨cs, h1, h2⟩ := hx i (by omega)
      rw [hc2] at h1
      obtain ⟨y0, y1, n, _, hlen, g0, g1⟩ := Go.ChangeShapes.trod_struct2 Tryz.underlying107 h2
      rw [hc2] at hlen
      match cs, hlen with
      | [u, v], _ =>
        obtain ⟨p, ep, _, wp⟩ := DataW.trod_int Tryz.underlying5 g0
        obtain ⟨q, eq, _, wq⟩ := DataW.trod_int Tryz.underlying5 g1
        have ep : [u] = [Value.int .u8 p] := ep
        have eq : [v] = [Value.int .u8 q] := eq
        cases ep; cases eq
        have bp := bounds_u8 wp
        have bq := bounds_u8 wq
        have hs := World.cells?_some h1
        exact ⟨(p, q), ⟨bp.1, bp.2, bq.1, bq.2⟩, hs.2.2 0 (by decide), hs.2.2 1 (by decide)⟩
    obtain ⟨b, o, s⟩ := y
    by_cases h0 : len = 0
    · exact ⟨fun _ => (0, 0), by omega, fun i hi => by omega, ⟨fun i hi => by omega⟩⟩
    have hs : s = none := by
      obtain ⟨p, _, h1, _⟩ := each 0 (by omega)
      have e0 : (⟨b, o, s⟩ : Addr).add (0 * 2) = ⟨b, o, s⟩ := rfl
      rw [e0] at h1
      unfold World.cell? at h1
      split at h1
      · cases s with
        | none => rfl
        | some q => simp at h1
      · cases h1
    subst hs
    refine ⟨fun i => if hi : i < len then (each i hi).choose else (0, 0), by omega, fun i hi => ?_, ⟨fun i hi => ⟨b, o, rfl, rfl, fun j hj => ?_⟩⟩⟩
    · simp only [dif_pos hi]
      exact (each i hi).choose_spec.1
    · obtain ⟨_, h1, h2⟩ := (each i hi).choose_spec
      simp only [dif_pos hi]
      match j, hj with
      | 0, _ => exact (congrArg W.cell? (add_eq b o (i * 2))).symm.trans h1
      | 1, _ => exact ((congrArg (fun a : Addr => W.cell? (a.add 1)) (add_eq b o (i * 2))).trans (congrArg W.cell? (add_eq b (o + i * 2) 1))).symm.trans h2
end Go.Proofs.YtbfheafpecgphaaGreat
namespace Go.Proofs.YtbfheafpecgphaaGreat
open Go
structure HI (c : Cfg) (N bd : Nat) (S : SecS) (s : Dev) (b : Blk) (L : List Int) : Prop where
  sk : SK c N bd S s
  bl : s.block c = (b, 0)
  heap : HeapW c b s.load L
theorem sln_arg2 {W : World} {H : List HP} [HasOld H W] {a : Option Addr} {n cap : Nat} {f : Nat → Int × Int} (h : ArgRow W a n 2 (fun i => [.int .u8 (f i).1, .int .u8 (f i).2])) : SlN W H (.slice a ((List.range n).map f).length cap) 2 (((List.range n).map f).map fun h => [u8 h.1, u8 h.2]) := by
  have h1 := SlN.arg (H := H) (cap := cap) h
  rw [List.length_map, List.length_range, List.map_map]
  exact h1
theorem was_load {s t : Dev} {N : Nat} (hn : s.n = N) (ht : t.n = N) (h : ∀ i, i < N → t.now i = s.now i) : t.load = s.load := by
  funext j
  unfold Dev.load Dev.has
  rw [hn, ht]
  split
  · rename_i hj
    simp only [Bool.and_eq_true, decide_eq_true_eq] at hj
    exact h _ (by omega)
  · rfl
theorem SlR.tab {B : World} {H : List HP} {n b cap : Nat} {f : Nat → Value} {rest : List Value} {T : TypeId} {U : List Value → List HP} [RowU H b (tab n f ++ rest) T U] : SlR B H (.slice (some ⟨b, 0, none⟩) n cap) (tab n f) :=
  SlR.row (cs := Proofs.YtbfheafpecgphaaGreat.tab n f ++ rest) (T := T) (U := U) (by rw [List.drop_zero, List.take_append_of_le_length (by rw [tab_len]; omega), List.take_of_length_le (by rw [tab_len]; omega)]) (by rw [tab_len])
theorem tab_gd {n i : Nat} {f : Nat → Int} (h : i < n) : (tab n f).getD i 0 = f i := by
  have e : tab n f = (List.range n).map f := rfl
  rw [e, List.getD_eq_getElem?_getD]
  simp [h]
theorem was_dev {c : Cfg} {N : Nat} (hN : (N : Int) = c.words) {s t : Dev} (hn : s.n = N) (hu : U64 s) {pa : Nat} (h : (⟨pa, ⟨-1, 0⟩, ((tab s.n s.now).length + 7) / 8 * 8, fun i => (tab s.n s.now).getD i 0, fun i => (tab s.n s.now).getD i 0, fun _ => none⟩ : Dev) = t) : t.load = s.load ∧ U64 t := by
  have h8 : c.words % 8 = 0 := lo_line
  have hb : ∀ i, 0 ≤ (tab s.n s.now).getD i 0 ∧ (tab s.n s.now).getD i 0 < 18446744073709551616 := fun i => by
    by_cases hi : i < s.n
    · rw [tab_gd hi]; exact hu i
    · rw [List.getD_eq_getElem?_getD, List.getElem?_eq_none (by rw [tab_len]; omega)]; decide
  subst h
  refine ⟨was_load hn (by show ((tab s.n s.now).length + 7) / 8 * 8 = N; rw [tab_len, hn]; omega) fun i hi => tab_gd (by omega), hb⟩
end Go.Proofs.YtbfheafpecgphaaGreat
namespace Go.Proofs.YtbfheafpecgphaaGreat
open Go
def idxI (v : Int) : List Int → Int → Int
  | [], _ => -1
  | a :: t, k => if v = a then k else idxI v t (k + 1)
theorem indexi_ok (B : World) (H : List HP) (q : Option Addr) (c : Nat) (xs : List Int) (v : Int) (hx : xs.length ≤ 1000000) (hq : ∀ i, i < xs.length → ∃ b off, q = some ⟨b, off, none⟩) (hr : SlR B H (.slice q xs.length c) (xs.map i64)) :
    ∀ w, Holds B H w → Calls Tryz.prog 65 [.slice q xs.length c, i64 v].toArray w (PureR B H (i64 (idxI v xs 0))) := by
  refine fn_enter Tryz.func65 rfl Tryz.ntmps65 rfl ?_; refine g_seq ?_; refine g_region ?_; refine kPa rfl rfl ?_; refine p_nil ?_; refine g_seq ?_; refine g_seq ?_; refine g_region ?_; refine kPm rfl rfl ?_; refine kPv (ev_len rfl Tryz.runUnderlying34 ⟨_, rfl⟩ rfl) rfl ?_; refine kPm rfl rfl ?_; refine p_nil ?_; refine g_block ?_
  refine g_loopk (ι := Nat) [7, 4, 0, 1] (fun k => (k ≤ xs.length) ∧ (idxI v xs 0 = idxI v (xs.drop k) k)) (fun k => [(8, i64 k)]) (fun k => H) (fun k => xs.length - k) (0) (⟨Nat.zero_le _, rfl⟩) (fun a w st => st.to ⟨rfl, trivial⟩ (fun hh => hh)) ?_
  rintro k ⟨hk1, hinv⟩
  try simp only at hk1 hinv ⊢
  refine go_sub (σ' := [(8, i64 k), (7, _), (4, _), (0, _), (1, _)]) ⟨rfl, rfl, rfl, rfl, rfl, trivial⟩ ?_; refine g_seq ?_; refine g_region ?_; refine kPv (ev_cmp rfl rfl rfl) rfl ?_; refine p_nil ?_; refine g_seq ?_
  refine g_if rfl (fun h9 => ?_) (fun h9 => ?_)
  · have hk : k < xs.length := by simp at h9; omega
    obtain ⟨b1, o1, rfl⟩ := hq k hk
    have hst : idxI v (xs.drop k) k = if v = xs[k] then (k : Int) else idxI v (xs.drop (k + 1)) (k + 1 : Nat) := by rw [List.drop_eq_getElem_cons hk]; rfl
    refine g_skip ?_; refine g_seq ?_; refine g_block ?_; refine g_seq ?_; refine g_region ?_; refine kPm rfl rfl ?_; refine kPa rfl rfl ?_; refine p_nil ?_; refine g_seq ?_; refine g_region ?_; refine kPm rfl rfl ?_; refine kPm rfl rfl ?_; refine kPm rfl rfl ?_; refine kPv (ev_iaS Tryz.runUnderlying34 Tryz.sizeOf3 rfl rfl (by omega) (by omega)) rfl ?_
    refine kPv (ev_loadS (v := i64 xs[k]) Tryz.isAgg3 hr rfl (by rw [Int.toNat_natCast, List.getElem?_map, List.getElem?_eq_getElem hk]; rfl)) rfl ?_
    refine kPv (ev_cmp rfl rfl rfl) rfl ?_; refine p_nil ?_; refine go_sub (σ' := [(16, _), (5, _), (8, _), (7, _), (4, _), (0, _), (1, _)]) ⟨rfl, rfl, rfl, rfl, rfl, rfl, rfl, trivial⟩ ?_
    refine g_if rfl (fun h16 => ?_) (fun h16 => ?_)
    · have he : v = xs[k] := by simpa using h16
      refine g_seq ?_; refine g_region ?_; refine kPm rfl rfl ?_; refine kPa rfl rfl ?_; refine p_nil ?_; refine g_ret ?_
      exact ret_tmp Tryz.results65 rfl (fun w hw => ⟨by rw [hinv, hst, if_pos he], hw⟩)
    · have he : ¬ v = xs[k] := by simpa using h16
      refine g_skip ?_; refine g_region ?_
      first | refine p_val rfl (ev_add rfl rfl (wr64 (by omega))) .free rfl rfl ?_ | refine p_val rfl (ev_add rfl rfl rfl) .free rfl rfl ?_
      refine kPm rfl rfl ?_; refine p_nil ?_
      exact fun a w st_ => ⟨k + 1, ⟨by omega, by rw [hinv, hst, if_neg he]⟩, by omega, st_.to ⟨rfl, rfl, rfl, rfl, rfl, trivial⟩ (fun hh => hh)⟩
  · have hk : ¬ k < xs.length := by simp at h9; omega
    refine g_exit ?_; refine g_seq ?_; refine g_region ?_; refine kPa rfl rfl ?_; refine p_nil ?_; refine g_ret ?_
    exact ret_tmp Tryz.results65 rfl (fun w hw => ⟨by rw [hinv, List.drop_eq_nil_of_le (by omega)]; rfl, hw⟩)
end Go.Proofs.YtbfheafpecgphaaGreat
