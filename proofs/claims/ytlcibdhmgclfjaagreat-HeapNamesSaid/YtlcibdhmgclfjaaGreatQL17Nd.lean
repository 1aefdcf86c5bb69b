/- Part of the texts beneath a law: what its proof names. Conditions: none. -/
import Derived.Test.YtlcibdhmgclfjaaGreatQL17Nc
set_option linter.unusedSimpArgs false
set_option linter.unusedVariables false
set_option linter.unnecessarySimpa false
set_option linter.unusedSectionVars false
namespace Go.Proofs.YtlcibdhmgclfjaaGreat
open Go
section
variable {B : World} {σ : Env} {H : List HP} {P : Program} {d : Option Tmp} {ty : TypeId} {p : String} {af : Array Edge} {g : Option (Nat × Bool)} {α : Type} {kk : IntKind} {enc : α → Value} {r : Nat} {l : List (Int × α)} {U : List (Int × α) → List HP}
theorem mfind_del {key : Int} : ∀ (l : List (Int × α)) (i j : Nat) (x : α), mfind l key i = some (j, x) → i ≤ j ∧ mdel l key = l.eraseIdx (j - i)
  | [], i, j, x, h => by cases h
  | q :: l, i, j, x, h => by
    unfold mfind at h
    split at h
    · rename_i hk
      cases h
      refine ⟨Nat.le_refl _, ?_⟩
      unfold mdel
      rw [if_pos hk, Nat.sub_self]; rfl
    · rename_i hk
      obtain ⟨h1, h2⟩ := mfind_del l (i + 1) j x h
      refine ⟨by omega, ?_⟩
      unfold mdel
      rw [if_neg hk, h2, show j - i = (j - (i + 1)) + 1 by omega]; rfl
theorem mfind_nodel {key : Int} : ∀ (l : List (Int × α)) (i : Nat), mfind l key i = none → mdel l key = l
  | [], i, h => rfl
  | q :: l, i, h => by
    unfold mfind at h
    split at h
    · cases h
    · rename_i hk
      unfold mdel
      rw [if_neg hk, mfind_nodel l (i + 1) h]
theorem map_erase {β γ : Type} (f : β → γ) : ∀ (l : List β) (j : Nat), (l.map f).eraseIdx j = (l.eraseIdx j).map f
  | [], _ => rfl
  | _ :: _, 0 => rfl
  | a :: l, j + 1 => by simp only [List.map_cons, List.eraseIdx_cons_succ, map_erase f l j]
theorem MW.erase {bn : Int → Nat} {clock : Nat} (m : MW bn l clock) (j : Nat) : MW bn (l.eraseIdx j) clock := by
  have hs : (l.eraseIdx j).Sublist l := List.eraseIdx_sublist l j
  exact ⟨(hs.map Prod.fst).nodup m.keys, fun p hp q hq => m.inj p (hs.subset hp) q (hs.subset hq), fun p hp => m.lt p (hs.subset hp)⟩
theorem ch_delete {t k e : TypeId} {x y : Operand} {at_ : Array TypeId} {key : Int} (ha : at_[0]? = some t) (ht : ∀ w, (underlying t).run P w = .ok (.map k e) w) (hk : ∀ w, (underlying k).run P w = .ok (.int kk) w)
    (hx : evO σ x = some (.map (some r))) (hy : evO σ y = some (.int kk key)) [m : MapU H r kk enc l U] :
    Chg P B σ H ⟨d, .call ⟨.builtin .delete, #[x, y], at_⟩, ty, p, af, g⟩ (fun _ H' => H' = U (mdel l key)) := by
  intro a w kn hh
  obtain ⟨bn, clock, ho, hm⟩ := m.obj hh
  have hf := findNow_m (kk := kk) (enc := enc) (bn := bn) (q := kk) key l 0
  have hkey : MapKept.IsKey (.int kk) (.int kk key) := rfl
  cases hc : mfind l key 0 with
  | none =>
    rw [hc] at hf
    have e := mfind_nodel l 0 hc
    refine ⟨.value (.tuple #[]), { w with heap := w.heap.setIfInBounds r (.map (ments kk enc bn (mdel l key)).toArray clock) }, ?_, _, .inl rfl, _, rfl, m.put hh (bn := bn) (clock := clock) (by rw [e]; exact hm)⟩
    rw [e]
    simp [execOp, resolve, invoke, builtin, Builtin.delete_, ha, kn.eval hx, kn.eval hy, ht, MapKept.run_getObj_map ho, MapKept.run_checkKey (un_of hk) hkey, MapKept.run_findKey (un_of hk) hf, MapKept.run_setObj_map _ ho]
  | some v =>
    obtain ⟨j, x'⟩ := v
    rw [hc] at hf
    obtain ⟨_, h2⟩ := mfind_del l 0 j x' hc
    rw [Nat.sub_zero] at h2
    refine ⟨.value (.tuple #[]), { w with heap := w.heap.setIfInBounds r (.map (ments kk enc bn (mdel l key)).toArray clock) }, ?_, _, .inl rfl, _, rfl, m.put hh (bn := bn) (clock := clock) (by rw [h2]; exact hm.erase j)⟩
    have hj : (ments kk enc bn l).eraseIdx j = ments kk enc bn (mdel l key) := by rw [h2]; exact map_erase _ l j
    simp [execOp, resolve, invoke, builtin, Builtin.delete_, ha, kn.eval hx, kn.eval hy, ht, MapKept.run_getObj_map ho, MapKept.run_checkKey (un_of hk) hkey, MapKept.run_findKey (un_of hk) hf, MapKept.run_setObj_map _ ho, hj]
def mapS {α : Type} (kk : IntKind) (enc : α → Value) (r : Nat) (l : List (Int × α)) (key : Int) (stamp : Nat) : HP := fun h => ∃ bn clock, h r = some (.map (ments kk enc bn l).toArray clock) ∧ MW bn l clock ∧ key ∈ l.map Prod.fst ∧ bn key = stamp
def mentry {α : Type} (l : List (Int × α)) (key : Int) (u0 : α) : List (Int × α) := match mfind l key 0 with
  | none => l ++ [(key, u0)]
  | some _ => l
theorem ch_mapentry {t k e : TypeId} {x y : Operand} {key : Int} {u0 : α} {Fr : List HP} (ht : ∀ w, (underlying t).run P w = .ok (.map k e) w) (hk : ∀ w, (underlying k).run P w = .ok (.int kk) w) (hz : ∀ w, (zeroValue e).run P w = .ok (enc u0) w)
    (hx : evO σ x = some (.map (some r))) (hy : evO σ y = some (.int kk key)) :
    Chg P B σ (mapA kk enc r l :: Fr) ⟨d, .mapEntry t x y, ty, p, af, g⟩ (fun v H' => ∃ (z0 : Value) (stamp : Nat), v = .tuple #[z0, .int .i64 stamp] ∧ H' = mapS kk enc r (mentry l key u0) key stamp :: Fr) := by
  intro a w kn hh
  have m : MapU (mapA kk enc r l :: Fr) r kk enc l (fun l' => mapA kk enc r l' :: Fr) := MapU.head
  obtain ⟨bn, clock, ho, hm⟩ := m.obj hh
  have hf := findNow_m (kk := kk) (enc := enc) (bn := bn) (q := kk) key l 0
  have hkey : MapKept.IsKey (.int kk) (.int kk key) := rfl
  cases hc : mfind l key 0 with
  | none =>
    rw [hc] at hf
    have hn := mfind_notin hc
    have hme : mentry l key u0 = l ++ [(key, u0)] := by unfold mentry; rw [hc]
    refine ⟨.value (.tuple #[enc u0, .int .i64 clock]), { w with heap := w.heap.setIfInBounds r (.map (ments kk enc (fun x => if x = key then clock else bn x) (mentry l key u0)).toArray (clock + 1)) }, ?_, _, .inl rfl, _, ⟨_, clock, rfl, rfl⟩, ?_⟩
    · rw [hme, ← ments_push hn]
      simp [execOp, kn.eval hx, kn.eval hy, Instr.mapEntry, ht, MapKept.run_getObj_map ho, MapKept.run_checkKey (un_of hk) hkey, MapKept.run_findKey (un_of hk) hf, MapKept.run_setObj_map _ ho, hz, goInt]
    · refine holds_swap hh 0 rfl ho (fun k s ⟨bn1, c1, hk1, _⟩ => ?_) (fun k k' _ hk' _ => ⟨_, _, hk', by rw [hme]; exact hm.push hn, by rw [hme]; simp, by simp⟩)
      rw [hk1, ← ho]; exact (s _ _ hk1).symm
  | some v =>
    obtain ⟨j, x'⟩ := v
    rw [hc] at hf
    obtain ⟨_, q, h2, h3, h4⟩ := mfind_some (kk := kk) (enc := enc) (bn := bn) hc
    simp only [Nat.sub_zero] at h2 h4
    have hin : key ∈ l.map Prod.fst := by rw [← h3]; exact List.mem_map_of_mem (List.mem_of_getElem? h2)
    have hme : mentry l key u0 = l := by unfold mentry; rw [hc]
    have hj : (ments kk enc bn l)[j]? = some ⟨.int kk q.1, enc q.2, bn q.1⟩ := by simp [ments, h2]
    refine ⟨.value (.tuple #[enc x', .int .i64 (bn key)]), { w with heap := w.heap.setIfInBounds r (.map (ments kk enc bn (mentry l key u0)).toArray clock) }, ?_, _, .inl rfl, _, ⟨_, bn key, rfl, rfl⟩, ?_⟩
    · rw [hme]
      have hid : (ments kk enc bn l).modify j (fun e => { e with key := .int kk key }) = ments kk enc bn l := by
        apply List.ext_getElem?
        intro i
        rw [List.getElem?_modify]
        by_cases hij : j = i
        · subst hij
          rw [hj]
          simp [h3]
        · simp [hij]
      simp [execOp, kn.eval hx, kn.eval hy, Instr.mapEntry, ht, MapKept.run_getObj_map ho, MapKept.run_checkKey (un_of hk) hkey, MapKept.run_findKey (un_of hk) hf, MapKept.run_setObj_map _ ho, hj, h3, MapKept.run_keyThatStays hkey, goInt, hid]
    · refine holds_swap hh 0 rfl ho (fun k s ⟨bn1, c1, hk1, _⟩ => ?_) (fun k k' _ hk' _ => ⟨_, _, hk', by rw [hme]; exact hm, by rw [hme]; exact hin, rfl⟩)
      rw [hk1, ← ho]; exact (s _ _ hk1).symm
theorem ch_entrystore {t : TypeId} {x y z : Operand} {key : Int} {stamp : Nat} {u : α} {v : Value} {Fr : List HP}
    (hx : evO σ x = some (.map (some r))) (hy : evO σ y = some (.int .i64 stamp)) (hz : evO σ z = some v) (hv : v = enc u) :
    Chg P B σ (mapS kk enc r l key stamp :: Fr) ⟨d, .entryStore t x y z, ty, p, af, g⟩ (fun _ H' => H' = mapA kk enc r (mset l key u) :: Fr) := by
  subst hv
  intro a w kn hh
  obtain ⟨k0, s0, bn, clock, ho0, hm, hin, hst⟩ := hh.at 0 rfl
  have ho := s0 _ _ ho0
  cases hc : mfind l key 0 with
  | none =>
    obtain ⟨q, hq, e⟩ := List.mem_map.1 hin
    exact absurd e (mfind_notin hc q hq)
  | some vv =>
    obtain ⟨j, x'⟩ := vv
    obtain ⟨_, q, h2, h3, h4⟩ := mfind_some (kk := kk) (enc := enc) (bn := bn) hc
    simp only [Nat.sub_zero] at h2 h4
    have hj : (ments kk enc bn l)[j]? = some ⟨.int kk q.1, enc q.2, bn q.1⟩ := by simp [ments, h2]
    have hjl : j < l.length := (List.getElem?_eq_some_iff.1 h2).1
    have hfi : (ments kk enc bn l).findIdx? (fun e => (e.born : Int) == (stamp : Int)) = some j := by
      rw [List.findIdx?_eq_some_iff_getElem]
      have hjm : j < (ments kk enc bn l).length := by simpa [ments] using hjl
      refine ⟨hjm, ?_, fun i hi => ?_⟩
      · rw [List.getElem?_eq_getElem hjm] at hj
        injection hj with hj
        rw [hj]; simp [h3, hst]
      · have hil : i < l.length := by omega
        have hne : bn (l[i]).1 ≠ stamp := fun e => by
          have h5 := hm.inj l[i] (List.getElem_mem hil) q (List.mem_of_getElem? h2) (by rw [e, h3, hst])
          have h6 := List.pairwise_iff_getElem.1 hm.keys i j (by simpa using hil) (by simpa using hjl) hi
          rw [List.getElem?_eq_getElem hjl] at h2
          injection h2 with h2
          apply h6
          simp only [List.getElem_map]
          rw [h2]; exact h5
        simp [ments]; omega
    have hmo : (ments kk enc bn l).modify j (fun e => { e with val := enc u }) = ments kk enc bn (mset l key u) := by
      rw [← h4 u]
      apply List.ext_getElem?
      intro i
      rw [List.getElem?_modify, List.getElem?_modify]
      by_cases hij : j = i
      · subst hij
        rw [hj]
        simp [h3]
      · simp [hij]
    refine ⟨.skip, { w with heap := w.heap.setIfInBounds r (.map (ments kk enc bn (mset l key u)).toArray clock) }, ?_, _, .inr ⟨rfl, rfl⟩, _, rfl, ?_⟩
    · simp [execOp, kn.eval hx, kn.eval hy, kn.eval hz, Instr.entryStore, MapKept.run_getObj_map ho, MapKept.run_setObj_map _ ho, asInt, asIntOf, hfi, hmo]
    · refine holds_swap hh 0 rfl ho (fun k s ⟨bn1, c1, hk1, _⟩ => ?_) (fun k k' _ hk' _ => ⟨_, _, hk', hm.mset hin⟩)
      rw [hk1, ← ho]; exact (s _ _ hk1).symm
end
end Go.Proofs.YtlcibdhmgclfjaaGreat
namespace Go.Proofs.YtlcibdhmgclfjaaGreat
open Go
section
variable {B : World} {n : Nat} {D : List Deferred} {σ : Env} {H Fr : List HP} {P : Program} {K : Act → World → Prop} {X : Ext} {ro : Cx}
theorem SlR.at {q q' : Option Addr} {m cap : Nat} {cs : List Value} (h : SlR B H (.slice q m cap) cs) (e : q = q') : SlR B H (.slice q' m cap) cs := e ▸ h
variable {d : Option Tmp} {ty : TypeId} {p : String} {af : Array Edge} {g : Option (Nat × Bool)}
end
end Go.Proofs.YtlcibdhmgclfjaaGreat
