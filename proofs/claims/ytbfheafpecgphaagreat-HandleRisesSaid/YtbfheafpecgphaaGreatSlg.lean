/- A small logic of owned blocks: regions that draw the order of operations that change the world. Conditions: none. -/
import Derived.Test.YtbfheafpecgphaaGreatSlf
set_option linter.unusedSimpArgs false
set_option linter.unusedVariables false
set_option linter.unnecessarySimpa false
set_option linter.unusedSectionVars false
namespace Go.Proofs.YtbfheafpecgphaaGreat
open Go

section
variable {B : World} {n : Nat} {D : List Deferred} {σ : Env} {H : List HP} {P : Program} {ro : Cx} {K : Act → World → Prop} {X : Ext}

theorem Chg.ofEvs {o : Oper} {v : Value} (h : Evs P B σ H o v) : Chg P B σ H o (fun u H' => u = v ∧ H' = H) := fun a w k hh => ⟨.value v, w, h a w k hh, v, .inl rfl, H, ⟨rfl, rfl⟩, hh⟩
theorem Chg.mono {o : Oper} {Y Y' : Value → List HP → Prop} (h : Chg P B σ H o Y) (f : ∀ v H', Y v H' → Y' v H') : Chg P B σ H o Y' := fun a w k hh =>
  let ⟨r, w', e, v, hv, H', y, hh'⟩ := h a w k hh; ⟨r, w', e, v, hv, H', f _ _ y, hh'⟩
theorem Chg.env {σ' : Env} {o : Oper} {Y : Value → List HP → Prop} (h : Chg P B σ' H o Y) (hs : ∀ a : Act, Knows σ a → Knows σ' a) : Chg P B σ H o Y := fun a w k hh => h a w (hs a k) hh

/-- The slots of the operations that are done. -/
def KnowsDone (ops : Array Oper) (V : Nat → Value) (listed : Array Bool) (a : Act) : Prop := ∀ (i : Nat) (o : Oper) (d : Nat), ops[i]? = some o → o.dst = some d → listed.getD i false = true → a.tmps[d]? = some (V i)
structure RJ {G : Type} (B : World) (n : Nat) (D : List Deferred) (σ : Env) (ops : Array Oper) (V : G → Nat → Value) (HH : Array Bool → G → List HP) (listed : Array Bool) (g : G) (a : Act) (w : World) : Prop extends StA n D σ a where
  dn : KnowsDone ops (V g) listed a
  len : listed.size = ops.size
  cl : ∀ (j : Nat) (oj : Oper), ops[j]? = some oj → listed.getD j false = true → ∀ e ∈ oj.after, Region.binds .any e = true → listed.getD e.on false = true
  holds : Holds B (HH listed g) w
/-- No guards, no defers; targets all unlike, below n, and none of the slots that are known; what binds lies ahead. -/
def anyOk (n : Nat) (ks : List Nat) (ops : Array Oper) : Bool :=
  (List.range ops.size).all fun i => match (ops[i]? : Option Oper) with
    | none => true
    | some o => ndef o.op && o.guard.isNone && (match o.dst with
        | none => true
        | some d => Nat.blt d n && !ks.contains d && (List.range ops.size).all (fun j => match (ops[j]? : Option Oper) with | some o' => (match o'.dst with | some d' => !(Nat.beq d' d) || Nat.beq j i | none => true) | none => true)) &&
      o.after.all (fun e => !Region.binds .any e || Nat.blt e.on i)
structure AnyOk (n : Nat) (ks : List Nat) (ops : Array Oper) : Prop where
  nd : ∀ (i : Nat) (o : Oper), ops[i]? = some o → ndef o.op = true ∧ o.guard = none
  dst : ∀ (i : Nat) (o : Oper) (d : Nat), ops[i]? = some o → o.dst = some d → d < n ∧ d ∉ ks
  uniq : ∀ (i j : Nat) (o o' : Oper) (d : Nat), ops[i]? = some o → ops[j]? = some o' → o.dst = some d → o'.dst = some d → j = i
  low : ∀ (i : Nat) (o : Oper), ops[i]? = some o → ∀ e ∈ o.after, Region.binds .any e = true → e.on < i
theorem anyOk_spec {ks : List Nat} {ops : Array Oper} (h : anyOk n ks ops = true) : AnyOk n ks ops := by
  have key : ∀ (i : Nat) (o : Oper), ops[i]? = some o → (ndef o.op && o.guard.isNone && (match o.dst with
        | none => true
        | some d => Nat.blt d n && !ks.contains d && (List.range ops.size).all (fun j => match (ops[j]? : Option Oper) with | some o' => (match o'.dst with | some d' => !(Nat.beq d' d) || Nat.beq j i | none => true) | none => true)) &&
      o.after.all (fun e => !Region.binds .any e || Nat.blt e.on i)) = true := by
    intro i o ho
    have hi := (Array.getElem?_eq_some_iff.1 ho).1
    have := List.all_eq_true.1 h i (List.mem_range.2 hi)
    simpa only [ho] using this
  refine ⟨fun i o ho => ?_, fun i o d ho hd => ?_, fun i j o o' d ho ho' hd hd' => ?_, fun i o ho e he hb => ?_⟩
  · have := key i o ho
    simp only [Bool.and_eq_true] at this
    exact ⟨this.1.1.1, by simpa using this.1.1.2⟩
  · have := key i o ho
    simp only [Bool.and_eq_true, hd] at this
    exact ⟨by simpa [Nat.blt_eq] using this.1.2.1.1, by simpa using this.1.2.1.2⟩
  · have := key i o ho
    simp only [Bool.and_eq_true, hd] at this
    have h2 := List.all_eq_true.1 this.1.2.2 j (List.mem_range.2 (Array.getElem?_eq_some_iff.1 ho').1)
    simp only [ho', hd'] at h2
    simp at h2; exact h2
  · have := key i o ho
    simp only [Bool.and_eq_true] at this
    have h2 := Array.all_eq_true'.1 this.2 e he
    simp only [hb, Bool.not_true, Bool.false_or, Nat.blt_eq] at h2
    exact h2
/-- What an operation does: it yields a value or changes the world; or it calls a function that returns. -/
def Doz (P : Program) (o : Oper) (a : Act) (w : World) (Post : Value → World → Prop) : Prop :=
  (∃ r w' v, (execOp a.eval o).run P w = .ok r w' ∧ (r = .value v ∨ (r = .skip ∧ v = undef)) ∧ Post v w') ∨ ∃ f vs, (execOp a.eval o).run P w = .ok (.enter f vs) w ∧ Calls P f vs w (fun e w' => ∃ v, e = .returned v ∧ Post v w')
theorem doz_val {o : Oper} {v : Value} {a : Act} {w : World} {Post : Value → World → Prop} (h : Evs P B σ H o v) (hk : Knows σ a) (hw : Holds B H w) (hp : Post v w) : Doz P o a w Post := .inl ⟨.value v, w, v, h a w hk hw, .inl rfl, hp⟩
theorem doz_chg {o : Oper} {Y : Value → List HP → Prop} {a : Act} {w : World} {Post : Value → World → Prop} (h : Chg P B σ H o Y) (hk : Knows σ a) (hw : Holds B H w) (hp : ∀ v H', Y v H' → ∀ w', Holds B H' w' → Post v w') : Doz P o a w Post := by
  obtain ⟨r, w', e, v, hv, H', y, hh⟩ := h a w hk hw
  exact .inl ⟨r, w', v, e, hv, hp v H' y w' hh⟩
theorem doz_pure {o : Oper} {f : FuncId} {vs : Array Value} {v : Value} {a : Act} {w : World} {Post : Value → World → Prop} (he : Ent P B σ H o f vs) (hc : ∀ w, Holds B H w → Calls P f vs w (PureR B H v)) (hk : Knows σ a) (hw : Holds B H w) (hp : ∀ w', Holds B H w' → Post v w') : Doz P o a w Post :=
  .inr ⟨f, vs, he a w hk hw, (hc w hw).mono fun e w' q => ⟨v, q.1, hp w' q.2⟩⟩
theorem doz_call {o : Oper} {f : FuncId} {vs : Array Value} {Φ : Value → List HP → Prop} {a : Act} {w : World} {Post : Value → World → Prop} (he : Ent P B σ H o f vs) (hc : ∀ w, Holds B H w → Calls P f vs w (Ret B Φ (fun _ _ => False))) (hk : Knows σ a) (hw : Holds B H w) (hp : ∀ v H', Φ v H' → ∀ w', Holds B H' w' → Post v w') : Doz P o a w Post :=
  .inr ⟨f, vs, he a w hk hw, (hc w hw).mono fun e w' q => by
    cases e with
    | returned v => obtain ⟨H', hΦ, hh⟩ := q; exact ⟨v, rfl, hp v H' hΦ w' hh⟩
    | panicked c => obtain ⟨_, h, _⟩ := q; exact h.elim
    | outgrown => exact q.elim⟩
theorem knows_cons {a : Act} {t : Nat} {v : Value} (h : a.tmps[t]? = some v) (hk : Knows σ a) : Knows ((t, v) :: σ) a := fun u x e => by
  simp only [look] at e
  by_cases q : t = u
  · subst q; simp at e; subst e; exact h
  · rw [beq_no q] at e; exact hk u x e
theorem getD_set_eq {listed : Array Bool} {i : Nat} (h : i < listed.size) : (listed.setIfInBounds i true).getD i false = true := by simp [h]
theorem g_any {G : Type} {id : Nat} {l : List Oper} (ks : List Nat) (V : G → Nat → Value) (HH : Array Bool → G → List HP) (g0 : G) (hm : P.follows .mixedOrders = true) (hok : anyOk n ks l.toArray = true) (hks : ∀ t v, look σ t = some v → t ∈ ks)
    (h0 : HH (Array.replicate l.toArray.size false) g0 = H)
    (step : ∀ (i : Nat) (o : Oper), l.toArray[i]? = some o → ∀ (listed : Array Bool) (g : G), listed.size = l.toArray.size → listed.getD i true = false → (∀ (j : Nat) (oj : Oper), l.toArray[j]? = some oj → listed.getD j false = true → ∀ e ∈ oj.after, Region.binds .any e = true → listed.getD e.on false = true) → (∀ e ∈ o.after, Region.binds .any e = true → listed.getD e.on false = true) →
      ∀ a, Knows σ a → KnowsDone l.toArray (V g) listed a → ∀ w, Holds B (HH listed g) w → Doz P o a w (fun v w' => ∃ g', (o.dst ≠ none → V g' i = v) ∧ (∀ j, j ≠ i → listed.getD j false = true → V g' j = V g j) ∧ Holds B (HH (listed.setIfInBounds i true) g') w'))
    (fin : ∀ (listed : Array Bool) (g : G), (∀ i, i < l.toArray.size → listed.getD i false = true) → ∀ a w, StA n D σ a → KnowsDone l.toArray (V g) listed a → Holds B (HH listed g) w → K a w) :
    GO B n D σ H (cw ro P (.region id l.toArray true) K X) := by
  have ok := anyOk_spec hok
  have main : ∀ (fuel : Nat) (listed : Array Bool) (g : G) (a : Act) (w : World), RJ B n D σ l.toArray V HH listed g a w → (∀ i, i < l.toArray.size → listed.getD i false = false → fuel ≠ 0) → ((List.range l.toArray.size).filter fun i => !listed.getD i false).length ≤ fuel →
      wpAnyIn (Wd ro) 0 P .any l.toArray (toQ K X) fuel listed a w := by
    intro fuel
    induction fuel with
    | zero =>
      intro listed g a w J hz hf
      have hall : ∀ i, i < l.toArray.size → listed.getD i false = true := fun i hi => by
        cases h : listed.getD i false with
        | true => rfl
        | false => exact absurd rfl (hz i hi h)
      refine ⟨?_, fin listed g hall a w J.toStA J.dn J.holds⟩
      cases hr : Region.ready .any l.toArray listed with
      | nil => rfl
      | cons j t =>
        have hj : j ∈ Region.ready .any l.toArray listed := by rw [hr]; simp
        obtain ⟨h1, o, ho, _⟩ := mem_ready.1 hj
        have := hall j (Array.getElem?_eq_some_iff.1 ho).1
        rw [getD_both h1] at this; cases this
    | succ fuel ih =>
      intro listed g a w J hz hf
      refine ⟨fun hr => ?_, fun i hi => ?_⟩
      · refine fin listed g (fun i => ?_) a w J.toStA J.dn J.holds
        induction i using Nat.strongRecOn with
        | _ i ihh =>
          intro hi
          cases h : listed.getD i false with
          | true => rfl
          | false =>
            have hin : i ∈ Region.ready .any l.toArray listed := by
              refine mem_ready.2 ⟨getD_in (by rw [J.len]; exact hi) h, l.toArray[i], by simp [hi], fun e he hb => ?_⟩
              have hlow := ok.low i _ (Array.getElem?_eq_getElem hi) e he hb
              exact ihh e.on hlow (by omega)
            rw [hr] at hin; cases hin
      · obtain ⟨hun, o, ho, hdep⟩ := mem_ready.1 hi
        obtain ⟨hnd, hg⟩ := ok.nd i o ho
        have hsz := (Array.getElem?_eq_some_iff.1 ho).1
        have hstep := step i o ho listed g J.len hun J.cl hdep a J.env J.dn w J.holds
        have hun' := getD_both hun
        -- what is known behind it
        have J' : ∀ v w' g', (o.dst ≠ none → V g' i = v) → (∀ j, j ≠ i → listed.getD j false = true → V g' j = V g j) → Holds B (HH (listed.setIfInBounds i true) g') w' → ∀ a', a'.tmps = (a.put o.dst v).tmps → a'.defers = a.defers → RJ B n D σ l.toArray V HH (listed.setIfInBounds i true) g' a' w' := by
          intro v w' g' hV hst hH a' hp hd
          have htm : ∀ t, o.dst ≠ some t → a'.tmps[t]? = a.tmps[t]? := fun t ht => by
            rw [hp]
            cases hdst : o.dst with
            | none => rfl
            | some d =>
              have : d ≠ t := by rintro rfl; exact ht hdst
              simp [Act.put, this]
          refine ⟨⟨?_, by rw [hd]; exact J.defers, fun t u h => ?_⟩, ?_, by simp [J.len], fun j oj hoj hlj e he hb => ?_, hH⟩
          · rw [hp]; cases hdst : o.dst with
            | none => exact J.size
            | some d => simp [Act.put, J.size]
          · rw [htm t (fun hd => (ok.dst i o t ho hd).2 (hks t u h))]; exact J.env t u h
          · intro j oj d hoj hdj hlj
            by_cases e : j = i
            · subst e
              rw [hoj] at ho; cases ho
              rw [hp, hdj]
              have hdn := (ok.dst _ _ d hoj hdj).1
              have hs := J.size
              simp [Act.put, hs, hdn]
              exact (hV (by rw [hdj]; simp)).symm
            · have hlj' : listed.getD j false = true := by rwa [getD_set_ne false (Ne.symm e)] at hlj
              rw [htm d (fun hd => e (ok.uniq i j o oj d ho hoj hd hdj)), J.dn j oj d hoj hdj hlj', hst j e hlj']
          · refine getD_set_true ?_
            by_cases ej : j = i
            · subst ej
              have hoo : o = oj := by rw [hoj] at ho; exact (Option.some.inj ho).symm
              subst hoo
              exact hdep e he hb
            · rw [getD_set_ne false (Ne.symm ej)] at hlj
              exact J.cl j oj hoj hlj e he hb
        have hcount : ((List.range l.toArray.size).filter fun j => !(listed.setIfInBounds i true).getD j false).length < ((List.range l.toArray.size).filter fun j => !listed.getD j false).length := by
          have hsub : ∀ L : List Nat, L.Nodup → i ∈ L → (L.filter fun j => !(listed.setIfInBounds i true).getD j false).length < (L.filter fun j => !listed.getD j false).length := by
            intro L
            induction L with
            | nil => intro _ h; cases h
            | cons x L ihL =>
              intro hnd hin
              rw [List.nodup_cons] at hnd
              by_cases hx : x = i
              · subst hx
                have e1 : (L.filter fun j => !(listed.setIfInBounds x true).getD j false) = L.filter fun j => !listed.getD j false := List.filter_congr fun j hj => by
                  rw [getD_set_ne false (by rintro rfl; exact hnd.1 hj)]
                have e2 : (listed.setIfInBounds x true).getD x false = true := by simp [J.len]; exact hsz
                rw [List.filter_cons_of_neg (by simp [e2]), List.filter_cons_of_pos (by simp only [hun']; rfl), e1]; simp
              · have hin' : i ∈ L := by
                  rcases List.mem_cons.1 hin with h | h
                  · exact absurd h.symm hx
                  · exact h
                have := ihL hnd.2 hin'
                have e3 : (listed.setIfInBounds i true).getD x false = listed.getD x false := getD_set_ne false (Ne.symm hx)
                simp only [List.filter_cons, e3]
                split
                · simp only [List.length_cons]; omega
                · omega
          exact hsub _ List.nodup_range (List.mem_range.2 hsz)
        have hnext : ∀ v w', (∃ g', (o.dst ≠ none → V g' i = v) ∧ (∀ j, j ≠ i → listed.getD j false = true → V g' j = V g j) ∧ Holds B (HH (listed.setIfInBounds i true) g') w') → ∀ a', a'.tmps = (a.put o.dst v).tmps → a'.defers = a.defers → wpAnyIn (Wd ro) 0 P .any l.toArray (toQ K X) fuel (listed.setIfInBounds i true) a' w' := fun v w' ⟨g', hV, hst, hH⟩ a' hp hd => by
          refine ih _ g' a' w' (J' v w' g' hV hst hH a' hp hd) (fun j hj hf' => ?_) (by omega)
          intro hz
          subst hz
          have h0 : ((List.range l.toArray.size).filter fun j => !(listed.setIfInBounds i true).getD j false).length = 0 := by omega
          have : j ∈ (List.range l.toArray.size).filter fun j => !(listed.setIfInBounds i true).getD j false := List.mem_filter.2 ⟨List.mem_range.2 hj, by simp only [hf']; rfl⟩
          rw [List.length_eq_zero_iff.1 h0] at this; cases this
        show wpOpIn _ _ _ _ _ _ _ _ _
        unfold wpOpIn
        rw [ho]
        have hw : Region.wanted o (yielded l.toArray a.tmps) = true := by unfold Region.wanted; rw [hg]
        simp only [hw, if_true]
        refine ⟨fun _ _ => trivial, ?_⟩
        rw [semAt_nd hnd]
        rcases hstep with ⟨r, w', v, e1, hv, hp⟩ | ⟨f, vs, e1, hc⟩
        · rw [e1]
          rcases hv with rfl | ⟨rfl, rfl⟩
          · rw [Oper.uponIn_value]; exact hnext v w' hp _ rfl (by cases o.dst <;> rfl)
          · rw [Oper.uponIn_skip]; exact hnext undef w' hp _ rfl (by cases o.dst <;> rfl)
        · rw [e1, Oper.uponIn_enter]
          refine ⟨fun h => by simp at h, calls_wd.2 (hc.mono fun e w' q => ?_)⟩
          obtain ⟨v, rfl, hp⟩ := q
          exact hnext v w' hp _ rfl (by cases o.dst <;> rfl)
  intro a w s
  refine cw_of (wpIn_region_any hm ?_)
  refine main _ _ g0 a _ ⟨s.toStA, fun i o d _ _ h => (by rw [getD_replicate_false] at h; cases h), by simp, fun j oj _ h => (by rw [getD_replicate_false] at h; cases h), by rw [h0]; exact s.holds.drew _⟩ (fun i hi _ h0 => by omega) ?_
  exact Nat.le_trans (List.length_filter_le _ _) (by simp)
theorem look_mem : ∀ {σ : Env} {t : Nat} {v : Value}, look σ t = some v → t ∈ σ.map Prod.fst
  | [], _, _, h => by simp [look] at h
  | (k, u) :: l, t, v, h => by
    simp only [look] at h
    by_cases e : k = t
    · subst e; simp
    · rw [beq_no e] at h
      exact List.mem_cons_of_mem _ (look_mem h)
theorem g_anyg {G : Type} {id : Nat} {l : List Oper} (ks : List Nat) (V : G → Nat → Value) (HH : Array Bool → G → List HP) (g0 : G) (σx : G → Env) (Hx : G → List HP) (hm : P.follows .mixedOrders = true) (hok : anyOk n ks l.toArray = true) (hks : ∀ t v, look σ t = some v → t ∈ ks)
    (h0 : HH (Array.replicate l.toArray.size false) g0 = H)
    (step : ∀ (i : Nat) (o : Oper), l.toArray[i]? = some o → ∀ (listed : Array Bool) (g : G), listed.size = l.toArray.size → listed.getD i true = false → (∀ (j : Nat) (oj : Oper), l.toArray[j]? = some oj → listed.getD j false = true → ∀ e ∈ oj.after, Region.binds .any e = true → listed.getD e.on false = true) → (∀ e ∈ o.after, Region.binds .any e = true → listed.getD e.on false = true) →
      ∀ a, Knows σ a → KnowsDone l.toArray (V g) listed a → ∀ w, Holds B (HH listed g) w → Doz P o a w (fun v w' => ∃ g', (o.dst ≠ none → V g' i = v) ∧ (∀ j, j ≠ i → listed.getD j false = true → V g' j = V g j) ∧ Holds B (HH (listed.setIfInBounds i true) g') w'))
    (fin : ∀ (listed : Array Bool) (g : G), (∀ i, i < l.toArray.size → listed.getD i false = true) → ∀ a w, Knows σ a → KnowsDone l.toArray (V g) listed a → Holds B (HH listed g) w → Knows (σx g) a ∧ Holds B (Hx g) w)
    (k : ∀ g, GO B n D (σx g) (Hx g) K) : GO B n D σ H (cw ro P (.region id l.toArray true) K X) :=
  g_any ks V HH g0 hm hok hks h0 step fun listed g hall a w st dn hw => by
    obtain ⟨h1, h2⟩ := fin listed g hall a w st.env dn hw
    exact k g a w ⟨⟨st.size, st.defers, h1⟩, h2⟩

theorem run_eq_fn {t : TypeId} {td : TypeDesc} {f : Fn} {fi ca : Array Value} (ht : ∀ w, (underlying t).run P w = .ok td w) (htd : ∃ a b c, td = .func a b c) (w : World) : (Op.equal t (.func f fi ca) .nilFunc).run P w = .ok false w := by
  obtain ⟨a, b, c, rfl⟩ := htd
  show (Op.equalIn (9999 + 1) t (.func f fi ca) .nilFunc).run P w = _
  rw [Op.equalIn]; simp only [Sem.run_bind, ht, Result.andThen_ok]; rfl
/-- A function held against nil. -/
theorem ev_eqfn {op : BinOp} {x y : Operand} {f : Fn} {fi ca : Array Value} {c : Bool} {t u : TypeId} {td : TypeDesc} {d : Option Tmp} {ty : TypeId} {p : String} {af : Array Edge} {g : Option (Nat × Bool)} (ht : ∀ w, (underlying t).run P w = .ok td w) (htd : ∃ a b c, td = .func a b c) (hx : evO σ x = some (.func f fi ca)) (hy : evO σ y = some .nilFunc) (hc : (match op with | .eql => some false | .neq => some true | _ => none) = some c) :
    Evs P B σ H ⟨d, .binOp op t x y u, ty, p, af, g⟩ (.bool c) := by
  intro a w kn _
  cases op <;> simp at hc <;> subst hc <;> simp only [execOp, kn.eval hx, kn.eval hy] <;> simp [binOp, eqGuard, run_eq_fn ht htd]
/-! ### Results in cells, of several variables -/
/-- What a result variable holds. -/
inductive ResV (P : Program) (σ : Env) (H : List HP) : ResultVar → Value → Prop
  | tmp {t : Nat} {v : Value} (h : look σ t = some v) : ResV P σ H (.tmp t) v
  | cellA {t ty b k m : Nat} {cs : List Value} {T : TypeId} {U : List Value → List HP} {v : Value} (h : look σ t = some (.pointer (some ⟨b, k, none⟩))) (ht : ∀ w, (isAgg ty).run P w = .ok true w) (hs : ∀ w, (sizeOf ty).run P w = .ok m w) [RowU H b cs T U] (hk : Nat.ble (k + m) cs.length = true) (hv : v = .agg ((cs.drop k).take m).toArray) : ResV P σ H (.cell t ty) v
  | cell1 {t ty b k : Nat} {cs : List Value} {T : TypeId} {U : List Value → List HP} {v : Value} (h : look σ t = some (.pointer (some ⟨b, k, none⟩))) (ht : ∀ w, (isAgg ty).run P w = .ok false w) [RowU H b cs T U] (hv : cs[k]? = some v) : ResV P σ H (.cell t ty) v
theorem ResV.run {x : ResultVar} {v : Value} (r : ResV P σ H x v) {a : Act} {w : World} (k : Knows σ a) (hw : Holds B H w) : (match x with | .tmp t => (pure (a.tmps.getD t undef) : Sem Value) | .cell t ty => do loadVar ty (← asAddr (a.tmps.getD t undef))).run P w = .ok v w := by
  cases r with
  | tmp h =>
    simp only [Sem.run_pure, Array.getD_eq_getD_getElem?, k _ _ h]; rfl
  | @cellA t ty b kk m cs T U v h ht hs hU hk hv =>
    subst hv
    have := run_loadA (P := P) (b := b) (U := U) hw ht hs hk
    simp [k _ _ h, asAddr, this]
  | @cell1 t ty b kk cs T U v h ht hU hv =>
    have := run_load (P := P) (b := b) (U := U) hw ht hv
    simp [k _ _ h, asAddr, this]
theorem ret_1 {fn : Func} {R : Ending → World → Prop} {x : ResultVar} {v : Value} (hr : fn.results = #[x]) (h1 : ResV P σ H x v) (h : ∀ w, Holds B H w → R (.returned v) w) : GO B n [] σ H (fnX P fn R).ret := fun a w s => by
  refine ⟨s.defers, v, ?_, h w s.holds⟩
  have e1 := h1.run s.env s.holds
  simp [results, hr] at e1 ⊢
  cases x <;> simp_all
theorem ret_2 {fn : Func} {R : Ending → World → Prop} {x y : ResultVar} {v u : Value} (hr : fn.results = #[x, y]) (h1 : ResV P σ H x v) (h2 : ResV P σ H y u) (h : ∀ w, Holds B H w → R (.returned (.tuple #[v, u])) w) : GO B n [] σ H (fnX P fn R).ret := fun a w s => by
  refine ⟨s.defers, .tuple #[v, u], ?_, h w s.holds⟩
  have e1 := h1.run s.env s.holds
  have e2 := h2.run s.env s.holds
  simp [results, hr] at e1 e2 ⊢
  cases x <;> cases y <;> simp_all
theorem ret_3 {fn : Func} {R : Ending → World → Prop} {x y z : ResultVar} {v u t : Value} (hr : fn.results = #[x, y, z]) (h1 : ResV P σ H x v) (h2 : ResV P σ H y u) (h3 : ResV P σ H z t) (h : ∀ w, Holds B H w → R (.returned (.tuple #[v, u, t])) w) : GO B n [] σ H (fnX P fn R).ret := fun a w s => by
  refine ⟨s.defers, .tuple #[v, u, t], ?_, h w s.holds⟩
  have e1 := h1.run s.env s.holds
  have e2 := h2.run s.env s.holds
  have e3 := h3.run s.env s.holds
  simp [results, hr] at e1 e2 e3 ⊢
  cases x <;> cases y <;> cases z <;> simp_all
end
end Go.Proofs.YtbfheafpecgphaaGreat
