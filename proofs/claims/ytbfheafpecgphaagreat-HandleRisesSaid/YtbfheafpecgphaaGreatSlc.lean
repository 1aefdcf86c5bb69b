/- A small logic of owned blocks: what each kind of operation does. Conditions: none. -/
import Derived.Test.YtbfheafpecgphaaGreatSlb
set_option linter.unusedSimpArgs false
set_option linter.unusedVariables false
set_option linter.unnecessarySimpa false
set_option linter.unusedSectionVars false
namespace Go.Proofs.YtbfheafpecgphaaGreat
open Go

section
variable {B : World} {σ : Env} {H : List HP} {P : Program} {d : Option Tmp} {ty : TypeId} {p : String} {af : Array Edge} {g : Option (Nat × Bool)}

theorem ev_move {x : Operand} {v : Value} (h : evO σ x = some v) : Evs P B σ H ⟨d, .move x, ty, p, af, g⟩ v := by
  intro a w k _; simp [execOp, k.eval h]
theorem ev_assign {x : Operand} {v : Value} (h : evO σ x = some v) : Evs P B σ H ⟨d, .assign x, ty, p, af, g⟩ v := by
  intro a w k _; simp [execOp, k.eval h]
theorem ev_pick_t {c x y : Operand} {cc : Bool} {v : Value} (hc : evO σ c = some (.bool cc)) (hcc : cc = true) (h : evO σ x = some v) : Evs P B σ H ⟨d, .pick c x y, ty, p, af, g⟩ v := by
  subst hcc; intro a w k _; simp [execOp, k.eval h, k.eval hc, asBool]
theorem ev_pick_f {c x y : Operand} {cc : Bool} {v : Value} (hc : evO σ c = some (.bool cc)) (hcc : cc = false) (h : evO σ y = some v) : Evs P B σ H ⟨d, .pick c x y, ty, p, af, g⟩ v := by
  subst hcc; intro a w k _; simp [execOp, k.eval h, k.eval hc, asBool]
theorem ev_nil {x : Operand} {q : Addr} (h : evO σ x = some (.pointer (some q))) : Evs P B σ H ⟨d, .nilCheck x, ty, p, af, g⟩ (.pointer (some q)) := by
  intro a w k _; simp [execOp, k.eval h]
theorem ev_nilf {x : Operand} {f : FuncId} {fi ca : Array Value} (h : evO σ x = some (.func (.func f) fi ca)) : Evs P B σ H ⟨d, .nilCheck x, ty, p, af, g⟩ (.func (.func f) fi ca) := by
  intro a w k _; simp [execOp, k.eval h]

theorem ev_add {k : IntKind} {x y : Operand} {i j c : Int} {t u : TypeId} (hx : evO σ x = some (.int k i)) (hy : evO σ y = some (.int k j)) (hc : k.wrap (i + j) = c) : Evs P B σ H ⟨d, .binOp .add t x y u, ty, p, af, g⟩ (.int k c) := by
  intro a w kn _; subst hc; simp only [execOp, kn.eval hx, kn.eval hy] <;> simp [binOp, Op.intArith, eqGuard, go_sem]
theorem ev_sub {k : IntKind} {x y : Operand} {i j c : Int} {t u : TypeId} (hx : evO σ x = some (.int k i)) (hy : evO σ y = some (.int k j)) (hc : k.wrap (i - j) = c) : Evs P B σ H ⟨d, .binOp .sub t x y u, ty, p, af, g⟩ (.int k c) := by
  intro a w kn _; subst hc; simp only [execOp, kn.eval hx, kn.eval hy] <;> simp [binOp, Op.intArith, eqGuard, go_sem]
theorem ev_mul {k : IntKind} {x y : Operand} {i j c : Int} {t u : TypeId} (hx : evO σ x = some (.int k i)) (hy : evO σ y = some (.int k j)) (hc : k.wrap (i * j) = c) : Evs P B σ H ⟨d, .binOp .mul t x y u, ty, p, af, g⟩ (.int k c) := by
  intro a w kn _; subst hc; simp only [execOp, kn.eval hx, kn.eval hy] <;> simp [binOp, Op.intArith, eqGuard, go_sem]
theorem ev_quo {k : IntKind} {x y : Operand} {i j c : Int} {t u : TypeId} (hx : evO σ x = some (.int k i)) (hy : evO σ y = some (.int k j)) (hj : j ≠ 0) (hc : k.wrap (i.tdiv j) = c) : Evs P B σ H ⟨d, .binOp .quo t x y u, ty, p, af, g⟩ (.int k c) := by
  intro a w kn _; subst hc; simp only [execOp, kn.eval hx, kn.eval hy] <;> simp [binOp, Op.intDiv, eqGuard, go_sem, hj]
theorem ev_rem {k : IntKind} {x y : Operand} {i j c : Int} {t u : TypeId} (hx : evO σ x = some (.int k i)) (hy : evO σ y = some (.int k j)) (hj : j ≠ 0) (hc : i.tmod j = c) : Evs P B σ H ⟨d, .binOp .rem t x y u, ty, p, af, g⟩ (.int k c) := by
  intro a w kn _; subst hc; simp only [execOp, kn.eval hx, kn.eval hy] <;> simp [binOp, Op.intDiv, eqGuard, go_sem, hj]

def cmpB : BinOp → Int → Int → Option Bool
  | .eql, x, y => some (x == y)
  | .neq, x, y => some (x != y)
  | .lss, x, y => some (decide (x < y))
  | .leq, x, y => some (decide (x ≤ y))
  | .gtr, x, y => some (decide (x > y))
  | .geq, x, y => some (decide (x ≥ y))
  | _, _, _ => none
theorem ev_cmp {op : BinOp} {k : IntKind} {x y : Operand} {i j : Int} {c : Bool} {t u : TypeId} (hx : evO σ x = some (.int k i)) (hy : evO σ y = some (.int k j)) (hc : cmpB op i j = some c) : Evs P B σ H ⟨d, .binOp op t x y u, ty, p, af, g⟩ (.bool c) := by
  intro a w kn _
  cases op <;> simp [cmpB] at hc <;> subst hc <;> simp only [execOp, kn.eval hx, kn.eval hy] <;> simp [binOp, Op.intCmp, eqGuard, go_sem]

theorem ev_shl {k yk : IntKind} {x y : Operand} {i j c : Int} {t u : TypeId} (hx : evO σ x = some (.int k i)) (hy : evO σ y = some (.int yk j)) (hj : 0 ≤ j) (hc : k.wrap (i * 2 ^ min j.toNat k.bits) = c) : Evs P B σ H ⟨d, .binOp .shl t x y u, ty, p, af, g⟩ (.int k c) := by
  intro a w kn _; subst hc; simp only [execOp, kn.eval hx, kn.eval hy] <;> simp [binOp, Op.shift, eqGuard, go_sem, Int.not_lt.2 hj]
theorem ev_shr {k yk : IntKind} {x y : Operand} {i j c : Int} {t u : TypeId} (hx : evO σ x = some (.int k i)) (hy : evO σ y = some (.int yk j)) (hj : 0 ≤ j) (hc : i.fdiv (2 ^ min j.toNat k.bits) = c) : Evs P B σ H ⟨d, .binOp .shr t x y u, ty, p, af, g⟩ (.int k c) := by
  intro a w kn _; subst hc; simp only [execOp, kn.eval hx, kn.eval hy] <;> simp [binOp, Op.shift, eqGuard, go_sem, Int.not_lt.2 hj]
def bitI (op : BinOp) (k : IntKind) (x y : Int) : Int :=
  match op with
  | .and => k.wrap (BitVec.ofInt k.bits x &&& BitVec.ofInt k.bits y).toNat
  | .or => k.wrap (BitVec.ofInt k.bits x ||| BitVec.ofInt k.bits y).toNat
  | .xor => k.wrap (BitVec.ofInt k.bits x ^^^ BitVec.ofInt k.bits y).toNat
  | _ => k.wrap (BitVec.ofInt k.bits x &&& ~~~(BitVec.ofInt k.bits y)).toNat
theorem ev_and {k : IntKind} {x y : Operand} {i j c : Int} {t u : TypeId} (hx : evO σ x = some (.int k i)) (hy : evO σ y = some (.int k j)) (hc : bitI .and k i j = c) : Evs P B σ H ⟨d, .binOp .and t x y u, ty, p, af, g⟩ (.int k c) := by
  intro a w kn _; subst hc; simp only [execOp, kn.eval hx, kn.eval hy] <;> simp [binOp, Op.intBits, eqGuard, go_sem, bitI]
theorem ev_or {k : IntKind} {x y : Operand} {i j c : Int} {t u : TypeId} (hx : evO σ x = some (.int k i)) (hy : evO σ y = some (.int k j)) (hc : bitI .or k i j = c) : Evs P B σ H ⟨d, .binOp .or t x y u, ty, p, af, g⟩ (.int k c) := by
  intro a w kn _; subst hc; simp only [execOp, kn.eval hx, kn.eval hy] <;> simp [binOp, Op.intBits, eqGuard, go_sem, bitI]
theorem ev_xor {k : IntKind} {x y : Operand} {i j c : Int} {t u : TypeId} (hx : evO σ x = some (.int k i)) (hy : evO σ y = some (.int k j)) (hc : bitI .xor k i j = c) : Evs P B σ H ⟨d, .binOp .xor t x y u, ty, p, af, g⟩ (.int k c) := by
  intro a w kn _; subst hc; simp only [execOp, kn.eval hx, kn.eval hy] <;> simp [binOp, Op.intBits, eqGuard, go_sem, bitI]
theorem ev_not {x : Operand} {c : Bool} {t : TypeId} (hx : evO σ x = some (.bool c)) : Evs P B σ H ⟨d, .unOp .not t x, ty, p, af, g⟩ (.bool !c) := by
  intro a w kn _; simp [execOp, kn.eval hx, Op.unary]
theorem ev_conv {s t : TypeId} {x : Operand} {sd : TypeDesc} {k k' : IntKind} {i c : Int} (hs : ∀ w, (underlying s).run P w = .ok sd w) (ht : ∀ w, (underlying t).run P w = .ok (.int k) w) (hx : evO σ x = some (.int k' i)) (hc : k.wrap i = c) :
    Evs P B σ H ⟨d, .convert s t x, ty, p, af, g⟩ (.int k c) := by
  intro a w kn _; subst hc; simp [execOp, kn.eval hx, convert, hs, ht, Conv.intToInt]
theorem ev_mkf {f : Fn} {fi ca : Array Operand} {fv cv : List Value} (h1 : evL σ fi.toList = some fv) (h2 : evL σ ca.toList = some cv) : Evs P B σ H ⟨d, .makeFunc f fi ca, ty, p, af, g⟩ (.func f fv.toArray cv.toArray) := by
  intro a w kn _; simp [execOp, kn.evalsA h1, kn.evalsA h2, Instr.makeFunc]
theorem ev_ext {x : Operand} {i : Nat} {vs : Array Value} {v : Value} (hx : evO σ x = some (.tuple vs)) (hv : vs[i]? = some v) : Evs P B σ H ⟨d, .extract x i, ty, p, af, g⟩ v := by
  intro a w kn _; simp [execOp, kn.eval hx, Instr.extract, hv]
theorem run_eq_bool {t : TypeId} {i j : Bool} (ht : ∀ w, (underlying t).run P w = .ok .bool w) (w : World) : (Op.equal t (.bool i) (.bool j)).run P w = .ok (i == j) w := by
  show (Op.equalIn (9999 + 1) t (.bool i) (.bool j)).run P w = _
  rw [Op.equalIn]; simp only [Sem.run_bind, ht, Result.andThen_ok]; rfl
theorem run_eq_ptr {t e : TypeId} {q : Option Addr} (ht : ∀ w, (underlying t).run P w = .ok (.pointer e) w) (w : World) : (Op.equal t (.pointer q) (.pointer none)).run P w = .ok q.isNone w := by
  show (Op.equalIn (9999 + 1) t (.pointer q) (.pointer none)).run P w = _
  rw [Op.equalIn]; simp only [Sem.run_bind, ht, Result.andThen_ok]; cases q <;> rfl
theorem ev_eqb {op : BinOp} {x y : Operand} {i j c : Bool} {t u : TypeId} (ht : ∀ w, (underlying t).run P w = .ok .bool w) (hx : evO σ x = some (.bool i)) (hy : evO σ y = some (.bool j)) (hc : (match op with | .eql => some (i == j) | .neq => some (i != j) | _ => none) = some c) :
    Evs P B σ H ⟨d, .binOp op t x y u, ty, p, af, g⟩ (.bool c) := by
  intro a w kn _
  cases op <;> simp at hc <;> subst hc <;> simp only [execOp, kn.eval hx, kn.eval hy] <;> simp [binOp, eqGuard, run_eq_bool ht] <;> cases i <;> cases j <;> rfl
/-- A pointer held against nil. -/
theorem ev_eqp {op : BinOp} {x y : Operand} {q : Option Addr} {c : Bool} {t u e : TypeId} (ht : ∀ w, (underlying t).run P w = .ok (.pointer e) w) (hx : evO σ x = some (.pointer q)) (hy : evO σ y = some (.pointer none)) (hc : (match op with | .eql => some q.isNone | .neq => some (!q.isNone) | _ => none) = some c) :
    Evs P B σ H ⟨d, .binOp op t x y u, ty, p, af, g⟩ (.bool c) := by
  intro a w kn _
  cases op <;> simp at hc <;> subst hc <;> simp only [execOp, kn.eval hx, kn.eval hy] <;> simp [binOp, eqGuard, run_eq_ptr ht]

/-- The row of block b in a list, and the list with another row there. -/
class RowU (H : List HP) (b : Nat) (cs : outParam (List Value)) (T : outParam TypeId) (U : outParam (List Value → List HP)) : Prop where
  get : ∃ i, H[i]? = some (row b cs T) ∧ ∀ cs', U cs' = H.set i (row b cs' T)
instance RowU.head {b : Nat} {cs : List Value} {T : TypeId} {l : List HP} : RowU (row b cs T :: l) b cs T (fun cs' => row b cs' T :: l) := ⟨0, rfl, fun _ => rfl⟩
instance RowU.tail {A : HP} {b : Nat} {cs : List Value} {T : TypeId} {l : List HP} {U : List Value → List HP} [r : RowU l b cs T U] : RowU (A :: l) b cs T (fun cs' => A :: U cs') :=
  ⟨let ⟨i, h1, h2⟩ := r.get; ⟨i + 1, by simpa using h1, fun cs' => by simp [h2]⟩⟩

theorem Holds.ucell {B : World} {H : List HP} {w : World} {b : Nat} {cs : List Value} {T : TypeId} {U : List Value → List HP} [r : RowU H b cs T U] (h : Holds B H w) (k : Nat) : w.cell? ⟨b, k, none⟩ = cs[k]? :=
  let ⟨i, h1, _⟩ := r.get; h.cell i h1 k
theorem run_load {b k : Nat} {cs : List Value} {T t : TypeId} {U : List Value → List HP} {v : Value} {w : World} [RowU H b cs T U] (hh : Holds B H w) (ht : ∀ w, (isAgg t).run P w = .ok false w) (hv : cs[k]? = some v) :
    (loadVar t ⟨b, k, none⟩).run P w = .ok v w := by
  have h1 := hh.ucell (b := b) k
  rw [hv] at h1
  simp [loadVar, ht, load, Sem.run, h1]
theorem ev_load {t : TypeId} {x : Operand} {b k : Nat} {cs : List Value} {T : TypeId} {U : List Value → List HP} {v : Value} (ht : ∀ w, (isAgg t).run P w = .ok false w) (hx : evO σ x = some (.pointer (some ⟨b, k, none⟩))) [RowU H b cs T U] (hv : cs[k]? = some v) :
    Evs P B σ H ⟨d, .load t x, ty, p, af, g⟩ v := by
  intro a w kn hh; simp [execOp, kn.eval hx, Instr.loadAt, Instr.sureAddr, run_load hh ht hv]
theorem run_loadCells {b k : Nat} {cs : List Value} {T : TypeId} {U : List Value → List HP} {w : World} [RowU H b cs T U] (hh : Holds B H w) : ∀ (m i : Nat) (acc : Array Value), k + i + m ≤ cs.length →
    (loadCellsFrom ⟨b, k, none⟩ i m acc).run P w = .ok (acc ++ ((cs.drop (k + i)).take m).toArray) w
  | 0, i, acc, _ => by simp [loadCellsFrom]
  | m + 1, i, acc, h => by
    have h1 := hh.ucell (b := b) (k + i)
    rw [List.getElem?_eq_getElem (by omega)] at h1
    have ha : (⟨b, k, none⟩ : Addr).add i = ⟨b, k + i, none⟩ := by
      unfold Addr.add; split
      · rename_i e; subst e; rfl
      · rfl
    simp only [loadCellsFrom, Sem.run_bind, ha]
    simp only [load, Sem.run, h1, Result.andThen_ok]
    rw [run_loadCells (b := b) hh m (i + 1) _ (by omega)]
    congr 1
    rw [List.drop_eq_getElem_cons (show k + i < cs.length by omega), List.take_succ_cons]
    simp [Nat.add_assoc]
theorem run_loadA {b k m : Nat} {cs : List Value} {T t : TypeId} {U : List Value → List HP} {w : World} [RowU H b cs T U] (hh : Holds B H w) (ht : ∀ w, (isAgg t).run P w = .ok true w) (hs : ∀ w, (sizeOf t).run P w = .ok m w) (hk : Nat.ble (k + m) cs.length = true) :
    (loadVar t ⟨b, k, none⟩).run P w = .ok (.agg ((cs.drop k).take m).toArray) w := by
  have hk' : k + m ≤ cs.length := by simpa [Nat.ble_eq] using hk
  have := run_loadCells (P := P) (b := b) (k := k) hh m 0 #[] (by omega)
  simp [loadVar, ht, hs, loadCells, this]
theorem ev_loadA {t : TypeId} {x : Operand} {b k m : Nat} {cs : List Value} {T : TypeId} {U : List Value → List HP} (ht : ∀ w, (isAgg t).run P w = .ok true w) (hs : ∀ w, (sizeOf t).run P w = .ok m w) (hx : evO σ x = some (.pointer (some ⟨b, k, none⟩))) [RowU H b cs T U] (hk : Nat.ble (k + m) cs.length = true) :
    Evs P B σ H ⟨d, .load t x, ty, p, af, g⟩ (.agg ((cs.drop k).take m).toArray) := by
  intro a w kn hh; simp [execOp, kn.eval hx, Instr.loadAt, Instr.sureAddr, run_loadA hh ht hs hk]
theorem ev_fa {s f off b k m : Nat} {x : Operand} (hf : ∀ b k w, (Instr.fieldAt s (.pointer (some ⟨b, k, none⟩)) f).run P w = .ok (.pointer (some ⟨b, k + off, none⟩)) w) (hx : evO σ x = some (.pointer (some ⟨b, k, none⟩))) (hm : k + off = m) :
    Evs P B σ H ⟨d, .fieldAddr s x f, ty, p, af, g⟩ (.pointer (some ⟨b, m, none⟩)) := by
  intro a w kn hh; subst hm; simp [execOp, kn.eval hx, hf]
/-- The state of an object of a kind, in a list, and the rest of the list. -/
class At {S : Type} (H : List HP) (q : Nat → S → HP) (b : Nat) (s : outParam S) (Fr : outParam (List HP)) : Prop where
  get : ∃ i, H[i]? = some (q b s) ∧ Fr = H.eraseIdx i
instance At.head {S : Type} {q : Nat → S → HP} {b : Nat} {s : S} {l : List HP} : At (q b s :: l) q b s l := ⟨0, rfl, rfl⟩
instance At.tail {S : Type} {A : HP} {q : Nat → S → HP} {b : Nat} {s : S} {l Fr : List HP} [r : At l q b s Fr] : At (A :: l) q b s (A :: Fr) :=
  ⟨let ⟨i, h1, h2⟩ := r.get; ⟨i + 1, by simpa using h1, by simp [h2]⟩⟩
theorem Holds.pull {S : Type} {w : World} (h : Holds B H w) (q : Nat → S → HP) (b : Nat) {s : S} {Fr : List HP} [r : At H q b s Fr] : Holds B (q b s :: Fr) w :=
  let ⟨i, h1, h2⟩ := r.get; h2 ▸ h.front i h1
theorem insert_erase {A : HP} : ∀ (l : List HP) (i : Nat), l[i]? = some A → (l.eraseIdx i).insertIdx i A = l
  | [], _, h => by simp at h
  | B :: l, 0, h => by simp at h; simp [h]
  | B :: l, i + 1, h => by simp at h; simp [insert_erase l i h]
theorem Holds.unpull {S : Type} {q : Nat → S → HP} {b : Nat} {s : S} {Fr : List HP} {w : World} [r : At H q b s Fr] (h : Holds B (q b s :: Fr) w) : Holds B H w := by
  obtain ⟨i, h1, h2⟩ := r.get
  subst h2
  have := h.back i (by have := (List.getElem?_eq_some_iff.1 h1).1; rw [List.length_eraseIdx]; split <;> omega)
  rwa [insert_erase _ _ h1] at this
theorem go_pull {n : Nat} {D : List Deferred} {K : Act → World → Prop} {S : Type} (q : Nat → S → HP) (b : Nat) {s : S} {Fr : List HP} [At H q b s Fr] (h : GO B n D σ (q b s :: Fr) K) : GO B n D σ H K :=
  go_conv (fun _ hw => hw.pull q b) h

theorem Holds.row_lt {B : World} {l : List HP} {w : World} {b : Nat} {cs : List Value} {T : TypeId} (h : Holds B l w) (i : Nat) (e : l[i]? = some (row b cs T)) : b < w.heap.size :=
  (Array.getElem?_eq_some_iff.1 (h.read i e)).1

theorem ev_build {t : TypeId} {parts : Array (Nat × Operand)} {vs : List Value} {v : Value} (hv : evL σ (parts.toList.map (·.2)) = some vs) (hb : ∀ w, (Instr.build t ((parts.toList.map (·.1)).zip vs).toArray).run P w = .ok v w) :
    Evs P B σ H ⟨d, .build t parts, ty, p, af, g⟩ v := by
  intro a w kn _
  have e : parts.map (fun (i, x) => (i, a.eval x)) = ((parts.toList.map (·.1)).zip vs).toArray := by
    have := kn.evals hv
    apply Array.ext'
    rw [← this]
    simp [List.zip_map, List.map_map]
    induction parts.toList with
    | nil => rfl
    | cons x l ih => simp [ih]
  simp only [execOp]
  rw [show (parts.map fun x => (match x with | (i, x) => (i, a.eval x) : Nat × Value)) = _ from e]
  simp [hb]

theorem agg_cells (cs : Array Value) : (Value.agg cs).cells = cs := rfl
def isIf : TypeDesc → Bool
  | .interface _ => true
  | _ => false
theorem ev_mki {t : TypeId} {x : Operand} {v : Value} {td : TypeDesc} (ht : ∀ w, (underlying t).run P w = .ok td w) (hi : isIf td = false) (hx : evO σ x = some v) : Evs P B σ H ⟨d, .makeInterface t x, ty, p, af, g⟩ (.iface t v) := by
  intro a w kn _
  cases td <;> simp [isIf] at hi <;> simp [execOp, kn.eval hx, Instr.makeInterface, ht]
theorem p_panic {n : Nat} {D : List Deferred} {ro : Cx} {K : Act → World → Prop} {X : Ext} {ops : Array Oper} {rest : List Oper} {b : Builtin} {x : Operand} {at_ : Array TypeId} {u : TypeId} {v : Value} (hb : b = .panic) (hx : evO σ x = some (.iface u v)) (hw : Wants ops σ g true)
    (k : GO B n D σ H (X.pan [{ v := .iface u v, recovered := false }])) : GO B n D σ H (lw ro P ops K X (⟨d, .call ⟨.builtin b, #[x], at_⟩, ty, p, af, g⟩ :: rest)) := by
  intro a w s
  subst hb
  show (if Region.wanted _ (yielded ops a.tmps) then _ else _)
  rw [hw.wanted (o := ⟨d, .call ⟨.builtin .panic, #[x], at_⟩, ty, p, af, g⟩) s.env, if_pos rfl]
  refine ⟨fun _ _ => trivial, ?_⟩
  rw [semAt_nd rfl]
  have : (execOp a.eval ⟨d, .call ⟨.builtin .panic, #[x], at_⟩, ty, p, af, g⟩).run P w = .halt (.panic (.iface u v)) w := by
    simp [execOp, resolve, invoke, builtin, Instr.panic, s.env.eval hx, goPanic]
  rw [this]
  exact k a w s
theorem p_panico {n : Nat} {D : List Deferred} {ro : Cx} {K : Act → World → Prop} {X : Ext} {ops : Array Oper} {rest : List Oper} {x : Operand} {u : TypeId} {v : Value} (hx : evO σ x = some (.iface u v)) (hw : Wants ops σ g true)
    (k : GO B n D σ H (X.pan [{ v := .iface u v, recovered := false }])) : GO B n D σ H (lw ro P ops K X (⟨d, .panic x, ty, p, af, g⟩ :: rest)) := by
  intro a w s
  show (if Region.wanted _ (yielded ops a.tmps) then _ else _)
  rw [hw.wanted (o := ⟨d, .panic x, ty, p, af, g⟩) s.env, if_pos rfl]
  refine ⟨fun _ _ => trivial, ?_⟩
  rw [semAt_nd rfl]
  have : (execOp a.eval ⟨d, .panic x, ty, p, af, g⟩).run P w = .halt (.panic (.iface u v)) w := by
    simp [execOp, Instr.panic, s.env.eval hx, goPanic]
  rw [this]
  exact k a w s

theorem run_eq_ifn {t : TypeId} {ms : Array (String × TypeId)} {v : Value} (ht : ∀ w, (underlying t).run P w = .ok (.interface ms) w) (hv : v = .nilIface ∨ ∃ u x, v = .iface u x) (w : World) : (Op.equal t v .nilIface).run P w = .ok (match v with | .nilIface => true | _ => false) w := by
  show (Op.equalIn (9999 + 1) t v .nilIface).run P w = _
  rw [Op.equalIn]; simp only [Sem.run_bind, ht, Result.andThen_ok]
  rcases hv with rfl | ⟨u, x, rfl⟩ <;> rfl
/-- An interface value held against nil. -/
theorem ev_neqi {x : Operand} {t u : TypeId} {ms : Array (String × TypeId)} {v : Value} (ht : ∀ w, (underlying t).run P w = .ok (.interface ms) w) (hx : evO σ x = some v) (hv : v = .nilIface ∨ ∃ u x, v = .iface u x) :
    Evs P B σ H ⟨d, .binOp .neq t x (.const .nilIface) u, ty, p, af, g⟩ (.bool (match v with | .nilIface => false | _ => true)) := by
  intro a w kn _
  have e2 : a.eval (.const .nilIface) = .nilIface := rfl
  simp only [execOp, kn.eval hx, e2]
  rcases hv with rfl | ⟨q, y, rfl⟩
  · simp [binOp, eqGuard, run_eq_ifn ht (.inl rfl)]
  · simp [binOp, eqGuard, run_eq_ifn ht (.inr ⟨_, _, rfl⟩)]
theorem ev_ta {x : Operand} {s t : TypeId} {v : Value} {td : TypeDesc} (ht : ∀ w, (underlying t).run P w = .ok td w) (hi : isIf td = false) (hx : evO σ x = some (.iface t v)) : Evs P B σ H ⟨d, .typeAssert x s t true, ty, p, af, g⟩ (.tuple #[v, .bool true]) := by
  intro a w kn _
  cases td <;> simp [isIf] at hi <;> simp [execOp, kn.eval hx, Instr.typeAssert, ht]

theorem ev_min {k : IntKind} {x y : Operand} {i j c : Int} {at_ : Array TypeId} (hx : evO σ x = some (.int k i)) (hy : evO σ y = some (.int k j)) (hc : (if j < i then j else i) = c) : Evs P B σ H ⟨d, .call ⟨.builtin .min, #[x, y], at_⟩, ty, p, af, g⟩ (.int k c) := by
  intro a w kn _
  subst hc
  simp [execOp, resolve, invoke, builtin, Builtin.min_, Builtin.min2, kn.eval hx, kn.eval hy]
theorem ev_max {k : IntKind} {x y : Operand} {i j c : Int} {at_ : Array TypeId} (hx : evO σ x = some (.int k i)) (hy : evO σ y = some (.int k j)) (hc : (if i < j then j else i) = c) : Evs P B σ H ⟨d, .call ⟨.builtin .max, #[x, y], at_⟩, ty, p, af, g⟩ (.int k c) := by
  intro a w kn _
  subst hc
  simp [execOp, resolve, invoke, builtin, Builtin.max_, Builtin.max2, kn.eval hx, kn.eval hy]

/-! ### Calls of functions -/
theorem en_f {f : FuncId} {xs : Array Operand} {vs : List Value} {at_ : Array TypeId} (hc : ∀ args w, (callFunc f args).run P w = .ok (.enter f args) w) (hv : evL σ xs.toList = some vs) :
    Ent P B σ H ⟨d, .call ⟨.value (.func f), xs, at_⟩, ty, p, af, g⟩ f vs.toArray := by
  intro a w kn _
  simp [execOp, resolve, Deferred.ofValue, invoke, Act.eval, kn.evalsA hv, hc]
theorem en_c {f : FuncId} {x : Operand} {fi ca : List Value} {xs : Array Operand} {vs : List Value} {at_ : Array TypeId} (hc : ∀ args w, (callFunc f args).run P w = .ok (.enter f args) w) (hx : evO σ x = some (.func (.func f) fi.toArray ca.toArray)) (hv : evL σ xs.toList = some vs) :
    Ent P B σ H ⟨d, .call ⟨.value x, xs, at_⟩, ty, p, af, g⟩ f (fi ++ vs ++ ca).toArray := by
  intro a w kn _
  simp [execOp, resolve, Deferred.ofValue, invoke, kn.eval hx, kn.evalsA hv, hc]

/-! ### What changes the world -/
theorem ch_alloc {t : TypeId} {z : Value} (hz : ∀ w, (zeroValue t).run P w = .ok z w) :
    Chg P B σ H ⟨d, .alloc t, ty, p, af, g⟩ (fun v H' => ∃ b, v = .pointer (some ⟨b, 0, none⟩) ∧ H' = row b z.cells.toList t :: H) := by
  intro a w _ hh
  refine ⟨.value (.pointer (some ⟨w.heap.size, 0, none⟩)), { w with heap := w.heap.push (.cells z.cells t) }, ?_, _, .inl rfl, _, ⟨_, rfl, rfl⟩, by simpa [row] using hh.new (.cells z.cells t)⟩
  simp only [execOp, Instr.alloc, Sem.run_bind, hz, Result.andThen_ok]; rfl
theorem ch_box {t : TypeId} {x : Operand} {u : Value} (hx : evO σ x = some u) :
    Chg P B σ H ⟨d, .box t x, ty, p, af, g⟩ (fun v H' => ∃ b, v = .pointer (some ⟨b, 0, none⟩) ∧ H' = row b u.cells.toList t :: H) := by
  intro a w kn hh
  refine ⟨.value (.pointer (some ⟨w.heap.size, 0, none⟩)), { w with heap := w.heap.push (.cells u.cells t) }, ?_, _, .inl rfl, _, ⟨_, rfl, rfl⟩, by simpa [row] using hh.new (.cells u.cells t)⟩
  simp only [execOp, kn.eval hx]; rfl
/-- A value of one cell. -/
def cell1 : Value → Bool
  | .agg _ => false
  | .tuple _ => false
  | _ => true
theorem cell1_cells {v : Value} (h : cell1 v = true) : v.cells = #[v] := by cases v <;> simp [cell1] at h <;> rfl
theorem run_setCell {b k : Nat} {cs : List Value} {T : TypeId} {U : List Value → List HP} {v : Value} {w : World} [r : RowU H b cs T U] (hh : Holds B H w) (hk : k < cs.length) (hv : cell1 v = true) :
    (store ⟨b, k, none⟩ v).run P w = .ok () (w.setCell ⟨b, k, none⟩ v) := by
  obtain ⟨i, hi, _⟩ := r.get
  have h1 := hh.cell i hi k
  have h2 := hh.free i hi k
  rw [List.getElem?_eq_getElem hk] at h1
  cases v <;> simp [cell1] at hv <;> simp [store, Sem.run, h1, h2]
theorem Holds.uset {b k : Nat} {cs : List Value} {T : TypeId} {U : List Value → List HP} {v : Value} {w : World} [r : RowU H b cs T U] (hh : Holds B H w) : Holds B (U (cs.set k v)) (w.setCell ⟨b, k, none⟩ v) := by
  obtain ⟨i, hi, hU⟩ := r.get
  rw [hU]; exact hh.setCell i hi k v
theorem ch_store {t : TypeId} {x y : Operand} {b k : Nat} {cs : List Value} {T : TypeId} {U : List Value → List HP} {v : Value} (ht : ∀ w, (sizeOf t).run P w = .ok 1 w) (hx : evO σ x = some (.pointer (some ⟨b, k, none⟩))) (hy : evO σ y = some v) (hv : cell1 v = true)
    [r : RowU H b cs T U] (hk : Nat.blt k cs.length = true) : Chg P B σ H ⟨d, .store t x y, ty, p, af, g⟩ (fun _ H' => H' = U (cs.set k v)) := by
  intro a w kn hh
  have hk' : k < cs.length := by simpa [Nat.blt_eq] using hk
  refine ⟨.skip, w.setCell ⟨b, k, none⟩ v, ?_, _, .inr ⟨rfl, rfl⟩, _, rfl, hh.uset⟩
  have := run_setCell (P := P) (b := b) hh hk' hv
  simp only [execOp, kn.eval hx, kn.eval hy, Instr.storeAt, Instr.sureAddr, storeVar, Sem.run_bind, Sem.run_pure, Result.andThen_ok, ht, cell1_cells hv]
  simp [storeCells, this, Addr.add]

/-- Stores cells one behind the other. -/
def setAll : List Value → Nat → List Value → List Value
  | cs, _, [] => cs
  | cs, k, v :: vs => setAll (cs.set k v) (k + 1) vs
theorem set_self {A : HP} : ∀ (l : List HP) (i : Nat), l[i]? = some A → l.set i A = l
  | [], _, h => by simp at h
  | B :: l, 0, h => by simp at h; simp [h]
  | B :: l, i + 1, h => by simp at h; simp [set_self l i h]
theorem run_storeCells {b : Nat} : ∀ (vs : List Value) (k i : Nat) {H : List HP} {cs : List Value} {T : TypeId} {U : List Value → List HP} {w : World}, (RowU H b cs T U) → Holds B H w → k + i + vs.length ≤ cs.length → (∀ v ∈ vs, cell1 v = true) →
    ∃ w', (storeCells ⟨b, k, none⟩ vs i).run P w = .ok () w' ∧ Holds B (U (setAll cs (k + i) vs)) w'
  | [], k, i, H, cs, T, U, w, r, hh, _, _ => ⟨w, by simp [storeCells], by
      obtain ⟨j, hj, hU⟩ := r.get
      have : U cs = H := by rw [hU, set_self _ _ hj]
      simpa [setAll, this] using hh⟩
  | v :: vs, k, i, H, cs, T, U, w, r, hh, hl, hv => by
    have ha : (⟨b, k, none⟩ : Addr).add i = ⟨b, k + i, none⟩ := by
      unfold Addr.add; split
      · rename_i e; subst e; rfl
      · rfl
    have h1 := run_setCell (P := P) (r := r) hh (k := k + i) (by simp at hl; omega) (hv v (by simp))
    have h2 := Holds.uset (r := r) (k := k + i) (v := v) hh
    have r2 : RowU (U (cs.set (k + i) v)) b (cs.set (k + i) v) T U := by
      obtain ⟨j, hj, hU⟩ := r.get
      refine ⟨j, ?_, fun cs' => ?_⟩
      · rw [hU, List.getElem?_set_self (List.getElem?_eq_some_iff.1 hj).1]
      · rw [hU, hU, List.set_set]
    obtain ⟨w', e, hw'⟩ := run_storeCells vs k (i + 1) r2 h2 (by simp at hl ⊢; omega) (fun v' h' => hv v' (by simp [h']))
    refine ⟨w', ?_, by simpa [setAll, Nat.add_assoc] using hw'⟩
    simp only [storeCells, Sem.run_bind, ha, h1, Result.andThen_ok, e]
theorem ch_storeA {t : TypeId} {x y : Operand} {b k m : Nat} {cs : List Value} {T : TypeId} {U : List Value → List HP} {vs : List Value} (ht : ∀ w, (sizeOf t).run P w = .ok m w) (hx : evO σ x = some (.pointer (some ⟨b, k, none⟩))) (hy : evO σ y = some (.agg vs.toArray))
    (hm : vs.length = m) (hv : vs.all cell1 = true) [r : RowU H b cs T U] (hk : Nat.ble (k + vs.length) cs.length = true) : Chg P B σ H ⟨d, .store t x y, ty, p, af, g⟩ (fun _ H' => H' = U (setAll cs k vs)) := by
  intro a w kn hh
  have hk' : k + vs.length ≤ cs.length := by simpa [Nat.ble_eq] using hk
  obtain ⟨w', e, hw'⟩ := run_storeCells (P := P) vs k 0 r hh (by simpa using hk') (fun v h => List.all_eq_true.1 hv v h)
  refine ⟨.skip, w', ?_, _, .inr ⟨rfl, rfl⟩, _, rfl, by simpa using hw'⟩
  simp only [execOp, kn.eval hx, kn.eval hy, Instr.storeAt, Instr.sureAddr, storeVar, Sem.run_bind, Sem.run_pure, Result.andThen_ok, ht, agg_cells]
  simp [hm, e]

/-! ### Functions that defer -/
def fnKD (P : Program) (fn : Func) (R : Ending → World → Prop) : Act → World → Prop := bodyPostD P fn R .normal
def fnXD (P : Program) (fn : Func) (R : Ending → World → Prop) : Ext := { ret := bodyPostD P fn R .ret, pan := fun c => bodyPostD P fn R (.panic c), ex := fun _ _ _ => False }
theorem fn_enter_d {n : Nat} {f : FuncId} {fn : Func} {c : Code} {vs : List Value} {R : Ending → World → Prop} (hf : P.funcs[f]? = some fn) (hb : fn.body = some c) (hn : fn.ntmps = n) (hl : Nat.ble vs.length n = true)
    (h : GO B n [] (argE 0 vs) H (cw ⟨none, none⟩ P c (fnKD P fn R) (fnXD P fn R))) : ∀ w, Holds B H w → Calls P f vs.toArray w R := by
  intro w hw
  refine calls_of_wp_defers hf hb ((wpIn_wide (n := 0)).1 (wpIn_mono (cw_to rfl (h _ w ⟨⟨?_, rfl, ?_⟩, hw⟩)) fun e a w q => ?_))
  · have : vs.length ≤ n := by simpa [Nat.ble_eq] using hl
    simp [hn]; omega
  · intro t v ht
    have := (look_argE vs 0 t v ht).2
    simp at this ⊢
    rw [Array.getElem?_append_left]
    · simpa using this
    · have := (List.getElem?_eq_some_iff.1 this).1; simpa using this
  · cases e <;> first | exact q | exact q.elim
theorem p_defer {n : Nat} {fo : Option FuncId} {D : List Deferred} {K : Act → World → Prop} {X : Ext} {ops : Array Oper} {rest : List Oper} {x : Operand} {xs : Array Operand} {at_ : Array TypeId} {fn : Fn} {fi ca : Array Value} {vs : List Value} (hx : evO σ x = some (.func fn fi ca)) (hv : evL σ xs.toList = some vs) (hw : Wants ops σ g true)
    (k : GO B n ({ target := .fn fn ca, args := fi ++ vs.toArray } :: D) σ H (lw ⟨none, fo⟩ P ops K X rest)) : GO B n D σ H (lw ⟨none, fo⟩ P ops K X (⟨none, .defer ⟨.value x, xs, at_⟩, ty, p, af, g⟩ :: rest)) := by
  intro a w s
  show (if Region.wanted _ (yielded ops a.tmps) then _ else _)
  rw [hw.wanted (o := ⟨none, .defer ⟨.value x, xs, at_⟩, ty, p, af, g⟩) s.env, if_pos rfl]
  refine ⟨fun _ _ => trivial, ?_⟩
  have : (Oper.semAt none a.eval ⟨none, .defer ⟨.value x, xs, at_⟩, ty, p, af, g⟩).run P w = .ok (.defer { target := .fn fn ca, args := fi ++ vs.toArray }) w := by
    simp [Oper.semAt, execOp, resolve, Deferred.ofValue, s.env.eval hx, s.env.evalsA hv]
  rw [this, Oper.uponIn_defer]
  exact k _ _ ⟨⟨s.size, by simp [Act.put, s.defers], s.env⟩, s.holds⟩

/-- The slots hold what a list says. -/
def KnA : Env → Act → Prop
  | [], _ => True
  | (t, v) :: l, a => a.tmps[t]? = some v ∧ KnA l a
theorem KnA.knows {a : Act} : ∀ {σ : Env}, KnA σ a → Knows σ a
  | [], _, _, _, h => by simp [look] at h
  | (k, u) :: l, ⟨h1, h2⟩, t, v, h => by
    simp only [look] at h
    by_cases e : k = t
    · subst e; simp at h; subst h; exact h1
    · rw [beq_no e] at h; exact KnA.knows h2 t v h
theorem wpS_go {n : Nat} {K : Act → World → Prop} {X : Ext} {c : Code} {Q : Exit → Act → List Frame → World → Prop} {a : Act} {cs : List Frame} {w : World} (hs : a.tmps.size = n) (hd : a.defers = []) (hk : KnA σ a) (hw : Holds B H w)
    (h : GO B n [] σ H (cw ⟨none, none⟩ P c K X)) (hq : ∀ e a' w', toQ K X e a' w' → Q e a' cs w') : c.wpS P Q a cs w :=
  wpS_of_wp ((wpIn_wide (n := 0)).1 (wpIn_mono (cw_to rfl (h a w ⟨⟨hs, hd, hk.knows⟩, hw⟩)) hq))
def endK (Φ : World → Prop) : Act → World → Prop := fun a w => a.defers = [] ∧ Φ w
def noX : Ext := { ret := fun _ _ => False, pan := fun _ _ _ => False, ex := fun _ _ _ => False }
theorem toQ_end {Φ : World → Prop} {e : Exit} {a : Act} {w : World} (q : toQ (endK Φ) noX e a w) : e = .normal ∧ a.defers = [] ∧ Φ w := by
  cases e <;> first | exact ⟨rfl, q⟩ | exact False.elim q
theorem go_endK {n : Nat} {Φ : World → Prop} (h : ∀ w, Holds B H w → Φ w) : GO B n [] σ H (endK Φ) := fun _ w s => ⟨s.defers, h w s.holds⟩

theorem ch_alloc1 {t : TypeId} {z : Value} (hz : ∀ w, (zeroValue t).run P w = .ok z w) (h1 : cell1 z = true) :
    Chg P B σ H ⟨d, .alloc t, ty, p, af, g⟩ (fun v H' => ∃ b, v = .pointer (some ⟨b, 0, none⟩) ∧ H' = row b [z] t :: H) := by
  have := ch_alloc (B := B) (σ := σ) (H := H) (d := d) (ty := ty) (p := p) (af := af) (g := g) hz
  simpa only [cell1_cells h1] using this
theorem ch_allocA {t : TypeId} {z : Value} {cs : List Value} (hz : ∀ w, (zeroValue t).run P w = .ok z w) (h1 : z = .agg cs.toArray) :
    Chg P B σ H ⟨d, .alloc t, ty, p, af, g⟩ (fun v H' => ∃ b, v = .pointer (some ⟨b, 0, none⟩) ∧ H' = row b cs t :: H) := by
  have := ch_alloc (B := B) (σ := σ) (H := H) (d := d) (ty := ty) (p := p) (af := af) (g := g) hz
  simpa only [h1, agg_cells] using this
theorem ch_box1 {t : TypeId} {x : Operand} {u : Value} (hx : evO σ x = some u) (h1 : cell1 u = true) :
    Chg P B σ H ⟨d, .box t x, ty, p, af, g⟩ (fun v H' => ∃ b, v = .pointer (some ⟨b, 0, none⟩) ∧ H' = row b [u] t :: H) := by
  have := ch_box (P := P) (B := B) (σ := σ) (H := H) (d := d) (ty := ty) (p := p) (af := af) (g := g) (t := t) hx
  simpa only [cell1_cells h1] using this
theorem ch_boxA {t : TypeId} {x : Operand} {cs : List Value} (hx : evO σ x = some (.agg cs.toArray)) :
    Chg P B σ H ⟨d, .box t x, ty, p, af, g⟩ (fun v H' => ∃ b, v = .pointer (some ⟨b, 0, none⟩) ∧ H' = row b cs t :: H) := by
  have := ch_box (P := P) (B := B) (σ := σ) (H := H) (d := d) (ty := ty) (p := p) (af := af) (g := g) (t := t) hx
  simpa only [agg_cells] using this

/-! ### Contracts -/
/-- The call hands back v and leaves what holds. -/
def PureR (B : World) (H : List HP) (v : Value) : Ending → World → Prop := fun e w' => e = .returned v ∧ Holds B H w'
theorem PureR.ret {v : Value} {e : Ending} {w : World} (h : PureR B H v e w) {Φ : Value → List HP → Prop} {Ψ : List PanicEntry → List HP → Prop} (f : Φ v H) : Ret B Φ Ψ e w := by
  obtain ⟨rfl, hw⟩ := h; exact ⟨H, f, hw⟩
theorem p_callq {n : Nat} {D : List Deferred} {ro : Cx} {K : Act → World → Prop} {X : Ext} {ops : Array Oper} {rest : List Oper} {o : Oper} {dd : Nat} {f : FuncId} {vs : Array Value} {v : Value} (hd : o.dst = some dd) (he : Ent P B σ H o f vs)
    (hs : ∀ w, Holds B H w → Calls P f vs w (PureR B H v)) (hw : Wants ops σ o.guard true) (hn : ndef o.op = true) (hb : Nat.blt dd n = true)
    (k : GO B n D ((dd, v) :: σ) H (lw ro P ops K X rest)) : GO B n D σ H (lw ro P ops K X (o :: rest)) :=
  p_call (Φ := fun u H' => u = v ∧ H' = H) (Ψ := fun _ _ => False) hd he (fun w hh => (hs w hh).mono fun e w' ⟨h1, h2⟩ => by subst h1; exact ⟨H, ⟨rfl, rfl⟩, h2⟩) hw hn hb
    (fun _ _ ⟨h1, h2⟩ => by subst h1; subst h2; exact k) (fun _ _ h => h.elim)
theorem ro_at {S : Type} {q : Nat → S → HP} {b : Nat} {s : S} {Fr : List HP} [At H q b s Fr] {f : FuncId} {vs : Array Value} {v : Value} (h : ∀ Fr w, Holds B (q b s :: Fr) w → Calls P f vs w (PureR B (q b s :: Fr) v)) :
    ∀ w, Holds B H w → Calls P f vs w (PureR B H v) := fun w hw => (h Fr w (hw.pull q b)).mono fun _ _ ⟨h1, h2⟩ => ⟨h1, h2.unpull⟩
theorem rw_at {S : Type} {q : Nat → S → HP} {b : Nat} {s : S} {Fr : List HP} [At H q b s Fr] {f : FuncId} {vs : Array Value} {R : List HP → Ending → World → Prop} (h : ∀ Fr w, Holds B (q b s :: Fr) w → Calls P f vs w (R Fr)) :
    ∀ w, Holds B H w → Calls P f vs w (R Fr) := fun w hw => h Fr w (hw.pull q b)

/-- The state of an object of a kind, in a list, and the list with another state there. -/
class AtU {S : Type} (H : List HP) (q : Nat → S → HP) (b : Nat) (s : outParam S) (U : outParam (S → List HP)) : Prop where
  get : ∃ i, H[i]? = some (q b s) ∧ ∀ s', U s' = H.set i (q b s')
instance AtU.head {S : Type} {q : Nat → S → HP} {b : Nat} {s : S} {l : List HP} : AtU (q b s :: l) q b s (fun s' => q b s' :: l) := ⟨0, rfl, fun _ => rfl⟩
instance AtU.tail {S : Type} {A : HP} {q : Nat → S → HP} {b : Nat} {s : S} {l : List HP} {U : S → List HP} [r : AtU l q b s U] : AtU (A :: l) q b s (fun s' => A :: U s') :=
  ⟨let ⟨i, h1, h2⟩ := r.get; ⟨i + 1, by simpa using h1, fun s' => by simp [h2]⟩⟩
theorem set_insert {A A' : HP} : ∀ (l : List HP) (i : Nat), l[i]? = some A → (l.eraseIdx i).insertIdx i A' = l.set i A'
  | [], _, h => by simp at h
  | B :: l, 0, h => by simp
  | B :: l, i + 1, h => by simp at h; simp [set_insert l i h]
theorem Holds.upd {S : Type} {q : Nat → S → HP} {b : Nat} {s : S} {U : S → List HP} (r : AtU H q b s U) : ∃ Fr, (∀ w, Holds B H w → Holds B (q b s :: Fr) w) ∧ ∀ s' w, Holds B (q b s' :: Fr) w → Holds B (U s') w := by
  obtain ⟨i, h1, h2⟩ := r.get
  refine ⟨H.eraseIdx i, fun w hw => hw.front i h1, fun s' w hw => ?_⟩
  have := hw.back i (by have := (List.getElem?_eq_some_iff.1 h1).1; rw [List.length_eraseIdx]; split <;> omega)
  rwa [h2, ← set_insert _ _ h1]
/-- A contract on one object, told in front of a list, serves wherever the object stands. -/
theorem up_at {S : Type} {q : Nat → S → HP} {b : Nat} {s : S} {U : S → List HP} [r : AtU H q b s U] {f : FuncId} {vs : Array Value} {Φ : Value → S → Prop} {Ψ : List PanicEntry → S → Prop}
    (h : ∀ Fr w, Holds B (q b s :: Fr) w → Calls P f vs w (Ret B (fun v H' => ∃ s', Φ v s' ∧ H' = q b s' :: Fr) (fun c H' => ∃ s', Ψ c s' ∧ H' = q b s' :: Fr))) :
    ∀ w, Holds B H w → Calls P f vs w (Ret B (fun v H' => ∃ s', Φ v s' ∧ H' = U s') (fun c H' => ∃ s', Ψ c s' ∧ H' = U s')) := by
  obtain ⟨Fr, h1, h2⟩ := Holds.upd (B := B) r
  refine fun w hw => (h Fr w (h1 w hw)).mono fun e w' he => ?_
  cases e with
  | returned v => obtain ⟨H', ⟨s', hs, rfl⟩, hh⟩ := he; exact ⟨_, ⟨s', hs, rfl⟩, h2 _ _ hh⟩
  | panicked v => obtain ⟨H', ⟨s', hs, rfl⟩, hh⟩ := he; exact ⟨_, ⟨s', hs, rfl⟩, h2 _ _ hh⟩
  | outgrown => exact he

/-! ### All that lay in a world -/
def old (W : World) : HP := fun h => ∀ b o, W.heap[b]? = some o → h b = some o
theorem holds_old (W : World) : Holds W [old W] W :=
  ⟨rfl, rfl, rfl, Nat.le_refl _, fun b => W.heap[b]?, fun _ => none, fun _ => .inr rfl, Subf.refl _, fun _ _ e => by simp at e, fun _ _ h => h, trivial⟩
theorem Holds.old {W w : World} (h : Holds W H w) (i : Nat) (e : H[i]? = some (Go.Proofs.YtbfheafpecgphaaGreat.old W)) : RowKit.Below W.heap.size W w := by
  refine ⟨h.os, h.tape, h.output, h.size, fun k hk => ?_⟩
  obtain ⟨h1, h2, d, s1, s2, ha, hl⟩ := sat_front i e h.sat
  have e1 : W.heap[k]? = some W.heap[k] := Array.getElem?_eq_getElem hk
  rw [e1]
  exact s1 _ _ (ha _ _ e1)
/-! ### What came in -/
/-- All that lay in B stands in the list. -/
class HasOld (H : List HP) (B : World) : Prop where
  get : ∃ i : Nat, H[i]? = some (old B)
instance HasOld.head {B : World} {l : List HP} : HasOld (old B :: l) B := ⟨0, rfl⟩
instance HasOld.tail {B : World} {A : HP} {l : List HP} [r : HasOld l B] : HasOld (A :: l) B := ⟨let ⟨i, h⟩ := r.get; ⟨i + 1, by simpa using h⟩⟩
theorem Holds.oldb {w : World} [r : HasOld H B] (h : Holds B H w) : RowKit.Below B.heap.size B w := let ⟨i, e⟩ := r.get; h.old i e
theorem Holds.oldcell {w : World} {a : Addr} {v : Value} [r : HasOld H B] (h : Holds B H w) (hv : B.cell? a = some v) : w.cell? a = some v := by
  rw [h.oldb.cell (p := a)]
  · exact hv
  · unfold World.cell? at hv
    cases e : B.heap[a.block]? with
    | none => rw [e] at hv; cases hv
    | some o => exact (Array.getElem?_eq_some_iff.1 e).1
theorem ev_loadO {t : TypeId} {x : Operand} {q : Addr} {v : Value} (ht : ∀ w, (isAgg t).run P w = .ok false w) (hx : evO σ x = some (.pointer (some q))) [HasOld H B] (hv : B.cell? q = some v) : Evs P B σ H ⟨d, .load t x, ty, p, af, g⟩ v := by
  intro a w kn hh
  have h1 := hh.oldcell hv
  simp [execOp, kn.eval hx, Instr.loadAt, Instr.sureAddr, loadVar, ht, load, Sem.run, h1]
/-- A slice that came in: its elements, so many cells each. -/
structure ArgRow (B : World) (a : Option Addr) (len sz : Nat) (z : Nat → List Value) : Prop where
  cell : ∀ i, i < len → ∃ b off, a = some ⟨b, off, none⟩ ∧ (z i).length = sz ∧ ∀ j, j < sz → B.cell? ⟨b, off + (i * sz + j), none⟩ = (z i)[j]?
theorem add_eq (b o n : Nat) : (⟨b, o, none⟩ : Addr).add n = ⟨b, o + n, none⟩ := by
  unfold Addr.add; split
  · rename_i e; rw [e]; rfl
  · rfl
theorem ev_ia {t e : TypeId} {k : IntKind} {x y : Operand} {len cap b off sz m : Nat} {i : Int} (ht : ∀ w, (underlying t).run P w = .ok (.slice e) w) (hs : ∀ w, (sizeOf e).run P w = .ok sz w) (hx : evO σ x = some (.slice (some ⟨b, off, none⟩) len cap)) (hy : evO σ y = some (.int k i))
    (h0 : 0 ≤ i) (h1 : i < len) (hm : off + i.toNat * sz = m) : Evs P B σ H ⟨d, .indexAddr t x y, ty, p, af, g⟩ (.pointer (some ⟨b, m, none⟩)) := by
  intro a w kn _
  subst hm
  simp [execOp, kn.eval hx, kn.eval hy, Instr.indexAt, asIntOf, ht, hs, h0, h1, add_eq]
theorem ev_len {t : TypeId} {td : TypeDesc} {x : Operand} {a : Option Addr} {len cap : Nat} {at_ : Array TypeId} (ha : at_[0]? = some t) (ht : ∀ w, (underlying t).run P w = .ok td w) (htd : ∃ e, td = .slice e) (hx : evO σ x = some (.slice a len cap)) :
    Evs P B σ H ⟨d, .call ⟨.builtin .len, #[x], at_⟩, ty, p, af, g⟩ (.int .i64 len) := by
  obtain ⟨e, rfl⟩ := htd
  intro q w kn _
  simp [execOp, resolve, invoke, builtin, Builtin.len_, ha, kn.eval hx, ht, goInt]

/-! ### Numbers that fit -/
/-- A row, in front. -/
class RowF (H : List HP) (b : Nat) (cs : outParam (List Value)) (T : outParam TypeId) (Fr : outParam (List HP)) : Prop where
  get : ∃ i, H[i]? = some (row b cs T) ∧ Fr = H.eraseIdx i
instance RowF.head {b : Nat} {cs : List Value} {T : TypeId} {l : List HP} : RowF (row b cs T :: l) b cs T l := ⟨0, rfl, rfl⟩
instance RowF.tail {A : HP} {b : Nat} {cs : List Value} {T : TypeId} {l Fr : List HP} [r : RowF l b cs T Fr] : RowF (A :: l) b cs T (A :: Fr) :=
  ⟨let ⟨i, h1, h2⟩ := r.get; ⟨i + 1, by simpa using h1, by simp [h2]⟩⟩
theorem Holds.pullr {w : World} (h : Holds B H w) (b : Nat) {cs : List Value} {T : TypeId} {Fr : List HP} [r : RowF H b cs T Fr] : Holds B (row b cs T :: Fr) w :=
  let ⟨i, h1, h2⟩ := r.get; h2 ▸ h.front i h1

theorem wr64 {z : Int} (h : -9223372036854775808 ≤ z ∧ z ≤ 9223372036854775807) : IntKind.i64.wrap z = z := by
  simp only [IntKind.wrap, IntKind.bits, IntKind.signed]; simp; omega
theorem wru64 {z : Int} (h : 0 ≤ z ∧ z ≤ 18446744073709551615) : IntKind.u64.wrap z = z := by
  simp only [IntKind.wrap, IntKind.bits, IntKind.signed]; simp; omega
theorem wru8 {z : Int} (h : 0 ≤ z ∧ z ≤ 255) : IntKind.u8.wrap z = z := by
  simp only [IntKind.wrap, IntKind.bits, IntKind.signed]; simp; omega

end
end Go.Proofs.YtbfheafpecgphaaGreat
