/- What the layers 8 to 13 read, as functions of a device: plain definitions. Conditions: none. -/
import Derived.Test.YtbfheafpecgphaaGreatPln
set_option linter.unusedSimpArgs false
set_option linter.unusedVariables false
set_option linter.unnecessarySimpa false
set_option linter.unusedSectionVars false
namespace Go.Proofs.YtbfheafpecgphaaGreat
open Go
/-- A root block. -/
structure Blk where
  act : Int
  used : Int
  rts : List Int
/-- Words that are words. -/
def U64 (s : Dev) : Prop := ∀ x, 0 ≤ s.now x ∧ s.now x < 18446744073709551616
theorem U64.load {s : Dev} (h : U64 s) (i : Int) : 0 ≤ s.load i ∧ s.load i < 18446744073709551616 := by
  unfold Dev.load
  split
  · exact h _
  · omega
def Dev.block (s : Dev) (c : Cfg) : Blk × Int :=
  if 1 < s.load c.active ∨ c.space < s.load (c.active + 1) then (⟨0, 0, []⟩, 10)
  else (⟨s.load c.active, s.load (c.active + 1), tab c.roots.toNat fun i => s.load (c.root i)⟩, 0)
/-- A block that may be. -/
structure BlkW (c : Cfg) (b : Blk) : Prop where
  act : 0 ≤ b.act ∧ b.act ≤ 1
  used : 0 ≤ b.used ∧ b.used ≤ c.space
theorem block_w {s : Dev} {c : Cfg} (hc : CfgW c) (hu : U64 s) : BlkW c (s.block c).1 := by
  have h1 := hu.load c.active
  have h2 := hu.load (c.active + 1)
  have := hc.s1
  unfold Dev.block
  split
  · exact ⟨⟨by decide, by decide⟩, ⟨by decide, by show (0 : Int) ≤ c.space; omega⟩⟩
  · rename_i h
    exact ⟨⟨by simp only; omega, by simp only; omega⟩, ⟨by simp only; omega, by simp only; omega⟩⟩
def Blk.place (b : Blk) (c : Cfg) (i : Int) : Int := c.frm b.act + i
def Blk.has (b : Blk) (c : Cfg) (w : Int) : Bool := decide (c.frm b.act ≤ w) && decide (w - c.frm b.act < b.used)
/-- An object: words, names, where. -/
abbrev Obj3 := Int × Int × Int
def Dev.objOf (s : Dev) (c : Cfg) (b : Blk) (at_ : Int) : Obj3 × Int :=
  if at_ < 0 ∨ b.has c at_ = false then ((0, 0, 0), 6)
  else if (unp (s.load at_)).2.2 = false ∨ b.place c b.used - at_ < (unp (s.load at_)).1 + 1 then ((0, 0, 0), 8)
  else (((unp (s.load at_)).1, (unp (s.load at_)).2.1, at_), 0)
def objField (o : Obj3) (i : Int) (ref : Bool) : Int × Int :=
  if i < 0 ∨ o.1 ≤ i then (0, 1) else if decide (i < o.2.1) ≠ ref then (0, 5) else (o.2.2 + 1 + i, 0)
def Dev.objRead (s : Dev) (o : Obj3) (i : Int) : Int × Int := if (objField o i false).2 ≠ 0 then (0, (objField o i false).2) else (s.load (objField o i false).1, 0)
def Dev.objRef (s : Dev) (o : Obj3) (i : Int) : Int × Int := if (objField o i true).2 ≠ 0 then (0, (objField o i true).2) else (IntKind.i64.wrap (s.load (objField o i true).1), 0)
/-- What an object names, field by field, from k on. -/
def Dev.objNames (s : Dev) (o : Obj3) : Nat → Int → List (Int × Int)
  | 0, _ => []
  | f + 1, k => if IntKind.i64.wrap (s.load (o.2.2 + 1 + k)) ≠ 0 then (k, IntKind.i64.wrap (s.load (o.2.2 + 1 + k))) :: s.objNames o f (k + 1) else s.objNames o f (k + 1)
/-- Objects, one behind the other, each with its error. -/
def Dev.objs (s : Dev) (c : Cfg) (b : Blk) : Nat → Int → List (Obj3 × Int)
  | 0, _ => []
  | f + 1, at_ => if b.place c b.used ≤ at_ then [] else
    if (s.objOf c b at_).2 ≠ 0 then [((0, 0, at_), (s.objOf c b at_).2)]
    else s.objOf c b at_ :: s.objs c b f (at_ + ((s.objOf c b at_).1.1 + 1))
theorem frm_b {c : Cfg} (hc : CfgW c) {k : Int} (hk : 0 ≤ k ∧ k ≤ 2) : 24 < c.frm k ∧ c.frm k + (2 - k) * c.space ≤ c.words ∧ c.words ≤ 20000 ∧ c.active + 2 + c.roots ≤ c.frm k ∧ c.frm k ≤ c.words := by
  have h1 := hc.act
  have h2 := words_b hc
  have := hc.r1; have := hc.r2; have := hc.l1; have := hc.l2; have := hc.s1; have := hc.s2
  have h3 := lines_b (n := c.root c.roots) (by simp only [Cfg.root]; omega)
  have h4 := lines_b (n := c.space) (by omega)
  simp only [Cfg.words, Cfg.frm, Cfg.root] at *
  rcases (by omega : k = 0 ∨ k = 1 ∨ k = 2) with rfl | rfl | rfl <;> omega
theorem bhas_b {c : Cfg} {b : Blk} (hc : CfgW c) (hb : BlkW c b) {w : Int} (h : b.has c w = true) : c.frm b.act ≤ w ∧ w < c.frm b.act + b.used ∧ w < 20000 ∧ 24 < w := by
  have h1 := hb.act
  have h2 := hb.used
  have h3 := frm_b hc (k := b.act) (by omega)
  have := hc.s1
  unfold Blk.has at h
  simp only [Bool.and_eq_true, decide_eq_true_eq] at h
  rcases (by omega : b.act = 0 ∨ b.act = 1) with e | e <;> (rw [e] at h h3 ⊢; omega)
end Go.Proofs.YtbfheafpecgphaaGreat
