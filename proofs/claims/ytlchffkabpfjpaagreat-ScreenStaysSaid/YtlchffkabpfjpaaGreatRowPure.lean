/- Rows as plain Lean: cells, what may be, what is mended. No program in sight. -/
import Derived.Below
namespace Go.Proofs.YtlchffkabpfjpaaGreat.Row

/-- a cell: its letter, its two marks, its width, its pen -/
structure Cl where
  r : Int
  m0 : Int
  m1 : Int
  w : Int
  fg : Int
  bg : Int
  fl : Int
deriving DecidableEq

def blank (fg bg fl : Int) : Cl := ⟨0, 0, 0, 1, fg, bg, fl⟩
/-- blank by a cell's own pen -/
def Cl.bl (c : Cl) : Cl := blank c.fg c.bg c.fl
def isColourB (c : Int) : Bool := (decide (0 ≤ c) && decide (c ≤ 256)) || (decide (16777216 ≤ c) && decide (c < 33554432))
def penB (fg bg fl : Int) : Bool := isColourB fg && (isColourB bg && (decide (0 ≤ fl) && decide (fl ≤ 511)))
def fitsB (c : Cl) : Bool := decide (0 ≤ c.m0 ∧ c.m0 ≤ 1114111 ∧ (c.m0 ≠ 0 → c.r ≠ 0) ∧ 0 ≤ c.m1 ∧ c.m1 ≤ 1114111 ∧ (c.m1 ≠ 0 → c.r ≠ 0) ∧ 0 ≤ c.r ∧ c.r ≤ 1114111 ∧ (c.m0 = 0 → c.m1 = 0) ∧ penB c.fg c.bg c.fl = true ∧ (c.w = 0 ∧ c.r = 0 ∨ c.w = 1 ∨ c.w = 2 ∧ c.r ≠ 0))
def lostB (n : Nat) (f : Nat → Cl) (i : Nat) : Bool := decide ((f i).w = 0 ∧ (i = 0 ∨ (f (i - 1)).w ≠ 2) ∨ (f i).w = 2 ∧ (i + 1 = n ∨ (f (i + 1)).w ≠ 0))
def saneB (n : Nat) (f : Nat → Cl) (dir : Int) : Bool := decide (1 ≤ n ∧ n ≤ 4096 ∧ 0 ≤ dir ∧ dir ≤ 2 ∧ ∀ i, i < n → fitsB (f i) = true ∧ lostB n f i = false)
/-- cells without halves of what is gone -/
def mend (n : Nat) (f : Nat → Cl) (i : Nat) : Cl := if lostB n f i = true then (f i).bl else f i
def upd (f : Nat → Cl) (k : Nat) (c : Cl) (i : Nat) : Cl := if i = k then c else f i

theorem lost_of_sane {n : Nat} {f : Nat → Cl} {dir : Int} (h : saneB n f dir = true) {i : Nat} (hi : i < n) : lostB n f i = false := by
  unfold saneB at h
  exact ((of_decide_eq_true h).2.2.2.2 i hi).2
theorem fits_of_sane {n : Nat} {f : Nat → Cl} {dir : Int} (h : saneB n f dir = true) {i : Nat} (hi : i < n) : fitsB (f i) = true := by
  unfold saneB at h
  exact ((of_decide_eq_true h).2.2.2.2 i hi).1

/-- what stands after j steps of mending -/
def mix (n : Nat) (f : Nat → Cl) (j i : Nat) : Cl := if i < j then mend n f i else f i
theorem mix_at (n : Nat) (f : Nat → Cl) (j : Nat) : mix n f j j = f j := by unfold mix; rw [if_neg (by omega)]
theorem lost_mix {n : Nat} {f : Nat → Cl} {j : Nat} (hj : j < n) : lostB n (mix n f j) j = lostB n f j := by
  unfold lostB
  rw [mix_at]
  have e1 : mix n f j (j + 1) = f (j + 1) := by unfold mix; rw [if_neg (by omega)]
  rw [e1]
  by_cases h0 : j = 0
  · simp [h0]
  · have e2 : (mix n f j (j - 1)).w = if lostB n f (j - 1) = true then 1 else (f (j - 1)).w := by
      unfold mix mend
      rw [if_pos (by omega)]
      split <;> rfl
    rw [e2]
    unfold lostB
    rw [show j - 1 + 1 = j by omega]
    grind
/-- in w the cell c lies in block b from offset o on -/
def CellAt (w : World) (b o : Nat) (c : Cl) : Prop :=
  w.cell? ⟨b, o, none⟩ = some (.int .i64 c.r) ∧ w.cell? ⟨b, o + 1, none⟩ = some (.int .i64 c.m0) ∧ w.cell? ⟨b, o + 2, none⟩ = some (.int .i64 c.m1) ∧ w.cell? ⟨b, o + 3, none⟩ = some (.int .i64 c.w) ∧
  w.cell? ⟨b, o + 4, none⟩ = some (.int .i64 c.fg) ∧ w.cell? ⟨b, o + 5, none⟩ = some (.int .i64 c.bg) ∧ w.cell? ⟨b, o + 6, none⟩ = some (.int .i64 c.fl)
/-- a slice of n cells at A reads as f -/
def Rd (w : World) (A : Option Addr) (n : Nat) (f : Nat → Cl) : Prop :=
  0 < n → ∃ b o, A = some ⟨b, o, none⟩ ∧ b < w.heap.size ∧ ∀ i, i < n → CellAt w b (o + i * 7) (f i)
end Go.Proofs.YtlchffkabpfjpaaGreat.Row
