/- The world behind a callee: 'w.grow X d': w with the blocks X behind its own and d draws. What the walk makes of it. -/
import Derived.Test.YtlchffkabpfjpaaProg
import Derived.WalkKit
import Derived.WalkLawsBesides
import Derived.WalkSpells
import Derived.Deep.QuietTactic
import Derived.BigQuiet
import Derived.LoopN
import Derived.Lib.Hide
import Derived.Deep.RegionHeld3
import Derived.StillTailTactics
import Derived.ChangeKeysEq
namespace Go

/-- w with the blocks X behind its own, d answers drawn. -/
def World.grow (w : World) (X : Array Obj) (d : Nat) : World := { w with heap := w.heap ++ X, drawn := d }

section
variable (w : World) (X Y : Array Obj) (d e n : Nat)
@[simp, go_sem] theorem World.size_grow : (w.grow X d).heap.size = w.heap.size + X.size := by simp [World.grow]
theorem World.heap_grow (k : Nat) (h : k < w.heap.size) : (w.grow X d).heap[k]? = w.heap[k]? := by
  show (w.heap ++ X)[k]? = _
  rw [Array.getElem?_append, if_pos h]
@[go_sem] theorem World.cell?_grow (b i : Nat) (h : b < w.heap.size) : (w.grow X d).cell? ⟨b, i, none⟩ = w.cell? ⟨b, i, none⟩ := by
  unfold World.cell?
  rw [World.heap_grow w X d b h]
@[go_sem] theorem World.frozen?_grow (b i : Nat) (h : b < w.heap.size) : (w.grow X d).frozen? ⟨b, i, none⟩ = w.frozen? ⟨b, i, none⟩ := by
  unfold World.frozen?
  rw [World.heap_grow w X d b h]
@[go_sem] theorem World.setCell_grow (b i : Nat) (v : Value) (h : b < w.heap.size) : (w.grow X d).setCell ⟨b, i, none⟩ v = (w.setCell ⟨b, i, none⟩ v).grow X d := by
  unfold World.setCell World.grow
  congr 1
  apply Array.ext_getElem?
  intro k
  simp only [Array.getElem?_modify, Array.getElem?_append, Array.size_modify]
  by_cases hk : b = k
  · subst hk
    simp [h]
  · simp [hk]
@[simp, go_sem] theorem World.grow_grow : (w.grow X d).grow Y e = w.grow (X ++ Y) e := by
  simp [World.grow, Array.append_assoc]
@[simp, go_sem] theorem World.drew_grow : (w.grow X d).drew = w.grow X (d + 1) := rfl
@[simp, go_sem] theorem World.drewN_grow : (w.grow X d).drewN n = w.grow X (d + n) := rfl
@[simp, go_sem] theorem World.grow_drew : w.drew.grow X d = w.grow X d := rfl
@[simp, go_sem] theorem World.grow_drewN : (w.drewN n).grow X d = w.grow X d := rfl
@[go_sem] theorem World.alloc_drewN (o : Obj) : (w.drewN n).alloc o = (w.alloc o).drewN n := rfl
@[go_sem] theorem World.setCell_drewN (a : Addr) (v : Value) : (w.drewN n).setCell a v = (w.setCell a v).drewN n := rfl
end

/-- 'a & (2^k - 1)' on an int -/
theorem and_mask (k : Nat) (hk : k ≤ 62) (a : Int) : bits .and .i64 a ((2 ^ k - 1 : Nat) : Int) = a % ((2 ^ k : Nat) : Int) := by
  have hlt : 2 ^ k ≤ 2 ^ 62 := Nat.pow_le_pow_right (by omega) hk
  have hpos : 0 < 2 ^ k := Nat.pow_pos (by omega)
  have hd : 2 ^ k ∣ 2 ^ 64 := Nat.pow_dvd_pow 2 (by omega)
  show IntKind.i64.wrap ((BitVec.ofInt 64 a &&& BitVec.ofInt 64 ((2 ^ k - 1 : Nat) : Int)).toNat : Int) = _
  rw [BitVec.toNat_and, BitVec.ofInt_natCast, BitVec.toNat_ofNat, Nat.mod_eq_of_lt (a := 2 ^ k - 1) (by omega), Nat.and_two_pow_sub_one_eq_mod, BitVec.toNat_ofInt, IntKind.wrap_i64]
  generalize hm : 2 ^ k = m at *
  have h1 : ((a % ((2 ^ 64 : Nat) : Int)).toNat % m : Nat) = ((a % (m : Int)).toNat) := by
    have h2 : (0 : Int) ≤ a % ((2 ^ 64 : Nat) : Int) := Int.emod_nonneg _ (by omega)
    have h3 : (((a % ((2 ^ 64 : Nat) : Int)).toNat % m : Nat) : Int) = a % (m : Int) := by
      rw [Int.natCast_emod, Int.toNat_of_nonneg h2]
      exact Int.emod_emod_of_dvd a (Int.natCast_dvd_natCast.2 hd)
    omega
  rw [h1]
  have h4 : 0 ≤ a % (m : Int) := Int.emod_nonneg _ (by omega)
  have h5 : a % (m : Int) < m := Int.emod_lt_of_pos _ (by omega)
  omega

theorem info_ok {P : Program} {e : TypeId} (h : (P.info? e).isSome = true) : ∃ i, P.info? e = some i := Option.isSome_iff_exists.1 h
attribute [go_sem] Op.eqItems

namespace RowKit
/-- w' is w with new blocks and draws. -/
def Grew (w w' : World) : Prop := ∃ X d, w' = w.grow X d
/-- A callee that leaves all below the first new block as it was: the world behind it. -/
theorem Below.toGrow {w w' : World} (h : Below w.heap.size w w') : Grew w w' := by
  refine ⟨w'.heap.extract w.heap.size w'.heap.size, w'.drawn, ?_⟩
  obtain ⟨ho, ht, hp, hs, hb⟩ := h
  have hh : w'.heap = w.heap ++ w'.heap.extract w.heap.size w'.heap.size := by
    apply Array.ext_getElem?
    intro k
    rw [Array.getElem?_append]
    split
    · exact hb k (by assumption)
    · rename_i hk
      rw [Array.getElem?_extract]
      by_cases hk2 : k < w'.heap.size
      · rw [if_pos (by omega)]
        congr 1
        omega
      · rw [if_neg (by omega), Array.getElem?_eq_none (by omega)]
  cases w'
  cases w
  simp only at ho ht hp hh
  subst ho ht hp
  simp only [World.grow]
  congr 1
theorem Below.grow {B : Nat} {a w : World} (h : Below B a w) (hB : B ≤ w.heap.size) (X : Array Obj) (d : Nat) : Below B a (w.grow X d) :=
  h.trans ⟨rfl, rfl, rfl, by simp, fun k hk => World.heap_grow w X d k (by omega)⟩
theorem Grew.below {w w' : World} (h : Grew w w') : Below w.heap.size w w' := by
  obtain ⟨X, d, rfl⟩ := h
  exact (Below.refl _ _).grow (Nat.le_refl _) X d
theorem Below.drewN' {B : Nat} {a w : World} (h : Below B a w) (n : Nat) : Below B a (w.drewN n) := ⟨h.os, h.tape, h.output, h.size, h.block⟩
end RowKit
end Go
