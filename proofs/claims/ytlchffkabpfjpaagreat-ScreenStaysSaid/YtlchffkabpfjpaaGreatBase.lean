/- The world behind a callee: 'w.grow X d': w with the blocks X behind its own and d draws. What the walk makes of it. -/
import Derived.Test.YtlchffkabpfjpaaGreatProg
import Derived.WalkKit
import Derived.WalkLawsBesides
import Derived.WalkSpells
import Derived.Deep.QuietTactic
import Derived.BigQuiet
import Derived.LoopN
import Derived.Lib.Hide
import Derived.Deep.RegionHeld3
import Derived.StillTailTactics
import Derived.ChangeKeysEq
namespace Go

/-- w with the blocks X behind its own, d answers drawn. -/
def World.grow (w : World) (X : Array Obj) (d : Nat) : World := { w with heap := w.heap ++ X, drawn := d }

section
variable (w : World) (X Y : Array Obj) (d e n : Nat)
@[simp, go_sem] theorem World.size_grow : (w.grow X d).heap.size = w.heap.size + X.size := by simp [World.grow]
theorem World.heap_grow (k : Nat) (h : k < w.heap.size) : (w.grow X d).heap[k]? = w.heap[k]? := by
  show (w.heap ++ X)[k]? = _
  rw [Array.getElem?_append, if_pos h]
@[go_sem] theorem World.cell?_grow (b i : Nat) (h : b < w.heap.size) : (w.grow X d).cell? ⟨b, i, none⟩ = w.cell? ⟨b, i, none⟩ := by
  unfold World.cell?
  rw [World.heap_grow w X d b h]
@[go_sem] theorem World.frozen?_grow (b i : Nat) (h : b < w.heap.size) : (w.grow X d).frozen? ⟨b, i, none⟩ = w.frozen? ⟨b, i, none⟩ := by
  unfold World.frozen?
  rw [World.heap_grow w X d b h]
@[go_sem] theorem World.setCell_grow (b i : Nat) (v : Value) (h : b < w.heap.size) : (w.grow X d).setCell ⟨b, i, none⟩ v = (w.setCell ⟨b, i, none⟩ v).grow X d := by
  unfold World.setCell World.grow
  congr 1
  apply Array.ext_getElem?
  intro k
  simp only [Array.getElem?_modify, Array.getElem?_append, Array.size_modify]
  by_cases hk : b = k
  · subst hk
    simp [h]
  · simp [hk]
@[simp, go_sem] theorem World.grow_grow : (w.grow X d).grow Y e = w.grow (X ++ Y) e := by
  simp [World.grow, Array.append_assoc]
@[simp, go_sem] theorem World.drew_grow : (w.grow X d).drew = w.grow X (d + 1) := rfl
@[simp, go_sem] theorem World.drewN_grow : (w.grow X d).drewN n = w.grow X (d + n) := rfl
@[simp, go_sem] theorem World.grow_drew : w.drew.grow X d = w.grow X d := rfl
@[simp, go_sem] theorem World.grow_drewN : (w.drewN n).grow X d = w.grow X d := rfl
@[go_sem] theorem World.alloc_drewN (o : Obj) : (w.drewN n).alloc o = (w.alloc o).drewN n := rfl
@[go_sem] theorem World.setCell_drewN (a : Addr) (v : Value) : (w.drewN n).setCell a v = (w.setCell a v).drewN n := rfl
end

theorem info_ok {P : Program} {e : TypeId} (h : (P.info? e).isSome = true) : ∃ i, P.info? e = some i := Option.isSome_iff_exists.1 h
attribute [go_sem] Op.eqItems

namespace RowKit
/-- w' is w with new blocks and draws. -/
def Grew (w w' : World) : Prop := ∃ X d, w' = w.grow X d
/-- A callee that leaves all below the first new block as it was: the world behind it. -/
theorem Below.toGrow {w w' : World} (h : Below w.heap.size w w') : Grew w w' := by
  refine ⟨w'.heap.extract w.heap.size w'.heap.size, w'.drawn, ?_⟩
  obtain ⟨ho, ht, hp, hs, hb⟩ := h
  have hh : w'.heap = w.heap ++ w'.heap.extract w.heap.size w'.heap.size := by
    apply Array.ext_getElem?
    intro k
    rw [Array.getElem?_append]
    split
    · exact hb k (by assumption)
    · rename_i hk
      rw [Array.getElem?_extract]
      by_cases hk2 : k < w'.heap.size
      · rw [if_pos (by omega)]
        congr 1
        omega
      · rw [if_neg (by omega), Array.getElem?_eq_none (by omega)]
  cases w'
  cases w
  simp only at ho ht hp hh
  subst ho ht hp
  simp only [World.grow]
  congr 1
theorem Below.grow {B : Nat} {a w : World} (h : Below B a w) (hB : B ≤ w.heap.size) (X : Array Obj) (d : Nat) : Below B a (w.grow X d) :=
  h.trans ⟨rfl, rfl, rfl, by simp, fun k hk => World.heap_grow w X d k (by omega)⟩
theorem Grew.below {w w' : World} (h : Grew w w') : Below w.heap.size w w' := by
  obtain ⟨X, d, rfl⟩ := h
  exact (Below.refl _ _).grow (Nat.le_refl _) X d
theorem Below.drewN' {B : Nat} {a w : World} (h : Below B a w) (n : Nat) : Below B a (w.drewN n) := ⟨h.os, h.tape, h.output, h.size, h.block⟩
end RowKit
theorem bcAll {P : Prop} (h : P := by (repeat (first | (with_reducible exact Below.refl _ _) | (with_reducible assumption) | (with_reducible refine Below.grow ?_ ?_ _ _) | (with_reducible refine Below.drewN' ?_ _) | (with_reducible refine Below.drew ?_) | (with_reducible refine Below.alloc ?_ ?_ _) | (with_reducible refine Below.setCell ?_ ?_ _) | omega | (focus (simp; done)) | (focus (simp; omega))))) : P := h
theorem gbAll {P : Prop} (h : P := by (repeat (first | (with_reducible exact World.grownBy.refl _ _) | (with_reducible assumption) | (with_reducible refine gb_grow ?_ _ _) | (with_reducible refine gb_drewN ?_ _) | (with_reducible refine gb_drew ?_) | (with_reducible refine gb_alloc ?_ _) | (with_reducible refine gb_setCell ?_ ?_ _) | (focus (left; rfl)) | (focus (right; simp; done)) | (focus (right; simp; omega)) | (focus (right; omega))))) : P := h
theorem ownAll {P : Prop} (h : P := by (repeat (first | (with_reducible assumption) | (with_reducible refine Own.grow ?_ _ _) | (with_reducible refine Own.drewN ?_ _) | (with_reducible refine own_drew ?_) | (with_reducible refine Own.alloc ?_ _) | (with_reducible refine Own.far' ?_ ?_ _) | (focus (simp; done)) | (focus (simp; omega))))) : P := h
end Go
