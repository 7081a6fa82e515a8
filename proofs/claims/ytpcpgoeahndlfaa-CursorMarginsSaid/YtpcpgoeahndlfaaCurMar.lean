/- The law's walk: CursorMargins. -/
import Derived.Test.YtpcpgoeahndlfaaCurT
import Derived.Test.YtpcpgoeahndlfaaTabM
import Derived.Test.YtpcpgoeahndlfaaHand2
import Derived.Deep.CutRange
namespace Go.Proofs.Ytpcpgoeahndlfaa.Cur
open Go.RowKit
attribute [local go_sem] Nat.add_assoc Nat.add_pos_iff_pos_or_pos lt_add_r

set_option maxHeartbeats 1000000 in
theorem margins_insane (x y : Int) (wr og : Bool) (fg bg fl g0 g1 g2 g3 gl gr on : Int) (rH rW rT rB : Int) (A : Option Addr) (n cap : Nat) (w : World) (hb1 : rW ≤ 9223372036854775807) (hb2 : -9223372036854775808 ≤ rW) (hs : csaneB x y wr og fg bg fl g0 g1 g2 g3 gl gr on rH rW rT rB = false) : Calls Try.prog 4 #[.agg #[.int .i64 x, .int .i64 y, .bool wr, .bool og, .int .i64 fg, .int .i64 bg, .int .i64 fl, .int .u8 g0, .int .u8 g1, .int .u8 g2, .int .u8 g3, .int .i64 gl, .int .i64 gr, .int .i64 on], .agg #[.int .i64 rH, .int .i64 rW, .int .i64 rT, .int .i64 rB], .slice A n cap] w fun e w' => e = .returned (.bool true) ∧ Grew w w' := by
  have HB1 := Lib.hid hb1; have HB2 := Lib.hid hb2; clear hb1 hb2
  go_enter Try.func4, Try.ntmps4
  go_wp2_with (first | (go_at_call 14; refine (awake_c _).mono ?_; rintro e w1 ⟨rfl, XA, dA, rfl⟩) | (go_at_call 15; refine (cur_c _ _ _ _ _ _ _ _ _ _ _ _ _ _ _).mono ?_; rintro e w1 ⟨rfl, XO, dO, rfl⟩) | (go_at_call 16; refine (place_c _ _ _ _ _).mono ?_; rintro e w1 ⟨rfl, XP, dP, rfl⟩) | (go_at_call 17; refine (csane_c _ _ _ _ _ _ _ _ _ _ _ _ _ _ _ _ _ _ _ HB1.out HB2.out).mono ?_; rintro e w1 ⟨rfl, X1, d1, rfl⟩))
  go_ret
  exact ⟨rfl, (Below.toGrow (by repeat (first | (with_reducible exact Below.refl _ _) | (with_reducible assumption) | (with_reducible refine Below.grow ?_ ?_ _ _) | (with_reducible refine Below.drewN' ?_ _) | (with_reducible refine Below.drew ?_) | (with_reducible refine Below.alloc ?_ ?_ _) | (with_reducible refine Below.setCell ?_ ?_ _) | omega | (focus (simp; done)) | (focus (simp; omega)))))⟩
set_option maxHeartbeats 1000000 in
theorem margins_long (x y : Int) (wr og : Bool) (fg bg fl g0 g1 g2 g3 gl gr on : Int) (rH rW rT rB : Int) (A : Option Addr) (n cap : Nat) (w : World) (hb1 : rW ≤ 9223372036854775807) (hb2 : -9223372036854775808 ≤ rW) (hs : csaneB x y wr og fg bg fl g0 g1 g2 g3 gl gr on rH rW rT rB = true) (hn : 60 < n) : Calls Try.prog 4 #[.agg #[.int .i64 x, .int .i64 y, .bool wr, .bool og, .int .i64 fg, .int .i64 bg, .int .i64 fl, .int .u8 g0, .int .u8 g1, .int .u8 g2, .int .u8 g3, .int .i64 gl, .int .i64 gr, .int .i64 on], .agg #[.int .i64 rH, .int .i64 rW, .int .i64 rT, .int .i64 rB], .slice A n cap] w fun e w' => e = .returned (.bool true) ∧ Grew w w' := by
  have HB1 := Lib.hid hb1; have HB2 := Lib.hid hb2; clear hb1 hb2
  go_enter Try.func4, Try.ntmps4
  go_wp2_with (first | (go_at_call 14; refine (awake_c _).mono ?_; rintro e w1 ⟨rfl, XA, dA, rfl⟩) | (go_at_call 15; refine (cur_c _ _ _ _ _ _ _ _ _ _ _ _ _ _ _).mono ?_; rintro e w1 ⟨rfl, XO, dO, rfl⟩) | (go_at_call 16; refine (place_c _ _ _ _ _).mono ?_; rintro e w1 ⟨rfl, XP, dP, rfl⟩) | (go_at_call 17; refine (csane_c _ _ _ _ _ _ _ _ _ _ _ _ _ _ _ _ _ _ _ HB1.out HB2.out).mono ?_; rintro e w1 ⟨rfl, X1, d1, rfl⟩))
  go_ret
  exact ⟨rfl, (Below.toGrow (by repeat (first | (with_reducible exact Below.refl _ _) | (with_reducible assumption) | (with_reducible refine Below.grow ?_ ?_ _ _) | (with_reducible refine Below.drewN' ?_ _) | (with_reducible refine Below.drew ?_) | (with_reducible refine Below.alloc ?_ ?_ _) | (with_reducible refine Below.setCell ?_ ?_ _) | omega | (focus (simp; done)) | (focus (simp; omega)))))⟩
theorem insideB_iff {y rT rB : Int} : insideB y rT rB = true ↔ rT ≤ y ∧ y < rB := by unfold insideB; simp
theorem move_facts {dy dx : Int} {x y : Int} {wr og : Bool} {fg bg fl g0 g1 g2 g3 gl gr on rH rW rT rB : Int} (hs : csaneB x y wr og fg bg fl g0 g1 g2 g3 gl gr on rH rW rT rB = true) :
    csaneB (btw (x + btw dx (-4096) 4096) 0 (rW - 1)) (moveY y dy rH rT rB) false og fg bg fl g0 g1 g2 g3 gl gr on rH rW rT rB = true ∧ (insideB y rT rB = true → insideB (moveY y dy rH rT rB) rT rB = true) ∧ (dx = 0 → btw (x + btw dx (-4096) 4096) 0 (rW - 1) = x) ∧ (insideB y rT rB = true → -7 ≤ dy → dy ≤ 7 → rT ≤ y + dy → y + dy < rB → moveY y dy rH rT rB = y + dy) := by
  have F := facts hs
  obtain ⟨a1, a2, a3, a4, a5, a6, a7, a8, a9, a10, a11, a12, a13⟩ := F
  have m1 := btw_in (v := x + btw dx (-4096) 4096) (show (0 : Int) ≤ rW - 1 by omega)
  have m2 : 0 ≤ moveY y dy rH rT rB ∧ moveY y dy rH rT rB < rH ∧ (insideB y rT rB = true → insideB (moveY y dy rH rT rB) rT rB = true) ∧ (insideB y rT rB = true → -7 ≤ dy → dy ≤ 7 → rT ≤ y + dy → y + dy < rB → moveY y dy rH rT rB = y + dy) := by
    rw [insideB_iff, insideB_iff]
    unfold moveY
    by_cases h1 : rT ≤ y
    · by_cases h2 : y < rB
      · rw [if_pos h1, if_pos h2]
        have := btw_in (v := y + btw dy (-4096) 4096) (show rT ≤ rB - 1 by omega)
        refine ⟨by omega, by omega, fun _ => by omega, fun _ k1 k2 k3 k4 => ?_⟩
        rw [btw_id (v := dy) (by omega) (by omega)]
        exact btw_id k3 (by omega)
      · rw [if_pos h1, if_neg h2]
        have := btw_in (v := y + btw dy (-4096) 4096) (show rT ≤ rH - 1 by omega)
        exact ⟨by omega, by omega, fun h => absurd h.2 h2, fun h => absurd h.2 h2⟩
    · rw [if_neg h1, if_pos (by omega)]
      have := btw_in (v := y + btw dy (-4096) 4096) (show (0 : Int) ≤ rB - 1 by omega)
      exact ⟨by omega, by omega, fun h => absurd h.1 h1, fun h => absurd h.1 h1⟩
  refine ⟨csane_mk hs ⟨a1, a2, a3, a4, a5, a6, a7, m1.1, by omega, m2.1, m2.2.1, (fun h => by cases h), (fun h => ?_)⟩, m2.2.2.1, (fun h => ?_), m2.2.2.2⟩
  · exact insideB_iff.1 (m2.2.2.1 (insideB_iff.2 (a13 h)))
  · subst h
    rw [btw_id (v := (0 : Int)) (by omega) (by omega)]
    rw [btw_id (by omega) (by omega)]
    omega
theorem Blk.facts14 {w : World} {g : Nat} {t : TypeId} {a0 a1 a2 a3 a4 a5 a6 a7 a8 a9 a10 a11 a12 a13 : Value} (h : Blk w g t #[a0, a1, a2, a3, a4, a5, a6, a7, a8, a9, a10, a11, a12, a13]) :
    w.cell? ⟨g, 0, none⟩ = some a0 ∧ w.cell? ⟨g, 1, none⟩ = some a1 ∧ w.cell? ⟨g, 2, none⟩ = some a2 ∧ w.cell? ⟨g, 3, none⟩ = some a3 ∧ w.cell? ⟨g, 4, none⟩ = some a4 ∧ w.cell? ⟨g, 5, none⟩ = some a5 ∧ w.cell? ⟨g, 6, none⟩ = some a6 ∧ w.cell? ⟨g, 7, none⟩ = some a7 ∧ w.cell? ⟨g, 8, none⟩ = some a8 ∧ w.cell? ⟨g, 9, none⟩ = some a9 ∧ w.cell? ⟨g, 10, none⟩ = some a10 ∧ w.cell? ⟨g, 11, none⟩ = some a11 ∧ w.cell? ⟨g, 12, none⟩ = some a12 ∧ w.cell? ⟨g, 13, none⟩ = some a13 ∧ (∀ i, w.frozen? ⟨g, i, none⟩ = false) ∧ g < w.heap.size :=
  ⟨h.cell 0, h.cell 1, h.cell 2, h.cell 3, h.cell 4, h.cell 5, h.cell 6, h.cell 7, h.cell 8, h.cell 9, h.cell 10, h.cell 11, h.cell 12, h.cell 13, h.frozen, h.lt⟩
theorem cell_gb {w w' : World} {g b i : Nat} (hg : w.grownBy w' (some g)) (hb : b < w.heap.size) (hne : b ≠ g) : w'.cell? ⟨b, i, none⟩ = w.cell? ⟨b, i, none⟩ := by
  unfold World.cell?
  rw [hg.block b hb (by intro e; injection e with e; exact hne e)]
end Go.Proofs.Ytpcpgoeahndlfaa.Cur
