/- lapwinglaw14.CursorMargins returns true. -/
import Derived.Test.YtpcpgoeahndlfaaCurMarB
namespace Go.Proofs.Ytpcpgoeahndlfaa.Cur
open Go.RowKit
attribute [local go_sem] Nat.add_assoc Nat.add_pos_iff_pos_or_pos lt_add_r
set_option maxRecDepth 100000 in
set_option maxHeartbeats 2000000 in
theorem margins_nil (x y : Int) (wr og : Bool) (fg bg fl g0 g1 g2 g3 gl gr on : Int) (rH rW rT rB : Int) (A : Option Addr) (cap : Nat) (w : World) (hb1 : rW ≤ 9223372036854775807) (hb2 : -9223372036854775808 ≤ rW) (hs : csaneB x y wr og fg bg fl g0 g1 g2 g3 gl gr on rH rW rT rB = true) : Calls Try.prog 4 #[.agg #[.int .i64 x, .int .i64 y, .bool wr, .bool og, .int .i64 fg, .int .i64 bg, .int .i64 fl, .int .u8 g0, .int .u8 g1, .int .u8 g2, .int .u8 g3, .int .i64 gl, .int .i64 gr, .int .i64 on], .agg #[.int .i64 rH, .int .i64 rW, .int .i64 rT, .int .i64 rB], .slice A 0 cap] w fun e w' => e = .returned (.bool true) ∧ Grew w w' := by
  have HB1 := Lib.hid hb1; have HB2 := Lib.hid hb2; clear hb1 hb2
  go_enter Try.func4, Try.ntmps4
  go_wp2_with (first | (go_at_call 14; refine (awake_c _).mono ?_; rintro e w1 ⟨rfl, XA, dA, rfl⟩) | (go_at_call 15; refine (cur_c _ _ _ _ _ _ _ _ _ _ _ _ _ _ _).mono ?_; rintro e w1 ⟨rfl, XO, dO, rfl⟩) | (go_at_call 16; refine (place_c _ _ _ _ _).mono ?_; rintro e w1 ⟨rfl, XP, dP, rfl⟩) | (go_at_call 17; refine (csane_c _ _ _ _ _ _ _ _ _ _ _ _ _ _ _ _ _ _ _ HB1.out HB2.out).mono ?_; rintro e w1 ⟨rfl, X1, d1, rfl⟩) | (go_at_call 18; (with_reducible refine (in_c _ _ _ _ _ _ _ _ _ _ _ _ _ _ _ _ _ _ _ hs).mono ?_); rintro e w1 ⟨rfl, X2, d2, rfl⟩))
  refine wp_loop_rounds 1 ?_
  rw [rounds_succ]
  go_wp2_with fail
  go_ret
  exact ⟨rfl, (Below.toGrow (by repeat (first | (with_reducible exact Below.refl _ _) | (with_reducible assumption) | (with_reducible refine Below.grow ?_ ?_ _ _) | (with_reducible refine Below.drewN' ?_ _) | (with_reducible refine Below.drew ?_) | (with_reducible refine Below.alloc ?_ ?_ _) | (with_reducible refine Below.setCell ?_ ?_ _) | omega | (focus (simp; done)) | (focus (simp; omega)))))⟩
theorem margins_law (x y : Int) (wr og : Bool) (fg bg fl g0 g1 g2 g3 gl gr on : Int) (rH rW rT rB : Int) (A : Option Addr) (n cap : Nat) (w : World) (hb1 : rW ≤ 9223372036854775807) (hb2 : -9223372036854775808 ≤ rW) (hact : 0 < n → ∃ (b o : Nat) (fA fB : Nat → Int), A = some ⟨b, o, none⟩ ∧ b < w.heap.size ∧ ∀ i, i < n → w.cell? ⟨b, o + (i * 3 + 1), none⟩ = some (.int .i64 (fA i)) ∧ w.cell? ⟨b, o + (i * 3 + 2), none⟩ = some (.int .i64 (fB i))) :
    Calls Try.prog 4 #[.agg #[.int .i64 x, .int .i64 y, .bool wr, .bool og, .int .i64 fg, .int .i64 bg, .int .i64 fl, .int .u8 g0, .int .u8 g1, .int .u8 g2, .int .u8 g3, .int .i64 gl, .int .i64 gr, .int .i64 on], .agg #[.int .i64 rH, .int .i64 rW, .int .i64 rT, .int .i64 rB], .slice A n cap] w fun e w' => e = .returned (.bool true) ∧ Grew w w' := by
  cases hs : csaneB x y wr og fg bg fl g0 g1 g2 g3 gl gr on rH rW rT rB
  · exact margins_insane x y wr og fg bg fl g0 g1 g2 g3 gl gr on rH rW rT rB A n cap w hb1 hb2 hs
  · by_cases hn : 60 < n
    · exact margins_long x y wr og fg bg fl g0 g1 g2 g3 gl gr on rH rW rT rB A n cap w hb1 hb2 hs hn
    · by_cases h0 : 0 < n
      · obtain ⟨b, o, fA, fB, rfl, hb, hc⟩ := hact h0
        exact margins_sane fA fB b o x y wr og fg bg fl g0 g1 g2 g3 gl gr on rH rW rT rB n cap w hb1 hb2 hs (by omega) hb hc
      · obtain rfl : n = 0 := by omega
        exact margins_nil x y wr og fg bg fl g0 g1 g2 g3 gl gr on rH rW rT rB A cap w hb1 hb2 hs
end Go.Proofs.Ytpcpgoeahndlfaa.Cur
