/- Walk of lapwinglaw14.CursorMargins. -/
import Derived.Test.YtpcpgoeahndlfaaCurMar
namespace Go.Proofs.Ytpcpgoeahndlfaa.Cur
open Go.RowKit
attribute [local go_sem] Nat.add_assoc Nat.add_pos_iff_pos_or_pos lt_add_r
theorem move_there {a Y x1 y1 : Int} {wr1 og : Bool} {fg bg fl g0 g1 g2 g3 gl gr on rH rW rT rB : Int} (hs : csaneB x1 y1 wr1 og fg bg fl g0 g1 g2 g3 gl gr on rH rW rT rB = true) (ha0 : 0 ≤ a) (ha8 : a < 8) (hY : Y = y1 + a) (h1 : insideB y1 rT rB = true) (h2 : Y < rB) :
    (∀ wv, Calls Try.prog 19 #[.agg #[.int .i64 x1, .int .i64 y1, .bool wr1, .bool og, .int .i64 fg, .int .i64 bg, .int .i64 fl, .int .u8 g0, .int .u8 g1, .int .u8 g2, .int .u8 g3, .int .i64 gl, .int .i64 gr, .int .i64 on], .agg #[.int .i64 rH, .int .i64 rW, .int .i64 rT, .int .i64 rB], .int .i64 a, .int .i64 0] wv fun e w' => e = .returned (.agg #[.int .i64 x1, .int .i64 Y, .bool false, .bool og, .int .i64 fg, .int .i64 bg, .int .i64 fl, .int .u8 g0, .int .u8 g1, .int .u8 g2, .int .u8 g3, .int .i64 gl, .int .i64 gr, .int .i64 on]) ∧ Grew wv w') ∧ (∀ wv, Calls Try.prog 19 #[.agg #[.int .i64 x1, .int .i64 Y, .bool false, .bool og, .int .i64 fg, .int .i64 bg, .int .i64 fl, .int .u8 g0, .int .u8 g1, .int .u8 g2, .int .u8 g3, .int .i64 gl, .int .i64 gr, .int .i64 on], .agg #[.int .i64 rH, .int .i64 rW, .int .i64 rT, .int .i64 rB], .int .i64 (-a), .int .i64 0] wv fun e w' => e = .returned (.agg #[.int .i64 x1, .int .i64 y1, .bool false, .bool og, .int .i64 fg, .int .i64 bg, .int .i64 fl, .int .u8 g0, .int .u8 g1, .int .u8 g2, .int .u8 g3, .int .i64 gl, .int .i64 gr, .int .i64 on]) ∧ Grew wv w') := by
  obtain ⟨i1, i2⟩ := insideB_iff.1 h1
  obtain ⟨s1, s2, s3, s4⟩ := move_facts (dy := a) (dx := 0) hs
  have t3 := s3 rfl
  have t4 : moveY y1 a rH rT rB = Y := by rw [hY]; exact s4 h1 (by omega) (by omega) (by omega) (by omega)
  rw [t3, t4] at s1
  obtain ⟨-, -, u3, u4⟩ := move_facts (dy := -a) (dx := 0) s1
  have v3 := u3 rfl
  have v4 : moveY Y (-a) rH rT rB = y1 := by rw [u4 (insideB_iff.2 ⟨by omega, h2⟩) (by omega) (by omega) (by omega) (by omega), hY]; omega
  have k1 := fun wv => move_c a 0 x1 y1 wr1 og fg bg fl g0 g1 g2 g3 gl gr on rH rW rT rB wv hs
  have k2 := fun wv => move_c (-a) 0 x1 Y false og fg bg fl g0 g1 g2 g3 gl gr on rH rW rT rB wv s1
  rw [t3, t4] at k1
  rw [v3, v4] at k2
  exact ⟨k1, k2⟩
theorem gb_of_gb_below {a w w' : World} {b : Nat} (h : a.grownBy w (some b)) (k : Below w.heap.size w w') : a.grownBy w' (some b) :=
  ⟨k.os.trans h.os, k.tape.trans h.tape, k.output.trans h.output, Nat.le_trans h.size k.size, fun i hi hne => (k.block i (Nat.lt_of_lt_of_le hi h.size)).trans (h.block i hi hne)⟩
section
variable {w : World} {g : Nat} {t : TypeId} {a0 a1 a2 a3 a4 a5 a6 a7 a8 a9 a10 a11 a12 a13 b0 b1 b2 b3 b4 b5 b6 b7 b8 b9 b10 b11 b12 b13 : Value}
theorem Blk.set14 (h : Blk w g t #[a0, a1, a2, a3, a4, a5, a6, a7, a8, a9, a10, a11, a12, a13]) :
    Blk ((((((((((((((w.setCell ⟨g, 0, none⟩ b0).setCell ⟨g, 1, none⟩ b1).setCell ⟨g, 2, none⟩ b2).setCell ⟨g, 3, none⟩ b3).setCell ⟨g, 4, none⟩ b4).setCell ⟨g, 5, none⟩ b5).setCell ⟨g, 6, none⟩ b6).setCell ⟨g, 7, none⟩ b7).setCell ⟨g, 8, none⟩ b8).setCell ⟨g, 9, none⟩ b9).setCell ⟨g, 10, none⟩ b10).setCell ⟨g, 11, none⟩ b11).setCell ⟨g, 12, none⟩ b12).setCell ⟨g, 13, none⟩ b13) g t #[b0, b1, b2, b3, b4, b5, b6, b7, b8, b9, b10, b11, b12, b13] := by
  have h0 : Blk (w.setCell ⟨g, 0, none⟩ b0) g t #[b0, a1, a2, a3, a4, a5, a6, a7, a8, a9, a10, a11, a12, a13] := h.set_ 0 b0
  have h1 : Blk ((w.setCell ⟨g, 0, none⟩ b0).setCell ⟨g, 1, none⟩ b1) g t #[b0, b1, a2, a3, a4, a5, a6, a7, a8, a9, a10, a11, a12, a13] := h0.set_ 1 b1
  have h2 : Blk (((w.setCell ⟨g, 0, none⟩ b0).setCell ⟨g, 1, none⟩ b1).setCell ⟨g, 2, none⟩ b2) g t #[b0, b1, b2, a3, a4, a5, a6, a7, a8, a9, a10, a11, a12, a13] := h1.set_ 2 b2
  have h3 : Blk ((((w.setCell ⟨g, 0, none⟩ b0).setCell ⟨g, 1, none⟩ b1).setCell ⟨g, 2, none⟩ b2).setCell ⟨g, 3, none⟩ b3) g t #[b0, b1, b2, b3, a4, a5, a6, a7, a8, a9, a10, a11, a12, a13] := h2.set_ 3 b3
  have h4 : Blk (((((w.setCell ⟨g, 0, none⟩ b0).setCell ⟨g, 1, none⟩ b1).setCell ⟨g, 2, none⟩ b2).setCell ⟨g, 3, none⟩ b3).setCell ⟨g, 4, none⟩ b4) g t #[b0, b1, b2, b3, b4, a5, a6, a7, a8, a9, a10, a11, a12, a13] := h3.set_ 4 b4
  have h5 : Blk ((((((w.setCell ⟨g, 0, none⟩ b0).setCell ⟨g, 1, none⟩ b1).setCell ⟨g, 2, none⟩ b2).setCell ⟨g, 3, none⟩ b3).setCell ⟨g, 4, none⟩ b4).setCell ⟨g, 5, none⟩ b5) g t #[b0, b1, b2, b3, b4, b5, a6, a7, a8, a9, a10, a11, a12, a13] := h4.set_ 5 b5
  have h6 : Blk (((((((w.setCell ⟨g, 0, none⟩ b0).setCell ⟨g, 1, none⟩ b1).setCell ⟨g, 2, none⟩ b2).setCell ⟨g, 3, none⟩ b3).setCell ⟨g, 4, none⟩ b4).setCell ⟨g, 5, none⟩ b5).setCell ⟨g, 6, none⟩ b6) g t #[b0, b1, b2, b3, b4, b5, b6, a7, a8, a9, a10, a11, a12, a13] := h5.set_ 6 b6
  have h7 : Blk ((((((((w.setCell ⟨g, 0, none⟩ b0).setCell ⟨g, 1, none⟩ b1).setCell ⟨g, 2, none⟩ b2).setCell ⟨g, 3, none⟩ b3).setCell ⟨g, 4, none⟩ b4).setCell ⟨g, 5, none⟩ b5).setCell ⟨g, 6, none⟩ b6).setCell ⟨g, 7, none⟩ b7) g t #[b0, b1, b2, b3, b4, b5, b6, b7, a8, a9, a10, a11, a12, a13] := h6.set_ 7 b7
  have h8 : Blk (((((((((w.setCell ⟨g, 0, none⟩ b0).setCell ⟨g, 1, none⟩ b1).setCell ⟨g, 2, none⟩ b2).setCell ⟨g, 3, none⟩ b3).setCell ⟨g, 4, none⟩ b4).setCell ⟨g, 5, none⟩ b5).setCell ⟨g, 6, none⟩ b6).setCell ⟨g, 7, none⟩ b7).setCell ⟨g, 8, none⟩ b8) g t #[b0, b1, b2, b3, b4, b5, b6, b7, b8, a9, a10, a11, a12, a13] := h7.set_ 8 b8
  have h9 : Blk ((((((((((w.setCell ⟨g, 0, none⟩ b0).setCell ⟨g, 1, none⟩ b1).setCell ⟨g, 2, none⟩ b2).setCell ⟨g, 3, none⟩ b3).setCell ⟨g, 4, none⟩ b4).setCell ⟨g, 5, none⟩ b5).setCell ⟨g, 6, none⟩ b6).setCell ⟨g, 7, none⟩ b7).setCell ⟨g, 8, none⟩ b8).setCell ⟨g, 9, none⟩ b9) g t #[b0, b1, b2, b3, b4, b5, b6, b7, b8, b9, a10, a11, a12, a13] := h8.set_ 9 b9
  have h10 : Blk (((((((((((w.setCell ⟨g, 0, none⟩ b0).setCell ⟨g, 1, none⟩ b1).setCell ⟨g, 2, none⟩ b2).setCell ⟨g, 3, none⟩ b3).setCell ⟨g, 4, none⟩ b4).setCell ⟨g, 5, none⟩ b5).setCell ⟨g, 6, none⟩ b6).setCell ⟨g, 7, none⟩ b7).setCell ⟨g, 8, none⟩ b8).setCell ⟨g, 9, none⟩ b9).setCell ⟨g, 10, none⟩ b10) g t #[b0, b1, b2, b3, b4, b5, b6, b7, b8, b9, b10, a11, a12, a13] := h9.set_ 10 b10
  have h11 : Blk ((((((((((((w.setCell ⟨g, 0, none⟩ b0).setCell ⟨g, 1, none⟩ b1).setCell ⟨g, 2, none⟩ b2).setCell ⟨g, 3, none⟩ b3).setCell ⟨g, 4, none⟩ b4).setCell ⟨g, 5, none⟩ b5).setCell ⟨g, 6, none⟩ b6).setCell ⟨g, 7, none⟩ b7).setCell ⟨g, 8, none⟩ b8).setCell ⟨g, 9, none⟩ b9).setCell ⟨g, 10, none⟩ b10).setCell ⟨g, 11, none⟩ b11) g t #[b0, b1, b2, b3, b4, b5, b6, b7, b8, b9, b10, b11, a12, a13] := h10.set_ 11 b11
  have h12 : Blk (((((((((((((w.setCell ⟨g, 0, none⟩ b0).setCell ⟨g, 1, none⟩ b1).setCell ⟨g, 2, none⟩ b2).setCell ⟨g, 3, none⟩ b3).setCell ⟨g, 4, none⟩ b4).setCell ⟨g, 5, none⟩ b5).setCell ⟨g, 6, none⟩ b6).setCell ⟨g, 7, none⟩ b7).setCell ⟨g, 8, none⟩ b8).setCell ⟨g, 9, none⟩ b9).setCell ⟨g, 10, none⟩ b10).setCell ⟨g, 11, none⟩ b11).setCell ⟨g, 12, none⟩ b12) g t #[b0, b1, b2, b3, b4, b5, b6, b7, b8, b9, b10, b11, b12, a13] := h11.set_ 12 b12
  have h13 : Blk ((((((((((((((w.setCell ⟨g, 0, none⟩ b0).setCell ⟨g, 1, none⟩ b1).setCell ⟨g, 2, none⟩ b2).setCell ⟨g, 3, none⟩ b3).setCell ⟨g, 4, none⟩ b4).setCell ⟨g, 5, none⟩ b5).setCell ⟨g, 6, none⟩ b6).setCell ⟨g, 7, none⟩ b7).setCell ⟨g, 8, none⟩ b8).setCell ⟨g, 9, none⟩ b9).setCell ⟨g, 10, none⟩ b10).setCell ⟨g, 11, none⟩ b11).setCell ⟨g, 12, none⟩ b12).setCell ⟨g, 13, none⟩ b13) g t #[b0, b1, b2, b3, b4, b5, b6, b7, b8, b9, b10, b11, b12, b13] := h12.set_ 13 b13
  exact h13
theorem gb_set14 {a : World} (h : a.grownBy w (some g)) : a.grownBy ((((((((((((((w.setCell ⟨g, 0, none⟩ b0).setCell ⟨g, 1, none⟩ b1).setCell ⟨g, 2, none⟩ b2).setCell ⟨g, 3, none⟩ b3).setCell ⟨g, 4, none⟩ b4).setCell ⟨g, 5, none⟩ b5).setCell ⟨g, 6, none⟩ b6).setCell ⟨g, 7, none⟩ b7).setCell ⟨g, 8, none⟩ b8).setCell ⟨g, 9, none⟩ b9).setCell ⟨g, 10, none⟩ b10).setCell ⟨g, 11, none⟩ b11).setCell ⟨g, 12, none⟩ b12).setCell ⟨g, 13, none⟩ b13) (some g) := (gb_setCell (gb_setCell (gb_setCell (gb_setCell (gb_setCell (gb_setCell (gb_setCell (gb_setCell (gb_setCell (gb_setCell (gb_setCell (gb_setCell (gb_setCell (gb_setCell h (.inl rfl) _) (.inl rfl) _) (.inl rfl) _) (.inl rfl) _) (.inl rfl) _) (.inl rfl) _) (.inl rfl) _) (.inl rfl) _) (.inl rfl) _) (.inl rfl) _) (.inl rfl) _) (.inl rfl) _) (.inl rfl) _) (.inl rfl) _)
end
theorem Blk.drewd {w : World} {g : Nat} {t : TypeId} {cs : Array Value} (h : Blk w g t cs) : Blk w.drew g t cs := h
set_option maxRecDepth 100000 in
set_option maxHeartbeats 8000000 in
theorem margins_sane (fA fB : Nat → Int) (ab ao : Nat) (x y : Int) (wq og : Bool) (fg bg fl g0 g1 g2 g3 gl gr on : Int) (rH rW rT rB : Int) (n cap : Nat) (w : World) (hb1 : rW ≤ 9223372036854775807) (hb2 : -9223372036854775808 ≤ rW) (hs : csaneB x y wq og fg bg fl g0 g1 g2 g3 gl gr on rH rW rT rB = true) (hn : n ≤ 60) (hab : ab < w.heap.size)
    (hact : ∀ i, i < n → w.cell? ⟨ab, ao + (i * 3 + 1), none⟩ = some (.int .i64 (fA i)) ∧ w.cell? ⟨ab, ao + (i * 3 + 2), none⟩ = some (.int .i64 (fB i))) :
    Calls Try.prog 4 #[.agg #[.int .i64 x, .int .i64 y, .bool wq, .bool og, .int .i64 fg, .int .i64 bg, .int .i64 fl, .int .u8 g0, .int .u8 g1, .int .u8 g2, .int .u8 g3, .int .i64 gl, .int .i64 gr, .int .i64 on], .agg #[.int .i64 rH, .int .i64 rW, .int .i64 rT, .int .i64 rB], .slice (some ⟨ab, ao, none⟩) n cap] w fun e w' => e = .returned (.bool true) ∧ Grew w w' := by
  have HB1 := Lib.hid hb1; have HB2 := Lib.hid hb2; clear hb1 hb2
  have HACT := Lib.hid hact
  clear hact
  go_enter Try.func4, Try.ntmps4
  go_upto_region 6 with (first | (go_at_call 14; refine (awake_c _).mono ?_; rintro e w1 ⟨rfl, XA, dA, rfl⟩) | (go_at_call 15; refine (cur_c _ _ _ _ _ _ _ _ _ _ _ _ _ _ _).mono ?_; rintro e w1 ⟨rfl, XO, dO, rfl⟩) | (go_at_call 16; refine (place_c _ _ _ _ _).mono ?_; rintro e w1 ⟨rfl, XP, dP, rfl⟩) | (go_at_call 17; refine (csane_c _ _ _ _ _ _ _ _ _ _ _ _ _ _ _ _ _ _ _ HB1.out HB2.out).mono ?_; rintro e w1 ⟨rfl, X1, d1, rfl⟩))
  generalize hw8 : World.grow _ _ _ = w8
  have hb8 : Below w.heap.size w w8 := by rw [← hw8]; (repeat (first | (with_reducible exact Below.refl _ _) | (with_reducible assumption) | (with_reducible refine Below.grow ?_ ?_ _ _) | (with_reducible refine Below.drewN' ?_ _) | (with_reducible refine Below.drew ?_) | (with_reducible refine Below.alloc ?_ ?_ _) | (with_reducible refine Below.setCell ?_ ?_ _) | omega | (focus (simp; done)) | (focus (simp; omega))))
  have hP8 : Blk w8 (w.heap.size + 1) 41 #[.int .i64 rH, .int .i64 rW, .int .i64 rT, .int .i64 rB] := by rw [← hw8]; (repeat (first | (with_reducible exact Blk.new _ _ _) | (with_reducible refine Blk.new_at ?_; focus (first | (simp; done) | (simp; omega))) | (with_reducible refine Blk.grow ?_ _ _) | (with_reducible refine Blk.alloc ?_ _)))
  have hC8 : Blk w8 (w.heap.size + (2 + (XA.size + XO.size))) 45 #[.int .i64 x, .int .i64 y, .bool wq, .bool og, .int .i64 fg, .int .i64 bg, .int .i64 fl, .int .u8 g0, .int .u8 g1, .int .u8 g2, .int .u8 g3, .int .i64 gl, .int .i64 gr, .int .i64 on] := by rw [← hw8]; (repeat (first | (with_reducible exact Blk.new _ _ _) | (with_reducible refine Blk.new_at ?_; focus (first | (simp; done) | (simp; omega))) | (with_reducible refine Blk.grow ?_ _ _) | (with_reducible refine Blk.alloc ?_ _)))
  have hR8 : Blk w8 (w.heap.size + (2 + (XA.size + (XO.size + (1 + XP.size))))) 47 #[.int .i64 rH, .int .i64 rW, .int .i64 rT, .int .i64 rB] := by rw [← hw8]; (repeat (first | (with_reducible exact Blk.new _ _ _) | (with_reducible refine Blk.new_at ?_; focus (first | (simp; done) | (simp; omega))) | (with_reducible refine Blk.grow ?_ _ _) | (with_reducible refine Blk.alloc ?_ _)))
  clear hw8
  have hg98 : w.heap.size + (2 + (XA.size + (XO.size + (1 + XP.size)))) ≠ w.heap.size + (2 + (XA.size + XO.size)) := by omega
  have hg18 : w.heap.size + 1 ≠ w.heap.size + (2 + (XA.size + XO.size)) := by omega
  have hg8 : w.heap.size ≤ w.heap.size + (2 + (XA.size + XO.size)) := by omega
  generalize w.heap.size + (2 + (XA.size + (XO.size + (1 + XP.size)))) = g9 at *
  generalize w.heap.size + (2 + (XA.size + XO.size)) = g8 at *
  obtain ⟨c0, c1, c2, c3, c4, c5, c6, c7, c8, c9, c10, c11, c12, c13, cf, cl⟩ := Blk.facts14 hC8
  obtain ⟨q0, q1, q2, q3, qf, ql⟩ := hR8.facts4
  go_wp2_with (go_at_call 18; (with_reducible refine (in_c _ _ _ _ _ _ _ _ _ _ _ _ _ _ _ _ _ _ _ hs).mono ?_); rintro e w1 ⟨rfl, X2, d2, rfl⟩)
  clear c0 c1 c2 c3 c4 c5 c6 c7 c8 c9 c10 c11 c12 c13 cf cl q0 q1 q2 q3 qf ql
  have hb9 : Below w.heap.size w (w8.grow X2 d2) := by have := hb8.size; (repeat (first | (with_reducible exact Below.refl _ _) | (with_reducible assumption) | (with_reducible refine Below.grow ?_ ?_ _ _) | (with_reducible refine Below.drewN' ?_ _) | (with_reducible refine Below.drew ?_) | (with_reducible refine Below.alloc ?_ ?_ _) | (with_reducible refine Below.setCell ?_ ?_ _) | omega | (focus (simp; done)) | (focus (simp; omega))))
  have hP9 := hP8.grow X2 d2
  have hC9 := hC8.grow X2 d2
  have hR9 := hR8.grow X2 d2
  generalize w8.grow X2 d2 = w9 at *
  clear hP8 hC8 hR8 hb8
  go_loopw [10, 11] (fun v i wz => ∃ (k : Nat) (x1 y1 : Int) (wr1 : Bool), k ≤ n ∧ i = .int .i64 k ∧ v = .bool (insideB y1 rT rB) ∧ csaneB x1 y1 wr1 og fg bg fl g0 g1 g2 g3 gl gr on rH rW rT rB = true ∧ w9.grownBy wz (some g8) ∧ Blk wz g8 45 #[.int .i64 x1, .int .i64 y1, .bool wr1, .bool og, .int .i64 fg, .int .i64 bg, .int .i64 fl, .int .u8 g0, .int .u8 g1, .int .u8 g2, .int .u8 g3, .int .i64 gl, .int .i64 gr, .int .i64 on]) (fun _ i _ => n - (intOf i).toNat)
  case atStart => exact ⟨0, x, y, wq, Nat.zero_le _, rfl, rfl, hs, World.grownBy.refl _ _, hC9⟩
  case round =>
    obtain ⟨k, x1, y1, wr1, hk, rfl, rfl, hs1, hgb, hC⟩ := hrel
    have hwz := hgb.size
    have hbz := below_gb hb9 hgb hg8 hb9.size
    by_cases hlt : k < n
    · obtain ⟨A0, B0⟩ := HACT.out k hlt
      have hab9 : ab < w9.heap.size := by have := hb9.size; omega
      have a0 := ((hbz.cell (p := ⟨ab, ao + (k * 3 + 1), none⟩) hab).trans A0)
      have b0 := ((hbz.cell (p := ⟨ab, ao + (k * 3 + 2), none⟩) hab).trans B0)
      have habz : ab < wr.heap.size := by omega
      clear A0 B0
      generalize fA k = A at a0
      generalize fB k = B at b0
      have hltI : (k : Int) < (n : Int) := by omega
      have hP := hP9.gb hgb (by intro e; injection e with e; exact hg18 e)
      have hR := hR9.gb hgb (by intro e; injection e with e; exact hg98 e)
      have HP := Lib.hid hP
      have HR := Lib.hid hR
      have HC := Lib.hid hC
      have HGB := Lib.hid hgb
      have HBZ := Lib.hid hbz
      have F1 := facts hs1
      obtain ⟨e1, e2, e3, e4, e5, e6, e7, e8, e9, e10, e11, _, _⟩ := F1
      have hM0 := fun wv => move_c A B x1 y1 wr1 og fg bg fl g0 g1 g2 g3 gl gr on rH rW rT rB wv hs1
      obtain ⟨hs2, hin2, -, -⟩ := move_facts (dy := A) (dx := B) hs1
      generalize btw (x1 + btw B (-4096) 4096) 0 (rW - 1) = x2 at hM0 hs2
      generalize moveY y1 A rH rT rB = y2 at hM0 hs2 hin2
      have hI2 := fun wv => in_c x2 y2 false og fg bg fl g0 g1 g2 g3 gl gr on rH rW rT rB wv hs2
      have HIN2 := Lib.hid hin2
      have HS2 := Lib.hid hs2
      have HS1 := Lib.hid hs1
      clear hin2 hs2 hP hR hC hgb hbz
      obtain ⟨c0, c1, c2, c3, c4, c5, c6, c7, c8, c9, c10, c11, c12, c13, cf, cl⟩ := Blk.facts14 HC.out
      obtain ⟨q0, q1, q2, q3, qf, ql⟩ := HR.out.facts4
      go_upto_region 10 with fail
      go_cut [12] from 39 to 51 (fun s wc => ∃ g, s = .pointer (some ⟨g, 0, none⟩) ∧ Below wr.heap.size wr wc ∧ Blk wc g 45 #[.int .i64 x2, .int .i64 y2, .bool false, .bool og, .int .i64 fg, .int .i64 bg, .int .i64 fl, .int .u8 g0, .int .u8 g1, .int .u8 g2, .int .u8 g3, .int .i64 gl, .int .i64 gr, .int .i64 on])
      case first =>
        refine hr_start (S := (fun w' => w'.cell? ⟨g8, 0, none⟩ = some (.int .i64 x1) ∧ w'.cell? ⟨g8, 1, none⟩ = some (.int .i64 y1) ∧ w'.cell? ⟨g8, 2, none⟩ = some (.bool wr1) ∧ w'.cell? ⟨g8, 3, none⟩ = some (.bool og) ∧ w'.cell? ⟨g8, 4, none⟩ = some (.int .i64 fg) ∧ w'.cell? ⟨g8, 5, none⟩ = some (.int .i64 bg) ∧ w'.cell? ⟨g8, 6, none⟩ = some (.int .i64 fl) ∧ w'.cell? ⟨g8, 7, none⟩ = some (.int .u8 g0) ∧ w'.cell? ⟨g8, 8, none⟩ = some (.int .u8 g1) ∧ w'.cell? ⟨g8, 9, none⟩ = some (.int .u8 g2) ∧ w'.cell? ⟨g8, 10, none⟩ = some (.int .u8 g3) ∧ w'.cell? ⟨g8, 11, none⟩ = some (.int .i64 gl) ∧ w'.cell? ⟨g8, 12, none⟩ = some (.int .i64 gr) ∧ w'.cell? ⟨g8, 13, none⟩ = some (.int .i64 on) ∧ w'.cell? ⟨g9, 0, none⟩ = some (.int .i64 rH) ∧ w'.cell? ⟨g9, 1, none⟩ = some (.int .i64 rW) ∧ w'.cell? ⟨g9, 2, none⟩ = some (.int .i64 rT) ∧ w'.cell? ⟨g9, 3, none⟩ = some (.int .i64 rB) ∧ w'.cell? ⟨ab, ao + (k * 3 + 1), none⟩ = some (.int .i64 A) ∧ w'.cell? ⟨ab, ao + (k * 3 + 2), none⟩ = some (.int .i64 B))) (by kernel_rfl) rfl ?_ (fun hHeld => ?_)
        · ((try dsimp only); go_simp)
        refine hr_take (i := 0) rfl rfl (by kernel_rfl) (by kernel_rfl) (by kernel_rfl) (by kernel_rfl) (fun _ _ _ h => h) (v := ?_) ?_ (by assumption) ?_
        rotate_left
        focus (intro wS hSw; (try dsimp only at hSw); go_simp; (try with_reducible rfl))
        simp only [List.set_cons_zero, List.set_cons_succ]
        refine hr_take (i := 1) rfl rfl (by kernel_rfl) (by kernel_rfl) (by kernel_rfl) (by kernel_rfl) (fun _ _ _ h => h) (v := ?_) ?_ (by assumption) ?_
        rotate_left
        focus (intro wS hSw; (try dsimp only at hSw); go_simp; (try with_reducible rfl))
        simp only [List.set_cons_zero, List.set_cons_succ]
        refine hr_take (i := 2) rfl rfl (by kernel_rfl) (by kernel_rfl) (by kernel_rfl) (by kernel_rfl) (fun _ _ _ h => h) (v := ?_) ?_ (by assumption) ?_
        rotate_left
        focus (intro wS hSw; (try dsimp only at hSw); go_simp; (try with_reducible rfl))
        simp only [List.set_cons_zero, List.set_cons_succ]
        refine hr_take (i := 3) rfl rfl (by kernel_rfl) (by kernel_rfl) (by kernel_rfl) (by kernel_rfl) (fun _ _ _ h => h) (v := ?_) ?_ (by assumption) ?_
        rotate_left
        focus (intro wS hSw; (try dsimp only at hSw); go_simp; (try with_reducible rfl))
        simp only [List.set_cons_zero, List.set_cons_succ]
        refine hr_take (i := 4) rfl rfl (by kernel_rfl) (by kernel_rfl) (by kernel_rfl) (by kernel_rfl) (fun _ _ _ h => h) (v := ?_) ?_ (by assumption) ?_
        rotate_left
        focus (intro wS hSw; (try dsimp only at hSw); go_simp; (try with_reducible rfl))
        simp only [List.set_cons_zero, List.set_cons_succ]
        refine hr_take (i := 5) rfl rfl (by kernel_rfl) (by kernel_rfl) (by kernel_rfl) (by kernel_rfl) (fun _ _ _ h => h) (v := ?_) ?_ (by assumption) ?_
        rotate_left
        focus (intro wS hSw; (try dsimp only at hSw); go_simp; (try with_reducible rfl))
        simp only [List.set_cons_zero, List.set_cons_succ]
        refine hr_take (i := 6) rfl rfl (by kernel_rfl) (by kernel_rfl) (by kernel_rfl) (by kernel_rfl) (fun _ _ _ h => h) (v := ?_) ?_ (by assumption) ?_
        rotate_left
        focus (intro wS hSw; (try dsimp only at hSw); go_simp; (try with_reducible rfl))
        simp only [List.set_cons_zero, List.set_cons_succ]
        refine hr_take (i := 7) rfl rfl (by kernel_rfl) (by kernel_rfl) (by kernel_rfl) (by kernel_rfl) (fun _ _ _ h => h) (v := ?_) ?_ (by assumption) ?_
        rotate_left
        focus (intro wS hSw; (try dsimp only at hSw); go_simp; (try with_reducible rfl))
        simp only [List.set_cons_zero, List.set_cons_succ]
        refine hr_take (i := 8) rfl rfl (by kernel_rfl) (by kernel_rfl) (by kernel_rfl) (by kernel_rfl) (fun _ _ _ h => h) (v := ?_) ?_ (by assumption) ?_
        rotate_left
        focus (intro wS hSw; (try dsimp only at hSw); go_simp; (try with_reducible rfl))
        simp only [List.set_cons_zero, List.set_cons_succ]
        refine hr_take (i := 9) rfl rfl (by kernel_rfl) (by kernel_rfl) (by kernel_rfl) (by kernel_rfl) (fun _ _ _ h => h) (v := ?_) ?_ (by assumption) ?_
        rotate_left
        focus (intro wS hSw; (try dsimp only at hSw); go_simp; (try with_reducible rfl))
        simp only [List.set_cons_zero, List.set_cons_succ]
        refine hr_take (i := 10) rfl rfl (by kernel_rfl) (by kernel_rfl) (by kernel_rfl) (by kernel_rfl) (fun _ _ _ h => h) (v := ?_) ?_ (by assumption) ?_
        rotate_left
        focus (intro wS hSw; (try dsimp only at hSw); go_simp; (try with_reducible rfl))
        simp only [List.set_cons_zero, List.set_cons_succ]
        refine hr_take (i := 11) rfl rfl (by kernel_rfl) (by kernel_rfl) (by kernel_rfl) (by kernel_rfl) (fun _ _ _ h => h) (v := ?_) ?_ (by assumption) ?_
        rotate_left
        focus (intro wS hSw; (try dsimp only at hSw); go_simp; (try with_reducible rfl))
        simp only [List.set_cons_zero, List.set_cons_succ]
        refine hr_two (i := 12) (j := 13) rfl rfl rfl rfl (by kernel_rfl) (by kernel_rfl) (by kernel_rfl) (fun K hK => ?_) (fun K hK => ?_)
        · go_simp
          ((with_reducible refine (hM0 _).mono ?_); rintro e w1 ⟨rfl, X3, d3, rfl⟩)
          (try go_wp2_with fail)
          refine hK.out _ _ ?_ (fun hHeld => ?_)
          · ((try dsimp only); go_simp)
          clear hK K
          simp only [List.set_cons_zero, List.set_cons_succ]
          refine hr_op (i := 13) rfl rfl (by kernel_rfl) (by kernel_rfl) (fun K hK => ?_)
          go_simp
          (try go_wp2_with fail)
          refine hK.out _ _ ?_ (fun hHeld => ?_)
          · ((try dsimp only); go_simp)
          clear hK K
          simp only [List.set_cons_zero, List.set_cons_succ]
          refine hr_op0 (i := 14) rfl (by kernel_rfl) (by kernel_rfl) (fun K hK => ?_)
          go_simp
          (try go_wp2_with fail)
          refine hK.out _ ?_ (fun hHeld => ?_)
          · ((try dsimp only); go_simp)
          clear hK K
          refine hr_done (by kernel_rfl) ?_
          (go_wp2_with fail; go_meet; case rel => exact ⟨_, rfl, by (repeat (first | (with_reducible exact Below.refl _ _) | (with_reducible assumption) | (with_reducible refine Below.grow ?_ ?_ _ _) | (with_reducible refine Below.drewN' ?_ _) | (with_reducible refine Below.drew ?_) | (with_reducible refine Below.alloc ?_ ?_ _) | (with_reducible refine Below.setCell ?_ ?_ _) | omega | (focus (simp; done)) | (focus (simp; omega)))), by (repeat (first | (with_reducible exact Blk.new _ _ _) | (with_reducible refine Blk.new_at ?_; focus (first | (simp; done) | (simp; omega))) | (with_reducible refine Blk.grow ?_ _ _) | (with_reducible refine Blk.alloc ?_ _) | (with_reducible refine Blk.drewd ?_)))⟩)
        · go_simp
          (try go_wp2_with fail)
          refine hK.out _ _ ?_ (fun hHeld => ?_)
          · ((try dsimp only); go_simp)
          clear hK K
          simp only [List.set_cons_zero, List.set_cons_succ]
          refine hr_op (i := 12) rfl rfl (by kernel_rfl) (by kernel_rfl) (fun K hK => ?_)
          go_simp
          ((with_reducible refine (hM0 _).mono ?_); rintro e w1 ⟨rfl, X3, d3, rfl⟩)
          (try go_wp2_with fail)
          refine hK.out _ _ ?_ (fun hHeld => ?_)
          · ((try dsimp only); go_simp)
          clear hK K
          simp only [List.set_cons_zero, List.set_cons_succ]
          refine hr_op0 (i := 14) rfl (by kernel_rfl) (by kernel_rfl) (fun K hK => ?_)
          go_simp
          (try go_wp2_with fail)
          refine hK.out _ ?_ (fun hHeld => ?_)
          · ((try dsimp only); go_simp)
          clear hK K
          refine hr_done (by kernel_rfl) ?_
          (go_wp2_with fail; go_meet; case rel => exact ⟨_, rfl, by (repeat (first | (with_reducible exact Below.refl _ _) | (with_reducible assumption) | (with_reducible refine Below.grow ?_ ?_ _ _) | (with_reducible refine Below.drewN' ?_ _) | (with_reducible refine Below.drew ?_) | (with_reducible refine Below.alloc ?_ ?_ _) | (with_reducible refine Below.setCell ?_ ?_ _) | omega | (focus (simp; done)) | (focus (simp; omega)))), by (repeat (first | (with_reducible exact Blk.new _ _ _) | (with_reducible refine Blk.new_at ?_; focus (first | (simp; done) | (simp; omega))) | (with_reducible refine Blk.grow ?_ _ _) | (with_reducible refine Blk.alloc ?_ _) | (with_reducible refine Blk.drewd ?_)))⟩)
      case rest =>
        obtain ⟨g12, rfl, hg, hD⟩ := hcut
        have HCc := Lib.hid (HC.out.below hg HC.out.lt)
        have HRc := Lib.hid (HR.out.below hg HR.out.lt)
        have HPc := Lib.hid (HP.out.below hg HP.out.lt)
        have HDc := Lib.hid hD
        have HGc := Lib.hid (gb_of_gb_below HGB.out hg)
        have a0c := (hg.cell (p := ⟨ab, ao + (k * 3 + 1), none⟩) habz).trans a0
        have habc : ab < wc.heap.size := by have := hg.size; omega
        have hand : bits .and .i64 A 7 = A % 8 := and_mask 3 (by omega) A
        have hA0 : 0 ≤ A % 8 := by omega
        have hA8 : A % 8 < 8 := by omega
        clear c0 c1 c2 c3 c4 c5 c6 c7 c8 c9 c10 c11 c12 c13 cf cl q0 q1 q2 q3 qf ql a0 b0 habz hD hg hM0
        have HM1 : Hid (∀ Y, Y = y1 + A % 8 → insideB y1 rT rB = true → y1 + A % 8 < rB → (∀ wv, Calls Try.prog 19 #[.agg #[.int .i64 x1, .int .i64 y1, .bool wr1, .bool og, .int .i64 fg, .int .i64 bg, .int .i64 fl, .int .u8 g0, .int .u8 g1, .int .u8 g2, .int .u8 g3, .int .i64 gl, .int .i64 gr, .int .i64 on], .agg #[.int .i64 rH, .int .i64 rW, .int .i64 rT, .int .i64 rB], .int .i64 (A % 8), .int .i64 0] wv fun e w' => e = .returned (.agg #[.int .i64 x1, .int .i64 Y, .bool false, .bool og, .int .i64 fg, .int .i64 bg, .int .i64 fl, .int .u8 g0, .int .u8 g1, .int .u8 g2, .int .u8 g3, .int .i64 gl, .int .i64 gr, .int .i64 on]) ∧ Grew wv w') ∧ (∀ wv, Calls Try.prog 19 #[.agg #[.int .i64 x1, .int .i64 Y, .bool false, .bool og, .int .i64 fg, .int .i64 bg, .int .i64 fl, .int .u8 g0, .int .u8 g1, .int .u8 g2, .int .u8 g3, .int .i64 gl, .int .i64 gr, .int .i64 on], .agg #[.int .i64 rH, .int .i64 rW, .int .i64 rT, .int .i64 rB], .int .i64 (-(A % 8)), .int .i64 0] wv fun e w' => e = .returned (.agg #[.int .i64 x1, .int .i64 y1, .bool false, .bool og, .int .i64 fg, .int .i64 bg, .int .i64 fl, .int .u8 g0, .int .u8 g1, .int .u8 g2, .int .u8 g3, .int .i64 gl, .int .i64 gr, .int .i64 on]) ∧ Grew wv w')) := fun Y hY h1 h2 => move_there HS1.out hA0 hA8 hY h1 (by omega)
        obtain ⟨wy, rfl⟩ : ∃ wy : World, wy = wc := ⟨_, rfl⟩
        go_upto_region 11 with fail
        go_cut [10, 58] from 52 to 57 (fun v s wd => v = .bool (insideB y1 rT rB) ∧ s = .bool false ∧ Below wy.heap.size wy wd)
        case first =>
          rcases Bool.eq_false_or_eq_true (insideB y1 rT rB) with hib | hib
          · have hy2 := HIN2.out hib
            obtain ⟨d0, d1_, d2_, d3_, d4, d5, d6, d7, d8, d9, d10, d11, d12, d13, df, dl⟩ := Blk.facts14 HDc.out
            obtain ⟨q0, q1, q2, q3, qf, ql⟩ := HRc.out.facts4
            rw [hy2] at hI2
            go_wp2_with (go_at_call 18; (with_reducible refine (hI2 _).mono ?_); rintro e w1 ⟨rfl, X6, d6_, rfl⟩)
            go_meet
            case rel => exact ⟨by rw [hib], rfl, by (repeat (first | (with_reducible exact Below.refl _ _) | (with_reducible assumption) | (with_reducible refine Below.grow ?_ ?_ _ _) | (with_reducible refine Below.drewN' ?_ _) | (with_reducible refine Below.drew ?_) | (with_reducible refine Below.alloc ?_ ?_ _) | (with_reducible refine Below.setCell ?_ ?_ _) | omega | (focus (simp; done)) | (focus (simp; omega))))⟩
          · go_wp2_with fail
            go_meet
            case rel => exact ⟨by rw [hib], rfl, Below.refl _ _⟩
        case rest =>
          obtain ⟨rfl, rfl, hgd⟩ := hcut
          have HCd := Lib.hid (HCc.out.below hgd HCc.out.lt)
          have HRd := Lib.hid (HRc.out.below hgd HRc.out.lt)
          have HPd := Lib.hid (HPc.out.below hgd HPc.out.lt)
          have HDd := Lib.hid (HDc.out.below hgd HDc.out.lt)
          have HGd := Lib.hid (gb_of_gb_below HGc.out hgd)
          have a0d := (hgd.cell (p := ⟨ab, ao + (k * 3 + 1), none⟩) habc).trans a0c
          have habd : ab < wc.heap.size := by have := hgd.size; omega
          clear hgd a0c habc HCc HRc HPc HDc HGc
          obtain ⟨wd, rfl⟩ : ∃ wd : World, wd = wc := ⟨_, rfl⟩
          obtain ⟨c0, c1, c2, c3, c4, c5, c6, c7, c8, c9, c10, c11, c12, c13, cf, cl⟩ := Blk.facts14 HCd.out
          obtain ⟨p0, p1, p2, p3, pf, pl⟩ := HPd.out.facts4
          go_upto_region 14 with fail
          go_cut [10, 83] from 65 to 82 (fun v s we => v = .bool (insideB y1 rT rB) ∧ s = .bool (decide (insideB y1 rT rB = true ∧ y1 + A % 8 < rB)) ∧ we = wd)
          case first =>
            rcases Bool.eq_false_or_eq_true (insideB y1 rT rB) with hib | hib
            · by_cases hh : y1 + A % 8 < rB
              · have hh2 : y1 + A % 8 < rH := by omega
                go_wp2_with fail
                go_meet
                case rel => exact ⟨by rw [hib], by rw [decide_eq_true ⟨hib, hh⟩], by first | rfl | exact trivial⟩
              · by_cases hh2 : y1 + A % 8 < rH
                · go_wp2_with fail
                  go_meet
                  case rel => exact ⟨by rw [hib], by rw [decide_eq_false (fun h => by have := h.2; omega)], by first | rfl | exact trivial⟩
                · go_wp2_with fail
                  go_meet
                  case rel => exact ⟨by rw [hib], by rw [decide_eq_false (fun h => by have := h.2; omega)], by first | rfl | exact trivial⟩
            · have hd : decide (insideB y1 rT rB = true ∧ y1 + A % 8 < rB) = false := decide_eq_false (fun h => by rw [hib] at h; cases h.1)
              by_cases hh2 : y1 + A % 8 < rH
              · go_wp2_with fail
                go_meet
                case rel => exact ⟨by rw [hib], by rw [hd], by first | rfl | exact trivial⟩
              · go_wp2_with fail
                go_meet
                case rel => exact ⟨by rw [hib], by rw [hd], by first | rfl | exact trivial⟩
          case rest =>
            obtain ⟨rfl, rfl, rfl⟩ := hcut
            obtain ⟨wd, rfl⟩ : ∃ wd : World, wd = wc := ⟨_, rfl⟩
            obtain ⟨tb, htb⟩ : ∃ tb, tb = decide (insideB y1 rT rB = true ∧ y1 + A % 8 < rB) := ⟨_, rfl⟩
            rw [← htb]
            have HTB := Lib.hid htb
            clear htb p0 p1 p2 p3 pf pl
            go_upto_if 83 with fail
            go_cut [83] from 84 to 103 (fun _ we => Below wd.heap.size wd we)
            case first =>
              cases htb2 : tb
              · go_wp2_with fail
                go_meet
                case rel => exact Below.refl _ _
              · obtain ⟨hib, hh⟩ := of_decide_eq_true ((HTB.out.symm).trans htb2)
                have hh2 : y1 + A % 8 < rH := by omega
                obtain ⟨hM1, hM2⟩ := HM1.out _ rfl hib hh
                obtain ⟨q0, q1, q2, q3, qf, ql⟩ := HRd.out.facts4
                have hwn : IntKind.i64.wrap (-(A % 8)) = -(A % 8) := IntWalk.i64_in _ (by omega)
                have hbd := Below.refl wd.heap.size wd
                clear hib
                go_upto_region 15 with fail
                refine hr_start (S := (fun w' => w'.cell? ⟨g8, 0, none⟩ = some (.int .i64 x1) ∧ w'.cell? ⟨g8, 1, none⟩ = some (.int .i64 y1) ∧ w'.cell? ⟨g8, 2, none⟩ = some (.bool wr1) ∧ w'.cell? ⟨g8, 3, none⟩ = some (.bool og) ∧ w'.cell? ⟨g8, 4, none⟩ = some (.int .i64 fg) ∧ w'.cell? ⟨g8, 5, none⟩ = some (.int .i64 bg) ∧ w'.cell? ⟨g8, 6, none⟩ = some (.int .i64 fl) ∧ w'.cell? ⟨g8, 7, none⟩ = some (.int .u8 g0) ∧ w'.cell? ⟨g8, 8, none⟩ = some (.int .u8 g1) ∧ w'.cell? ⟨g8, 9, none⟩ = some (.int .u8 g2) ∧ w'.cell? ⟨g8, 10, none⟩ = some (.int .u8 g3) ∧ w'.cell? ⟨g8, 11, none⟩ = some (.int .i64 gl) ∧ w'.cell? ⟨g8, 12, none⟩ = some (.int .i64 gr) ∧ w'.cell? ⟨g8, 13, none⟩ = some (.int .i64 on) ∧ w'.cell? ⟨g9, 0, none⟩ = some (.int .i64 rH) ∧ w'.cell? ⟨g9, 1, none⟩ = some (.int .i64 rW) ∧ w'.cell? ⟨g9, 2, none⟩ = some (.int .i64 rT) ∧ w'.cell? ⟨g9, 3, none⟩ = some (.int .i64 rB))) (by kernel_rfl) rfl ?_ (fun hHeld => ?_)
                · ((try dsimp only); go_simp)
                refine hr_take (i := 0) rfl rfl (by kernel_rfl) (by kernel_rfl) (by kernel_rfl) (by kernel_rfl) (fun _ _ _ h => h) (v := ?_) ?_ (by assumption) ?_
                rotate_left
                focus (intro wS hSw; (try dsimp only at hSw); go_simp; (try with_reducible rfl))
                simp only [List.set_cons_zero, List.set_cons_succ]
                refine hr_take (i := 1) rfl rfl (by kernel_rfl) (by kernel_rfl) (by kernel_rfl) (by kernel_rfl) (fun _ _ _ h => h) (v := ?_) ?_ (by assumption) ?_
                rotate_left
                focus (intro wS hSw; (try dsimp only at hSw); go_simp; (try with_reducible rfl))
                simp only [List.set_cons_zero, List.set_cons_succ]
                refine hr_take (i := 2) rfl rfl (by kernel_rfl) (by kernel_rfl) (by kernel_rfl) (by kernel_rfl) (fun _ _ _ h => h) (v := ?_) ?_ (by assumption) ?_
                rotate_left
                focus (intro wS hSw; (try dsimp only at hSw); go_simp; (try with_reducible rfl))
                simp only [List.set_cons_zero, List.set_cons_succ]
                refine hr_take (i := 4) rfl rfl (by kernel_rfl) (by kernel_rfl) (by kernel_rfl) (by kernel_rfl) (fun _ _ _ h => h) (v := ?_) ?_ (by assumption) ?_
                rotate_left
                focus (intro wS hSw; (try dsimp only at hSw); go_simp; (try with_reducible rfl))
                simp only [List.set_cons_zero, List.set_cons_succ]
                refine hr_take (i := 5) rfl rfl (by kernel_rfl) (by kernel_rfl) (by kernel_rfl) (by kernel_rfl) (fun _ _ _ h => h) (v := ?_) ?_ (by assumption) ?_
                rotate_left
                focus (intro wS hSw; (try dsimp only at hSw); go_simp; (try with_reducible rfl))
                simp only [List.set_cons_zero, List.set_cons_succ]
                refine hr_take (i := 6) rfl rfl (by kernel_rfl) (by kernel_rfl) (by kernel_rfl) (by kernel_rfl) (fun _ _ _ h => h) (v := ?_) ?_ (by assumption) ?_
                rotate_left
                focus (intro wS hSw; (try dsimp only at hSw); go_simp; (try with_reducible rfl))
                simp only [List.set_cons_zero, List.set_cons_succ]
                refine hr_two (i := 3) (j := 8) rfl rfl rfl rfl (by kernel_rfl) (by kernel_rfl) (by kernel_rfl) (fun K hK => ?_) (fun K hK => ?_)
                · go_simp
                  ((with_reducible refine (hM1 _).mono ?_); rintro e w1 ⟨rfl, X4, d4, rfl⟩)
                  (try go_wp2_with fail)
                  refine hK.out _ _ ?_ (fun hHeld => ?_)
                  · ((try dsimp only); go_simp)
                  clear hK K
                  simp only [List.set_cons_zero, List.set_cons_succ]
                  refine hr_two (i := 7) (j := 8) rfl rfl rfl rfl (by kernel_rfl) (by kernel_rfl) (by kernel_rfl) (fun K hK => ?_) (fun K hK => ?_)
                  · go_simp
                    ((with_reducible refine (hM2 _).mono ?_); rintro e w1 ⟨rfl, X5, d5, rfl⟩)
                    (try go_wp2_with fail)
                    refine hK.out _ _ ?_ (fun hHeld => ?_)
                    · ((try dsimp only); go_simp)
                    clear hK K
                    simp only [List.set_cons_zero, List.set_cons_succ]
                    refine hr_op (i := 8) rfl rfl (by kernel_rfl) (by kernel_rfl) (fun K hK => ?_)
                    go_simp
                    (try go_wp2_with fail)
                    refine hK.out _ _ ?_ (fun hHeld => ?_)
                    · ((try dsimp only); go_simp)
                    clear hK K
                    simp only [List.set_cons_zero, List.set_cons_succ]
                    refine hr_op0 (i := 9) rfl (by kernel_rfl) (by kernel_rfl) (fun K hK => ?_)
                    go_simp
                    (try go_wp2_with fail)
                    refine hK.out _ ?_ (fun hHeld => ?_)
                    · ((try dsimp only); go_simp)
                    clear hK K
                    refine hr_done (by kernel_rfl) ?_
                    (go_wp2_with fail; go_meet; case rel => (repeat (first | (with_reducible exact Below.refl _ _) | (with_reducible assumption) | (with_reducible refine Below.grow ?_ ?_ _ _) | (with_reducible refine Below.drewN' ?_ _) | (with_reducible refine Below.drew ?_) | (with_reducible refine Below.alloc ?_ ?_ _) | (with_reducible refine Below.setCell ?_ ?_ _) | omega | (focus (simp; done)) | (focus (simp; omega)))))
                  · go_simp
                    (try go_wp2_with fail)
                    refine hK.out _ _ ?_ (fun hHeld => ?_)
                    · ((try dsimp only); go_simp)
                    clear hK K
                    simp only [List.set_cons_zero, List.set_cons_succ]
                    refine hr_op (i := 7) rfl rfl (by kernel_rfl) (by kernel_rfl) (fun K hK => ?_)
                    go_simp
                    ((with_reducible refine (hM2 _).mono ?_); rintro e w1 ⟨rfl, X5, d5, rfl⟩)
                    (try go_wp2_with fail)
                    refine hK.out _ _ ?_ (fun hHeld => ?_)
                    · ((try dsimp only); go_simp)
                    clear hK K
                    simp only [List.set_cons_zero, List.set_cons_succ]
                    refine hr_op0 (i := 9) rfl (by kernel_rfl) (by kernel_rfl) (fun K hK => ?_)
                    go_simp
                    (try go_wp2_with fail)
                    refine hK.out _ ?_ (fun hHeld => ?_)
                    · ((try dsimp only); go_simp)
                    clear hK K
                    refine hr_done (by kernel_rfl) ?_
                    (go_wp2_with fail; go_meet; case rel => (repeat (first | (with_reducible exact Below.refl _ _) | (with_reducible assumption) | (with_reducible refine Below.grow ?_ ?_ _ _) | (with_reducible refine Below.drewN' ?_ _) | (with_reducible refine Below.drew ?_) | (with_reducible refine Below.alloc ?_ ?_ _) | (with_reducible refine Below.setCell ?_ ?_ _) | omega | (focus (simp; done)) | (focus (simp; omega)))))
                · go_simp
                  (try go_wp2_with fail)
                  refine hK.out _ _ ?_ (fun hHeld => ?_)
                  · ((try dsimp only); go_simp)
                  clear hK K
                  simp only [List.set_cons_zero, List.set_cons_succ]
                  refine hr_op (i := 3) rfl rfl (by kernel_rfl) (by kernel_rfl) (fun K hK => ?_)
                  go_simp
                  ((with_reducible refine (hM1 _).mono ?_); rintro e w1 ⟨rfl, X4, d4, rfl⟩)
                  (try go_wp2_with fail)
                  refine hK.out _ _ ?_ (fun hHeld => ?_)
                  · ((try dsimp only); go_simp)
                  clear hK K
                  simp only [List.set_cons_zero, List.set_cons_succ]
                  refine hr_op (i := 7) rfl rfl (by kernel_rfl) (by kernel_rfl) (fun K hK => ?_)
                  go_simp
                  ((with_reducible refine (hM2 _).mono ?_); rintro e w1 ⟨rfl, X5, d5, rfl⟩)
                  (try go_wp2_with fail)
                  refine hK.out _ _ ?_ (fun hHeld => ?_)
                  · ((try dsimp only); go_simp)
                  clear hK K
                  simp only [List.set_cons_zero, List.set_cons_succ]
                  refine hr_op0 (i := 9) rfl (by kernel_rfl) (by kernel_rfl) (fun K hK => ?_)
                  go_simp
                  (try go_wp2_with fail)
                  refine hK.out _ ?_ (fun hHeld => ?_)
                  · ((try dsimp only); go_simp)
                  clear hK K
                  refine hr_done (by kernel_rfl) ?_
                  (go_wp2_with fail; go_meet; case rel => (repeat (first | (with_reducible exact Below.refl _ _) | (with_reducible assumption) | (with_reducible refine Below.grow ?_ ?_ _ _) | (with_reducible refine Below.drewN' ?_ _) | (with_reducible refine Below.drew ?_) | (with_reducible refine Below.alloc ?_ ?_ _) | (with_reducible refine Below.setCell ?_ ?_ _) | omega | (focus (simp; done)) | (focus (simp; omega)))))
            case rest =>
              have HDt := Lib.hid (HDd.out.below hcut HDd.out.lt)
              have HRt := Lib.hid (HRd.out.below hcut HRd.out.lt)
              have HGt := Lib.hid (gb_of_gb_below HGd.out hcut)
              have HCt := Lib.hid (HCd.out.below hcut HCd.out.lt)
              clear hcut c0 c1 c2 c3 c4 c5 c6 c7 c8 c9 c10 c11 c12 c13 cf cl
              obtain ⟨c0, c1, c2, c3, c4, c5, c6, c7, c8, c9, c10, c11, c12, c13, cf, cl⟩ := Blk.facts14 HCt.out
              go_upto_region 18 with fail
              obtain ⟨d0, d1_, d2_, d3_, d4, d5, d6, d7, d8, d9, d10, d11, d12, d13, df, dl⟩ := Blk.facts14 HDt.out; go_upto_region 19 with fail; generalize hwS : World.setCell _ _ _ = wS; have hCS : Blk wS g8 45 #[.int .i64 x2, .int .i64 y2, .bool false, .bool og, .int .i64 fg, .int .i64 bg, .int .i64 fl, .int .u8 g0, .int .u8 g1, .int .u8 g2, .int .u8 g3, .int .i64 gl, .int .i64 gr, .int .i64 on] := (by rw [← hwS]; exact Blk.set14 HCt.out); have hGS : w9.grownBy wS (some g8) := (by rw [← hwS]; exact gb_set14 HGt.out); have hRS : Blk wS g9 47 #[.int .i64 rH, .int .i64 rW, .int .i64 rT, .int .i64 rB] := hR9.gb hGS (by intro e; injection e with e; exact hg98 e); clear hwS c0 c1 c2 c3 c4 c5 c6 c7 c8 c9 c10 c11 c12 c13 cf cl d0 d1_ d2_ d3_ d4 d5 d6 d7 d8 d9 d10 d11 d12 d13 df dl; obtain ⟨c0, c1, c2, c3, c4, c5, c6, c7, c8, c9, c10, c11, c12, c13, cf, cl⟩ := Blk.facts14 hCS; obtain ⟨q0, q1, q2, q3, qf, ql⟩ := hRS.facts4; go_wp2_with (go_at_call 18; (with_reducible refine (hI2 _).mono ?_); rintro e w1 ⟨rfl, X7, d7_, rfl⟩); go_roundw; (case rel => exact ⟨k + 1, x2, y2, false, by omega, by go_num, by first | rfl | (rw [hy2]), HS2.out, gb_grow hGS _ _, hCS.grow _ _⟩); (case measure => simp [intOf]; omega)
    · clear hC
      go_wp2_with fail
      go_ret
      exact ⟨rfl, Below.toGrow hbz⟩
end Go.Proofs.Ytpcpgoeahndlfaa.Cur
