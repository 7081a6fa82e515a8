/- To, where it goes. -/
import Derived.Test.YtpcpgoeahndlfaaCurN
import Derived.Deep.RegionWith
namespace Go.Proofs.Ytpcpgoeahndlfaa.Cur
open Go.RowKit
attribute [local go_sem] Nat.add_assoc Nat.add_pos_iff_pos_or_pos lt_add_r

theorem btw_in {v l m : Int} (h : l ≤ m) : l ≤ btw v l m ∧ btw v l m ≤ m := by unfold btw; omega
theorem btw_id {v l m : Int} (h1 : l ≤ v) (h2 : v ≤ m) : btw v l m = v := by unfold btw; omega

/-- where To goes is a place that may be -/
theorem to_any (q p : Int) (x y : Int) (wr og : Bool) (fg bg fl g0 g1 g2 g3 gl gr on : Int) (rH rW rT rB : Int) (w : World) (hs : csaneB x y wr og fg bg fl g0 g1 g2 g3 gl gr on rH rW rT rB = true) : Calls Try.prog 20 #[.agg #[.int .i64 x, .int .i64 y, .bool wr, .bool og, .int .i64 fg, .int .i64 bg, .int .i64 fl, .int .u8 g0, .int .u8 g1, .int .u8 g2, .int .u8 g3, .int .i64 gl, .int .i64 gr, .int .i64 on], .agg #[.int .i64 rH, .int .i64 rW, .int .i64 rT, .int .i64 rB], .int .i64 q, .int .i64 p] w fun e w' => (∃ x1 y1 : Int, e = .returned (.agg #[.int .i64 x1, .int .i64 y1, .bool false, .bool og, .int .i64 fg, .int .i64 bg, .int .i64 fl, .int .u8 g0, .int .u8 g1, .int .u8 g2, .int .u8 g3, .int .i64 gl, .int .i64 gr, .int .i64 on]) ∧ csaneB x1 y1 false og fg bg fl g0 g1 g2 g3 gl gr on rH rW rT rB = true ∧ (og = false → 0 ≤ q → q < rH → y1 = q) ∧ (og = true → 0 ≤ q → q ≤ 4096 → y1 = min (rT + q) (rB - 1)) ∧ (0 ≤ p → p < rW → x1 = p)) ∧ Grew w w' := by
  have F := facts hs
  refine (to_c q p x y wr og fg bg fl g0 g1 g2 g3 gl gr on rH rW rT rB w hs).mono ?_
  rintro e w' ⟨rfl, hg⟩
  refine ⟨⟨_, _, rfl, csane_mk hs ?_, ?_, ?_, ?_⟩, hg⟩
  · obtain ⟨a1, a2, a3, a4, a5, a6, a7, a8, a9, a10, a11, a12, a13⟩ := F
    have b1 := btw_in (v := p) (show (0 : Int) ≤ rW - 1 by omega)
    refine ⟨a1, a2, a3, a4, a5, a6, a7, by omega, by omega, ?_, ?_, (fun h => by cases h), ?_⟩
    all_goals
      unfold toY
      have b2 := btw_in (v := q) (show (0 : Int) ≤ rH - 1 by omega)
      have b3 := btw_in (v := rT + btw q (-4096) 4096) (show rT ≤ rB - 1 by omega)
      cases og <;> simp <;> omega
  · rintro rfl h1 h2
    exact btw_id h1 (by omega)
  · rintro rfl h1 h2
    obtain ⟨a1, a2, a3, a4, a5, a6, a7, a8, a9, a10, a11, a12, a13⟩ := F
    show btw (rT + btw q (-4096) 4096) rT (rB - 1) = _
    rw [btw_id (v := q) (by omega) (by omega)]
    unfold btw
    omega
  · intro h1 h2
    exact btw_id h1 (by omega)
/-- back to where it was -/
theorem to_back (q p X Y : Int) (x y : Int) (wr og : Bool) (fg bg fl g0 g1 g2 g3 gl gr on : Int) (rH rW rT rB : Int) (w : World) (hs : csaneB x y wr og fg bg fl g0 g1 g2 g3 gl gr on rH rW rT rB = true) (hp : p = X) (h1 : 0 ≤ X) (h2 : X < rW) (hq : q = if og then Y - rT else Y) (h3 : 0 ≤ Y) (h4 : Y < rH) (h5 : og = true → rT ≤ Y ∧ Y < rB) :
    Calls Try.prog 20 #[.agg #[.int .i64 x, .int .i64 y, .bool wr, .bool og, .int .i64 fg, .int .i64 bg, .int .i64 fl, .int .u8 g0, .int .u8 g1, .int .u8 g2, .int .u8 g3, .int .i64 gl, .int .i64 gr, .int .i64 on], .agg #[.int .i64 rH, .int .i64 rW, .int .i64 rT, .int .i64 rB], .int .i64 q, .int .i64 p] w fun e w' => e = .returned (.agg #[.int .i64 X, .int .i64 Y, .bool false, .bool og, .int .i64 fg, .int .i64 bg, .int .i64 fl, .int .u8 g0, .int .u8 g1, .int .u8 g2, .int .u8 g3, .int .i64 gl, .int .i64 gr, .int .i64 on]) ∧ Grew w w' := by
  subst hp hq
  have F := facts hs
  obtain ⟨a1, a2, a3, a4, a5, a6, a7, a8, a9, a10, a11, a12, a13⟩ := F
  have h := to_c (if og then Y - rT else Y) p x y wr og fg bg fl g0 g1 g2 g3 gl gr on rH rW rT rB w hs
  rw [btw_id h1 (by omega)] at h
  have e : toY og (if og then Y - rT else Y) rH rT rB = Y := by
    unfold toY
    cases og with
    | false => exact btw_id h3 (by omega)
    | true =>
      have := h5 rfl
      simp only [if_true]
      rw [btw_id (v := Y - rT) (by omega) (by omega)]
      unfold btw
      omega
  rw [e] at h
  exact h
end Go.Proofs.Ytpcpgoeahndlfaa.Cur
