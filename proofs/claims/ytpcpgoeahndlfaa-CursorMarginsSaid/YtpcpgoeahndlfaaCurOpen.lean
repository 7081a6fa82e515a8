/- A cursor and a region that come in, by value: their cells. -/
import Derived.Test.YtpcpgoeahndlfaaFrame
namespace Go.Proofs.Ytpcpgoeahndlfaa.Cur
open Go.ChangeShapes Go.WideShapes Go.ChangeAt Go.RowKit

theorem cells14 : Try.prog.cellsOf 39 = 14 := by kernel_rfl
theorem leaves14 : Try.prog.cellTypes Try.prog.depth 39 = some [3, 3, 4, 4, 3, 3, 3, 5, 5, 5, 5, 3, 3, 3] := by kernel_rfl
theorem cells4 : Try.prog.cellsOf 41 = 4 := by kernel_rfl
theorem leaves4 : Try.prog.cellTypes Try.prog.depth 41 = some [3, 3, 3, 3] := by kernel_rfl
theorem i64_range {n : Int} (h : (Lit.int .i64 n).wf = true) : -9223372036854775808 ≤ n ∧ n ≤ 9223372036854775807 := by
  simpa [Lit.wf, IntKind.min, IntKind.max, IntKind.signed, IntKind.bits] using h

theorem cur_open {W : World} {base : Nat} {v : Value} (h : Value.okWide Try.prog W .any base 39 v) : ∃ (x y : Int) (wr og : Bool) (fg bg fl g0 g1 g2 g3 gl gr on : Int), v = .agg #[.int .i64 x, .int .i64 y, .bool wr, .bool og, .int .i64 fg, .int .i64 bg, .int .i64 fl, .int .u8 g0, .int .u8 g1, .int .u8 g2, .int .u8 g3, .int .i64 gl, .int .i64 gr, .int .i64 on] := by
  obtain ⟨cs, rfl, hlen, hc⟩ := agg_cells Try.underlying39 leaves14 cells14 h
  match cs, hlen with
  | [c0, c1, c2, c3, c4, c5, c6, c7, c8, c9, c10, c11, c12, c13], _ =>
    obtain ⟨x, rfl, _⟩ := cell_int Try.underlying3 (hc 0 _ _ rfl rfl)
    obtain ⟨y, rfl, _⟩ := cell_int Try.underlying3 (hc 1 _ _ rfl rfl)
    obtain ⟨wr, rfl⟩ := cell_bool Try.underlying4 (hc 2 _ _ rfl rfl)
    obtain ⟨og, rfl⟩ := cell_bool Try.underlying4 (hc 3 _ _ rfl rfl)
    obtain ⟨fg, rfl, _⟩ := cell_int Try.underlying3 (hc 4 _ _ rfl rfl)
    obtain ⟨bg, rfl, _⟩ := cell_int Try.underlying3 (hc 5 _ _ rfl rfl)
    obtain ⟨fl, rfl, _⟩ := cell_int Try.underlying3 (hc 6 _ _ rfl rfl)
    obtain ⟨g0, rfl, _⟩ := cell_int Try.underlying5 (hc 7 _ _ rfl rfl)
    obtain ⟨g1, rfl, _⟩ := cell_int Try.underlying5 (hc 8 _ _ rfl rfl)
    obtain ⟨g2, rfl, _⟩ := cell_int Try.underlying5 (hc 9 _ _ rfl rfl)
    obtain ⟨g3, rfl, _⟩ := cell_int Try.underlying5 (hc 10 _ _ rfl rfl)
    obtain ⟨gl, rfl, _⟩ := cell_int Try.underlying3 (hc 11 _ _ rfl rfl)
    obtain ⟨gr, rfl, _⟩ := cell_int Try.underlying3 (hc 12 _ _ rfl rfl)
    obtain ⟨on, rfl, _⟩ := cell_int Try.underlying3 (hc 13 _ _ rfl rfl)
    exact ⟨x, y, wr, og, fg, bg, fl, g0, g1, g2, g3, gl, gr, on, rfl⟩
theorem reg_open {W : World} {base : Nat} {v : Value} (h : Value.okWide Try.prog W .any base 41 v) : ∃ rH rW rT rB : Int, v = .agg #[.int .i64 rH, .int .i64 rW, .int .i64 rT, .int .i64 rB] ∧ -9223372036854775808 ≤ rW ∧ rW ≤ 9223372036854775807 := by
  obtain ⟨cs, rfl, hlen, hc⟩ := agg_cells Try.underlying41 leaves4 cells4 h
  match cs, hlen with
  | [c0, c1, c2, c3], _ =>
    obtain ⟨rH, rfl, _⟩ := cell_int Try.underlying3 (hc 0 _ _ rfl rfl)
    obtain ⟨rW, rfl, hw⟩ := cell_int Try.underlying3 (hc 1 _ _ rfl rfl)
    obtain ⟨rT, rfl, _⟩ := cell_int Try.underlying3 (hc 2 _ _ rfl rfl)
    obtain ⟨rB, rfl, _⟩ := cell_int Try.underlying3 (hc 3 _ _ rfl rfl)
    exact ⟨rH, rW, rT, rB, rfl, i64_range hw⟩
end Go.Proofs.Ytpcpgoeahndlfaa.Cur
