/- A line that comes in by value. -/
import Derived.Test.YtlgnchhhadnjbaaLinOpen
namespace Go.Proofs.Ytlgnchhhadnjbaa.Row
open Go.ChangeShapes Go.WideShapes Go.ChangeAt Go.RowKit
theorem leaves_line : Try.prog.cellTypes Try.prog.depth 42 = some [38, 3, 4] := by kernel_rfl
section
variable {H : Type} {enc : TypeId × Value → H}
set_option maxRecDepth 100000 in
theorem line_open {W : World} {base : Nat} {v : Value} {d : DataW H} {p : List MemPlace} (h : Value.okWide Try.prog W .any base 42 v) (ht : DataW.Trod enc Try.prog W 0 (fun _ => true) true 42 v d p) :
    ∃ (A : Option Addr) (n cap : Nat) (cs : List Cl) (dir : Int) (ex : Bool), v = .agg #[.slice A n cap, .int .i64 dir, .bool ex] ∧ RdX encC W (.slice A n cap) cs ∧ n = cs.length ∧ n ≤ maxLen := by
  obtain ⟨cs, rfl, hlen, hc⟩ := agg_cells Try.underlying42 leaves_line cells_line h
  obtain ⟨fuel, hf⟩ := ht
  match cs, hlen with
  | [c0, c1, c2], _ =>
    obtain ⟨dir, rfl, _⟩ := cell_int Try.underlying3 (hc 1 _ _ rfl rfl)
    obtain ⟨ex, rfl⟩ := cell_bool Try.underlying4 (hc 2 _ _ rfl rfl)
    obtain ⟨xs, n, _, _, _, hxl, hg⟩ := DataW.trod_struct Try.underlying42 hf
    obtain ⟨y0, e0⟩ := some_of (i := 0) hxl (by decide)
    have h0 : DataW.trod enc Try.prog W 0 (fun _ => true) true n 38 (([c0, Value.int .i64 dir, Value.bool ex].drop 0).take (Try.prog.cellsOf 38)) = xs[0]? := hg 0 _ rfl
    rw [e0] at h0
    rw [cells_slice] at h0
    obtain ⟨A, n_1, cap, f, e, h1, h2, h3⟩ := slice_open h0
    obtain rfl : c0 = .slice A n_1 cap := by simpa using e
    exact ⟨A, n_1, cap, listF n_1 f, dir, ex, rfl, rd_toX h3 h1, (listF_len _ _).symm, by omega⟩
end
end Go.Proofs.Ytlgnchhhadnjbaa.Row
