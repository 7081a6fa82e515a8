/- Arguments that come in: a cell by value, a slice of cells, a row, a list of rows; what they hold. -/
import Derived.Test.YtlchffkabpfjpaaRowPure
import Derived.Test.YtlchffkabpfjpaaFrame
import Derived.Deep.Slices
namespace Go.Proofs.Ytlchffkabpfjpaa.Row
open Go.ChangeShapes Go.WideShapes Go.ChangeAt Go.RowKit

theorem cells_int : Try.prog.cellsOf 3 = 1 := by kernel_rfl
theorem cells_marks : Try.prog.cellsOf 44 = 2 := by kernel_rfl
theorem cells_pen : Try.prog.cellsOf 28 = 3 := by kernel_rfl
theorem cells_cell : Try.prog.cellsOf 46 = 7 := by kernel_rfl
theorem cells_row : Try.prog.cellsOf 49 = 4 := by kernel_rfl
theorem cells_slice : Try.prog.cellsOf 47 = 1 := by kernel_rfl
theorem cells_bool : Try.prog.cellsOf 4 = 1 := by kernel_rfl
theorem leaves_cell : Try.prog.cellTypes Try.prog.depth 46 = some [3, 3, 3, 3, 3, 3, 3] := by kernel_rfl
theorem leaves_row : Try.prog.cellTypes Try.prog.depth 49 = some [47, 4, 3, 4] := by kernel_rfl
theorem leaves_pen : Try.prog.cellTypes Try.prog.depth 28 = some [3, 3, 3] := by kernel_rfl

set_option maxRecDepth 100000 in
theorem cell_open {W : World} {base : Nat} {v : Value} (h : Value.okWide Try.prog W .any base 46 v) : ∃ c : Cl, v = .agg #[.int .i64 c.r, .int .i64 c.m0, .int .i64 c.m1, .int .i64 c.w, .int .i64 c.fg, .int .i64 c.bg, .int .i64 c.fl] := by
  obtain ⟨cs, rfl, hlen, hc⟩ := agg_cells Try.underlying46 leaves_cell cells_cell h
  match cs, hlen with
  | [c0, c1, c2, c3, c4, c5, c6], _ =>
    obtain ⟨a0, rfl, _⟩ := cell_int Try.underlying3 (hc 0 _ _ rfl rfl)
    obtain ⟨a1, rfl, _⟩ := cell_int Try.underlying3 (hc 1 _ _ rfl rfl)
    obtain ⟨a2, rfl, _⟩ := cell_int Try.underlying3 (hc 2 _ _ rfl rfl)
    obtain ⟨a3, rfl, _⟩ := cell_int Try.underlying3 (hc 3 _ _ rfl rfl)
    obtain ⟨a4, rfl, _⟩ := cell_int Try.underlying3 (hc 4 _ _ rfl rfl)
    obtain ⟨a5, rfl, _⟩ := cell_int Try.underlying3 (hc 5 _ _ rfl rfl)
    obtain ⟨a6, rfl, _⟩ := cell_int Try.underlying3 (hc 6 _ _ rfl rfl)
    exact ⟨⟨a0, a1, a2, a3, a4, a5, a6⟩, rfl⟩
set_option maxRecDepth 100000 in
theorem pen_open {W : World} {base : Nat} {v : Value} (h : Value.okWide Try.prog W .any base 28 v) : ∃ fg bg fl : Int, v = .agg #[.int .i64 fg, .int .i64 bg, .int .i64 fl] := by
  obtain ⟨cs, rfl, hlen, hc⟩ := agg_cells Try.underlying28 leaves_pen cells_pen h
  match cs, hlen with
  | [c0, c1, c2], _ =>
    obtain ⟨a0, rfl, _⟩ := cell_int Try.underlying3 (hc 0 _ _ rfl rfl)
    obtain ⟨a1, rfl, _⟩ := cell_int Try.underlying3 (hc 1 _ _ rfl rfl)
    obtain ⟨a2, rfl, _⟩ := cell_int Try.underlying3 (hc 2 _ _ rfl rfl)
    exact ⟨a0, a1, a2, rfl⟩

section
variable {H : Type} {enc : TypeId × Value → H} {w : World} {base : Nat} {spare : Nat → Bool} {held : Bool}
theorem some_of {α : Type} {xs : List α} {n i : Nat} (h : xs.length = n) (hi : i < n) : ∃ y, xs[i]? = some y := ⟨_, List.getElem?_eq_getElem (by omega)⟩
set_option maxRecDepth 100000 in
theorem cell_of_trod {fuel : Nat} {cs : List Value} {x : DataW H × List MemPlace} (h : DataW.trod enc Try.prog w base spare held fuel 46 cs = some x) :
    ∃ c : Cl, cs = [.int .i64 c.r, .int .i64 c.m0, .int .i64 c.m1, .int .i64 c.w, .int .i64 c.fg, .int .i64 c.bg, .int .i64 c.fl] := by
  obtain ⟨xs, n, _, _, hlen, hxl, hg⟩ := DataW.trod_struct Try.underlying46 h
  rw [cells_cell] at hlen
  match cs, hlen with
  | [c0, c1, c2, c3, c4, c5, c6], _ =>
    obtain ⟨y0, e0⟩ := some_of (i := 0) hxl (by decide)
    obtain ⟨y1, e1⟩ := some_of (i := 1) hxl (by decide)
    obtain ⟨y2, e2⟩ := some_of (i := 2) hxl (by decide)
    obtain ⟨y3, e3⟩ := some_of (i := 3) hxl (by decide)
    have h0 : DataW.trod enc Try.prog w base spare held n 3 (([c0, c1, c2, c3, c4, c5, c6].drop 0).take (Try.prog.cellsOf 3)) = xs[0]? := hg 0 _ rfl
    have h1 : DataW.trod enc Try.prog w base spare held n 44 (([c0, c1, c2, c3, c4, c5, c6].drop 1).take (Try.prog.cellsOf 44)) = xs[1]? := hg 1 _ rfl
    have h2 : DataW.trod enc Try.prog w base spare held n 3 (([c0, c1, c2, c3, c4, c5, c6].drop 3).take (Try.prog.cellsOf 3)) = xs[2]? := hg 2 _ rfl
    have h3 : DataW.trod enc Try.prog w base spare held n 28 (([c0, c1, c2, c3, c4, c5, c6].drop 4).take (Try.prog.cellsOf 28)) = xs[3]? := hg 3 _ rfl
    rw [e0] at h0
    rw [e1] at h1
    rw [e2] at h2
    rw [e3] at h3
    rw [cells_int] at h0 h2
    rw [cells_marks] at h1
    rw [cells_pen] at h3
    simp only [List.drop_zero, List.drop_succ_cons, List.take_succ_cons, List.take_zero] at h0 h1 h2 h3
    obtain ⟨a0, p0, _⟩ := DataW.trod_int Try.underlying3 h0
    obtain ⟨a3, p3, _⟩ := DataW.trod_int Try.underlying3 h2
    obtain ⟨zs, m, _, _, _, hzl, hz⟩ := DataW.trod_array Try.underlying44 h1
    obtain ⟨z0, f0⟩ := some_of (i := 0) hzl (by decide)
    obtain ⟨z1, f1⟩ := some_of (i := 1) hzl (by decide)
    have k0 : DataW.trod enc Try.prog w base spare held m 3 (([c1, c2].drop (0 * Try.prog.cellsOf 3)).take (Try.prog.cellsOf 3)) = zs[0]? := hz 0 (by decide)
    have k1 : DataW.trod enc Try.prog w base spare held m 3 (([c1, c2].drop (1 * Try.prog.cellsOf 3)).take (Try.prog.cellsOf 3)) = zs[1]? := hz 1 (by decide)
    rw [f0] at k0
    rw [f1] at k1
    rw [cells_int] at k0 k1
    simp only [Nat.zero_mul, Nat.one_mul, List.drop_zero, List.drop_succ_cons, List.take_succ_cons, List.take_zero] at k0 k1
    obtain ⟨a1, p1, _⟩ := DataW.trod_int Try.underlying3 k0
    obtain ⟨a2, p2, _⟩ := DataW.trod_int Try.underlying3 k1
    obtain ⟨us, m', _, _, _, hul, hu⟩ := DataW.trod_struct Try.underlying28 h3
    obtain ⟨u0, g0⟩ := some_of (i := 0) hul (by decide)
    obtain ⟨u1, g1⟩ := some_of (i := 1) hul (by decide)
    obtain ⟨u2, g2⟩ := some_of (i := 2) hul (by decide)
    have l0 : DataW.trod enc Try.prog w base spare held m' 3 (([c4, c5, c6].drop 0).take (Try.prog.cellsOf 3)) = us[0]? := hu 0 _ rfl
    have l1 : DataW.trod enc Try.prog w base spare held m' 3 (([c4, c5, c6].drop 1).take (Try.prog.cellsOf 3)) = us[1]? := hu 1 _ rfl
    have l2 : DataW.trod enc Try.prog w base spare held m' 3 (([c4, c5, c6].drop 2).take (Try.prog.cellsOf 3)) = us[2]? := hu 2 _ rfl
    rw [g0] at l0
    rw [g1] at l1
    rw [g2] at l2
    rw [cells_int] at l0 l1 l2
    simp only [List.drop_zero, List.drop_succ_cons, List.take_succ_cons, List.take_zero] at l0 l1 l2
    obtain ⟨a4, p4, _⟩ := DataW.trod_int Try.underlying3 l0
    obtain ⟨a5, p5, _⟩ := DataW.trod_int Try.underlying3 l1
    obtain ⟨a6, p6, _⟩ := DataW.trod_int Try.underlying3 l2
    simp at p0 p1 p2 p3 p4 p5 p6
    refine ⟨⟨a0, a1, a2, a3, a4, a5, a6⟩, ?_⟩
    simp [p0, p1, p2, p3, p4, p5, p6]

set_option maxRecDepth 100000 in
/-- a slice of cells that comes in reads as cells -/
theorem slice_open {fuel : Nat} {cs : List Value} {x : DataW H × List MemPlace} (h : DataW.trod enc Try.prog w base spare held fuel 47 cs = some x) :
    ∃ (A : Option Addr) (n cap : Nat) (f : Nat → Cl), cs = [.slice A n cap] ∧ n ≤ cap ∧ cap ≤ maxLen ∧ Rd w A n f := by
  rcases Deep.open_slice Try.underlying47 h with ⟨rfl, _⟩ | ⟨a, n, cap, m, fu, D, Pl, rfl, _, hnc, hcap, hm, _, hx⟩
  · exact ⟨none, 0, 0, fun _ => ⟨0, 0, 0, 0, 0, 0, 0⟩, rfl, Nat.le_refl _, by unfold maxLen; omega, fun h => absurd h (by omega)⟩
  · have hnm : n ≤ m := by rw [hm]; split <;> omega
    have hall : ∀ i, i < n → a.spot = none ∧ a.block < w.heap.size ∧ ∃ c : Cl, CellAt w a.block (a.off + i * 7) c := fun i hi => by
      obtain ⟨cs', h1, h2⟩ := hx i (by omega)
      obtain ⟨c, rfl⟩ := cell_of_trod h2
      rw [cells_cell] at h1
      obtain ⟨_, _, hat⟩ := World.cells?_some h1
      obtain ⟨b, o, sp⟩ := a
      cases sp with
      | some s0 =>
        exfalso
        obtain ⟨cs0, g1, g2⟩ := hx 0 (by omega)
        rw [cells_cell] at g1
        obtain ⟨_, gl, gat⟩ := World.cells?_some g1
        have h0 := gat 0 (by omega)
        have e : ((⟨b, o, some s0⟩ : Addr).add (0 * 7)).add 0 = ⟨b, o, some s0⟩ := rfl
        rw [e, List.getElem?_eq_getElem (by omega)] at h0
        unfold World.cell? at h0
        split at h0 <;> simp at h0
      | none =>
        have hb : b < w.heap.size := by
          have h0 := hat 0 (by omega)
          have hb := World.block_lt_of_cell? w _ h0
          have e : (((⟨b, o, none⟩ : Addr).add (i * 7)).add 0).block = b := by unfold Addr.add; split <;> split <;> rfl
          rwa [e] at hb
        have hc : ∀ j, j < 7 → w.cell? ⟨b, o + i * 7 + j, none⟩ = [Value.int .i64 c.r, .int .i64 c.m0, .int .i64 c.m1, .int .i64 c.w, .int .i64 c.fg, .int .i64 c.bg, .int .i64 c.fl][j]? := fun j hj => by
          have h0 := hat j hj
          have e : ((⟨b, o, none⟩ : Addr).add (i * 7)).add j = ⟨b, o + i * 7 + j, none⟩ := by
            unfold Addr.add
            split <;> split <;> simp_all
          rwa [e] at h0
        exact ⟨rfl, hb, c, hc 0 (by omega), hc 1 (by omega), hc 2 (by omega), hc 3 (by omega), hc 4 (by omega), hc 5 (by omega), hc 6 (by omega)⟩
    by_cases h0 : 0 < n
    · obtain ⟨b, o, sp⟩ := a
      obtain ⟨rfl, hb, _⟩ := hall 0 h0
      have hch : ∀ i, ∃ c : Cl, i < n → CellAt w b (o + i * 7) c := fun i => by
        by_cases hi : i < n
        · obtain ⟨_, _, c, hc⟩ := hall i hi
          exact ⟨c, fun _ => hc⟩
        · exact ⟨⟨0, 0, 0, 0, 0, 0, 0⟩, fun h => absurd h hi⟩
      exact ⟨_, n, cap, fun i => (hch i).choose, rfl, hnc, hcap, fun _ => ⟨b, o, rfl, hb, fun i hi => (hch i).choose_spec hi⟩⟩
    · exact ⟨_, n, cap, fun _ => ⟨0, 0, 0, 0, 0, 0, 0⟩, rfl, hnc, hcap, fun h => absurd h h0⟩

set_option maxRecDepth 100000 in
/-- a row that comes in by value -/
theorem row_open {W : World} {base : Nat} {v : Value} {d : DataW H} {p : List MemPlace} (h : Value.okWide Try.prog W .any base 49 v) (ht : DataW.Trod enc Try.prog W 0 (fun _ => true) true 49 v d p) :
    ∃ (A : Option Addr) (n cap : Nat) (f : Nat → Cl) (wb : Bool) (dir : Int) (ex : Bool), v = .agg #[.slice A n cap, .bool wb, .int .i64 dir, .bool ex] ∧ n ≤ cap ∧ cap ≤ maxLen ∧ Rd W A n f := by
  obtain ⟨cs, rfl, hlen, hc⟩ := agg_cells Try.underlying49 leaves_row cells_row h
  obtain ⟨fuel, hf⟩ := ht
  match cs, hlen with
  | [c0, c1, c2, c3], _ =>
    obtain ⟨wb, rfl⟩ := cell_bool Try.underlying4 (hc 1 _ _ rfl rfl)
    obtain ⟨dir, rfl, _⟩ := cell_int Try.underlying3 (hc 2 _ _ rfl rfl)
    obtain ⟨ex, rfl⟩ := cell_bool Try.underlying4 (hc 3 _ _ rfl rfl)
    obtain ⟨xs, n, _, _, _, hxl, hg⟩ := DataW.trod_struct Try.underlying49 hf
    obtain ⟨y0, e0⟩ := some_of (i := 0) hxl (by decide)
    have h0 : DataW.trod enc Try.prog W 0 (fun _ => true) true n 47 (([c0, Value.bool wb, Value.int .i64 dir, Value.bool ex].drop 0).take (Try.prog.cellsOf 47)) = xs[0]? := hg 0 _ rfl
    rw [e0] at h0
    rw [cells_slice] at h0
    obtain ⟨A, n_1, cap, f, e, h1, h2, h3⟩ := slice_open h0
    obtain rfl : c0 = .slice A n_1 cap := by simpa using e
    exact ⟨A, n_1, cap, f, wb, dir, ex, rfl, h1, h2, h3⟩
end
end Go.Proofs.Ytlchffkabpfjpaa.Row
