/- A slice of rows that comes in; history's and the document's structs of it. -/
import Derived.Test.YtlchffkabpfjpaaGA
import Derived.Test.YtlchffkabpfjpaaRowOpen
namespace Go.Proofs.Ytlchffkabpfjpaa.Row
open Go.ChangeShapes Go.WideShapes Go.ChangeAt Go.RowKit
section
variable {H : Type} {enc : TypeId × Value → H} {w : World} {base : Nat} {spare : Nat → Bool} {held : Bool}
set_option maxRecDepth 100000 in
theorem row_of_trod {fuel : Nat} {cs : List Value} {x : DataW H × List MemPlace} (h : DataW.trod enc Try.prog w base spare held fuel 49 cs = some x) :
    ∃ r : Rw, cs = r.cells ∧ r.ok0 w := by
  obtain ⟨xs, n, _, _, hlen, hxl, hg⟩ := DataW.trod_struct Try.underlying49 h
  rw [cells_row] at hlen
  match cs, hlen with
  | [c0, c1, c2, c3], _ =>
    obtain ⟨y0, e0⟩ := some_of (i := 0) hxl (by decide)
    obtain ⟨y1, e1⟩ := some_of (i := 1) hxl (by decide)
    obtain ⟨y2, e2⟩ := some_of (i := 2) hxl (by decide)
    obtain ⟨y3, e3⟩ := some_of (i := 3) hxl (by decide)
    have h0 : DataW.trod enc Try.prog w base spare held n 47 (([c0, c1, c2, c3].drop 0).take (Try.prog.cellsOf 47)) = xs[0]? := hg 0 _ rfl
    have h1 : DataW.trod enc Try.prog w base spare held n 4 (([c0, c1, c2, c3].drop 1).take (Try.prog.cellsOf 4)) = xs[1]? := hg 1 _ rfl
    have h2 : DataW.trod enc Try.prog w base spare held n 3 (([c0, c1, c2, c3].drop 2).take (Try.prog.cellsOf 3)) = xs[2]? := hg 2 _ rfl
    have h3 : DataW.trod enc Try.prog w base spare held n 4 (([c0, c1, c2, c3].drop 3).take (Try.prog.cellsOf 4)) = xs[3]? := hg 3 _ rfl
    rw [e0] at h0
    rw [e1] at h1
    rw [e2] at h2
    rw [e3] at h3
    rw [cells_slice] at h0
    rw [cells_bool] at h1 h3
    rw [cells_int] at h2
    simp only [List.drop_zero, List.drop_succ_cons, List.take_succ_cons, List.take_zero] at h0 h1 h2 h3
    obtain ⟨A, m, cap, f, p0, k1, k2, k3⟩ := slice_open h0
    obtain ⟨b1, p1, _⟩ := DataW.trod_bool Try.underlying4 h1
    obtain ⟨a2, p2, _⟩ := DataW.trod_int Try.underlying3 h2
    obtain ⟨b3, p3, _⟩ := DataW.trod_bool Try.underlying4 h3
    simp at p0 p1 p2 p3
    refine ⟨⟨A, m, cap, f, b1, a2, b3⟩, ?_, k3, k1, k2⟩
    simp [Rw.cells, p0, p1, p2, p3]

set_option maxRecDepth 100000 in
/-- a slice of rows that comes in reads as rows -/
theorem rows_open {fuel : Nat} {cs : List Value} {x : DataW H × List MemPlace} (h : DataW.trod enc Try.prog w base spare held fuel 24 cs = some x) :
    ∃ (v : Value) (L : List Rw), cs = [v] ∧ RdR0 w v L ∧ L.length ≤ maxLen := by
  rcases Deep.open_slice Try.underlying24 h with ⟨rfl, _⟩ | ⟨a, n, cap, m, fu, D, Pl, rfl, _, hnc, hcap, hm, _, hx⟩
  · exact ⟨_, [], rfl, ⟨RdX.nil w none 0, fun r hr => by cases hr⟩, by simp⟩
  · have hnm : n ≤ m := by rw [hm]; split <;> omega
    have hall : ∀ i, i < n → a.spot = none ∧ a.block < w.heap.size ∧ ∃ r : Rw, RowAt w a.block (a.off + i * 4) r ∧ r.ok0 w := fun i hi => by
      obtain ⟨cs', h1, h2⟩ := hx i (by omega)
      obtain ⟨r, rfl, hok⟩ := row_of_trod h2
      rw [cells_row] at h1
      obtain ⟨_, _, hat⟩ := World.cells?_some h1
      obtain ⟨b, o, sp⟩ := a
      cases sp with
      | some s0 =>
        exfalso
        obtain ⟨cs0, g1, g2⟩ := hx 0 (by omega)
        rw [cells_row] at g1
        obtain ⟨_, gl, gat⟩ := World.cells?_some g1
        have h0 := gat 0 (by omega)
        have e : ((⟨b, o, some s0⟩ : Addr).add (0 * 4)).add 0 = ⟨b, o, some s0⟩ := rfl
        rw [e, List.getElem?_eq_getElem (by omega)] at h0
        unfold World.cell? at h0
        split at h0 <;> simp at h0
      | none =>
        have hb : b < w.heap.size := by
          have h0 := hat 0 (by omega)
          have hb := World.block_lt_of_cell? w _ h0
          have e : (((⟨b, o, none⟩ : Addr).add (i * 4)).add 0).block = b := by unfold Addr.add; split <;> split <;> rfl
          rwa [e] at hb
        have hc : ∀ j, j < 4 → w.cell? ⟨b, o + i * 4 + j, none⟩ = r.cells[j]? := fun j hj => by
          have h0 := hat j hj
          have e : ((⟨b, o, none⟩ : Addr).add (i * 4)).add j = ⟨b, o + i * 4 + j, none⟩ := by
            unfold Addr.add
            split <;> split <;> simp_all
          rwa [e] at h0
        exact ⟨rfl, hb, r, ⟨hc 0 (by omega), hc 1 (by omega), hc 2 (by omega), hc 3 (by omega)⟩, hok⟩
    have hch : ∀ i, ∃ r : Rw, i < n → RowAt w a.block (a.off + i * 4) r ∧ r.ok0 w := fun i => by
      by_cases hi : i < n
      · obtain ⟨_, _, r, hr⟩ := hall i hi
        exact ⟨r, fun _ => hr⟩
      · exact ⟨⟨none, 0, 0, fun _ => ⟨0, 0, 0, 0, 0, 0, 0⟩, false, 0, false⟩, fun h => absurd h hi⟩
    have hlen : ((List.range n).map fun i => (hch i).choose).length = n := by simp
    refine ⟨_, (List.range n).map fun i => (hch i).choose, rfl, ⟨⟨some a, cap, by rw [hlen], by rw [hlen]; exact hnc, fun hn => ?_⟩, fun r hr => ?_⟩, by rw [hlen]; omega⟩
    · rw [hlen] at hn
      obtain ⟨b, o, sp⟩ := a
      obtain ⟨rfl, hb, _⟩ := hall 0 hn
      refine ⟨b, o, rfl, hb, fun j r hj => ?_⟩
      have hjn : j < n := by have := (List.getElem?_eq_some_iff.1 hj).1; rwa [hlen] at this
      have hr : r = (hch j).choose := by
        rw [List.getElem?_map, List.getElem?_range hjn] at hj
        exact (Option.some.inj hj).symm
      rw [hr]
      exact rowAt_to ((hch j).choose_spec hjn).1
    · obtain ⟨i, hi, rfl⟩ := List.mem_map.1 hr
      exact ((hch i).choose_spec (List.mem_range.1 hi)).2
theorem rows_arg {W : World} {v : Value} {d : DataW H} {p : List MemPlace} (ht : DataW.Trod enc Try.prog W 0 (fun _ => true) true 24 v d p) (hc : v.cells = #[v]) : ∃ L : List Rw, RdR0 W v L ∧ L.length ≤ maxLen := by
  obtain ⟨fuel, hf⟩ := ht
  rw [hc] at hf
  obtain ⟨v', L, e, h1, h2⟩ := rows_open hf
  obtain rfl : v = v' := by simpa using e
  exact ⟨L, h1, h2⟩
theorem leaves_kept : Try.prog.cellTypes Try.prog.depth 57 = some [24, 3] := by kernel_rfl
theorem cells_kept : Try.prog.cellsOf 57 = 2 := by kernel_rfl
theorem cells_rows : Try.prog.cellsOf 24 = 1 := by kernel_rfl
set_option maxRecDepth 100000 in
/-- the document's kept rows, by value -/
theorem kept_open {W : World} {base : Nat} {v : Value} {d : DataW H} {p : List MemPlace} (h : Value.okWide Try.prog W .any base 57 v) (ht : DataW.Trod enc Try.prog W 0 (fun _ => true) true 57 v d p) :
    ∃ (x : Value) (c : Int) (L : List Rw), v = .agg #[x, .int .i64 c] ∧ RdR0 W x L ∧ L.length ≤ maxLen ∧ (Lit.int .i64 c).wf = true := by
  obtain ⟨cs, rfl, hlen, hc⟩ := agg_cells Try.underlying57 leaves_kept cells_kept h
  obtain ⟨fuel, hf⟩ := ht
  match cs, hlen with
  | [c0, c1], _ =>
    obtain ⟨c, rfl, hwf⟩ := cell_int Try.underlying3 (hc 1 _ _ rfl rfl)
    obtain ⟨xs, n, _, _, _, hxl, hg⟩ := DataW.trod_struct Try.underlying57 hf
    obtain ⟨y0, e0⟩ := some_of (i := 0) hxl (by decide)
    have h0 : DataW.trod enc Try.prog W 0 (fun _ => true) true n 24 (([c0, Value.int .i64 c].drop 0).take (Try.prog.cellsOf 24)) = xs[0]? := hg 0 _ rfl
    rw [e0] at h0
    rw [cells_rows] at h0
    obtain ⟨v', L, e, h1, h2⟩ := rows_open h0
    obtain rfl : c0 = v' := by simpa using e
    exact ⟨c0, c, L, rfl, h1, h2, hwf⟩
end
end Go.Proofs.Ytlchffkabpfjpaa.Row
