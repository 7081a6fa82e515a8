/- A slice of lines that comes in. -/
import Derived.Test.YtlgnchhhadnjbaaRflO
import Derived.Test.YtlgnchhhadnjbaaLstOpen
namespace Go.Proofs.Ytlgnchhhadnjbaa.Row
open Go.ChangeShapes Go.WideShapes Go.ChangeAt Go.RowKit
theorem cells_line : Try.prog.cellsOf 42 = 3 := by kernel_rfl
section
variable {H : Type} {enc : TypeId × Value → H} {w : World} {base : Nat} {spare : Nat → Bool} {held : Bool}
set_option maxRecDepth 100000 in
theorem line_of_trod {fuel : Nat} {cs : List Value} {x : DataW H × List MemPlace} (h : DataW.trod enc Try.prog w base spare held fuel 42 cs = some x) :
    ∃ r : Ln, cs = r.cells ∧ RdX encC w (.slice r.A r.cs.length r.cap) r.cs ∧ r.cs.length ≤ maxLen := by
  obtain ⟨xs, n, _, _, hlen, hxl, hg⟩ := DataW.trod_struct Try.underlying42 h
  rw [cells_line] at hlen
  match cs, hlen with
  | [c0, c1, c2], _ =>
    obtain ⟨y0, e0⟩ := some_of (i := 0) hxl (by decide)
    obtain ⟨y1, e1⟩ := some_of (i := 1) hxl (by decide)
    obtain ⟨y2, e2⟩ := some_of (i := 2) hxl (by decide)
    have h0 : DataW.trod enc Try.prog w base spare held n 38 (([c0, c1, c2].drop 0).take (Try.prog.cellsOf 38)) = xs[0]? := hg 0 _ rfl
    have h1 : DataW.trod enc Try.prog w base spare held n 3 (([c0, c1, c2].drop 1).take (Try.prog.cellsOf 3)) = xs[1]? := hg 1 _ rfl
    have h2 : DataW.trod enc Try.prog w base spare held n 4 (([c0, c1, c2].drop 2).take (Try.prog.cellsOf 4)) = xs[2]? := hg 2 _ rfl
    rw [e0] at h0
    rw [e1] at h1
    rw [e2] at h2
    rw [cells_slice] at h0
    rw [cells_bool] at h2
    rw [cells_int] at h1
    simp only [List.drop_zero, List.drop_succ_cons, List.take_succ_cons, List.take_zero] at h0 h1 h2
    obtain ⟨A, m, cap, f, p0, k1, k2, k3⟩ := slice_open h0
    obtain ⟨a1, p1, _⟩ := DataW.trod_int Try.underlying3 h1
    obtain ⟨b2, p2, _⟩ := DataW.trod_bool Try.underlying4 h2
    simp at p0 p1 p2
    refine ⟨⟨A, cap, listF m f, a1, b2⟩, ?_, ?_, ?_⟩
    · simp [Ln.cells, listF_len, p0, p1, p2]
    · show RdX encC w (.slice A (listF m f).length cap) (listF m f)
      rw [listF_len]
      exact rd_toX k3 k1
    · show (listF m f).length ≤ maxLen
      rw [listF_len]
      omega
set_option maxRecDepth 100000 in
theorem lines_open {fuel : Nat} {cs : List Value} {x : DataW H × List MemPlace} (h : DataW.trod enc Try.prog w base spare held fuel 22 cs = some x) :
    ∃ (v : Value) (L : List Ln), cs = [v] ∧ RdL0 w v L ∧ L.length ≤ maxLen := by
  rcases Deep.open_slice Try.underlying22 h with ⟨rfl, _⟩ | ⟨a, n, cap, m, fu, D, Pl, rfl, _, hnc, hcap, hm, _, hx⟩
  · exact ⟨_, [], rfl, ⟨RdX.nil w none 0, fun r hr => by cases hr⟩, by simp⟩
  · have hnm : n ≤ m := by rw [hm]; split <;> omega
    have hall : ∀ i, i < n → a.spot = none ∧ a.block < w.heap.size ∧ ∃ r : Ln, AtX encL w a.block (a.off + i * 3) r ∧ RdX encC w (.slice r.A r.cs.length r.cap) r.cs ∧ r.cs.length ≤ maxLen := fun i hi => by
      obtain ⟨cs', h1, h2⟩ := hx i (by omega)
      obtain ⟨r, rfl, hok⟩ := line_of_trod h2
      rw [cells_line] at h1
      obtain ⟨_, _, hat⟩ := World.cells?_some h1
      obtain ⟨b, o, sp⟩ := a
      cases sp with
      | some s0 =>
        exfalso
        obtain ⟨cs0, g1, g2⟩ := hx 0 (by omega)
        rw [cells_line] at g1
        obtain ⟨_, gl, gat⟩ := World.cells?_some g1
        have h0 := gat 0 (by omega)
        have e : ((⟨b, o, some s0⟩ : Addr).add (0 * 3)).add 0 = ⟨b, o, some s0⟩ := rfl
        rw [e, List.getElem?_eq_getElem (by omega)] at h0
        unfold World.cell? at h0
        split at h0 <;> simp at h0
      | none =>
        have hb : b < w.heap.size := by
          have h0 := hat 0 (by omega)
          have hb := World.block_lt_of_cell? w _ h0
          have e : (((⟨b, o, none⟩ : Addr).add (i * 3)).add 0).block = b := by unfold Addr.add; split <;> split <;> rfl
          rwa [e] at hb
        have hc : ∀ j, j < 3 → w.cell? ⟨b, o + i * 3 + j, none⟩ = r.cells[j]? := fun j hj => by
          have h0 := hat j hj
          have e : ((⟨b, o, none⟩ : Addr).add (i * 3)).add j = ⟨b, o + i * 3 + j, none⟩ := by
            unfold Addr.add
            split <;> split <;> simp_all
          rwa [e] at h0
        exact ⟨rfl, hb, r, fun j u hu => by have hj : j < 3 := (List.getElem?_eq_some_iff.1 hu).1
                                            exact (hc j hj).trans hu, hok⟩
    have hch : ∀ i, ∃ r : Ln, i < n → AtX encL w a.block (a.off + i * 3) r ∧ RdX encC w (.slice r.A r.cs.length r.cap) r.cs ∧ r.cs.length ≤ maxLen := fun i => by
      by_cases hi : i < n
      · obtain ⟨_, _, r, hr⟩ := hall i hi
        exact ⟨r, fun _ => hr⟩
      · exact ⟨⟨none, 0, [], 0, false⟩, fun h => absurd h hi⟩
    have hlen : ((List.range n).map fun i => (hch i).choose).length = n := by simp
    refine ⟨_, (List.range n).map fun i => (hch i).choose, rfl, ⟨⟨some a, cap, by rw [hlen], by rw [hlen]; exact hnc, fun hn => ?_⟩, fun r hr => ?_⟩, by rw [hlen]; omega⟩
    · rw [hlen] at hn
      obtain ⟨b, o, sp⟩ := a
      obtain ⟨rfl, hb, _⟩ := hall 0 hn
      refine ⟨b, o, rfl, hb, fun j r hj => ?_⟩
      have hjn : j < n := by have := (List.getElem?_eq_some_iff.1 hj).1; rwa [hlen] at this
      have hr : r = (hch j).choose := by
        rw [List.getElem?_map, List.getElem?_range hjn] at hj
        exact (Option.some.inj hj).symm
      rw [hr]
      exact ((hch j).choose_spec hjn).1
    · obtain ⟨i, hi, rfl⟩ := List.mem_map.1 hr
      exact ((hch i).choose_spec (List.mem_range.1 hi)).2
theorem lines_arg {W : World} {v : Value} {d : DataW H} {p : List MemPlace} (ht : DataW.Trod enc Try.prog W 0 (fun _ => true) true 22 v d p) (hc : v.cells = #[v]) : ∃ L : List Ln, RdL0 W v L ∧ L.length ≤ maxLen := by
  obtain ⟨fuel, hf⟩ := ht
  rw [hc] at hf
  obtain ⟨v', L, e, h1, h2⟩ := lines_open hf
  obtain rfl : v = v' := by simpa using e
  exact ⟨L, h1, h2⟩
end
end Go.Proofs.Ytlgnchhhadnjbaa.Row
