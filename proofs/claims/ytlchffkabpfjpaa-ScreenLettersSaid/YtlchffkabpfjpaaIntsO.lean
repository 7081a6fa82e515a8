/- A slice of ints that comes in. -/
import Derived.Test.YtlchffkabpfjpaaGG
import Derived.Test.YtlchffkabpfjpaaFrame
import Derived.Deep.Slices
namespace Go.Proofs.Ytlchffkabpfjpaa.Tab
open Go.ChangeShapes Go.WideShapes Go.ChangeAt Go.RowKit
theorem cells_int : Try.prog.cellsOf 3 = 1 := by kernel_rfl
section
variable {H : Type} {enc : TypeId × Value → H} {w : World} {base : Nat} {spare : Nat → Bool} {held : Bool}
theorem some_of {α : Type} {xs : List α} {n i : Nat} (h : xs.length = n) (hi : i < n) : ∃ y, xs[i]? = some y := ⟨_, List.getElem?_eq_getElem (by omega)⟩
set_option maxRecDepth 100000 in
/-- a slice of ints that comes in reads as ints -/
theorem ints_open {fuel : Nat} {cs : List Value} {x : DataW H × List MemPlace} (h : DataW.trod enc Try.prog w base spare held fuel 22 cs = some x) :
    ∃ (v : Value) (zs : List Int), cs = [v] ∧ RdI w v zs := by
  rcases Deep.open_slice Try.underlying22 h with ⟨rfl, _⟩ | ⟨a, n, cap, m, fu, D, Pl, rfl, _, hnc, hcap, hm, _, hx⟩
  · exact ⟨_, [], rfl, none, 0, rfl, fun h => absurd h (by simp)⟩
  · have hnm : n ≤ m := by rw [hm]; split <;> omega
    have hall : ∀ i, i < n → a.spot = none ∧ a.block < w.heap.size ∧ ∃ z : Int, w.cell? ⟨a.block, a.off + i, none⟩ = some (.int .i64 z) := fun i hi => by
      obtain ⟨cs', h1, h2⟩ := hx i (by omega)
      obtain ⟨z, p2, _⟩ := DataW.trod_int Try.underlying3 h2
      rw [cells_int, Nat.mul_one] at h1
      obtain ⟨_, _, hat⟩ := World.cells?_some h1
      obtain ⟨b, o, sp⟩ := a
      have h0 := hat 0 (by omega)
      have h00 : ∃ u, w.cell? (((⟨b, o, sp⟩ : Addr).add i).add 0) = some u ∧ cs' = [u] := by
        rw [p2] at h0 ⊢
        exact ⟨_, h0, rfl⟩
      cases sp with
      | some s0 =>
        exfalso
        obtain ⟨cs0, g1, g2⟩ := hx 0 (by omega)
        rw [cells_int] at g1
        obtain ⟨_, gl, gat⟩ := World.cells?_some g1
        have h0 := gat 0 (by omega)
        have e : ((⟨b, o, some s0⟩ : Addr).add (0 * 1)).add 0 = ⟨b, o, some s0⟩ := rfl
        rw [e, List.getElem?_eq_getElem (by omega)] at h0
        unfold World.cell? at h0
        split at h0 <;> simp at h0
      | none =>
        obtain ⟨u, h3, h4⟩ := h00
        have e : ((⟨b, o, none⟩ : Addr).add i).add 0 = ⟨b, o + i, none⟩ := by
          unfold Addr.add
          split <;> split <;> simp_all
        rw [e] at h3
        rw [p2] at h4
        injection h4 with h4
        subst h4
        have hbb := World.block_lt_of_cell? w ⟨b, o + i, none⟩ h3
        exact ⟨rfl, hbb, z, h3⟩
    have hch : ∀ i, ∃ z : Int, i < n → w.cell? ⟨a.block, a.off + i, none⟩ = some (.int .i64 z) := fun i => by
      by_cases hi : i < n
      · obtain ⟨_, _, z, hz⟩ := hall i hi
        exact ⟨z, fun _ => hz⟩
      · exact ⟨0, fun h => absurd h hi⟩
    have hlen : ((List.range n).map fun i => (hch i).choose).length = n := by simp
    refine ⟨_, (List.range n).map fun i => (hch i).choose, rfl, some a, cap, by rw [hlen], fun hn => ?_⟩
    rw [hlen] at hn
    obtain ⟨b, o, sp⟩ := a
    obtain ⟨rfl, hb, _⟩ := hall 0 hn
    refine ⟨b, o, rfl, hb, fun j r hj => ?_⟩
    have hjn : j < n := by have := (List.getElem?_eq_some_iff.1 hj).1; rwa [hlen] at this
    have hr : r = (hch j).choose := by
      rw [List.getElem?_map, List.getElem?_range hjn] at hj
      exact (Option.some.inj hj).symm
    rw [hr]
    exact (hch j).choose_spec hjn
end
theorem ints_arg {H : Type} {enc : TypeId × Value → H} {W : World} {v : Value} {d : DataW H} {p : List MemPlace} (ht : DataW.Trod enc Try.prog W 0 (fun _ => true) true 22 v d p) (hc : v.cells = #[v]) : ∃ zs : List Int, RdI W v zs := by
  obtain ⟨fuel, hf⟩ := ht
  rw [hc] at hf
  obtain ⟨v', zs, e, h1⟩ := ints_open hf
  obtain rfl : v = v' := by simpa using e
  exact ⟨zs, h1⟩
end Go.Proofs.Ytlchffkabpfjpaa.Tab
