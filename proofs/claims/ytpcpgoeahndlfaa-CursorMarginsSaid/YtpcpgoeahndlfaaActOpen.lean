/- Acts that come in: a slice of structs of three ints. -/
import Derived.Test.YtpcpgoeahndlfaaCurOpen
import Derived.Deep.Slices
namespace Go.Proofs.Ytpcpgoeahndlfaa.Cur
open Go.ChangeShapes Go.WideShapes Go.ChangeAt Go.RowKit
theorem cells_int : Try.prog.cellsOf 3 = 1 := by kernel_rfl
theorem cells_act : Try.prog.cellsOf 52 = 3 := by kernel_rfl
section
variable {H : Type} {enc : TypeId × Value → H} {w : World} {base : Nat} {spare : Nat → Bool} {held : Bool}
theorem some_of {α : Type} {xs : List α} {n i : Nat} (h : xs.length = n) (hi : i < n) : ∃ y, xs[i]? = some y := ⟨_, List.getElem?_eq_getElem (by omega)⟩
set_option maxRecDepth 100000 in
theorem act_of_trod {fuel : Nat} {cs : List Value} {x : DataW H × List MemPlace} (h : DataW.trod enc Try.prog w base spare held fuel 52 cs = some x) :
    ∃ a b c : Int, cs = [.int .i64 a, .int .i64 b, .int .i64 c] := by
  obtain ⟨xs, n, _, _, hlen, hxl, hg⟩ := DataW.trod_struct Try.underlying52 h
  rw [cells_act] at hlen
  match cs, hlen with
  | [c0, c1, c2], _ =>
    obtain ⟨y0, e0⟩ := some_of (i := 0) hxl (by decide)
    obtain ⟨y1, e1⟩ := some_of (i := 1) hxl (by decide)
    obtain ⟨y2, e2⟩ := some_of (i := 2) hxl (by decide)
    have h0 : DataW.trod enc Try.prog w base spare held n 3 (([c0, c1, c2].drop 0).take (Try.prog.cellsOf 3)) = xs[0]? := hg 0 _ rfl
    have h1 : DataW.trod enc Try.prog w base spare held n 3 (([c0, c1, c2].drop 1).take (Try.prog.cellsOf 3)) = xs[1]? := hg 1 _ rfl
    have h2 : DataW.trod enc Try.prog w base spare held n 3 (([c0, c1, c2].drop 2).take (Try.prog.cellsOf 3)) = xs[2]? := hg 2 _ rfl
    rw [e0, cells_int] at h0
    rw [e1, cells_int] at h1
    rw [e2, cells_int] at h2
    simp only [List.drop_zero, List.drop_succ_cons, List.take_succ_cons, List.take_zero] at h0 h1 h2
    obtain ⟨a, p0, _⟩ := DataW.trod_int Try.underlying3 h0
    obtain ⟨b, p1, _⟩ := DataW.trod_int Try.underlying3 h1
    obtain ⟨c, p2, _⟩ := DataW.trod_int Try.underlying3 h2
    simp at p0 p1 p2
    exact ⟨a, b, c, by rw [p0, p1, p2]⟩
set_option maxRecDepth 100000 in
theorem acts_open {fuel : Nat} {cs : List Value} {x : DataW H × List MemPlace} (h : DataW.trod enc Try.prog w base spare held fuel 42 cs = some x) :
    ∃ (A : Option Addr) (n cap : Nat), cs = [.slice A n cap] ∧ (0 < n → ∃ (b o : Nat) (fA fB : Nat → Int), A = some ⟨b, o, none⟩ ∧ b < w.heap.size ∧ ∀ i, i < n → w.cell? ⟨b, o + (i * 3 + 1), none⟩ = some (.int .i64 (fA i)) ∧ w.cell? ⟨b, o + (i * 3 + 2), none⟩ = some (.int .i64 (fB i))) := by
  rcases Deep.open_slice Try.underlying42 h with ⟨rfl, _⟩ | ⟨a, n, cap, m, fu, D, Pl, rfl, _, hnc, hcap, hm, _, hx⟩
  · exact ⟨none, 0, 0, rfl, fun h => absurd h (by omega)⟩
  · have hnm : n ≤ m := by rw [hm]; split <;> omega
    refine ⟨some a, n, cap, rfl, fun hn => ?_⟩
    obtain ⟨b, o, sp⟩ := a
    have hall : ∀ i, i < n → sp = none ∧ b < w.heap.size ∧ ∃ x y : Int, w.cell? ⟨b, o + (i * 3 + 1), none⟩ = some (.int .i64 x) ∧ w.cell? ⟨b, o + (i * 3 + 2), none⟩ = some (.int .i64 y) := fun i hi => by
      obtain ⟨cs', h1, h2⟩ := hx i (by omega)
      obtain ⟨u, x, y, rfl⟩ := act_of_trod h2
      rw [cells_act] at h1
      obtain ⟨_, _, hat⟩ := World.cells?_some h1
      cases sp with
      | some s0 =>
        exfalso
        obtain ⟨cs0, g1, g2⟩ := hx 0 (by omega)
        rw [cells_act] at g1
        obtain ⟨_, gl, gat⟩ := World.cells?_some g1
        have h0 := gat 0 (by omega)
        have e : ((⟨b, o, some s0⟩ : Addr).add (0 * 3)).add 0 = ⟨b, o, some s0⟩ := rfl
        rw [e, List.getElem?_eq_getElem (by omega)] at h0
        unfold World.cell? at h0
        split at h0 <;> simp at h0
      | none =>
        have e : ∀ j, ((⟨b, o, none⟩ : Addr).add (i * 3)).add j = ⟨b, o + (i * 3 + j), none⟩ := fun j => by
          unfold Addr.add
          split <;> split <;> simp_all
          omega
        have k1 := hat 1 (by omega)
        have k2 := hat 2 (by omega)
        rw [e] at k1 k2
        have k1' : w.cell? ⟨b, o + (i * 3 + 1), none⟩ = some (.int .i64 x) := k1
        exact ⟨rfl, World.block_lt_of_cell? w ⟨b, o + (i * 3 + 1), none⟩ k1', x, y, k1', k2⟩
    obtain ⟨rfl, hb, _⟩ := hall 0 hn
    have hch : ∀ i, ∃ xy : Int × Int, i < n → w.cell? ⟨b, o + (i * 3 + 1), none⟩ = some (.int .i64 xy.1) ∧ w.cell? ⟨b, o + (i * 3 + 2), none⟩ = some (.int .i64 xy.2) := fun i => by
      by_cases hi : i < n
      · obtain ⟨_, _, x, y, hxy⟩ := hall i hi
        exact ⟨(x, y), fun _ => hxy⟩
      · exact ⟨(0, 0), fun h => absurd h hi⟩
    exact ⟨b, o, fun i => (hch i).choose.1, fun i => (hch i).choose.2, rfl, hb, fun i hi => (hch i).choose_spec hi⟩
theorem acts_arg {W : World} {v : Value} {d : DataW H} {p : List MemPlace} (ht : DataW.Trod enc Try.prog W 0 (fun _ => true) true 42 v d p) (hc : v.cells = #[v]) :
    ∃ (A : Option Addr) (n cap : Nat), v = .slice A n cap ∧ (0 < n → ∃ (b o : Nat) (fA fB : Nat → Int), A = some ⟨b, o, none⟩ ∧ b < W.heap.size ∧ ∀ i, i < n → W.cell? ⟨b, o + (i * 3 + 1), none⟩ = some (.int .i64 (fA i)) ∧ W.cell? ⟨b, o + (i * 3 + 2), none⟩ = some (.int .i64 (fB i))) := by
  obtain ⟨fuel, hf⟩ := ht
  rw [hc] at hf
  obtain ⟨A, n, cap, e, h2⟩ := acts_open hf
  obtain rfl : v = .slice A n cap := by simpa using e
  exact ⟨A, n, cap, rfl, h2⟩
end
end Go.Proofs.Ytpcpgoeahndlfaa.Cur
