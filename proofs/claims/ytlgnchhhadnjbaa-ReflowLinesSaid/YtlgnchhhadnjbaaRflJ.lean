/- reflow.Join: what it computes, words. -/
import Derived.Test.YtlgnchhhadnjbaaRflE
import Derived.Test.YtlgnchhhadnjbaaRflT
namespace Go.RowKit
section
variable {α : Type} {E : Enc α}
theorem flat_set {a a' : α} {i : Nat} {u : Value} (hi : i < E.size) (hc : E.cells a' = (E.cells a).set i u) : ∀ (L : List α) (k : Nat), L[k]? = some a → (L.set k a').flatMap E.cells = (L.flatMap E.cells).set (k * E.size + i) u
  | [], k, h => by simp at h
  | b :: l, 0, h => by
    obtain rfl : b = a := by simpa using h
    rw [List.set_cons_zero, List.flatMap_cons, List.flatMap_cons, hc, Nat.zero_mul, Nat.zero_add, List.set_append_left _ _ (by rw [E.len]; exact hi)]
  | b :: l, k + 1, h => by
    rw [List.set_cons_succ, List.flatMap_cons, List.flatMap_cons, flat_set hi hc l k (by simpa using h), List.set_append_right _ _ (by rw [E.len, Nat.add_mul]; omega), E.len, show (k + 1) * E.size + i - E.size = k * E.size + i by rw [Nat.add_mul]; omega]
theorem ownX_set {w : World} {base e g n c : Nat} {L : List α} {k i : Nat} {a a' : α} {u : Value} (h : OwnX E w base e (.slice (some ⟨g, 0, none⟩) n c) L) (hk : L[k]? = some a) (hi : i < E.size) (hc : E.cells a' = (E.cells a).set i u) {p : Nat} (hp : p = k * E.size + i) :
    OwnX E (w.setCell ⟨g, p, none⟩ u) base e (.slice (some ⟨g, 0, none⟩) n c) (L.set k a') := by
  subst hp
  unfold OwnX World.ownsRow at *
  obtain ⟨hl, ⟨h0, _⟩ | ⟨g', cap, cur, hv, hb, hg, h1, h2, h3, h4⟩⟩ := h
  · cases h0
  · injection hv with e1 e2 e3
    injection e1 with e1
    injection e1 with e1 _
    subst e1 e2 e3
    rw [List.length_set]
    refine ⟨by rw [flat_set hi hc L k hk, List.length_set]; exact hl, .inr ⟨g, c, cur.setIfInBounds (k * E.size + i) u, rfl, hb, ?_, h1, h2, by rw [Array.size_setIfInBounds]; exact h3, ?_⟩⟩
    · simp [World.setCell, Array.getElem?_modify, hg]
    · rw [Array.toList_setIfInBounds, List.take_set, h4, flat_set hi hc L k hk]
theorem rdX_take {w : World} {A : Option Addr} {n c : Nat} {L : List α} (h : RdX E w (.slice A n c) L) {k m : Nat} (hk : k ≤ L.length) (hm : m = k) : RdX E w (.slice A m c) (L.take k) := by
  subst hm
  obtain ⟨A', c', e, hc, hcell⟩ := h
  injection e with e1 e2 e3
  subst e1 e3
  have hl : (L.take m).length = m := by rw [List.length_take]; omega
  refine ⟨A, c, by rw [hl], by omega, fun h0 => ?_⟩
  obtain ⟨b, o, rfl, hb, hat⟩ := hcell (by omega)
  refine ⟨b, o, rfl, hb, fun j a ha => hat j a ?_⟩
  rw [List.getElem?_take] at ha
  split at ha
  · exact ha
  · cases ha
theorem rdX_set {w : World} {v : Value} {L : List α} (h : RdX E w v L) {p : Addr} {u : Value} (hne : ∀ A n c, v = .slice A n c → ∀ b o, A = some ⟨b, o, none⟩ → b ≠ p.block) : RdX E (w.setCell p u) v L := by
  obtain ⟨A, c, rfl, hc, hcell⟩ := h
  refine ⟨A, c, rfl, hc, fun h0 => ?_⟩
  obtain ⟨b, o, rfl, hb, hat⟩ := hcell h0
  have hb' := hne _ _ _ rfl b o rfl
  refine ⟨b, o, rfl, by simpa [World.setCell] using hb, fun j a ha i u' hu => ?_⟩
  have := hat j a ha i u' hu
  unfold World.cell? at this ⊢
  rw [Below.heap_setCell _ _ _ _ (fun e => hb' e)]
  exact this
end
end Go.RowKit
namespace Go.Proofs.Ytlgnchhhadnjbaa.Row
open Go.RowKit
/-- the cells of a row that go into a line -/
def keptC (l : List Cl) : List Cl := l.filter (fun c => c.w != 0)
/-- the last line grows -/
def addL (M : List Ls) (cs : List Cl) : List Ls := M.dropLast ++ (match M.getLast? with | some x => [⟨x.cs ++ cs, x.dir, x.ex⟩] | none => [])
theorem addL_app (M : List Ls) (x : Ls) (cs : List Cl) : addL (M ++ [x]) cs = M ++ [⟨x.cs ++ cs, x.dir, x.ex⟩] := by
  unfold addL
  simp
/-- lines behind k rows; does the last one go on? -/
def joinN (L : List Rw) : Nat → List Ls × Bool
  | 0 => ([], false)
  | k + 1 => match L[k]? with
    | some r => (addL (if (joinN L k).2 = true then (joinN L k).1 else (joinN L k).1 ++ [⟨[], r.dir, r.ex⟩]) (keptC ((listF r.n r.f).take (rmN r L[k + 1]?))), r.wb)
    | none => joinN L k
def trimS (x : Ls) : Ls := ⟨trimL x.cs, x.dir, x.ex⟩
def joinR (L : List Rw) : List Ls := (joinN L L.length).1.map trimS
/-- a line whose cells lie in a block of the call's own (or nowhere), below B, but not in 'own' -/
def FrL (w : World) (base B : Nat) (own : Option Nat) (l : Ln) : Prop := RdX encC w (.slice l.A l.cs.length l.cap) l.cs ∧ ∀ b o, l.A = some ⟨b, o, none⟩ → base ≤ b ∧ b < B ∧ some b ≠ own
theorem FrL.of {w w' : World} {base B : Nat} {own : Option Nat} {l : Ln} (h : FrL w base B own l) (hs : w.heap.size ≤ w'.heap.size) (hb : ∀ b, b < B → b < w.heap.size → some b ≠ own → base ≤ b → w'.heap[b]? = w.heap[b]?) : FrL w' base B own l := by
  refine ⟨?_, h.2⟩
  obtain ⟨A, c, e, hc, hcell⟩ := h.1
  injection e with e1 e2 e3
  refine ⟨A, c, by rw [e1, e3], hc, fun h0 => ?_⟩
  obtain ⟨b, o, rfl, hlt, hat⟩ := hcell h0
  obtain ⟨h1, h2, h3⟩ := h.2 b o e1
  refine ⟨b, o, rfl, Nat.lt_of_lt_of_le hlt hs, fun j a ha i u hu => ?_⟩
  have := hat j a ha i u hu
  unfold World.cell? at this ⊢
  rw [hb b h2 hlt h3 h1]
  exact this
theorem FrL.own {w : World} {base B B' : Nat} {own own' : Option Nat} {l : Ln} (h : FrL w base B own l) (hB : B ≤ B') (ho : ∀ b, b < B → some b ≠ own → some b ≠ own') : FrL w base B' own' l :=
  ⟨h.1, fun b o e => by obtain ⟨h1, h2, h3⟩ := h.2 b o e; exact ⟨h1, by omega, ho b h2 h3⟩⟩
theorem keptC_app (a b : List Cl) : keptC (a ++ b) = keptC a ++ keptC b := by unfold keptC; exact List.filter_append ..
end Go.Proofs.Ytlgnchhhadnjbaa.Row
