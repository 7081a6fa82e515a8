/- A part of a slice, under one name: what the cut gives, and what it reads as. -/
import Derived.Test.YtlgnchhhadnjbaaLists
namespace Go.RowKit
section
variable {α : Type} {E : Enc α} {P : Program}
theorem cut_rd {L : List α} {A : Option Addr} {N c lo hi c' : Nat} (h1 : lo ≤ hi) (h2 : hi ≤ N) (w : World) (hr : RdX E w (.slice A N c) L) (hc : hi - lo ≤ c') (q : Prop) [Decidable q] (hq : q → hi = lo) :
    RdX E w (.slice (if q then A else A.map (·.add (lo * E.size))) (hi - lo) c') ((L.drop lo).take (hi - lo)) := by
  obtain ⟨_, _, e, _, _⟩ := id hr
  injection e with _ e2 _
  by_cases hn : hi - lo = 0
  · rw [hn, List.take_zero]
    exact RdX.nil _ _ _
  · have hnq : ¬ q := fun h => hn (by have := hq h; omega)
    rw [if_neg hnq]
    obtain ⟨b, o, rfl, _, _⟩ := hr.at_ (k := lo) (a := L[lo]'(by omega)) (List.getElem?_eq_getElem (by omega))
    rw [e2] at hr
    rw [show Option.map (fun x : Addr => x.add (lo * E.size)) (some ⟨b, o, none⟩) = some ⟨b, o + lo * E.size, none⟩ by simp [addr_add]]
    exact hr.part (k := lo) (m := hi - lo) (by omega) rfl hc
/-- a part lies in the same block -/
theorem cut_addr {A : Option Addr} {k : Nat} {q : Prop} [Decidable q] {b o : Nat} (h : (if q then A else A.map (·.add k)) = some ⟨b, o, none⟩) : ∃ g o', A = some ⟨b, o', g⟩ := by
  split at h
  · exact ⟨none, o, h⟩
  · cases A with
    | none => cases h
    | some a =>
      obtain ⟨b', o', s⟩ := a
      injection h with h
      unfold Addr.add at h
      split at h
      · injection h with h1 h2 h3
        subst h1
        exact ⟨s, o', rfl⟩
      · injection h with h1 _ _
        have h1 : b' = b := h1
        subst h1
        exact ⟨s, o', rfl⟩
/-- 'x[lo:hi]' -/
theorem slice2 (t e : TypeId) (hu : P.underlying t = some (.slice e)) (hsz : (P.info? e).map (·.size) = some E.size) (A : Option Addr) (N c lo hi : Nat) (h1 : lo ≤ hi) (h2 : hi ≤ N) (h3 : N ≤ c) :
    ∃ A', (∀ b o, A' = some ⟨b, o, none⟩ → ∃ s o', A = some ⟨b, o', s⟩) ∧ (∀ w, (Instr.slice t (.slice A N c) (some (.int .i64 (lo : Int))) (some (.int .i64 (hi : Int))) none).run P w = .ok (.slice A' (hi - lo) (c - lo)) w) ∧
      ∀ w (L : List α), RdX E w (.slice A N c) L → RdX E w (.slice A' (hi - lo) (c - lo)) ((L.drop lo).take (hi - lo)) := by
  refine ⟨if c = lo then A else A.map (·.add (lo * E.size)), fun _ _ h => cut_addr h, fun w => ?_, fun w L hr => cut_rd h1 h2 w hr (by omega) _ (by omega)⟩
  obtain ⟨i, hi', hs⟩ := Option.map_eq_some_iff.1 hsz
  have l1 : (0 : Int) ≤ (hi : Int) ∧ (hi : Int) ≤ (c : Int) := by omega
  have l2 : (0 : Int) ≤ (lo : Int) ∧ (lo : Int) ≤ (hi : Int) := by omega
  simp [Instr.slice, run_underlying hu, Instr.sliceBounds, Instr.sliceBound, asIntOf, l1, l2, sizeOf, typeInfo, hi', hs, h1, show hi ≤ c by omega]
/-- 'x[lo:]' -/
theorem slice1 (t e : TypeId) (hu : P.underlying t = some (.slice e)) (hsz : (P.info? e).map (·.size) = some E.size) (A : Option Addr) (N c lo : Nat) (h2 : lo ≤ N) (h3 : N ≤ c) :
    ∃ A', (∀ b o, A' = some ⟨b, o, none⟩ → ∃ s o', A = some ⟨b, o', s⟩) ∧ (∀ w, (Instr.slice t (.slice A N c) (some (.int .i64 (lo : Int))) none none).run P w = .ok (.slice A' (N - lo) (c - lo)) w) ∧
      ∀ w (L : List α), RdX E w (.slice A N c) L → RdX E w (.slice A' (N - lo) (c - lo)) (L.drop lo) := by
  refine ⟨if c = lo then A else A.map (·.add (lo * E.size)), fun _ _ h => cut_addr h, fun w => ?_, fun w L hr => ?_⟩
  · obtain ⟨i, hi', hs⟩ := Option.map_eq_some_iff.1 hsz
    have l2 : (0 : Int) ≤ (lo : Int) ∧ (lo : Int) ≤ (N : Int) := by omega
    simp [Instr.slice, run_underlying hu, Instr.sliceBounds, Instr.sliceBound, asIntOf, l2, sizeOf, typeInfo, hi', hs, h2]
  · have h := cut_rd (E := E) (c' := c - lo) h2 (Nat.le_refl N) w hr (by omega) (c = lo) (by omega)
    obtain ⟨_, _, e, _, _⟩ := hr
    injection e with _ e2 _
    rw [show (L.drop lo).take (N - lo) = L.drop lo from List.take_of_length_le (by rw [List.length_drop]; omega)] at h
    exact h
/-- 'x[:hi]' -/
theorem slice0 (t e : TypeId) (hu : P.underlying t = some (.slice e)) (hsz : (P.info? e).map (·.size) = some E.size) (A : Option Addr) (N c hi : Nat) (h2 : hi ≤ N) (h3 : N ≤ c) :
    ∃ A', (∀ b o, A' = some ⟨b, o, none⟩ → ∃ s o', A = some ⟨b, o', s⟩) ∧ (∀ w, (Instr.slice t (.slice A N c) none (some (.int .i64 (hi : Int))) none).run P w = .ok (.slice A' hi c) w) ∧
      ∀ w (L : List α), RdX E w (.slice A N c) L → RdX E w (.slice A' hi c) (L.take hi) := by
  refine ⟨if c = 0 then A else A.map (·.add (0 * E.size)), fun _ _ h => cut_addr h, fun w => ?_, fun w L hr => ?_⟩
  · obtain ⟨i, hi', hs⟩ := Option.map_eq_some_iff.1 hsz
    have l1 : (0 : Int) ≤ (hi : Int) ∧ (hi : Int) ≤ (c : Int) := by omega
    simp [Instr.slice, run_underlying hu, Instr.sliceBounds, Instr.sliceBound, asIntOf, l1, sizeOf, typeInfo, hi', show hi ≤ c by omega]
  · exact cut_rd (E := E) (lo := 0) (c' := c) (Nat.zero_le _) h2 w hr (by omega) (c = 0) (by omega)
/-- 'x[lo:hi:hi]' -/
theorem slice3 (t e : TypeId) (hu : P.underlying t = some (.slice e)) (hsz : (P.info? e).map (·.size) = some E.size) (A : Option Addr) (N c lo hi : Nat) (h1 : lo ≤ hi) (h2 : hi ≤ N) (h3 : N ≤ c) :
    ∃ A', (∀ b o, A' = some ⟨b, o, none⟩ → ∃ s o', A = some ⟨b, o', s⟩) ∧ (∀ w, (Instr.slice t (.slice A N c) (some (.int .i64 (lo : Int))) (some (.int .i64 (hi : Int))) (some (.int .i64 (hi : Int)))).run P w = .ok (.slice A' (hi - lo) (hi - lo)) w) ∧
      ∀ w (L : List α), RdX E w (.slice A N c) L → RdX E w (.slice A' (hi - lo) (hi - lo)) ((L.drop lo).take (hi - lo)) := by
  refine ⟨if hi = lo then A else A.map (·.add (lo * E.size)), fun _ _ h => cut_addr h, fun w => ?_, fun w L hr => cut_rd h1 h2 w hr (by omega) _ (by omega)⟩
  obtain ⟨i, hi', hs⟩ := Option.map_eq_some_iff.1 hsz
  have l1 : (0 : Int) ≤ (hi : Int) ∧ (hi : Int) ≤ (c : Int) := by omega
  have l2 : (0 : Int) ≤ (lo : Int) ∧ (lo : Int) ≤ (hi : Int) := by omega
  simp [Instr.slice, run_underlying hu, Instr.sliceBounds, Instr.sliceBound, asIntOf, l1, l2, sizeOf, typeInfo, hi', hs, h1, show hi ≤ c by omega]
end
end Go.RowKit
