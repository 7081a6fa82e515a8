/- What Erase does, in plain Lean: what is erased is blank. -/
import Derived.Test.YtlgnchhhadnjbaaRowL1
import Derived.Test.YtlgnchhhadnjbaaRowC
namespace Go.Proofs.Ytlgnchhhadnjbaa.Row

/-- what Erase makes of a row -/
def eraseR (n : Nat) (f : Nat → Cl) (F T : Nat) (fg bg fl : Int) : Nat → Cl := if penB fg bg fl = true ∧ F < T then mend n (laid f F (T - F) (blank fg bg fl)) else f
theorem laid_at (f : Nat → Cl) {F T : Nat} (h : F < T) (c : Cl) (i : Nat) : laid f F (T - F) c i = if F ≤ i ∧ i < T then c else f i := by
  unfold laid
  rw [show F + (T - F) = T by omega]
theorem erase_sane {n : Nat} {f : Nat → Cl} {dir : Int} (hs : saneB n f dir = true) (F T : Nat) (fg bg fl : Int) : saneB n (eraseR n f F T fg bg fl) dir = true := by
  unfold eraseR
  split
  · rename_i h
    obtain ⟨a1, a2, a3, a4, a5⟩ := sane_iff.1 hs
    refine sane_mend a1 a2 a3 a4 fun i hi => ?_
    unfold laid
    split
    · exact fits_blank h.1
    · exact (a5 i hi).1
  · exact hs
theorem erase_congr {n : Nat} {f g : Nat → Cl} (h : ∀ i, i < n → f i = g i) (F T : Nat) (fg bg fl : Int) {i : Nat} (hi : i < n) : eraseR n f F T fg bg fl i = eraseR n g F T fg bg fl i := by
  unfold eraseR
  split
  · refine mend_congr (fun j hj => ?_) hi
    unfold laid
    rw [h j hj]
  · exact h i hi
theorem blank_w (fg bg fl : Int) : (blank fg bg fl).w = 1 := rfl
/-- what is erased is not lost -/
theorem erased_not_lost {n : Nat} {f : Nat → Cl} {F T : Nat} (h : F < T) {fg bg fl : Int} {i : Nat} (h1 : F ≤ i) (h2 : i < T) : lostB n (laid f F (T - F) (blank fg bg fl)) i = false := by
  rw [lost_not, laid_at f h, if_pos ⟨h1, h2⟩, blank_w]
  omega
/-- WHAT IS ERASED IS BLANK, all else as it was but for halves; erased twice it is the same -/
theorem erase_there {n : Nat} {f : Nat → Cl} {dir : Int} (hs : saneB n f dir = true) {F T : Nat} {fg bg fl : Int} (hFT : F < T) (hp : penB fg bg fl = true) :
    (∀ i, i < n → F ≤ i → i < T → eraseR n f F T fg bg fl i = blank fg bg fl) ∧
    (∀ i, i < n → ¬ (F ≤ i ∧ i < T) → eraseR n f F T fg bg fl i = f i ∨ ((i + 1 = F ∨ i = T) ∧ eraseR n f F T fg bg fl i = (f i).bl)) := by
  have e : eraseR n f F T fg bg fl = mend n (laid f F (T - F) (blank fg bg fl)) := by unfold eraseR; rw [if_pos ⟨hp, hFT⟩]
  rw [e]
  refine ⟨fun i _ h1 h2 => by rw [mend_keep (erased_not_lost hFT h1 h2), laid_at f hFT, if_pos ⟨h1, h2⟩], fun i hi hn => ?_⟩
  have hat := laid_at f hFT (blank fg bg fl)
  have hfi : laid f F (T - F) (blank fg bg fl) i = f i := by rw [hat, if_neg hn]
  cases hl : lostB n (laid f F (T - F) (blank fg bg fl)) i
  · left
    rw [mend_keep hl, hfi]
  · right
    refine ⟨?_, by unfold mend; rw [hl, hfi]; rfl⟩
    have hli := lost_of_sane hs hi
    rw [lost_iff, hfi] at hl
    rw [lost_not] at hli
    have e1 := hat (i - 1)
    have e2 := hat (i + 1)
    by_cases c1 : i + 1 = F
    · exact .inl c1
    · by_cases c2 : i = T
      · exact .inr c2
      · exfalso
        apply hli
        rcases hl with ⟨u, v⟩ | ⟨u, v⟩
        · refine .inl ⟨u, ?_⟩
          rcases v with v | v
          · exact .inl v
          · by_cases h0 : i = 0
            · exact .inl h0
            · rw [if_neg (by omega)] at e1
              rw [e1] at v
              exact .inr v
        · refine .inr ⟨u, ?_⟩
          rcases v with v | v
          · exact .inl v
          · rw [if_neg (by omega)] at e2
            rw [e2] at v
            exact .inr v
theorem erase_twice {n : Nat} {f : Nat → Cl} {dir : Int} (hs : saneB n f dir = true) {F T : Nat} {fg bg fl : Int} {i : Nat} (hi : i < n) :
    eraseR n (eraseR n f F T fg bg fl) F T fg bg fl i = eraseR n f F T fg bg fl i := by
  by_cases h : penB fg bg fl = true ∧ F < T
  · obtain ⟨t1, _⟩ := erase_there hs h.2 h.1
    have hs2 := erase_sane hs F T fg bg fl
    generalize eraseR n f F T fg bg fl = g at *
    unfold eraseR
    rw [if_pos h]
    have hsame : ∀ j, j < n → laid g F (T - F) (blank fg bg fl) j = g j := fun j hj => by
      rw [laid_at g h.2]
      split
      · rename_i hh
        exact (t1 j hj hh.1 hh.2).symm
      · rfl
    rw [mend_congr hsame hi]
    exact mend_none (fun j hj => lost_of_sane hs2 hj) hi
  · unfold eraseR
    rw [if_neg h, if_neg h]
theorem erase_none_eq {n : Nat} {f : Nat → Cl} {F T : Nat} {fg bg fl : Int} (h : ¬ (penB fg bg fl = true ∧ F < T)) : eraseR n f F T fg bg fl = f := by unfold eraseR; rw [if_neg h]
end Go.Proofs.Ytlgnchhhadnjbaa.Row
