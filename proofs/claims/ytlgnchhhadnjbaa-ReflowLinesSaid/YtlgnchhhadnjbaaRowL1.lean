/- What Put does, in plain Lean: what is put is there. -/
import Derived.Test.YtlgnchhhadnjbaaRowPure
namespace Go.Proofs.Ytlgnchhhadnjbaa.Row

theorem lost_iff {n : Nat} {f : Nat → Cl} {i : Nat} : lostB n f i = true ↔ ((f i).w = 0 ∧ (i = 0 ∨ (f (i - 1)).w ≠ 2) ∨ (f i).w = 2 ∧ (i + 1 = n ∨ (f (i + 1)).w ≠ 0)) := by unfold lostB; simp only [decide_eq_true_eq]
theorem lost_not {n : Nat} {f : Nat → Cl} {i : Nat} : lostB n f i = false ↔ ¬ ((f i).w = 0 ∧ (i = 0 ∨ (f (i - 1)).w ≠ 2) ∨ (f i).w = 2 ∧ (i + 1 = n ∨ (f (i + 1)).w ≠ 0)) := by unfold lostB; simp only [decide_eq_false_iff_not]
theorem mend_w (n : Nat) (f : Nat → Cl) (i : Nat) : (mend n f i).w = if lostB n f i = true then 1 else (f i).w := by unfold mend; split <;> rfl
theorem mend_keep {n : Nat} {f : Nat → Cl} {i : Nat} (h : lostB n f i = false) : mend n f i = f i := by
  unfold mend
  rw [h]
  rfl
theorem mend_lost {n : Nat} {f : Nat → Cl} {i : Nat} (hi : i < n) : lostB n (mend n f) i = false := by
  rw [lost_not, mend_w, mend_w, mend_w]
  simp only [lost_iff]
  by_cases h0 : i = 0
  · subst h0
    grind
  · rw [show i - 1 + 1 = i by omega, show i + 1 - 1 = i by omega]
    grind
theorem mend_none {n : Nat} {f : Nat → Cl} (h : ∀ i, i < n → lostB n f i = false) {i : Nat} (hi : i < n) : mend n f i = f i := by
  unfold mend
  rw [h i hi]
  rfl
theorem lost_congr {n : Nat} {f g : Nat → Cl} (h : ∀ i, i < n → f i = g i) {i : Nat} (hi : i < n) : lostB n f i = lostB n g i := by
  rw [Bool.eq_iff_iff, lost_iff, lost_iff, h i hi]
  have e1 : i ≠ 0 → f (i - 1) = g (i - 1) := fun _ => h _ (by omega)
  have e2 : i + 1 ≠ n → f (i + 1) = g (i + 1) := fun _ => h _ (by omega)
  grind
theorem mend_congr {n : Nat} {f g : Nat → Cl} (h : ∀ i, i < n → f i = g i) {i : Nat} (hi : i < n) : mend n f i = mend n g i := by
  unfold mend
  rw [lost_congr h hi, h i hi]
theorem fits_iff {c : Cl} : fitsB c = true ↔ (0 ≤ c.m0 ∧ c.m0 ≤ 1114111 ∧ (c.m0 ≠ 0 → c.r ≠ 0) ∧ 0 ≤ c.m1 ∧ c.m1 ≤ 1114111 ∧ (c.m1 ≠ 0 → c.r ≠ 0) ∧ 0 ≤ c.r ∧ c.r ≤ 1114111 ∧ (c.m0 = 0 → c.m1 = 0) ∧ penB c.fg c.bg c.fl = true ∧ (c.w = 0 ∧ c.r = 0 ∨ c.w = 1 ∨ c.w = 2 ∧ c.r ≠ 0)) := by unfold fitsB; simp only [decide_eq_true_eq]
theorem fits_blank {fg bg fl : Int} (h : penB fg bg fl = true) : fitsB (blank fg bg fl) = true := by
  rw [fits_iff]
  unfold blank
  simp [h]
theorem fits_pen {c : Cl} (h : fitsB c = true) : penB c.fg c.bg c.fl = true := (fits_iff.1 h).2.2.2.2.2.2.2.2.2.1
theorem fits_bl {c : Cl} (h : fitsB c = true) : fitsB c.bl = true := fits_blank (fits_pen h)
theorem sane_iff {n : Nat} {f : Nat → Cl} {dir : Int} : saneB n f dir = true ↔ (1 ≤ n ∧ n ≤ 4096 ∧ 0 ≤ dir ∧ dir ≤ 2 ∧ ∀ i, i < n → fitsB (f i) = true ∧ lostB n f i = false) := by unfold saneB; simp only [decide_eq_true_eq]
theorem sane_mend {n : Nat} {f : Nat → Cl} {dir : Int} (h1 : 1 ≤ n) (h2 : n ≤ 4096) (h3 : 0 ≤ dir) (h4 : dir ≤ 2) (hf : ∀ i, i < n → fitsB (f i) = true) : saneB n (mend n f) dir = true := by
  rw [sane_iff]
  refine ⟨h1, h2, h3, h4, fun i hi => ⟨?_, mend_lost hi⟩⟩
  unfold mend
  split
  · exact fits_bl (hf i hi)
  · exact hf i hi
theorem sane_congr {n : Nat} {f g : Nat → Cl} {dir : Int} (h : ∀ i, i < n → f i = g i) : saneB n f dir = saneB n g dir := by
  rw [Bool.eq_iff_iff, sane_iff, sane_iff]
  constructor
  · rintro ⟨a, b, c, d, e⟩
    exact ⟨a, b, c, d, fun i hi => by rw [← h i hi, ← lost_congr h hi]; exact e i hi⟩
  · rintro ⟨a, b, c, d, e⟩
    exact ⟨a, b, c, d, fun i hi => by rw [h i hi, lost_congr h hi]; exact e i hi⟩

def half (c : Cl) : Cl := ⟨0, 0, 0, 0, c.fg, c.bg, c.fl⟩
/-- what lies where a cell was put, before mending -/
def putF (f : Nat → Cl) (k : Nat) (c : Cl) : Nat → Cl := if c.w = 2 then upd (upd f k c) (k + 1) (half c) else upd f k c
/-- may a cell be put there? -/
def putOk (n k : Nat) (c : Cl) : Bool := fitsB c && ((c.w == 1 || c.w == 2) && decide ((k : Int) + c.w ≤ n))
/-- what Put makes of a row -/
def putR (n : Nat) (f : Nat → Cl) (k : Nat) (c : Cl) : Nat → Cl := if putOk n k c = true then mend n (putF f k c) else f
theorem putF_at (f : Nat → Cl) (k : Nat) (c : Cl) (i : Nat) : putF f k c i = if i = k then c else if c.w = 2 ∧ i = k + 1 then half c else f i := by
  unfold putF upd
  by_cases h2 : c.w = 2
  · rw [if_pos h2]
    by_cases hk : i = k
    · subst hk
      simp
    · simp [hk, h2]
  · rw [if_neg h2]
    simp [h2]
theorem fits_half {c : Cl} (h : fitsB c = true) : fitsB (half c) = true := by
  rw [fits_iff]
  unfold half
  simp [fits_pen h]
theorem putOk_iff {n k : Nat} {c : Cl} : putOk n k c = true ↔ (fitsB c = true ∧ (c.w = 1 ∨ c.w = 2) ∧ (k : Int) + c.w ≤ n) := by unfold putOk; simp
theorem putR_sane {n : Nat} {f : Nat → Cl} {dir : Int} (hs : saneB n f dir = true) (k : Nat) (c : Cl) : saneB n (putR n f k c) dir = true := by
  unfold putR
  split
  · rename_i h
    obtain ⟨a1, a2, a3, a4, a5⟩ := sane_iff.1 hs
    refine sane_mend a1 a2 a3 a4 fun i hi => ?_
    rw [putF_at]
    split
    · exact (putOk_iff.1 h).1
    · split
      · exact fits_half (putOk_iff.1 h).1
      · exact (a5 i hi).1
  · exact hs
/-- WHAT IS PUT IS THERE -/
theorem put_there {n : Nat} {f : Nat → Cl} {dir : Int} (hs : saneB n f dir = true) {k : Nat} (hk : k < n) {c : Cl} (hg : putR n f k c k = c) :
    (∀ i, i < n → ((k : Int) ≤ i ∧ (i : Int) < k + c.w) ∨ putR n f k c i = f i ∨ (((i : Int) = k - 1 ∨ (i : Int) = k + c.w) ∧ putR n f k c i = (f i).bl)) ∧
    (c.w = 2 → k + 1 < n ∧ (putR n f k c (k + 1)).w = 0 ∧ (putR n f k c (k + 1)).fg = c.fg ∧ (putR n f k c (k + 1)).bg = c.bg ∧ (putR n f k c (k + 1)).fl = c.fl) ∧
    (∀ i, i < n → putR n (putR n f k c) k c i = putR n f k c i) := by
  obtain ⟨a1, a2, a3, a4, a5⟩ := sane_iff.1 hs
  cases hp : putOk n k c
  · have e : putR n f k c = f := by unfold putR; rw [hp]; rfl
    rw [e] at hg ⊢
    refine ⟨fun i _ => .inr (.inl rfl), fun h2 => ?_, fun i _ => by rw [e]⟩
    have hl := (a5 k hk).2
    rw [lost_not, hg] at hl
    have hf := (a5 k hk).1
    rw [hg] at hf
    have hp' : ¬ putOk n k c = true := by rw [hp]; exact Bool.false_ne_true
    rw [putOk_iff] at hp'
    exfalso
    have : k + 1 ≠ n := fun h => hl (.inr ⟨h2, .inl h⟩)
    exact hp' ⟨hf, .inr h2, by rw [h2]; omega⟩
  · obtain ⟨hf, hw, hkw⟩ := putOk_iff.1 hp
    have e : putR n f k c = mend n (putF f k c) := by unfold putR; rw [hp]; rfl
    -- the widths before mending
    have hat := putF_at f k c
    have hlk : lostB n (putF f k c) k = false := by
      rw [lost_not, hat, if_pos rfl, hat (k + 1), if_neg (by omega)]
      rintro (⟨h, _⟩ | ⟨h, h' | h'⟩)
      · omega
      · rw [h] at hkw; omega
      · rw [if_pos ⟨h, rfl⟩] at h'
        exact h' rfl
    have hlk1 : c.w = 2 → lostB n (putF f k c) (k + 1) = false := fun h2 => by
      rw [lost_not, hat, if_neg (by omega), if_pos ⟨h2, rfl⟩]
      rintro (⟨_, h | h⟩ | ⟨h, _⟩)
      · omega
      · rw [show k + 1 - 1 = k by omega, hat, if_pos rfl] at h
        exact h h2
      · exact absurd h (by show ¬ ((0 : Int) = 2); omega)
    rw [e] at hg ⊢
    refine ⟨fun i hi => ?_, fun h2 => ?_, fun i hi => ?_⟩
    · by_cases hin : (k : Int) ≤ i ∧ (i : Int) < k + c.w
      · exact .inl hin
      · have hfi : putF f k c i = f i := by rw [hat, if_neg (by omega), if_neg (by omega)]
        cases hl : lostB n (putF f k c) i
        · right; left
          unfold mend
          rw [hl, hfi]
          rfl
        · right; right
          refine ⟨?_, by unfold mend; rw [hl, hfi]; rfl⟩
          have hli := (a5 i hi).2
          rw [lost_iff, hfi] at hl
          rw [lost_not] at hli
          have e1 := hat (i - 1)
          have e2 := hat (i + 1)
          by_cases h1 : (i : Int) = k - 1
          · exact .inl h1
          · by_cases h2 : (i : Int) = k + c.w
            · exact .inr h2
            · exfalso
              apply hli
              rcases hl with ⟨u, v⟩ | ⟨u, v⟩
              · refine .inl ⟨u, ?_⟩
                rcases v with v | v
                · exact .inl v
                · by_cases h0 : i = 0
                  · exact .inl h0
                  · rw [if_neg (by omega), if_neg (by omega)] at e1
                    rw [e1] at v
                    exact .inr v
              · refine .inr ⟨u, ?_⟩
                rcases v with v | v
                · exact .inl v
                · rw [if_neg (by omega), if_neg (by omega)] at e2
                  rw [e2] at v
                  exact .inr v
    · have hk1 : mend n (putF f k c) (k + 1) = half c := by
        rw [mend_keep (hlk1 h2), hat, if_neg (by omega), if_pos ⟨h2, rfl⟩]
      rw [hk1]
      exact ⟨by rw [h2] at hkw; omega, rfl, rfl, rfl, rfl⟩
    · have e2 : putR n (mend n (putF f k c)) k c = mend n (putF (mend n (putF f k c)) k c) := by unfold putR; rw [hp]; rfl
      rw [e2]
      have hsame : ∀ i, putF (mend n (putF f k c)) k c i = mend n (putF f k c) i := fun j => by
        rw [putF_at]
        split
        · rename_i h; subst h; exact hg.symm
        · split
          · rename_i h
            obtain ⟨h2, rfl⟩ := h
            rw [mend_keep (hlk1 h2), hat, if_neg (by omega), if_pos ⟨h2, rfl⟩]
          · rfl
      rw [mend_congr (g := mend n (putF f k c)) (fun j _ => hsame j) hi]
      exact mend_none (fun j hj => mend_lost hj) hi
/-- .. and where it is not there, nothing was done -/
theorem put_not {n : Nat} {f : Nat → Cl} {k : Nat} {c : Cl} (hg : putR n f k c k ≠ c) : putR n f k c = f := by
  cases hp : putOk n k c
  · unfold putR
    rw [hp]
    rfl
  · exfalso
    apply hg
    obtain ⟨hf, hw, hkw⟩ := putOk_iff.1 hp
    have hlk : lostB n (putF f k c) k = false := by
      rw [lost_not, putF_at, if_pos rfl, putF_at f k c (k + 1), if_neg (by omega)]
      rintro (⟨h, _⟩ | ⟨h, h' | h'⟩)
      · omega
      · rw [h] at hkw; omega
      · rw [if_pos ⟨h, rfl⟩] at h'
        exact h' rfl
    unfold putR
    rw [hp, if_pos rfl]
    rw [mend_keep hlk, putF_at, if_pos rfl]
end Go.Proofs.Ytlgnchhhadnjbaa.Row
