/- Walks of row.Letters at an empty range, row.Length, lapwingref03.Ints. -/
import Derived.Test.YtlgnchhhadnjbaaRowI
import Derived.Test.YtlgnchhhadnjbaaRowE
namespace Go.Proofs.Ytlgnchhhadnjbaa.Row
open Go.RowKit

def hasB (c : Cl) : Bool := !(decide (c.r = 0)) || !(decide (c.fg = 0 ∧ c.bg = 0 ∧ c.fl = 0))
/-- how far there is something, of k cells -/
def lenF (f : Nat → Cl) : Nat → Int
  | 0 => 0
  | k + 1 => if hasB (f k) = true then k + max (f k).w 1 else lenF f k

set_option maxRecDepth 100000 in
set_option maxHeartbeats 2000000 in
theorem ints_c (x y : Value) (xs ys : List Int) (w : World) (ha : RdI w x xs) (hb : RdI w y ys) (hn : xs.length ≤ 9223372036854775806) (hm : ys.length ≤ 9223372036854775806) :
    Calls Try.prog 28 #[x, y] w fun e w' => e = .returned (.bool (decide (xs = ys))) ∧ Drew w w' := by
  obtain ⟨A, ca, rfl, ha⟩ := ha
  obtain ⟨B, cb, rfl, hb⟩ := hb
  have HS : Hid (decide (xs = ys) = decide (xs.length = ys.length ∧ ∀ i, i < xs.length → xs[i]? = ys[i]?)) := by
    show decide (xs = ys) = _
    congr 1
    rw [eq_iff_iff]
    constructor
    · rintro rfl
      exact ⟨rfl, fun _ _ => rfl⟩
    · rintro ⟨h1, h2⟩
      apply List.ext_getElem? 
      intro i
      by_cases hi : i < xs.length
      · exact h2 i hi
      · rw [List.getElem?_eq_none (by omega), List.getElem?_eq_none (by omega)]
  generalize decide (xs = ys) = S at *
  by_cases hnm : xs.length = ys.length
  · rw [← hnm] at hb HS ⊢
    have HAL := Lib.hid (show ∀ k, k < xs.length → ∃ a b, xs[k]? = some a ∧ ys[k]? = some b from fun k hk => ⟨xs[k], ys[k]'(by omega), List.getElem?_eq_getElem hk, List.getElem?_eq_getElem (by omega)⟩)
    generalize xs.length = n at *
    clear hnm
    go_enter Try.func28, Try.ntmps28
    go_wp2
    go_loopw [5] (fun i wz => ∃ k : Nat, k ≤ n ∧ i = .int .i64 k ∧ Hid (∀ j, j < k → xs[j]? = ys[j]?) ∧ ∃ d, wz = w.drewN d) (fun i _ => n - (intOf i).toNat)
    case atStart => exact ⟨0, Nat.zero_le _, rfl, fun j hj => absurd hj (by omega), 0, rfl⟩
    case round =>
      obtain ⟨k, hk, rfl, HALL, d, rfl⟩ := hrel
      by_cases hlt : k < n
      · obtain ⟨b1, o1, rfl, hb1, hc⟩ := ha (by omega)
        obtain ⟨b2, o2, rfl, hb2, hc2⟩ := hb (by omega)
        obtain ⟨a, b, e1, e2⟩ := HAL.out k hlt
        have c0 := hc k a e1
        have d0 := hc2 k b e2
        have HE1 := Lib.hid e1
        have HE2 := Lib.hid e2
        clear hc hc2 e1 e2
        have l1 : (k : Int) < n := by omega
        by_cases he : a = b
        · subst he
          go_wp2
          go_quiet (fail)
          go_wp2
          go_roundw
          case rel => exact ⟨k + 1, by omega, by go_num, (fun j hj => by
            rcases Nat.lt_or_ge j k with h | h
            · exact HALL.out j h
            · obtain rfl : j = k := by omega
              rw [HE1.out, HE2.out]), d + nq, rfl⟩
          case measure => simp [intOf]; omega
        · have he' : (a != b) = true := by simpa using he
          have HE := Lib.hid he
          clear he
          go_wp2
          go_quiet (fail)
          go_wp2
          go_ret
          refine ⟨ebool ?_, ?_⟩
          all_goals try (first | exact trivial | exact ⟨d + nq, World.drewN_drewN w d nq⟩)
          rw [HS.out]
          symm
          exact decide_eq_false fun h => HE.out (by
            have := h.2 k hlt
            rw [HE1.out, HE2.out] at this
            injection this)
      · go_wp2
        go_ret
        refine ⟨ebool ?_, ?_⟩
        all_goals try (first | exact trivial | exact ⟨d, rfl⟩)
        rw [HS.out]
        symm
        exact decide_eq_true (by constructor <;> first | rfl | exact trivial | exact fun i hi => HALL.out i (by omega))
  · have hnm' : ¬ ((xs.length : Int) = ys.length) := by omega
    go_enter Try.func28, Try.ntmps28
    go_wp2
    go_ret
    refine ⟨ebool ?_, ?_⟩
    all_goals try (first | exact trivial | exact ⟨0, rfl⟩)
    rw [HS.out]
    symm
    exact decide_eq_false fun h => hnm h.1
end Go.Proofs.Ytlgnchhhadnjbaa.Row
