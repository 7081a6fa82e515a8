/- Walk of row.Sane. -/
import Derived.Test.YtlgnchhhadnjbaaRowA
namespace Go.Proofs.Ytlgnchhhadnjbaa.Row
open Go.RowKit
theorem lt_add_r (a b x : Nat) (h : a < b) : (a < b + x) = True := by simp; omega
theorem le_add_r (a b x : Nat) (h : a ≤ b) : (a ≤ b + x) = True := by simp; omega
attribute [local go_sem] Nat.add_pos_iff_pos_or_pos lt_add_r le_add_r

theorem Rd.below {w w' : World} {A : Option Addr} {n : Nat} {f : Nat → Cl} (h : Rd w A n f) (hb : Below w.heap.size w w') : Rd w' A n f := fun hn => by
  obtain ⟨b, o, rfl, hlt, hc⟩ := h hn
  refine ⟨b, o, rfl, Nat.lt_of_lt_of_le hlt hb.size, fun i hi => ?_⟩
  obtain ⟨h0, h1, h2, h3, h4, h5, h6⟩ := hc i hi
  exact ⟨(hb.cell hlt).trans h0, (hb.cell hlt).trans h1, (hb.cell hlt).trans h2, (hb.cell hlt).trans h3, (hb.cell hlt).trans h4, (hb.cell hlt).trans h5, (hb.cell hlt).trans h6⟩

set_option maxRecDepth 100000 in
set_option maxHeartbeats 4000000 in
theorem sane_c (A : Option Addr) (n cap : Nat) (f : Nat → Cl) (wr : Bool) (dir : Int) (ex : Bool) (w : World) (hr : Rd w A n f) (hn : n ≤ 9223372036854775806) : Calls Try.prog 21 #[.agg #[.slice A n cap, .bool wr, .int .i64 dir, .bool ex]] w fun e w' => e = .returned (.bool (saneB n f dir)) ∧ Grew w w' := by
  have HS : Hid (saneB n f dir = decide (1 ≤ n ∧ n ≤ 4096 ∧ 0 ≤ dir ∧ dir ≤ 2 ∧ ∀ i, i < n → fitsB (f i) = true ∧ lostB n f i = false)) := rfl
  generalize saneB n f dir = S at *
  by_cases h0 : 1 ≤ n ∧ n ≤ 4096 ∧ 0 ≤ dir ∧ dir ≤ 2
  · obtain ⟨hp, hm, hd0, hd1⟩ := h0
    go_enter Try.func21, Try.ntmps21
    go_wp2
    go_loopw [28] (fun i wz => ∃ k : Nat, k ≤ n ∧ i = .int .i64 k ∧ Hid (∀ j, j < k → fitsB (f j) = true ∧ lostB n f j = false) ∧ Below w.heap.size w wz ∧ w.heap.size < wz.heap.size ∧ wz.cell? ⟨w.heap.size, 0, none⟩ = some (.slice A n cap)) (fun i _ => n - (intOf i).toNat)
    case atStart => exact ⟨0, Nat.zero_le _, rfl, fun j hj => absurd hj (by omega), by (repeat (first | (with_reducible exact Below.refl _ _) | (with_reducible assumption) | (with_reducible refine Below.grow ?_ ?_ _ _) | (with_reducible refine Below.drewN' ?_ _) | (with_reducible refine Below.drew ?_) | (with_reducible refine Below.alloc ?_ ?_ _) | (with_reducible refine Below.setCell ?_ ?_ _) | omega | (focus (simp; done)) | (focus (simp; omega)))), by simp, by simp [go_sem]⟩
    case round =>
      obtain ⟨k, hk, rfl, HALL, hbw, hlz, hbox⟩ := hrel
      have hrz := hr.below hbw
      by_cases hlt : k < n
      · obtain ⟨b, o, rfl, hb, hc⟩ := hrz hp
        obtain ⟨c0, c1, c2, c3, c4, c5, c6⟩ := hc k hlt
        clear hc
        cases hf : fitsB (f k)
        · go_wp2_with (first | (go_at_call 38; refine (fits_c (f k) _).mono ?_; rintro e w1 ⟨rfl, X1, d1, rfl⟩))
          go_ret
          refine ⟨ebool ?_, (Below.toGrow (by repeat (first | (with_reducible exact Below.refl _ _) | (with_reducible assumption) | (with_reducible refine Below.grow ?_ ?_ _ _) | (with_reducible refine Below.drewN' ?_ _) | (with_reducible refine Below.drew ?_) | (with_reducible refine Below.alloc ?_ ?_ _) | (with_reducible refine Below.setCell ?_ ?_ _) | omega | (focus (simp; done)) | (focus (simp; omega)))))⟩
          rw [HS.out]
          symm
          exact decide_eq_false fun h => by have := (h.2.2.2.2 k hlt).1; rw [hf] at this; cases this
        · cases hl : lostB n f k
          · go_wp2_with (first | (go_at_call 38; refine (fits_c (f k) _).mono ?_; rintro e w1 ⟨rfl, X1, d1, rfl⟩) | (go_at_call 39; refine (lost_c (some ⟨b, o, none⟩) n cap f k _ (hrz.below (by (repeat (first | (with_reducible exact Below.refl _ _) | (with_reducible assumption) | (with_reducible refine Below.grow ?_ ?_ _ _) | (with_reducible refine Below.drewN' ?_ _) | (with_reducible refine Below.drew ?_) | (with_reducible refine Below.alloc ?_ ?_ _) | (with_reducible refine Below.setCell ?_ ?_ _) | omega | (focus (simp; done)) | (focus (simp; omega)))))) (by omega) (by omega)).mono ?_; rintro e w1 ⟨rfl, rfl⟩))
            go_roundw
            case rel => exact ⟨k + 1, by omega, by go_num, fun j hj => by
              rcases Nat.lt_or_ge j k with h | h
              · exact HALL.out j h
              · obtain rfl : j = k := by omega
                exact ⟨hf, hl⟩, by (repeat (first | (with_reducible exact Below.refl _ _) | (with_reducible assumption) | (with_reducible refine Below.grow ?_ ?_ _ _) | (with_reducible refine Below.drewN' ?_ _) | (with_reducible refine Below.drew ?_) | (with_reducible refine Below.alloc ?_ ?_ _) | (with_reducible refine Below.setCell ?_ ?_ _) | omega | (focus (simp; done)) | (focus (simp; omega)))), by simp; omega, by simp [go_sem, *]⟩
            case measure => simp [intOf]; omega
          · go_wp2_with (first | (go_at_call 38; refine (fits_c (f k) _).mono ?_; rintro e w1 ⟨rfl, X1, d1, rfl⟩) | (go_at_call 39; refine (lost_c (some ⟨b, o, none⟩) n cap f k _ (hrz.below (by (repeat (first | (with_reducible exact Below.refl _ _) | (with_reducible assumption) | (with_reducible refine Below.grow ?_ ?_ _ _) | (with_reducible refine Below.drewN' ?_ _) | (with_reducible refine Below.drew ?_) | (with_reducible refine Below.alloc ?_ ?_ _) | (with_reducible refine Below.setCell ?_ ?_ _) | omega | (focus (simp; done)) | (focus (simp; omega)))))) (by omega) (by omega)).mono ?_; rintro e w1 ⟨rfl, rfl⟩))
            go_ret
            refine ⟨ebool ?_, (Below.toGrow (by repeat (first | (with_reducible exact Below.refl _ _) | (with_reducible assumption) | (with_reducible refine Below.grow ?_ ?_ _ _) | (with_reducible refine Below.drewN' ?_ _) | (with_reducible refine Below.drew ?_) | (with_reducible refine Below.alloc ?_ ?_ _) | (with_reducible refine Below.setCell ?_ ?_ _) | omega | (focus (simp; done)) | (focus (simp; omega)))))⟩
            rw [HS.out]
            symm
            exact decide_eq_false fun h => by have := (h.2.2.2.2 k hlt).2; rw [hl] at this; cases this
      · go_wp2
        go_ret
        refine ⟨ebool ?_, (Below.toGrow (by repeat (first | (with_reducible exact Below.refl _ _) | (with_reducible assumption) | (with_reducible refine Below.grow ?_ ?_ _ _) | (with_reducible refine Below.drewN' ?_ _) | (with_reducible refine Below.drew ?_) | (with_reducible refine Below.alloc ?_ ?_ _) | (with_reducible refine Below.setCell ?_ ?_ _) | omega | (focus (simp; done)) | (focus (simp; omega)))))⟩
        rw [HS.out]
        symm
        exact decide_eq_true ⟨hp, hm, hd0, hd1, fun i hi => HALL.out i (by omega)⟩
  · go_enter Try.func21, Try.ntmps21
    go_wp2
    all_goals first | (exfalso; omega) | (go_ret; refine ⟨ebool ?_, (Below.toGrow (by repeat (first | (with_reducible exact Below.refl _ _) | (with_reducible assumption) | (with_reducible refine Below.grow ?_ ?_ _ _) | (with_reducible refine Below.drewN' ?_ _) | (with_reducible refine Below.drew ?_) | (with_reducible refine Below.alloc ?_ ?_ _) | (with_reducible refine Below.setCell ?_ ?_ _) | omega | (focus (simp; done)) | (focus (simp; omega)))))⟩; rw [HS.out]; symm; apply decide_eq_false; omega)
end Go.Proofs.Ytlgnchhhadnjbaa.Row
