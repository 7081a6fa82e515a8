/- GridScrolls and GridSteps where they have nothing to say; the pure laws of going up and down. -/
import Derived.Test.YtpnadnjcacaibaaGridM
namespace Go.Proofs.Ytpnadnjcacaibaa.Row
open Go.RowKit
attribute [local go_sem] Nat.add_assoc Nat.add_pos_iff_pos_or_pos lt_add_r2 le_add_r2
theorem down_gsane {n : Nat} {F : Nat → Rw} {t b q : Nat} {fg bg fl : Int} {B : Nat → Nat} (h : gsaneB (listG n F) = true) (hp : penB fg bg fl = true) : gsaneB (listG n (layG (mdG F t q (b - t - q)) t q B (F 0).n fg bg fl)) = true := by
  obtain ⟨h1, h2, h3⟩ := gsane_wd h
  obtain ⟨z1, z2, -⟩ := sane_iff.1 (h3 0 (by omega)).2
  refine gsane_of (F 0).n h1 h2 fun i hi => ?_
  unfold layG
  split
  · exact ⟨rfl, new_saneRw _ _ _ _ _ z1 z2 hp⟩
  · unfold mdG
    split
    · exact h3 _ (by omega)
    · exact h3 _ hi
theorem lay_n0 {n : Nat} {F : Nat → Rw} {t b q : Nat} {fg bg fl : Int} {B : Nat → Nat} (h : gsaneB (listG n F) = true) (hqb : t + q ≤ b) (hbn : b ≤ n) : (layG (mvG F t q (b - t - q)) (b - q) q B (F 0).n fg bg fl 0).n = (F 0).n := by
  obtain ⟨h1, h2, h3⟩ := gsane_wd h
  unfold layG
  split
  · rfl
  · unfold mvG
    split
    · exact (h3 _ (by omega)).1
    · rfl
set_option maxRecDepth 100000 in
set_option maxHeartbeats 2000000 in
theorem scrolls_out (x : Value) (a b c : Int) (L : List Rw) (w : World) (hx : RdR0 w x L) (hl : L.length ≤ maxLen) (h : ¬ (fewB L = true ∧ gsaneB L = true)) : Calls Try.prog 13 #[x, .int .i64 a, .int .i64 b, .int .i64 c] w fun e w' => e = .returned (.bool true) ∧ Grew w w' := by
  obtain ⟨A, cap, rfl, hc⟩ := hx.1.len
  have HL := Lib.hid hl
  clear hl
  cases h1 : fewB L
  · clear h
    generalize L.length = n at hc hx ⊢
    go_enter Try.func13, Try.ntmps13
    go_wp2_with (first | (go_at_call 37; refine (awake9_c _).mono ?_; rintro e w1 ⟨rfl, XA, dA, rfl⟩) | (go_at_call 20; (with_reducible refine (few_c (.slice A n cap) L _ (hx.below (by (repeat (first | (with_reducible exact Below.refl _ _) | (with_reducible assumption) | (with_reducible refine Below.grow ?_ ?_ _ _) | (with_reducible refine Below.drewN' ?_ _) | (with_reducible refine Below.drew ?_) | (with_reducible refine Below.alloc ?_ ?_ _) | (with_reducible refine Below.setCell ?_ ?_ _) | omega | (focus (simp; done)) | (focus (simp; omega)))))) HL.out).mono ?_); rintro e w1 ⟨rfl, rfl⟩))
    go_ret
    exact ⟨rfl, (Below.toGrow (by repeat (first | (with_reducible exact Below.refl _ _) | (with_reducible assumption) | (with_reducible refine Below.grow ?_ ?_ _ _) | (with_reducible refine Below.drewN' ?_ _) | (with_reducible refine Below.drew ?_) | (with_reducible refine Below.alloc ?_ ?_ _) | (with_reducible refine Below.setCell ?_ ?_ _) | omega | (focus (simp; done)) | (focus (simp; omega)))))⟩
  · have h3 : gsaneB L = false := by simpa [h1] using h
    clear h
    have hll := (few_iff.1 h1).1
    have HLL : Hid (L.length ≤ 5000) := by show _ ≤ _; omega
    generalize L.length = n at hc hx hll ⊢
    go_enter Try.func13, Try.ntmps13
    go_wp2_with (first | (go_at_call 37; refine (awake9_c _).mono ?_; rintro e w1 ⟨rfl, XA, dA, rfl⟩) | (go_at_call 20; (with_reducible refine (few_c (.slice A n cap) L _ (hx.below (by (repeat (first | (with_reducible exact Below.refl _ _) | (with_reducible assumption) | (with_reducible refine Below.grow ?_ ?_ _ _) | (with_reducible refine Below.drewN' ?_ _) | (with_reducible refine Below.drew ?_) | (with_reducible refine Below.alloc ?_ ?_ _) | (with_reducible refine Below.setCell ?_ ?_ _) | omega | (focus (simp; done)) | (focus (simp; omega)))))) HL.out).mono ?_); rintro e w1 ⟨rfl, rfl⟩) | (go_at_call 38; refine (gsane_c (.slice A n cap) L _ ((hx.few h1).below (by (repeat (first | (with_reducible exact Below.refl _ _) | (with_reducible assumption) | (with_reducible refine Below.grow ?_ ?_ _ _) | (with_reducible refine Below.drewN' ?_ _) | (with_reducible refine Below.drew ?_) | (with_reducible refine Below.alloc ?_ ?_ _) | (with_reducible refine Below.setCell ?_ ?_ _) | omega | (focus (simp; done)) | (focus (simp; omega)))))) HLL.out).mono ?_; rintro e w1 ⟨rfl, XS, dS, rfl⟩))
    go_ret
    exact ⟨rfl, (Below.toGrow (by repeat (first | (with_reducible exact Below.refl _ _) | (with_reducible assumption) | (with_reducible refine Below.grow ?_ ?_ _ _) | (with_reducible refine Below.drewN' ?_ _) | (with_reducible refine Below.drew ?_) | (with_reducible refine Below.alloc ?_ ?_ _) | (with_reducible refine Below.setCell ?_ ?_ _) | omega | (focus (simp; done)) | (focus (simp; omega)))))⟩
set_option maxRecDepth 100000 in
set_option maxHeartbeats 2000000 in
theorem steps_out (x : Value) (a b c : Int) (L : List Rw) (w : World) (hx : RdR0 w x L) (hl : L.length ≤ maxLen) (h : ¬ (fewB L = true ∧ gsaneB L = true)) : Calls Try.prog 9 #[x, .int .i64 a, .int .i64 b, .int .i64 c] w fun e w' => e = .returned (.bool true) ∧ Grew w w' := by
  obtain ⟨A, cap, rfl, hc⟩ := hx.1.len
  have HL := Lib.hid hl
  clear hl
  cases h1 : fewB L
  · clear h
    generalize L.length = n at hc hx ⊢
    go_enter Try.func9, Try.ntmps9
    go_wp2_with (first | (go_at_call 37; refine (awake9_c _).mono ?_; rintro e w1 ⟨rfl, XA, dA, rfl⟩) | (go_at_call 20; (with_reducible refine (few_c (.slice A n cap) L _ (hx.below (by (repeat (first | (with_reducible exact Below.refl _ _) | (with_reducible assumption) | (with_reducible refine Below.grow ?_ ?_ _ _) | (with_reducible refine Below.drewN' ?_ _) | (with_reducible refine Below.drew ?_) | (with_reducible refine Below.alloc ?_ ?_ _) | (with_reducible refine Below.setCell ?_ ?_ _) | omega | (focus (simp; done)) | (focus (simp; omega)))))) HL.out).mono ?_); rintro e w1 ⟨rfl, rfl⟩))
    go_ret
    exact ⟨rfl, (Below.toGrow (by repeat (first | (with_reducible exact Below.refl _ _) | (with_reducible assumption) | (with_reducible refine Below.grow ?_ ?_ _ _) | (with_reducible refine Below.drewN' ?_ _) | (with_reducible refine Below.drew ?_) | (with_reducible refine Below.alloc ?_ ?_ _) | (with_reducible refine Below.setCell ?_ ?_ _) | omega | (focus (simp; done)) | (focus (simp; omega)))))⟩
  · have h3 : gsaneB L = false := by simpa [h1] using h
    clear h
    have hll := (few_iff.1 h1).1
    have HLL : Hid (L.length ≤ 5000) := by show _ ≤ _; omega
    generalize L.length = n at hc hx hll ⊢
    go_enter Try.func9, Try.ntmps9
    go_wp2_with (first | (go_at_call 37; refine (awake9_c _).mono ?_; rintro e w1 ⟨rfl, XA, dA, rfl⟩) | (go_at_call 20; (with_reducible refine (few_c (.slice A n cap) L _ (hx.below (by (repeat (first | (with_reducible exact Below.refl _ _) | (with_reducible assumption) | (with_reducible refine Below.grow ?_ ?_ _ _) | (with_reducible refine Below.drewN' ?_ _) | (with_reducible refine Below.drew ?_) | (with_reducible refine Below.alloc ?_ ?_ _) | (with_reducible refine Below.setCell ?_ ?_ _) | omega | (focus (simp; done)) | (focus (simp; omega)))))) HL.out).mono ?_); rintro e w1 ⟨rfl, rfl⟩) | (go_at_call 38; refine (gsane_c (.slice A n cap) L _ ((hx.few h1).below (by (repeat (first | (with_reducible exact Below.refl _ _) | (with_reducible assumption) | (with_reducible refine Below.grow ?_ ?_ _ _) | (with_reducible refine Below.drewN' ?_ _) | (with_reducible refine Below.drew ?_) | (with_reducible refine Below.alloc ?_ ?_ _) | (with_reducible refine Below.setCell ?_ ?_ _) | omega | (focus (simp; done)) | (focus (simp; omega)))))) HLL.out).mono ?_; rintro e w1 ⟨rfl, XS, dS, rfl⟩))
    go_ret
    exact ⟨rfl, (Below.toGrow (by repeat (first | (with_reducible exact Below.refl _ _) | (with_reducible assumption) | (with_reducible refine Below.grow ?_ ?_ _ _) | (with_reducible refine Below.drewN' ?_ _) | (with_reducible refine Below.drew ?_) | (with_reducible refine Below.alloc ?_ ?_ _) | (with_reducible refine Below.setCell ?_ ?_ _) | omega | (focus (simp; done)) | (focus (simp; omega)))))⟩
end Go.Proofs.Ytpnadnjcacaibaa.Row
