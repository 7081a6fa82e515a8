/- GridSets where it has nothing to say; grid.Set whatever the row. -/
import Derived.Test.YtpnadnjcacaibaaGridK
import Derived.Test.YtpnadnjcacaibaaHistTakes
namespace Go.Proofs.Ytpnadnjcacaibaa.Row
open Go.RowKit
def setG (F : Nat → Rw) (k : Nat) (r : Rw) : Nat → Rw := if r.n = (F 0).n ∧ saneRw r = true then updG F k r else F
def SetAny (n : Nat) (F : Nat → Rw) (y : Nat) (r : Rw) (w : World) (e : Ending) (w' : World) : Prop :=
  ∃ (A : Option Addr) (c : Nat), e = .returned (.agg #[.slice A n c]) ∧ Below w.heap.size w w' ∧ n ≤ c ∧ RdR w' (.slice A n c) (listG n (setG F y r))
theorem set_any (x : Value) (n : Nat) (F : Nat → Rw) (y : Nat) (r : Rw) (w : World) (hx : RdR w x (listG n F)) (hok : r.ok w) (hs : gsaneB (listG n F) = true) (hy : y < n) :
    Calls Try.prog 51 #[.agg #[x], .int .i64 y, .agg #[.slice r.A r.n r.cap, .bool r.wb, .int .i64 r.dir, .bool r.ex]] w (SetAny n F y r w) := by
  by_cases h : r.n = (F 0).n ∧ saneRw r = true
  · refine (set_yes x n F y r w hx hok hs hy h.1 h.2).mono ?_
    rintro e w' ⟨g, c, rfl, h1, h2, h3, h4⟩
    exact ⟨_, c, rfl, h1, h2, by unfold setG; rw [if_pos h]; exact h4⟩
  · refine (set_no x n F y r w hx hok hs hy h).mono ?_
    rintro e w' ⟨rfl, hg⟩
    obtain ⟨A, c, e, hc⟩ := hx.1.len
    rw [listG_len] at e hc
    subst e
    exact ⟨A, c, rfl, hg.below, hc, by unfold setG; rw [if_neg h]; exact hx.below hg.below⟩
theorem set_gsane {n : Nat} {F : Nat → Rw} {k : Nat} {r : Rw} (h : gsaneB (listG n F) = true) : gsaneB (listG n (setG F k r)) = true := by
  obtain ⟨h1, h2, h3⟩ := gsane_wd h
  refine gsane_of (F 0).n h1 h2 fun i hi => ?_
  unfold setG
  split
  · rename_i hr
    unfold updG
    split
    · exact hr
    · exact h3 i hi
  · exact h3 i hi
theorem set_n0 {F : Nat → Rw} {k : Nat} {r : Rw} : (setG F k r 0).n = (F 0).n := by
  unfold setG
  split
  · rename_i hr
    unfold updG
    split
    · exact hr.1
    · rfl
  · rfl
theorem set_back {n : Nat} {F : Nat → Rw} {k : Nat} {r : Rw} : listG n (updG (setG F k r) k (F k)) = listG n F := by
  unfold listG
  refine List.map_congr_left fun i _ => ?_
  unfold updG setG
  by_cases e : i = k
  · rw [if_pos e, e]
  · rw [if_neg e]
    split
    · unfold updG
      rw [if_neg e]
    · rfl
attribute [local go_sem] Nat.add_assoc Nat.add_pos_iff_pos_or_pos lt_add_r2 le_add_r2
set_option maxRecDepth 100000 in
set_option maxHeartbeats 2000000 in
theorem sets_out (x : Value) (y : Int) (r : Rw) (fg bg fl : Int) (L : List Rw) (w : World) (hx : RdR0 w x L) (hl : L.length ≤ maxLen) (hr : r.ok0 w) (h : ¬ (fewB L = true ∧ r.n ≤ 100 ∧ gsaneB L = true)) : Calls Try.prog 12 #[x, .int .i64 y, .agg #[.slice r.A r.n r.cap, .bool r.wb, .int .i64 r.dir, .bool r.ex], .agg #[.int .i64 fg, .int .i64 bg, .int .i64 fl]] w fun e w' => e = .returned (.bool true) ∧ Grew w w' := by
  obtain ⟨A, cap, rfl, hc⟩ := hx.1.len
  have HL := Lib.hid hl
  have HR := Lib.hid hr
  clear hl hr
  cases h1 : fewB L
  · clear h
    generalize L.length = n at hc hx ⊢
    go_enter Try.func12, Try.ntmps12
    go_wp2_with (first | (go_at_call 37; refine (awake9_c _).mono ?_; rintro e w1 ⟨rfl, XA, dA, rfl⟩) | (go_at_call 20; (with_reducible refine (few_c (.slice A n cap) L _ (hx.below (by (repeat (first | (with_reducible exact Below.refl _ _) | (with_reducible assumption) | (with_reducible refine Below.grow ?_ ?_ _ _) | (with_reducible refine Below.drewN' ?_ _) | (with_reducible refine Below.drew ?_) | (with_reducible refine Below.alloc ?_ ?_ _) | (with_reducible refine Below.setCell ?_ ?_ _) | omega | (focus (simp; done)) | (focus (simp; omega)))))) HL.out).mono ?_); rintro e w1 ⟨rfl, rfl⟩))
    go_ret
    exact ⟨rfl, (Below.toGrow (by repeat (first | (with_reducible exact Below.refl _ _) | (with_reducible assumption) | (with_reducible refine Below.grow ?_ ?_ _ _) | (with_reducible refine Below.drewN' ?_ _) | (with_reducible refine Below.drew ?_) | (with_reducible refine Below.alloc ?_ ?_ _) | (with_reducible refine Below.setCell ?_ ?_ _) | omega | (focus (simp; done)) | (focus (simp; omega)))))⟩
  · by_cases h2 : r.n ≤ 100
    · have h3 : gsaneB L = false := by simpa [h1, h2] using h
      clear h
      have hll := (few_iff.1 h1).1
      have HLL : Hid (L.length ≤ 5000) := by show _ ≤ _; omega
      have h2I : ¬ (100 : Int) < (r.n : Int) := by omega
      have h2N : ¬ 100 < r.n := by omega
      generalize L.length = n at hc hx hll ⊢
      go_enter Try.func12, Try.ntmps12
      go_wp2_with (first | (go_at_call 37; refine (awake9_c _).mono ?_; rintro e w1 ⟨rfl, XA, dA, rfl⟩) | (go_at_call 20; (with_reducible refine (few_c (.slice A n cap) L _ (hx.below (by (repeat (first | (with_reducible exact Below.refl _ _) | (with_reducible assumption) | (with_reducible refine Below.grow ?_ ?_ _ _) | (with_reducible refine Below.drewN' ?_ _) | (with_reducible refine Below.drew ?_) | (with_reducible refine Below.alloc ?_ ?_ _) | (with_reducible refine Below.setCell ?_ ?_ _) | omega | (focus (simp; done)) | (focus (simp; omega)))))) HL.out).mono ?_); rintro e w1 ⟨rfl, rfl⟩) | (go_at_call 38; refine (gsane_c (.slice A n cap) L _ ((hx.few h1).below (by (repeat (first | (with_reducible exact Below.refl _ _) | (with_reducible assumption) | (with_reducible refine Below.grow ?_ ?_ _ _) | (with_reducible refine Below.drewN' ?_ _) | (with_reducible refine Below.drew ?_) | (with_reducible refine Below.alloc ?_ ?_ _) | (with_reducible refine Below.setCell ?_ ?_ _) | omega | (focus (simp; done)) | (focus (simp; omega)))))) HLL.out).mono ?_; rintro e w1 ⟨rfl, XS, dS, rfl⟩))
      go_ret
      exact ⟨rfl, (Below.toGrow (by repeat (first | (with_reducible exact Below.refl _ _) | (with_reducible assumption) | (with_reducible refine Below.grow ?_ ?_ _ _) | (with_reducible refine Below.drewN' ?_ _) | (with_reducible refine Below.drew ?_) | (with_reducible refine Below.alloc ?_ ?_ _) | (with_reducible refine Below.setCell ?_ ?_ _) | omega | (focus (simp; done)) | (focus (simp; omega)))))⟩
    · clear h
      have h2I : (100 : Int) < (r.n : Int) := by omega
      have h2N : 100 < r.n := by omega
      generalize L.length = n at hc hx ⊢
      go_enter Try.func12, Try.ntmps12
      go_wp2_with (first | (go_at_call 37; refine (awake9_c _).mono ?_; rintro e w1 ⟨rfl, XA, dA, rfl⟩) | (go_at_call 20; (with_reducible refine (few_c (.slice A n cap) L _ (hx.below (by (repeat (first | (with_reducible exact Below.refl _ _) | (with_reducible assumption) | (with_reducible refine Below.grow ?_ ?_ _ _) | (with_reducible refine Below.drewN' ?_ _) | (with_reducible refine Below.drew ?_) | (with_reducible refine Below.alloc ?_ ?_ _) | (with_reducible refine Below.setCell ?_ ?_ _) | omega | (focus (simp; done)) | (focus (simp; omega)))))) HL.out).mono ?_); rintro e w1 ⟨rfl, rfl⟩))
      go_ret
      exact ⟨rfl, (Below.toGrow (by repeat (first | (with_reducible exact Below.refl _ _) | (with_reducible assumption) | (with_reducible refine Below.grow ?_ ?_ _ _) | (with_reducible refine Below.drewN' ?_ _) | (with_reducible refine Below.drew ?_) | (with_reducible refine Below.alloc ?_ ?_ _) | (with_reducible refine Below.setCell ?_ ?_ _) | omega | (focus (simp; done)) | (focus (simp; omega)))))⟩
end Go.Proofs.Ytpnadnjcacaibaa.Row
