/- reflow: isBlank, whole, areSane (and the document's blank). -/
import Derived.Test.YtlgnchhhadnjbaaRefB
import Derived.Test.YtlgnchhhadnjbaaRowLst
import Derived.Test.YtlgnchhhadnjbaaHand2
import Derived.Test.YtlgnchhhadnjbaaRowN
import Derived.Test.YtlgnchhhadnjbaaHistA
import Derived.Deep.CutRange
namespace Go.Proofs.Ytlgnchhhadnjbaa.Row
open Go.RowKit
set_option maxRecDepth 100000 in
set_option maxHeartbeats 2000000 in
theorem isBlank_c (c : Cl) (w : World) : Calls Try.prog 44 #[.agg #[.int .i64 c.r, .int .i64 c.m0, .int .i64 c.m1, .int .i64 c.w, .int .i64 c.fg, .int .i64 c.bg, .int .i64 c.fl]] w fun e w' => e = .returned (.bool (decide (c = blank 0 0 0))) ∧ Grew w w' := by
  have he := eql_cell c (blank 0 0 0)
  go_enter Try.func44, Try.ntmps44
  go_upto_region 1 with fail
  generalize hw0 : w.alloc _ = w0
  have hb0 : Below w.heap.size w w0 := by rw [← hw0]; (repeat (first | (with_reducible exact Below.refl _ _) | (with_reducible assumption) | (with_reducible refine Below.grow ?_ ?_ _ _) | (with_reducible refine Below.drewN' ?_ _) | (with_reducible refine Below.drew ?_) | (with_reducible refine Below.alloc ?_ ?_ _) | (with_reducible refine Below.setCell ?_ ?_ _) | omega | (focus (simp; done)) | (focus (simp; omega))))
  have hB : Blk w0 w.heap.size 59 #[.int .i64 c.r, .int .i64 c.m0, .int .i64 c.m1, .int .i64 c.w, .int .i64 c.fg, .int .i64 c.bg, .int .i64 c.fl] := by rw [← hw0]; exact Blk.new _ _ _
  clear hw0
  obtain ⟨q0, q1, q2, q3, q4, q5, q6, qf, ql⟩ := hB.facts7
  have hbs := hb0.size
  refine hr_start (S := (fun w' => w'.cell? ⟨w.heap.size, 0, none⟩ = some (.int .i64 c.r) ∧ w'.cell? ⟨w.heap.size, 1, none⟩ = some (.int .i64 c.m0) ∧ w'.cell? ⟨w.heap.size, 2, none⟩ = some (.int .i64 c.m1) ∧ w'.cell? ⟨w.heap.size, 3, none⟩ = some (.int .i64 c.w) ∧ w'.cell? ⟨w.heap.size, 4, none⟩ = some (.int .i64 c.fg) ∧ w'.cell? ⟨w.heap.size, 5, none⟩ = some (.int .i64 c.bg) ∧ w'.cell? ⟨w.heap.size, 6, none⟩ = some (.int .i64 c.fl))) (by kernel_rfl) rfl ?_ (fun hHeld => ?_)
  · ((try dsimp only); go_simp)
  refine hr_take (i := 0) rfl rfl (by kernel_rfl) (by kernel_rfl) (by kernel_rfl) (by kernel_rfl) (fun _ _ _ h => h) (v := ?_) ?_ (by assumption) ?_
  rotate_left
  focus (intro wS hSw; (try dsimp only at hSw); go_simp; (try with_reducible rfl))
  simp only [List.set_cons_zero, List.set_cons_succ]
  refine hr_take (i := 1) rfl rfl (by kernel_rfl) (by kernel_rfl) (by kernel_rfl) (by kernel_rfl) (fun _ _ _ h => h) (v := ?_) ?_ (by assumption) ?_
  rotate_left
  focus (intro wS hSw; (try dsimp only at hSw); go_simp; (try with_reducible rfl))
  simp only [List.set_cons_zero, List.set_cons_succ]
  refine hr_op (i := 2) rfl rfl (by kernel_rfl) (by kernel_rfl) (fun K hK => ?_)
  go_simp
  ((with_reducible refine (blank_c 0 0 0 _).mono ?_); rintro e wq ⟨rfl, XB, dB, rfl⟩)
  (try go_wp2_with fail)
  refine hK.out _ _ ?_ (fun hHeld => ?_)
  · ((try dsimp only); go_simp)
  clear hK K
  simp only [List.set_cons_zero, List.set_cons_succ]
  refine hr_take (i := 3) rfl rfl (by kernel_rfl) (by kernel_rfl) (by kernel_rfl) (by kernel_rfl) (fun _ _ _ h => h) (v := ?_) ?_ (by assumption) ?_
  rotate_left
  focus (intro wS hSw; (try dsimp only at hSw); go_simp; (try with_reducible rfl))
  simp only [List.set_cons_zero, List.set_cons_succ]
  refine hr_take (i := 4) rfl rfl (by kernel_rfl) (by kernel_rfl) (by kernel_rfl) (by kernel_rfl) (fun _ _ _ h => h) (v := ?_) ?_ (by assumption) ?_
  rotate_left
  focus (intro wS hSw; (try dsimp only at hSw); go_simp; (try with_reducible rfl))
  simp only [List.set_cons_zero, List.set_cons_succ]
  refine hr_done (by kernel_rfl) ?_
  go_wp2_with fail
  go_ret
  exact ⟨rfl, (Below.toGrow (by repeat (first | (with_reducible exact Below.refl _ _) | (with_reducible assumption) | (with_reducible refine Below.grow ?_ ?_ _ _) | (with_reducible refine Below.drewN' ?_ _) | (with_reducible refine Below.drew ?_) | (with_reducible refine Below.alloc ?_ ?_ _) | (with_reducible refine Below.setCell ?_ ?_ _) | omega | (focus (simp; done)) | (focus (simp; omega)))))⟩
/-- the half behind a wide cell -/
def halfOf (c : Cl) : Cl := ⟨0, 0, 0, 0, c.fg, c.bg, c.fl⟩
def wholeL (c : Cl) : List Cl := if c.w = 2 then [c, halfOf c] else [c]
def WholeF (c : Cl) (w : World) (e : Ending) (w' : World) : Prop := ∃ A n, e = .returned (.slice A n n) ∧ n = (wholeL c).length ∧ Below w.heap.size w w' ∧ OwnX encC w' w.heap.size 59 (.slice A n n) (wholeL c)
set_option maxRecDepth 100000 in
set_option maxHeartbeats 2000000 in
theorem whole_c (c : Cl) (w : World) : Calls Try.prog 34 #[.agg #[.int .i64 c.r, .int .i64 c.m0, .int .i64 c.m1, .int .i64 c.w, .int .i64 c.fg, .int .i64 c.bg, .int .i64 c.fl]] w (WholeF c w) := by
  by_cases h2 : c.w = 2
  · go_enter Try.func34, Try.ntmps34
    go_wp2_with fail
    go_ret
    refine ⟨_, 2, rfl, by unfold wholeL; rw [if_pos h2]; rfl, by (repeat (first | (with_reducible exact Below.refl _ _) | (with_reducible assumption) | (with_reducible refine Below.grow ?_ ?_ _ _) | (with_reducible refine Below.drewN' ?_ _) | (with_reducible refine Below.drew ?_) | (with_reducible refine Below.alloc ?_ ?_ _) | (with_reducible refine Below.setCell ?_ ?_ _) | omega | (focus (simp; done)) | (focus (simp; omega)))), ?_⟩
    have hl : wholeL c = [c, halfOf c] := if_pos h2
    rw [hl]
    exact ownX_lits _ _ _ _ 2 [c, halfOf c] _ (by simp [encC, Cl.cells, halfOf, h2]) rfl (by unfold maxLen; omega) (by simp) (by simp)
  · go_enter Try.func34, Try.ntmps34
    go_wp2_with fail
    go_ret
    refine ⟨_, 1, rfl, by unfold wholeL; rw [if_neg h2]; rfl, by (repeat (first | (with_reducible exact Below.refl _ _) | (with_reducible assumption) | (with_reducible refine Below.grow ?_ ?_ _ _) | (with_reducible refine Below.drewN' ?_ _) | (with_reducible refine Below.drew ?_) | (with_reducible refine Below.alloc ?_ ?_ _) | (with_reducible refine Below.setCell ?_ ?_ _) | omega | (focus (simp; done)) | (focus (simp; omega)))), ?_⟩
    have hl : wholeL c = [c] := if_neg h2
    rw [hl]
    exact ownX_lits _ _ _ _ 1 [c] _ (by simp [encC, Cl.cells]) rfl (by unfold maxLen; omega) (by simp) (by simp)
set_option maxRecDepth 100000 in
set_option maxHeartbeats 2000000 in
theorem blank11_c (c : Cl) (w : World) : Calls Try.prog 45 #[.agg #[.int .i64 c.r, .int .i64 c.m0, .int .i64 c.m1, .int .i64 c.w, .int .i64 c.fg, .int .i64 c.bg, .int .i64 c.fl]] w fun e w' => e = .returned (.bool (decide (c = blank 0 0 0))) ∧ Grew w w' := by
  have he : ∀ w, (binOp .eql 59 (.agg #[.int .i64 c.r, .int .i64 c.m0, .int .i64 c.m1, .int .i64 c.w, .int .i64 c.fg, .int .i64 c.bg, .int .i64 c.fl]) (.agg #[.int .i64 0, .int .i64 0, .int .i64 0, .int .i64 1, .int .i64 0, .int .i64 0, .int .i64 0])).run Try.prog w = .ok (.bool (decide (c = blank 0 0 0))) w := eql_cell c (blank 0 0 0)
  go_enter Try.func45, Try.ntmps45
  go_upto_region 1 with fail
  generalize hw0 : w.alloc _ = w0
  have hb0 : Below w.heap.size w w0 := by rw [← hw0]; (repeat (first | (with_reducible exact Below.refl _ _) | (with_reducible assumption) | (with_reducible refine Below.grow ?_ ?_ _ _) | (with_reducible refine Below.drewN' ?_ _) | (with_reducible refine Below.drew ?_) | (with_reducible refine Below.alloc ?_ ?_ _) | (with_reducible refine Below.setCell ?_ ?_ _) | omega | (focus (simp; done)) | (focus (simp; omega))))
  have hB : Blk w0 w.heap.size 59 #[.int .i64 c.r, .int .i64 c.m0, .int .i64 c.m1, .int .i64 c.w, .int .i64 c.fg, .int .i64 c.bg, .int .i64 c.fl] := by rw [← hw0]; exact Blk.new _ _ _
  clear hw0
  obtain ⟨q0, q1, q2, q3, q4, q5, q6, qf, ql⟩ := hB.facts7
  have hbs := hb0.size
  refine hr_start (S := (fun w' => w'.cell? ⟨w.heap.size, 0, none⟩ = some (.int .i64 c.r) ∧ w'.cell? ⟨w.heap.size, 1, none⟩ = some (.int .i64 c.m0) ∧ w'.cell? ⟨w.heap.size, 2, none⟩ = some (.int .i64 c.m1) ∧ w'.cell? ⟨w.heap.size, 3, none⟩ = some (.int .i64 c.w) ∧ w'.cell? ⟨w.heap.size, 4, none⟩ = some (.int .i64 c.fg) ∧ w'.cell? ⟨w.heap.size, 5, none⟩ = some (.int .i64 c.bg) ∧ w'.cell? ⟨w.heap.size, 6, none⟩ = some (.int .i64 c.fl))) (by kernel_rfl) rfl ?_ (fun hHeld => ?_)
  · ((try dsimp only); go_simp)
  refine hr_take (i := 0) rfl rfl (by kernel_rfl) (by kernel_rfl) (by kernel_rfl) (by kernel_rfl) (fun _ _ _ h => h) (v := ?_) ?_ (by assumption) ?_
  rotate_left
  focus (intro wS hSw; (try dsimp only at hSw); go_simp; (try with_reducible rfl))
  simp only [List.set_cons_zero, List.set_cons_succ]
  refine hr_take (i := 1) rfl rfl (by kernel_rfl) (by kernel_rfl) (by kernel_rfl) (by kernel_rfl) (fun _ _ _ h => h) (v := ?_) ?_ (by assumption) ?_
  rotate_left
  focus (intro wS hSw; (try dsimp only at hSw); go_simp; (try with_reducible rfl))
  simp only [List.set_cons_zero, List.set_cons_succ]
  refine hr_op (i := 2) rfl rfl (by kernel_rfl) (by kernel_rfl) (fun K hK => ?_)
  go_simp
  ((with_reducible refine (blank8_c 0 0 0 _).mono ?_); rintro e wq ⟨rfl, XB, dB, rfl⟩)
  (try go_wp2_with fail)
  refine hK.out _ _ ?_ (fun hHeld => ?_)
  · ((try dsimp only); go_simp)
  clear hK K
  simp only [List.set_cons_zero, List.set_cons_succ]
  refine hr_take (i := 3) rfl rfl (by kernel_rfl) (by kernel_rfl) (by kernel_rfl) (by kernel_rfl) (fun _ _ _ h => h) (v := ?_) ?_ (by assumption) ?_
  rotate_left
  focus (intro wS hSw; (try dsimp only at hSw); go_simp; (try with_reducible rfl))
  simp only [List.set_cons_zero, List.set_cons_succ]
  refine hr_take (i := 4) rfl rfl (by kernel_rfl) (by kernel_rfl) (by kernel_rfl) (by kernel_rfl) (fun _ _ _ h => h) (v := ?_) ?_ (by assumption) ?_
  rotate_left
  focus (intro wS hSw; (try dsimp only at hSw); go_simp; (try with_reducible rfl))
  simp only [List.set_cons_zero, List.set_cons_succ]
  refine hr_done (by kernel_rfl) ?_
  go_wp2_with fail
  go_ret
  exact ⟨rfl, (Below.toGrow (by repeat (first | (with_reducible exact Below.refl _ _) | (with_reducible assumption) | (with_reducible refine Below.grow ?_ ?_ _ _) | (with_reducible refine Below.drewN' ?_ _) | (with_reducible refine Below.drew ?_) | (with_reducible refine Below.alloc ?_ ?_ _) | (with_reducible refine Below.setCell ?_ ?_ _) | omega | (focus (simp; done)) | (focus (simp; omega)))))⟩
def areB (L : List Rw) : Bool := decide (∀ r ∈ L, saneRw r = true)
theorem areB_iff {L : List Rw} : areB L = true ↔ ∀ r ∈ L, saneRw r = true := by unfold areB; rw [decide_eq_true_eq]
set_option maxRecDepth 100000 in
set_option maxHeartbeats 2000000 in
theorem areSane_c (x : Value) (L : List Rw) (w : World) (hx : RdR w x L) (hl : L.length ≤ 100000) :
    Calls Try.prog 40 #[x] w fun e w' => e = .returned (.bool (areB L)) ∧ Grew w w' := by
  obtain ⟨A, cap, rfl, hc⟩ := hx.1.len
  have HI := Lib.hid (@areB_iff L)
  have HN : Hid (¬ areB L = true → areB L = false) := fun h => by simpa using h
  generalize areB L = S at *
  generalize hn : L.length = n at hl hc hx ⊢
  have HL := Lib.hid hn
  clear hn
  go_enter Try.func40, Try.ntmps40
  go_wp2_with fail
  go_loopw [7] (fun i wz => ∃ k : Nat, k ≤ n ∧ i = .int .i64 k ∧ Hid (∀ j (h : j < L.length), j < k → saneRw L[j] = true) ∧ Below w.heap.size w wz) (fun i _ => n - (intOf i).toNat)
  case atStart => exact ⟨0, Nat.zero_le _, rfl, fun j _ hj => absurd hj (by omega), Below.refl _ _⟩
  case round =>
    obtain ⟨k, hk, rfl, HALL, hbw⟩ := hrel
    have hws := hbw.size
    by_cases hlt : k < n
    · have hkl : k < L.length := by rw [HL.out]; exact hlt
      obtain ⟨b, o, rfl, hbl, hat, hok⟩ := (hx.below hbw).at_ hkl
      have HE : Hid (saneRw L[k] = true → ∀ j (h : j < L.length), j < k + 1 → saneRw L[j] = true) := fun hs j h hj => by
        by_cases e : j = k
        · subst e; exact hs
        · exact HALL.out j h (by omega)
      have HM : Hid (L[k] ∈ L) := List.getElem_mem hkl
      generalize L[k] = r at *
      obtain ⟨p0, p1, p2, p3⟩ := hat
      have hltI : (k : Int) < n := by omega
      cases hs : saneRw r
      · go_wp2_with (go_at_call 21; (with_reducible refine (saner_c r _ (hok.below (by (repeat (first | (with_reducible exact Below.refl _ _) | (with_reducible assumption) | (with_reducible refine Below.grow ?_ ?_ _ _) | (with_reducible refine Below.drewN' ?_ _) | (with_reducible refine Below.drew ?_) | (with_reducible refine Below.alloc ?_ ?_ _) | (with_reducible refine Below.setCell ?_ ?_ _) | omega | (focus (simp; done)) | (focus (simp; omega))))))).mono ?_); rintro e w2 ⟨rfl, X2, d2, rfl⟩)
        go_ret
        refine ⟨ebool (HN.out fun h => ?_).symm, (Below.toGrow (by repeat (first | (with_reducible exact Below.refl _ _) | (with_reducible assumption) | (with_reducible refine Below.grow ?_ ?_ _ _) | (with_reducible refine Below.drewN' ?_ _) | (with_reducible refine Below.drew ?_) | (with_reducible refine Below.alloc ?_ ?_ _) | (with_reducible refine Below.setCell ?_ ?_ _) | omega | (focus (simp; done)) | (focus (simp; omega)))))⟩
        have := HI.out.1 h r HM.out
        rw [hs] at this
        cases this
      · go_wp2_with (go_at_call 21; (with_reducible refine (saner_c r _ (hok.below (by (repeat (first | (with_reducible exact Below.refl _ _) | (with_reducible assumption) | (with_reducible refine Below.grow ?_ ?_ _ _) | (with_reducible refine Below.drewN' ?_ _) | (with_reducible refine Below.drew ?_) | (with_reducible refine Below.alloc ?_ ?_ _) | (with_reducible refine Below.setCell ?_ ?_ _) | omega | (focus (simp; done)) | (focus (simp; omega))))))).mono ?_); rintro e w2 ⟨rfl, X2, d2, rfl⟩)
        go_roundw
        case rel => exact ⟨k + 1, by omega, by go_num, HE.out hs, by (repeat (first | (with_reducible exact Below.refl _ _) | (with_reducible assumption) | (with_reducible refine Below.grow ?_ ?_ _ _) | (with_reducible refine Below.drewN' ?_ _) | (with_reducible refine Below.drew ?_) | (with_reducible refine Below.alloc ?_ ?_ _) | (with_reducible refine Below.setCell ?_ ?_ _) | omega | (focus (simp; done)) | (focus (simp; omega))))⟩
        case measure => simp [intOf]; omega
    · obtain rfl : k = n := by omega
      go_wp2_with fail
      go_ret
      refine ⟨ebool (HI.out.2 fun r hr => ?_).symm, Below.toGrow hbw⟩
      obtain ⟨j, hj, rfl⟩ := List.getElem_of_mem hr
      exact HALL.out j hj (by rw [← HL.out]; exact hj)
end Go.Proofs.Ytlgnchhhadnjbaa.Row
