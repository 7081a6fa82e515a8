/- Walks: lists of rows that are the same; history.Sane; small functions of history and lapwinglaw10. -/
import Derived.Test.YtlgnchhhadnjbaaRowLst
import Derived.Test.YtlgnchhhadnjbaaHand
namespace Go.Proofs.Ytlgnchhhadnjbaa.Row
open Go.RowKit

/-- Same on rows by name -/
theorem samer_c (r s : Rw) (w : World) (hr : r.ok w) (hs : s.ok w) : Calls Try.prog 33 #[.agg #[.slice r.A r.n r.cap, .bool r.wb, .int .i64 r.dir, .bool r.ex], .agg #[.slice s.A s.n s.cap, .bool s.wb, .int .i64 s.dir, .bool s.ex]] w fun e w' => e = .returned (.bool (sameRw r s)) ∧ Grew w w' := by
  have h1 := hr.2.2
  have h2 := hs.2.2
  exact same_c r.A r.n r.cap r.f r.wb r.dir r.ex s.A s.n s.cap s.f s.wb s.dir s.ex w hr.1 hs.1 (by omega) (by omega)
theorem saner_c (r : Rw) (w : World) (hr : r.ok w) : Calls Try.prog 21 #[.agg #[.slice r.A r.n r.cap, .bool r.wb, .int .i64 r.dir, .bool r.ex]] w fun e w' => e = .returned (.bool (saneRw r)) ∧ Grew w w' := by
  have h1 := hr.2.2
  exact sane_c r.A r.n r.cap r.f r.wb r.dir r.ex w hr.1 (by omega)

set_option maxRecDepth 100000 in
set_option maxHeartbeats 2000000 in
theorem sameL_c (x y : Value) (L M : List Rw) (w : World) (hx : RdR w x L) (hy : RdR w y M) (hl : L.length ≤ maxLen) (hm : M.length ≤ maxLen) :
    Calls Try.prog 13 #[x, y] w fun e w' => e = .returned (.bool (sameL L M)) ∧ Grew w w' := by
  obtain ⟨A, c, rfl, hc⟩ := hx.1.len
  obtain ⟨A', c', rfl, hc'⟩ := hy.1.len
  have HS : Hid (sameL L M = sameL L M) := rfl
  unfold maxLen at hl hm
  have HI1 := Lib.hid (@sameL_iff L M)
  have HI2 := Lib.hid (fun k h h' hs => @sameL_not L M k h h' hs)
  generalize sameL L M = S at *
  by_cases hnm : L.length = M.length
  · rw [← hnm] at hy hc' ⊢
    have HM : Hid (M.length = L.length) := hnm.symm
    generalize hn : L.length = n at hl hc hx hc' hy HM ⊢
    have HN := Lib.hid hn
    clear hn hnm
    go_enter Try.func13, Try.ntmps13
    go_wp2
    go_loopw [5] (fun i wz => ∃ k : Nat, k ≤ n ∧ i = .int .i64 k ∧ Hid (∀ j (h : j < L.length) (h' : j < M.length), j < k → sameRw L[j] M[j] = true) ∧ Below w.heap.size w wz) (fun i _ => n - (intOf i).toNat)
    case atStart => exact ⟨0, Nat.zero_le _, rfl, fun j _ _ hj => absurd hj (by omega), Below.refl _ _⟩
    case round =>
      obtain ⟨k, hk, rfl, HALL, hbw⟩ := hrel
      by_cases hlt : k < n
      · have hkl : k < L.length := by rw [HN.out]; exact hlt
        have hkm : k < M.length := by rw [HM.out]; exact hlt
        obtain ⟨b1, o1, rfl, hb1, hat1, hokr⟩ := (hx.below hbw).at_ hkl
        obtain ⟨b2, o2, rfl, hb2, hat2, hoks⟩ := (hy.below hbw).at_ hkm
        have HE : Hid (sameRw L[k] M[k] = true → ∀ j (h : j < L.length) (h' : j < M.length), j < k + 1 → sameRw L[j] M[j] = true) := fun hs j h h' hj => by
          by_cases e : j = k
          · subst e; exact hs
          · exact HALL.out j h h' (by omega)
        have HF : Hid (sameRw L[k] M[k] = false → S = false) := fun h => HI2.out k hkl hkm h
        generalize L[k] = r at *
        generalize M[k] = s at *
        obtain ⟨p0, p1, p2, p3⟩ := hat1
        obtain ⟨q0, q1, q2, q3⟩ := hat2
        have hltI : (k : Int) < n := by omega
        have hws := hbw.size
        cases hrs : sameRw r s
        · go_wp2_with fail
          refine hr_start (S := (fun w' => w'.cell? ⟨b1, o1 + k * 4, none⟩ = some (.slice r.A r.n r.cap) ∧ w'.cell? ⟨b1, o1 + k * 4 + 1, none⟩ = some (.bool r.wb) ∧ w'.cell? ⟨b1, o1 + k * 4 + 2, none⟩ = some (.int .i64 r.dir) ∧ w'.cell? ⟨b1, o1 + k * 4 + 3, none⟩ = some (.bool r.ex) ∧ w'.cell? ⟨b2, o2 + k * 4, none⟩ = some (.slice s.A s.n s.cap) ∧ w'.cell? ⟨b2, o2 + k * 4 + 1, none⟩ = some (.bool s.wb) ∧ w'.cell? ⟨b2, o2 + k * 4 + 2, none⟩ = some (.int .i64 s.dir) ∧ w'.cell? ⟨b2, o2 + k * 4 + 3, none⟩ = some (.bool s.ex))) (by kernel_rfl) rfl ?_ (fun hHeld => ?_)
          · ((try dsimp only); go_simp)
          refine hr_take (i := 0) rfl rfl (by kernel_rfl) (by kernel_rfl) (by kernel_rfl) (by kernel_rfl) (fun _ _ _ h => h) (v := ?_) ?_ (by assumption) ?_
          rotate_left
          focus (intro wS hSw; (try dsimp only at hSw); go_simp; (try with_reducible rfl))
          simp only [List.set_cons_zero, List.set_cons_succ]
          refine hr_take (i := 1) rfl rfl (by kernel_rfl) (by kernel_rfl) (by kernel_rfl) (by kernel_rfl) (fun _ _ _ h => h) (v := ?_) ?_ (by assumption) ?_
          rotate_left
          focus (intro wS hSw; (try dsimp only at hSw); go_simp; (try with_reducible rfl))
          simp only [List.set_cons_zero, List.set_cons_succ]
          refine hr_take (i := 2) rfl rfl (by kernel_rfl) (by kernel_rfl) (by kernel_rfl) (by kernel_rfl) (fun _ _ _ h => h) (v := ?_) ?_ (by assumption) ?_
          rotate_left
          focus (intro wS hSw; (try dsimp only at hSw); go_simp; (try with_reducible rfl))
          simp only [List.set_cons_zero, List.set_cons_succ]
          refine hr_take (i := 3) rfl rfl (by kernel_rfl) (by kernel_rfl) (by kernel_rfl) (by kernel_rfl) (fun _ _ _ h => h) (v := ?_) ?_ (by assumption) ?_
          rotate_left
          focus (intro wS hSw; (try dsimp only at hSw); go_simp; (try with_reducible rfl))
          simp only [List.set_cons_zero, List.set_cons_succ]
          refine hr_take (i := 4) rfl rfl (by kernel_rfl) (by kernel_rfl) (by kernel_rfl) (by kernel_rfl) (fun _ _ _ h => h) (v := ?_) ?_ (by assumption) ?_
          rotate_left
          focus (intro wS hSw; (try dsimp only at hSw); go_simp; (try with_reducible rfl))
          simp only [List.set_cons_zero, List.set_cons_succ]
          refine hr_take (i := 5) rfl rfl (by kernel_rfl) (by kernel_rfl) (by kernel_rfl) (by kernel_rfl) (fun _ _ _ h => h) (v := ?_) ?_ (by assumption) ?_
          rotate_left
          focus (intro wS hSw; (try dsimp only at hSw); go_simp; (try with_reducible rfl))
          simp only [List.set_cons_zero, List.set_cons_succ]
          refine hr_take (i := 6) rfl rfl (by kernel_rfl) (by kernel_rfl) (by kernel_rfl) (by kernel_rfl) (fun _ _ _ h => h) (v := ?_) ?_ (by assumption) ?_
          rotate_left
          focus (intro wS hSw; (try dsimp only at hSw); go_simp; (try with_reducible rfl))
          simp only [List.set_cons_zero, List.set_cons_succ]
          refine hr_take (i := 7) rfl rfl (by kernel_rfl) (by kernel_rfl) (by kernel_rfl) (by kernel_rfl) (fun _ _ _ h => h) (v := ?_) ?_ (by assumption) ?_
          rotate_left
          focus (intro wS hSw; (try dsimp only at hSw); go_simp; (try with_reducible rfl))
          simp only [List.set_cons_zero, List.set_cons_succ]
          refine hr_op (i := 8) rfl rfl (by kernel_rfl) (by kernel_rfl) (fun K hK => ?_)
          go_simp
          ((with_reducible refine (samer_c r s _ (hokr.below (by (repeat (first | (with_reducible exact Below.refl _ _) | (with_reducible assumption) | (with_reducible refine Below.grow ?_ ?_ _ _) | (with_reducible refine Below.drewN' ?_ _) | (with_reducible refine Below.drew ?_) | (with_reducible refine Below.alloc ?_ ?_ _) | (with_reducible refine Below.setCell ?_ ?_ _) | omega | (focus (simp; done)) | (focus (simp; omega)))))) (hoks.below (by (repeat (first | (with_reducible exact Below.refl _ _) | (with_reducible assumption) | (with_reducible refine Below.grow ?_ ?_ _ _) | (with_reducible refine Below.drewN' ?_ _) | (with_reducible refine Below.drew ?_) | (with_reducible refine Below.alloc ?_ ?_ _) | (with_reducible refine Below.setCell ?_ ?_ _) | omega | (focus (simp; done)) | (focus (simp; omega))))))).mono ?_); rintro e w2 ⟨rfl, X2, d2, rfl⟩)
          (try go_wp2_with fail)
          refine hK.out _ _ ?_ (fun hHeld => ?_)
          · ((try dsimp only); go_simp)
          clear hK K
          simp only [List.set_cons_zero, List.set_cons_succ]
          refine hr_take (i := 9) rfl rfl (by kernel_rfl) (by kernel_rfl) (by kernel_rfl) (by kernel_rfl) (fun _ _ _ h => h) (v := ?_) ?_ (by assumption) ?_
          rotate_left
          focus (intro wS hSw; (try dsimp only at hSw); go_simp; (try with_reducible rfl))
          simp only [List.set_cons_zero, List.set_cons_succ]
          refine hr_done (by kernel_rfl) ?_
          go_wp2_with fail
          go_ret
          exact ⟨ebool (HF.out hrs).symm, (Below.toGrow (by repeat (first | (with_reducible exact Below.refl _ _) | (with_reducible assumption) | (with_reducible refine Below.grow ?_ ?_ _ _) | (with_reducible refine Below.drewN' ?_ _) | (with_reducible refine Below.drew ?_) | (with_reducible refine Below.alloc ?_ ?_ _) | (with_reducible refine Below.setCell ?_ ?_ _) | omega | (focus (simp; done)) | (focus (simp; omega)))))⟩
        · go_wp2_with fail
          refine hr_start (S := (fun w' => w'.cell? ⟨b1, o1 + k * 4, none⟩ = some (.slice r.A r.n r.cap) ∧ w'.cell? ⟨b1, o1 + k * 4 + 1, none⟩ = some (.bool r.wb) ∧ w'.cell? ⟨b1, o1 + k * 4 + 2, none⟩ = some (.int .i64 r.dir) ∧ w'.cell? ⟨b1, o1 + k * 4 + 3, none⟩ = some (.bool r.ex) ∧ w'.cell? ⟨b2, o2 + k * 4, none⟩ = some (.slice s.A s.n s.cap) ∧ w'.cell? ⟨b2, o2 + k * 4 + 1, none⟩ = some (.bool s.wb) ∧ w'.cell? ⟨b2, o2 + k * 4 + 2, none⟩ = some (.int .i64 s.dir) ∧ w'.cell? ⟨b2, o2 + k * 4 + 3, none⟩ = some (.bool s.ex))) (by kernel_rfl) rfl ?_ (fun hHeld => ?_)
          · ((try dsimp only); go_simp)
          refine hr_take (i := 0) rfl rfl (by kernel_rfl) (by kernel_rfl) (by kernel_rfl) (by kernel_rfl) (fun _ _ _ h => h) (v := ?_) ?_ (by assumption) ?_
          rotate_left
          focus (intro wS hSw; (try dsimp only at hSw); go_simp; (try with_reducible rfl))
          simp only [List.set_cons_zero, List.set_cons_succ]
          refine hr_take (i := 1) rfl rfl (by kernel_rfl) (by kernel_rfl) (by kernel_rfl) (by kernel_rfl) (fun _ _ _ h => h) (v := ?_) ?_ (by assumption) ?_
          rotate_left
          focus (intro wS hSw; (try dsimp only at hSw); go_simp; (try with_reducible rfl))
          simp only [List.set_cons_zero, List.set_cons_succ]
          refine hr_take (i := 2) rfl rfl (by kernel_rfl) (by kernel_rfl) (by kernel_rfl) (by kernel_rfl) (fun _ _ _ h => h) (v := ?_) ?_ (by assumption) ?_
          rotate_left
          focus (intro wS hSw; (try dsimp only at hSw); go_simp; (try with_reducible rfl))
          simp only [List.set_cons_zero, List.set_cons_succ]
          refine hr_take (i := 3) rfl rfl (by kernel_rfl) (by kernel_rfl) (by kernel_rfl) (by kernel_rfl) (fun _ _ _ h => h) (v := ?_) ?_ (by assumption) ?_
          rotate_left
          focus (intro wS hSw; (try dsimp only at hSw); go_simp; (try with_reducible rfl))
          simp only [List.set_cons_zero, List.set_cons_succ]
          refine hr_take (i := 4) rfl rfl (by kernel_rfl) (by kernel_rfl) (by kernel_rfl) (by kernel_rfl) (fun _ _ _ h => h) (v := ?_) ?_ (by assumption) ?_
          rotate_left
          focus (intro wS hSw; (try dsimp only at hSw); go_simp; (try with_reducible rfl))
          simp only [List.set_cons_zero, List.set_cons_succ]
          refine hr_take (i := 5) rfl rfl (by kernel_rfl) (by kernel_rfl) (by kernel_rfl) (by kernel_rfl) (fun _ _ _ h => h) (v := ?_) ?_ (by assumption) ?_
          rotate_left
          focus (intro wS hSw; (try dsimp only at hSw); go_simp; (try with_reducible rfl))
          simp only [List.set_cons_zero, List.set_cons_succ]
          refine hr_take (i := 6) rfl rfl (by kernel_rfl) (by kernel_rfl) (by kernel_rfl) (by kernel_rfl) (fun _ _ _ h => h) (v := ?_) ?_ (by assumption) ?_
          rotate_left
          focus (intro wS hSw; (try dsimp only at hSw); go_simp; (try with_reducible rfl))
          simp only [List.set_cons_zero, List.set_cons_succ]
          refine hr_take (i := 7) rfl rfl (by kernel_rfl) (by kernel_rfl) (by kernel_rfl) (by kernel_rfl) (fun _ _ _ h => h) (v := ?_) ?_ (by assumption) ?_
          rotate_left
          focus (intro wS hSw; (try dsimp only at hSw); go_simp; (try with_reducible rfl))
          simp only [List.set_cons_zero, List.set_cons_succ]
          refine hr_op (i := 8) rfl rfl (by kernel_rfl) (by kernel_rfl) (fun K hK => ?_)
          go_simp
          ((with_reducible refine (samer_c r s _ (hokr.below (by (repeat (first | (with_reducible exact Below.refl _ _) | (with_reducible assumption) | (with_reducible refine Below.grow ?_ ?_ _ _) | (with_reducible refine Below.drewN' ?_ _) | (with_reducible refine Below.drew ?_) | (with_reducible refine Below.alloc ?_ ?_ _) | (with_reducible refine Below.setCell ?_ ?_ _) | omega | (focus (simp; done)) | (focus (simp; omega)))))) (hoks.below (by (repeat (first | (with_reducible exact Below.refl _ _) | (with_reducible assumption) | (with_reducible refine Below.grow ?_ ?_ _ _) | (with_reducible refine Below.drewN' ?_ _) | (with_reducible refine Below.drew ?_) | (with_reducible refine Below.alloc ?_ ?_ _) | (with_reducible refine Below.setCell ?_ ?_ _) | omega | (focus (simp; done)) | (focus (simp; omega))))))).mono ?_); rintro e w2 ⟨rfl, X2, d2, rfl⟩)
          (try go_wp2_with fail)
          refine hK.out _ _ ?_ (fun hHeld => ?_)
          · ((try dsimp only); go_simp)
          clear hK K
          simp only [List.set_cons_zero, List.set_cons_succ]
          refine hr_take (i := 9) rfl rfl (by kernel_rfl) (by kernel_rfl) (by kernel_rfl) (by kernel_rfl) (fun _ _ _ h => h) (v := ?_) ?_ (by assumption) ?_
          rotate_left
          focus (intro wS hSw; (try dsimp only at hSw); go_simp; (try with_reducible rfl))
          simp only [List.set_cons_zero, List.set_cons_succ]
          refine hr_done (by kernel_rfl) ?_
          go_wp2_with fail
          go_roundw
          case rel => exact ⟨k + 1, by omega, by go_num, HE.out hrs, by (repeat (first | (with_reducible exact Below.refl _ _) | (with_reducible assumption) | (with_reducible refine Below.grow ?_ ?_ _ _) | (with_reducible refine Below.drewN' ?_ _) | (with_reducible refine Below.drew ?_) | (with_reducible refine Below.alloc ?_ ?_ _) | (with_reducible refine Below.setCell ?_ ?_ _) | omega | (focus (simp; done)) | (focus (simp; omega))))⟩
          case measure => simp [intOf]; omega
      · obtain rfl : k = n := by omega
        go_wp2
        go_ret
        exact ⟨ebool (HI1.out.2 ⟨by rw [HN.out, HM.out], fun j h h' => HALL.out j h h' (by rw [← HN.out]; exact h)⟩).symm, Below.toGrow hbw⟩
  · have hnm' : ¬ ((L.length : Int) = M.length) := by omega
    have HF : Hid (S = false) := by
      cases S
      · rfl
      · exact absurd (HI1.out.1 rfl).1 hnm
    go_enter Try.func13, Try.ntmps13
    go_wp2
    go_ret
    exact ⟨ebool HF.out.symm, (Below.toGrow (by repeat (first | (with_reducible exact Below.refl _ _) | (with_reducible assumption) | (with_reducible refine Below.grow ?_ ?_ _ _) | (with_reducible refine Below.drewN' ?_ _) | (with_reducible refine Below.drew ?_) | (with_reducible refine Below.alloc ?_ ?_ _) | (with_reducible refine Below.setCell ?_ ?_ _) | omega | (focus (simp; done)) | (focus (simp; omega)))))⟩
end Go.Proofs.Ytlgnchhhadnjbaa.Row
