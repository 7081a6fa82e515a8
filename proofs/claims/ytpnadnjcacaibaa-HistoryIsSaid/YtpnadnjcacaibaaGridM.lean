/- Walk of lapwinglaw09.GridSets. -/
import Derived.Test.YtpnadnjcacaibaaGridL
namespace Go.Proofs.Ytpnadnjcacaibaa.Row
open Go.RowKit
attribute [local go_sem] Nat.add_assoc Nat.add_pos_iff_pos_or_pos lt_add_r2 le_add_r2
theorem fld (A : Option Addr) (n c : Nat) (w : World) : (Instr.field 60 (.agg #[.slice A n c]) 0).run Try.prog w = .ok (.slice A n c) w := by kernel_rfl
attribute [local go_sem] fld
theorem rdR_atG {w : World} {b o n c j : Nat} {F : Nat → Rw} (h : RdR w (.slice (some ⟨b, o, none⟩) n c) (listG n F)) (hj : j < n) : RowAt w b (o + j * 4) (F j) ∧ (F j).ok w ∧ b < w.heap.size := by
  obtain ⟨b', o', e, hb, hat, hok⟩ := h.at_ (k := j) (by rw [listG_len]; exact hj)
  injection e with e
  injection e with e1 e2
  subst e1 e2
  rw [listG_at] at hat hok
  exact ⟨hat, hok, hb⟩
theorem same_new8 {u r : Rw} {b q : Nat} {fg bg fl : Int} (hu : u = newRw b q fg bg fl) (h1 : r.n = q) (h2 : r.f = fun _ => blank fg bg fl) (h3 : r.wb = false) (h4 : r.dir = 0) (h5 : r.ex = false) : sameRw u r = true := by
  subst hu
  rw [sameRw_iff]
  exact ⟨h1.symm, fun i _ => by rw [h2]; rfl, h3.symm, h4.symm, h5.symm⟩
set_option maxRecDepth 100000 in
set_option maxHeartbeats 8000000 in
theorem sets_in (x : Value) (y : Int) (r : Rw) (fg bg fl : Int) (L : List Rw) (w : World) (hx : RdR0 w x L) (hl : L.length ≤ maxLen) (hr : r.ok0 w) (h1 : fewB L = true) (h2 : r.n ≤ 100) (h3 : gsaneB L = true) : Calls Try.prog 12 #[x, .int .i64 y, .agg #[.slice r.A r.n r.cap, .bool r.wb, .int .i64 r.dir, .bool r.ex], .agg #[.int .i64 fg, .int .i64 bg, .int .i64 fl]] w fun e w' => e = .returned (.bool true) ∧ Grew w w' := by
  obtain ⟨n, F, rfl⟩ : ∃ n F, L = listG n F := ⟨_, _, listG_of L zeroRw⟩
  obtain ⟨A, cap, rfl, hc⟩ := hx.1.len
  obtain ⟨hln, -, -⟩ := gsane_iff.1 h3
  have hll := (few_iff.1 h1).1
  have HL := Lib.hid hl
  have HLL : Hid ((listG n F).length ≤ 5000) := by show _ ≤ _; omega
  rw [listG_len] at hc hln hll hx ⊢
  have HX0 := Lib.hid hx
  have HX := Lib.hid (hx.few h1)
  have HR := Lib.hid (show r.ok w from ⟨hr.1, hr.2.1, by omega⟩)
  have HS := Lib.hid h3
  have hqq := (sane_iff.1 ((gsane_wd h3).2.2 0 (by omega)).2)
  obtain ⟨hq1, hq2, -⟩ := hqq
  have HQ : Hid (1 ≤ (F 0).n ∧ (F 0).n ≤ 4096) := ⟨hq1, hq2⟩
  clear hx hl hr hq1 hq2
  have hand : bits .and .i64 y 65535 = y % 65536 := and_mask 16 (by omega) y
  have hp0 : 0 ≤ y % 65536 := by omega
  obtain ⟨k, hk⟩ : ∃ q : Nat, y % 65536 % (n : Int) = (q : Int) := ⟨(y % 65536 % (n : Int)).toNat, (Int.toNat_of_nonneg (Int.emod_nonneg _ (by omega))).symm⟩
  have hkn : k < n := by
    have := Int.emod_lt_of_pos (y % 65536) (show (0 : Int) < n by omega)
    omega
  have h2I : ¬ (100 : Int) < (r.n : Int) := by omega
  have h2N : ¬ 100 < r.n := by omega
  have hnI : ¬ (n : Int) = 0 := by omega
  have hnN : ¬ n = 0 := by omega
  go_enter Try.func12, Try.ntmps12
  go_upto_region 7 with (first | (go_at_call 37; refine (awake9_c _).mono ?_; rintro e w1 ⟨rfl, XA, dA, rfl⟩) | (go_at_call 20; (with_reducible refine (few_c (.slice A n cap) (listG n F) _ (HX0.out.below (by (repeat (first | (with_reducible exact Below.refl _ _) | (with_reducible assumption) | (with_reducible refine Below.grow ?_ ?_ _ _) | (with_reducible refine Below.drewN' ?_ _) | (with_reducible refine Below.drew ?_) | (with_reducible refine Below.alloc ?_ ?_ _) | (with_reducible refine Below.setCell ?_ ?_ _) | omega | (focus (simp; done)) | (focus (simp; omega)))))) HL.out).mono ?_); rintro e w1 ⟨rfl, rfl⟩) | (go_at_call 38; refine (gsane_c (.slice A n cap) (listG n F) _ (HX.out.below (by (repeat (first | (with_reducible exact Below.refl _ _) | (with_reducible assumption) | (with_reducible refine Below.grow ?_ ?_ _ _) | (with_reducible refine Below.drewN' ?_ _) | (with_reducible refine Below.drew ?_) | (with_reducible refine Below.alloc ?_ ?_ _) | (with_reducible refine Below.setCell ?_ ?_ _) | omega | (focus (simp; done)) | (focus (simp; omega)))))) HLL.out).mono ?_; rintro e w1 ⟨rfl, XS, dS, rfl⟩))
  generalize hw7 : World.grow (World.alloc _ _) _ _ = w7
  have hb7 : Below w.heap.size w w7 := by rw [← hw7]; (repeat (first | (with_reducible exact Below.refl _ _) | (with_reducible assumption) | (with_reducible refine Below.grow ?_ ?_ _ _) | (with_reducible refine Below.drewN' ?_ _) | (with_reducible refine Below.drew ?_) | (with_reducible refine Below.alloc ?_ ?_ _) | (with_reducible refine Below.setCell ?_ ?_ _) | omega | (focus (simp; done)) | (focus (simp; omega))))
  have hB1 : Blk w7 w.heap.size 24 #[.slice r.A r.n r.cap, .bool r.wb, .int .i64 r.dir, .bool r.ex] := by rw [← hw7]; (repeat (first | (with_reducible exact Blk.new _ _ _) | (with_reducible refine Blk.set2 ?_) | (with_reducible refine Blk.drewd ?_) | (with_reducible refine Blk.grow ?_ _ _) | (with_reducible refine Blk.new_at ?_; simp; done) | (with_reducible refine Blk.alloc ?_ _)))
  have hBg : Blk w7 (w.heap.size + (2 + XA.size)) 60 #[.slice A n cap] := by rw [← hw7]; exact Blk.grow (Blk.new_at (by simp [go_sem])) _ _
  clear hw7
  have HB1 := Lib.hid hB1
  obtain ⟨q0, q1, q2, q3, qf, ql⟩ := hB1.facts4
  have r0 := hBg.cell 0
  have rl := hBg.lt
  simp only [List.getElem?_toArray, List.getElem?_cons_zero] at r0
  clear hB1 hBg
  go_wp2_with fail
  simp only [hk]
  refine (set_any (.slice A n cap) n F k r _ (HX.out.below hb7) (HR.out.below hb7) HS.out hkn).mono ?_
  rintro e w8 ⟨A9, c9, rfl, hg, hc9, hr8⟩
  have hB1 := HB1.out.below hg HB1.out.lt
  have hb8 := hb7.trans (hg.mono hb7.size)
  have HS9 := Lib.hid (set_gsane (k := k) (r := r) HS.out)
  have HN9 := Lib.hid (set_n0 (F := F) (k := k) (r := r))
  have HK9 : Hid (setG F k r = setG F k r) := rfl
  have HR8 := Lib.hid hr8
  clear r0 rl q0 q1 q2 q3 qf ql hr8 hg hb7
  go_upto_region 9 with fail
  generalize hw9 : w8.alloc _ = w9
  have hg9 : Below w8.heap.size w8 w9 := by rw [← hw9]; (repeat (first | (with_reducible exact Below.refl _ _) | (with_reducible assumption) | (with_reducible refine Below.grow ?_ ?_ _ _) | (with_reducible refine Below.drewN' ?_ _) | (with_reducible refine Below.drew ?_) | (with_reducible refine Below.alloc ?_ ?_ _) | (with_reducible refine Below.setCell ?_ ?_ _) | omega | (focus (simp; done)) | (focus (simp; omega))))
  have hB9 : Blk w9 w8.heap.size 60 #[.slice A9 n c9] := by rw [← hw9]; exact Blk.new _ _ _
  clear hw9
  have hB1 := hB1.below hg9 hB1.lt
  have hb9 := hb8.trans (hg9.mono hb8.size)
  have HR9 := Lib.hid (HR8.out.below hg9)
  obtain ⟨q0, q1, q2, q3, qf, ql⟩ := hB1.facts4
  have r0 := hB9.cell 0
  have rl := hB9.lt
  simp only [List.getElem?_toArray, List.getElem?_cons_zero] at r0
  have HB9 := Lib.hid hB9
  have HB1b := Lib.hid hB1
  clear hB9 hB1 hg9 hb8 HR8 HB1
  go_wp2_with (go_at_call 38; refine (gsane_c (.slice A9 n c9) (listG n (setG F k r)) _ HR9.out (by rw [listG_len]; omega)).mono ?_; rw [HS9.out]; rintro e w10 ⟨rfl, hg10⟩)
  replace hg10 := hg10.below
  have hb10 := hb9.trans (hg10.mono hb9.size)
  have HB10 := Lib.hid (HB9.out.below hg10 HB9.out.lt)
  have HB1c := Lib.hid (HB1b.out.below hg10 HB1b.out.lt)
  have HR10 := Lib.hid (HR9.out.below hg10)
  have HX10 := Lib.hid (HX.out.below hb10)
  have HRK := Lib.hid (HR.out.below hb10)
  have hw8s := HB10.out.lt
  clear r0 rl q0 q1 q2 q3 qf ql hg10 hb9 HB9 HB1b HR9
  obtain ⟨q0, q1, q2, q3, qf, ql⟩ := HB1c.out.facts4
  have h0l : 0 < (listG n F).length := by rw [listG_len]; omega
  obtain ⟨bx, ox, rfl, hbxz, hat, -⟩ := HX10.out.at_ h0l
  rw [listG_at, Nat.zero_mul, Nat.add_zero] at hat
  obtain ⟨z0, -, -, -⟩ := hat
  obtain ⟨m, hm⟩ : ∃ m, m = (F 0).n := ⟨_, rfl⟩
  rw [← hm] at z0 HQ HN9
  have HMN := Lib.hid hm
  generalize (F 0).A = A0 at z0
  generalize (F 0).cap = cap0 at z0
  clear hm h0l
  have hpos : 0 < n := by omega
  have HB10s := Lib.hid hb10
  clear hb10
  go_cut [13] from 54 to 66 (fun s wc => s = .bool (decide (r.n = m ∧ saneRw r = true)) ∧ Below w10.heap.size w10 wc)
  case first =>
    cases hsr : saneRw r
    · refine hr_start (S := (fun w' => w'.cell? ⟨w.heap.size, 0, none⟩ = some (.slice r.A r.n r.cap) ∧ w'.cell? ⟨w.heap.size, 1, none⟩ = some (.bool r.wb) ∧ w'.cell? ⟨w.heap.size, 2, none⟩ = some (.int .i64 r.dir) ∧ w'.cell? ⟨w.heap.size, 3, none⟩ = some (.bool r.ex) ∧ w'.cell? ⟨bx, ox, none⟩ = some (.slice A0 m cap0))) (by kernel_rfl) rfl ?_ (fun hHeld => ?_)
      · ((try dsimp only); go_simp)
      refine hr_take (i := 0) rfl rfl (by kernel_rfl) (by kernel_rfl) (by kernel_rfl) (by kernel_rfl) (fun _ _ _ h => h) (v := ?_) ?_ (by assumption) ?_
      rotate_left
      focus (intro wS hSw; (try dsimp only at hSw); go_simp; (try with_reducible rfl))
      simp only [List.set_cons_zero, List.set_cons_succ]
      refine hr_op (i := 1) rfl rfl (by kernel_rfl) (by kernel_rfl) (fun K hK => ?_)
      go_simp
      ((with_reducible refine (saner8_c r _ (HRK.out.below (by (repeat (first | (with_reducible exact Below.refl _ _) | (with_reducible assumption) | (with_reducible refine Below.grow ?_ ?_ _ _) | (with_reducible refine Below.drewN' ?_ _) | (with_reducible refine Below.drew ?_) | (with_reducible refine Below.alloc ?_ ?_ _) | (with_reducible refine Below.setCell ?_ ?_ _) | omega | (focus (simp; done)) | (focus (simp; omega))))))).mono ?_); rintro e wq ⟨rfl, X6, d6, rfl⟩)
      (try go_wp2_with fail)
      refine hK.out _ _ ?_ (fun hHeld => ?_)
      · ((try dsimp only); go_simp)
      clear hK K
      simp only [List.set_cons_zero, List.set_cons_succ]
      refine hr_take (i := 2) rfl rfl (by kernel_rfl) (by kernel_rfl) (by kernel_rfl) (by kernel_rfl) (fun _ _ _ h => h) (v := ?_) ?_ (by assumption) ?_
      rotate_left
      focus (intro wS hSw; (try dsimp only at hSw); go_simp; (try with_reducible rfl))
      simp only [List.set_cons_zero, List.set_cons_succ]
      refine hr_skip (i := 3) rfl rfl (by kernel_rfl) (by kernel_rfl) (by kernel_rfl) (by kernel_rfl) (fun _ _ _ h => h) (by assumption) ?_
      simp only [List.set_cons_zero, List.set_cons_succ]
      refine hr_skip (i := 4) rfl rfl (by kernel_rfl) (by kernel_rfl) (by kernel_rfl) (by kernel_rfl) (fun _ _ _ h => h) (by assumption) ?_
      simp only [List.set_cons_zero, List.set_cons_succ]
      refine hr_skip (i := 5) rfl rfl (by kernel_rfl) (by kernel_rfl) (by kernel_rfl) (by kernel_rfl) (fun _ _ _ h => h) (by assumption) ?_
      simp only [List.set_cons_zero, List.set_cons_succ]
      refine hr_skip (i := 6) rfl rfl (by kernel_rfl) (by kernel_rfl) (by kernel_rfl) (by kernel_rfl) (fun _ _ _ h => h) (by assumption) ?_
      simp only [List.set_cons_zero, List.set_cons_succ]
      refine hr_skip (i := 7) rfl rfl (by kernel_rfl) (by kernel_rfl) (by kernel_rfl) (by kernel_rfl) (fun _ _ _ h => h) (by assumption) ?_
      simp only [List.set_cons_zero, List.set_cons_succ]
      refine hr_skip (i := 8) rfl rfl (by kernel_rfl) (by kernel_rfl) (by kernel_rfl) (by kernel_rfl) (fun _ _ _ h => h) (by assumption) ?_
      simp only [List.set_cons_zero, List.set_cons_succ]
      refine hr_skip (i := 9) rfl rfl (by kernel_rfl) (by kernel_rfl) (by kernel_rfl) (by kernel_rfl) (fun _ _ _ h => h) (by assumption) ?_
      simp only [List.set_cons_zero, List.set_cons_succ]
      refine hr_skip (i := 10) rfl rfl (by kernel_rfl) (by kernel_rfl) (by kernel_rfl) (by kernel_rfl) (fun _ _ _ h => h) (by assumption) ?_
      simp only [List.set_cons_zero, List.set_cons_succ]
      refine hr_skip (i := 11) rfl rfl (by kernel_rfl) (by kernel_rfl) (by kernel_rfl) (by kernel_rfl) (fun _ _ _ h => h) (by assumption) ?_
      simp only [List.set_cons_zero, List.set_cons_succ]
      refine hr_take (i := 12) rfl rfl (by kernel_rfl) (by kernel_rfl) (by kernel_rfl) (by kernel_rfl) (fun _ _ _ h => h) (v := ?_) ?_ (by assumption) ?_
      rotate_left
      focus (intro wS hSw; (try dsimp only at hSw); go_simp; (try with_reducible rfl))
      simp only [List.set_cons_zero, List.set_cons_succ]
      refine hr_take (i := 13) rfl rfl (by kernel_rfl) (by kernel_rfl) (by kernel_rfl) (by kernel_rfl) (fun _ _ _ h => h) (v := ?_) ?_ (by assumption) ?_
      rotate_left
      focus (intro wS hSw; (try dsimp only at hSw); go_simp; (try with_reducible rfl))
      simp only [List.set_cons_zero, List.set_cons_succ]
      refine hr_done (by kernel_rfl) ?_
      (go_wp2_with fail; go_meet; case rel => exact ⟨by first | (congr 1; simp [*]; done) | (congr 1; simp [*]; rw [Bool.eq_iff_iff, beq_iff_eq, decide_eq_true_eq]; omega), by (repeat (first | (with_reducible exact Below.refl _ _) | (with_reducible assumption) | (with_reducible refine Below.grow ?_ ?_ _ _) | (with_reducible refine Below.drewN' ?_ _) | (with_reducible refine Below.drew ?_) | (with_reducible refine Below.alloc ?_ ?_ _) | (with_reducible refine Below.setCell ?_ ?_ _) | omega | (focus (simp; done)) | (focus (simp; omega))))⟩)
    · refine hr_start (S := (fun w' => w'.cell? ⟨w.heap.size, 0, none⟩ = some (.slice r.A r.n r.cap) ∧ w'.cell? ⟨w.heap.size, 1, none⟩ = some (.bool r.wb) ∧ w'.cell? ⟨w.heap.size, 2, none⟩ = some (.int .i64 r.dir) ∧ w'.cell? ⟨w.heap.size, 3, none⟩ = some (.bool r.ex) ∧ w'.cell? ⟨bx, ox, none⟩ = some (.slice A0 m cap0))) (by kernel_rfl) rfl ?_ (fun hHeld => ?_)
      · ((try dsimp only); go_simp)
      refine hr_take (i := 0) rfl rfl (by kernel_rfl) (by kernel_rfl) (by kernel_rfl) (by kernel_rfl) (fun _ _ _ h => h) (v := ?_) ?_ (by assumption) ?_
      rotate_left
      focus (intro wS hSw; (try dsimp only at hSw); go_simp; (try with_reducible rfl))
      simp only [List.set_cons_zero, List.set_cons_succ]
      refine hr_op (i := 1) rfl rfl (by kernel_rfl) (by kernel_rfl) (fun K hK => ?_)
      go_simp
      ((with_reducible refine (saner8_c r _ (HRK.out.below (by (repeat (first | (with_reducible exact Below.refl _ _) | (with_reducible assumption) | (with_reducible refine Below.grow ?_ ?_ _ _) | (with_reducible refine Below.drewN' ?_ _) | (with_reducible refine Below.drew ?_) | (with_reducible refine Below.alloc ?_ ?_ _) | (with_reducible refine Below.setCell ?_ ?_ _) | omega | (focus (simp; done)) | (focus (simp; omega))))))).mono ?_); rintro e wq ⟨rfl, X6, d6, rfl⟩)
      (try go_wp2_with fail)
      refine hK.out _ _ ?_ (fun hHeld => ?_)
      · ((try dsimp only); go_simp)
      clear hK K
      simp only [List.set_cons_zero, List.set_cons_succ]
      refine hr_take (i := 2) rfl rfl (by kernel_rfl) (by kernel_rfl) (by kernel_rfl) (by kernel_rfl) (fun _ _ _ h => h) (v := ?_) ?_ (by assumption) ?_
      rotate_left
      focus (intro wS hSw; (try dsimp only at hSw); go_simp; (try with_reducible rfl))
      simp only [List.set_cons_zero, List.set_cons_succ]
      refine hr_take (i := 3) rfl rfl (by kernel_rfl) (by kernel_rfl) (by kernel_rfl) (by kernel_rfl) (fun _ _ _ h => h) (v := ?_) ?_ (by assumption) ?_
      rotate_left
      focus (intro wS hSw; (try dsimp only at hSw); go_simp; (try with_reducible rfl))
      simp only [List.set_cons_zero, List.set_cons_succ]
      refine hr_take (i := 4) rfl rfl (by kernel_rfl) (by kernel_rfl) (by kernel_rfl) (by kernel_rfl) (fun _ _ _ h => h) (v := ?_) ?_ (by assumption) ?_
      rotate_left
      focus (intro wS hSw; (try dsimp only at hSw); go_simp; (try with_reducible rfl))
      simp only [List.set_cons_zero, List.set_cons_succ]
      refine hr_take (i := 5) rfl rfl (by kernel_rfl) (by kernel_rfl) (by kernel_rfl) (by kernel_rfl) (fun _ _ _ h => h) (v := ?_) ?_ (by assumption) ?_
      rotate_left
      focus (intro wS hSw; (try dsimp only at hSw); go_simp; (try with_reducible rfl))
      simp only [List.set_cons_zero, List.set_cons_succ]
      refine hr_take (i := 6) rfl rfl (by kernel_rfl) (by kernel_rfl) (by kernel_rfl) (by kernel_rfl) (fun _ _ _ h => h) (v := ?_) ?_ (by assumption) ?_
      rotate_left
      focus (intro wS hSw; (try dsimp only at hSw); go_simp; (try with_reducible rfl))
      simp only [List.set_cons_zero, List.set_cons_succ]
      refine hr_take (i := 7) rfl rfl (by kernel_rfl) (by kernel_rfl) (by kernel_rfl) (by kernel_rfl) (fun _ _ _ h => h) (v := ?_) ?_ (by assumption) ?_
      rotate_left
      focus (intro wS hSw; (try dsimp only at hSw); go_simp; (try with_reducible rfl))
      simp only [List.set_cons_zero, List.set_cons_succ]
      refine hr_take (i := 8) rfl rfl (by kernel_rfl) (by kernel_rfl) (by kernel_rfl) (by kernel_rfl) (fun _ _ _ h => h) (v := ?_) ?_ (by assumption) ?_
      rotate_left
      focus (intro wS hSw; (try dsimp only at hSw); go_simp; (try with_reducible rfl))
      simp only [List.set_cons_zero, List.set_cons_succ]
      refine hr_take (i := 9) rfl rfl (by kernel_rfl) (by kernel_rfl) (by kernel_rfl) (by kernel_rfl) (fun _ _ _ h => h) (v := ?_) ?_ (by assumption) ?_
      rotate_left
      focus (intro wS hSw; (try dsimp only at hSw); go_simp; (try with_reducible rfl))
      simp only [List.set_cons_zero, List.set_cons_succ]
      refine hr_take (i := 10) rfl rfl (by kernel_rfl) (by kernel_rfl) (by kernel_rfl) (by kernel_rfl) (fun _ _ _ h => h) (v := ?_) ?_ (by assumption) ?_
      rotate_left
      focus (intro wS hSw; (try dsimp only at hSw); go_simp; (try with_reducible rfl))
      simp only [List.set_cons_zero, List.set_cons_succ]
      refine hr_take (i := 11) rfl rfl (by kernel_rfl) (by kernel_rfl) (by kernel_rfl) (by kernel_rfl) (fun _ _ _ h => h) (v := ?_) ?_ (by assumption) ?_
      rotate_left
      focus (intro wS hSw; (try dsimp only at hSw); go_simp; (try with_reducible rfl))
      simp only [List.set_cons_zero, List.set_cons_succ]
      refine hr_take (i := 12) rfl rfl (by kernel_rfl) (by kernel_rfl) (by kernel_rfl) (by kernel_rfl) (fun _ _ _ h => h) (v := ?_) ?_ (by assumption) ?_
      rotate_left
      focus (intro wS hSw; (try dsimp only at hSw); go_simp; (try with_reducible rfl))
      simp only [List.set_cons_zero, List.set_cons_succ]
      refine hr_take (i := 13) rfl rfl (by kernel_rfl) (by kernel_rfl) (by kernel_rfl) (by kernel_rfl) (fun _ _ _ h => h) (v := ?_) ?_ (by assumption) ?_
      rotate_left
      focus (intro wS hSw; (try dsimp only at hSw); go_simp; (try with_reducible rfl))
      simp only [List.set_cons_zero, List.set_cons_succ]
      refine hr_done (by kernel_rfl) ?_
      (go_wp2_with fail; go_meet; case rel => exact ⟨by first | (congr 1; simp [*]; done) | (congr 1; simp [*]; rw [Bool.eq_iff_iff, beq_iff_eq, decide_eq_true_eq]; omega), by (repeat (first | (with_reducible exact Below.refl _ _) | (with_reducible assumption) | (with_reducible refine Below.grow ?_ ?_ _ _) | (with_reducible refine Below.drewN' ?_ _) | (with_reducible refine Below.drew ?_) | (with_reducible refine Below.alloc ?_ ?_ _) | (with_reducible refine Below.setCell ?_ ?_ _) | omega | (focus (simp; done)) | (focus (simp; omega))))⟩)
  case rest =>
    obtain ⟨rfl, hb11⟩ := hcut
    clear q0 q1 q2 q3 qf ql z0
    have HX11 := Lib.hid (HX10.out.below hb11)
    have HS11 := Lib.hid (HR10.out.below hb11)
    have HRK11 := Lib.hid (HRK.out.below hb11)
    have HB11 := Lib.hid (HB10.out.below hb11 HB10.out.lt)
    have HBr11 := Lib.hid (HB1c.out.below hb11 HB1c.out.lt)
    have HBW11 := Lib.hid (HB10s.out.trans (hb11.mono HB10s.out.size))
    obtain ⟨b9, o9, rfl, hb9z, -, -⟩ := HS11.out.at_ (k := 0) (by rw [listG_len]; exact hpos)
    have hw8c := HB11.out.lt
    have hwc := HBr11.out.lt
    clear hb11 HB1c hw8s hB1
    generalize hmay : decide (r.n = m ∧ saneRw r = true) = may
    have hset : ∀ j, setG F k r j = if j = k ∧ may = true then r else F j := fun j => by
      rw [← hmay, HMN.out]
      unfold setG updG
      by_cases h : r.n = (F 0).n ∧ saneRw r = true
      · rw [if_pos h, decide_eq_true h]
        simp
      · rw [if_neg h, decide_eq_false h]
        simp
    have HSET := Lib.hid hset
    clear hset hmay
    go_wp2_with fail
    go_loopw [14] (fun i wz => ∃ j : Nat, j ≤ n ∧ i = .int .i64 j ∧ Below wc.heap.size wc wz) (fun i _ => n - (intOf i).toNat)
    case atStart => exact ⟨0, Nat.zero_le _, rfl, Below.refl _ _⟩
    case round =>
      obtain ⟨j, hj, rfl, hb⟩ := hrel
      by_cases hlt : j < n
      · have hltI : (j : Int) < n := by omega
        obtain ⟨hat, hokj, -⟩ := rdR_atG (HX11.out.below hb) hlt
        obtain ⟨hats, hoks, -⟩ := rdR_atG (HS11.out.below hb) hlt
        rw [HSET.out j] at hats hoks
        have hB1 := HBr11.out.below hb HBr11.out.lt
        have hB9 := HB11.out.below hb HB11.out.lt
        have hws := hb.size
        by_cases hjk : j = k ∧ may = true
        · obtain ⟨rfl, rfl⟩ := hjk
          rw [if_pos ⟨rfl, rfl⟩] at hats hoks
          generalize F j = t at hat hokj
          obtain ⟨p0, p1, p2, p3⟩ := hat
          simp only [Nat.add_assoc] at p1 p2 p3
          obtain ⟨q0, q1, q2, q3, qf, ql⟩ := hB1.facts4
          go_upto_region 18 with fail
          clear p0 p1 p2 p3 q0 q1 q2 q3 qf ql hokj
          have hoks' := hoks
          (generalize hwb : wr.alloc _ = wb; have hbx : Below wr.heap.size wr wb := (by rw [← hwb]; (repeat (first | (with_reducible exact Below.refl _ _) | (with_reducible assumption) | (with_reducible refine Below.grow ?_ ?_ _ _) | (with_reducible refine Below.drewN' ?_ _) | (with_reducible refine Below.drew ?_) | (with_reducible refine Below.alloc ?_ ?_ _) | (with_reducible refine Below.setCell ?_ ?_ _) | omega | (focus (simp; done)) | (focus (simp; omega))))); have hBw := (show Blk wb wr.heap.size _ _ from (by rw [← hwb]; exact Blk.new _ _ _)); clear hwb; have hB9' := hB9.below hbx hB9.lt; have hats' := rowAt_of ((rowAt_to hats).below hbx (by omega)); have HOK := Lib.hid (hoks.below hbx); have hbb := hb.trans (hbx.mono hb.size); have hb9b : b9 < wb.heap.size := (by have := hbx.size; omega); clear hats hoks hB9 hbx; obtain ⟨u0, u1, u2, u3⟩ := hats'; simp only [Nat.add_assoc] at u1 u2 u3; obtain ⟨q0, q1, q2, q3, qf, ql⟩ := hBw.facts4; have r0 := hB9'.cell 0; have rl := hB9'.lt; simp only [List.getElem?_toArray, List.getElem?_cons_zero] at r0)
          refine hr_start (S := (fun w' => w'.cell? ⟨w8.heap.size, 0, none⟩ = some (.slice (some ⟨b9, o9, none⟩) n c9) ∧ w'.cell? ⟨wr.heap.size, 0, none⟩ = some (.slice r.A r.n r.cap) ∧ w'.cell? ⟨wr.heap.size, 1, none⟩ = some (.bool r.wb) ∧ w'.cell? ⟨wr.heap.size, 2, none⟩ = some (.int .i64 r.dir) ∧ w'.cell? ⟨wr.heap.size, 3, none⟩ = some (.bool r.ex) ∧ w'.cell? ⟨b9, o9 + j * 4, none⟩ = some (.slice r.A r.n r.cap) ∧ w'.cell? ⟨b9, o9 + (j * 4 + 1), none⟩ = some (.bool r.wb) ∧ w'.cell? ⟨b9, o9 + (j * 4 + 2), none⟩ = some (.int .i64 r.dir) ∧ w'.cell? ⟨b9, o9 + (j * 4 + 3), none⟩ = some (.bool r.ex))) (by kernel_rfl) rfl ?_ (fun hHeld => ?_)
          · ((try dsimp only); go_simp)
          refine hr_take (i := 0) rfl rfl (by kernel_rfl) (by kernel_rfl) (by kernel_rfl) (by kernel_rfl) (fun _ _ _ h => h) (v := ?_) ?_ (by assumption) ?_
          rotate_left
          focus (intro wS hSw; (try dsimp only at hSw); go_simp; (try with_reducible rfl))
          simp only [List.set_cons_zero, List.set_cons_succ]
          refine hr_take (i := 1) rfl rfl (by kernel_rfl) (by kernel_rfl) (by kernel_rfl) (by kernel_rfl) (fun _ _ _ h => h) (v := ?_) ?_ (by assumption) ?_
          rotate_left
          focus (intro wS hSw; (try dsimp only at hSw); go_simp; (try with_reducible rfl))
          simp only [List.set_cons_zero, List.set_cons_succ]
          refine hr_take (i := 2) rfl rfl (by kernel_rfl) (by kernel_rfl) (by kernel_rfl) (by kernel_rfl) (fun _ _ _ h => h) (v := ?_) ?_ (by assumption) ?_
          rotate_left
          focus (intro wS hSw; (try dsimp only at hSw); go_simp; (try with_reducible rfl))
          simp only [List.set_cons_zero, List.set_cons_succ]
          refine hr_take (i := 3) rfl rfl (by kernel_rfl) (by kernel_rfl) (by kernel_rfl) (by kernel_rfl) (fun _ _ _ h => h) (v := ?_) ?_ (by assumption) ?_
          rotate_left
          focus (intro wS hSw; (try dsimp only at hSw); go_simp; (try with_reducible rfl))
          simp only [List.set_cons_zero, List.set_cons_succ]
          refine hr_take (i := 4) rfl rfl (by kernel_rfl) (by kernel_rfl) (by kernel_rfl) (by kernel_rfl) (fun _ _ _ h => h) (v := ?_) ?_ (by assumption) ?_
          rotate_left
          focus (intro wS hSw; (try dsimp only at hSw); go_simp; (try with_reducible rfl))
          simp only [List.set_cons_zero, List.set_cons_succ]
          refine hr_take (i := 5) rfl rfl (by kernel_rfl) (by kernel_rfl) (by kernel_rfl) (by kernel_rfl) (fun _ _ _ h => h) (v := ?_) ?_ (by assumption) ?_
          rotate_left
          focus (intro wS hSw; (try dsimp only at hSw); go_simp; (try with_reducible rfl))
          simp only [List.set_cons_zero, List.set_cons_succ]
          refine hr_op (i := 6) rfl rfl (by kernel_rfl) (by kernel_rfl) (fun K hK => ?_)
          go_simp
          ((with_reducible refine (samer_c r r _ (HOK.out.below (by (repeat (first | (with_reducible exact Below.refl _ _) | (with_reducible assumption) | (with_reducible refine Below.grow ?_ ?_ _ _) | (with_reducible refine Below.drewN' ?_ _) | (with_reducible refine Below.drew ?_) | (with_reducible refine Below.alloc ?_ ?_ _) | (with_reducible refine Below.setCell ?_ ?_ _) | omega | (focus (simp; done)) | (focus (simp; omega)))))) (HOK.out.below (by (repeat (first | (with_reducible exact Below.refl _ _) | (with_reducible assumption) | (with_reducible refine Below.grow ?_ ?_ _ _) | (with_reducible refine Below.drewN' ?_ _) | (with_reducible refine Below.drew ?_) | (with_reducible refine Below.alloc ?_ ?_ _) | (with_reducible refine Below.setCell ?_ ?_ _) | omega | (focus (simp; done)) | (focus (simp; omega))))))).mono ?_); rw [sameRow_refl]; rintro e w2 ⟨rfl, X2, d2, rfl⟩)
          (try go_wp2_with fail)
          refine hK.out _ _ ?_ (fun hHeld => ?_)
          · ((try dsimp only); go_simp)
          clear hK K
          simp only [List.set_cons_zero, List.set_cons_succ]
          refine hr_take (i := 7) rfl rfl (by kernel_rfl) (by kernel_rfl) (by kernel_rfl) (by kernel_rfl) (fun _ _ _ h => h) (v := ?_) ?_ (by assumption) ?_
          rotate_left
          focus (intro wS hSw; (try dsimp only at hSw); go_simp; (try with_reducible rfl))
          simp only [List.set_cons_zero, List.set_cons_succ]
          refine hr_done (by kernel_rfl) ?_
          go_wp2_with fail
          go_roundw
          case rel => exact ⟨j + 1, by omega, by go_num, by (repeat (first | (with_reducible exact Below.refl _ _) | (with_reducible assumption) | (with_reducible refine Below.grow ?_ ?_ _ _) | (with_reducible refine Below.drewN' ?_ _) | (with_reducible refine Below.drew ?_) | (with_reducible refine Below.alloc ?_ ?_ _) | (with_reducible refine Below.setCell ?_ ?_ _) | omega | (focus (simp; done)) | (focus (simp; omega))))⟩
          case measure => simp [intOf]; omega
        · rw [if_neg hjk] at hats hoks
          generalize F j = t at hat hokj hats hoks
          obtain ⟨p0, p1, p2, p3⟩ := hat
          simp only [Nat.add_assoc] at p1 p2 p3
          clear hB1
          cases hm : may
          · have hmF := hm
            subst hmF
            by_cases hjk2 : j = k
            · subst hjk2
              go_upto_region 18 with fail
              clear p0 p1 p2 p3 hokj
              (generalize hwb : wr.alloc _ = wb; have hbx : Below wr.heap.size wr wb := (by rw [← hwb]; (repeat (first | (with_reducible exact Below.refl _ _) | (with_reducible assumption) | (with_reducible refine Below.grow ?_ ?_ _ _) | (with_reducible refine Below.drewN' ?_ _) | (with_reducible refine Below.drew ?_) | (with_reducible refine Below.alloc ?_ ?_ _) | (with_reducible refine Below.setCell ?_ ?_ _) | omega | (focus (simp; done)) | (focus (simp; omega))))); have hBw := (show Blk wb wr.heap.size _ _ from (by rw [← hwb]; exact Blk.new _ _ _)); clear hwb; have hB9' := hB9.below hbx hB9.lt; have hats' := rowAt_of ((rowAt_to hats).below hbx (by omega)); have HOK := Lib.hid (hoks.below hbx); have hbb := hb.trans (hbx.mono hb.size); have hb9b : b9 < wb.heap.size := (by have := hbx.size; omega); clear hats hoks hB9 hbx; obtain ⟨u0, u1, u2, u3⟩ := hats'; simp only [Nat.add_assoc] at u1 u2 u3; obtain ⟨q0, q1, q2, q3, qf, ql⟩ := hBw.facts4; have r0 := hB9'.cell 0; have rl := hB9'.lt; simp only [List.getElem?_toArray, List.getElem?_cons_zero] at r0)
              refine hr_start (S := (fun w' => w'.cell? ⟨w8.heap.size, 0, none⟩ = some (.slice (some ⟨b9, o9, none⟩) n c9) ∧ w'.cell? ⟨wr.heap.size, 0, none⟩ = some (.slice t.A t.n t.cap) ∧ w'.cell? ⟨wr.heap.size, 1, none⟩ = some (.bool t.wb) ∧ w'.cell? ⟨wr.heap.size, 2, none⟩ = some (.int .i64 t.dir) ∧ w'.cell? ⟨wr.heap.size, 3, none⟩ = some (.bool t.ex) ∧ w'.cell? ⟨b9, o9 + j * 4, none⟩ = some (.slice t.A t.n t.cap) ∧ w'.cell? ⟨b9, o9 + (j * 4 + 1), none⟩ = some (.bool t.wb) ∧ w'.cell? ⟨b9, o9 + (j * 4 + 2), none⟩ = some (.int .i64 t.dir) ∧ w'.cell? ⟨b9, o9 + (j * 4 + 3), none⟩ = some (.bool t.ex))) (by kernel_rfl) rfl ?_ (fun hHeld => ?_)
              · ((try dsimp only); go_simp)
              refine hr_take (i := 0) rfl rfl (by kernel_rfl) (by kernel_rfl) (by kernel_rfl) (by kernel_rfl) (fun _ _ _ h => h) (v := ?_) ?_ (by assumption) ?_
              rotate_left
              focus (intro wS hSw; (try dsimp only at hSw); go_simp; (try with_reducible rfl))
              simp only [List.set_cons_zero, List.set_cons_succ]
              refine hr_take (i := 1) rfl rfl (by kernel_rfl) (by kernel_rfl) (by kernel_rfl) (by kernel_rfl) (fun _ _ _ h => h) (v := ?_) ?_ (by assumption) ?_
              rotate_left
              focus (intro wS hSw; (try dsimp only at hSw); go_simp; (try with_reducible rfl))
              simp only [List.set_cons_zero, List.set_cons_succ]
              refine hr_take (i := 2) rfl rfl (by kernel_rfl) (by kernel_rfl) (by kernel_rfl) (by kernel_rfl) (fun _ _ _ h => h) (v := ?_) ?_ (by assumption) ?_
              rotate_left
              focus (intro wS hSw; (try dsimp only at hSw); go_simp; (try with_reducible rfl))
              simp only [List.set_cons_zero, List.set_cons_succ]
              refine hr_take (i := 3) rfl rfl (by kernel_rfl) (by kernel_rfl) (by kernel_rfl) (by kernel_rfl) (fun _ _ _ h => h) (v := ?_) ?_ (by assumption) ?_
              rotate_left
              focus (intro wS hSw; (try dsimp only at hSw); go_simp; (try with_reducible rfl))
              simp only [List.set_cons_zero, List.set_cons_succ]
              refine hr_take (i := 4) rfl rfl (by kernel_rfl) (by kernel_rfl) (by kernel_rfl) (by kernel_rfl) (fun _ _ _ h => h) (v := ?_) ?_ (by assumption) ?_
              rotate_left
              focus (intro wS hSw; (try dsimp only at hSw); go_simp; (try with_reducible rfl))
              simp only [List.set_cons_zero, List.set_cons_succ]
              refine hr_take (i := 5) rfl rfl (by kernel_rfl) (by kernel_rfl) (by kernel_rfl) (by kernel_rfl) (fun _ _ _ h => h) (v := ?_) ?_ (by assumption) ?_
              rotate_left
              focus (intro wS hSw; (try dsimp only at hSw); go_simp; (try with_reducible rfl))
              simp only [List.set_cons_zero, List.set_cons_succ]
              refine hr_op (i := 6) rfl rfl (by kernel_rfl) (by kernel_rfl) (fun K hK => ?_)
              go_simp
              ((with_reducible refine (samer_c t t _ (HOK.out.below (by (repeat (first | (with_reducible exact Below.refl _ _) | (with_reducible assumption) | (with_reducible refine Below.grow ?_ ?_ _ _) | (with_reducible refine Below.drewN' ?_ _) | (with_reducible refine Below.drew ?_) | (with_reducible refine Below.alloc ?_ ?_ _) | (with_reducible refine Below.setCell ?_ ?_ _) | omega | (focus (simp; done)) | (focus (simp; omega)))))) (HOK.out.below (by (repeat (first | (with_reducible exact Below.refl _ _) | (with_reducible assumption) | (with_reducible refine Below.grow ?_ ?_ _ _) | (with_reducible refine Below.drewN' ?_ _) | (with_reducible refine Below.drew ?_) | (with_reducible refine Below.alloc ?_ ?_ _) | (with_reducible refine Below.setCell ?_ ?_ _) | omega | (focus (simp; done)) | (focus (simp; omega))))))).mono ?_); rw [sameRow_refl]; rintro e w2 ⟨rfl, X2, d2, rfl⟩)
              (try go_wp2_with fail)
              refine hK.out _ _ ?_ (fun hHeld => ?_)
              · ((try dsimp only); go_simp)
              clear hK K
              simp only [List.set_cons_zero, List.set_cons_succ]
              refine hr_take (i := 7) rfl rfl (by kernel_rfl) (by kernel_rfl) (by kernel_rfl) (by kernel_rfl) (fun _ _ _ h => h) (v := ?_) ?_ (by assumption) ?_
              rotate_left
              focus (intro wS hSw; (try dsimp only at hSw); go_simp; (try with_reducible rfl))
              simp only [List.set_cons_zero, List.set_cons_succ]
              refine hr_done (by kernel_rfl) ?_
              go_wp2_with fail
              go_roundw
              case rel => exact ⟨j + 1, by omega, by go_num, by (repeat (first | (with_reducible exact Below.refl _ _) | (with_reducible assumption) | (with_reducible refine Below.grow ?_ ?_ _ _) | (with_reducible refine Below.drewN' ?_ _) | (with_reducible refine Below.drew ?_) | (with_reducible refine Below.alloc ?_ ?_ _) | (with_reducible refine Below.setCell ?_ ?_ _) | omega | (focus (simp; done)) | (focus (simp; omega))))⟩
              case measure => simp [intOf]; omega
            · have hjkI : ¬ (j : Int) = k := by omega
              go_upto_region 18 with fail
              clear p0 p1 p2 p3 hokj
              (generalize hwb : wr.alloc _ = wb; have hbx : Below wr.heap.size wr wb := (by rw [← hwb]; (repeat (first | (with_reducible exact Below.refl _ _) | (with_reducible assumption) | (with_reducible refine Below.grow ?_ ?_ _ _) | (with_reducible refine Below.drewN' ?_ _) | (with_reducible refine Below.drew ?_) | (with_reducible refine Below.alloc ?_ ?_ _) | (with_reducible refine Below.setCell ?_ ?_ _) | omega | (focus (simp; done)) | (focus (simp; omega))))); have hBw := (show Blk wb wr.heap.size _ _ from (by rw [← hwb]; exact Blk.new _ _ _)); clear hwb; have hB9' := hB9.below hbx hB9.lt; have hats' := rowAt_of ((rowAt_to hats).below hbx (by omega)); have HOK := Lib.hid (hoks.below hbx); have hbb := hb.trans (hbx.mono hb.size); have hb9b : b9 < wb.heap.size := (by have := hbx.size; omega); clear hats hoks hB9 hbx; obtain ⟨u0, u1, u2, u3⟩ := hats'; simp only [Nat.add_assoc] at u1 u2 u3; obtain ⟨q0, q1, q2, q3, qf, ql⟩ := hBw.facts4; have r0 := hB9'.cell 0; have rl := hB9'.lt; simp only [List.getElem?_toArray, List.getElem?_cons_zero] at r0)
              refine hr_start (S := (fun w' => w'.cell? ⟨w8.heap.size, 0, none⟩ = some (.slice (some ⟨b9, o9, none⟩) n c9) ∧ w'.cell? ⟨wr.heap.size, 0, none⟩ = some (.slice t.A t.n t.cap) ∧ w'.cell? ⟨wr.heap.size, 1, none⟩ = some (.bool t.wb) ∧ w'.cell? ⟨wr.heap.size, 2, none⟩ = some (.int .i64 t.dir) ∧ w'.cell? ⟨wr.heap.size, 3, none⟩ = some (.bool t.ex) ∧ w'.cell? ⟨b9, o9 + j * 4, none⟩ = some (.slice t.A t.n t.cap) ∧ w'.cell? ⟨b9, o9 + (j * 4 + 1), none⟩ = some (.bool t.wb) ∧ w'.cell? ⟨b9, o9 + (j * 4 + 2), none⟩ = some (.int .i64 t.dir) ∧ w'.cell? ⟨b9, o9 + (j * 4 + 3), none⟩ = some (.bool t.ex))) (by kernel_rfl) rfl ?_ (fun hHeld => ?_)
              · ((try dsimp only); go_simp)
              refine hr_take (i := 0) rfl rfl (by kernel_rfl) (by kernel_rfl) (by kernel_rfl) (by kernel_rfl) (fun _ _ _ h => h) (v := ?_) ?_ (by assumption) ?_
              rotate_left
              focus (intro wS hSw; (try dsimp only at hSw); go_simp; (try with_reducible rfl))
              simp only [List.set_cons_zero, List.set_cons_succ]
              refine hr_take (i := 1) rfl rfl (by kernel_rfl) (by kernel_rfl) (by kernel_rfl) (by kernel_rfl) (fun _ _ _ h => h) (v := ?_) ?_ (by assumption) ?_
              rotate_left
              focus (intro wS hSw; (try dsimp only at hSw); go_simp; (try with_reducible rfl))
              simp only [List.set_cons_zero, List.set_cons_succ]
              refine hr_take (i := 2) rfl rfl (by kernel_rfl) (by kernel_rfl) (by kernel_rfl) (by kernel_rfl) (fun _ _ _ h => h) (v := ?_) ?_ (by assumption) ?_
              rotate_left
              focus (intro wS hSw; (try dsimp only at hSw); go_simp; (try with_reducible rfl))
              simp only [List.set_cons_zero, List.set_cons_succ]
              refine hr_take (i := 3) rfl rfl (by kernel_rfl) (by kernel_rfl) (by kernel_rfl) (by kernel_rfl) (fun _ _ _ h => h) (v := ?_) ?_ (by assumption) ?_
              rotate_left
              focus (intro wS hSw; (try dsimp only at hSw); go_simp; (try with_reducible rfl))
              simp only [List.set_cons_zero, List.set_cons_succ]
              refine hr_take (i := 4) rfl rfl (by kernel_rfl) (by kernel_rfl) (by kernel_rfl) (by kernel_rfl) (fun _ _ _ h => h) (v := ?_) ?_ (by assumption) ?_
              rotate_left
              focus (intro wS hSw; (try dsimp only at hSw); go_simp; (try with_reducible rfl))
              simp only [List.set_cons_zero, List.set_cons_succ]
              refine hr_take (i := 5) rfl rfl (by kernel_rfl) (by kernel_rfl) (by kernel_rfl) (by kernel_rfl) (fun _ _ _ h => h) (v := ?_) ?_ (by assumption) ?_
              rotate_left
              focus (intro wS hSw; (try dsimp only at hSw); go_simp; (try with_reducible rfl))
              simp only [List.set_cons_zero, List.set_cons_succ]
              refine hr_op (i := 6) rfl rfl (by kernel_rfl) (by kernel_rfl) (fun K hK => ?_)
              go_simp
              ((with_reducible refine (samer_c t t _ (HOK.out.below (by (repeat (first | (with_reducible exact Below.refl _ _) | (with_reducible assumption) | (with_reducible refine Below.grow ?_ ?_ _ _) | (with_reducible refine Below.drewN' ?_ _) | (with_reducible refine Below.drew ?_) | (with_reducible refine Below.alloc ?_ ?_ _) | (with_reducible refine Below.setCell ?_ ?_ _) | omega | (focus (simp; done)) | (focus (simp; omega)))))) (HOK.out.below (by (repeat (first | (with_reducible exact Below.refl _ _) | (with_reducible assumption) | (with_reducible refine Below.grow ?_ ?_ _ _) | (with_reducible refine Below.drewN' ?_ _) | (with_reducible refine Below.drew ?_) | (with_reducible refine Below.alloc ?_ ?_ _) | (with_reducible refine Below.setCell ?_ ?_ _) | omega | (focus (simp; done)) | (focus (simp; omega))))))).mono ?_); rw [sameRow_refl]; rintro e w2 ⟨rfl, X2, d2, rfl⟩)
              (try go_wp2_with fail)
              refine hK.out _ _ ?_ (fun hHeld => ?_)
              · ((try dsimp only); go_simp)
              clear hK K
              simp only [List.set_cons_zero, List.set_cons_succ]
              refine hr_take (i := 7) rfl rfl (by kernel_rfl) (by kernel_rfl) (by kernel_rfl) (by kernel_rfl) (fun _ _ _ h => h) (v := ?_) ?_ (by assumption) ?_
              rotate_left
              focus (intro wS hSw; (try dsimp only at hSw); go_simp; (try with_reducible rfl))
              simp only [List.set_cons_zero, List.set_cons_succ]
              refine hr_done (by kernel_rfl) ?_
              go_wp2_with fail
              go_roundw
              case rel => exact ⟨j + 1, by omega, by go_num, by (repeat (first | (with_reducible exact Below.refl _ _) | (with_reducible assumption) | (with_reducible refine Below.grow ?_ ?_ _ _) | (with_reducible refine Below.drewN' ?_ _) | (with_reducible refine Below.drew ?_) | (with_reducible refine Below.alloc ?_ ?_ _) | (with_reducible refine Below.setCell ?_ ?_ _) | omega | (focus (simp; done)) | (focus (simp; omega))))⟩
              case measure => simp [intOf]; omega
          · subst hm
            have hjk2 : ¬ j = k := fun e => hjk ⟨e, rfl⟩
            have hjkI : ¬ (j : Int) = k := by omega
            go_upto_region 18 with fail
            clear p0 p1 p2 p3 hokj
            (generalize hwb : wr.alloc _ = wb; have hbx : Below wr.heap.size wr wb := (by rw [← hwb]; (repeat (first | (with_reducible exact Below.refl _ _) | (with_reducible assumption) | (with_reducible refine Below.grow ?_ ?_ _ _) | (with_reducible refine Below.drewN' ?_ _) | (with_reducible refine Below.drew ?_) | (with_reducible refine Below.alloc ?_ ?_ _) | (with_reducible refine Below.setCell ?_ ?_ _) | omega | (focus (simp; done)) | (focus (simp; omega))))); have hBw := (show Blk wb wr.heap.size _ _ from (by rw [← hwb]; exact Blk.new _ _ _)); clear hwb; have hB9' := hB9.below hbx hB9.lt; have hats' := rowAt_of ((rowAt_to hats).below hbx (by omega)); have HOK := Lib.hid (hoks.below hbx); have hbb := hb.trans (hbx.mono hb.size); have hb9b : b9 < wb.heap.size := (by have := hbx.size; omega); clear hats hoks hB9 hbx; obtain ⟨u0, u1, u2, u3⟩ := hats'; simp only [Nat.add_assoc] at u1 u2 u3; obtain ⟨q0, q1, q2, q3, qf, ql⟩ := hBw.facts4; have r0 := hB9'.cell 0; have rl := hB9'.lt; simp only [List.getElem?_toArray, List.getElem?_cons_zero] at r0)
            refine hr_start (S := (fun w' => w'.cell? ⟨w8.heap.size, 0, none⟩ = some (.slice (some ⟨b9, o9, none⟩) n c9) ∧ w'.cell? ⟨wr.heap.size, 0, none⟩ = some (.slice t.A t.n t.cap) ∧ w'.cell? ⟨wr.heap.size, 1, none⟩ = some (.bool t.wb) ∧ w'.cell? ⟨wr.heap.size, 2, none⟩ = some (.int .i64 t.dir) ∧ w'.cell? ⟨wr.heap.size, 3, none⟩ = some (.bool t.ex) ∧ w'.cell? ⟨b9, o9 + j * 4, none⟩ = some (.slice t.A t.n t.cap) ∧ w'.cell? ⟨b9, o9 + (j * 4 + 1), none⟩ = some (.bool t.wb) ∧ w'.cell? ⟨b9, o9 + (j * 4 + 2), none⟩ = some (.int .i64 t.dir) ∧ w'.cell? ⟨b9, o9 + (j * 4 + 3), none⟩ = some (.bool t.ex))) (by kernel_rfl) rfl ?_ (fun hHeld => ?_)
            · ((try dsimp only); go_simp)
            refine hr_take (i := 0) rfl rfl (by kernel_rfl) (by kernel_rfl) (by kernel_rfl) (by kernel_rfl) (fun _ _ _ h => h) (v := ?_) ?_ (by assumption) ?_
            rotate_left
            focus (intro wS hSw; (try dsimp only at hSw); go_simp; (try with_reducible rfl))
            simp only [List.set_cons_zero, List.set_cons_succ]
            refine hr_take (i := 1) rfl rfl (by kernel_rfl) (by kernel_rfl) (by kernel_rfl) (by kernel_rfl) (fun _ _ _ h => h) (v := ?_) ?_ (by assumption) ?_
            rotate_left
            focus (intro wS hSw; (try dsimp only at hSw); go_simp; (try with_reducible rfl))
            simp only [List.set_cons_zero, List.set_cons_succ]
            refine hr_take (i := 2) rfl rfl (by kernel_rfl) (by kernel_rfl) (by kernel_rfl) (by kernel_rfl) (fun _ _ _ h => h) (v := ?_) ?_ (by assumption) ?_
            rotate_left
            focus (intro wS hSw; (try dsimp only at hSw); go_simp; (try with_reducible rfl))
            simp only [List.set_cons_zero, List.set_cons_succ]
            refine hr_take (i := 3) rfl rfl (by kernel_rfl) (by kernel_rfl) (by kernel_rfl) (by kernel_rfl) (fun _ _ _ h => h) (v := ?_) ?_ (by assumption) ?_
            rotate_left
            focus (intro wS hSw; (try dsimp only at hSw); go_simp; (try with_reducible rfl))
            simp only [List.set_cons_zero, List.set_cons_succ]
            refine hr_take (i := 4) rfl rfl (by kernel_rfl) (by kernel_rfl) (by kernel_rfl) (by kernel_rfl) (fun _ _ _ h => h) (v := ?_) ?_ (by assumption) ?_
            rotate_left
            focus (intro wS hSw; (try dsimp only at hSw); go_simp; (try with_reducible rfl))
            simp only [List.set_cons_zero, List.set_cons_succ]
            refine hr_take (i := 5) rfl rfl (by kernel_rfl) (by kernel_rfl) (by kernel_rfl) (by kernel_rfl) (fun _ _ _ h => h) (v := ?_) ?_ (by assumption) ?_
            rotate_left
            focus (intro wS hSw; (try dsimp only at hSw); go_simp; (try with_reducible rfl))
            simp only [List.set_cons_zero, List.set_cons_succ]
            refine hr_op (i := 6) rfl rfl (by kernel_rfl) (by kernel_rfl) (fun K hK => ?_)
            go_simp
            ((with_reducible refine (samer_c t t _ (HOK.out.below (by (repeat (first | (with_reducible exact Below.refl _ _) | (with_reducible assumption) | (with_reducible refine Below.grow ?_ ?_ _ _) | (with_reducible refine Below.drewN' ?_ _) | (with_reducible refine Below.drew ?_) | (with_reducible refine Below.alloc ?_ ?_ _) | (with_reducible refine Below.setCell ?_ ?_ _) | omega | (focus (simp; done)) | (focus (simp; omega)))))) (HOK.out.below (by (repeat (first | (with_reducible exact Below.refl _ _) | (with_reducible assumption) | (with_reducible refine Below.grow ?_ ?_ _ _) | (with_reducible refine Below.drewN' ?_ _) | (with_reducible refine Below.drew ?_) | (with_reducible refine Below.alloc ?_ ?_ _) | (with_reducible refine Below.setCell ?_ ?_ _) | omega | (focus (simp; done)) | (focus (simp; omega))))))).mono ?_); rw [sameRow_refl]; rintro e w2 ⟨rfl, X2, d2, rfl⟩)
            (try go_wp2_with fail)
            refine hK.out _ _ ?_ (fun hHeld => ?_)
            · ((try dsimp only); go_simp)
            clear hK K
            simp only [List.set_cons_zero, List.set_cons_succ]
            refine hr_take (i := 7) rfl rfl (by kernel_rfl) (by kernel_rfl) (by kernel_rfl) (by kernel_rfl) (fun _ _ _ h => h) (v := ?_) ?_ (by assumption) ?_
            rotate_left
            focus (intro wS hSw; (try dsimp only at hSw); go_simp; (try with_reducible rfl))
            simp only [List.set_cons_zero, List.set_cons_succ]
            refine hr_done (by kernel_rfl) ?_
            go_wp2_with fail
            go_roundw
            case rel => exact ⟨j + 1, by omega, by go_num, by (repeat (first | (with_reducible exact Below.refl _ _) | (with_reducible assumption) | (with_reducible refine Below.grow ?_ ?_ _ _) | (with_reducible refine Below.drewN' ?_ _) | (with_reducible refine Below.drew ?_) | (with_reducible refine Below.alloc ?_ ?_ _) | (with_reducible refine Below.setCell ?_ ?_ _) | omega | (focus (simp; done)) | (focus (simp; omega))))⟩
            case measure => simp [intOf]; omega
      · obtain rfl : n = j := by omega
        obtain ⟨wo, rfl⟩ : ∃ wo : World, wo = wr := ⟨_, rfl⟩
        have hBo := HB11.out.below hb HB11.out.lt
        have hbo := HBW11.out.trans (hb.mono HBW11.out.size)
        have HSo := Lib.hid (HS11.out.below hb)
        have HXo := Lib.hid (HX11.out.below hb)
        have HBo := Lib.hid hBo
        have r0 := hBo.cell 0
        have rl := hBo.lt
        simp only [List.getElem?_toArray, List.getElem?_cons_zero] at r0
        clear hBo hb
        go_wp2_with fail
        refine (clear_f (.slice (some ⟨b9, o9, none⟩) n c9) n (setG F k r) k 1 (k + 1) _ _ 0 0 0 _ HSo.out HS9.out (by decide) (by omega) (by omega) (by omega)).mono ?_
        rintro e w20 ⟨g4, c4, B, rfl, hg, hc4, hr4, -⟩
        have hHk : layG (setG F k r) k 1 B (setG F k r 0).n 0 0 0 k = newRw (B 0) m 0 0 0 := by
          unfold layG
          rw [if_pos (by omega), Nat.sub_self, HN9.out]
        have HHK := Lib.hid hHk
        generalize layG (setG F k r) k 1 B (setG F k r 0).n 0 0 0 = H at hr4 HHK
        have HS20 := Lib.hid (HSo.out.below hg)
        have HX20 := Lib.hid (HXo.out.below hg)
        have HB20 := Lib.hid (HBo.out.below hg HBo.out.lt)
        have HC20 := Lib.hid hr4
        have HW20 := Lib.hid (hbo.trans (hg.mono hbo.size))
        clear r0 rl hr4 hHk hg hbo
        go_upto_region 21 with fail
        generalize hw21 : w20.alloc _ = w21
        have hg21 : Below w20.heap.size w20 w21 := by rw [← hw21]; (repeat (first | (with_reducible exact Below.refl _ _) | (with_reducible assumption) | (with_reducible refine Below.grow ?_ ?_ _ _) | (with_reducible refine Below.drewN' ?_ _) | (with_reducible refine Below.drew ?_) | (with_reducible refine Below.alloc ?_ ?_ _) | (with_reducible refine Below.setCell ?_ ?_ _) | omega | (focus (simp; done)) | (focus (simp; omega))))
        have hBc : Blk w21 w20.heap.size 60 #[.slice (some ⟨g4, 0, none⟩) n c4] := by rw [← hw21]; exact Blk.new _ _ _
        clear hw21
        have HS21 := Lib.hid (HS20.out.below hg21)
        have HX21 := Lib.hid (HX20.out.below hg21)
        have HC21 := Lib.hid (HC20.out.below hg21)
        have hB21 := HB20.out.below hg21 HB20.out.lt
        have hbw21 := HW20.out.trans (hg21.mono HW20.out.size)
        obtain ⟨hat0, -, hbxl⟩ := rdR_atG HX21.out hpos
        rw [Nat.zero_mul, Nat.add_zero] at hat0
        obtain ⟨y0, -, -, -⟩ := hat0
        rw [← HMN.out] at y0
        obtain ⟨hatk, hokk, -⟩ := rdR_atG HX21.out hkn
        obtain ⟨hatc, hokc, hgcl⟩ := rdR_atG HC21.out hkn
        obtain ⟨hTn, hTs⟩ := (gsane_wd HS.out).2.2 k hkn
        have hback := set_back (n := n) (F := F) (k := k) (r := r)
        generalize (F 0).A = A00 at y0
        generalize (F 0).cap = cap00 at y0
        rw [← HMN.out] at hTn
        generalize F k = t at hatk hokk hTn hTs hback
        have hU := HHK.out
        generalize H k = u at hatc hokc hU
        have HTN : Hid (t.n = (setG F k r 0).n) := hTn.trans HN9.out.symm
        have HTS := Lib.hid hTs
        have HTB := Lib.hid hback
        have HU := Lib.hid hU
        have HOKT := Lib.hid hokk
        have HOKU := Lib.hid hokc
        obtain ⟨p0, p1, p2, p3⟩ := hatk
        obtain ⟨v0, v1, v2, v3⟩ := hatc
        simp only [Nat.add_assoc] at p1 p2 p3
        simp only [Nat.zero_add] at v0 v1 v2 v3
        have r0 := hB21.cell 0
        have rl := hB21.lt
        have x0 := hBc.cell 0
        have xl := hBc.lt
        simp only [List.getElem?_toArray, List.getElem?_cons_zero] at r0 x0
        have HW21 := Lib.hid hbw21
        clear hB21 hBc hg21 hTn hTs hback hU hokk hokc hbw21
        refine hr_start (S := (fun w' => w'.cell? ⟨w8.heap.size, 0, none⟩ = some (.slice (some ⟨b9, o9, none⟩) n c9) ∧ w'.cell? ⟨w20.heap.size, 0, none⟩ = some (.slice (some ⟨g4, 0, none⟩) n c4) ∧ w'.cell? ⟨bx, ox, none⟩ = some (.slice A00 m cap00) ∧ w'.cell? ⟨bx, ox + k * 4, none⟩ = some (.slice t.A t.n t.cap) ∧ w'.cell? ⟨bx, ox + (k * 4 + 1), none⟩ = some (.bool t.wb) ∧ w'.cell? ⟨bx, ox + (k * 4 + 2), none⟩ = some (.int .i64 t.dir) ∧ w'.cell? ⟨bx, ox + (k * 4 + 3), none⟩ = some (.bool t.ex) ∧ w'.cell? ⟨g4, k * 4, none⟩ = some (.slice u.A u.n u.cap) ∧ w'.cell? ⟨g4, k * 4 + 1, none⟩ = some (.bool u.wb) ∧ w'.cell? ⟨g4, k * 4 + 2, none⟩ = some (.int .i64 u.dir) ∧ w'.cell? ⟨g4, k * 4 + 3, none⟩ = some (.bool u.ex))) (by kernel_rfl) rfl ?_ (fun hHeld => ?_)
        · ((try dsimp only); go_simp)
        refine hr_take (i := 0) rfl rfl (by kernel_rfl) (by kernel_rfl) (by kernel_rfl) (by kernel_rfl) (fun _ _ _ h => h) (v := ?_) ?_ (by assumption) ?_
        rotate_left
        focus (intro wS hSw; (try dsimp only at hSw); go_simp; (try with_reducible rfl))
        simp only [List.set_cons_zero, List.set_cons_succ]
        refine hr_take (i := 1) rfl rfl (by kernel_rfl) (by kernel_rfl) (by kernel_rfl) (by kernel_rfl) (fun _ _ _ h => h) (v := ?_) ?_ (by assumption) ?_
        rotate_left
        focus (intro wS hSw; (try dsimp only at hSw); go_simp; (try with_reducible rfl))
        simp only [List.set_cons_zero, List.set_cons_succ]
        refine hr_take (i := 2) rfl rfl (by kernel_rfl) (by kernel_rfl) (by kernel_rfl) (by kernel_rfl) (fun _ _ _ h => h) (v := ?_) ?_ (by assumption) ?_
        rotate_left
        focus (intro wS hSw; (try dsimp only at hSw); go_simp; (try with_reducible rfl))
        simp only [List.set_cons_zero, List.set_cons_succ]
        refine hr_take (i := 3) rfl rfl (by kernel_rfl) (by kernel_rfl) (by kernel_rfl) (by kernel_rfl) (fun _ _ _ h => h) (v := ?_) ?_ (by assumption) ?_
        rotate_left
        focus (intro wS hSw; (try dsimp only at hSw); go_simp; (try with_reducible rfl))
        simp only [List.set_cons_zero, List.set_cons_succ]
        refine hr_take (i := 4) rfl rfl (by kernel_rfl) (by kernel_rfl) (by kernel_rfl) (by kernel_rfl) (fun _ _ _ h => h) (v := ?_) ?_ (by assumption) ?_
        rotate_left
        focus (intro wS hSw; (try dsimp only at hSw); go_simp; (try with_reducible rfl))
        simp only [List.set_cons_zero, List.set_cons_succ]
        refine hr_take (i := 5) rfl rfl (by kernel_rfl) (by kernel_rfl) (by kernel_rfl) (by kernel_rfl) (fun _ _ _ h => h) (v := ?_) ?_ (by assumption) ?_
        rotate_left
        focus (intro wS hSw; (try dsimp only at hSw); go_simp; (try with_reducible rfl))
        simp only [List.set_cons_zero, List.set_cons_succ]
        refine hr_take (i := 6) rfl rfl (by kernel_rfl) (by kernel_rfl) (by kernel_rfl) (by kernel_rfl) (fun _ _ _ h => h) (v := ?_) ?_ (by assumption) ?_
        rotate_left
        focus (intro wS hSw; (try dsimp only at hSw); go_simp; (try with_reducible rfl))
        simp only [List.set_cons_zero, List.set_cons_succ]
        refine hr_take (i := 7) rfl rfl (by kernel_rfl) (by kernel_rfl) (by kernel_rfl) (by kernel_rfl) (fun _ _ _ h => h) (v := ?_) ?_ (by assumption) ?_
        rotate_left
        focus (intro wS hSw; (try dsimp only at hSw); go_simp; (try with_reducible rfl))
        simp only [List.set_cons_zero, List.set_cons_succ]
        refine hr_take (i := 10) rfl rfl (by kernel_rfl) (by kernel_rfl) (by kernel_rfl) (by kernel_rfl) (fun _ _ _ h => h) (v := ?_) ?_ (by assumption) ?_
        rotate_left
        focus (intro wS hSw; (try dsimp only at hSw); go_simp; (try with_reducible rfl))
        simp only [List.set_cons_zero, List.set_cons_succ]
        refine hr_op (i := 8) rfl rfl (by kernel_rfl) (by kernel_rfl) (fun K hK => ?_)
        go_simp
        ((with_reducible refine (set_f (.slice (some ⟨b9, o9, none⟩) n c9) n (setG F k r) k t _ (HS21.out.below (by (repeat (first | (with_reducible exact Below.refl _ _) | (with_reducible assumption) | (with_reducible refine Below.grow ?_ ?_ _ _) | (with_reducible refine Below.drewN' ?_ _) | (with_reducible refine Below.drew ?_) | (with_reducible refine Below.alloc ?_ ?_ _) | (with_reducible refine Below.setCell ?_ ?_ _) | omega | (focus (simp; done)) | (focus (simp; omega)))))) (HOKT.out.below (by (repeat (first | (with_reducible exact Below.refl _ _) | (with_reducible assumption) | (with_reducible refine Below.grow ?_ ?_ _ _) | (with_reducible refine Below.drewN' ?_ _) | (with_reducible refine Below.drew ?_) | (with_reducible refine Below.alloc ?_ ?_ _) | (with_reducible refine Below.setCell ?_ ?_ _) | omega | (focus (simp; done)) | (focus (simp; omega)))))) HS9.out hkn HTN.out HTS.out).mono ?_); rintro e wq ⟨g7, c7, rfl, hg7, hc7, hr7, -⟩; rw [HTB.out] at hr7; obtain ⟨X7, d7, rfl⟩ := Below.toGrow hg7; (try simp only [World.grow_grow] at hr7); (try simp only [Array.append_assoc] at hr7); (try simp only [World.grow_drew] at hr7); clear hg7)
        (try go_wp2_with fail)
        refine hK.out _ _ ?_ (fun hHeld => ?_)
        · ((try dsimp only); go_simp)
        clear hK K
        simp only [List.set_cons_zero, List.set_cons_succ]
        refine hr_take (i := 9) rfl rfl (by kernel_rfl) (by kernel_rfl) (by kernel_rfl) (by kernel_rfl) (fun _ _ _ h => h) (v := ?_) ?_ (by assumption) ?_
        rotate_left
        focus (intro wS hSw; (try dsimp only at hSw); go_simp; (try with_reducible rfl))
        simp only [List.set_cons_zero, List.set_cons_succ]
        refine hr_op (i := 11) rfl rfl (by kernel_rfl) (by kernel_rfl) (fun K hK => ?_)
        go_simp
        ((with_reducible refine (sameL_c (.slice (some ⟨g7, 0, none⟩) n c7) (.slice (some ⟨bx, ox, none⟩) n cap) (listG n F) (listG n F) _ (hr7.below (by (repeat (first | (with_reducible exact Below.refl _ _) | (with_reducible assumption) | (with_reducible refine Below.grow ?_ ?_ _ _) | (with_reducible refine Below.drewN' ?_ _) | (with_reducible refine Below.drew ?_) | (with_reducible refine Below.alloc ?_ ?_ _) | (with_reducible refine Below.setCell ?_ ?_ _) | omega | (focus (simp; done)) | (focus (simp; omega)))))) (HX21.out.below (by (repeat (first | (with_reducible exact Below.refl _ _) | (with_reducible assumption) | (with_reducible refine Below.grow ?_ ?_ _ _) | (with_reducible refine Below.drewN' ?_ _) | (with_reducible refine Below.drew ?_) | (with_reducible refine Below.alloc ?_ ?_ _) | (with_reducible refine Below.setCell ?_ ?_ _) | omega | (focus (simp; done)) | (focus (simp; omega)))))) HL.out HL.out).mono ?_); rw [sameL_refl]; rintro e wq ⟨rfl, X8, d8, rfl⟩)
        (try go_wp2_with fail)
        refine hK.out _ _ ?_ (fun hHeld => ?_)
        · ((try dsimp only); go_simp)
        clear hK K
        simp only [List.set_cons_zero, List.set_cons_succ]
        refine hr_take (i := 12) rfl rfl (by kernel_rfl) (by kernel_rfl) (by kernel_rfl) (by kernel_rfl) (fun _ _ _ h => h) (v := ?_) ?_ (by assumption) ?_
        rotate_left
        focus (intro wS hSw; (try dsimp only at hSw); go_simp; (try with_reducible rfl))
        simp only [List.set_cons_zero, List.set_cons_succ]
        refine hr_take (i := 13) rfl rfl (by kernel_rfl) (by kernel_rfl) (by kernel_rfl) (by kernel_rfl) (fun _ _ _ h => h) (v := ?_) ?_ (by assumption) ?_
        rotate_left
        focus (intro wS hSw; (try dsimp only at hSw); go_simp; (try with_reducible rfl))
        simp only [List.set_cons_zero, List.set_cons_succ]
        refine hr_take (i := 14) rfl rfl (by kernel_rfl) (by kernel_rfl) (by kernel_rfl) (by kernel_rfl) (fun _ _ _ h => h) (v := ?_) ?_ (by assumption) ?_
        rotate_left
        focus (intro wS hSw; (try dsimp only at hSw); go_simp; (try with_reducible rfl))
        simp only [List.set_cons_zero, List.set_cons_succ]
        refine hr_take (i := 15) rfl rfl (by kernel_rfl) (by kernel_rfl) (by kernel_rfl) (by kernel_rfl) (fun _ _ _ h => h) (v := ?_) ?_ (by assumption) ?_
        rotate_left
        focus (intro wS hSw; (try dsimp only at hSw); go_simp; (try with_reducible rfl))
        simp only [List.set_cons_zero, List.set_cons_succ]
        refine hr_take (i := 16) rfl rfl (by kernel_rfl) (by kernel_rfl) (by kernel_rfl) (by kernel_rfl) (fun _ _ _ h => h) (v := ?_) ?_ (by assumption) ?_
        rotate_left
        focus (intro wS hSw; (try dsimp only at hSw); go_simp; (try with_reducible rfl))
        simp only [List.set_cons_zero, List.set_cons_succ]
        refine hr_take (i := 17) rfl rfl (by kernel_rfl) (by kernel_rfl) (by kernel_rfl) (by kernel_rfl) (fun _ _ _ h => h) (v := ?_) ?_ (by assumption) ?_
        rotate_left
        focus (intro wS hSw; (try dsimp only at hSw); go_simp; (try with_reducible rfl))
        simp only [List.set_cons_zero, List.set_cons_succ]
        refine hr_take (i := 18) rfl rfl (by kernel_rfl) (by kernel_rfl) (by kernel_rfl) (by kernel_rfl) (fun _ _ _ h => h) (v := ?_) ?_ (by assumption) ?_
        rotate_left
        focus (intro wS hSw; (try dsimp only at hSw); go_simp; (try with_reducible rfl))
        simp only [List.set_cons_zero, List.set_cons_succ]
        refine hr_take (i := 19) rfl rfl (by kernel_rfl) (by kernel_rfl) (by kernel_rfl) (by kernel_rfl) (fun _ _ _ h => h) (v := ?_) ?_ (by assumption) ?_
        rotate_left
        focus (intro wS hSw; (try dsimp only at hSw); go_simp; (try with_reducible rfl))
        simp only [List.set_cons_zero, List.set_cons_succ]
        refine hr_take (i := 20) rfl rfl (by kernel_rfl) (by kernel_rfl) (by kernel_rfl) (by kernel_rfl) (fun _ _ _ h => h) (v := ?_) ?_ (by assumption) ?_
        rotate_left
        focus (intro wS hSw; (try dsimp only at hSw); go_simp; (try with_reducible rfl))
        simp only [List.set_cons_zero, List.set_cons_succ]
        refine hr_take (i := 21) rfl rfl (by kernel_rfl) (by kernel_rfl) (by kernel_rfl) (by kernel_rfl) (fun _ _ _ h => h) (v := ?_) ?_ (by assumption) ?_
        rotate_left
        focus (intro wS hSw; (try dsimp only at hSw); go_simp; (try with_reducible rfl))
        simp only [List.set_cons_zero, List.set_cons_succ]
        refine hr_take (i := 22) rfl rfl (by kernel_rfl) (by kernel_rfl) (by kernel_rfl) (by kernel_rfl) (fun _ _ _ h => h) (v := ?_) ?_ (by assumption) ?_
        rotate_left
        focus (intro wS hSw; (try dsimp only at hSw); go_simp; (try with_reducible rfl))
        simp only [List.set_cons_zero, List.set_cons_succ]
        refine hr_take (i := 23) rfl rfl (by kernel_rfl) (by kernel_rfl) (by kernel_rfl) (by kernel_rfl) (fun _ _ _ h => h) (v := ?_) ?_ (by assumption) ?_
        rotate_left
        focus (intro wS hSw; (try dsimp only at hSw); go_simp; (try with_reducible rfl))
        simp only [List.set_cons_zero, List.set_cons_succ]
        refine hr_take (i := 24) rfl rfl (by kernel_rfl) (by kernel_rfl) (by kernel_rfl) (by kernel_rfl) (fun _ _ _ h => h) (v := ?_) ?_ (by assumption) ?_
        rotate_left
        focus (intro wS hSw; (try dsimp only at hSw); go_simp; (try with_reducible rfl))
        simp only [List.set_cons_zero, List.set_cons_succ]
        refine hr_take (i := 25) rfl rfl (by kernel_rfl) (by kernel_rfl) (by kernel_rfl) (by kernel_rfl) (fun _ _ _ h => h) (v := ?_) ?_ (by assumption) ?_
        rotate_left
        focus (intro wS hSw; (try dsimp only at hSw); go_simp; (try with_reducible rfl))
        simp only [List.set_cons_zero, List.set_cons_succ]
        refine hr_take (i := 26) rfl rfl (by kernel_rfl) (by kernel_rfl) (by kernel_rfl) (by kernel_rfl) (fun _ _ _ h => h) (v := ?_) ?_ (by assumption) ?_
        rotate_left
        focus (intro wS hSw; (try dsimp only at hSw); go_simp; (try with_reducible rfl))
        simp only [List.set_cons_zero, List.set_cons_succ]
        refine hr_take (i := 27) rfl rfl (by kernel_rfl) (by kernel_rfl) (by kernel_rfl) (by kernel_rfl) (fun _ _ _ h => h) (v := ?_) ?_ (by assumption) ?_
        rotate_left
        focus (intro wS hSw; (try dsimp only at hSw); go_simp; (try with_reducible rfl))
        simp only [List.set_cons_zero, List.set_cons_succ]
        refine hr_take (i := 28) rfl rfl (by kernel_rfl) (by kernel_rfl) (by kernel_rfl) (by kernel_rfl) (fun _ _ _ h => h) (v := ?_) ?_ (by assumption) ?_
        rotate_left
        focus (intro wS hSw; (try dsimp only at hSw); go_simp; (try with_reducible rfl))
        simp only [List.set_cons_zero, List.set_cons_succ]
        refine hr_take (i := 29) rfl rfl (by kernel_rfl) (by kernel_rfl) (by kernel_rfl) (by kernel_rfl) (fun _ _ _ h => h) (v := ?_) ?_ (by assumption) ?_
        rotate_left
        focus (intro wS hSw; (try dsimp only at hSw); go_simp; (try with_reducible rfl))
        simp only [List.set_cons_zero, List.set_cons_succ]
        refine hr_take (i := 30) rfl rfl (by kernel_rfl) (by kernel_rfl) (by kernel_rfl) (by kernel_rfl) (fun _ _ _ h => h) (v := ?_) ?_ (by assumption) ?_
        rotate_left
        focus (intro wS hSw; (try dsimp only at hSw); go_simp; (try with_reducible rfl))
        simp only [List.set_cons_zero, List.set_cons_succ]
        refine hr_take (i := 31) rfl rfl (by kernel_rfl) (by kernel_rfl) (by kernel_rfl) (by kernel_rfl) (fun _ _ _ h => h) (v := ?_) ?_ (by assumption) ?_
        rotate_left
        focus (intro wS hSw; (try dsimp only at hSw); go_simp; (try with_reducible rfl))
        simp only [List.set_cons_zero, List.set_cons_succ]
        refine hr_take (i := 32) rfl rfl (by kernel_rfl) (by kernel_rfl) (by kernel_rfl) (by kernel_rfl) (fun _ _ _ h => h) (v := ?_) ?_ (by assumption) ?_
        rotate_left
        focus (intro wS hSw; (try dsimp only at hSw); go_simp; (try with_reducible rfl))
        simp only [List.set_cons_zero, List.set_cons_succ]
        refine hr_op (i := 33) rfl rfl (by kernel_rfl) (by kernel_rfl) (fun K hK => ?_)
        go_simp
        ((with_reducible refine (new8_c _ m 0 0 0 _ (by have := HQ.out; omega)).mono ?_); rintro e wq ⟨r8, rfl, hg8, hok8, hn8, hf8, hwb8, hd8, he8⟩; obtain ⟨X9, d9, rfl⟩ := Below.toGrow hg8; (try simp only [World.grow_grow] at hok8); (try simp only [Array.append_assoc] at hok8); (try simp only [World.grow_drew] at hok8); have H8S : Hid (sameRw u r8 = true) := same_new8 HU.out hn8 hf8 hwb8 hd8 he8; have HOK8 := Lib.hid hok8; clear hg8 hok8 hn8 hf8 hwb8 hd8 he8)
        (try go_wp2_with fail)
        refine hK.out _ _ ?_ (fun hHeld => ?_)
        · ((try dsimp only); go_simp)
        clear hK K
        simp only [List.set_cons_zero, List.set_cons_succ]
        refine hr_op (i := 34) rfl rfl (by kernel_rfl) (by kernel_rfl) (fun K hK => ?_)
        go_simp
        ((with_reducible refine (samer_c u r8 _ (HOKU.out.below (by (repeat (first | (with_reducible exact Below.refl _ _) | (with_reducible assumption) | (with_reducible refine Below.grow ?_ ?_ _ _) | (with_reducible refine Below.drewN' ?_ _) | (with_reducible refine Below.drew ?_) | (with_reducible refine Below.alloc ?_ ?_ _) | (with_reducible refine Below.setCell ?_ ?_ _) | omega | (focus (simp; done)) | (focus (simp; omega)))))) (HOK8.out.below (by (repeat (first | (with_reducible exact Below.refl _ _) | (with_reducible assumption) | (with_reducible refine Below.grow ?_ ?_ _ _) | (with_reducible refine Below.drewN' ?_ _) | (with_reducible refine Below.drew ?_) | (with_reducible refine Below.alloc ?_ ?_ _) | (with_reducible refine Below.setCell ?_ ?_ _) | omega | (focus (simp; done)) | (focus (simp; omega))))))).mono ?_); rw [H8S.out]; rintro e wq ⟨rfl, X10, d10, rfl⟩)
        (try go_wp2_with fail)
        refine hK.out _ _ ?_ (fun hHeld => ?_)
        · ((try dsimp only); go_simp)
        clear hK K
        simp only [List.set_cons_zero, List.set_cons_succ]
        refine hr_take (i := 35) rfl rfl (by kernel_rfl) (by kernel_rfl) (by kernel_rfl) (by kernel_rfl) (fun _ _ _ h => h) (v := ?_) ?_ (by assumption) ?_
        rotate_left
        focus (intro wS hSw; (try dsimp only at hSw); go_simp; (try with_reducible rfl))
        simp only [List.set_cons_zero, List.set_cons_succ]
        refine hr_take (i := 36) rfl rfl (by kernel_rfl) (by kernel_rfl) (by kernel_rfl) (by kernel_rfl) (fun _ _ _ h => h) (v := ?_) ?_ (by assumption) ?_
        rotate_left
        focus (intro wS hSw; (try dsimp only at hSw); go_simp; (try with_reducible rfl))
        simp only [List.set_cons_zero, List.set_cons_succ]
        refine hr_done (by kernel_rfl) ?_
        go_wp2_with fail
        go_ret
        exact ⟨rfl, Below.toGrow (by first | exact HW21.out | (have hbw21 := HW21.out; have hws21 := hbw21.size; (repeat (first | (with_reducible exact Below.refl _ _) | (with_reducible assumption) | (with_reducible refine Below.grow ?_ ?_ _ _) | (with_reducible refine Below.drewN' ?_ _) | (with_reducible refine Below.drew ?_) | (with_reducible refine Below.alloc ?_ ?_ _) | (with_reducible refine Below.setCell ?_ ?_ _) | omega | (focus (simp; done)) | (focus (simp; omega))))))⟩
theorem sets_law (x : Value) (y : Int) (A : Option Addr) (n cap : Nat) (f : Nat → Cl) (wb : Bool) (dir : Int) (ex : Bool) (fg bg fl : Int) (L : List Rw) (w : World) (hx : RdR0 w x L) (hl : L.length ≤ maxLen) (hr : Rd w A n f) (hnc : n ≤ cap) (hcap : cap ≤ maxLen) :
    Calls Try.prog 12 #[x, .int .i64 y, .agg #[.slice A n cap, .bool wb, .int .i64 dir, .bool ex], .agg #[.int .i64 fg, .int .i64 bg, .int .i64 fl]] w fun e w' => e = .returned (.bool true) ∧ Grew w w' := by
  by_cases h : fewB L = true ∧ n ≤ 100 ∧ gsaneB L = true
  · exact sets_in x y ⟨A, n, cap, f, wb, dir, ex⟩ fg bg fl L w hx hl ⟨hr, hnc, hcap⟩ h.1 h.2.1 h.2.2
  · exact sets_out x y ⟨A, n, cap, f, wb, dir, ex⟩ fg bg fl L w hx hl ⟨hr, hnc, hcap⟩ h
end Go.Proofs.Ytpnadnjcacaibaa.Row
