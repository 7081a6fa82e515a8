/- Walk of lapwinglaw12.TabsResize. -/
import Derived.Test.YtpcpgoeahndlfaaTabD
import Derived.Test.YtpcpgoeahndlfaaHand2
namespace Go.Proofs.Ytpcpgoeahndlfaa.Tab
open Go.RowKit
set_option maxRecDepth 100000 in
set_option maxHeartbeats 2000000 in
theorem tabs_long (x : Value) (W v : Int) (zs : List Int) (w : World) (hx : RdI w x zs) (hl : 200 < zs.length) : Calls Try.prog 3 #[.agg #[x, .int .i64 W], .int .i64 v] w fun e w' => e = .returned (.bool true) ∧ Grew w w' := by
  have hlI : (200 : Int) < zs.length := by omega
  obtain ⟨A, c, rfl, -⟩ := id hx
  go_enter Try.func3, Try.ntmps3
  go_wp2_with (go_at_call 8; refine (awake12_c _).mono ?_; rintro e w1 ⟨rfl, XA, dA, rfl⟩)
  go_ret
  exact ⟨rfl, (Below.toGrow (by repeat (first | (with_reducible exact Below.refl _ _) | (with_reducible assumption) | (with_reducible refine Below.grow ?_ ?_ _ _) | (with_reducible refine Below.drewN' ?_ _) | (with_reducible refine Below.drew ?_) | (with_reducible refine Below.alloc ?_ ?_ _) | (with_reducible refine Below.setCell ?_ ?_ _) | omega | (focus (simp; done)) | (focus (simp; omega)))))⟩
set_option maxRecDepth 100000 in
set_option maxHeartbeats 2000000 in
theorem tabs_insane (x : Value) (W v : Int) (zs : List Int) (w : World) (hx : RdI w x zs) (hl : zs.length ≤ 200) (hs : tsaneB W zs = false) : Calls Try.prog 3 #[.agg #[x, .int .i64 W], .int .i64 v] w fun e w' => e = .returned (.bool true) ∧ Grew w w' := by
  have hlI : ¬ (200 : Int) < zs.length := by omega
  have hlN : ¬ 200 < zs.length := by omega
  have HX := Lib.hid hx
  have HS := Lib.hid hs
  have HN : Hid (zs.length ≤ 65536) := by show _ ≤ _; omega
  obtain ⟨A, c, rfl, -⟩ := id hx
  clear hx hs
  go_enter Try.func3, Try.ntmps3
  go_wp2_with (first | (go_at_call 8; refine (awake12_c _).mono ?_; rintro e w1 ⟨rfl, XA, dA, rfl⟩) | (go_at_call 10; refine (ours_c _ _ _ _ _).mono ?_; rintro e w1 ⟨rfl, XO, dO, rfl⟩) | (go_at_call 9; refine (sane_c _ W zs _ (HX.out.below (by (repeat (first | (with_reducible exact Below.refl _ _) | (with_reducible assumption) | (with_reducible refine Below.grow ?_ ?_ _ _) | (with_reducible refine Below.drewN' ?_ _) | (with_reducible refine Below.drew ?_) | (with_reducible refine Below.alloc ?_ ?_ _) | (with_reducible refine Below.setCell ?_ ?_ _) | omega | (focus (simp; done)) | (focus (simp; omega)))))) HN.out).mono ?_; rw [HS.out]; rintro e w1 ⟨rfl, hg⟩; obtain ⟨XS, dS, rfl⟩ := Below.toGrow hg; clear hg))
  go_ret
  exact ⟨rfl, (Below.toGrow (by repeat (first | (with_reducible exact Below.refl _ _) | (with_reducible assumption) | (with_reducible refine Below.grow ?_ ?_ _ _) | (with_reducible refine Below.drewN' ?_ _) | (with_reducible refine Below.drew ?_) | (with_reducible refine Below.alloc ?_ ?_ _) | (with_reducible refine Below.setCell ?_ ?_ _) | omega | (focus (simp; done)) | (focus (simp; omega)))))⟩
set_option maxRecDepth 100000 in
set_option maxHeartbeats 4000000 in
theorem tabs_sane (x : Value) (W v : Int) (zs : List Int) (w : World) (hx : RdI w x zs) (hl : zs.length ≤ 200) (hs : tsaneB W zs = true) : Calls Try.prog 3 #[.agg #[x, .int .i64 W], .int .i64 v] w fun e w' => e = .returned (.bool true) ∧ Grew w w' := by
  have hlI : ¬ (200 : Int) < zs.length := by omega
  have hlN : ¬ 200 < zs.length := by omega
  have HX := Lib.hid hx
  have HS := Lib.hid hs
  have HN : Hid (zs.length ≤ 65536) := by show _ ≤ _; omega
  have HN2 : Hid (zs.length ≤ 200) := hl
  obtain ⟨hW1, hW2⟩ := (tsane_iff.1 hs).1
  have hand : bits .and .i64 v 65535 = v % 65536 := and_mask 16 (by omega) v
  have hv0 : 0 ≤ v % 65536 := by omega
  obtain ⟨n, hn⟩ : ∃ n : Int, 1 + v % 4096 = n := ⟨_, rfl⟩
  have hn1 : 1 ≤ n := by omega
  have hn2 : n ≤ 4096 := by omega
  obtain ⟨A, c, rfl, -⟩ := id hx
  clear hx hs hl
  go_enter Try.func3, Try.ntmps3
  go_upto_region 5 with (first | (go_at_call 8; refine (awake12_c _).mono ?_; rintro e w1 ⟨rfl, XA, dA, rfl⟩) | (go_at_call 10; refine (ours_c _ _ _ _ _).mono ?_; rintro e w1 ⟨rfl, XO, dO, rfl⟩) | (go_at_call 9; refine (sane_c _ W zs _ (HX.out.below (by (repeat (first | (with_reducible exact Below.refl _ _) | (with_reducible assumption) | (with_reducible refine Below.grow ?_ ?_ _ _) | (with_reducible refine Below.drewN' ?_ _) | (with_reducible refine Below.drew ?_) | (with_reducible refine Below.alloc ?_ ?_ _) | (with_reducible refine Below.setCell ?_ ?_ _) | omega | (focus (simp; done)) | (focus (simp; omega)))))) HN.out).mono ?_; rw [HS.out]; rintro e w1 ⟨rfl, hg⟩; obtain ⟨XS, dS, rfl⟩ := Below.toGrow hg; clear hg))
  try rw [hn]
  clear hn hand hv0 hlI hlN
  generalize hw4 : World.grow _ _ _ = w4
  have hb4 : Below w.heap.size w w4 := by rw [← hw4]; (repeat (first | (with_reducible exact Below.refl _ _) | (with_reducible assumption) | (with_reducible refine Below.grow ?_ ?_ _ _) | (with_reducible refine Below.drewN' ?_ _) | (with_reducible refine Below.drew ?_) | (with_reducible refine Below.alloc ?_ ?_ _) | (with_reducible refine Below.setCell ?_ ?_ _) | omega | (focus (simp; done)) | (focus (simp; omega))))
  have hB4 : Blk w4 w.heap.size 24 #[.slice A zs.length c, .int .i64 W] := by rw [← hw4]; (repeat (first | (with_reducible exact Blk.new _ _ _) | (with_reducible refine Blk.new_at ?_; simp; done) | (with_reducible refine Blk.grow ?_ _ _) | (with_reducible refine Blk.alloc ?_ _)))
  clear hw4
  obtain ⟨r0, r1, rf, rl⟩ := hB4.facts2
  have HB4 := Lib.hid hB4
  clear hB4
  go_wp2_with (go_at_call 10; refine (ours_c _ _ _ _ _).mono ?_; rintro e w1 ⟨rfl, XO, dO, rfl⟩)
  have hb45 : Below w.heap.size w (w4.grow XO dO) := by (repeat (first | (with_reducible exact Below.refl _ _) | (with_reducible assumption) | (with_reducible refine Below.grow ?_ ?_ _ _) | (with_reducible refine Below.drewN' ?_ _) | (with_reducible refine Below.drew ?_) | (with_reducible refine Below.alloc ?_ ?_ _) | (with_reducible refine Below.setCell ?_ ?_ _) | omega | (focus (simp; done)) | (focus (simp; omega))))
  have hB45 := HB4.out.grow XO dO
  refine (resize_c _ W n n zs _ (HX.out.below hb45) (by have := HN2.out; omega) HS.out (by omega)).mono ?_
  rintro e w5 ⟨y, cc, k, rfl, hg, hy, hc, hk1, hk2⟩
  have hb5 := hb45.trans (hg.mono hb45.size)
  have HB5 := Lib.hid (hB45.below hg hB45.lt)
  have HS1 := Lib.hid (resize_sane HS.out ⟨hn1, hn2⟩ hc hk2)
  have HC := Lib.hid hc
  have HK := Lib.hid (show k ≤ 600 by omega)
  have HK2 := Lib.hid (show n < W → k = 0 by omega)
  obtain ⟨L1, hL1⟩ : ∃ L1, L1 = zs.filter (fun z => decide (z < n)) ++ eights cc k := ⟨_, rfl⟩
  have HL1 := Lib.hid hL1
  have HLN1 : Hid (L1.length ≤ 60000) := by
    show _ ≤ _
    have h1 := List.length_filter_le (fun z => decide (z < n)) zs
    have h2 := HN2.out
    have h3 := HK.out
    rw [hL1, List.length_append, eights_len]
    omega
  rw [← hL1] at hy HS1
  have HY := Lib.hid hy
  obtain ⟨A1, c1, rfl, -⟩ := id hy
  clear r0 r1 rf rl hg hy hc hk1 hk2 hL1 hb45 hB45 hb4 HB4
  go_upto_region 6 with fail
  generalize hw6 : w5.alloc _ = w6
  have hg6 : Below w5.heap.size w5 w6 := by rw [← hw6]; (repeat (first | (with_reducible exact Below.refl _ _) | (with_reducible assumption) | (with_reducible refine Below.grow ?_ ?_ _ _) | (with_reducible refine Below.drewN' ?_ _) | (with_reducible refine Below.drew ?_) | (with_reducible refine Below.alloc ?_ ?_ _) | (with_reducible refine Below.setCell ?_ ?_ _) | omega | (focus (simp; done)) | (focus (simp; omega))))
  have hB6 : Blk w6 w5.heap.size 27 #[.slice A1 L1.length c1, .int .i64 n] := by rw [← hw6]; exact Blk.new _ _ _
  clear hw6
  have hb6 := hb5.trans (hg6.mono hb5.size)
  have HB6 := Lib.hid (HB5.out.below hg6 HB5.out.lt)
  have HA6 := Lib.hid hB6
  have HY6 := Lib.hid (HY.out.below hg6)
  obtain ⟨r0, r1, rf, rl⟩ := HB6.out.facts2
  obtain ⟨q0, q1, qf, ql⟩ := hB6.facts2
  clear hg6 hb5 HB5 HY hB6
  go_wp2_with fail
  refine (resize_c _ n W W L1 _ HY6.out HLN1.out HS1.out (by omega)).mono ?_
  rintro e w7 ⟨y2, cc2, k2, rfl, hg, hy, hc, hk1, hk2⟩
  have hb7 := hb6.trans (hg.mono hb6.size)
  have HB7 := Lib.hid (HB6.out.below hg HB6.out.lt)
  have HA7 := Lib.hid (HA6.out.below hg HA6.out.lt)
  have HY7 := Lib.hid (HY6.out.below hg)
  have HS2 := Lib.hid (resize_sane HS1.out ⟨hW1, hW2⟩ hc hk2)
  have HC2 := Lib.hid hc
  have HKK2 := Lib.hid hk2
  have HKL2 := Lib.hid (show k2 ≤ 600 by omega)
  obtain ⟨L2, hL2⟩ : ∃ L2, L2 = L1.filter (fun z => decide (z < W)) ++ eights cc2 k2 := ⟨_, rfl⟩
  have HL2 := Lib.hid hL2
  have HLN2 : Hid (L2.length ≤ 65000) := by
    show _ ≤ _
    have h1 := List.length_filter_le (fun z => decide (z < W)) L1
    have h2 := HLN1.out
    have h3 := HKL2.out
    rw [hL2, List.length_append, eights_len]
    omega
  rw [← hL2] at hy HS2
  have HZ := Lib.hid hy
  obtain ⟨A2, c2, rfl, -⟩ := id hy
  clear r0 r1 rf rl q0 q1 qf ql hg hy hc hk1 hk2 hL2 hb6 HB6 HA6 HY6
  go_upto_region 7 with fail
  generalize hw8 : w7.alloc _ = w8
  have hg8 : Below w7.heap.size w7 w8 := by rw [← hw8]; (repeat (first | (with_reducible exact Below.refl _ _) | (with_reducible assumption) | (with_reducible refine Below.grow ?_ ?_ _ _) | (with_reducible refine Below.drewN' ?_ _) | (with_reducible refine Below.drew ?_) | (with_reducible refine Below.alloc ?_ ?_ _) | (with_reducible refine Below.setCell ?_ ?_ _) | omega | (focus (simp; done)) | (focus (simp; omega))))
  have hB8 : Blk w8 w7.heap.size 27 #[.slice A2 L2.length c2, .int .i64 W] := by rw [← hw8]; exact Blk.new _ _ _
  clear hw8
  have hb8 := hb7.trans (hg8.mono hb7.size)
  have HB8 := Lib.hid (HB7.out.below hg8 HB7.out.lt)
  have HA8 := Lib.hid (HA7.out.below hg8 HA7.out.lt)
  have HY8 := Lib.hid (HY7.out.below hg8)
  have HZ8 := Lib.hid (HZ.out.below hg8)
  have HX8 := Lib.hid (HX.out.below hb8)
  have HD8 := Lib.hid hB8
  obtain ⟨r0, r1, rf, rl⟩ := HB8.out.facts2
  obtain ⟨q0, q1, qf, ql⟩ := HA8.out.facts2
  obtain ⟨s0, s1, sf, sl⟩ := hB8.facts2
  clear hg8 hb7 HB7 HA7 HY7 HZ hB8
  by_cases hnW : W ≤ n
  · have h9 := HL2.out
    rw [HL1.out, resize_wider HS.out hnW HC.out HC2.out HKK2.out] at h9
    subst h9
    go_upto_region 10 with (first | (go_at_call 9; (with_reducible refine (sane_c (.slice A1 L1.length c1) n L1 _ (HY8.out.below (by (repeat (first | (with_reducible exact Below.refl _ _) | (with_reducible assumption) | (with_reducible refine Below.grow ?_ ?_ _ _) | (with_reducible refine Below.drewN' ?_ _) | (with_reducible refine Below.drew ?_) | (with_reducible refine Below.alloc ?_ ?_ _) | (with_reducible refine Below.setCell ?_ ?_ _) | omega | (focus (simp; done)) | (focus (simp; omega)))))) (by have := HLN1.out; omega)).mono ?_); rw [HS1.out]; rintro e w1 ⟨rfl, hg⟩; obtain ⟨XU, dU, rfl⟩ := Below.toGrow hg; clear hg) | (go_at_call 9; (with_reducible refine (sane_c (.slice A2 L2.length c2) W L2 _ (HZ8.out.below (by (repeat (first | (with_reducible exact Below.refl _ _) | (with_reducible assumption) | (with_reducible refine Below.grow ?_ ?_ _ _) | (with_reducible refine Below.drewN' ?_ _) | (with_reducible refine Below.drew ?_) | (with_reducible refine Below.alloc ?_ ?_ _) | (with_reducible refine Below.setCell ?_ ?_ _) | omega | (focus (simp; done)) | (focus (simp; omega)))))) (by have := HLN2.out; omega)).mono ?_); rw [HS2.out]; rintro e w1 ⟨rfl, hg⟩; obtain ⟨XV, dV, rfl⟩ := Below.toGrow hg; clear hg))
    refine hr_start (S := (fun w' => w'.cell? ⟨w7.heap.size, 0, none⟩ = some (.slice A2 L2.length c2) ∧ w'.cell? ⟨w7.heap.size, 1, none⟩ = some (.int .i64 W) ∧ w'.cell? ⟨w.heap.size, 0, none⟩ = some (.slice A L2.length c) ∧ w'.cell? ⟨w.heap.size, 1, none⟩ = some (.int .i64 W))) (by kernel_rfl) rfl ?_ (fun hHeld => ?_)
    · ((try dsimp only); go_simp)
    refine hr_take (i := 0) rfl rfl (by kernel_rfl) (by kernel_rfl) (by kernel_rfl) (by kernel_rfl) (fun _ _ _ h => h) (v := ?_) ?_ (by assumption) ?_
    rotate_left
    focus (intro wS hSw; (try dsimp only at hSw); go_simp; (try with_reducible rfl))
    simp only [List.set_cons_zero, List.set_cons_succ]
    refine hr_take (i := 1) rfl rfl (by kernel_rfl) (by kernel_rfl) (by kernel_rfl) (by kernel_rfl) (fun _ _ _ h => h) (v := ?_) ?_ (by assumption) ?_
    rotate_left
    focus (intro wS hSw; (try dsimp only at hSw); go_simp; (try with_reducible rfl))
    simp only [List.set_cons_zero, List.set_cons_succ]
    refine hr_take (i := 2) rfl rfl (by kernel_rfl) (by kernel_rfl) (by kernel_rfl) (by kernel_rfl) (fun _ _ _ h => h) (v := ?_) ?_ (by assumption) ?_
    rotate_left
    focus (intro wS hSw; (try dsimp only at hSw); go_simp; (try with_reducible rfl))
    simp only [List.set_cons_zero, List.set_cons_succ]
    refine hr_take (i := 4) rfl rfl (by kernel_rfl) (by kernel_rfl) (by kernel_rfl) (by kernel_rfl) (fun _ _ _ h => h) (v := ?_) ?_ (by assumption) ?_
    rotate_left
    focus (intro wS hSw; (try dsimp only at hSw); go_simp; (try with_reducible rfl))
    simp only [List.set_cons_zero, List.set_cons_succ]
    refine hr_op (i := 3) rfl rfl (by kernel_rfl) (by kernel_rfl) (fun K hK => ?_)
    go_simp
    ((with_reducible refine (theirs_c _ _ _ _ _).mono ?_); rintro e w1 ⟨rfl, XT, dT, rfl⟩)
    (try go_wp2_with fail)
    refine hK.out _ _ ?_ (fun hHeld => ?_)
    · ((try dsimp only); go_simp)
    clear hK K
    simp only [List.set_cons_zero, List.set_cons_succ]
    refine hr_op (i := 5) rfl rfl (by kernel_rfl) (by kernel_rfl) (fun K hK => ?_)
    go_simp
    ((with_reducible refine (same_refl_c (.slice A2 L2.length c2) (.slice A L2.length c) W L2 _ (HZ8.out.below (by (repeat (first | (with_reducible exact Below.refl _ _) | (with_reducible assumption) | (with_reducible refine Below.grow ?_ ?_ _ _) | (with_reducible refine Below.drewN' ?_ _) | (with_reducible refine Below.drew ?_) | (with_reducible refine Below.alloc ?_ ?_ _) | (with_reducible refine Below.setCell ?_ ?_ _) | omega | (focus (simp; done)) | (focus (simp; omega)))))) (HX8.out.below (by (repeat (first | (with_reducible exact Below.refl _ _) | (with_reducible assumption) | (with_reducible refine Below.grow ?_ ?_ _ _) | (with_reducible refine Below.drewN' ?_ _) | (with_reducible refine Below.drew ?_) | (with_reducible refine Below.alloc ?_ ?_ _) | (with_reducible refine Below.setCell ?_ ?_ _) | omega | (focus (simp; done)) | (focus (simp; omega)))))) (by have := HLN2.out; omega)).mono ?_); rintro e w1 ⟨rfl, hgs⟩; obtain ⟨XQ, dQ, rfl⟩ := Below.toGrow hgs; clear hgs)
    (try go_wp2_with fail)
    refine hK.out _ _ ?_ (fun hHeld => ?_)
    · ((try dsimp only); go_simp)
    clear hK K
    simp only [List.set_cons_zero, List.set_cons_succ]
    refine hr_take (i := 6) rfl rfl (by kernel_rfl) (by kernel_rfl) (by kernel_rfl) (by kernel_rfl) (fun _ _ _ h => h) (v := ?_) ?_ (by assumption) ?_
    rotate_left
    focus (intro wS hSw; (try dsimp only at hSw); go_simp; (try with_reducible rfl))
    simp only [List.set_cons_zero, List.set_cons_succ]
    refine hr_take (i := 7) rfl rfl (by kernel_rfl) (by kernel_rfl) (by kernel_rfl) (by kernel_rfl) (fun _ _ _ h => h) (v := ?_) ?_ (by assumption) ?_
    rotate_left
    focus (intro wS hSw; (try dsimp only at hSw); go_simp; (try with_reducible rfl))
    simp only [List.set_cons_zero, List.set_cons_succ]
    refine hr_done (by kernel_rfl) ?_
    go_wp2_with fail
    go_ret
    exact ⟨rfl, (Below.toGrow (by repeat (first | (with_reducible exact Below.refl _ _) | (with_reducible assumption) | (with_reducible refine Below.grow ?_ ?_ _ _) | (with_reducible refine Below.drewN' ?_ _) | (with_reducible refine Below.drew ?_) | (with_reducible refine Below.alloc ?_ ?_ _) | (with_reducible refine Below.setCell ?_ ?_ _) | omega | (focus (simp; done)) | (focus (simp; omega)))))⟩
  · have hnW' : n < W := by omega
    have hk := HK2.out hnW'
    subst hk
    have h9 := HL2.out
    rw [HL1.out, HC.out] at h9
    obtain ⟨h10, h11⟩ := resize_narrower HS.out hnW' L2 h9 HC2.out
    have H10 := Lib.hid h10
    have H11 := Lib.hid h11
    clear h9 h10 h11
    go_upto_region 11 with (first | (go_at_call 9; (with_reducible refine (sane_c (.slice A1 L1.length c1) n L1 _ (HY8.out.below (by (repeat (first | (with_reducible exact Below.refl _ _) | (with_reducible assumption) | (with_reducible refine Below.grow ?_ ?_ _ _) | (with_reducible refine Below.drewN' ?_ _) | (with_reducible refine Below.drew ?_) | (with_reducible refine Below.alloc ?_ ?_ _) | (with_reducible refine Below.setCell ?_ ?_ _) | omega | (focus (simp; done)) | (focus (simp; omega)))))) (by have := HLN1.out; omega)).mono ?_); rw [HS1.out]; rintro e w1 ⟨rfl, hg⟩; obtain ⟨XU, dU, rfl⟩ := Below.toGrow hg; clear hg) | (go_at_call 9; (with_reducible refine (sane_c (.slice A2 L2.length c2) W L2 _ (HZ8.out.below (by (repeat (first | (with_reducible exact Below.refl _ _) | (with_reducible assumption) | (with_reducible refine Below.grow ?_ ?_ _ _) | (with_reducible refine Below.drewN' ?_ _) | (with_reducible refine Below.drew ?_) | (with_reducible refine Below.alloc ?_ ?_ _) | (with_reducible refine Below.setCell ?_ ?_ _) | omega | (focus (simp; done)) | (focus (simp; omega)))))) (by have := HLN2.out; omega)).mono ?_); rw [HS2.out]; rintro e w1 ⟨rfl, hg⟩; obtain ⟨XV, dV, rfl⟩ := Below.toGrow hg; clear hg))
    generalize hw9 : World.grow _ _ _ = w9
    have hg9 : Below w8.heap.size w8 w9 := by rw [← hw9]; (repeat (first | (with_reducible exact Below.refl _ _) | (with_reducible assumption) | (with_reducible refine Below.grow ?_ ?_ _ _) | (with_reducible refine Below.drewN' ?_ _) | (with_reducible refine Below.drew ?_) | (with_reducible refine Below.alloc ?_ ?_ _) | (with_reducible refine Below.setCell ?_ ?_ _) | omega | (focus (simp; done)) | (focus (simp; omega))))
    clear hw9 r0 r1 rf rl q0 q1 qf ql s0 s1 sf sl
    have hb9 := Lib.hid (hb8.trans (hg9.mono hb8.size))
    have HB9 := Lib.hid (HB8.out.below hg9 HB8.out.lt)
    have HX9 := Lib.hid (HX8.out.below hg9)
    have HZ9 := Lib.hid (HZ8.out.below hg9)
    have HD9 := Lib.hid (HD8.out.below hg9 HD8.out.lt)
    clear hg9 hb8
    go_wp2_with fail
    go_loopw [9] (fun i wz => ∃ (j : Nat), j ≤ L2.length ∧ i = .int .i64 j ∧ wz = w9) (fun i _ => L2.length - (intOf i).toNat)
    case atStart => exact ⟨0, Nat.zero_le _, rfl, rfl⟩
    case round =>
      obtain ⟨j, hj, rfl, rfl⟩ := hrel
      obtain ⟨s0, s1, sf, sl⟩ := HD9.out.facts2
      by_cases hlt : j < L2.length
      · have hltI : (j : Int) < L2.length := by omega
        have hl2 := HLN2.out
        obtain ⟨Ab, cb, he, hzc⟩ := id HZ9.out
        injection he with he1 _ _
        subst he1
        obtain ⟨b, o, rfl, hbl, hc⟩ := hzc (by omega)
        have hz := List.getElem?_eq_getElem hlt
        have c0 := hc j _ hz
        have h10 := H10.out j _ hz
        generalize L2[j] = z at c0 h10
        clear hc hz hzc
        by_cases hzn : n ≤ z
        · have hz8 := h10 hzn
          have hz0 : 0 ≤ z := by omega
          clear h10
          go_wp2_with fail
          go_roundw
          case rel => exact ⟨j + 1, by omega, by go_num, by first | rfl | exact trivial⟩
          case measure => simp [intOf]; omega
        · clear h10
          go_wp2_with fail
          go_roundw
          case rel => exact ⟨j + 1, by omega, by go_num, by first | rfl | exact trivial⟩
          case measure => simp [intOf]; omega
      · obtain rfl : j = L2.length := by omega
        obtain ⟨r0, r1, rf, rl⟩ := HB9.out.facts2
        go_wp2_with fail
        go_loopw [10] (fun i wz => ∃ (j : Nat), j ≤ zs.length ∧ i = .int .i64 j ∧ Below wr.heap.size wr wz) (fun i _ => zs.length - (intOf i).toNat)
        case atStart => exact ⟨0, Nat.zero_le _, rfl, Below.refl _ _⟩
        case round =>
          obtain ⟨i, hi, rfl, hb⟩ := hrel
          have hl1 := HN2.out
          have hl2 := HLN2.out
          have hbwz := hb9.out.trans (hb.mono hb9.out.size)
          have hbwzs := hbwz.size
          have HBo := Lib.hid (HB9.out.below hb HB9.out.lt)
          have HDo := Lib.hid (HD9.out.below hb HD9.out.lt)
          have HXo := Lib.hid (HX9.out.below hb)
          have HZo := Lib.hid (HZ9.out.below hb)
          clear r0 r1 rf rl s0 s1 sf sl
          obtain ⟨r0, r1, rf, rl⟩ := HBo.out.facts2
          obtain ⟨s0, s1, sf, sl⟩ := HDo.out.facts2
          by_cases hlt2 : i < zs.length
          · have hltI : (i : Int) < zs.length := by omega
            obtain ⟨Ax, cx, he, hxc⟩ := id HXo.out
            injection he with he1 _ _
            subst he1
            obtain ⟨b, o, rfl, hbl, hc⟩ := hxc (by omega)
            have hz := List.getElem?_eq_getElem hlt2
            have c0 := hc i _ hz
            have h11 := H11.out i _ hz
            generalize zs[i] = z at c0 h11
            clear hc hz hxc
            by_cases hzn : z < n
            · have hz2 := h11 hzn
              have hi2 : i < L2.length := (List.getElem?_eq_some_iff.1 hz2).1
              have hi2I : (i : Int) < L2.length := by omega
              have hg1 : decide ((L2.length : Int) ≤ (i : Int)) = false := by simp; omega
              have hg2 : decide (L2.length ≤ i) = false := by simp; omega
              have hg3 : decide (z < n) = true := by simpa using hzn
              obtain ⟨Az, cz, he, hzc⟩ := id HZo.out
              injection he with he1 _ _
              subst he1
              obtain ⟨b2, o2, rfl, hbl2, hc2⟩ := hzc (by omega)
              have d0 := hc2 i _ hz2
              clear hc2 hz2 hzc h11
              go_upto_region 19 with fail
              refine hr_start (S := (fun w' => w'.cell? ⟨w7.heap.size, 0, none⟩ = some (.slice (some ⟨b2, o2, none⟩) L2.length c2) ∧ w'.cell? ⟨w.heap.size, 0, none⟩ = some (.slice (some ⟨b, o, none⟩) zs.length c) ∧ w'.cell? ⟨b, o + i, none⟩ = some (.int .i64 z) ∧ w'.cell? ⟨b2, o2 + i, none⟩ = some (.int .i64 z))) (by kernel_rfl) rfl ?_ (fun hHeld => ?_)
              · ((try dsimp only); go_simp)
              refine hr_take (i := 0) rfl rfl (by kernel_rfl) (by kernel_rfl) (by kernel_rfl) (by kernel_rfl) (fun _ _ _ h => h) (v := ?_) ?_ (by assumption) ?_
              rotate_left
              focus (intro wS hSw; (try dsimp only at hSw); go_simp; (try with_reducible rfl))
              simp only [List.set_cons_zero, List.set_cons_succ]
              refine hr_take (i := 1) rfl rfl (by kernel_rfl) (by kernel_rfl) (by kernel_rfl) (by kernel_rfl) (fun _ _ _ h => h) (v := ?_) ?_ (by assumption) ?_
              rotate_left
              focus (intro wS hSw; (try dsimp only at hSw); go_simp; (try with_reducible rfl))
              simp only [List.set_cons_zero, List.set_cons_succ]
              refine hr_take (i := 2) rfl rfl (by kernel_rfl) (by kernel_rfl) (by kernel_rfl) (by kernel_rfl) (fun _ _ _ h => h) (v := ?_) ?_ (by assumption) ?_
              rotate_left
              focus (intro wS hSw; (try dsimp only at hSw); go_simp; (try with_reducible rfl))
              simp only [List.set_cons_zero, List.set_cons_succ]
              refine hr_take (i := 3) rfl rfl (by kernel_rfl) (by kernel_rfl) (by kernel_rfl) (by kernel_rfl) (fun _ _ _ h => h) (v := ?_) ?_ (by assumption) ?_
              rotate_left
              focus (intro wS hSw; (try dsimp only at hSw); go_simp; (try with_reducible rfl))
              simp only [List.set_cons_zero, List.set_cons_succ]
              refine hr_take (i := 4) rfl rfl (by kernel_rfl) (by kernel_rfl) (by kernel_rfl) (by kernel_rfl) (fun _ _ _ h => h) (v := ?_) ?_ (by assumption) ?_
              rotate_left
              focus (intro wS hSw; (try dsimp only at hSw); go_simp; (try with_reducible rfl))
              simp only [List.set_cons_zero, List.set_cons_succ]
              refine hr_take (i := 5) rfl rfl (by kernel_rfl) (by kernel_rfl) (by kernel_rfl) (by kernel_rfl) (fun _ _ _ h => h) (v := ?_) ?_ (by assumption) ?_
              rotate_left
              focus (intro wS hSw; (try dsimp only at hSw); go_simp; (try with_reducible rfl))
              simp only [List.set_cons_zero, List.set_cons_succ]
              refine hr_take (i := 6) rfl rfl (by kernel_rfl) (by kernel_rfl) (by kernel_rfl) (by kernel_rfl) (fun _ _ _ h => h) (v := ?_) ?_ (by assumption) ?_
              rotate_left
              focus (intro wS hSw; (try dsimp only at hSw); go_simp; (try with_reducible rfl))
              simp only [List.set_cons_zero, List.set_cons_succ]
              refine hr_take (i := 7) rfl rfl (by kernel_rfl) (by kernel_rfl) (by kernel_rfl) (by kernel_rfl) (fun _ _ _ h => h) (v := ?_) ?_ (by assumption) ?_
              rotate_left
              focus (intro wS hSw; (try dsimp only at hSw); go_simp; (try with_reducible rfl))
              simp only [List.set_cons_zero, List.set_cons_succ]
              refine hr_take (i := 8) rfl rfl (by kernel_rfl) (by kernel_rfl) (by kernel_rfl) (by kernel_rfl) (fun _ _ _ h => h) (v := ?_) ?_ (by assumption) ?_
              rotate_left
              focus (intro wS hSw; (try dsimp only at hSw); go_simp; (try with_reducible rfl))
              simp only [List.set_cons_zero, List.set_cons_succ]
              refine hr_take (i := 9) rfl rfl (by kernel_rfl) (by kernel_rfl) (by kernel_rfl) (by kernel_rfl) (fun _ _ _ h => h) (v := ?_) ?_ (by assumption) ?_
              rotate_left
              focus (intro wS hSw; (try dsimp only at hSw); go_simp; (try with_reducible rfl))
              simp only [List.set_cons_zero, List.set_cons_succ]
              refine hr_take (i := 10) rfl rfl (by kernel_rfl) (by kernel_rfl) (by kernel_rfl) (by kernel_rfl) (fun _ _ _ h => h) (v := ?_) ?_ (by assumption) ?_
              rotate_left
              focus (intro wS hSw; (try dsimp only at hSw); go_simp; (try with_reducible rfl))
              simp only [List.set_cons_zero, List.set_cons_succ]
              refine hr_take (i := 11) rfl rfl (by kernel_rfl) (by kernel_rfl) (by kernel_rfl) (by kernel_rfl) (fun _ _ _ h => h) (v := ?_) ?_ (by assumption) ?_
              rotate_left
              focus (intro wS hSw; (try dsimp only at hSw); go_simp; (try with_reducible rfl))
              simp only [List.set_cons_zero, List.set_cons_succ]
              refine hr_take (i := 12) rfl rfl (by kernel_rfl) (by kernel_rfl) (by kernel_rfl) (by kernel_rfl) (fun _ _ _ h => h) (v := ?_) ?_ (by assumption) ?_
              rotate_left
              focus (intro wS hSw; (try dsimp only at hSw); go_simp; (try with_reducible rfl))
              simp only [List.set_cons_zero, List.set_cons_succ]
              refine hr_take (i := 13) rfl rfl (by kernel_rfl) (by kernel_rfl) (by kernel_rfl) (by kernel_rfl) (fun _ _ _ h => h) (v := ?_) ?_ (by assumption) ?_
              rotate_left
              focus (intro wS hSw; (try dsimp only at hSw); go_simp; (try with_reducible rfl))
              simp only [List.set_cons_zero, List.set_cons_succ]
              refine hr_take (i := 14) rfl rfl (by kernel_rfl) (by kernel_rfl) (by kernel_rfl) (by kernel_rfl) (fun _ _ _ h => h) (v := ?_) ?_ (by assumption) ?_
              rotate_left
              focus (intro wS hSw; (try dsimp only at hSw); go_simp; (try with_reducible rfl))
              simp only [List.set_cons_zero, List.set_cons_succ]
              refine hr_take (i := 15) rfl rfl (by kernel_rfl) (by kernel_rfl) (by kernel_rfl) (by kernel_rfl) (fun _ _ _ h => h) (v := ?_) ?_ (by assumption) ?_
              rotate_left
              focus (intro wS hSw; (try dsimp only at hSw); go_simp; (try with_reducible rfl))
              simp only [List.set_cons_zero, List.set_cons_succ]
              refine hr_take (i := 16) rfl rfl (by kernel_rfl) (by kernel_rfl) (by kernel_rfl) (by kernel_rfl) (fun _ _ _ h => h) (v := ?_) ?_ (by assumption) ?_
              rotate_left
              focus (intro wS hSw; (try dsimp only at hSw); go_simp; (try with_reducible rfl))
              simp only [List.set_cons_zero, List.set_cons_succ]
              refine hr_take (i := 17) rfl rfl (by kernel_rfl) (by kernel_rfl) (by kernel_rfl) (by kernel_rfl) (fun _ _ _ h => h) (v := ?_) ?_ (by assumption) ?_
              rotate_left
              focus (intro wS hSw; (try dsimp only at hSw); go_simp; (try with_reducible rfl))
              simp only [List.set_cons_zero, List.set_cons_succ]
              refine hr_take (i := 18) rfl rfl (by kernel_rfl) (by kernel_rfl) (by kernel_rfl) (by kernel_rfl) (fun _ _ _ h => h) (v := ?_) ?_ (by assumption) ?_
              rotate_left
              focus (intro wS hSw; (try dsimp only at hSw); go_simp; (try with_reducible rfl))
              simp only [List.set_cons_zero, List.set_cons_succ]
              refine hr_take (i := 19) rfl rfl (by kernel_rfl) (by kernel_rfl) (by kernel_rfl) (by kernel_rfl) (fun _ _ _ h => h) (v := ?_) ?_ (by assumption) ?_
              rotate_left
              focus (intro wS hSw; (try dsimp only at hSw); go_simp; (try with_reducible rfl))
              simp only [List.set_cons_zero, List.set_cons_succ]
              refine hr_take (i := 20) rfl rfl (by kernel_rfl) (by kernel_rfl) (by kernel_rfl) (by kernel_rfl) (fun _ _ _ h => h) (v := ?_) ?_ (by assumption) ?_
              rotate_left
              focus (intro wS hSw; (try dsimp only at hSw); go_simp; (try with_reducible rfl))
              simp only [List.set_cons_zero, List.set_cons_succ]
              refine hr_take (i := 21) rfl rfl (by kernel_rfl) (by kernel_rfl) (by kernel_rfl) (by kernel_rfl) (fun _ _ _ h => h) (v := ?_) ?_ (by assumption) ?_
              rotate_left
              focus (intro wS hSw; (try dsimp only at hSw); go_simp; (try with_reducible rfl))
              simp only [List.set_cons_zero, List.set_cons_succ]
              refine hr_take (i := 22) rfl rfl (by kernel_rfl) (by kernel_rfl) (by kernel_rfl) (by kernel_rfl) (fun _ _ _ h => h) (v := ?_) ?_ (by assumption) ?_
              rotate_left
              focus (intro wS hSw; (try dsimp only at hSw); go_simp; (try with_reducible rfl))
              simp only [List.set_cons_zero, List.set_cons_succ]
              refine hr_take (i := 23) rfl rfl (by kernel_rfl) (by kernel_rfl) (by kernel_rfl) (by kernel_rfl) (fun _ _ _ h => h) (v := ?_) ?_ (by assumption) ?_
              rotate_left
              focus (intro wS hSw; (try dsimp only at hSw); go_simp; (try with_reducible rfl))
              simp only [List.set_cons_zero, List.set_cons_succ]
              refine hr_take (i := 24) rfl rfl (by kernel_rfl) (by kernel_rfl) (by kernel_rfl) (by kernel_rfl) (fun _ _ _ h => h) (v := ?_) ?_ (by assumption) ?_
              rotate_left
              focus (intro wS hSw; (try dsimp only at hSw); go_simp; (try with_reducible rfl))
              simp only [List.set_cons_zero, List.set_cons_succ]
              refine hr_take (i := 25) rfl rfl (by kernel_rfl) (by kernel_rfl) (by kernel_rfl) (by kernel_rfl) (fun _ _ _ h => h) (v := ?_) ?_ (by assumption) ?_
              rotate_left
              focus (intro wS hSw; (try dsimp only at hSw); go_simp; (try with_reducible rfl))
              simp only [List.set_cons_zero, List.set_cons_succ]
              refine hr_take (i := 26) rfl rfl (by kernel_rfl) (by kernel_rfl) (by kernel_rfl) (by kernel_rfl) (fun _ _ _ h => h) (v := ?_) ?_ (by assumption) ?_
              rotate_left
              focus (intro wS hSw; (try dsimp only at hSw); go_simp; (try with_reducible rfl))
              simp only [List.set_cons_zero, List.set_cons_succ]
              refine hr_done (by kernel_rfl) ?_
              go_wp2_with fail
              go_roundw
              case rel => exact ⟨i + 1, by omega, by go_num, by (repeat (first | (with_reducible exact Below.refl _ _) | (with_reducible assumption) | (with_reducible refine Below.grow ?_ ?_ _ _) | (with_reducible refine Below.drewN' ?_ _) | (with_reducible refine Below.drew ?_) | (with_reducible refine Below.alloc ?_ ?_ _) | (with_reducible refine Below.setCell ?_ ?_ _) | omega | (focus (simp; done)) | (focus (simp; omega))))⟩
              case measure => simp [intOf]; omega
            · clear h11
              go_upto_region 19 with fail
              refine hr_start (S := (fun w' => w'.cell? ⟨w.heap.size, 0, none⟩ = some (.slice (some ⟨b, o, none⟩) zs.length c) ∧ w'.cell? ⟨b, o + i, none⟩ = some (.int .i64 z))) (by kernel_rfl) rfl ?_ (fun hHeld => ?_)
              · ((try dsimp only); go_simp)
              refine hr_take (i := 0) rfl rfl (by kernel_rfl) (by kernel_rfl) (by kernel_rfl) (by kernel_rfl) (fun _ _ _ h => h) (v := ?_) ?_ (by assumption) ?_
              rotate_left
              focus (intro wS hSw; (try dsimp only at hSw); go_simp; (try with_reducible rfl))
              simp only [List.set_cons_zero, List.set_cons_succ]
              refine hr_take (i := 1) rfl rfl (by kernel_rfl) (by kernel_rfl) (by kernel_rfl) (by kernel_rfl) (fun _ _ _ h => h) (v := ?_) ?_ (by assumption) ?_
              rotate_left
              focus (intro wS hSw; (try dsimp only at hSw); go_simp; (try with_reducible rfl))
              simp only [List.set_cons_zero, List.set_cons_succ]
              refine hr_take (i := 2) rfl rfl (by kernel_rfl) (by kernel_rfl) (by kernel_rfl) (by kernel_rfl) (fun _ _ _ h => h) (v := ?_) ?_ (by assumption) ?_
              rotate_left
              focus (intro wS hSw; (try dsimp only at hSw); go_simp; (try with_reducible rfl))
              simp only [List.set_cons_zero, List.set_cons_succ]
              refine hr_take (i := 3) rfl rfl (by kernel_rfl) (by kernel_rfl) (by kernel_rfl) (by kernel_rfl) (fun _ _ _ h => h) (v := ?_) ?_ (by assumption) ?_
              rotate_left
              focus (intro wS hSw; (try dsimp only at hSw); go_simp; (try with_reducible rfl))
              simp only [List.set_cons_zero, List.set_cons_succ]
              refine hr_take (i := 4) rfl rfl (by kernel_rfl) (by kernel_rfl) (by kernel_rfl) (by kernel_rfl) (fun _ _ _ h => h) (v := ?_) ?_ (by assumption) ?_
              rotate_left
              focus (intro wS hSw; (try dsimp only at hSw); go_simp; (try with_reducible rfl))
              simp only [List.set_cons_zero, List.set_cons_succ]
              refine hr_take (i := 5) rfl rfl (by kernel_rfl) (by kernel_rfl) (by kernel_rfl) (by kernel_rfl) (fun _ _ _ h => h) (v := ?_) ?_ (by assumption) ?_
              rotate_left
              focus (intro wS hSw; (try dsimp only at hSw); go_simp; (try with_reducible rfl))
              simp only [List.set_cons_zero, List.set_cons_succ]
              refine hr_take (i := 6) rfl rfl (by kernel_rfl) (by kernel_rfl) (by kernel_rfl) (by kernel_rfl) (fun _ _ _ h => h) (v := ?_) ?_ (by assumption) ?_
              rotate_left
              focus (intro wS hSw; (try dsimp only at hSw); go_simp; (try with_reducible rfl))
              simp only [List.set_cons_zero, List.set_cons_succ]
              refine hr_take (i := 7) rfl rfl (by kernel_rfl) (by kernel_rfl) (by kernel_rfl) (by kernel_rfl) (fun _ _ _ h => h) (v := ?_) ?_ (by assumption) ?_
              rotate_left
              focus (intro wS hSw; (try dsimp only at hSw); go_simp; (try with_reducible rfl))
              simp only [List.set_cons_zero, List.set_cons_succ]
              refine hr_skip (i := 8) rfl rfl (by kernel_rfl) (by kernel_rfl) (by kernel_rfl) (by kernel_rfl) (fun _ _ _ h => h) (by assumption) ?_
              simp only [List.set_cons_zero, List.set_cons_succ]
              refine hr_skip (i := 9) rfl rfl (by kernel_rfl) (by kernel_rfl) (by kernel_rfl) (by kernel_rfl) (fun _ _ _ h => h) (by assumption) ?_
              simp only [List.set_cons_zero, List.set_cons_succ]
              refine hr_skip (i := 10) rfl rfl (by kernel_rfl) (by kernel_rfl) (by kernel_rfl) (by kernel_rfl) (fun _ _ _ h => h) (by assumption) ?_
              simp only [List.set_cons_zero, List.set_cons_succ]
              refine hr_skip (i := 11) rfl rfl (by kernel_rfl) (by kernel_rfl) (by kernel_rfl) (by kernel_rfl) (fun _ _ _ h => h) (by assumption) ?_
              simp only [List.set_cons_zero, List.set_cons_succ]
              refine hr_skip (i := 12) rfl rfl (by kernel_rfl) (by kernel_rfl) (by kernel_rfl) (by kernel_rfl) (fun _ _ _ h => h) (by assumption) ?_
              simp only [List.set_cons_zero, List.set_cons_succ]
              refine hr_skip (i := 13) rfl rfl (by kernel_rfl) (by kernel_rfl) (by kernel_rfl) (by kernel_rfl) (fun _ _ _ h => h) (by assumption) ?_
              simp only [List.set_cons_zero, List.set_cons_succ]
              refine hr_skip (i := 14) rfl rfl (by kernel_rfl) (by kernel_rfl) (by kernel_rfl) (by kernel_rfl) (fun _ _ _ h => h) (by assumption) ?_
              simp only [List.set_cons_zero, List.set_cons_succ]
              refine hr_skip (i := 15) rfl rfl (by kernel_rfl) (by kernel_rfl) (by kernel_rfl) (by kernel_rfl) (fun _ _ _ h => h) (by assumption) ?_
              simp only [List.set_cons_zero, List.set_cons_succ]
              refine hr_skip (i := 16) rfl rfl (by kernel_rfl) (by kernel_rfl) (by kernel_rfl) (by kernel_rfl) (fun _ _ _ h => h) (by assumption) ?_
              simp only [List.set_cons_zero, List.set_cons_succ]
              refine hr_skip (i := 17) rfl rfl (by kernel_rfl) (by kernel_rfl) (by kernel_rfl) (by kernel_rfl) (fun _ _ _ h => h) (by assumption) ?_
              simp only [List.set_cons_zero, List.set_cons_succ]
              refine hr_skip (i := 18) rfl rfl (by kernel_rfl) (by kernel_rfl) (by kernel_rfl) (by kernel_rfl) (fun _ _ _ h => h) (by assumption) ?_
              simp only [List.set_cons_zero, List.set_cons_succ]
              refine hr_skip (i := 19) rfl rfl (by kernel_rfl) (by kernel_rfl) (by kernel_rfl) (by kernel_rfl) (fun _ _ _ h => h) (by assumption) ?_
              simp only [List.set_cons_zero, List.set_cons_succ]
              refine hr_skip (i := 20) rfl rfl (by kernel_rfl) (by kernel_rfl) (by kernel_rfl) (by kernel_rfl) (fun _ _ _ h => h) (by assumption) ?_
              simp only [List.set_cons_zero, List.set_cons_succ]
              refine hr_skip (i := 21) rfl rfl (by kernel_rfl) (by kernel_rfl) (by kernel_rfl) (by kernel_rfl) (fun _ _ _ h => h) (by assumption) ?_
              simp only [List.set_cons_zero, List.set_cons_succ]
              refine hr_skip (i := 22) rfl rfl (by kernel_rfl) (by kernel_rfl) (by kernel_rfl) (by kernel_rfl) (fun _ _ _ h => h) (by assumption) ?_
              simp only [List.set_cons_zero, List.set_cons_succ]
              refine hr_skip (i := 23) rfl rfl (by kernel_rfl) (by kernel_rfl) (by kernel_rfl) (by kernel_rfl) (fun _ _ _ h => h) (by assumption) ?_
              simp only [List.set_cons_zero, List.set_cons_succ]
              refine hr_skip (i := 24) rfl rfl (by kernel_rfl) (by kernel_rfl) (by kernel_rfl) (by kernel_rfl) (fun _ _ _ h => h) (by assumption) ?_
              simp only [List.set_cons_zero, List.set_cons_succ]
              refine hr_skip (i := 25) rfl rfl (by kernel_rfl) (by kernel_rfl) (by kernel_rfl) (by kernel_rfl) (fun _ _ _ h => h) (by assumption) ?_
              simp only [List.set_cons_zero, List.set_cons_succ]
              refine hr_take (i := 26) rfl rfl (by kernel_rfl) (by kernel_rfl) (by kernel_rfl) (by kernel_rfl) (fun _ _ _ h => h) (v := ?_) ?_ (by assumption) ?_
              rotate_left
              focus (intro wS hSw; (try dsimp only at hSw); go_simp; (try with_reducible rfl))
              simp only [List.set_cons_zero, List.set_cons_succ]
              refine hr_done (by kernel_rfl) ?_
              go_wp2_with fail
              go_roundw
              case rel => exact ⟨i + 1, by omega, by go_num, by (repeat (first | (with_reducible exact Below.refl _ _) | (with_reducible assumption) | (with_reducible refine Below.grow ?_ ?_ _ _) | (with_reducible refine Below.drewN' ?_ _) | (with_reducible refine Below.drew ?_) | (with_reducible refine Below.alloc ?_ ?_ _) | (with_reducible refine Below.setCell ?_ ?_ _) | omega | (focus (simp; done)) | (focus (simp; omega))))⟩
              case measure => simp [intOf]; omega
          · obtain rfl : i = zs.length := by omega
            go_wp2_with fail
            go_ret
            exact ⟨rfl, Below.toGrow hbwz⟩
theorem tabs_law (x : Value) (W v : Int) (zs : List Int) (w : World) (hx : RdI w x zs) : Calls Try.prog 3 #[.agg #[x, .int .i64 W], .int .i64 v] w fun e w' => e = .returned (.bool true) ∧ Grew w w' := by
  by_cases hl : zs.length ≤ 200
  · cases hs : tsaneB W zs
    · exact tabs_insane x W v zs w hx hl hs
    · exact tabs_sane x W v zs w hx hl hs
  · exact tabs_long x W v zs w hx (by omega)
end Go.Proofs.Ytpcpgoeahndlfaa.Tab
