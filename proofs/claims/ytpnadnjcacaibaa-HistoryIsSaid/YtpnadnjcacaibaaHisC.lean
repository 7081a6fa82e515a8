/- The document's Take. -/
import Derived.Test.YtpnadnjcacaibaaHisB
import Derived.Test.YtpnadnjcacaibaaLstO
import Derived.Test.YtpnadnjcacaibaaHand2
namespace Go.Proofs.Ytpnadnjcacaibaa.Row
open Go.RowKit
attribute [local go_sem] Nat.add_assoc Nat.add_pos_iff_pos_or_pos lt_add_r2 le_add_r2
def Take10F (c : Int) (L : List Rw) (st : Nat) (w : World) (e : Ending) (w' : World) : Prop :=
  ∃ v1 v2, e = .returned (.tuple #[.agg #[v1, .int .i64 c], v2]) ∧ Below w.heap.size w w' ∧ RdR w' v1 (L.take st) ∧ RdR w' v2 (L.drop st)
set_option maxRecDepth 100000 in
set_option maxHeartbeats 4000000 in
theorem take10_yes (x : Value) (c k : Int) (L : List Rw) (st : Nat) (w : World) (hx : RdR w x L) (hl : L.length ≤ 5000) (hs : hsaneB L c = true) (hst : (st : Int) = (L.length : Int) - max 0 (min k L.length)) :
    Calls Try.prog 41 #[.agg #[x, .int .i64 c], .int .i64 k] w (Take10F c L st w) := by
  obtain ⟨A, cap, rfl, hc⟩ := hx.1.len
  obtain ⟨i3, hi3, hz3, hs3, hb3⟩ := row_parts
  have HI3 := Lib.hid hi3
  have HZ3 := Lib.hid hz3
  have HS3 := Lib.hid hs3
  have HB3 := Lib.hid hb3
  have HLL := Lib.hid hl
  have HX := Lib.hid hx
  have HS := Lib.hid hs
  generalize hn : L.length = n at hl hc hx HX hst ⊢
  have HN := Lib.hid hn
  have hstn : st ≤ n := by omega
  obtain ⟨A1, -, hrun1, hcut1⟩ := slice0 (E := encR) (P := Try.prog) 36 24 Try.underlying36 (by kernel_rfl) A n cap st hstn hc
  obtain ⟨A2, -, hrun2, hcut2⟩ := slice1 (E := encR) (P := Try.prog) 36 24 Try.underlying36 (by kernel_rfl) A n cap st hstn hc
  obtain ⟨T1, hT1⟩ : ∃ T, T = L.take st := ⟨_, rfl⟩
  obtain ⟨T2, hT2⟩ : ∃ T, T = L.drop st := ⟨_, rfl⟩
  have HM1 : Hid (T1.length ≤ maxLen) := by show _ ≤ _; rw [hT1, List.length_take]; unfold maxLen; omega
  have HN1 : Hid (T1.length * 48 ≤ 140737488355328) := by show _ ≤ _; rw [hT1, List.length_take]; omega
  have HM2 : Hid (T2.length ≤ maxLen) := by show _ ≤ _; rw [hT2, List.length_drop]; unfold maxLen; omega
  have HN2 : Hid (T2.length * 48 ≤ 140737488355328) := by show _ ≤ _; rw [hT2, List.length_drop]; omega
  have hl1 : T1.length = st := by rw [hT1, List.length_take]; omega
  have hl2 : T2.length = n - st := by rw [hT2, List.length_drop, hn]
  have hrd1 : ∀ w, RdX encR w (.slice A n cap) L → RdX encR w (.slice A1 st cap) T1 := fun w h => by rw [hT1]; exact hcut1 w L h
  have hrd2 : ∀ w, RdX encR w (.slice A n cap) L → RdX encR w (.slice A2 (n - st) (cap - st)) T2 := fun w h => by rw [hT2]; exact hcut2 w L h
  clear hcut1 hcut2
  obtain ⟨m1, hm1⟩ : ∃ m : Int, (if (n : Int) < k then (n : Int) else k) = m := ⟨_, rfl⟩
  have hq0 : (if 0 < m1 then m1 else 0) = (n : Int) - st := by rw [← hm1]; (repeat' split) <;> omega
  have hw1 : (n : Int) - ((n : Int) - st) = st := by omega
  have HE1 := Lib.hid hT1
  have HE2 := Lib.hid hT2
  clear hT1 hT2 hi3 hz3 hs3 hb3 hs hx hst
  go_enter Try.func41, Try.ntmps41
  go_upto_region 1 with fail
  generalize hw0 : (w.alloc _).alloc _ = w0
  have hbw : Below w.heap.size w w0 := by rw [← hw0]; (repeat (first | (with_reducible exact Below.refl _ _) | (with_reducible assumption) | (with_reducible refine Below.grow ?_ ?_ _ _) | (with_reducible refine Below.drewN' ?_ _) | (with_reducible refine Below.drew ?_) | (with_reducible refine Below.alloc ?_ ?_ _) | (with_reducible refine Below.setCell ?_ ?_ _) | omega | (focus (simp; done)) | (focus (simp; omega))))
  have hB1 : Blk w0 w.heap.size 38 #[.slice A n cap, .int .i64 c] := by rw [← hw0]; exact (Blk.new _ _ _).alloc _
  have hB2 : Blk w0 (w.heap.size + 1) 38 #[.slice none 0 0, .int .i64 0] := by rw [← hw0]; exact Blk.new_at (by simp)
  clear hw0
  obtain ⟨r0, r1, rf, rl⟩ := hB1.facts2
  obtain ⟨z0, z1, zf, zl⟩ := hB2.facts2
  go_upto_region 4 with (go_at_call 46; refine (sane10_c (.slice A n cap) c L _ (HX.out.below hbw) HLL.out).mono ?_; rw [HS.out]; rintro e w1 ⟨rfl, X1, d1, rfl⟩)
  clear hm1 hq0 hw1 hl1 hl2 hn r0 r1 rf rl z0 z1 zf zl
  have hb1 : Below w.heap.size w (w0.grow X1 d1) := by have := hbw.size; (repeat (first | (with_reducible exact Below.refl _ _) | (with_reducible assumption) | (with_reducible refine Below.grow ?_ ?_ _ _) | (with_reducible refine Below.drewN' ?_ _) | (with_reducible refine Below.drew ?_) | (with_reducible refine Below.alloc ?_ ?_ _) | (with_reducible refine Below.setCell ?_ ?_ _) | omega | (focus (simp; done)) | (focus (simp; omega))))
  have hB1' := hB1.grow X1 d1
  have hB2' := hB2.grow X1 d1
  generalize w0.grow X1 d1 = w1 at *
  have HBW := Lib.hid hb1
  have HT1 := Lib.hid (hrd1 _ (HX.out.below hb1).1)
  have HT2 := Lib.hid (hrd2 _ (HX.out.below hb1).1)
  have hws1 := hb1.size
  have HB1 := Lib.hid hB1'
  have HB2 := Lib.hid hB2'
  obtain ⟨r0, r1, rf, rl⟩ := hB1'.facts2
  obtain ⟨z0, z1, zf, zl⟩ := hB2'.facts2
  have hw1l := zl
  clear hrd1 hrd2 hB1 hB2 hbw hB1' hB2' hb1
  refine hr_start (S := (fun w' => w'.cell? ⟨w.heap.size, 0, none⟩ = some (.slice A n cap) ∧ w'.cell? ⟨w.heap.size, 1, none⟩ = some (.int .i64 c) ∧ w.heap.size + 1 < w'.heap.size)) (by kernel_rfl) rfl ?_ (fun hHeld => ?_)
  · ((try dsimp only); go_simp)
  refine hr_take (i := 1) rfl rfl (by kernel_rfl) (by kernel_rfl) (by kernel_rfl) (by kernel_rfl) (fun _ _ _ h => h) (v := ?_) ?_ (by assumption) ?_
  rotate_left
  focus (intro wS hSw; (try dsimp only at hSw); go_simp; (try with_reducible rfl))
  simp only [List.set_cons_zero, List.set_cons_succ]
  refine hr_take (i := 2) rfl rfl (by kernel_rfl) (by kernel_rfl) (by kernel_rfl) (by kernel_rfl) (fun _ _ _ h => h) (v := ?_) ?_ (by assumption) ?_
  rotate_left
  focus (intro wS hSw; (try dsimp only at hSw); go_simp; (try with_reducible rfl))
  simp only [List.set_cons_zero, List.set_cons_succ]
  refine hr_take (i := 3) rfl rfl (by kernel_rfl) (by kernel_rfl) (by kernel_rfl) (by kernel_rfl) (fun _ _ _ h => h) (v := ?_) ?_ (by assumption) ?_
  rotate_left
  focus (intro wS hSw; (try dsimp only at hSw); go_simp; (try with_reducible rfl))
  simp only [List.set_cons_zero, List.set_cons_succ]
  refine hr_take (i := 4) rfl rfl (by kernel_rfl) (by kernel_rfl) (by kernel_rfl) (by kernel_rfl) (fun _ _ _ h => h) (v := ?_) ?_ (by assumption) ?_
  rotate_left
  focus (intro wS hSw; (try dsimp only at hSw); go_simp; (try with_reducible rfl))
  simp only [List.set_cons_zero, List.set_cons_succ]
  refine hr_take (i := 6) rfl rfl (by kernel_rfl) (by kernel_rfl) (by kernel_rfl) (by kernel_rfl) (fun _ _ _ h => h) (v := ?_) ?_ (by assumption) ?_
  rotate_left
  focus (intro wS hSw; (try dsimp only at hSw); go_simp; (try with_reducible rfl))
  simp only [List.set_cons_zero, List.set_cons_succ]
  refine hr_take (i := 7) rfl rfl (by kernel_rfl) (by kernel_rfl) (by kernel_rfl) (by kernel_rfl) (fun _ _ _ h => h) (v := ?_) ?_ (by assumption) ?_
  rotate_left
  focus (intro wS hSw; (try dsimp only at hSw); go_simp; (try with_reducible rfl))
  simp only [List.set_cons_zero, List.set_cons_succ]
  refine hr_take (i := 10) rfl rfl (by kernel_rfl) (by kernel_rfl) (by kernel_rfl) (by kernel_rfl) (fun _ _ _ h => h) (v := ?_) ?_ (by assumption) ?_
  rotate_left
  focus (intro wS hSw; (try dsimp only at hSw); go_simp; (try with_reducible rfl))
  simp only [List.set_cons_zero, List.set_cons_succ]
  refine hr_take (i := 11) rfl rfl (by kernel_rfl) (by kernel_rfl) (by kernel_rfl) (by kernel_rfl) (fun _ _ _ h => h) (v := ?_) ?_ (by assumption) ?_
  rotate_left
  focus (intro wS hSw; (try dsimp only at hSw); go_simp; (try with_reducible rfl))
  simp only [List.set_cons_zero, List.set_cons_succ]
  refine hr_take (i := 12) rfl rfl (by kernel_rfl) (by kernel_rfl) (by kernel_rfl) (by kernel_rfl) (fun _ _ _ h => h) (v := ?_) ?_ (by assumption) ?_
  rotate_left
  focus (intro wS hSw; (try dsimp only at hSw); go_simp; (try with_reducible rfl))
  simp only [List.set_cons_zero, List.set_cons_succ]
  refine hr_take (i := 13) rfl rfl (by kernel_rfl) (by kernel_rfl) (by kernel_rfl) (by kernel_rfl) (fun _ _ _ h => h) (v := ?_) ?_ (by assumption) ?_
  rotate_left
  focus (intro wS hSw; (try dsimp only at hSw); go_simp; (try with_reducible rfl))
  simp only [List.set_cons_zero, List.set_cons_succ]
  refine hr_two (i := 0) (j := 9) rfl rfl rfl rfl (by kernel_rfl) (by kernel_rfl) (by kernel_rfl) (fun K hK => ?_) (fun K hK => ?_)
  · go_simp
    (try go_wp2_with fail)
    refine hK.out _ _ ?_ (fun hHeld => ?_)
    · ((try dsimp only); go_simp)
    clear hK K
    simp only [List.set_cons_zero, List.set_cons_succ]
    refine hr_two (i := 5) (j := 9) rfl rfl rfl rfl (by kernel_rfl) (by kernel_rfl) (by kernel_rfl) (fun K hK => ?_) (fun K hK => ?_)
    · (refine wp_append_empty encR _ _ _ rfl 24 48 i3 _ rfl HI3.out HZ3.out HS3.out HB3.out rfl _ _ T1 rfl rfl (HT1.out.below (by (repeat (first | (with_reducible exact Below.refl _ _) | (with_reducible assumption) | (with_reducible refine Below.grow ?_ ?_ _ _) | (with_reducible refine Below.drewN' ?_ _) | (with_reducible refine Below.drew ?_) | (with_reducible refine Below.alloc ?_ ?_ _) | (with_reducible refine Below.setCell ?_ ?_ _) | omega | (focus (simp; done)) | (focus (simp; omega)))))) HM1.out HN1.out ?_; intro v1 w3 hv hg hor; have HF1 := Lib.hid (far_of hor (g := w.heap.size + 1) (by (first | omega | (simp; omega) | (simp; done))) (by (first | omega | (simp; omega) | (simp; done)))); obtain ⟨A6, c6, rfl, _⟩ := hv.len; have HV1 := Lib.hid hv; (try (replace HV2 := Lib.hid (HV2.out.below (Below.trans (by (repeat (first | (with_reducible exact Below.refl _ _) | (with_reducible assumption) | (with_reducible refine Below.grow ?_ ?_ _ _) | (with_reducible refine Below.drewN' ?_ _) | (with_reducible refine Below.drew ?_) | (with_reducible refine Below.alloc ?_ ?_ _) | (with_reducible refine Below.setCell ?_ ?_ _) | omega | (focus (simp; done)) | (focus (simp; omega))))) (hg.mono (by (first | omega | (simp; omega) | (simp; done)))))))); have hk := (show Below w1.heap.size w1 w3 from (Below.trans (by (repeat (first | (with_reducible exact Below.refl _ _) | (with_reducible assumption) | (with_reducible refine Below.grow ?_ ?_ _ _) | (with_reducible refine Below.drewN' ?_ _) | (with_reducible refine Below.drew ?_) | (with_reducible refine Below.alloc ?_ ?_ _) | (with_reducible refine Below.setCell ?_ ?_ _) | omega | (focus (simp; done)) | (focus (simp; omega))))) (hg.mono (by (first | omega | (simp; omega) | (simp; done)))))); have hks := hk.size; clear hv hg hor r0 r1 rf rl z0 z1 zf zl; obtain ⟨r0, r1, rf, rl⟩ := (HB1.out.below hk HB1.out.lt).facts2; obtain ⟨z0, z1, zf, zl⟩ := (HB2.out.below hk HB2.out.lt).facts2)
      refine hK.out _ _ ?_ (fun hHeld => ?_)
      · ((try dsimp only); go_simp)
      clear hK K
      simp only [List.set_cons_zero, List.set_cons_succ]
      refine hr_take (i := 8) rfl rfl (by kernel_rfl) (by kernel_rfl) (by kernel_rfl) (by kernel_rfl) (fun _ _ _ h => h) (v := ?_) ?_ (by assumption) ?_
      rotate_left
      focus (intro wS hSw; (try dsimp only at hSw); go_simp; (try with_reducible rfl))
      simp only [List.set_cons_zero, List.set_cons_succ]
      refine hr_op (i := 9) rfl rfl (by kernel_rfl) (by kernel_rfl) (fun K hK => ?_)
      go_simp
      (try go_wp2_with fail)
      refine hK.out _ _ ?_ (fun hHeld => ?_)
      · ((try dsimp only); go_simp)
      clear hK K
      simp only [List.set_cons_zero, List.set_cons_succ]
      refine hr_op (i := 14) rfl rfl (by kernel_rfl) (by kernel_rfl) (fun K hK => ?_)
      (refine wp_append_empty encR _ _ _ rfl 24 48 i3 _ rfl HI3.out HZ3.out HS3.out HB3.out rfl _ _ T2 rfl rfl (HT2.out.below (by (repeat (first | (with_reducible exact Below.refl _ _) | (with_reducible assumption) | (with_reducible refine Below.grow ?_ ?_ _ _) | (with_reducible refine Below.drewN' ?_ _) | (with_reducible refine Below.drew ?_) | (with_reducible refine Below.alloc ?_ ?_ _) | (with_reducible refine Below.setCell ?_ ?_ _) | omega | (focus (simp; done)) | (focus (simp; omega)))))) HM2.out HN2.out ?_; intro v2 w4 hv hg hor; have HF2 := Lib.hid (far_of hor (g := w.heap.size + 1) (by (first | omega | (simp; omega) | (simp; done))) (by (first | omega | (simp; omega) | (simp; done)))); obtain ⟨A7, c7, rfl, _⟩ := hv.len; have HV2 := Lib.hid hv; (try (replace HV1 := Lib.hid (HV1.out.below (Below.trans (by (repeat (first | (with_reducible exact Below.refl _ _) | (with_reducible assumption) | (with_reducible refine Below.grow ?_ ?_ _ _) | (with_reducible refine Below.drewN' ?_ _) | (with_reducible refine Below.drew ?_) | (with_reducible refine Below.alloc ?_ ?_ _) | (with_reducible refine Below.setCell ?_ ?_ _) | omega | (focus (simp; done)) | (focus (simp; omega))))) (hg.mono (by (first | omega | (simp; omega) | (simp; done)))))))); have hk := (show Below w1.heap.size w1 w4 from (Below.trans (by (repeat (first | (with_reducible exact Below.refl _ _) | (with_reducible assumption) | (with_reducible refine Below.grow ?_ ?_ _ _) | (with_reducible refine Below.drewN' ?_ _) | (with_reducible refine Below.drew ?_) | (with_reducible refine Below.alloc ?_ ?_ _) | (with_reducible refine Below.setCell ?_ ?_ _) | omega | (focus (simp; done)) | (focus (simp; omega))))) (hg.mono (by (first | omega | (simp; omega) | (simp; done)))))); have hks := hk.size; clear hv hg hor r0 r1 rf rl z0 z1 zf zl; obtain ⟨r0, r1, rf, rl⟩ := (HB1.out.below hk HB1.out.lt).facts2; obtain ⟨z0, z1, zf, zl⟩ := (HB2.out.below hk HB2.out.lt).facts2)
      refine hK.out _ _ ?_ (fun hHeld => ?_)
      · ((try dsimp only); go_simp)
      clear hK K
      simp only [List.set_cons_zero, List.set_cons_succ]
      refine hr_op0 (i := 15) rfl (by kernel_rfl) (by kernel_rfl) (fun K hK => ?_)
      go_simp
      (try go_wp2_with fail)
      refine hK.out _ ?_ (fun hHeld => ?_)
      · ((try dsimp only); go_simp)
      clear hK K
      refine hr_take (i := 16) rfl rfl (by kernel_rfl) (by kernel_rfl) (by kernel_rfl) (by kernel_rfl) (fun _ _ _ h => h) (v := ?_) ?_ (by assumption) ?_
      rotate_left
      focus (intro wS hSw; (try dsimp only at hSw); go_simp; (try with_reducible rfl))
      simp only [List.set_cons_zero, List.set_cons_succ]
      refine hr_done (by kernel_rfl) ?_
      (go_wp2_with fail; refine bodyPost_ret (v := .tuple #[.agg #[.slice A6 T1.length c6, .int .i64 c], .slice A7 T2.length c7]) (by simp [results, Try.results41, go_sem, *]) rfl ?_; have hbl := HBW.out.trans (hk.mono HBW.out.size); have hbf := Below.setCell (Below.setCell hbl (p := ⟨w.heap.size + 1, 0, none⟩) (Nat.le_succ _) (.slice A6 T1.length c6)) (p := ⟨w.heap.size + 1, 1, none⟩) (Nat.le_succ _) (.int .i64 c); exact ⟨_, _, rfl, hbf, ⟨HE1.out ▸ ((HV1.out.setNe HF1.out).setNe HF1.out), fun r hr => (HX.out.below hbf).2 r (List.mem_of_mem_take hr)⟩, ⟨HE2.out ▸ ((HV2.out.setNe HF2.out).setNe HF2.out), fun r hr => (HX.out.below hbf).2 r (List.mem_of_mem_drop hr)⟩⟩)
    · go_simp
      (try go_wp2_with fail)
      refine hK.out _ _ ?_ (fun hHeld => ?_)
      · ((try dsimp only); go_simp)
      clear hK K
      simp only [List.set_cons_zero, List.set_cons_succ]
      refine hr_op (i := 5) rfl rfl (by kernel_rfl) (by kernel_rfl) (fun K hK => ?_)
      (refine wp_append_empty encR _ _ _ rfl 24 48 i3 _ rfl HI3.out HZ3.out HS3.out HB3.out rfl _ _ T1 rfl rfl (HT1.out.below (by (repeat (first | (with_reducible exact Below.refl _ _) | (with_reducible assumption) | (with_reducible refine Below.grow ?_ ?_ _ _) | (with_reducible refine Below.drewN' ?_ _) | (with_reducible refine Below.drew ?_) | (with_reducible refine Below.alloc ?_ ?_ _) | (with_reducible refine Below.setCell ?_ ?_ _) | omega | (focus (simp; done)) | (focus (simp; omega)))))) HM1.out HN1.out ?_; intro v1 w3 hv hg hor; have HF1 := Lib.hid (far_of hor (g := w.heap.size + 1) (by (first | omega | (simp; omega) | (simp; done))) (by (first | omega | (simp; omega) | (simp; done)))); obtain ⟨A6, c6, rfl, _⟩ := hv.len; have HV1 := Lib.hid hv; (try (replace HV2 := Lib.hid (HV2.out.below (Below.trans (by (repeat (first | (with_reducible exact Below.refl _ _) | (with_reducible assumption) | (with_reducible refine Below.grow ?_ ?_ _ _) | (with_reducible refine Below.drewN' ?_ _) | (with_reducible refine Below.drew ?_) | (with_reducible refine Below.alloc ?_ ?_ _) | (with_reducible refine Below.setCell ?_ ?_ _) | omega | (focus (simp; done)) | (focus (simp; omega))))) (hg.mono (by (first | omega | (simp; omega) | (simp; done)))))))); have hk := (show Below w1.heap.size w1 w3 from (Below.trans (by (repeat (first | (with_reducible exact Below.refl _ _) | (with_reducible assumption) | (with_reducible refine Below.grow ?_ ?_ _ _) | (with_reducible refine Below.drewN' ?_ _) | (with_reducible refine Below.drew ?_) | (with_reducible refine Below.alloc ?_ ?_ _) | (with_reducible refine Below.setCell ?_ ?_ _) | omega | (focus (simp; done)) | (focus (simp; omega))))) (hg.mono (by (first | omega | (simp; omega) | (simp; done)))))); have hks := hk.size; clear hv hg hor r0 r1 rf rl z0 z1 zf zl; obtain ⟨r0, r1, rf, rl⟩ := (HB1.out.below hk HB1.out.lt).facts2; obtain ⟨z0, z1, zf, zl⟩ := (HB2.out.below hk HB2.out.lt).facts2)
      refine hK.out _ _ ?_ (fun hHeld => ?_)
      · ((try dsimp only); go_simp)
      clear hK K
      simp only [List.set_cons_zero, List.set_cons_succ]
      refine hr_take (i := 8) rfl rfl (by kernel_rfl) (by kernel_rfl) (by kernel_rfl) (by kernel_rfl) (fun _ _ _ h => h) (v := ?_) ?_ (by assumption) ?_
      rotate_left
      focus (intro wS hSw; (try dsimp only at hSw); go_simp; (try with_reducible rfl))
      simp only [List.set_cons_zero, List.set_cons_succ]
      refine hr_op (i := 14) rfl rfl (by kernel_rfl) (by kernel_rfl) (fun K hK => ?_)
      (refine wp_append_empty encR _ _ _ rfl 24 48 i3 _ rfl HI3.out HZ3.out HS3.out HB3.out rfl _ _ T2 rfl rfl (HT2.out.below (by (repeat (first | (with_reducible exact Below.refl _ _) | (with_reducible assumption) | (with_reducible refine Below.grow ?_ ?_ _ _) | (with_reducible refine Below.drewN' ?_ _) | (with_reducible refine Below.drew ?_) | (with_reducible refine Below.alloc ?_ ?_ _) | (with_reducible refine Below.setCell ?_ ?_ _) | omega | (focus (simp; done)) | (focus (simp; omega)))))) HM2.out HN2.out ?_; intro v2 w4 hv hg hor; have HF2 := Lib.hid (far_of hor (g := w.heap.size + 1) (by (first | omega | (simp; omega) | (simp; done))) (by (first | omega | (simp; omega) | (simp; done)))); obtain ⟨A7, c7, rfl, _⟩ := hv.len; have HV2 := Lib.hid hv; (try (replace HV1 := Lib.hid (HV1.out.below (Below.trans (by (repeat (first | (with_reducible exact Below.refl _ _) | (with_reducible assumption) | (with_reducible refine Below.grow ?_ ?_ _ _) | (with_reducible refine Below.drewN' ?_ _) | (with_reducible refine Below.drew ?_) | (with_reducible refine Below.alloc ?_ ?_ _) | (with_reducible refine Below.setCell ?_ ?_ _) | omega | (focus (simp; done)) | (focus (simp; omega))))) (hg.mono (by (first | omega | (simp; omega) | (simp; done)))))))); have hk := (show Below w1.heap.size w1 w4 from (Below.trans (by (repeat (first | (with_reducible exact Below.refl _ _) | (with_reducible assumption) | (with_reducible refine Below.grow ?_ ?_ _ _) | (with_reducible refine Below.drewN' ?_ _) | (with_reducible refine Below.drew ?_) | (with_reducible refine Below.alloc ?_ ?_ _) | (with_reducible refine Below.setCell ?_ ?_ _) | omega | (focus (simp; done)) | (focus (simp; omega))))) (hg.mono (by (first | omega | (simp; omega) | (simp; done)))))); have hks := hk.size; clear hv hg hor r0 r1 rf rl z0 z1 zf zl; obtain ⟨r0, r1, rf, rl⟩ := (HB1.out.below hk HB1.out.lt).facts2; obtain ⟨z0, z1, zf, zl⟩ := (HB2.out.below hk HB2.out.lt).facts2)
      refine hK.out _ _ ?_ (fun hHeld => ?_)
      · ((try dsimp only); go_simp)
      clear hK K
      simp only [List.set_cons_zero, List.set_cons_succ]
      refine hr_op0 (i := 15) rfl (by kernel_rfl) (by kernel_rfl) (fun K hK => ?_)
      go_simp
      (try go_wp2_with fail)
      refine hK.out _ ?_ (fun hHeld => ?_)
      · ((try dsimp only); go_simp)
      clear hK K
      refine hr_take (i := 16) rfl rfl (by kernel_rfl) (by kernel_rfl) (by kernel_rfl) (by kernel_rfl) (fun _ _ _ h => h) (v := ?_) ?_ (by assumption) ?_
      rotate_left
      focus (intro wS hSw; (try dsimp only at hSw); go_simp; (try with_reducible rfl))
      simp only [List.set_cons_zero, List.set_cons_succ]
      refine hr_done (by kernel_rfl) ?_
      (go_wp2_with fail; refine bodyPost_ret (v := .tuple #[.agg #[.slice A6 T1.length c6, .int .i64 c], .slice A7 T2.length c7]) (by simp [results, Try.results41, go_sem, *]) rfl ?_; have hbl := HBW.out.trans (hk.mono HBW.out.size); have hbf := Below.setCell (Below.setCell hbl (p := ⟨w.heap.size + 1, 0, none⟩) (Nat.le_succ _) (.slice A6 T1.length c6)) (p := ⟨w.heap.size + 1, 1, none⟩) (Nat.le_succ _) (.int .i64 c); exact ⟨_, _, rfl, hbf, ⟨HE1.out ▸ ((HV1.out.setNe HF1.out).setNe HF1.out), fun r hr => (HX.out.below hbf).2 r (List.mem_of_mem_take hr)⟩, ⟨HE2.out ▸ ((HV2.out.setNe HF2.out).setNe HF2.out), fun r hr => (HX.out.below hbf).2 r (List.mem_of_mem_drop hr)⟩⟩)
  · go_simp
    (try go_wp2_with fail)
    refine hK.out _ _ ?_ (fun hHeld => ?_)
    · ((try dsimp only); go_simp)
    clear hK K
    simp only [List.set_cons_zero, List.set_cons_succ]
    refine hr_op (i := 0) rfl rfl (by kernel_rfl) (by kernel_rfl) (fun K hK => ?_)
    go_simp
    (try go_wp2_with fail)
    refine hK.out _ _ ?_ (fun hHeld => ?_)
    · ((try dsimp only); go_simp)
    clear hK K
    simp only [List.set_cons_zero, List.set_cons_succ]
    refine hr_op (i := 5) rfl rfl (by kernel_rfl) (by kernel_rfl) (fun K hK => ?_)
    (refine wp_append_empty encR _ _ _ rfl 24 48 i3 _ rfl HI3.out HZ3.out HS3.out HB3.out rfl _ _ T1 rfl rfl (HT1.out.below (by (repeat (first | (with_reducible exact Below.refl _ _) | (with_reducible assumption) | (with_reducible refine Below.grow ?_ ?_ _ _) | (with_reducible refine Below.drewN' ?_ _) | (with_reducible refine Below.drew ?_) | (with_reducible refine Below.alloc ?_ ?_ _) | (with_reducible refine Below.setCell ?_ ?_ _) | omega | (focus (simp; done)) | (focus (simp; omega)))))) HM1.out HN1.out ?_; intro v1 w3 hv hg hor; have HF1 := Lib.hid (far_of hor (g := w.heap.size + 1) (by (first | omega | (simp; omega) | (simp; done))) (by (first | omega | (simp; omega) | (simp; done)))); obtain ⟨A6, c6, rfl, _⟩ := hv.len; have HV1 := Lib.hid hv; (try (replace HV2 := Lib.hid (HV2.out.below (Below.trans (by (repeat (first | (with_reducible exact Below.refl _ _) | (with_reducible assumption) | (with_reducible refine Below.grow ?_ ?_ _ _) | (with_reducible refine Below.drewN' ?_ _) | (with_reducible refine Below.drew ?_) | (with_reducible refine Below.alloc ?_ ?_ _) | (with_reducible refine Below.setCell ?_ ?_ _) | omega | (focus (simp; done)) | (focus (simp; omega))))) (hg.mono (by (first | omega | (simp; omega) | (simp; done)))))))); have hk := (show Below w1.heap.size w1 w3 from (Below.trans (by (repeat (first | (with_reducible exact Below.refl _ _) | (with_reducible assumption) | (with_reducible refine Below.grow ?_ ?_ _ _) | (with_reducible refine Below.drewN' ?_ _) | (with_reducible refine Below.drew ?_) | (with_reducible refine Below.alloc ?_ ?_ _) | (with_reducible refine Below.setCell ?_ ?_ _) | omega | (focus (simp; done)) | (focus (simp; omega))))) (hg.mono (by (first | omega | (simp; omega) | (simp; done)))))); have hks := hk.size; clear hv hg hor r0 r1 rf rl z0 z1 zf zl; obtain ⟨r0, r1, rf, rl⟩ := (HB1.out.below hk HB1.out.lt).facts2; obtain ⟨z0, z1, zf, zl⟩ := (HB2.out.below hk HB2.out.lt).facts2)
    refine hK.out _ _ ?_ (fun hHeld => ?_)
    · ((try dsimp only); go_simp)
    clear hK K
    simp only [List.set_cons_zero, List.set_cons_succ]
    refine hr_take (i := 8) rfl rfl (by kernel_rfl) (by kernel_rfl) (by kernel_rfl) (by kernel_rfl) (fun _ _ _ h => h) (v := ?_) ?_ (by assumption) ?_
    rotate_left
    focus (intro wS hSw; (try dsimp only at hSw); go_simp; (try with_reducible rfl))
    simp only [List.set_cons_zero, List.set_cons_succ]
    refine hr_op (i := 14) rfl rfl (by kernel_rfl) (by kernel_rfl) (fun K hK => ?_)
    (refine wp_append_empty encR _ _ _ rfl 24 48 i3 _ rfl HI3.out HZ3.out HS3.out HB3.out rfl _ _ T2 rfl rfl (HT2.out.below (by (repeat (first | (with_reducible exact Below.refl _ _) | (with_reducible assumption) | (with_reducible refine Below.grow ?_ ?_ _ _) | (with_reducible refine Below.drewN' ?_ _) | (with_reducible refine Below.drew ?_) | (with_reducible refine Below.alloc ?_ ?_ _) | (with_reducible refine Below.setCell ?_ ?_ _) | omega | (focus (simp; done)) | (focus (simp; omega)))))) HM2.out HN2.out ?_; intro v2 w4 hv hg hor; have HF2 := Lib.hid (far_of hor (g := w.heap.size + 1) (by (first | omega | (simp; omega) | (simp; done))) (by (first | omega | (simp; omega) | (simp; done)))); obtain ⟨A7, c7, rfl, _⟩ := hv.len; have HV2 := Lib.hid hv; (try (replace HV1 := Lib.hid (HV1.out.below (Below.trans (by (repeat (first | (with_reducible exact Below.refl _ _) | (with_reducible assumption) | (with_reducible refine Below.grow ?_ ?_ _ _) | (with_reducible refine Below.drewN' ?_ _) | (with_reducible refine Below.drew ?_) | (with_reducible refine Below.alloc ?_ ?_ _) | (with_reducible refine Below.setCell ?_ ?_ _) | omega | (focus (simp; done)) | (focus (simp; omega))))) (hg.mono (by (first | omega | (simp; omega) | (simp; done)))))))); have hk := (show Below w1.heap.size w1 w4 from (Below.trans (by (repeat (first | (with_reducible exact Below.refl _ _) | (with_reducible assumption) | (with_reducible refine Below.grow ?_ ?_ _ _) | (with_reducible refine Below.drewN' ?_ _) | (with_reducible refine Below.drew ?_) | (with_reducible refine Below.alloc ?_ ?_ _) | (with_reducible refine Below.setCell ?_ ?_ _) | omega | (focus (simp; done)) | (focus (simp; omega))))) (hg.mono (by (first | omega | (simp; omega) | (simp; done)))))); have hks := hk.size; clear hv hg hor r0 r1 rf rl z0 z1 zf zl; obtain ⟨r0, r1, rf, rl⟩ := (HB1.out.below hk HB1.out.lt).facts2; obtain ⟨z0, z1, zf, zl⟩ := (HB2.out.below hk HB2.out.lt).facts2)
    refine hK.out _ _ ?_ (fun hHeld => ?_)
    · ((try dsimp only); go_simp)
    clear hK K
    simp only [List.set_cons_zero, List.set_cons_succ]
    refine hr_op0 (i := 15) rfl (by kernel_rfl) (by kernel_rfl) (fun K hK => ?_)
    go_simp
    (try go_wp2_with fail)
    refine hK.out _ ?_ (fun hHeld => ?_)
    · ((try dsimp only); go_simp)
    clear hK K
    refine hr_take (i := 16) rfl rfl (by kernel_rfl) (by kernel_rfl) (by kernel_rfl) (by kernel_rfl) (fun _ _ _ h => h) (v := ?_) ?_ (by assumption) ?_
    rotate_left
    focus (intro wS hSw; (try dsimp only at hSw); go_simp; (try with_reducible rfl))
    simp only [List.set_cons_zero, List.set_cons_succ]
    refine hr_done (by kernel_rfl) ?_
    (go_wp2_with fail; refine bodyPost_ret (v := .tuple #[.agg #[.slice A6 T1.length c6, .int .i64 c], .slice A7 T2.length c7]) (by simp [results, Try.results41, go_sem, *]) rfl ?_; have hbl := HBW.out.trans (hk.mono HBW.out.size); have hbf := Below.setCell (Below.setCell hbl (p := ⟨w.heap.size + 1, 0, none⟩) (Nat.le_succ _) (.slice A6 T1.length c6)) (p := ⟨w.heap.size + 1, 1, none⟩) (Nat.le_succ _) (.int .i64 c); exact ⟨_, _, rfl, hbf, ⟨HE1.out ▸ ((HV1.out.setNe HF1.out).setNe HF1.out), fun r hr => (HX.out.below hbf).2 r (List.mem_of_mem_take hr)⟩, ⟨HE2.out ▸ ((HV2.out.setNe HF2.out).setNe HF2.out), fun r hr => (HX.out.below hbf).2 r (List.mem_of_mem_drop hr)⟩⟩)
end Go.Proofs.Ytpnadnjcacaibaa.Row
