/- screen.DeleteCells. -/
import Derived.Test.YtlchffkabpfjpaaGreatStyL
import Derived.Test.YtlchffkabpfjpaaGreatHand3
namespace Go.Proofs.YtlchffkabpfjpaaGreat.Scr
open Go.RowKit Go.Proofs.YtlchffkabpfjpaaGreat.Row
attribute [local go_sem ↓] scr_load_pre scr_store_pre
attribute [local go_sem] scr_cell scr_frozen
/-- row.Delete by a pen that may be: the cells lie anew -/
theorem delete_p (r : Rw) (k rt m : Nat) (M fg bg fl : Int) (w : World) (hr : r.ok w) (hs : saneRw r = true) (hp : penB fg bg fl = true) (hat : k < rt) (hrt : rt ≤ r.n) (hm : max 0 (min M ((rt : Int) - k)) = (m : Int)) :
    Calls Tryz.prog 88 #[.agg #[.slice r.A r.n r.cap, .bool r.wb, .int .i64 r.dir, .bool r.ex], .int .i64 k, .int .i64 M, .int .i64 rt, .agg #[.int .i64 fg, .int .i64 bg, .int .i64 fl]] w (RowPost r w ⟨r.n, delR r.n r.f k m rt fg bg fl, r.wb, r.dir, r.ex⟩) := by
  obtain ⟨hd, hcap, hn⟩ := hr
  unfold delR
  rw [if_pos hp]
  by_cases h0 : M ≤ 0
  · obtain rfl : m = 0 := by omega
    refine (delete_zero r.A r.n r.cap r.f r.wb r.dir r.ex k rt M fg bg fl w hd hs hp hat hrt hcap h0).mono ?_
    rintro e w' ⟨b, rfl, h1, hb, ho⟩
    have e0 : delF r.f k 0 rt (Row.blank fg bg fl) = r.f := by funext i; unfold delF; rw [if_neg (by omega)]; split <;> simp
    rw [e0]
    exact rowPost_new h1 hb (ho.congr fun i hi => (mend_none (fun j hj => lost_of_sane hs hj) hi).symm) hn
  · by_cases h1 : M < (rt : Int) - k
    · obtain rfl : M = (m : Int) := by omega
      refine (delete_mid r.A r.n r.cap r.f r.wb r.dir r.ex k rt m fg bg fl w hd hs hp hat hrt hcap (by omega) (by omega)).mono ?_
      rintro e w' ⟨b, rfl, h1, hb, ho⟩
      exact rowPost_new h1 hb ho hn
    · have hmr : (rt : Int) - k = (m : Int) := by omega
      by_cases h2 : M = (m : Int)
      · subst h2
        refine (delete_eq r.A r.n r.cap r.f r.wb r.dir r.ex k rt m fg bg fl w hd hs hp hat hrt hcap hmr).mono ?_
        rintro e w' ⟨b, rfl, h1, hb, ho⟩
        exact rowPost_new h1 hb ho hn
      · refine (delete_all r.A r.n r.cap r.f r.wb r.dir r.ex k rt m M fg bg fl w hd hs hp hat hrt hcap hmr (by omega)).mono ?_
        rintro e w' ⟨b, rfl, h1, hb, ho⟩
        exact rowPost_new h1 hb ho hn
/-- cells taken out -/
def delC (k m rt : Nat) (fg bg fl : Int) (c : Ct) : Ct := ⟨c.n, delR c.n c.f k m rt fg bg fl, c.wb, c.dir, c.ex⟩
theorem del_sane {n : Nat} {f : Nat → Cl} {dir : Int} (hs : saneB n f dir = true) {at_ m rt : Nat} (hrt : rt ≤ n) (fg bg fl : Int) : saneB n (delR n f at_ m rt fg bg fl) dir = true := by
  unfold delR
  split
  · rename_i hp
    obtain ⟨h1, h2, h3, h4, h5⟩ := sane_iff.1 hs
    refine sane_mend h1 h2 h3 h4 fun i hi => ?_
    unfold delF
    split
    · exact fits_blank hp
    · split
      · exact fits_of_sane hs (by omega)
      · exact fits_of_sane hs hi
  · exact hs
set_option maxRecDepth 100000 in
set_option maxHeartbeats 4000000 in
theorem deleted_step (q k m b1 b2 b3 : Nat) (K M fg bg fl : Int) (w0 : World) (h1 : Blk w0 b1 3 #[.int .i64 k]) (h2 : Blk w0 b2 3 #[.int .i64 K]) (h4 : Blk w0 b3 26 #[.int .i64 fg, .int .i64 bg, .int .i64 fl])
    (hp : penB fg bg fl = true) (hk : k < q) (hKM : (if K < 1 then 1 else K) = M) (hm : max 0 (min M ((q : Int) - k)) = (m : Int)) :
    StepOk q w0 ⟨87, #[.pointer (some ⟨b1, 0, none⟩), .pointer (some ⟨b2, 0, none⟩), .pointer (some ⟨b3, 0, none⟩)]⟩ (delC k m q fg bg fl) := by
  refine ⟨callFunc_enter Tryz.func87 (by kernel_rfl) (by kernel_rfl), fun r w hb hok hsn hrq => ?_, fun c hc hn => ⟨del_sane hc (Nat.le_of_eq hn.symm) fg bg fl, hn⟩⟩
  subst hrq
  have H1 := Lib.hid (h1.below hb h1.lt)
  have H2 := Lib.hid (h2.below hb h2.lt)
  have H4 := Lib.hid (h4.below hb h4.lt)
  have HOK := Lib.hid hok
  have HSN := Lib.hid (show saneRw r = true from hsn)
  have HP := Lib.hid hp
  have HM := Lib.hid hm
  have HK := Lib.hid hk
  clear h1 h2 h4 hp hm hk hok hsn hb
  show Calls _ _ #[.agg #[.slice r.A r.n r.cap, .bool r.wb, .int .i64 r.dir, .bool r.ex], .pointer (some ⟨b1, 0, none⟩), .pointer (some ⟨b2, 0, none⟩), .pointer (some ⟨b3, 0, none⟩)] _ _
  go_enter Tryz.func87, Tryz.ntmps87
  go_upto_region 1 with fail
  generalize hW1 : (w.alloc _).alloc _ = W1
  have hbw : Below w.heap.size w W1 := by rw [← hW1]; exact bcAll
  have hX : Blk W1 w.heap.size 64 #[.slice r.A r.n r.cap, .bool r.wb, .int .i64 r.dir, .bool r.ex] := by rw [← hW1]; exact (Blk.new _ _ _).alloc _
  have hY : Blk W1 (w.heap.size + 1) 64 #[.slice none 0 0, .bool false, .int .i64 0, .bool false] := by rw [← hW1]; exact Blk.new_at (by simp)
  clear hW1
  obtain ⟨a0, al⟩ := blk_one (H1.out.below hbw H1.out.lt)
  obtain ⟨b0, bl⟩ := blk_one (H2.out.below hbw H2.out.lt)
  obtain ⟨d0, d1, d2, df, dl⟩ := (H4.out.below hbw H4.out.lt).facts3
  obtain ⟨x0, x1, x2, x3, xf, xl⟩ := hX.facts4
  go_wp2_with fail
  refine (delete_p r k r.n m M fg bg fl _ (HOK.out.below hbw) HSN.out HP.out HK.out (Nat.le_refl _) HM.out).mono ?_
  rintro e w2 ⟨r2, rfl, hg, hok2, hct, hft⟩
  have hY2 := hY.below hg hY.lt
  have hbw2 := hbw.trans (hg.mono hbw.size)
  have hz1 := hY.lt
  have hz2 := hbw.size
  have HOK2 := Lib.hid hok2
  have HCT := Lib.hid hct
  have hnot : ∀ P : Nat → Prop, ftR P r → ftR (since P w.heap.size) r2 := fun P hP => (hft P hP).mono (since_mono hz2)
  have hfar : ftR (· ≠ w.heap.size + 1) r2 := (hft (· < w.heap.size) (ok_ft HOK.out)).mono fun b hb => by rcases hb with hb | hb <;> omega
  clear hX hY hbw a0 al b0 bl d0 d1 d2 df dl x0 x1 x2 x3 xf xl hok2 hct hg hft
  obtain ⟨y0, y1, y2, y3, yf, yl⟩ := hY2.facts4
  go_wp2_with fail
  exact bodyPost_ret (results_row rfl rfl (blk_set4 hY2)) rfl ⟨r2, rfl, by exact bcAll, ok_keep (ok_keep (ok_keep (ok_keep HOK2.out hfar (Keeps.cell _ _ (fun h => h rfl))) hfar (Keeps.cell _ _ (fun h => h rfl))) hfar (Keeps.cell _ _ (fun h => h rfl))) hfar (Keeps.cell _ _ (fun h => h rfl)), HCT.out, hnot⟩
theorem dels_md {S S1 : Sn} (hs : S.md.Ok) {k j : Nat} {bg : Int} (h : S1.md = S.md.setR (wrapC false (delC k j S.s.W.toNat 0 bg 0 S.md.here))) : Sty S.md (Sn.md ⟨{ S1.s with wr := false }, S1.F, S1.zs, S1.L⟩) := by
  rw [wr_md h]
  have h1 := hs.here.2
  have e : S.md.W = S.s.W := rfl
  exact Sty.row hs ⟨del_sane hs.here.1 (show S.s.W.toNat ≤ S.md.here.n by omega) 0 bg 0, hs.here.2⟩
theorem D0.alloc {S : Sn} {k : Int} {w wc : World} (h : D0 S k w wc) (o : Obj) : D0 S k w (wc.alloc o) := h.below (by exact bcAll)
theorem blk_s1 {w : World} {g : Nat} {t : TypeId} {a u : Value} (h : Blk w g t #[a]) : Blk (w.setCell ⟨g, 0, none⟩ u) g t #[u] := h.set_ 0 u
theorem blk_s3 {w : World} {g : Nat} {t : TypeId} {a b c u v x : Value} (h : Blk w g t #[a, b, c]) : Blk (((w.setCell ⟨g, 0, none⟩ u).setCell ⟨g, 1, none⟩ v).setCell ⟨g, 2, none⟩ x) g t #[u, v, x] := ((h.set_ 0 u).set_ 1 v).set_ 2 x
theorem blk_dr {w : World} {g : Nat} {t : TypeId} {cs : Array Value} (h : Blk w g t cs) : Blk w.drew g t cs := h
def DMid (S : Sn) (k : Int) (w : World) (p q : Value) (wc : World) : Prop := ∃ ab pb : Nat, p = .pointer (some ⟨ab, 0, none⟩) ∧ q = .pointer (some ⟨pb, 0, none⟩) ∧ D0 S k w wc ∧ Blk wc ab 3 #[.int .i64 S.s.x] ∧ Blk wc pb 26 #[.int .i64 0, .int .i64 S.s.bg, .int .i64 0]
set_option maxRecDepth 100000 in
set_option maxHeartbeats 4000000 in
theorem DeleteCells_c (S : Sn) (k : Int) (w : World) (hs : S.md.Ok) (hr : S.rd w) : Calls Tryz.prog 54 #[.agg #[.slice S.s.gA S.s.gn S.s.gc, .int .i64 S.s.x, .int .i64 S.s.y, .bool S.s.wr, .bool S.s.og, .int .i64 S.s.fg, .int .i64 S.s.bg, .int .i64 S.s.fl, .int .u8 S.s.g0, .int .u8 S.s.g1, .int .u8 S.s.g2, .int .u8 S.s.g3, .int .i64 S.s.gl, .int .i64 S.s.gr, .int .i64 S.s.on, .int .i64 S.s.H, .int .i64 S.s.W, .int .i64 S.s.T, .int .i64 S.s.B, .slice S.s.tA S.s.tn S.s.tc, .int .i64 S.s.tw, .slice S.s.kA S.s.kn S.s.kc, .int .i64 S.s.kp, .int .i64 S.s.dir, .bool S.s.ex], .int .i64 k] w (SPost S w (Sty S.md)) := by
  have HR := Lib.hid hr
  have HS := Lib.hid hs
  obtain ⟨s, F, zs, L⟩ := S
  have hf := hs.cf
  simp only [Sn.md] at hf
  have HWQ := Lib.hid (show ((s.W.toNat : Nat) : Int) = s.W by have := hf.w1; omega)
  have HPN := Lib.hid (show penB 0 s.bg 0 = true from hs.ground)
  have HXN := Lib.hid (show ((s.x.toNat : Nat) : Int) = s.x by have := hf.x0; omega)
  have HXW := Lib.hid (show s.x.toNat < s.W.toNat by have := hf.w1; have := hf.x0; have := hf.x1; omega)
  obtain ⟨MM, e1⟩ : ∃ MM : Int, (if k < 1 then 1 else k) = MM := ⟨_, rfl⟩
  obtain ⟨mm, hmm⟩ : ∃ T : Nat, max 0 (min MM (((s.W.toNat : Nat) : Int) - ((s.x.toNat : Nat) : Int))) = (T : Int) := ⟨(max 0 (min MM (((s.W.toNat : Nat) : Int) - ((s.x.toNat : Nat) : Int)))).toNat, by omega⟩
  have HMM := Lib.hid hmm
  have HE1 := Lib.hid e1
  clear hr hs hf hmm e1
  dsimp only at *
  go_enter Tryz.func54, Tryz.ntmps54
  go_upto_region 1 with fail
  generalize hW : World.alloc _ _ = W
  have hD : D0 ⟨s, F, zs, L⟩ k w W := by rw [← hW]; exact d0_start HR.out
  clear hW
  go_wp2_with (refine hD.1.wload rfl rfl rfl ?_)
  refine (sane_ok ⟨s, F, zs, L⟩ _ hD.1.v.rd HS.out).mono ?_
  rintro e w0 ⟨rfl, hg⟩
  replace hD := hD.below hg.below
  clear hg
  go_upto_region 3 with fail
  go_cut [5, 6] from 11 to 15 (fun p q wc => DMid ⟨s, F, zs, L⟩ k w p q wc)
  case first =>
    have hD0 := hD
    refine hr_start (S := (fun w' => D0 ⟨s, F, zs, L⟩ k w w')) (by kernel_rfl) rfl ?_ (fun hHeld => ?_)
    · ((try dsimp only); (first | exact hD0 | exact hHeld | exact hHeld.below hg | exact hHeld.alloc _ | exact hD0.below (by exact bcAll)))
    refine hr_t 0 (v := ?_) ?_ ?_
    rotate_left
    focus (intro wS hSw; (obtain ⟨hSw1, hSw2, hSw3⟩ := hSw; have qS := SBlk.isScr hSw1.x.B; have qL := SBlk.cells hSw1.x.B; have qZ := IsScr.lt qS); go_simp; (try with_reducible rfl))
    simp only [st0, st1]
    refine hr_t 1 (v := ?_) ?_ ?_
    rotate_left
    focus (intro wS hSw; (obtain ⟨hSw1, hSw2, hSw3⟩ := hSw; have qS := SBlk.isScr hSw1.x.B; have qL := SBlk.cells hSw1.x.B; have qZ := IsScr.lt qS); go_simp; (try with_reducible rfl))
    simp only [st0, st1]
    refine hr_t 2 (v := ?_) ?_ ?_
    rotate_left
    focus (intro wS hSw; (obtain ⟨hSw1, hSw2, hSw3⟩ := hSw; have qS := SBlk.isScr hSw1.x.B; have qL := SBlk.cells hSw1.x.B; have qZ := IsScr.lt qS); go_simp; (try with_reducible rfl))
    simp only [st0, st1]
    refine hr_t 3 (fun _ hSw => exec_scr hSw.1.x.B rfl rfl) ?_
    simp only [st0, st1]
    refine hr_three (i := 4) (j := 5) (k := 6) rfl rfl rfl rfl rfl rfl (by kernel_rfl) (by kernel_rfl) (by kernel_rfl) (by kernel_rfl) (fun K hK => ?_) (fun K hK => ?_) (fun K hK => ?_)
    · (try go_simp)
      ((with_reducible refine (ground_c s _).mono ?_); rintro e w1 ⟨rfl, hg⟩; replace hg := hg.below; (have hbx : Below w0.heap.size w0 w1 := (by refine Below.trans ?_ (hg.mono ?_) <;> first | (simp; done) | (simp; omega) | exact (by exact bcAll))); have hbz := hbx.size; ((try (have hI : Blk w1 w0.heap.size 3 #[.int .i64 0] := Blk.below (by first | exact Blk.new _ _ _ | exact (Blk.new _ _ _).alloc _) hg (by first | (simp; done) | (simp; omega)); obtain ⟨i0, il⟩ := blk_one hI; have ifz := hI.frozen)); (try (have hI : Blk w1 (w0.heap.size + 1) 3 #[.int .i64 0] := Blk.below (blk_dr (Blk.new_at (by simp))) hg (by first | (simp; done) | (simp; omega)); obtain ⟨i0, il⟩ := blk_one hI; have ifz := hI.frozen)); (try (have hP : Blk w1 w0.heap.size 26 #[.int .i64 0, .int .i64 0, .int .i64 0] := Blk.below (by first | exact Blk.new _ _ _ | exact (Blk.new _ _ _).alloc _) hg (by first | (simp; done) | (simp; omega)); obtain ⟨p0, p1, p2, pf, pl⟩ := hP.facts3)); (try (have hP : Blk w1 (w0.heap.size + 1) 26 #[.int .i64 0, .int .i64 0, .int .i64 0] := Blk.below (blk_dr (Blk.new_at (by simp))) hg (by first | (simp; done) | (simp; omega)); obtain ⟨p0, p1, p2, pf, pl⟩ := hP.facts3))))
      (try go_wp2_with fail)
      refine hK.out _ _ ?_ (fun hHeld => ?_)
      · ((try dsimp only); (first | exact hD0 | exact hHeld | exact hHeld.below hg | exact hHeld.alloc _ | exact hD0.below (by exact bcAll)))
      clear hK K
      simp only [st0, st1]
      refine hr_two (i := 5) (j := 6) rfl rfl rfl rfl (by kernel_rfl) (by kernel_rfl) (by kernel_rfl) (fun K hK => ?_) (fun K hK => ?_)
      · (try go_simp)
        (try go_wp2_with fail)
        refine hK.out _ _ ?_ (fun hHeld => ?_)
        · ((try dsimp only); (first | exact hD0 | exact hHeld | exact hHeld.below hg | exact hHeld.alloc _ | exact hD0.below (by exact bcAll)))
        clear hK K
        simp only [st0, st1]
        refine hr_o 6 (fun K hK => ?_)
        (try go_simp)
        (try go_wp2_with fail)
        refine hK.out _ _ ?_ (fun hHeld => ?_)
        · ((try dsimp only); (first | exact hD0 | exact hHeld | exact hHeld.below hg | exact hHeld.alloc _ | exact hD0.below (by exact bcAll)))
        clear hK K
        simp only [st0, st1]
        refine hr_op0 (i := 7) rfl (by kernel_rfl) (by kernel_rfl) (fun K hK => ?_)
        (try go_simp)
        (try go_wp2_with fail)
        refine hK.out _ ?_ (fun hHeld => ?_)
        · ((try dsimp only); (first | exact hD0 | exact hHeld | exact hHeld.below hg | exact hHeld.alloc _ | exact hD0.below (by exact bcAll)))
        clear hK K
        refine hr_op0 (i := 8) rfl (by kernel_rfl) (by kernel_rfl) (fun K hK => ?_)
        (try go_simp)
        (try go_wp2_with fail)
        refine hK.out _ ?_ (fun hHeld => ?_)
        · ((try dsimp only); (first | exact hD0 | exact hHeld | exact hHeld.below hg | exact hHeld.alloc _ | exact hD0.below (by exact bcAll)))
        clear hK K
        refine hr_done (by kernel_rfl) ?_
        (go_wp2_with fail; go_meet; case rel => exact ⟨_, _, rfl, rfl, hHeld, (by (first | with_reducible exact Blk.new _ _ _ | with_reducible exact (Blk.new _ _ _).alloc _ | (with_reducible refine Blk.new_at ?_; simp; done) | (with_reducible refine Blk.alloc ?_ _; with_reducible exact blk_s1 hI) | (with_reducible refine Blk.alloc ?_ _; with_reducible exact blk_s3 hP) | (with_reducible refine blk_other ?_ _ _ (by simp); with_reducible refine blk_other ?_ _ _ (by simp); with_reducible refine blk_other ?_ _ _ (by simp); with_reducible exact blk_s1 hI) | (with_reducible refine blk_s3 (blk_other hP _ _ ?_); simp; done))), (by (first | with_reducible exact Blk.new _ _ _ | with_reducible exact (Blk.new _ _ _).alloc _ | (with_reducible refine Blk.new_at ?_; simp; done) | (with_reducible refine Blk.alloc ?_ _; with_reducible exact blk_s1 hI) | (with_reducible refine Blk.alloc ?_ _; with_reducible exact blk_s3 hP) | (with_reducible refine blk_other ?_ _ _ (by simp); with_reducible refine blk_other ?_ _ _ (by simp); with_reducible refine blk_other ?_ _ _ (by simp); with_reducible exact blk_s1 hI) | (with_reducible refine blk_s3 (blk_other hP _ _ ?_); simp; done)))⟩)
      · (try go_simp)
        (try go_wp2_with fail)
        refine hK.out _ _ ?_ (fun hHeld => ?_)
        · ((try dsimp only); (first | exact hD0 | exact hHeld | exact hHeld.below hg | exact hHeld.alloc _ | exact hD0.below (by exact bcAll)))
        clear hK K
        simp only [st0, st1]
        refine hr_o 5 (fun K hK => ?_)
        (try go_simp)
        (try go_wp2_with fail)
        refine hK.out _ _ ?_ (fun hHeld => ?_)
        · ((try dsimp only); (first | exact hD0 | exact hHeld | exact hHeld.below hg | exact hHeld.alloc _ | exact hD0.below (by exact bcAll)))
        clear hK K
        simp only [st0, st1]
        refine hr_op0 (i := 7) rfl (by kernel_rfl) (by kernel_rfl) (fun K hK => ?_)
        (try go_simp)
        (try go_wp2_with fail)
        refine hK.out _ ?_ (fun hHeld => ?_)
        · ((try dsimp only); (first | exact hD0 | exact hHeld | exact hHeld.below hg | exact hHeld.alloc _ | exact hD0.below (by exact bcAll)))
        clear hK K
        refine hr_op0 (i := 8) rfl (by kernel_rfl) (by kernel_rfl) (fun K hK => ?_)
        (try go_simp)
        (try go_wp2_with fail)
        refine hK.out _ ?_ (fun hHeld => ?_)
        · ((try dsimp only); (first | exact hD0 | exact hHeld | exact hHeld.below hg | exact hHeld.alloc _ | exact hD0.below (by exact bcAll)))
        clear hK K
        refine hr_done (by kernel_rfl) ?_
        (go_wp2_with fail; go_meet; case rel => exact ⟨_, _, rfl, rfl, hHeld, (by (first | with_reducible exact Blk.new _ _ _ | with_reducible exact (Blk.new _ _ _).alloc _ | (with_reducible refine Blk.new_at ?_; simp; done) | (with_reducible refine Blk.alloc ?_ _; with_reducible exact blk_s1 hI) | (with_reducible refine Blk.alloc ?_ _; with_reducible exact blk_s3 hP) | (with_reducible refine blk_other ?_ _ _ (by simp); with_reducible refine blk_other ?_ _ _ (by simp); with_reducible refine blk_other ?_ _ _ (by simp); with_reducible exact blk_s1 hI) | (with_reducible refine blk_s3 (blk_other hP _ _ ?_); simp; done))), (by (first | with_reducible exact Blk.new _ _ _ | with_reducible exact (Blk.new _ _ _).alloc _ | (with_reducible refine Blk.new_at ?_; simp; done) | (with_reducible refine Blk.alloc ?_ _; with_reducible exact blk_s1 hI) | (with_reducible refine Blk.alloc ?_ _; with_reducible exact blk_s3 hP) | (with_reducible refine blk_other ?_ _ _ (by simp); with_reducible refine blk_other ?_ _ _ (by simp); with_reducible refine blk_other ?_ _ _ (by simp); with_reducible exact blk_s1 hI) | (with_reducible refine blk_s3 (blk_other hP _ _ ?_); simp; done)))⟩)
    · (try go_simp)
      (try go_wp2_with fail)
      refine hK.out _ _ ?_ (fun hHeld => ?_)
      · ((try dsimp only); (first | exact hD0 | exact hHeld | exact hHeld.below hg | exact hHeld.alloc _ | exact hD0.below (by exact bcAll)))
      clear hK K
      simp only [st0, st1]
      refine hr_two (i := 4) (j := 6) rfl rfl rfl rfl (by kernel_rfl) (by kernel_rfl) (by kernel_rfl) (fun K hK => ?_) (fun K hK => ?_)
      · (try go_simp)
        ((with_reducible refine (ground_c s _).mono ?_); rintro e w1 ⟨rfl, hg⟩; replace hg := hg.below; (have hbx : Below w0.heap.size w0 w1 := (by refine Below.trans ?_ (hg.mono ?_) <;> first | (simp; done) | (simp; omega) | exact (by exact bcAll))); have hbz := hbx.size; ((try (have hI : Blk w1 w0.heap.size 3 #[.int .i64 0] := Blk.below (by first | exact Blk.new _ _ _ | exact (Blk.new _ _ _).alloc _) hg (by first | (simp; done) | (simp; omega)); obtain ⟨i0, il⟩ := blk_one hI; have ifz := hI.frozen)); (try (have hI : Blk w1 (w0.heap.size + 1) 3 #[.int .i64 0] := Blk.below (blk_dr (Blk.new_at (by simp))) hg (by first | (simp; done) | (simp; omega)); obtain ⟨i0, il⟩ := blk_one hI; have ifz := hI.frozen)); (try (have hP : Blk w1 w0.heap.size 26 #[.int .i64 0, .int .i64 0, .int .i64 0] := Blk.below (by first | exact Blk.new _ _ _ | exact (Blk.new _ _ _).alloc _) hg (by first | (simp; done) | (simp; omega)); obtain ⟨p0, p1, p2, pf, pl⟩ := hP.facts3)); (try (have hP : Blk w1 (w0.heap.size + 1) 26 #[.int .i64 0, .int .i64 0, .int .i64 0] := Blk.below (blk_dr (Blk.new_at (by simp))) hg (by first | (simp; done) | (simp; omega)); obtain ⟨p0, p1, p2, pf, pl⟩ := hP.facts3))))
        (try go_wp2_with fail)
        refine hK.out _ _ ?_ (fun hHeld => ?_)
        · ((try dsimp only); (first | exact hD0 | exact hHeld | exact hHeld.below hg | exact hHeld.alloc _ | exact hD0.below (by exact bcAll)))
        clear hK K
        simp only [st0, st1]
        refine hr_o 6 (fun K hK => ?_)
        (try go_simp)
        (try go_wp2_with fail)
        refine hK.out _ _ ?_ (fun hHeld => ?_)
        · ((try dsimp only); (first | exact hD0 | exact hHeld | exact hHeld.below hg | exact hHeld.alloc _ | exact hD0.below (by exact bcAll)))
        clear hK K
        simp only [st0, st1]
        refine hr_op0 (i := 7) rfl (by kernel_rfl) (by kernel_rfl) (fun K hK => ?_)
        (try go_simp)
        (try go_wp2_with fail)
        refine hK.out _ ?_ (fun hHeld => ?_)
        · ((try dsimp only); (first | exact hD0 | exact hHeld | exact hHeld.below hg | exact hHeld.alloc _ | exact hD0.below (by exact bcAll)))
        clear hK K
        refine hr_op0 (i := 8) rfl (by kernel_rfl) (by kernel_rfl) (fun K hK => ?_)
        (try go_simp)
        (try go_wp2_with fail)
        refine hK.out _ ?_ (fun hHeld => ?_)
        · ((try dsimp only); (first | exact hD0 | exact hHeld | exact hHeld.below hg | exact hHeld.alloc _ | exact hD0.below (by exact bcAll)))
        clear hK K
        refine hr_done (by kernel_rfl) ?_
        (go_wp2_with fail; go_meet; case rel => exact ⟨_, _, rfl, rfl, hHeld, (by (first | with_reducible exact Blk.new _ _ _ | with_reducible exact (Blk.new _ _ _).alloc _ | (with_reducible refine Blk.new_at ?_; simp; done) | (with_reducible refine Blk.alloc ?_ _; with_reducible exact blk_s1 hI) | (with_reducible refine Blk.alloc ?_ _; with_reducible exact blk_s3 hP) | (with_reducible refine blk_other ?_ _ _ (by simp); with_reducible refine blk_other ?_ _ _ (by simp); with_reducible refine blk_other ?_ _ _ (by simp); with_reducible exact blk_s1 hI) | (with_reducible refine blk_s3 (blk_other hP _ _ ?_); simp; done))), (by (first | with_reducible exact Blk.new _ _ _ | with_reducible exact (Blk.new _ _ _).alloc _ | (with_reducible refine Blk.new_at ?_; simp; done) | (with_reducible refine Blk.alloc ?_ _; with_reducible exact blk_s1 hI) | (with_reducible refine Blk.alloc ?_ _; with_reducible exact blk_s3 hP) | (with_reducible refine blk_other ?_ _ _ (by simp); with_reducible refine blk_other ?_ _ _ (by simp); with_reducible refine blk_other ?_ _ _ (by simp); with_reducible exact blk_s1 hI) | (with_reducible refine blk_s3 (blk_other hP _ _ ?_); simp; done)))⟩)
      · (try go_simp)
        (try go_wp2_with fail)
        refine hK.out _ _ ?_ (fun hHeld => ?_)
        · ((try dsimp only); (first | exact hD0 | exact hHeld | exact hHeld.below hg | exact hHeld.alloc _ | exact hD0.below (by exact bcAll)))
        clear hK K
        simp only [st0, st1]
        refine hr_o 4 (fun K hK => ?_)
        (try go_simp)
        ((with_reducible refine (ground_c s _).mono ?_); rintro e w1 ⟨rfl, hg⟩; replace hg := hg.below; (have hbx : Below w0.heap.size w0 w1 := (by refine Below.trans ?_ (hg.mono ?_) <;> first | (simp; done) | (simp; omega) | exact (by exact bcAll))); have hbz := hbx.size; ((try (have hI : Blk w1 w0.heap.size 3 #[.int .i64 0] := Blk.below (by first | exact Blk.new _ _ _ | exact (Blk.new _ _ _).alloc _) hg (by first | (simp; done) | (simp; omega)); obtain ⟨i0, il⟩ := blk_one hI; have ifz := hI.frozen)); (try (have hI : Blk w1 (w0.heap.size + 1) 3 #[.int .i64 0] := Blk.below (blk_dr (Blk.new_at (by simp))) hg (by first | (simp; done) | (simp; omega)); obtain ⟨i0, il⟩ := blk_one hI; have ifz := hI.frozen)); (try (have hP : Blk w1 w0.heap.size 26 #[.int .i64 0, .int .i64 0, .int .i64 0] := Blk.below (by first | exact Blk.new _ _ _ | exact (Blk.new _ _ _).alloc _) hg (by first | (simp; done) | (simp; omega)); obtain ⟨p0, p1, p2, pf, pl⟩ := hP.facts3)); (try (have hP : Blk w1 (w0.heap.size + 1) 26 #[.int .i64 0, .int .i64 0, .int .i64 0] := Blk.below (blk_dr (Blk.new_at (by simp))) hg (by first | (simp; done) | (simp; omega)); obtain ⟨p0, p1, p2, pf, pl⟩ := hP.facts3))))
        (try go_wp2_with fail)
        refine hK.out _ _ ?_ (fun hHeld => ?_)
        · ((try dsimp only); (first | exact hD0 | exact hHeld | exact hHeld.below hg | exact hHeld.alloc _ | exact hD0.below (by exact bcAll)))
        clear hK K
        simp only [st0, st1]
        refine hr_op0 (i := 7) rfl (by kernel_rfl) (by kernel_rfl) (fun K hK => ?_)
        (try go_simp)
        (try go_wp2_with fail)
        refine hK.out _ ?_ (fun hHeld => ?_)
        · ((try dsimp only); (first | exact hD0 | exact hHeld | exact hHeld.below hg | exact hHeld.alloc _ | exact hD0.below (by exact bcAll)))
        clear hK K
        refine hr_op0 (i := 8) rfl (by kernel_rfl) (by kernel_rfl) (fun K hK => ?_)
        (try go_simp)
        (try go_wp2_with fail)
        refine hK.out _ ?_ (fun hHeld => ?_)
        · ((try dsimp only); (first | exact hD0 | exact hHeld | exact hHeld.below hg | exact hHeld.alloc _ | exact hD0.below (by exact bcAll)))
        clear hK K
        refine hr_done (by kernel_rfl) ?_
        (go_wp2_with fail; go_meet; case rel => exact ⟨_, _, rfl, rfl, hHeld, (by (first | with_reducible exact Blk.new _ _ _ | with_reducible exact (Blk.new _ _ _).alloc _ | (with_reducible refine Blk.new_at ?_; simp; done) | (with_reducible refine Blk.alloc ?_ _; with_reducible exact blk_s1 hI) | (with_reducible refine Blk.alloc ?_ _; with_reducible exact blk_s3 hP) | (with_reducible refine blk_other ?_ _ _ (by simp); with_reducible refine blk_other ?_ _ _ (by simp); with_reducible refine blk_other ?_ _ _ (by simp); with_reducible exact blk_s1 hI) | (with_reducible refine blk_s3 (blk_other hP _ _ ?_); simp; done))), (by (first | with_reducible exact Blk.new _ _ _ | with_reducible exact (Blk.new _ _ _).alloc _ | (with_reducible refine Blk.new_at ?_; simp; done) | (with_reducible refine Blk.alloc ?_ _; with_reducible exact blk_s1 hI) | (with_reducible refine Blk.alloc ?_ _; with_reducible exact blk_s3 hP) | (with_reducible refine blk_other ?_ _ _ (by simp); with_reducible refine blk_other ?_ _ _ (by simp); with_reducible refine blk_other ?_ _ _ (by simp); with_reducible exact blk_s1 hI) | (with_reducible refine blk_s3 (blk_other hP _ _ ?_); simp; done)))⟩)
    · (try go_simp)
      (try go_wp2_with fail)
      refine hK.out _ _ ?_ (fun hHeld => ?_)
      · ((try dsimp only); (first | exact hD0 | exact hHeld | exact hHeld.below hg | exact hHeld.alloc _ | exact hD0.below (by exact bcAll)))
      clear hK K
      simp only [st0, st1]
      refine hr_two (i := 4) (j := 5) rfl rfl rfl rfl (by kernel_rfl) (by kernel_rfl) (by kernel_rfl) (fun K hK => ?_) (fun K hK => ?_)
      · (try go_simp)
        ((with_reducible refine (ground_c s _).mono ?_); rintro e w1 ⟨rfl, hg⟩; replace hg := hg.below; (have hbx : Below w0.heap.size w0 w1 := (by refine Below.trans ?_ (hg.mono ?_) <;> first | (simp; done) | (simp; omega) | exact (by exact bcAll))); have hbz := hbx.size; ((try (have hI : Blk w1 w0.heap.size 3 #[.int .i64 0] := Blk.below (by first | exact Blk.new _ _ _ | exact (Blk.new _ _ _).alloc _) hg (by first | (simp; done) | (simp; omega)); obtain ⟨i0, il⟩ := blk_one hI; have ifz := hI.frozen)); (try (have hI : Blk w1 (w0.heap.size + 1) 3 #[.int .i64 0] := Blk.below (blk_dr (Blk.new_at (by simp))) hg (by first | (simp; done) | (simp; omega)); obtain ⟨i0, il⟩ := blk_one hI; have ifz := hI.frozen)); (try (have hP : Blk w1 w0.heap.size 26 #[.int .i64 0, .int .i64 0, .int .i64 0] := Blk.below (by first | exact Blk.new _ _ _ | exact (Blk.new _ _ _).alloc _) hg (by first | (simp; done) | (simp; omega)); obtain ⟨p0, p1, p2, pf, pl⟩ := hP.facts3)); (try (have hP : Blk w1 (w0.heap.size + 1) 26 #[.int .i64 0, .int .i64 0, .int .i64 0] := Blk.below (blk_dr (Blk.new_at (by simp))) hg (by first | (simp; done) | (simp; omega)); obtain ⟨p0, p1, p2, pf, pl⟩ := hP.facts3))))
        (try go_wp2_with fail)
        refine hK.out _ _ ?_ (fun hHeld => ?_)
        · ((try dsimp only); (first | exact hD0 | exact hHeld | exact hHeld.below hg | exact hHeld.alloc _ | exact hD0.below (by exact bcAll)))
        clear hK K
        simp only [st0, st1]
        refine hr_o 5 (fun K hK => ?_)
        (try go_simp)
        (try go_wp2_with fail)
        refine hK.out _ _ ?_ (fun hHeld => ?_)
        · ((try dsimp only); (first | exact hD0 | exact hHeld | exact hHeld.below hg | exact hHeld.alloc _ | exact hD0.below (by exact bcAll)))
        clear hK K
        simp only [st0, st1]
        refine hr_op0 (i := 7) rfl (by kernel_rfl) (by kernel_rfl) (fun K hK => ?_)
        (try go_simp)
        (try go_wp2_with fail)
        refine hK.out _ ?_ (fun hHeld => ?_)
        · ((try dsimp only); (first | exact hD0 | exact hHeld | exact hHeld.below hg | exact hHeld.alloc _ | exact hD0.below (by exact bcAll)))
        clear hK K
        refine hr_op0 (i := 8) rfl (by kernel_rfl) (by kernel_rfl) (fun K hK => ?_)
        (try go_simp)
        (try go_wp2_with fail)
        refine hK.out _ ?_ (fun hHeld => ?_)
        · ((try dsimp only); (first | exact hD0 | exact hHeld | exact hHeld.below hg | exact hHeld.alloc _ | exact hD0.below (by exact bcAll)))
        clear hK K
        refine hr_done (by kernel_rfl) ?_
        (go_wp2_with fail; go_meet; case rel => exact ⟨_, _, rfl, rfl, hHeld, (by (first | with_reducible exact Blk.new _ _ _ | with_reducible exact (Blk.new _ _ _).alloc _ | (with_reducible refine Blk.new_at ?_; simp; done) | (with_reducible refine Blk.alloc ?_ _; with_reducible exact blk_s1 hI) | (with_reducible refine Blk.alloc ?_ _; with_reducible exact blk_s3 hP) | (with_reducible refine blk_other ?_ _ _ (by simp); with_reducible refine blk_other ?_ _ _ (by simp); with_reducible refine blk_other ?_ _ _ (by simp); with_reducible exact blk_s1 hI) | (with_reducible refine blk_s3 (blk_other hP _ _ ?_); simp; done))), (by (first | with_reducible exact Blk.new _ _ _ | with_reducible exact (Blk.new _ _ _).alloc _ | (with_reducible refine Blk.new_at ?_; simp; done) | (with_reducible refine Blk.alloc ?_ _; with_reducible exact blk_s1 hI) | (with_reducible refine Blk.alloc ?_ _; with_reducible exact blk_s3 hP) | (with_reducible refine blk_other ?_ _ _ (by simp); with_reducible refine blk_other ?_ _ _ (by simp); with_reducible refine blk_other ?_ _ _ (by simp); with_reducible exact blk_s1 hI) | (with_reducible refine blk_s3 (blk_other hP _ _ ?_); simp; done)))⟩)
      · (try go_simp)
        (try go_wp2_with fail)
        refine hK.out _ _ ?_ (fun hHeld => ?_)
        · ((try dsimp only); (first | exact hD0 | exact hHeld | exact hHeld.below hg | exact hHeld.alloc _ | exact hD0.below (by exact bcAll)))
        clear hK K
        simp only [st0, st1]
        refine hr_o 4 (fun K hK => ?_)
        (try go_simp)
        ((with_reducible refine (ground_c s _).mono ?_); rintro e w1 ⟨rfl, hg⟩; replace hg := hg.below; (have hbx : Below w0.heap.size w0 w1 := (by refine Below.trans ?_ (hg.mono ?_) <;> first | (simp; done) | (simp; omega) | exact (by exact bcAll))); have hbz := hbx.size; ((try (have hI : Blk w1 w0.heap.size 3 #[.int .i64 0] := Blk.below (by first | exact Blk.new _ _ _ | exact (Blk.new _ _ _).alloc _) hg (by first | (simp; done) | (simp; omega)); obtain ⟨i0, il⟩ := blk_one hI; have ifz := hI.frozen)); (try (have hI : Blk w1 (w0.heap.size + 1) 3 #[.int .i64 0] := Blk.below (blk_dr (Blk.new_at (by simp))) hg (by first | (simp; done) | (simp; omega)); obtain ⟨i0, il⟩ := blk_one hI; have ifz := hI.frozen)); (try (have hP : Blk w1 w0.heap.size 26 #[.int .i64 0, .int .i64 0, .int .i64 0] := Blk.below (by first | exact Blk.new _ _ _ | exact (Blk.new _ _ _).alloc _) hg (by first | (simp; done) | (simp; omega)); obtain ⟨p0, p1, p2, pf, pl⟩ := hP.facts3)); (try (have hP : Blk w1 (w0.heap.size + 1) 26 #[.int .i64 0, .int .i64 0, .int .i64 0] := Blk.below (blk_dr (Blk.new_at (by simp))) hg (by first | (simp; done) | (simp; omega)); obtain ⟨p0, p1, p2, pf, pl⟩ := hP.facts3))))
        (try go_wp2_with fail)
        refine hK.out _ _ ?_ (fun hHeld => ?_)
        · ((try dsimp only); (first | exact hD0 | exact hHeld | exact hHeld.below hg | exact hHeld.alloc _ | exact hD0.below (by exact bcAll)))
        clear hK K
        simp only [st0, st1]
        refine hr_op0 (i := 7) rfl (by kernel_rfl) (by kernel_rfl) (fun K hK => ?_)
        (try go_simp)
        (try go_wp2_with fail)
        refine hK.out _ ?_ (fun hHeld => ?_)
        · ((try dsimp only); (first | exact hD0 | exact hHeld | exact hHeld.below hg | exact hHeld.alloc _ | exact hD0.below (by exact bcAll)))
        clear hK K
        refine hr_op0 (i := 8) rfl (by kernel_rfl) (by kernel_rfl) (fun K hK => ?_)
        (try go_simp)
        (try go_wp2_with fail)
        refine hK.out _ ?_ (fun hHeld => ?_)
        · ((try dsimp only); (first | exact hD0 | exact hHeld | exact hHeld.below hg | exact hHeld.alloc _ | exact hD0.below (by exact bcAll)))
        clear hK K
        refine hr_done (by kernel_rfl) ?_
        (go_wp2_with fail; go_meet; case rel => exact ⟨_, _, rfl, rfl, hHeld, (by (first | with_reducible exact Blk.new _ _ _ | with_reducible exact (Blk.new _ _ _).alloc _ | (with_reducible refine Blk.new_at ?_; simp; done) | (with_reducible refine Blk.alloc ?_ _; with_reducible exact blk_s1 hI) | (with_reducible refine Blk.alloc ?_ _; with_reducible exact blk_s3 hP) | (with_reducible refine blk_other ?_ _ _ (by simp); with_reducible refine blk_other ?_ _ _ (by simp); with_reducible refine blk_other ?_ _ _ (by simp); with_reducible exact blk_s1 hI) | (with_reducible refine blk_s3 (blk_other hP _ _ ?_); simp; done))), (by (first | with_reducible exact Blk.new _ _ _ | with_reducible exact (Blk.new _ _ _).alloc _ | (with_reducible refine Blk.new_at ?_; simp; done) | (with_reducible refine Blk.alloc ?_ _; with_reducible exact blk_s1 hI) | (with_reducible refine Blk.alloc ?_ _; with_reducible exact blk_s3 hP) | (with_reducible refine blk_other ?_ _ _ (by simp); with_reducible refine blk_other ?_ _ _ (by simp); with_reducible refine blk_other ?_ _ _ (by simp); with_reducible exact blk_s1 hI) | (with_reducible refine blk_s3 (blk_other hP _ _ ?_); simp; done)))⟩)
  case rest =>
    obtain ⟨ab, pb, rfl, rfl, hD4, hA, hP⟩ := hcut
    have hN := hD4.1.drew
    have hK2 := blk_dr hD4.2.1
    have hzz := hD4.lt1
    clear hD hD4
    replace hA := blk_dr hA
    replace hP := blk_dr hP
    rw [show s.x = ((s.x.toNat : Nat) : Int) from HXN.out.symm] at hA
    have hmf : ∀ (fn : Fn) (first cap : Array Value) (w : World), (Instr.makeFunc fn first cap).run Tryz.prog w = .ok (.func fn first cap) w := fun _ _ _ _ => rfl
    go_upto_region 4 with fail
    generalize (.agg #[.slice s.gA s.gn s.gc, .int .i64 s.x, .int .i64 s.y, .bool s.wr, .bool s.og, .int .i64 s.fg, .int .i64 s.bg, .int .i64 s.fl, .int .u8 s.g0, .int .u8 s.g1, .int .u8 s.g2, .int .u8 s.g3, .int .i64 s.gl, .int .i64 s.gr, .int .i64 s.on, .int .i64 s.H, .int .i64 s.W, .int .i64 s.T, .int .i64 s.B, .slice s.tA s.tn s.tc, .int .i64 s.tw, .slice s.kA s.kn s.kc, .int .i64 s.kp, .int .i64 s.dir, .bool s.ex] : Value) = V0
    refine hr_start (S := (fun _ => True)) (by kernel_rfl) rfl ?_ (fun hHeld => ?_)
    · ((try dsimp only); skip)
    refine hr_t 1 (v := ?_) ?_ ?_
    rotate_left
    focus (intro wS hSw; skip; go_simp; (try with_reducible rfl))
    simp only [st0, st1]
    refine hr_two (i := 0) (j := 2) rfl rfl rfl rfl (by kernel_rfl) (by kernel_rfl) (by kernel_rfl) (fun K hK => ?_) (fun K hK => ?_)
    · refine wp_scr_load hN.x.B rfl rfl ?_
      refine hK.out _ _ ?_ (fun hHeld => ?_)
      · ((try dsimp only); skip)
      clear hK K
      simp only [st0, st1]
      refine hr_o 2 (fun K hK => ?_)
      (try go_simp)
      ((with_reducible refine (wraps_c false _).mono ?_); rintro e w2 ⟨_, rfl, hg, b4, rfl, hk4⟩; replace hN := hN.below hg; replace hA := hA.below hg hA.lt; replace hK2 := hK2.below hg hK2.lt; replace hP := hP.below hg hP.lt)
      (try go_wp2_with fail)
      refine hK.out _ _ ?_ (fun hHeld => ?_)
      · ((try dsimp only); skip)
      clear hK K
      simp only [st0, st1]
      refine hr_o 3 (fun K hK => ?_)
      (try go_simp)
      (have hx : RdX encF (w2.alloc (.cells #[.func (.func 87) #[] #[.pointer (some ⟨ab, 0, none⟩), .pointer (some ⟨w.heap.size + 1, 0, none⟩), .pointer (some ⟨pb, 0, none⟩)], .func (.func 101) #[] #[.pointer (some ⟨b4, 0, none⟩)]] 88)) (.slice (some ⟨w2.heap.size, 0, none⟩) 2 2) [⟨87, #[.pointer (some ⟨ab, 0, none⟩), .pointer (some ⟨w.heap.size + 1, 0, none⟩), .pointer (some ⟨pb, 0, none⟩)]⟩, ⟨101, #[.pointer (some ⟨b4, 0, none⟩)]⟩] := rdX_two _ _ _; replace hA := hA.alloc (.cells #[.func (.func 87) #[] #[.pointer (some ⟨ab, 0, none⟩), .pointer (some ⟨w.heap.size + 1, 0, none⟩), .pointer (some ⟨pb, 0, none⟩)], .func (.func 101) #[] #[.pointer (some ⟨b4, 0, none⟩)]] 88); replace hK2 := hK2.alloc (.cells #[.func (.func 87) #[] #[.pointer (some ⟨ab, 0, none⟩), .pointer (some ⟨w.heap.size + 1, 0, none⟩), .pointer (some ⟨pb, 0, none⟩)], .func (.func 101) #[] #[.pointer (some ⟨b4, 0, none⟩)]] 88); replace hP := hP.alloc (.cells #[.func (.func 87) #[] #[.pointer (some ⟨ab, 0, none⟩), .pointer (some ⟨w.heap.size + 1, 0, none⟩), .pointer (some ⟨pb, 0, none⟩)], .func (.func 101) #[] #[.pointer (some ⟨b4, 0, none⟩)]] 88); replace hk4 := hk4.alloc (.cells #[.func (.func 87) #[] #[.pointer (some ⟨ab, 0, none⟩), .pointer (some ⟨w.heap.size + 1, 0, none⟩), .pointer (some ⟨pb, 0, none⟩)], .func (.func 101) #[] #[.pointer (some ⟨b4, 0, none⟩)]] 88); replace hN := hN.alloc (.cells #[.func (.func 87) #[] #[.pointer (some ⟨ab, 0, none⟩), .pointer (some ⟨w.heap.size + 1, 0, none⟩), .pointer (some ⟨pb, 0, none⟩)], .func (.func 101) #[] #[.pointer (some ⟨b4, 0, none⟩)]] 88))
      (try go_wp2_with fail)
      refine hK.out _ _ ?_ (fun hHeld => ?_)
      · ((try dsimp only); skip)
      clear hK K
      simp only [st0, st1]
      refine hr_o 4 (fun K hK => ?_)
      (try go_simp)
      ((with_reducible refine (onRow_2 ⟨s, F, zs, L⟩ _ s.W.toNat _ _ _ _ _ HS.out.bare hN.v.rd hx HWQ.out (deleted_step s.W.toNat s.x.toNat mm ab (w.heap.size + 1) pb k MM 0 s.bg 0 _ hA hK2 hP HPN.out HXW.out HE1.out HMM.out) (wraps_step false b4 _ _ hk4)).mono ?_); intro e w3 hp; obtain ⟨S1, rfl, hN1, hV1, hm1, hz3⟩ := hN.post (by have := hN.sz; omega) hp; clear hN; have hN := hN1)
      (try go_wp2_with fail)
      refine hK.out _ _ ?_ (fun hHeld => ?_)
      · ((try dsimp only); skip)
      clear hK K
      simp only [st0, st1]
      refine hr_op0 (i := 5) rfl (by kernel_rfl) (by kernel_rfl) (fun K hK => ?_)
      (refine wp_scr_store S1.s hN.x.B.isScr rfl rfl rfl rfl ?_; generalize hW5 : World.setRow _ _ _ = W5; have hN2 : WS w.heap.size (w.heap.size + 2) 3 ⟨s, F, zs, L⟩ w W5 S1 := (by rw [← hW5]; exact hN.row (by omega) hV1); clear hW5)
      refine hK.out _ ?_ (fun hHeld => ?_)
      · ((try dsimp only); skip)
      clear hK K
      refine hr_done (by kernel_rfl) ?_
      (have hz5 := hN2.sz; have rS := SBlk.isScr hN2.x.B; have rL := SBlk.cells hN2.x.B; have rZ := IsScr.lt rS; go_upto_region 6 with fail; clear rS rL rZ; generalize hW6 : World.setCell _ _ _ = W6; have hX6 : WS w.heap.size (w.heap.size + 2) 3 ⟨s, F, zs, L⟩ w W6 ⟨{ S1.s with wr := false }, S1.F, S1.zs, S1.L⟩ := (by rw [← hW6]; exact hN2.cell (by omega) 3 _ (fun v => ⟨v.rd, v.out, v.gen⟩) rfl); clear hW6; go_wp2_with (first | (refine hX6.wload rfl rfl rfl ?_) | (refine hX6.wstore hX6.v (by rfl) (by rfl) (by rfl) (by rfl) (by rfl) ?_)); exact bodyPost_ret (results_scr rfl rfl (hX6.res hX6.v)) rfl (hX6.fin hX6.v (by omega) (dels_md HS.out hm1)))
    · (try go_simp)
      ((with_reducible refine (wraps_c false _).mono ?_); rintro e w2 ⟨_, rfl, hg, b4, rfl, hk4⟩; replace hN := hN.below hg; replace hA := hA.below hg hA.lt; replace hK2 := hK2.below hg hK2.lt; replace hP := hP.below hg hP.lt)
      (try go_wp2_with fail)
      refine hK.out _ _ ?_ (fun hHeld => ?_)
      · ((try dsimp only); skip)
      clear hK K
      simp only [st0, st1]
      refine hr_two (i := 0) (j := 3) rfl rfl rfl rfl (by kernel_rfl) (by kernel_rfl) (by kernel_rfl) (fun K hK => ?_) (fun K hK => ?_)
      · refine wp_scr_load hN.x.B rfl rfl ?_
        refine hK.out _ _ ?_ (fun hHeld => ?_)
        · ((try dsimp only); skip)
        clear hK K
        simp only [st0, st1]
        refine hr_o 3 (fun K hK => ?_)
        (try go_simp)
        (have hx : RdX encF (w2.alloc (.cells #[.func (.func 87) #[] #[.pointer (some ⟨ab, 0, none⟩), .pointer (some ⟨w.heap.size + 1, 0, none⟩), .pointer (some ⟨pb, 0, none⟩)], .func (.func 101) #[] #[.pointer (some ⟨b4, 0, none⟩)]] 88)) (.slice (some ⟨w2.heap.size, 0, none⟩) 2 2) [⟨87, #[.pointer (some ⟨ab, 0, none⟩), .pointer (some ⟨w.heap.size + 1, 0, none⟩), .pointer (some ⟨pb, 0, none⟩)]⟩, ⟨101, #[.pointer (some ⟨b4, 0, none⟩)]⟩] := rdX_two _ _ _; replace hA := hA.alloc (.cells #[.func (.func 87) #[] #[.pointer (some ⟨ab, 0, none⟩), .pointer (some ⟨w.heap.size + 1, 0, none⟩), .pointer (some ⟨pb, 0, none⟩)], .func (.func 101) #[] #[.pointer (some ⟨b4, 0, none⟩)]] 88); replace hK2 := hK2.alloc (.cells #[.func (.func 87) #[] #[.pointer (some ⟨ab, 0, none⟩), .pointer (some ⟨w.heap.size + 1, 0, none⟩), .pointer (some ⟨pb, 0, none⟩)], .func (.func 101) #[] #[.pointer (some ⟨b4, 0, none⟩)]] 88); replace hP := hP.alloc (.cells #[.func (.func 87) #[] #[.pointer (some ⟨ab, 0, none⟩), .pointer (some ⟨w.heap.size + 1, 0, none⟩), .pointer (some ⟨pb, 0, none⟩)], .func (.func 101) #[] #[.pointer (some ⟨b4, 0, none⟩)]] 88); replace hk4 := hk4.alloc (.cells #[.func (.func 87) #[] #[.pointer (some ⟨ab, 0, none⟩), .pointer (some ⟨w.heap.size + 1, 0, none⟩), .pointer (some ⟨pb, 0, none⟩)], .func (.func 101) #[] #[.pointer (some ⟨b4, 0, none⟩)]] 88); replace hN := hN.alloc (.cells #[.func (.func 87) #[] #[.pointer (some ⟨ab, 0, none⟩), .pointer (some ⟨w.heap.size + 1, 0, none⟩), .pointer (some ⟨pb, 0, none⟩)], .func (.func 101) #[] #[.pointer (some ⟨b4, 0, none⟩)]] 88))
        (try go_wp2_with fail)
        refine hK.out _ _ ?_ (fun hHeld => ?_)
        · ((try dsimp only); skip)
        clear hK K
        simp only [st0, st1]
        refine hr_o 4 (fun K hK => ?_)
        (try go_simp)
        ((with_reducible refine (onRow_2 ⟨s, F, zs, L⟩ _ s.W.toNat _ _ _ _ _ HS.out.bare hN.v.rd hx HWQ.out (deleted_step s.W.toNat s.x.toNat mm ab (w.heap.size + 1) pb k MM 0 s.bg 0 _ hA hK2 hP HPN.out HXW.out HE1.out HMM.out) (wraps_step false b4 _ _ hk4)).mono ?_); intro e w3 hp; obtain ⟨S1, rfl, hN1, hV1, hm1, hz3⟩ := hN.post (by have := hN.sz; omega) hp; clear hN; have hN := hN1)
        (try go_wp2_with fail)
        refine hK.out _ _ ?_ (fun hHeld => ?_)
        · ((try dsimp only); skip)
        clear hK K
        simp only [st0, st1]
        refine hr_op0 (i := 5) rfl (by kernel_rfl) (by kernel_rfl) (fun K hK => ?_)
        (refine wp_scr_store S1.s hN.x.B.isScr rfl rfl rfl rfl ?_; generalize hW5 : World.setRow _ _ _ = W5; have hN2 : WS w.heap.size (w.heap.size + 2) 3 ⟨s, F, zs, L⟩ w W5 S1 := (by rw [← hW5]; exact hN.row (by omega) hV1); clear hW5)
        refine hK.out _ ?_ (fun hHeld => ?_)
        · ((try dsimp only); skip)
        clear hK K
        refine hr_done (by kernel_rfl) ?_
        (have hz5 := hN2.sz; have rS := SBlk.isScr hN2.x.B; have rL := SBlk.cells hN2.x.B; have rZ := IsScr.lt rS; go_upto_region 6 with fail; clear rS rL rZ; generalize hW6 : World.setCell _ _ _ = W6; have hX6 : WS w.heap.size (w.heap.size + 2) 3 ⟨s, F, zs, L⟩ w W6 ⟨{ S1.s with wr := false }, S1.F, S1.zs, S1.L⟩ := (by rw [← hW6]; exact hN2.cell (by omega) 3 _ (fun v => ⟨v.rd, v.out, v.gen⟩) rfl); clear hW6; go_wp2_with (first | (refine hX6.wload rfl rfl rfl ?_) | (refine hX6.wstore hX6.v (by rfl) (by rfl) (by rfl) (by rfl) (by rfl) ?_)); exact bodyPost_ret (results_scr rfl rfl (hX6.res hX6.v)) rfl (hX6.fin hX6.v (by omega) (dels_md HS.out hm1)))
      · (try go_simp)
        (have hx : RdX encF (w2.alloc (.cells #[.func (.func 87) #[] #[.pointer (some ⟨ab, 0, none⟩), .pointer (some ⟨w.heap.size + 1, 0, none⟩), .pointer (some ⟨pb, 0, none⟩)], .func (.func 101) #[] #[.pointer (some ⟨b4, 0, none⟩)]] 88)) (.slice (some ⟨w2.heap.size, 0, none⟩) 2 2) [⟨87, #[.pointer (some ⟨ab, 0, none⟩), .pointer (some ⟨w.heap.size + 1, 0, none⟩), .pointer (some ⟨pb, 0, none⟩)]⟩, ⟨101, #[.pointer (some ⟨b4, 0, none⟩)]⟩] := rdX_two _ _ _; replace hA := hA.alloc (.cells #[.func (.func 87) #[] #[.pointer (some ⟨ab, 0, none⟩), .pointer (some ⟨w.heap.size + 1, 0, none⟩), .pointer (some ⟨pb, 0, none⟩)], .func (.func 101) #[] #[.pointer (some ⟨b4, 0, none⟩)]] 88); replace hK2 := hK2.alloc (.cells #[.func (.func 87) #[] #[.pointer (some ⟨ab, 0, none⟩), .pointer (some ⟨w.heap.size + 1, 0, none⟩), .pointer (some ⟨pb, 0, none⟩)], .func (.func 101) #[] #[.pointer (some ⟨b4, 0, none⟩)]] 88); replace hP := hP.alloc (.cells #[.func (.func 87) #[] #[.pointer (some ⟨ab, 0, none⟩), .pointer (some ⟨w.heap.size + 1, 0, none⟩), .pointer (some ⟨pb, 0, none⟩)], .func (.func 101) #[] #[.pointer (some ⟨b4, 0, none⟩)]] 88); replace hk4 := hk4.alloc (.cells #[.func (.func 87) #[] #[.pointer (some ⟨ab, 0, none⟩), .pointer (some ⟨w.heap.size + 1, 0, none⟩), .pointer (some ⟨pb, 0, none⟩)], .func (.func 101) #[] #[.pointer (some ⟨b4, 0, none⟩)]] 88); replace hN := hN.alloc (.cells #[.func (.func 87) #[] #[.pointer (some ⟨ab, 0, none⟩), .pointer (some ⟨w.heap.size + 1, 0, none⟩), .pointer (some ⟨pb, 0, none⟩)], .func (.func 101) #[] #[.pointer (some ⟨b4, 0, none⟩)]] 88))
        (try go_wp2_with fail)
        refine hK.out _ _ ?_ (fun hHeld => ?_)
        · ((try dsimp only); skip)
        clear hK K
        simp only [st0, st1]
        refine hr_o 0 (fun K hK => ?_)
        refine wp_scr_load hN.x.B rfl rfl ?_
        refine hK.out _ _ ?_ (fun hHeld => ?_)
        · ((try dsimp only); skip)
        clear hK K
        simp only [st0, st1]
        refine hr_o 4 (fun K hK => ?_)
        (try go_simp)
        ((with_reducible refine (onRow_2 ⟨s, F, zs, L⟩ _ s.W.toNat _ _ _ _ _ HS.out.bare hN.v.rd hx HWQ.out (deleted_step s.W.toNat s.x.toNat mm ab (w.heap.size + 1) pb k MM 0 s.bg 0 _ hA hK2 hP HPN.out HXW.out HE1.out HMM.out) (wraps_step false b4 _ _ hk4)).mono ?_); intro e w3 hp; obtain ⟨S1, rfl, hN1, hV1, hm1, hz3⟩ := hN.post (by have := hN.sz; omega) hp; clear hN; have hN := hN1)
        (try go_wp2_with fail)
        refine hK.out _ _ ?_ (fun hHeld => ?_)
        · ((try dsimp only); skip)
        clear hK K
        simp only [st0, st1]
        refine hr_op0 (i := 5) rfl (by kernel_rfl) (by kernel_rfl) (fun K hK => ?_)
        (refine wp_scr_store S1.s hN.x.B.isScr rfl rfl rfl rfl ?_; generalize hW5 : World.setRow _ _ _ = W5; have hN2 : WS w.heap.size (w.heap.size + 2) 3 ⟨s, F, zs, L⟩ w W5 S1 := (by rw [← hW5]; exact hN.row (by omega) hV1); clear hW5)
        refine hK.out _ ?_ (fun hHeld => ?_)
        · ((try dsimp only); skip)
        clear hK K
        refine hr_done (by kernel_rfl) ?_
        (have hz5 := hN2.sz; have rS := SBlk.isScr hN2.x.B; have rL := SBlk.cells hN2.x.B; have rZ := IsScr.lt rS; go_upto_region 6 with fail; clear rS rL rZ; generalize hW6 : World.setCell _ _ _ = W6; have hX6 : WS w.heap.size (w.heap.size + 2) 3 ⟨s, F, zs, L⟩ w W6 ⟨{ S1.s with wr := false }, S1.F, S1.zs, S1.L⟩ := (by rw [← hW6]; exact hN2.cell (by omega) 3 _ (fun v => ⟨v.rd, v.out, v.gen⟩) rfl); clear hW6; go_wp2_with (first | (refine hX6.wload rfl rfl rfl ?_) | (refine hX6.wstore hX6.v (by rfl) (by rfl) (by rfl) (by rfl) (by rfl) ?_)); exact bodyPost_ret (results_scr rfl rfl (hX6.res hX6.v)) rfl (hX6.fin hX6.v (by omega) (dels_md HS.out hm1)))
end Go.Proofs.YtlchffkabpfjpaaGreat.Scr
