/- screen.ground, up, down. -/
import Derived.Test.YtlchffkabpfjpaaGreatScrS
namespace Go.Proofs.YtlchffkabpfjpaaGreat.Scr
open Go.RowKit Go.Proofs.YtlchffkabpfjpaaGreat.Row
attribute [local go_sem ↓] scr_load_pre scr_store_pre
attribute [local go_sem] scr_cell scr_frozen

set_option maxRecDepth 100000 in
set_option maxHeartbeats 4000000 in
theorem ground_c (s : Sc) (w : World) : Calls Tryz.prog 36 #[.agg #[.slice s.gA s.gn s.gc, .int .i64 s.x, .int .i64 s.y, .bool s.wr, .bool s.og, .int .i64 s.fg, .int .i64 s.bg, .int .i64 s.fl, .int .u8 s.g0, .int .u8 s.g1, .int .u8 s.g2, .int .u8 s.g3, .int .i64 s.gl, .int .i64 s.gr, .int .i64 s.on, .int .i64 s.H, .int .i64 s.W, .int .i64 s.T, .int .i64 s.B, .slice s.tA s.tn s.tc, .int .i64 s.tw, .slice s.kA s.kn s.kc, .int .i64 s.kp, .int .i64 s.dir, .bool s.ex]] w fun e w' => e = .returned (.agg #[.int .i64 0, .int .i64 s.bg, .int .i64 0]) ∧ Grew w w' := by
  go_enter Tryz.func36, Tryz.ntmps36
  go_wp2
  (refine bodyPost_ret (v := _) (by (simp [results, Tryz.results36, go_sem]; exact rfl)) rfl ⟨?_, (Below.toGrow (by exact bcAll))⟩; exact rfl)
/-- the rows scrolled up by q between the margins -/
def Md.upG (m : Md) (t b q : Nat) : Md := { m with G := layC (mvC m.G t q (b - t - q)) (b - q) q (m.G 0).n 0 m.bg 0 }
def Md.up (m : Md) (q : Nat) : Md := { m.upG m.T.toNat m.B.toNat q with K := if m.T = 0 then pushC m.K m.kp.toNat (rowsC q fun i => m.G (m.T.toNat + i)) else m.K }
theorem up_i (x : Value) (n : Nat) (F : Nat → Rw) (T B : Int) (t b q : Nat) (k fg bg fl : Int) (w : World) (hx : RdR w x (listG n F)) (hs : gsaneB (listG n F) = true) (hp : penB fg bg fl = true) (hT : (t : Int) = T) (hB : (b : Int) = B) (htb : t < b) (hbn : b ≤ n) (hq : (q : Int) = max 0 (min k (B - T))) :
    Calls Tryz.prog 90 #[.agg #[x], .int .i64 T, .int .i64 B, .int .i64 k, .agg #[.int .i64 fg, .int .i64 bg, .int .i64 fl]] w (UpF x n F t b q fg bg fl w) := by
  subst hT hB
  exact up_f x n F t b q k fg bg fl w hx hs hp htb hbn hq
theorem up_md1 (s : Sc) (F : Nat → Rw) (zs : List Int) (L : List Rw) (q g2 c2 : Nat) (B : Nat → Nat) (A3 : Option Addr) (n3 c3 : Nat) (hT : (s.T == 0) = true) :
    Sn.md ⟨{ s with gA := some ⟨g2, 0, none⟩, gn := s.gn, gc := c2, kA := A3, kn := n3, kc := c3 }, layG (mvG F s.T.toNat q (s.B.toNat - s.T.toNat - q)) (s.B.toNat - q) q B (F 0).n 0 s.bg 0, zs, pushL L s.kp.toNat (listG q (fun i => F (s.T.toNat + i)))⟩ = (Sn.md ⟨s, F, zs, L⟩).up q := by
  have hT' : s.T = 0 := by simpa using hT
  unfold Md.up Md.upG
  simp only [Sn.md, ct_lay, ct_mv, ct_push, ct_list, hT', if_true]
  rfl
theorem up_md2 (s : Sc) (F : Nat → Rw) (zs : List Int) (L : List Rw) (q g2 c2 : Nat) (B : Nat → Nat) (hT : (s.T == 0) = false) :
    Sn.md ⟨{ s with gA := some ⟨g2, 0, none⟩, gn := s.gn, gc := c2 }, layG (mvG F s.T.toNat q (s.B.toNat - s.T.toNat - q)) (s.B.toNat - q) q B (F 0).n 0 s.bg 0, zs, L⟩ = (Sn.md ⟨s, F, zs, L⟩).up q := by
  have hT' : ¬ s.T = 0 := by simpa using hT
  unfold Md.up Md.upG
  simp only [Sn.md, ct_lay, ct_mv, hT', if_false]
  rfl
theorem keep_set {w2 : World} {x : Value} {L : List Rw} {base n1 h i : Nat} {u : Value} (hr : RdR w2 x L) (hf : Ft (since (· < base) n1) x L) (hb : base ≤ h) (hn : h < n1) : RdR (w2.setCell ⟨h, i, none⟩ u) x L :=
  hr.of_ft hf (by simp [World.setCell]) fun b hb' _ => Below.heap_setCell w2 _ u b (by
    show b ≠ h
    rcases hb' with hb' | hb' <;> omega)
/-- behind 'g, gone := grid.Up(..)' -/
def UpMid (S : Sn) (q : Nat) (w : World) (p v : Value) (wc : World) : Prop :=
  ∃ (h g2 c2 : Nat) (B : Nat → Nat), p = .pointer (some ⟨h, 0, none⟩) ∧ WS w.heap.size (w.heap.size + 1) 2 S w wc S ∧ Blk wc h 46 #[.slice (some ⟨g2, 0, none⟩) S.s.gn c2] ∧ w.heap.size + 2 ≤ h ∧
    RdR wc (.slice (some ⟨g2, 0, none⟩) S.s.gn c2) (listG S.s.gn (layG (mvG S.F S.s.T.toNat q (S.s.B.toNat - S.s.T.toNat - q)) (S.s.B.toNat - q) q B (S.F 0).n 0 S.s.bg 0)) ∧ RdR wc v (listG q (fun i => S.F (S.s.T.toNat + i))) ∧
    ∀ P : Nat → Prop, Ft P (.slice S.s.gA S.s.gn S.s.gc) (listG S.s.gn S.F) → Ft (since P (w.heap.size + 2)) (.slice (some ⟨g2, 0, none⟩) S.s.gn c2) (listG S.s.gn (layG (mvG S.F S.s.T.toNat q (S.s.B.toNat - S.s.T.toNat - q)) (S.s.B.toNat - q) q B (S.F 0).n 0 S.s.bg 0)) ∧ Ft (since P (w.heap.size + 2)) v (listG q (fun i => S.F (S.s.T.toNat + i)))
set_option maxRecDepth 100000 in
set_option maxHeartbeats 4000000 in
theorem up_c (S : Sn) (k : Int) (q : Nat) (w : World) (hs : S.md.Ok) (hr : S.rd w) (hq : (q : Int) = max 0 (min k (S.s.B - S.s.T))) : Calls Tryz.prog 81 #[.agg #[.slice S.s.gA S.s.gn S.s.gc, .int .i64 S.s.x, .int .i64 S.s.y, .bool S.s.wr, .bool S.s.og, .int .i64 S.s.fg, .int .i64 S.s.bg, .int .i64 S.s.fl, .int .u8 S.s.g0, .int .u8 S.s.g1, .int .u8 S.s.g2, .int .u8 S.s.g3, .int .i64 S.s.gl, .int .i64 S.s.gr, .int .i64 S.s.on, .int .i64 S.s.H, .int .i64 S.s.W, .int .i64 S.s.T, .int .i64 S.s.B, .slice S.s.tA S.s.tn S.s.tc, .int .i64 S.s.tw, .slice S.s.kA S.s.kn S.s.kc, .int .i64 S.s.kp, .int .i64 S.s.dir, .bool S.s.ex], .int .i64 k] w (SPost S w (fun m => m = S.md.up q)) := by
  have HR := Lib.hid hr
  have HQ := Lib.hid hq
  clear hr hq
  obtain ⟨s, F, zs, L⟩ := S
  have hf := hs.cf
  simp only [Sn.md] at hf
  have HGS := Lib.hid (show gsaneB (listG s.gn F) = true from (gs_ct _ _).symm.trans hs.gs)
  have HPN := Lib.hid (show penB 0 s.bg 0 = true from hs.ground)
  have HTN := Lib.hid (show ((s.T.toNat : Nat) : Int) = s.T by have := hf.t0; omega)
  have HBN := Lib.hid (show ((s.B.toNat : Nat) : Int) = s.B by have := hf.t0; have := hf.tb; omega)
  have HTB := Lib.hid (show s.T.toNat < s.B.toNat by have := hf.t0; have := hf.tb; omega)
  have HBH := Lib.hid (show s.B.toNat ≤ s.gn by have := hf.bh; have h := hs.nH; simp only [Sn.md] at h; have := hf.t0; have := hf.tb; omega)
  have hhs := hs.hs
  rw [show (Sn.md ⟨s, F, zs, L⟩).K = L.map ct from rfl, hs_ct] at hhs
  have HSN := Lib.hid (show hsaneB L s.kp = true from hhs)
  have HLL := Lib.hid (show L.length ≤ 5000 by have h := hsane_iff.1 HSN.out; omega)
  have HLQ := Lib.hid (show (listG q (fun i => F (s.T.toNat + i))).length ≤ 5000 by rw [listG_len]; have := hf.t0; have := hf.bh; have := hf.h2; have h := HQ.out; dsimp only at h; omega)
  have HS := Lib.hid hs
  clear hs hf hhs
  dsimp only at *
  go_enter Tryz.func81, Tryz.ntmps81
  go_upto_region 1 with fail
  generalize hW : (w.alloc _).alloc _ = W; have hX : WS w.heap.size (w.heap.size + 1) 2 ⟨s, F, zs, L⟩ w W ⟨s, F, zs, L⟩ := hW ▸ WS.start HR.out; clear hW
  have hzW := hX.sz
  go_cut [5, 6] from 5 to 21 (fun p v wc => UpMid ⟨s, F, zs, L⟩ q w p v wc)
  case first =>
    refine hr_start (S := (fun w' => WS w.heap.size (w.heap.size + 1) 2 ⟨s, F, zs, L⟩ w w' ⟨s, F, zs, L⟩)) (by kernel_rfl) rfl ?_ (fun hHeld => ?_)
    · ((try dsimp only); (first | exact hX.drew | exact hHeld | exact hHeld.below hg | exact hHeld.alloc _ | (refine WS.alloc ?_ _; assumption) | (refine WS.set hHeld (by omega) (by omega) (by omega) (HR.out.ft.mono fun b hb => by omega))))
    refine hr_t 0 (v := ?_) ?_ ?_
    rotate_left
    focus (intro wS hSw; have qS := SBlk.isScr hSw.x.B; have qL := SBlk.cells hSw.x.B; have qZ := IsScr.lt qS; go_simp; (try with_reducible rfl))
    simp only [st0, st1]
    refine hr_t 1 (v := ?_) ?_ ?_
    rotate_left
    focus (intro wS hSw; have qS := SBlk.isScr hSw.x.B; have qL := SBlk.cells hSw.x.B; have qZ := IsScr.lt qS; go_simp; (try with_reducible rfl))
    simp only [st0, st1]
    refine hr_t 2 (v := ?_) ?_ ?_
    rotate_left
    focus (intro wS hSw; have qS := SBlk.isScr hSw.x.B; have qL := SBlk.cells hSw.x.B; have qZ := IsScr.lt qS; go_simp; (try with_reducible rfl))
    simp only [st0, st1]
    refine hr_t 3 (v := ?_) ?_ ?_
    rotate_left
    focus (intro wS hSw; have qS := SBlk.isScr hSw.x.B; have qL := SBlk.cells hSw.x.B; have qZ := IsScr.lt qS; go_simp; (try with_reducible rfl))
    simp only [st0, st1]
    refine hr_t 4 (v := ?_) ?_ ?_
    rotate_left
    focus (intro wS hSw; have qS := SBlk.isScr hSw.x.B; have qL := SBlk.cells hSw.x.B; have qZ := IsScr.lt qS; go_simp; (try with_reducible rfl))
    simp only [st0, st1]
    refine hr_t 5 (v := ?_) ?_ ?_
    rotate_left
    focus (intro wS hSw; have qS := SBlk.isScr hSw.x.B; have qL := SBlk.cells hSw.x.B; have qZ := IsScr.lt qS; go_simp; (try with_reducible rfl))
    simp only [st0, st1]
    refine hr_t 6 (v := ?_) ?_ ?_
    rotate_left
    focus (intro wS hSw; have qS := SBlk.isScr hSw.x.B; have qL := SBlk.cells hSw.x.B; have qZ := IsScr.lt qS; go_simp; (try with_reducible rfl))
    simp only [st0, st1]
    refine hr_t 7 (v := ?_) ?_ ?_
    rotate_left
    focus (intro wS hSw; have qS := SBlk.isScr hSw.x.B; have qL := SBlk.cells hSw.x.B; have qZ := IsScr.lt qS; go_simp; (try with_reducible rfl))
    simp only [st0, st1]
    refine hr_t 8 (v := ?_) ?_ ?_
    rotate_left
    focus (intro wS hSw; have qS := SBlk.isScr hSw.x.B; have qL := SBlk.cells hSw.x.B; have qZ := IsScr.lt qS; go_simp; (try with_reducible rfl))
    simp only [st0, st1]
    refine hr_t 9 (fun _ hSw => exec_scr hSw.x.B rfl rfl) ?_
    simp only [st0, st1]
    refine hr_two (i := 10) (j := 15) rfl rfl rfl rfl (by kernel_rfl) (by kernel_rfl) (by kernel_rfl) (fun K hK => ?_) (fun K hK => ?_)
    · (try go_simp)
      ((with_reducible refine (ground_c s _).mono ?_); rintro e w1 ⟨rfl, hg⟩; replace hg := hg.below; have hz1 := (hHeld.below hg).sz; (try (have hbk : Blk w1 W.heap.size _ _ := Blk.below (Blk.new W.drew _ _) hg (by simp); have hz3 := hbk.lt)))
      (try go_wp2_with fail)
      refine hK.out _ _ ?_ (fun hHeld => ?_)
      · ((try dsimp only); (first | exact hX.drew | exact hHeld | exact hHeld.below hg | exact hHeld.alloc _ | (refine WS.alloc ?_ _; assumption) | (refine WS.set hHeld (by omega) (by omega) (by omega) (HR.out.ft.mono fun b hb => by omega))))
      clear hK K
      simp only [st0, st1]
      refine hr_two (i := 11) (j := 15) rfl rfl rfl rfl (by kernel_rfl) (by kernel_rfl) (by kernel_rfl) (fun K hK => ?_) (fun K hK => ?_)
      · (try go_simp)
        ((with_reducible refine (up_i (.slice s.gA s.gn s.gc) s.gn F s.T s.B s.T.toNat s.B.toNat q k 0 s.bg 0 _ hHeld.rows HGS.out HPN.out HTN.out HBN.out HTB.out HBH.out HQ.out).mono ?_); rintro e w2 ⟨g2, c2, v2, B2, rfl, hg, hc2, hr2, hgone, hf2⟩; have hz2 := hg.size; (try (first | (have hbk2 := Blk.below (Blk.new _ _ _) hg (by simp)) | (have hbk2 := Blk.below hbk hg hbk.lt)); have hc0 := hbk2.cell 0; simp only [List.getElem?_toArray, List.getElem?_cons_zero] at hc0; have hc1 := hbk2.frozen 0; have hc4 := hbk2.lt))
        (try go_wp2_with fail)
        refine hK.out _ _ ?_ (fun hHeld => ?_)
        · ((try dsimp only); (first | exact hX.drew | exact hHeld | exact hHeld.below hg | exact hHeld.alloc _ | (refine WS.alloc ?_ _; assumption) | (refine WS.set hHeld (by omega) (by omega) (by omega) (HR.out.ft.mono fun b hb => by omega))))
        clear hK K
        simp only [st0, st1]
        refine hr_t 12 (v := ?_) ?_ ?_
        rotate_left
        focus (intro wS hSw; have qS := SBlk.isScr hSw.x.B; have qL := SBlk.cells hSw.x.B; have qZ := IsScr.lt qS; go_simp; (try with_reducible rfl))
        simp only [st0, st1]
        refine hr_t 13 (v := ?_) ?_ ?_
        rotate_left
        focus (intro wS hSw; have qS := SBlk.isScr hSw.x.B; have qL := SBlk.cells hSw.x.B; have qZ := IsScr.lt qS; go_simp; (try with_reducible rfl))
        simp only [st0, st1]
        refine hr_t 14 (v := ?_) ?_ ?_
        rotate_left
        focus (intro wS hSw; have qS := SBlk.isScr hSw.x.B; have qL := SBlk.cells hSw.x.B; have qZ := IsScr.lt qS; go_simp; (try with_reducible rfl))
        simp only [st0, st1]
        refine hr_o 15 (fun K hK => ?_)
        (try go_simp)
        (try go_wp2_with fail)
        refine hK.out _ _ ?_ (fun hHeld => ?_)
        · ((try dsimp only); (first | exact hX.drew | exact hHeld | exact hHeld.below hg | exact hHeld.alloc _ | (refine WS.alloc ?_ _; assumption) | (refine WS.set hHeld (by omega) (by omega) (by omega) (HR.out.ft.mono fun b hb => by omega))))
        clear hK K
        simp only [st0, st1]
        refine hr_op0 (i := 16) rfl (by kernel_rfl) (by kernel_rfl) (fun K hK => ?_)
        (try go_simp)
        (try go_wp2_with fail)
        refine hK.out _ ?_ (fun hHeld => ?_)
        · ((try dsimp only); (first | exact hX.drew | exact hHeld | exact hHeld.below hg | exact hHeld.alloc _ | (refine WS.alloc ?_ _; assumption) | (refine WS.set hHeld (by omega) (by omega) (by omega) (HR.out.ft.mono fun b hb => by omega))))
        clear hK K
        refine hr_t 17 (v := ?_) ?_ ?_
        rotate_left
        focus (intro wS hSw; have qS := SBlk.isScr hSw.x.B; have qL := SBlk.cells hSw.x.B; have qZ := IsScr.lt qS; go_simp; (try with_reducible rfl))
        simp only [st0, st1]
        refine hr_done (by kernel_rfl) ?_
        (go_wp2_with fail; go_meet; case rel => (exact ⟨_, _, _, _, rfl, hHeld, (by first | exact Blk.new _ _ _ | exact hbk2.set_ 0 _), (by first | omega | (simp; done) | (simp; omega)), (by first | exact hr2.below ((Below.refl _ _).alloc (Nat.le_refl _) _) | exact keep_set hr2 (hf2 (· < w.heap.size) HR.out.ft.1).1 (by omega) (by first | omega | (simp; done) | (simp; omega))), (by first | exact hgone.below ((Below.refl _ _).alloc (Nat.le_refl _) _) | exact keep_set hgone (hf2 (· < w.heap.size) HR.out.ft.1).2 (by omega) (by first | omega | (simp; done) | (simp; omega))), (fun P hP => ⟨(hf2 P hP).1.mono (since_mono (by first | omega | (simp; done) | (simp; omega))), (hf2 P hP).2.mono (since_mono (by first | omega | (simp; done) | (simp; omega)))⟩)⟩))
      · (try go_simp)
        (try go_wp2_with fail)
        refine hK.out _ _ ?_ (fun hHeld => ?_)
        · ((try dsimp only); (first | exact hX.drew | exact hHeld | exact hHeld.below hg | exact hHeld.alloc _ | (refine WS.alloc ?_ _; assumption) | (refine WS.set hHeld (by omega) (by omega) (by omega) (HR.out.ft.mono fun b hb => by omega))))
        clear hK K
        simp only [st0, st1]
        refine hr_o 11 (fun K hK => ?_)
        (try go_simp)
        ((with_reducible refine (up_i (.slice s.gA s.gn s.gc) s.gn F s.T s.B s.T.toNat s.B.toNat q k 0 s.bg 0 _ hHeld.rows HGS.out HPN.out HTN.out HBN.out HTB.out HBH.out HQ.out).mono ?_); rintro e w2 ⟨g2, c2, v2, B2, rfl, hg, hc2, hr2, hgone, hf2⟩; have hz2 := hg.size; (try (first | (have hbk2 := Blk.below (Blk.new _ _ _) hg (by simp)) | (have hbk2 := Blk.below hbk hg hbk.lt)); have hc0 := hbk2.cell 0; simp only [List.getElem?_toArray, List.getElem?_cons_zero] at hc0; have hc1 := hbk2.frozen 0; have hc4 := hbk2.lt))
        (try go_wp2_with fail)
        refine hK.out _ _ ?_ (fun hHeld => ?_)
        · ((try dsimp only); (first | exact hX.drew | exact hHeld | exact hHeld.below hg | exact hHeld.alloc _ | (refine WS.alloc ?_ _; assumption) | (refine WS.set hHeld (by omega) (by omega) (by omega) (HR.out.ft.mono fun b hb => by omega))))
        clear hK K
        simp only [st0, st1]
        refine hr_t 12 (v := ?_) ?_ ?_
        rotate_left
        focus (intro wS hSw; have qS := SBlk.isScr hSw.x.B; have qL := SBlk.cells hSw.x.B; have qZ := IsScr.lt qS; go_simp; (try with_reducible rfl))
        simp only [st0, st1]
        refine hr_t 13 (v := ?_) ?_ ?_
        rotate_left
        focus (intro wS hSw; have qS := SBlk.isScr hSw.x.B; have qL := SBlk.cells hSw.x.B; have qZ := IsScr.lt qS; go_simp; (try with_reducible rfl))
        simp only [st0, st1]
        refine hr_t 14 (v := ?_) ?_ ?_
        rotate_left
        focus (intro wS hSw; have qS := SBlk.isScr hSw.x.B; have qL := SBlk.cells hSw.x.B; have qZ := IsScr.lt qS; go_simp; (try with_reducible rfl))
        simp only [st0, st1]
        refine hr_op0 (i := 16) rfl (by kernel_rfl) (by kernel_rfl) (fun K hK => ?_)
        (try go_simp)
        (try go_wp2_with fail)
        refine hK.out _ ?_ (fun hHeld => ?_)
        · ((try dsimp only); (first | exact hX.drew | exact hHeld | exact hHeld.below hg | exact hHeld.alloc _ | (refine WS.alloc ?_ _; assumption) | (refine WS.set hHeld (by omega) (by omega) (by omega) (HR.out.ft.mono fun b hb => by omega))))
        clear hK K
        refine hr_t 17 (v := ?_) ?_ ?_
        rotate_left
        focus (intro wS hSw; have qS := SBlk.isScr hSw.x.B; have qL := SBlk.cells hSw.x.B; have qZ := IsScr.lt qS; go_simp; (try with_reducible rfl))
        simp only [st0, st1]
        refine hr_done (by kernel_rfl) ?_
        (go_wp2_with fail; go_meet; case rel => (exact ⟨_, _, _, _, rfl, hHeld, (by first | exact Blk.new _ _ _ | exact hbk2.set_ 0 _), (by first | omega | (simp; done) | (simp; omega)), (by first | exact hr2.below ((Below.refl _ _).alloc (Nat.le_refl _) _) | exact keep_set hr2 (hf2 (· < w.heap.size) HR.out.ft.1).1 (by omega) (by first | omega | (simp; done) | (simp; omega))), (by first | exact hgone.below ((Below.refl _ _).alloc (Nat.le_refl _) _) | exact keep_set hgone (hf2 (· < w.heap.size) HR.out.ft.1).2 (by omega) (by first | omega | (simp; done) | (simp; omega))), (fun P hP => ⟨(hf2 P hP).1.mono (since_mono (by first | omega | (simp; done) | (simp; omega))), (hf2 P hP).2.mono (since_mono (by first | omega | (simp; done) | (simp; omega)))⟩)⟩))
    · (try go_simp)
      (try go_wp2_with fail)
      refine hK.out _ _ ?_ (fun hHeld => ?_)
      · ((try dsimp only); (first | exact hX.drew | exact hHeld | exact hHeld.below hg | exact hHeld.alloc _ | (refine WS.alloc ?_ _; assumption) | (refine WS.set hHeld (by omega) (by omega) (by omega) (HR.out.ft.mono fun b hb => by omega))))
      clear hK K
      simp only [st0, st1]
      refine hr_o 10 (fun K hK => ?_)
      (try go_simp)
      ((with_reducible refine (ground_c s _).mono ?_); rintro e w1 ⟨rfl, hg⟩; replace hg := hg.below; have hz1 := (hHeld.below hg).sz; (try (have hbk : Blk w1 W.heap.size _ _ := Blk.below (Blk.new W.drew _ _) hg (by simp); have hz3 := hbk.lt)))
      (try go_wp2_with fail)
      refine hK.out _ _ ?_ (fun hHeld => ?_)
      · ((try dsimp only); (first | exact hX.drew | exact hHeld | exact hHeld.below hg | exact hHeld.alloc _ | (refine WS.alloc ?_ _; assumption) | (refine WS.set hHeld (by omega) (by omega) (by omega) (HR.out.ft.mono fun b hb => by omega))))
      clear hK K
      simp only [st0, st1]
      refine hr_o 11 (fun K hK => ?_)
      (try go_simp)
      ((with_reducible refine (up_i (.slice s.gA s.gn s.gc) s.gn F s.T s.B s.T.toNat s.B.toNat q k 0 s.bg 0 _ hHeld.rows HGS.out HPN.out HTN.out HBN.out HTB.out HBH.out HQ.out).mono ?_); rintro e w2 ⟨g2, c2, v2, B2, rfl, hg, hc2, hr2, hgone, hf2⟩; have hz2 := hg.size; (try (first | (have hbk2 := Blk.below (Blk.new _ _ _) hg (by simp)) | (have hbk2 := Blk.below hbk hg hbk.lt)); have hc0 := hbk2.cell 0; simp only [List.getElem?_toArray, List.getElem?_cons_zero] at hc0; have hc1 := hbk2.frozen 0; have hc4 := hbk2.lt))
      (try go_wp2_with fail)
      refine hK.out _ _ ?_ (fun hHeld => ?_)
      · ((try dsimp only); (first | exact hX.drew | exact hHeld | exact hHeld.below hg | exact hHeld.alloc _ | (refine WS.alloc ?_ _; assumption) | (refine WS.set hHeld (by omega) (by omega) (by omega) (HR.out.ft.mono fun b hb => by omega))))
      clear hK K
      simp only [st0, st1]
      refine hr_t 12 (v := ?_) ?_ ?_
      rotate_left
      focus (intro wS hSw; have qS := SBlk.isScr hSw.x.B; have qL := SBlk.cells hSw.x.B; have qZ := IsScr.lt qS; go_simp; (try with_reducible rfl))
      simp only [st0, st1]
      refine hr_t 13 (v := ?_) ?_ ?_
      rotate_left
      focus (intro wS hSw; have qS := SBlk.isScr hSw.x.B; have qL := SBlk.cells hSw.x.B; have qZ := IsScr.lt qS; go_simp; (try with_reducible rfl))
      simp only [st0, st1]
      refine hr_t 14 (v := ?_) ?_ ?_
      rotate_left
      focus (intro wS hSw; have qS := SBlk.isScr hSw.x.B; have qL := SBlk.cells hSw.x.B; have qZ := IsScr.lt qS; go_simp; (try with_reducible rfl))
      simp only [st0, st1]
      refine hr_op0 (i := 16) rfl (by kernel_rfl) (by kernel_rfl) (fun K hK => ?_)
      (try go_simp)
      (try go_wp2_with fail)
      refine hK.out _ ?_ (fun hHeld => ?_)
      · ((try dsimp only); (first | exact hX.drew | exact hHeld | exact hHeld.below hg | exact hHeld.alloc _ | (refine WS.alloc ?_ _; assumption) | (refine WS.set hHeld (by omega) (by omega) (by omega) (HR.out.ft.mono fun b hb => by omega))))
      clear hK K
      refine hr_t 17 (v := ?_) ?_ ?_
      rotate_left
      focus (intro wS hSw; have qS := SBlk.isScr hSw.x.B; have qL := SBlk.cells hSw.x.B; have qZ := IsScr.lt qS; go_simp; (try with_reducible rfl))
      simp only [st0, st1]
      refine hr_done (by kernel_rfl) ?_
      (go_wp2_with fail; go_meet; case rel => (exact ⟨_, _, _, _, rfl, hHeld, (by first | exact Blk.new _ _ _ | exact hbk2.set_ 0 _), (by first | omega | (simp; done) | (simp; omega)), (by first | exact hr2.below ((Below.refl _ _).alloc (Nat.le_refl _) _) | exact keep_set hr2 (hf2 (· < w.heap.size) HR.out.ft.1).1 (by omega) (by first | omega | (simp; done) | (simp; omega))), (by first | exact hgone.below ((Below.refl _ _).alloc (Nat.le_refl _) _) | exact keep_set hgone (hf2 (· < w.heap.size) HR.out.ft.1).2 (by omega) (by first | omega | (simp; done) | (simp; omega))), (fun P hP => ⟨(hf2 P hP).1.mono (since_mono (by first | omega | (simp; done) | (simp; omega))), (hf2 P hP).2.mono (since_mono (by first | omega | (simp; done) | (simp; omega)))⟩)⟩))
  case rest =>
    obtain ⟨h, g2, c2, B, rfl, hX, hBk, hh, hr2, hgone, hf2⟩ := hcut
    have hc0 := hBk.cell 0
    simp only [List.getElem?_toArray, List.getElem?_cons_zero] at hc0
    have hz := hX.sz
    have rS := SBlk.isScr hX.x.B; have rL := SBlk.cells hX.x.B; have rZ := IsScr.lt rS
    go_upto_region 3 with fail
    clear rS rL rZ
    clear hc0
    generalize hW2 : wc.setCell _ _ = W2
    have hX2 : WS w.heap.size (w.heap.size + 1) 2 ⟨s, F, zs, L⟩ w W2 ⟨{ s with gA := some ⟨g2, 0, none⟩, gn := s.gn, gc := c2 }, _, zs, L⟩ := hW2 ▸ hX.cell (by omega) 0 _ (fun v => v.grid hr2 ((hf2 (· < w.heap.size) HR.out.ft.1).1.mono fun b hb => hb) (fun P hP => (hf2 P hP.1).1.mono (since_mono (by omega)))) rfl
    have hgone2 : RdR W2 _ _ := hW2 ▸ out_set hgone ((hf2 (· < w.heap.size) HR.out.ft.1).2.mono fun b hb => hb) (Nat.le_refl _) (by omega)
    have hgen2 : ∀ P : Nat → Prop, Sn.ft ⟨s, F, zs, L⟩ P → Ft (since P w.heap.size) _ _ := fun P hP => (hf2 P hP.1).2.mono (since_mono (by omega))
    have hout2 := (hf2 (· < w.heap.size) HR.out.ft.1).2
    clear hW2 hX hBk hgone hr2 hf2
    have hz2 := hX2.sz
    by_cases hT : (s.T == 0) = true
    · have rS := SBlk.isScr hX2.x.B; have rL := SBlk.cells hX2.x.B; have rZ := IsScr.lt rS
      go_wp2_with fail
      (with_reducible refine (push_c (.slice s.kA s.kn s.kc) u6 s.kp L _ _ hX2.kept hgone2 HLL.out HLQ.out HSN.out).mono ?_)
      rintro e w3 ⟨v3, rfl, hg, hv3, hf3⟩
      obtain ⟨A3, c3, rfl, hc3⟩ := hv3.1.len
      have hX3 := hX2.below hg
      clear rS rL rZ
      have rS := SBlk.isScr hX3.x.B; have rL := SBlk.cells hX3.x.B; have rZ := IsScr.lt rS
      go_upto_region 5 with fail
      clear rS rL rZ
      generalize hW4 : World.setCell _ _ _ = W4
      have hX4 : WS w.heap.size (w.heap.size + 1) 2 ⟨s, F, zs, L⟩ w W4 ⟨{ s with gA := some ⟨g2, 0, none⟩, gn := s.gn, gc := c2, kA := A3, kn := _, kc := c3 }, _, zs, _⟩ := hW4 ▸ hX3.cell2 (by omega) 21 22 _ _ (fun v => v.hist hv3 ((hf3 _ hX2.v.out.2.2 hout2).mono (out_since (by omega))) (fun P hP => (hf3 _ (hX2.v.gen P hP).2.2 (hgen2 P hP)).mono (gen_since (k := 2) (by omega)))) rfl
      clear hW4
      go_wp2_with (first | (refine hX4.wload rfl rfl rfl ?_) | (refine hX4.wstore hX4.v (by rfl) (by rfl) (by rfl) (by rfl) (by rfl) ?_)); exact bodyPost_ret (results_scr rfl rfl (hX4.res hX4.v)) rfl (hX4.fin hX4.v (by omega) (up_md1 s F zs L q g2 c2 B A3 _ c3 hT))
    · have hT' : (s.T == 0) = false := by simpa using hT
      have rS := SBlk.isScr hX2.x.B; have rL := SBlk.cells hX2.x.B; have rZ := IsScr.lt rS
      go_upto_region 5 with fail
      clear rS rL rZ
      go_wp2_with (first | (refine hX2.wload rfl rfl rfl ?_) | (refine hX2.wstore hX2.v (by rfl) (by rfl) (by rfl) (by rfl) (by rfl) ?_)); exact bodyPost_ret (results_scr rfl rfl (hX2.res hX2.v)) rfl (hX2.fin hX2.v (by omega) (up_md2 s F zs L q g2 c2 B hT'))
end Go.Proofs.YtlchffkabpfjpaaGreat.Scr
