/- Walk of screen.Resize. -/
import Derived.Test.YtlchffkabpfjpaaGreatRszR
import Derived.OwnWalk
namespace Go.Proofs.YtlchffkabpfjpaaGreat.Scr
open Go.RowKit Go.Proofs.YtlchffkabpfjpaaGreat.Row
attribute [local go_sem ↓] scr_load_pre scr_store_pre
attribute [local go_sem] scr_cell scr_frozen
theorem rz_rd {s : Sc} {F : Nat → Rw} {A9 : Option Addr} {w : World} {k : Nat} (hcut : ∀ w (L : List Rw), RdX encR w (.slice s.gA s.gn s.gc) L → RdX encR w (.slice A9 k s.gc) (L.take k)) (hk : k ≤ s.gn) (h : RdR w (.slice s.gA s.gn s.gc) (listG s.gn F)) : RdR w (.slice A9 k s.gc) (listG k F) := by
  have := hcut w _ h.1
  rw [listG_take hk] at this
  refine ⟨this, fun r hr => ?_⟩
  rw [← listG_take hk] at hr
  exact h.2 r (List.mem_of_mem_take hr)
theorem rz_sz {n k c : Nat} {F : Nat → Rw} (hk : k ≤ n) (h : n * c ≤ 90000) : (listG k F).length * c ≤ 90000 := by
  rw [listG_len]
  exact Nat.le_trans (Nat.mul_le_mul_right c hk) h
theorem rz_gone {n h Y : Nat} (hn : n ≤ 100000) (hh : h ≤ 1000) (hY : Y < n) : wrap64 ((n : Int) - (h : Int)) = (n : Int) - (h : Int) ∧ ∃ m : Int, (if (Y : Int) < (n : Int) - (h : Int) then (Y : Int) else (n : Int) - (h : Int)) = m ∧ (if 0 < m then m else 0) = ((min (n - h) Y : Nat) : Int) := by
  refine ⟨IntWalk.wrap64_in _ (by omega), _, rfl, ?_⟩
  split <;> split <;> omega
theorem rz_kept {s : Sc} {F : Nat → Rw} {zs : List Int} {L : List Rw} (h : (Sn.md ⟨s, F, zs, L⟩).Ok) : L.length ≤ 5000 ∧ hsaneB L s.kp = true := by
  have h1 := h.hs
  rw [show (Sn.md ⟨s, F, zs, L⟩).K = L.map ct from rfl, hs_ct] at h1
  have h2 := hsane_iff.1 h1
  exact ⟨by omega, h1⟩
theorem rz_kn {s : Sc} {F : Nat → Rw} {zs : List Int} {L : List Rw} {w : World} (h : Sn.rd ⟨s, F, zs, L⟩ w) : s.kn = L.length := by
  obtain ⟨A, cap, e, _⟩ := h.2.2.1.len
  injection e
theorem rz_fin {s : Sc} {F F5 : Nat → Rw} {zs zs' : List Int} {L : List Rw} {k h q Y X gone : Nat} {R : List Rw} {A3 A11 A12 : Option Addr} {c3 c11 c12 tn : Nat}
    (z : UsedP ⟨s, F, zs, L⟩ k ∧ (R.map Rw.sh = spreadS (joinR (listG k F)) (q : Int) ∧ Y < R.length ∧ X < q ∧ R.length ≤ 100000) ∧ min (R.length - h) Y = gone ∧ (∀ i, i < h → ct (F5 i) = rzG R gone q i) ∧ Tab.tsaneB (q : Int) zs' = true) :
    ∃ k' R' Y' X' gone', Rsz ⟨s, F, zs, L⟩ h q k' R' Y' X' gone' (Sn.md ⟨{ s with kA := A3, kn := (pushL L s.kp.toNat (R.take gone)).length, kc := c3, gA := A11, gn := h, gc := c11, x := (X : Int), y := ((Y - gone : Nat) : Int), wr := false, og := false, H := (h : Int), W := (q : Int), T := 0, B := (h : Int), tA := A12, tn := tn, tc := c12, tw := (q : Int) }, F5, zs', pushL L s.kp.toNat (R.take gone)⟩) := by
  obtain ⟨z1, ⟨z2, z3, z4, z5⟩, z6, z7, z8⟩ := z
  exact ⟨k, R, Y, X, gone, { us := z1, sh := z2, ln := z5, Yl := z3, Xl := z4, gn := z6.symm, nH := rfl, G := z7, x := rfl, y := rfl, wr := rfl, og := rfl, pen := ⟨rfl, rfl, rfl⟩, set := ⟨rfl, rfl, rfl, rfl, rfl, rfl, rfl⟩, H := rfl, W := rfl, T := rfl, B := rfl, tb := z8, tw := rfl, K := ct_push _ _ _, kp := rfl, dir := rfl, ex := rfl }⟩
set_option maxRecDepth 100000 in
set_option maxHeartbeats 4000000 in
theorem Resize_c (S : Sn) (a b : Int) (h q : Nat) (w : World) (hO : S.md.Ok) (hr : S.rd w) (hh : max 1 (min a 1000) = (h : Int)) (hq : max 1 (min b 4096) = (q : Int)) (hne : ¬ ((h : Int) = S.s.H ∧ (q : Int) = S.s.W)) (hsz : S.s.gn * S.s.W.toNat ≤ 90000) :
    Calls Tryz.prog 59 #[.agg #[.slice S.s.gA S.s.gn S.s.gc, .int .i64 S.s.x, .int .i64 S.s.y, .bool S.s.wr, .bool S.s.og, .int .i64 S.s.fg, .int .i64 S.s.bg, .int .i64 S.s.fl, .int .u8 S.s.g0, .int .u8 S.s.g1, .int .u8 S.s.g2, .int .u8 S.s.g3, .int .i64 S.s.gl, .int .i64 S.s.gr, .int .i64 S.s.on, .int .i64 S.s.H, .int .i64 S.s.W, .int .i64 S.s.T, .int .i64 S.s.B, .slice S.s.tA S.s.tn S.s.tc, .int .i64 S.s.tw, .slice S.s.kA S.s.kn S.s.kc, .int .i64 S.s.kp, .int .i64 S.s.dir, .bool S.s.ex], .int .i64 a, .int .i64 b] w (SPost S w (fun m => ∃ k R Y X gone, Rsz S h q k R Y X gone m)) := by
  have HR := Lib.hid hr
  have HO := Lib.hid hO
  have HSZ := Lib.hid hsz
  obtain ⟨s, F, zs, L⟩ := S
  obtain ⟨m1, e1, e2⟩ := mm_1000 hh
  obtain ⟨m2, e3, e4⟩ := mm_4096 hq
  have HH := Lib.hid (show 1 ≤ h ∧ h ≤ 1000 by omega)
  have HQ := Lib.hid (show 1 ≤ q ∧ q ≤ 4096 by omega)
  have HWN : Hid (wN (q : Int) = q) := Lib.hid (by unfold wN; omega)
  have HNE := Lib.hid hne
  have HQ4 : Hid (1 ≤ (q : Int) ∧ (q : Int) ≤ 4096) := Lib.hid (by omega)
  have HQQ : Hid (max 1 (min (q : Int) 4096) = (q : Int)) := Lib.hid (by omega)
  have HGC : Hid (s.gn ≤ s.gc) := Lib.hid (rz_cap hr.1)
  clear hr hO hh hq hne hsz
  dsimp only at *
  go_enter Tryz.func59, Tryz.ntmps59
  go_upto_region 1 with fail
  generalize hW : (w.alloc _).alloc _ = W; have hX : WS w.heap.size (w.heap.size + 1) 2 ⟨s, F, zs, L⟩ w W ⟨s, F, zs, L⟩ := hW ▸ WS.start HR.out; clear hW
  go_wp2_with (refine hX.wload rfl rfl rfl ?_)
  refine (sane_ok ⟨s, F, zs, L⟩ _ hX.v.rd HO.out).mono ?_
  rintro e w1 ⟨rfl, hg⟩
  have hX1 := hX.below hg.below
  clear hg hX
  have hz := hX1.sz
  go_upto_region 5 with fail
  clear e1 e2 e3 e4
  generalize (.agg #[.slice s.gA s.gn s.gc, .int .i64 s.x, .int .i64 s.y, .bool s.wr, .bool s.og, .int .i64 s.fg, .int .i64 s.bg, .int .i64 s.fl, .int .u8 s.g0, .int .u8 s.g1, .int .u8 s.g2, .int .u8 s.g3, .int .i64 s.gl, .int .i64 s.gr, .int .i64 s.on, .int .i64 s.H, .int .i64 s.W, .int .i64 s.T, .int .i64 s.B, .slice s.tA s.tn s.tc, .int .i64 s.tw, .slice s.kA s.kn s.kc, .int .i64 s.kp, .int .i64 s.dir, .bool s.ex] : Value) = V0
  go_cut [35] from 24 to 35 (fun v wc => v = .bool false ∧ wc = w1)
  case first =>
    have rS := SBlk.isScr hX1.x.B; have rL := SBlk.cells hX1.x.B; have rZ := IsScr.lt rS
    by_cases hhH : (h : Int) = s.H
    · have hqW : ¬ (q : Int) = s.W := fun e => HNE.out ⟨hhH, e⟩
      have d1 : ((h : Int) == s.H) = true := by simpa using hhH
      have d2 : ((q : Int) == s.W) = false := by simpa using hqW
      clear hhH hqW
      go_wp2_with fail
      go_meet
      case rel => exact ⟨rfl, rfl⟩
    · have d1 : ((h : Int) == s.H) = false := by simpa using hhH
      clear hhH
      go_wp2_with fail
      go_meet
      case rel => exact ⟨rfl, rfl⟩
  case rest =>
    obtain ⟨rfl, rfl⟩ := hcut
    go_upto_region 7 with fail
    obtain ⟨wb, rfl⟩ : ∃ wb, wb = wc := ⟨_, rfl⟩
    have hX := hX1
    clear hX1 hz
    go_cut [7, 8, 9] from 38 to 54 (fun v7 v8 v9 wc => RzMid ⟨s, F, zs, L⟩ q w v7 v8 v9 wc)
    case first =>
      refine hr_start (S := (fun w' => WS w.heap.size (w.heap.size + 1) 2 ⟨s, F, zs, L⟩ w w' ⟨s, F, zs, L⟩)) (by kernel_rfl) rfl ?_ (fun hHeld => ?_)
      · ((try dsimp only); (first | exact hX.drew | exact hHeld | exact hHeld.below hg | exact hHeld.alloc _ | (refine WS.alloc ?_ _; assumption) | fail))
      refine hr_t 0 (v := ?_) ?_ ?_
      rotate_left
      focus (intro wS hSw; have qS := SBlk.isScr hSw.x.B; have qL := SBlk.cells hSw.x.B; have qZ := IsScr.lt qS; go_simp; (try with_reducible rfl))
      simp only [st0, st1]
      refine hr_t 1 (v := ?_) ?_ ?_
      rotate_left
      focus (intro wS hSw; have qS := SBlk.isScr hSw.x.B; have qL := SBlk.cells hSw.x.B; have qZ := IsScr.lt qS; go_simp; (try with_reducible rfl))
      simp only [st0, st1]
      refine hr_t 2 (v := ?_) ?_ ?_
      rotate_left
      focus (intro wS hSw; have qS := SBlk.isScr hSw.x.B; have qL := SBlk.cells hSw.x.B; have qZ := IsScr.lt qS; go_simp; (try with_reducible rfl))
      simp only [st0, st1]
      refine hr_t 3 (fun _ hSw => exec_scr hSw.x.B rfl rfl) ?_
      simp only [st0, st1]
      refine hr_t 6 (v := ?_) ?_ ?_
      rotate_left
      focus (intro wS hSw; have qS := SBlk.isScr hSw.x.B; have qL := SBlk.cells hSw.x.B; have qZ := IsScr.lt qS; go_simp; (try with_reducible rfl))
      simp only [st0, st1]
      refine hr_t 7 (v := ?_) ?_ ?_
      rotate_left
      focus (intro wS hSw; have qS := SBlk.isScr hSw.x.B; have qL := SBlk.cells hSw.x.B; have qZ := IsScr.lt qS; go_simp; (try with_reducible rfl))
      simp only [st0, st1]
      refine hr_t 8 (v := ?_) ?_ ?_
      rotate_left
      focus (intro wS hSw; have qS := SBlk.isScr hSw.x.B; have qL := SBlk.cells hSw.x.B; have qZ := IsScr.lt qS; go_simp; (try with_reducible rfl))
      simp only [st0, st1]
      refine hr_t 9 (v := ?_) ?_ ?_
      rotate_left
      focus (intro wS hSw; have qS := SBlk.isScr hSw.x.B; have qL := SBlk.cells hSw.x.B; have qZ := IsScr.lt qS; go_simp; (try with_reducible rfl))
      simp only [st0, st1]
      refine hr_t 10 (v := ?_) ?_ ?_
      rotate_left
      focus (intro wS hSw; have qS := SBlk.isScr hSw.x.B; have qL := SBlk.cells hSw.x.B; have qZ := IsScr.lt qS; go_simp; (try with_reducible rfl))
      simp only [st0, st1]
      refine hr_t 11 (v := ?_) ?_ ?_
      rotate_left
      focus (intro wS hSw; have qS := SBlk.isScr hSw.x.B; have qL := SBlk.cells hSw.x.B; have qZ := IsScr.lt qS; go_simp; (try with_reducible rfl))
      simp only [st0, st1]
      refine hr_t 12 (v := ?_) ?_ ?_
      rotate_left
      focus (intro wS hSw; have qS := SBlk.isScr hSw.x.B; have qL := SBlk.cells hSw.x.B; have qZ := IsScr.lt qS; go_simp; (try with_reducible rfl))
      simp only [st0, st1]
      refine hr_o 4 (fun K hK => ?_)
      (try go_simp)
      ((with_reducible refine (used_c ⟨s, F, zs, L⟩ _ HO.out hHeld.v.rd).mono ?_); rintro e w1 ⟨k, rfl, hus, hg⟩; have HUS := Lib.hid hus; obtain ⟨A9, -, hrun, hcut⟩ := slice0 (E := encR) (P := Tryz.prog) 22 64 Tryz.underlying22 (by kernel_rfl) s.gA s.gn s.gc k hus.hi HGC.out; have HCUT := Lib.hid hcut; clear hcut hus)
      (try go_wp2_with fail)
      refine hK.out _ _ ?_ (fun hHeld => ?_)
      · ((try dsimp only); (first | exact hX.drew | exact hHeld | exact hHeld.below hg | exact hHeld.alloc _ | (refine WS.alloc ?_ _; assumption) | fail))
      clear hK K
      simp only [st0, st1]
      refine hr_t 5 (v := ?_) ?_ ?_
      rotate_left
      focus (intro wS hSw; have qS := SBlk.isScr hSw.x.B; have qL := SBlk.cells hSw.x.B; have qZ := IsScr.lt qS; go_simp; (try with_reducible rfl))
      simp only [st0, st1]
      refine hr_o 13 (fun K hK => ?_)
      (try go_simp)
      (have hbs := Lib.hid hHeld.sz; (with_reducible refine (refl_i (.slice A9 k s.gc) (listG k F) (q : Int) s.y s.x q s.y.toNat s.x.toNat s.W.toNat (F s.y.toNat) _ (rz_rd HCUT.out HUS.out.hi hHeld.rows) (rz_rows HO.out HUS.out.hi).1 (gs_are HO.out HUS.out.hi) (rz_rows HO.out HUS.out.hi).2 (rz_sz HUS.out.hi HSZ.out) ((rz_cur HO.out).2.2 k HUS.out.lo HUS.out.hi).1 ((rz_cur HO.out).2.2 k HUS.out.lo HUS.out.hi).2 (rz_cur HO.out).1 (rz_cur HO.out).2.1 HWN.out).mono ?_); rintro e w2 ⟨u, R, Y, X, rfl, hg, hRu, hRs, hRf, hRY, hRX, hRl⟩; have HRX := Lib.hid (And.intro hRs (And.intro hRY (And.intro hRX hRl))); have HRU := Lib.hid hRu; have HRF := Lib.hid hRf; clear hRs hRY hRX hRl hRu hRf)
      (try go_wp2_with fail)
      refine hK.out _ _ ?_ (fun hHeld => ?_)
      · ((try dsimp only); (first | exact hX.drew | exact hHeld | exact hHeld.below hg | exact hHeld.alloc _ | (refine WS.alloc ?_ _; assumption) | fail))
      clear hK K
      simp only [st0, st1]
      refine hr_t 14 (v := ?_) ?_ ?_
      rotate_left
      focus (intro wS hSw; have qS := SBlk.isScr hSw.x.B; have qL := SBlk.cells hSw.x.B; have qZ := IsScr.lt qS; go_simp; (try with_reducible rfl))
      simp only [st0, st1]
      refine hr_t 15 (v := ?_) ?_ ?_
      rotate_left
      focus (intro wS hSw; have qS := SBlk.isScr hSw.x.B; have qL := SBlk.cells hSw.x.B; have qZ := IsScr.lt qS; go_simp; (try with_reducible rfl))
      simp only [st0, st1]
      refine hr_t 16 (v := ?_) ?_ ?_
      rotate_left
      focus (intro wS hSw; have qS := SBlk.isScr hSw.x.B; have qL := SBlk.cells hSw.x.B; have qZ := IsScr.lt qS; go_simp; (try with_reducible rfl))
      simp only [st0, st1]
      refine hr_t 17 (v := ?_) ?_ ?_
      rotate_left
      focus (intro wS hSw; have qS := SBlk.isScr hSw.x.B; have qL := SBlk.cells hSw.x.B; have qZ := IsScr.lt qS; go_simp; (try with_reducible rfl))
      simp only [st0, st1]
      refine hr_t 18 (v := ?_) ?_ ?_
      rotate_left
      focus (intro wS hSw; have qS := SBlk.isScr hSw.x.B; have qL := SBlk.cells hSw.x.B; have qZ := IsScr.lt qS; go_simp; (try with_reducible rfl))
      simp only [st0, st1]
      refine hr_t 19 (v := ?_) ?_ ?_
      rotate_left
      focus (intro wS hSw; have qS := SBlk.isScr hSw.x.B; have qL := SBlk.cells hSw.x.B; have qZ := IsScr.lt qS; go_simp; (try with_reducible rfl))
      simp only [st0, st1]
      refine hr_t 20 (v := ?_) ?_ ?_
      rotate_left
      focus (intro wS hSw; have qS := SBlk.isScr hSw.x.B; have qL := SBlk.cells hSw.x.B; have qZ := IsScr.lt qS; go_simp; (try with_reducible rfl))
      simp only [st0, st1]
      refine hr_done (by kernel_rfl) ?_
      (go_wp2_with fail; go_meet; (case rel => exact ⟨k, R, Y, X, rfl, rfl, hHeld, HRU.out, HRF.out.mono (fun b hb => Nat.le_trans (Nat.succ_le_of_lt hbs.out.2) hb), HUS.out, HRX.out.1, HRX.out.2.1, HRX.out.2.2.1, HRX.out.2.2.2⟩))
    case rest =>
      obtain ⟨k, R, Y, X, rfl, rfl, hX, hRv, hRf, hUS, hsh, hY, hXq, hl⟩ := hcut
      obtain ⟨A7, c7, rfl, hc7⟩ := hRv.1.len
      obtain ⟨hgw, m, hgm, hgg⟩ := rz_gone (h := h) hl HH.out.2 hY
      have HC7 := Lib.hid hc7
      have HRV := Lib.hid hRv
      have HRF := Lib.hid hRf
      have HUS := Lib.hid hUS
      have HRX := Lib.hid (And.intro hsh (And.intro hY (And.intro hXq hl)))
      have HGN := Lib.hid (show min (R.length - h) Y ≤ R.length by omega)
      clear hRv hRf hUS hsh hY hXq hl hc7
      go_upto_region 9 with fail
      clear hgw hgm hgg
      obtain ⟨gone, hgone⟩ : ∃ g, min (R.length - h) Y = g := ⟨_, rfl⟩
      rw [hgone]
      replace HGN : Hid (gone ≤ R.length) := Lib.hid (hgone ▸ HGN.out)
      have HGE := Lib.hid hgone
      clear hgone
      obtain ⟨A9, hA9, hrun, hcut9⟩ := slice0 (E := encR) (P := Tryz.prog) 22 64 Tryz.underlying22 (by kernel_rfl) A7 R.length c7 gone HGN.out HC7.out
      have HR9 : Hid (RdR wc (.slice A9 gone c7) (R.take gone)) := Lib.hid ⟨hcut9 wc _ HRV.out.1, fun r hr => HRV.out.2 r (List.mem_of_mem_take hr)⟩
      have HF9 := Lib.hid (rz_part (n' := gone) (c' := c7) HRV.out HRF.out (Nat.lt_of_le_of_lt (Nat.zero_le _) HRX.out.2.1) hA9 (M := R.take gone) (fun r hr => List.mem_of_mem_take hr))
      have HLL := Lib.hid (rz_kept HO.out)
      have HTL : Hid ((R.take gone).length ≤ 100000) := Lib.hid (by rw [List.length_take]; have := HRX.out.2.2.2; omega)
      have HBX := Lib.hid hX.sz
      have hN := hX.drew
      clear hcut9 hA9
      go_upto_region 9 with fail
      have rS := SBlk.isScr hX.x.B; have rL := SBlk.cells hX.x.B; have rZ := IsScr.lt rS
      refine hr_start (S := (fun _ => True)) (by kernel_rfl) rfl ?_ (fun hHeld => ?_)
      · ((try dsimp only); (try exact trivial))
      refine hr_t 0 (v := ?_) ?_ ?_
      rotate_left
      focus (intro wS hSw; skip; go_simp; (try with_reducible rfl))
      simp only [st0, st1]
      refine hr_t 2 (v := ?_) ?_ ?_
      rotate_left
      focus (intro wS hSw; skip; go_simp; (try with_reducible rfl))
      simp only [st0, st1]
      refine hr_t 3 (v := ?_) ?_ ?_
      rotate_left
      focus (intro wS hSw; skip; go_simp; (try with_reducible rfl))
      simp only [st0, st1]
      refine hr_t 4 (v := ?_) ?_ ?_
      rotate_left
      focus (intro wS hSw; skip; go_simp; (try with_reducible rfl))
      simp only [st0, st1]
      refine hr_o 1 (fun K hK => ?_)
      (have qS := SBlk.isScr hN.x.B; have qL := SBlk.cells hN.x.B; have qZ := IsScr.lt qS; go_simp; clear qS qL qZ)
      refine hK.out _ _ ?_ (fun hHeld => ?_)
      · ((try dsimp only); (try exact trivial))
      clear hK K
      simp only [st0, st1]
      refine hr_o 5 (fun K hK => ?_)
      (try go_simp)
      ((with_reducible refine (push_cL (.slice s.kA s.kn s.kc) (.slice A9 gone c7) s.kp L (R.take gone) _ hN.kept (HR9.out.below (Below.drew (Below.refl _ _))) HLL.out.1 HTL.out HLL.out.2).mono ?_); rintro e w3 ⟨v3, rfl, hg, hv3, hf3⟩; obtain ⟨A3, c3, rfl, hc3⟩ := hv3.1.len; have hzn := hN.sz; replace hN := hN.below hg)
      (try go_wp2_with fail)
      refine hK.out _ _ ?_ (fun hHeld => ?_)
      · ((try dsimp only); (try exact trivial))
      clear hK K
      simp only [st0, st1]
      refine hr_t 6 (v := ?_) ?_ ?_
      rotate_left
      focus (intro wS hSw; skip; go_simp; (try with_reducible rfl))
      simp only [st0, st1]
      refine hr_op0 (i := 7) rfl (by kernel_rfl) (by kernel_rfl) (fun K hK => ?_)
      have qS := SBlk.isScr hN.x.B; have qL := SBlk.cells hN.x.B; have qZ := IsScr.lt qS
      (try go_simp)
      clear qS qL qZ
      (generalize hW4 : World.setCell _ _ _ = W4; have hW4X := hW4; have hN2 : WS w.heap.size (w.heap.size + 1) 2 ⟨s, F, zs, L⟩ w W4 ⟨{ s with kA := A3, kn := _, kc := c3 }, F, zs, _⟩ := hW4 ▸ hN.cell2 (by omega) 21 22 _ _ (fun v => v.hist hv3 ((hf3 _ hX.v.out.2.2 (HF9.out.mono fun b hb => .inr hb)).mono (out_since (by omega))) (fun P hP => (hf3 _ (hX.v.gen P hP).2.2 (HF9.out.mono fun b hb => .inr (by omega))).mono (gen_since (k := 2) (by omega)))) rfl; have hRV4 : RdR W4 (.slice A7 R.length c7) R := hW4X ▸ out_set (out_set ((HRV.out.below (Below.drew (Below.refl _ _))).below hg) (HRF.out.mono fun b hb => .inr hb) (Nat.le_refl _) (by omega)) (HRF.out.mono fun b hb => .inr hb) (Nat.le_refl _) (by omega); clear hW4 hW4X)
      (try go_wp2_with fail)
      refine hK.out _ ?_ (fun hHeld => ?_)
      · ((try dsimp only); (try exact trivial))
      clear hK K
      refine hr_done (by kernel_rfl) ?_
      have hz4 := hN2.sz
      have HV4 := Lib.hid hRV4
      have HX2 := Lib.hid hN2
      have HB4 : Hid (w.heap.size + 2 ≤ W4.heap.size) := Lib.hid (by omega)
      have hkn : s.kn = L.length := rz_kn HR.out
      clear hN2 hN hv3 hf3 hRV4 hzn hg hc3 rS rL rZ hX hrun
      obtain ⟨A10, hA10, hrun, hcut10⟩ := slice1 (E := encR) (P := Tryz.prog) 22 64 Tryz.underlying22 (by kernel_rfl) A7 R.length c7 gone HGN.out HC7.out
      have HR10 : Hid (RdR W4 (.slice A10 (R.length - gone) (c7 - gone)) (R.drop gone)) := Lib.hid ⟨hcut10 W4 _ HV4.out.1, fun r hr => HV4.out.2 r (List.mem_of_mem_drop hr)⟩
      have HNR : Hid (∀ r ∈ R, r.n = q) := Lib.hid (rz_n HO.out HUS.out.hi HWN.out HRX.out.1)
      obtain ⟨i3, hi3, hz3, hs3, hb3⟩ := row_parts
      have HI3 := Lib.hid hi3
      have HZ3 := Lib.hid hz3
      have HS3 := Lib.hid hs3
      have HB3 := Lib.hid hb3
      have HLR : Hid (R.length ≤ 100000) := Lib.hid HRX.out.2.2.2
      clear hcut10 hA10 hi3 hz3 hs3 hb3 hz4
      go_upto_region 11 with (refine wpList_make_own W4 rfl _ _ _ rfl W4.heap.size 64 i3 _ 4 Tryz.underlying22 HI3.out HZ3.out HS3.out _ _ (h : Int) h rfl rfl rfl (by rw [HB3.out]; have := HH.out.2; omega) (by unfold maxLen; have := HH.out.2; omega) (Nat.le_refl _) ?_; intro w5 hown5 hg5)
      have HL5 : Hid (RzL (w.heap.size + 2) W4 (.slice (some ⟨W4.heap.size, 0, none⟩) 0 h) [] w5) := Lib.hid (RzL.start hown5 hg5)
      clear hown5 hg5 hX
      go_upto_region 12 with fail
      obtain ⟨D, hD⟩ : ∃ D, R.drop gone = D := ⟨_, rfl⟩
      obtain ⟨n, hn⟩ : ∃ n, R.length - gone = n := ⟨_, rfl⟩
      have HDn : Hid (D.length = n) := Lib.hid (by rw [← hD, List.length_drop, hn])
      rw [hn, hD] at HR10
      rw [hn]
      have HDD := Lib.hid hD
      have HDR : Hid (∀ r ∈ D, r ∈ R) := Lib.hid (fun r hr => List.mem_of_mem_drop (hD ▸ hr))
      have HNL : Hid (n ≤ 100000) := Lib.hid (by have := HLR.out; omega)
      have HNN := Lib.hid hn
      clear hD hn hrun
      go_loopw [11, 75] (fun v i wz => ∃ (j : Nat), i = .int .i64 (j : Int) ∧ j ≤ n ∧ Hid (RzL (w.heap.size + 2) W4 v (D.take (min j h)) wz)) (fun _ i _ => n - (intOf i).toNat)
      case atStart => exact ⟨0, rfl, Nat.zero_le _, by rw [Nat.zero_min, List.take_zero]; exact HL5⟩
      case round =>
        obtain ⟨j, rfl, hj, HL⟩ := hrel
        by_cases hjn : j < n
        · have hjI : (j : Int) < (n : Int) := Int.ofNat_lt.2 hjn
          have hjD : j < D.length := by rw [HDn.out]; exact hjn
          obtain ⟨b, o, rfl, hb, hat, hok⟩ := (HR10.out.below HL.out.bl).at_ hjD
          have HFR := Lib.hid (HL.out.old HV4.out HRF.out (HDR.out _ (List.getElem_mem hjD)) (by rw [HNR.out _ (HDR.out _ (List.getElem_mem hjD))]; exact HQ.out.1))
          have HNX : Hid (j < h → D.take (min (j + 1) h) = D.take (min j h) ++ [D[j]]) := Lib.hid (rz_next hjD)
          generalize D[j] = r at hat hok HFR HNX
          obtain ⟨p0, p1, p2, p3⟩ := hat
          obtain ⟨A11, c11, hu11, -⟩ := HL.out.own.rd.len
          have hlen := rz_min (h := h) HDn.out hj
          rw [hlen] at hu11
          by_cases hjh : j < h
          · have hmj : min j h = j := Nat.min_eq_left (Nat.le_of_lt hjh)
            rw [hmj] at hu11 HL hlen
            rw [hmj] at HNX
            have hjhI : (j : Int) < (h : Int) := Int.ofNat_lt.2 hjh
            have HNY := Lib.hid (HNX.out hjh)
            subst hu11
            have HLN := Lib.hid hlen
            generalize D.take j = Dj at HL HLN HNY
            clear HNX hmj hlen hok
            go_upto_region 14 with fail
            generalize hwb : wr.alloc _ = wx
            have HLx : Hid (RzL (w.heap.size + 2) W4 (.slice A11 j c11) Dj wx) := Lib.hid (by rw [← hwb]; exact HL.out.alloc _)
            have HFx := Lib.hid (HFR.out.below (show Below wr.heap.size wr wx by rw [← hwb]; exact (Below.refl _ _).alloc (Nat.le_refl _) _))
            have hB9 : Blk wx wr.heap.size 64 #[.slice r.A r.n r.cap, .bool r.wb, .int .i64 r.dir, .bool r.ex] := by rw [← hwb]; exact Blk.new _ _ _
            obtain ⟨q0, q1, q2, q3, qf, ql⟩ := hB9.facts4
            have HJB := Lib.hid (show Dj.length + 1 ≤ 100001 by rw [HLN.out]; have := HNL.out; omega)
            have HJN := Lib.hid hjn
            have hwj := rz_wrap (Nat.le_of_lt hjn) HNL.out
            clear hwb p0 p1 p2 p3 HL HFR hB9 hjD hjn hj hb hjh
            go_wp2_with (at_builtin; refine wpList_append_X encR rfl _ _ _ rfl W4.heap.size 64 48 i3 _ Tryz.underlying22 HI3.out HZ3.out HS3.out HB3.out rfl _ _ Dj [r] rfl rfl (HLx.out.alloc _).own (rdX_one (E := encR) _ _ r _ _ rfl (by simp)) (rz_m63 HJB.out) (rz_m47 HJB.out) (by rw [World.size_alloc]; exact Nat.le_succ_of_le HLx.out.bl.size) ?_; intro v6 w6 hv6 hgb hor)
            have hL6 : RzL (w.heap.size + 2) W4 v6 (Dj ++ [r]) w6 := (HLx.out.alloc _).app (fun r' hr' => by obtain rfl := List.mem_singleton.1 hr'; exact HFx.out.below ((Below.refl _ _).alloc (Nat.le_refl _) _)) hv6 hgb hor
            go_roundw
            case rel => exact ⟨j + 1, by rw [hwj]; rfl, HJN.out, Lib.hid (by rw [HNY.out]; exact hL6)⟩
            case measure =>
              rw [hwj]
              exact rz_meas HJN.out
          · have hmj : min j h = h := Nat.min_eq_right (Nat.le_of_not_lt hjh)
            have HSM := Lib.hid (rz_same (D := D) hjh)
            rw [hmj] at hu11 HL
            subst hu11
            have HJN := Lib.hid hjn
            have HSX : Hid (D.take (min (j + 1) h) = D.take h) := Lib.hid (by rw [HSM.out, hmj])
            have hwj := rz_wrap (Nat.le_of_lt hjn) HNL.out
            clear hmj hlen hok HNX HFR hjn hj hjD hjh
            go_upto_region 14 with fail
            generalize hwb : wr.alloc _ = wx
            have HLx : Hid (RzL (w.heap.size + 2) W4 (.slice A11 h c11) (D.take h) wx) := Lib.hid (by rw [← hwb]; exact HL.out.alloc _)
            clear hwb p0 p1 p2 p3 hb HL
            go_wp2_with fail
            go_roundw
            case rel => exact ⟨j + 1, by rw [hwj]; rfl, HJN.out, Lib.hid (by rw [HSX.out]; exact HLx.out)⟩
            case measure =>
              rw [hwj]
              exact rz_meas HJN.out
        · obtain rfl : j = n := by omega
          have HLz : Hid (∃ Rs, RzRows R Rs gone q h ∧ RzL (w.heap.size + 2) W4 u11 Rs wr) := Lib.hid ⟨D.take h, HDD.out ▸ RzRows.take, by have := HL.out; rw [rz_minn HDn.out] at this; exact this⟩
          have hjI : ¬ (j : Int) < (j : Int) := by omega
          obtain ⟨wo, rfl⟩ : ∃ wo, wo = wr := ⟨_, rfl⟩
          clear HL hj hjn
          go_upto_region 17 with fail
          go_loopw [11] (fun v wz => ∃ Rs, Hid (RzRows R Rs gone q h) ∧ Hid (RzL (w.heap.size + 2) W4 v Rs wz)) (fun v _ => h - sliceLen v)
          case atStart => obtain ⟨Rs, r1, r2⟩ := HLz.out; exact ⟨Rs, Lib.hid r1, Lib.hid r2⟩
          case round =>
            obtain ⟨Rs, HRR, HL⟩ := hrel
            obtain ⟨A11, c11, hu11, -⟩ := HL.out.own.rd.len
            obtain ⟨l, hl⟩ : ∃ l, Rs.length = l := ⟨_, rfl⟩
            rw [hl] at hu11
            subst hu11
            have HLL2 := Lib.hid hl
            clear hl
            by_cases hlh : l < h
            · have hlI : (l : Int) < (h : Int) := Int.ofNat_lt.2 hlh
              have HLH := Lib.hid hlh
              clear hlh
              have HJB : Hid (Rs.length + 1 ≤ 100001) := Lib.hid (by rw [HLL2.out]; have := HLH.out; have := HH.out.2; omega)
              go_wp2_with (first | (go_at_call 96; (with_reducible refine (new_c (q : Int) q 0 0 0 _ HQQ.out).mono ?_); rintro e w6 ⟨b2, rfl, hb0, hb2, ho⟩; have HN6 := Lib.hid (rz_new HL.out hb0 hb2 ho HQ.out.2 HB4.out); clear hb0 hb2 ho) | (at_builtin; refine wpList_append_X encR rfl _ _ _ rfl W4.heap.size 64 48 i3 _ Tryz.underlying22 HI3.out HZ3.out HS3.out HB3.out rfl _ _ Rs [newRw b2 q 0 0 0] rfl rfl (HN6.out.1.alloc _).own (rdX_one (E := encR) _ _ (newRw b2 q 0 0 0) _ _ rfl (by simp)) (rz_m63 HJB.out) (rz_m47 HJB.out) (by rw [World.size_alloc]; exact Nat.le_succ_of_le HN6.out.1.bl.size) ?_; intro v7 w7 hv7 hgb hor))
              have hL7 : RzL (w.heap.size + 2) W4 v7 (Rs ++ [newRw b2 q 0 0 0]) w7 := (HN6.out.1.alloc _).app (fun r' hr' => by obtain rfl := List.mem_singleton.1 hr'; exact HN6.out.2.below ((Below.refl _ _).alloc (Nat.le_refl _) _)) hv7 hgb hor
              go_roundw
              case rel => exact ⟨_, Lib.hid (HRR.out.more (by rw [HLL2.out]; exact HLH.out) (ct_new b2 q 0 0 0)), Lib.hid hL7⟩
              case measure => exact rz_meas2 hL7 HLL2.out HLH.out
            · have HLH := Lib.hid hlh
              have hlI : ¬ (l : Int) < (h : Int) := by omega
              clear hlh
              obtain ⟨hlh2, hrows⟩ := HRR.out.all (by rw [HLL2.out]; exact HLH.out)
              obtain rfl : l = h := HLL2.out.symm.trans hlh2
              obtain ⟨F5, hF5⟩ : ∃ F5 : Nat → Rw, F5 = fun i => Rs.getD i nilRz := ⟨_, rfl⟩
              have HRW : Hid (∀ i, i < l → ct (F5 i) = rzG R gone q i) := Lib.hid (by rw [hF5]; exact hrows)
              have hN5 := HX2.out.below HL.out.bl
              have hrd5 : RdR wr (.slice A11 l c11) (listG l (fun i => Rs.getD i nilRz)) := by
                have := HL.out.rd
                have e := listG_getDz Rs
                rw [hlh2] at e
                rw [e]
                exact this
              have hft5 : Ft (w.heap.size + 2 ≤ ·) (.slice A11 l c11) (listG l (fun i => Rs.getD i nilRz)) := by
                have := HL.out.ft HB4.out
                have e := listG_getDz Rs
                rw [hlh2] at e
                rw [e]
                exact this
              rw [← hF5] at hrd5 hft5
              clear hrows hlh2 hF5
              have hz5 := hN5.sz
              have rS := SBlk.isScr hN5.x.B; have rL := SBlk.cells hN5.x.B; have rZ := IsScr.lt rS
              go_upto_region 20 with fail
              clear rS rL rZ
              generalize hW6 : World.setCell _ _ _ = W6
              have hN6 : WS w.heap.size (w.heap.size + 1) 2 ⟨s, F, zs, L⟩ w W6 ⟨{ s with kA := A3, kn := _, kc := c3, gA := A11, gn := l, gc := c11 }, F5, zs, _⟩ := hW6 ▸ hN5.cell (by omega) 0 _ (fun v => v.grid hrd5 (hft5.mono fun b hb => .inr hb) (fun P _ => hft5.mono fun b hb => .inr (by omega))) rfl
              clear hW6 hN5 hrd5 hft5 hz5 HX2
              have rS := SBlk.isScr hN6.x.B; have rL := SBlk.cells hN6.x.B; have rZ := IsScr.lt rS
              go_upto_region 21 with (first | (go_at_call 97; (with_reducible refine (cresize_i s F zs L l q _ HO.out HH.out HQ.out).mono ?_); rintro e w7 ⟨x1, y1, rfl, hg7⟩; have hN7 := hN6.below hg7.below; clear rS rL rZ; have rS := SBlk.isScr hN7.x.B; have rL := SBlk.cells hN7.x.B; have rZ := IsScr.lt rS))
              clear rS rL rZ
              generalize hW8 : World.setCell _ _ _ = W8
              have hO8 : Only w.heap.size w7 W8 := by
                rw [← hW8]
                iterate 18 (with_reducible refine Only.set ?_ _ _)
                exact Only.refl _ _
              have hB8 : SBlk W8 w.heap.size { s with kA := A3, kn := (pushL L s.kp.toNat (R.take gone)).length, kc := c3, gA := A11, gn := l, gc := c11, x := x1, y := y1, wr := false, og := false, H := (l : Int), W := (q : Int), T := 0, B := (l : Int) } := by rw [← hW8]; exact rez_blk hN7.x.B
              have hN8 : WS w.heap.size (w.heap.size + 1) 2 ⟨s, F, zs, L⟩ w W8 ⟨{ s with kA := A3, kn := (pushL L s.kp.toNat (R.take gone)).length, kc := c3, gA := A11, gn := l, gc := c11, x := x1, y := y1, wr := false, og := false, H := (l : Int), W := (q : Int), T := 0, B := (l : Int) }, F5, zs, _⟩ := hN7.upd (by omega) hO8 hB8 (fun v => ⟨v.rd, v.out, v.gen⟩)
              clear hW8 hO8 hB8 hN7 hN6 hg7
              have hyg := rz_yg (h := l) HGE.out HRX.out.2.1 HLR.out
              have rS := SBlk.isScr hN8.x.B; have rL := SBlk.cells hN8.x.B; have rZ := IsScr.lt rS
              go_upto_region 22 with fail
              clear rS rL rZ
              generalize hW9 : World.setCell _ _ _ = W9
              have hN9 : WS w.heap.size (w.heap.size + 1) 2 ⟨s, F, zs, L⟩ w W9 ⟨{ s with kA := A3, kn := (pushL L s.kp.toNat (R.take gone)).length, kc := c3, gA := A11, gn := l, gc := c11, x := (X : Int), y := ((Y - gone : Nat) : Int), wr := false, og := false, H := (l : Int), W := (q : Int), T := 0, B := (l : Int) }, F5, zs, pushL L s.kp.toNat (R.take gone)⟩ := by rw [← hW9]; exact hN8.cell2 (by omega) 2 1 (.int .i64 ((Y - gone : Nat) : Int)) (.int .i64 (X : Int)) (fun v => ⟨v.rd, v.out, v.gen⟩) rfl
              clear hW9 hN8 hyg
              have hz9 := hN9.sz
              have HZ9 := Lib.hid hz9
              have HST : Hid (zs.length ≤ 60000) := Lib.hid (by have := HO.out.stops; dsimp only [Sn.md] at this; omega)
              have HTB : Hid (Tab.tsaneB s.tw zs = true) := Lib.hid HO.out.tb
              have rS := SBlk.isScr hN9.x.B; have rL := SBlk.cells hN9.x.B; have rZ := IsScr.lt rS
              go_upto_region 23 with (first | (go_at_call 98; go_loud ((with_reducible refine (Tab.resize_o (.slice s.tA s.tn s.tc) s.tw (q : Int) (q : Int) zs _ hN9.stops HST.out HTB.out HQQ.out).mono ?_); rintro e w10 ⟨v10, c10, k10, rfl, hg10, hrd10, hc10, hn10, hk10, hft10⟩; obtain ⟨A12, c12, rfl, -⟩ := id hrd10; have HTS := Lib.hid (Tab.resize_sane HTB.out HQ4.out hc10 hk10); generalize zs.filter (fun z => decide (z < (q : Int))) ++ Tab.eights c10 k10 = zs10 at hrd10 HTS hft10 ⊢; clear hc10 hn10 hk10; have hN10 := hN9.below hg10; clear rS rL rZ; have rS := SBlk.isScr hN10.x.B; have rL := SBlk.cells hN10.x.B; have rZ := IsScr.lt rS)))
              clear rS rL rZ
              generalize hW11 : World.setCell _ _ _ = W11
              have hN11 : WS w.heap.size (w.heap.size + 1) 2 ⟨s, F, zs, L⟩ w W11 ⟨{ s with kA := A3, kn := (pushL L s.kp.toNat (R.take gone)).length, kc := c3, gA := A11, gn := l, gc := c11, x := (X : Int), y := ((Y - gone : Nat) : Int), wr := false, og := false, H := (l : Int), W := (q : Int), T := 0, B := (l : Int), tA := A12, tn := zs10.length, tc := c12, tw := (q : Int) }, F5, zs10, pushL L s.kp.toNat (R.take gone)⟩ := by rw [← hW11]; exact hN10.cell2 (by omega) 19 20 (.slice A12 zs10.length c12) (.int .i64 (q : Int)) (fun v => v.tabs hrd10 (fun _ b o n c e => .inr (Nat.le_trans (Nat.succ_le_of_lt HZ9.out.2) (hft10 b o n c e))) (fun P _ _ b o n c e => .inr (Nat.le_trans (Nat.le_of_lt HZ9.out.1) (hft10 b o n c e)))) rfl
              clear hW11 hN10 hN9 hft10
              have hz11 := hN11.sz
              have HFIN := Lib.hid (And.intro HUS.out (And.intro HRX.out (And.intro HGE.out (And.intro HRW.out HTS.out))))
              go_wp2_with (first | (refine hN11.wload rfl rfl rfl ?_) | (refine hN11.wstore hN11.v (by rfl) (by rfl) (by rfl) (by rfl) (by rfl) ?_)); exact bodyPost_ret (results_scr rfl rfl (hN11.res hN11.v)) rfl (hN11.fin hN11.v (by omega) (by exact rz_fin (A3 := A3) (A11 := A11) (A12 := A12) (c3 := c3) (c11 := c11) (c12 := c12) (tn := zs10.length) HFIN.out))
end Go.Proofs.YtlchffkabpfjpaaGreat.Scr
