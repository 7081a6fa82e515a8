/- lapwinglaw15.ScreenLetters. -/
import Derived.Test.YtlchffkabpfjpaaLttQ
import Derived.BigQuiet
namespace Go.Proofs.Ytlchffkabpfjpaa.Scr
open Go.RowKit Go.Proofs.Ytlchffkabpfjpaa.Row
attribute [local go_sem ↓] scr_load_pre scr_store_pre
attribute [local go_sem] scr_cell scr_frozen
theorem ltt_sz {S : Sn} {n q k : Nat} {kp : Int} {a : Nat → Int} (h : S.md = prMd (n + 1) q kp a k) (hn : n ≤ 60) (hq : q ≤ 17) : S.s.gn * S.s.W.toNat ≤ 90000 := by
  have e1 : S.s.gn = n + 1 := congrArg Md.n h
  have e2 : S.s.W = (q : Int) := congrArg Md.W h
  rw [e1, e2, Int.toNat_natCast]
  exact Nat.le_trans (Nat.mul_le_mul (show n + 1 ≤ 61 by omega) hq) (by decide)
theorem blk_gnl {S : Sn} (h : S.md.Ok) : S.s.gn ≤ 1000 := by
  have h1 := h.nH
  have h2 := h.cf.h2
  have e : S.md.n = S.s.gn := rfl
  omega
open BigFrame in
theorem wpList_scr_load_w {w : World} {ops : Array Oper} {rest : List Oper} {o : Oper} {a : Act} {Q : Exit → Act → World → Prop} {g : Nat} {s : Sc} {x : Operand} (h : SBlk w g s) (ho : o.op = .load 41 x) (hw : Region.wanted o (yielded ops a.tmps) = true) (hx : a.eval x = .pointer (some ⟨g, 0, none⟩)) (hk : wpList Try.prog ops Q rest (a.put o.dst (.agg #[.slice s.gA s.gn s.gc, .int .i64 s.x, .int .i64 s.y, .bool s.wr, .bool s.og, .int .i64 s.fg, .int .i64 s.bg, .int .i64 s.fl, .int .u8 s.g0, .int .u8 s.g1, .int .u8 s.g2, .int .u8 s.g3, .int .i64 s.gl, .int .i64 s.gr, .int .i64 s.on, .int .i64 s.H, .int .i64 s.W, .int .i64 s.T, .int .i64 s.B, .slice s.tA s.tn s.tc, .int .i64 s.tw, .slice s.kA s.kn s.kc, .int .i64 s.kp, .int .i64 s.dir, .bool s.ex])) w) : wpList Try.prog ops Q (o :: rest) a w :=
  wpList_want hw fun _ hK => wp_scr_load h ho hx (hK _ _ hk)
set_option maxRecDepth 100000 in
set_option maxHeartbeats 4000000 in
theorem letters_law (x : Value) (l : List Int) (z1 z2 : Int) (w : World) (hx : RdI w x l) : Calls Try.prog 5 #[x, .int .i64 z1, .int .i64 z2] w fun e w' => e = .returned (.bool true) ∧ Grew w w' := by
  obtain ⟨A, c, rfl, hcell⟩ := id hx
  have b1 : bits .and .i64 z1 15 = z1 % 16 := and_mask 4 (by omega) z1
  have b2 : bits .and .i64 z2 31 = z2 % 32 := and_mask 5 (by omega) z2
  obtain ⟨q, hq⟩ : ∃ q : Nat, 2 + z1 % 16 = (q : Int) := ⟨(2 + z1 % 16).toNat, by omega⟩
  obtain ⟨q2, hq2⟩ : ∃ q : Nat, 2 + z2 % 32 = (q : Int) := ⟨(2 + z2 % 32).toNat, by omega⟩
  have HQ := Lib.hid (show 2 ≤ q ∧ 1 ≤ q ∧ q ≤ 17 by omega)
  have HQ2 := Lib.hid (show 2 ≤ q2 ∧ q2 ≤ 33 by omega)
  obtain ⟨m, hm⟩ : ∃ m, l.length = m := ⟨_, rfl⟩
  rw [hm] at hx
  have HX := Lib.hid hx
  have HM := Lib.hid hm
  have HCL := Lib.hid hcell
  rw [hm]
  clear hx hm hcell
  by_cases hl : 60 < m
  · have hlI : (60 : Int) < m := by omega
    go_enter Try.func5, Try.ntmps5
    go_wp2_with (first | ((with_reducible refine (awake15_c _).mono ?_); rintro e w0 ⟨rfl, hg0⟩))
    refine bodyPost_ret (v := .bool true) (by simp [results, Try.results5, go_sem]) rfl ⟨rfl, hg0⟩
  · have hlI : ¬ (60 : Int) < m := by omega
    have HML := Lib.hid (show m ≤ 60 by omega)
    have HNM : Hid (max 1 (min ((m : Int) + 1) 1000) = ((m + 1 : Nat) : Int)) := Lib.hid (by omega)
    have HQM : Hid (max 1 (min (q : Int) 4096) = (q : Int)) := Lib.hid (by have := HQ.out; omega)
    have HQM2 : Hid (max 1 (min (q2 : Int) 4096) = (q2 : Int)) := Lib.hid (by have := HQ2.out; omega)
    obtain ⟨i3, hi3, hz3, hs3, hb3⟩ := int_partsL
    have HI3 := Lib.hid hi3
    have HZ3 := Lib.hid hz3
    have HS3 := Lib.hid hs3
    have HB3 := Lib.hid hb3
    clear hl hi3 hz3 hs3 hb3
    go_enter Try.func5, Try.ntmps5
    go_upto_region 5 with (first | ((with_reducible refine (awake15_c _).mono ?_); rintro e w0 ⟨rfl, hg0⟩) | ((with_reducible refine (New_c ((m : Int) + 1) (q : Int) 200 (m + 1) q _ HNM.out HQM.out).mono ?_); rintro e w1 ⟨S, rfl, hg1, hrd1, hmd1, -⟩) | (refine wpList_scr_store S.s ⟨_, Blk.new _ _ _, rfl⟩ rfl rfl rfl rfl rfl ?_))
    generalize hW5 : World.setRow _ _ _ = W5
    have hP : PV w w1.heap.size none (prMd (m + 1) q 200 (ltA l) 0) W5 S := by rw [← hW5]; exact PV.start (hg0.below.trans (hg1.mono hg0.below.size)) hrd1 (hmd1.trans (pr_start (m + 1) q 200 (ltA l)))
    clear hW5 hg1 hrd1 hmd1 hg0
    generalize w1.heap.size = gs at *
    generalize (.agg #[.slice S.s.gA S.s.gn S.s.gc, .int .i64 S.s.x, .int .i64 S.s.y, .bool S.s.wr, .bool S.s.og, .int .i64 S.s.fg, .int .i64 S.s.bg, .int .i64 S.s.fl, .int .u8 S.s.g0, .int .u8 S.s.g1, .int .u8 S.s.g2, .int .u8 S.s.g3, .int .i64 S.s.gl, .int .i64 S.s.gr, .int .i64 S.s.on, .int .i64 S.s.H, .int .i64 S.s.W, .int .i64 S.s.T, .int .i64 S.s.B, .slice S.s.tA S.s.tn S.s.tc, .int .i64 S.s.tw, .slice S.s.kA S.s.kn S.s.kc, .int .i64 S.s.kp, .int .i64 S.s.dir, .bool S.s.ex] : Value) = V0
    have HSW := Lib.hid hP.bl.size
    go_upto_region 7 with fail
    go_loopw [9, 10] (fun v i wz => ∃ (k : Nat) (S : Sn), i = .int .i64 k ∧ k ≤ m ∧ Hid (W5.heap.size ≤ wz.heap.size) ∧ Hid (OwnI wz W5.heap.size 3 v ((List.range k).map (ltA l))) ∧ Hid (PV w gs v.ownBlock (prMd (m + 1) q 200 (ltA l) k) wz S)) (fun _ i _ => m - (intOf i).toNat)
    case atStart => exact ⟨0, S, rfl, Nat.zero_le _, Lib.hid (Nat.le_refl _), Lib.hid (OwnI.nil _ _ _), Lib.hid hP⟩
    case round =>
      obtain ⟨k, S1, rfl, hk, HSZ, HV, HP⟩ := hrel
      by_cases hlt : k < m
      · have hkI : (k : Int) < m := Int.ofNat_lt.2 hlt
        obtain ⟨bl, ol, rfl, hbl, hcl⟩ := HCL.out (by rw [HM.out]; omega)
        have hat := rdI_atx (HX.out.below (HP.out.bl.mono (Nat.le_refl _))) (show k < l.length by rw [HM.out]; exact hlt)
        have HLT := Lib.hid (show 33 + l.getD k 0 % 64 = ltA l k from rfl)
        generalize l.getD k 0 = Z at hat HLT
        --<1
        have hlb : bl < wr.heap.size := Nat.lt_of_lt_of_le hbl HP.out.bl.size
        have hbg : bl ≠ gs := Nat.ne_of_lt (Nat.lt_of_lt_of_le hbl HP.out.hg)
        have hdr : Below wr.heap.size wr wr.drew := Below.drew (Below.refl _ _)
        have hPd := HP.out.below hdr
        have hNB : SBlk wr.drew gs S1.s := hPd.B
        have hatd : wr.drew.cell? ⟨bl, ol + k, none⟩ = some (.int .i64 (Z)) := hat
        have HOB : Hid (∀ b, u9.ownBlock = some b → b < wr.drew.heap.size) := Lib.hid (fun b hb => (HV.out.lt hb).2)
        have HO : Hid S1.md.Ok := Lib.hid (by rw [HP.out.md]; exact ltA_ok l (Nat.succ_pos m) (by have := HML.out; omega) HQ.out.2.1 (by have := HQ.out; omega) (by omega) (by omega) k (by have := HML.out; omega))
        have HKQ := Lib.hid (show k / q < m + 1 from Nat.lt_of_le_of_lt (Nat.div_le_self _ _) (by omega))
        have hwr : IntKind.i64.wrap (33 + Z % 64) = 33 + Z % 64 := IntWalk.i64_in _ (by omega)
        have hmk : bits .and .i64 (Z) 63 = Z % 64 := and_mask 6 (by omega) _
        have HKM := Lib.hid hlt
        have HBL := Lib.hid hbl
        clear hlt hk hcl hP
        go_upto_region 9 with fail
        refine hr_start (S := (fun w' => w'.cell? ⟨bl, ol + k, none⟩ = some (.int .i64 Z))) (by kernel_rfl) rfl ?_ (fun hHeld => ?_)
        · ((try dsimp only); (first | exact hatd | exact hHeld | exact (Below.cell (p := ⟨bl, ol + k, none⟩) hg5 hlb).trans hHeld | (show World.cell? _ _ = _; unfold World.cell?; rw [setRow_other _ _ _ _ hbg]; exact hHeld)))
        refine hr_take (i := 1) rfl rfl (by kernel_rfl) (by kernel_rfl) (by kernel_rfl) (by kernel_rfl) (fun _ _ _ h => h) (v := ?_) ?_ (by assumption) ?_
        rotate_left
        focus (intro wS hSw; skip; go_simp; (try with_reducible rfl))
        simp only [List.set_cons_zero, List.set_cons_succ]
        refine hr_take (i := 2) rfl rfl (by kernel_rfl) (by kernel_rfl) (by kernel_rfl) (by kernel_rfl) (fun _ _ _ h => h) (v := ?_) ?_ (by assumption) ?_
        rotate_left
        focus (intro wS hSw; skip; go_simp; (try with_reducible rfl))
        simp only [List.set_cons_zero, List.set_cons_succ]
        refine hr_take (i := 3) rfl rfl (by kernel_rfl) (by kernel_rfl) (by kernel_rfl) (by kernel_rfl) (fun _ _ _ h => h) (v := ?_) ?_ (by assumption) ?_
        rotate_left
        focus (intro wS hSw; skip; go_simp; (try with_reducible rfl))
        simp only [List.set_cons_zero, List.set_cons_succ]
        refine hr_take (i := 4) rfl rfl (by kernel_rfl) (by kernel_rfl) (by kernel_rfl) (by kernel_rfl) (fun _ _ _ h => h) (v := ?_) ?_ (by assumption) ?_
        rotate_left
        focus (intro wS hSw; skip; go_simp; (try with_reducible rfl))
        simp only [List.set_cons_zero, List.set_cons_succ]
        refine hr_take (i := 5) rfl rfl (by kernel_rfl) (by kernel_rfl) (by kernel_rfl) (by kernel_rfl) (fun _ _ _ h => h) (v := ?_) ?_ (by assumption) ?_
        rotate_left
        focus (intro wS hSw; skip; go_simp; (try with_reducible rfl))
        simp only [List.set_cons_zero, List.set_cons_succ]
        refine hr_take (i := 6) rfl rfl (by kernel_rfl) (by kernel_rfl) (by kernel_rfl) (by kernel_rfl) (fun _ _ _ h => h) (v := ?_) ?_ (by assumption) ?_
        rotate_left
        focus (intro wS hSw; skip; go_simp; (try with_reducible rfl))
        simp only [List.set_cons_zero, List.set_cons_succ]
        refine hr_op (i := 0) rfl rfl (by kernel_rfl) (by kernel_rfl) (fun K hK => ?_)
        refine wp_scr_load hNB rfl rfl ?_
        refine hK.out _ _ ?_ (fun hHeld => ?_)
        · ((try dsimp only); (first | exact hatd | exact hHeld | exact (Below.cell (p := ⟨bl, ol + k, none⟩) hg5 hlb).trans hHeld | (show World.cell? _ _ = _; unfold World.cell?; rw [setRow_other _ _ _ _ hbg]; exact hHeld)))
        clear hK K
        simp only [List.set_cons_zero, List.set_cons_succ]
        refine hr_op (i := 7) rfl rfl (by kernel_rfl) (by kernel_rfl) (fun K hK => ?_)
        (try go_simp)
        ((with_reducible refine (pv_print (n := m + 1) (q := q) (kp := 200) (a := ltA l) (k := k) hPd HOB.out HO.out HQ.out.2.1 HKQ.out (by have := ltA_b l k; omega) (by have := ltA_b l k; omega) HLT.out).mono ?_); rintro e w5 ⟨S2, rfl, k1, hP2, hg5⟩)
        (try go_wp2_with fail)
        refine hK.out _ _ ?_ (fun hHeld => ?_)
        · ((try dsimp only); (first | exact hatd | exact hHeld | exact (Below.cell (p := ⟨bl, ol + k, none⟩) hg5 hlb).trans hHeld | (show World.cell? _ _ = _; unfold World.cell?; rw [setRow_other _ _ _ _ hbg]; exact hHeld)))
        clear hK K
        simp only [List.set_cons_zero, List.set_cons_succ]
        refine hr_op0 (i := 8) rfl (by kernel_rfl) (by kernel_rfl) (fun K hK => ?_)
        (refine wp_scr_store S2.s k1.isScr rfl rfl rfl rfl ?_)
        refine hK.out _ ?_ (fun hHeld => ?_)
        · ((try dsimp only); (first | exact hatd | exact hHeld | exact (Below.cell (p := ⟨bl, ol + k, none⟩) hg5 hlb).trans hHeld | (show World.cell? _ _ = _; unfold World.cell?; rw [setRow_other _ _ _ _ hbg]; exact hHeld)))
        clear hK K
        refine hr_done (by kernel_rfl) ?_
        have HV5 : OwnI w5 W5.heap.size 3 u9 ((List.range k).map (ltA l)) := (HV.out.below hdr (Nat.le_refl _)).below hg5 (Nat.le_refl _)
        have HV6 := Lib.hid (ownI_row HV5 #[.slice S2.s.gA S2.s.gn S2.s.gc, .int .i64 S2.s.x, .int .i64 S2.s.y, .bool S2.s.wr, .bool S2.s.og, .int .i64 S2.s.fg, .int .i64 S2.s.bg, .int .i64 S2.s.fl, .int .u8 S2.s.g0, .int .u8 S2.s.g1, .int .u8 S2.s.g2, .int .u8 S2.s.g3, .int .i64 S2.s.gl, .int .i64 S2.s.gr, .int .i64 S2.s.on, .int .i64 S2.s.H, .int .i64 S2.s.W, .int .i64 S2.s.T, .int .i64 S2.s.B, .slice S2.s.tA S2.s.tn S2.s.tc, .int .i64 S2.s.tw, .slice S2.s.kA S2.s.kn S2.s.kc, .int .i64 S2.s.kp, .int .i64 S2.s.dir, .bool S2.s.ex] hPd.ne)
        have HS6 : Hid (W5.heap.size ≤ (w5.setRow gs #[.slice S2.s.gA S2.s.gn S2.s.gc, .int .i64 S2.s.x, .int .i64 S2.s.y, .bool S2.s.wr, .bool S2.s.og, .int .i64 S2.s.fg, .int .i64 S2.s.bg, .int .i64 S2.s.fl, .int .u8 S2.s.g0, .int .u8 S2.s.g1, .int .u8 S2.s.g2, .int .u8 S2.s.g3, .int .i64 S2.s.gl, .int .i64 S2.s.gr, .int .i64 S2.s.on, .int .i64 S2.s.H, .int .i64 S2.s.W, .int .i64 S2.s.T, .int .i64 S2.s.B, .slice S2.s.tA S2.s.tn S2.s.tc, .int .i64 S2.s.tw, .slice S2.s.kA S2.s.kn S2.s.kc, .int .i64 S2.s.kp, .int .i64 S2.s.dir, .bool S2.s.ex]).heap.size) := Lib.hid (Nat.le_trans HSZ.out (Nat.le_trans hg5.size (by simp [World.setRow])))
        have HBO : Hid (∀ b, u9.ownBlock = some b → w.heap.size ≤ b) := Lib.hid (fun b hb => Nat.le_trans HSW.out (HV.out.lt hb).1)
        generalize (.agg #[.slice S1.s.gA S1.s.gn S1.s.gc, .int .i64 S1.s.x, .int .i64 S1.s.y, .bool S1.s.wr, .bool S1.s.og, .int .i64 S1.s.fg, .int .i64 S1.s.bg, .int .i64 S1.s.fl, .int .u8 S1.s.g0, .int .u8 S1.s.g1, .int .u8 S1.s.g2, .int .u8 S1.s.g3, .int .i64 S1.s.gl, .int .i64 S1.s.gr, .int .i64 S1.s.on, .int .i64 S1.s.H, .int .i64 S1.s.W, .int .i64 S1.s.T, .int .i64 S1.s.B, .slice S1.s.tA S1.s.tn S1.s.tc, .int .i64 S1.s.tw, .slice S1.s.kA S1.s.kn S1.s.kc, .int .i64 S1.s.kp, .int .i64 S1.s.dir, .bool S1.s.ex] : Value) = V1
        generalize (.agg #[.slice S2.s.gA S2.s.gn S2.s.gc, .int .i64 S2.s.x, .int .i64 S2.s.y, .bool S2.s.wr, .bool S2.s.og, .int .i64 S2.s.fg, .int .i64 S2.s.bg, .int .i64 S2.s.fl, .int .u8 S2.s.g0, .int .u8 S2.s.g1, .int .u8 S2.s.g2, .int .u8 S2.s.g3, .int .i64 S2.s.gl, .int .i64 S2.s.gr, .int .i64 S2.s.on, .int .i64 S2.s.H, .int .i64 S2.s.W, .int .i64 S2.s.T, .int .i64 S2.s.B, .slice S2.s.tA S2.s.tn S2.s.tc, .int .i64 S2.s.tw, .slice S2.s.kA S2.s.kn S2.s.kc, .int .i64 S2.s.kp, .int .i64 S2.s.dir, .bool S2.s.ex] : Value) = V2
        have HP6 := Lib.hid hP2
        have HH := Lib.hid hHeld
        clear hHeld k1 hg5 hP2 hPd hNB hatd hat hdr HP HV5 HO HOB HKQ hbg hlb
        generalize w5.setRow gs #[.slice S2.s.gA S2.s.gn S2.s.gc, .int .i64 S2.s.x, .int .i64 S2.s.y, .bool S2.s.wr, .bool S2.s.og, .int .i64 S2.s.fg, .int .i64 S2.s.bg, .int .i64 S2.s.fl, .int .u8 S2.s.g0, .int .u8 S2.s.g1, .int .u8 S2.s.g2, .int .u8 S2.s.g3, .int .i64 S2.s.gl, .int .i64 S2.s.gr, .int .i64 S2.s.on, .int .i64 S2.s.H, .int .i64 S2.s.W, .int .i64 S2.s.T, .int .i64 S2.s.B, .slice S2.s.tA S2.s.tn S2.s.tc, .int .i64 S2.s.tw, .slice S2.s.kA S2.s.kn S2.s.kc, .int .i64 S2.s.kp, .int .i64 S2.s.dir, .bool S2.s.ex] = W6 at *
        have hat6 := HH.out
        have HLE : Hid (((List.range k).map (ltA l)).length + [33 + Z % 64].length ≤ 65536) := Lib.hid (by rw [List.length_map, List.length_range, List.length_singleton]; have := HML.out; have := HKM.out; omega)
        have hkw := rz_wrap (Nat.le_of_lt HKM.out) (Nat.le_trans HML.out (by decide))
        go_wp2_with (at_builtin; refine wpList_append_ints rfl _ _ _ rfl W5.heap.size 3 i3 rfl HI3.out HZ3.out HS3.out HB3.out _ _ ((List.range k).map (ltA l)) [33 + Z % 64] rfl rfl (ownI_alloc HV6.out _) (rdI_one _ _ _ _ rfl) HLE.out (Nat.le_trans HS6.out (by simp)) ?_; intro v6 w6 hv6 hgb6 hor6)
        have hP7 : PV w gs v6.ownBlock (prMd (m + 1) q 200 (ltA l) (k + 1)) w6 S2 := (HP6.out.below ((Below.refl _ _).alloc (Nat.le_refl _) _)).gb HBO.out hgb6 hor6
        have hz7 : W5.heap.size ≤ w6.heap.size := Nat.le_trans HS6.out (Nat.le_trans (by simp) hgb6.size)
        go_roundw
        case rel => exact ⟨k + 1, S2, by rw [hkw]; rfl, HKM.out, Lib.hid hz7, Lib.hid (by rw [List.range_succ, List.map_append, List.map_singleton, ← HLT.out]; exact hv6), Lib.hid hP7⟩
        case measure =>
          rw [hkw]
          exact rz_meas HKM.out
        -->1
      · obtain rfl : k = m := by omega
        have HLS : Hid (∃ LS, (List.range k).map (ltA l) = LS ∧ LS.length = k) := Lib.hid ⟨_, rfl, by rw [List.length_map, List.length_range]⟩
        have HP1 := HP
        have HO : Hid S1.md.Ok := Lib.hid (by rw [HP.out.md]; exact ltA_ok l (Nat.succ_pos k) (by have := HML.out; omega) HQ.out.2.1 (by have := HQ.out; omega) (by omega) (by omega) k (by have := HML.out; omega))
        have HZZ : Hid (S1.s.gn * S1.s.W.toNat ≤ 90000) := Lib.hid (ltt_sz HP.out.md HML.out HQ.out.2.2)
        have hkI : ¬ (k : Int) < (k : Int) := by omega
        obtain ⟨wo, rfl⟩ : ∃ wo, wo = wr := ⟨_, rfl⟩
        clear hlt hk hP
        go_upto_region 12 with (first | (refine wpList_scr_load HP.out.B rfl rfl rfl ?_) | ((with_reducible refine (Resize_any S1 ((k : Int) + 1) (q2 : Int) (k + 1) q2 _ HO.out HP.out.rd HNM.out HQM2.out HZZ.out).mono ?_); rintro e w2 ⟨T, rfl, hg2, hrd2, hm2, hf2⟩) | (refine wpList_scr_store T.s ⟨_, Blk.new _ _ _, rfl⟩ rfl rfl rfl rfl rfl ?_))
        generalize hW7 : World.setRow _ _ _ = W7
        have hT7 : SBlk W7 w2.heap.size T.s := by rw [← hW7]; exact setRow_heap _ _ _ _ _ _ (Blk.new _ _ _)
        have hbA : Below w2.heap.size w2 W7 := by rw [← hW7]; exact below_row ((Below.refl _ _).alloc (Nat.le_refl _) _) (Nat.le_refl _) _
        have hR7 : T.rd W7 := by
          rw [← hW7]
          exact (hrd2.below ((Below.refl _ _).alloc (Nat.le_refl _) _)).keep (hrd2.ft.mono fun b hb => Nat.ne_of_lt hb) (Keeps.row _ _ (fun h => h rfl))
        have hT := ltt_t (ltA_b l) (show k ≤ 999 by have := HML.out; omega) HP.out.md HO.out (show 2 ≤ q ∧ q ≤ 4096 by have := HQ.out; omega) (show 2 ≤ q2 ∧ q2 ≤ 4096 by have := HQ2.out; omega) hrd2 hm2
        have HT := Lib.hid hT
        have HV7 := Lib.hid ((HV.out.below hg2 (Nat.le_refl _)).below hbA (Nat.le_refl _))
        have HT7 := Lib.hid hT7
        have HR7 := Lib.hid hR7
        have HB7 : Hid (Below w.heap.size w W7) := Lib.hid (((HP.out.bl.trans (hg2.mono HP.out.bl.size))).trans (hbA.mono (Nat.le_trans HP.out.bl.size hg2.size)))
        clear hW7 hT7 hbA hR7 hg2 hrd2 hm2 hf2 hT HP HP1 HO HZZ HV HSZ
        generalize w2.heap.size = gt at *
        obtain ⟨c3, hc3⟩ : ∃ c, T.s.gn = c := ⟨_, rfl⟩
        have HC := Lib.hid hc3
        generalize (.agg #[.slice T.s.gA T.s.gn T.s.gc, .int .i64 T.s.x, .int .i64 T.s.y, .bool T.s.wr, .bool T.s.og, .int .i64 T.s.fg, .int .i64 T.s.bg, .int .i64 T.s.fl, .int .u8 T.s.g0, .int .u8 T.s.g1, .int .u8 T.s.g2, .int .u8 T.s.g3, .int .i64 T.s.gl, .int .i64 T.s.gr, .int .i64 T.s.on, .int .i64 T.s.H, .int .i64 T.s.W, .int .i64 T.s.T, .int .i64 T.s.B, .slice T.s.tA T.s.tn T.s.tc, .int .i64 T.s.tw, .slice T.s.kA T.s.kn T.s.kc, .int .i64 T.s.kp, .int .i64 T.s.dir, .bool T.s.ex] : Value) = V2
        generalize (.agg #[.slice S1.s.gA S1.s.gn S1.s.gc, .int .i64 S1.s.x, .int .i64 S1.s.y, .bool S1.s.wr, .bool S1.s.og, .int .i64 S1.s.fg, .int .i64 S1.s.bg, .int .i64 S1.s.fl, .int .u8 S1.s.g0, .int .u8 S1.s.g1, .int .u8 S1.s.g2, .int .u8 S1.s.g3, .int .i64 S1.s.gl, .int .i64 S1.s.gr, .int .i64 S1.s.on, .int .i64 S1.s.H, .int .i64 S1.s.W, .int .i64 S1.s.T, .int .i64 S1.s.B, .slice S1.s.tA S1.s.tn S1.s.tc, .int .i64 S1.s.tw, .slice S1.s.kA S1.s.kn S1.s.kc, .int .i64 S1.s.kp, .int .i64 S1.s.dir, .bool S1.s.ex] : Value) = V1
        obtain ⟨LS, hLS, hLl⟩ := HLS.out
        rw [hLS] at HV7
        have HLE := Lib.hid hLS
        have HLL := Lib.hid hLl
        obtain ⟨RW, hRW⟩ : ∃ RW, (listG c3 T.F).map (fun r => listF r.n r.f) = RW := ⟨_, rfl⟩
        have HRW := Lib.hid hRW
        have HLR : Hid (letM RW = LS) := Lib.hid (by rw [← hRW, ← hc3, HT.out.2.2, hLS])
        have HCM : Hid (c3 ≤ 1000) := Lib.hid (by rw [← hc3]; exact blk_gnl HT.out.1)
        clear hc3 hLS hLl hRW HLS b1 b2 hq hq2
        go_upto_region 14 with fail
        go_loopw [12, 13] (fun v i wz => ∃ y : Nat, i = .int .i64 y ∧ y ≤ c3 ∧ Hid (OwnI wz W7.heap.size 3 v (letM (RW.take y))) ∧ Hid (Below W7.heap.size W7 wz)) (fun _ i _ => c3 - (intOf i).toNat)
        case atStart => exact ⟨0, rfl, Nat.zero_le _, Lib.hid (OwnI.nil _ _ _), Lib.hid (Below.refl _ _)⟩
        case round =>
          obtain ⟨y, rfl, hy, HV, HB⟩ := hrel
          have qT : SBlk wr gt T.s := Blk.below HT7.out HB.out (Blk.lt HT7.out)
          have tS := SBlk.isScr qT
          have tL := SBlk.cells qT
          rw [HC.out] at tL
          by_cases hyc : y < c3
          · have hyI : (y : Int) < (c3 : Int) := Int.ofNat_lt.2 hyc
            have hTG := HR7.out.1
            obtain ⟨bt, ot, eT⟩ : ∃ bt ot, T.s.gA = some ⟨bt, ot, none⟩ := by
              obtain ⟨b, o, e, _⟩ := hTG.at_ (show y < (listG T.s.gn T.F).length by rw [listG_len, HC.out]; exact hyc)
              exact ⟨b, o, e⟩
            have HET := Lib.hid eT
            rw [eT, HC.out] at hTG
            rw [eT] at tL
            have HTG := Lib.hid hTG
            have HYC := Lib.hid hyc
            have HRX : Hid (RW[y]? = some (listF (T.F y).n (T.F y).f)) := Lib.hid (by rw [← HRW.out, List.getElem?_map, listG_at hyc]; rfl)
            have HNY : Hid ((T.F y).n ≤ 5000) := Lib.hid ((hTG.2 (T.F y) (List.mem_of_getElem? (listG_at hyc))).2.2)
            clear eT hTG hyc hy qT
            have HTK : Hid (letM (RW.take (y + 1)) = letM (RW.take y) ++ letC (listF (T.F y).n (T.F y).f)) := Lib.hid (by
              have := HRX.out
              rw [List.take_add_one, this, letM_app]
              show _ ++ letM [_] = _
              rw [letM_one])
            have HTL : Hid ((letM (RW.take y)).length + (letC (listF (T.F y).n (T.F y).f)).length ≤ 60) := Lib.hid (by
              have h1 := letM_take RW (y + 1)
              rw [HTK.out, List.length_append, HLR.out, HLL.out] at h1
              exact Nat.le_trans h1 HML.out)
            have HROW : Hid (∀ wz, Below W7.heap.size W7 wz → RowAt wz bt (ot + y * 4) (T.F y) ∧ (T.F y).ok wz ∧ bt < wz.heap.size) := Lib.hid fun wz hb => rdR_row (HTG.out.below hb) HYC.out
            generalize T.F y = ry at *
            obtain ⟨nn, hnn⟩ : ∃ nn, ry.n = nn := ⟨_, rfl⟩
            obtain ⟨zs, hzs⟩ : ∃ zs, letM (RW.take y) = zs := ⟨_, rfl⟩
            rw [hzs] at HV HTK HTL
            have HNN := Lib.hid hnn
            obtain ⟨wo2, rfl⟩ : ∃ wo2, wo2 = wr := ⟨_, rfl⟩
            clear hnn hzs tS
            obtain ⟨⟨p0, p1, p2, p3⟩, -, lb⟩ := HROW.out _ HB.out
            have tS := SBlk.isScr (Blk.below HT7.out HB.out (Blk.lt HT7.out))
            go_upto_region 17 with fail
            clear tS tL p0 p1 p2 p3 lb
            go_loopw [12, 14] (fun v i wz => ∃ j : Nat, i = .int .i64 j ∧ j ≤ nn ∧ Hid (OwnI wz W7.heap.size 3 v (zs ++ letC ((listF ry.n ry.f).take j))) ∧ Hid (Below W7.heap.size W7 wz)) (fun _ i _ => nn - (intOf i).toNat)
            case atStart => exact ⟨0, rfl, Nat.zero_le _, Lib.hid (by rw [List.take_zero, show letC [] = [] from rfl, List.append_nil]; exact HV.out), HB⟩
            case round =>
              obtain ⟨j, rfl, hj, HW, HBz⟩ := hrel
              have qT : SBlk wr gt T.s := Blk.below HT7.out HBz.out (Blk.lt HT7.out)
              have tS := SBlk.isScr qT
              have tL := SBlk.cells qT
              rw [HET.out, HC.out] at tL
              obtain ⟨⟨p0, p1, p2, p3⟩, hok, lb⟩ := HROW.out _ HBz.out
              rw [HNN.out] at p0
              by_cases hjn : j < nn
              · have hjI : (j : Int) < (nn : Int) := Int.ofNat_lt.2 hjn
                obtain ⟨bc, oc, hA, hbc, c0, c1, c2, c3', c4, c5, c6⟩ := rd_zero hok (j := j) (by rw [HNN.out]; exact hjn)
                rw [hA] at p0
                have HTJ : Hid ((listF ry.n ry.f).take (j + 1) = (listF ry.n ry.f).take j ++ [ry.f j]) := Lib.hid (by rw [List.take_add_one, listF_get (by rw [HNN.out]; exact hjn)]; rfl)
                have HLJ : Hid ((zs ++ letC ((listF ry.n ry.f).take j)).length + 1 ≤ 65536) := Lib.hid (by
                  have h1 := letC_len ((listF ry.n ry.f).take j)
                  rw [List.length_take] at h1
                  have h2 := HTL.out
                  have h3 := HNY.out
                  rw [HNN.out] at h3
                  rw [List.length_append]
                  omega)
                have HJN := Lib.hid hjn
                have hjw := rz_wrap (Nat.le_of_lt hjn) (show nn ≤ 100000 by have := HNY.out; rw [HNN.out] at this; omega)
                generalize ry.f j = ce at c0 c1 c2 c3' c4 c5 c6 HTJ
                clear hok hA hjn hj qT p1 p2 p3 c1 c2 c3' c4 c5 c6
                by_cases hr0 : ce.r = 0
                · have hrb : (ce.r != 0) = false := by rw [hr0]; rfl
                  have HLS : Hid (letC ((listF ry.n ry.f).take (j + 1)) = letC ((listF ry.n ry.f).take j)) := Lib.hid (by rw [HTJ.out, letC_app, letC_one, if_pos hr0, List.append_nil])
                  clear hr0
                  go_wp2_with fail
                  go_roundw
                  case rel => exact ⟨j + 1, by rw [hjw]; rfl, HJN.out, Lib.hid (by rw [HLS.out]; exact HW.out), HBz⟩
                  case measure =>
                    rw [hjw]
                    exact rz_meas HJN.out
                · have hrb : (ce.r != 0) = true := by simpa using hr0
                  have HLS : Hid (zs ++ letC ((listF ry.n ry.f).take (j + 1)) = (zs ++ letC ((listF ry.n ry.f).take j)) ++ [ce.r]) := Lib.hid (by rw [HTJ.out, letC_app, letC_one, if_neg hr0, List.append_assoc])
                  clear hr0
                  go_wp2_with (at_builtin; refine wpList_append_ints rfl _ _ _ rfl W7.heap.size 3 i3 rfl HI3.out HZ3.out HS3.out HB3.out _ _ (zs ++ letC ((listF ry.n ry.f).take j)) [ce.r] rfl rfl (ownI_alloc HW.out _) (rdI_one _ _ _ _ rfl) HLJ.out (Nat.le_trans HBz.out.size (by simp)) ?_; intro v6 w6 hv6 hgb6 hor6)
                  have hb6 : Below W7.heap.size W7 w6 := below_own (HBz.out.alloc HBz.out.size _) hgb6 (fun g hg => (HW.out.lt hg).1) (Nat.le_trans HBz.out.size (by simp))
                  go_roundw
                  case rel => exact ⟨j + 1, by rw [hjw]; rfl, HJN.out, Lib.hid (by rw [HLS.out]; exact hv6), Lib.hid hb6⟩
                  case measure =>
                    rw [hjw]
                    exact rz_meas HJN.out
              · obtain rfl : j = nn := by omega
                have HFN : Hid (letC ((listF ry.n ry.f).take j) = letC (listF ry.n ry.f)) := Lib.hid (by rw [List.take_of_length_le (by rw [listF_len, HNN.out]; exact Nat.le_refl _)])
                have hjI : ¬ (j : Int) < (j : Int) := by omega
                have hyw := rz_wrap (Nat.le_of_lt HYC.out) (Nat.le_trans HCM.out (by decide))
                clear hok hj hjn qT p1 p2 p3
                go_wp2_with fail
                go_roundw
                case rel => exact ⟨y + 1, by rw [hyw]; rfl, HYC.out, Lib.hid (by rw [HTK.out]; have := HW.out; rw [HFN.out] at this; exact this), HBz⟩
                case measure =>
                  rw [hyw]
                  exact rz_meas HYC.out
          · obtain rfl : y = c3 := by omega
            have hRL : RW.length = y := by rw [← HRW.out, List.length_map, listG_len]
            have hV := HV.out
            rw [List.take_of_length_le (Nat.le_of_eq hRL), HLR.out] at hV
            have HV12 := Lib.hid hV.rd
            have HV9 := Lib.hid ((HV7.out.below HB.out (Nat.le_refl _)).rd)
            obtain ⟨A12, c12, e12, h12⟩ := id hV.rd
            obtain ⟨A9, c9, e9, h9⟩ := id HV7.out.rd
            rw [HLL.out] at e12 e9
            subst e12 e9
            have hyI : ¬ (y : Int) < (y : Int) := by omega
            have hkk : ((k : Int) != (k : Int)) = false := by simp
            have hk0 : ¬ (0 : Int) ≠ 0 := by omega
            rw [HT.out.2.1] at tL
            have HQT := Lib.hid qT
            have HRT := Lib.hid (HR7.out.below HB.out)
            have HWB := Lib.hid (HB7.out.trans (HB.out.mono HB7.out.size))
            obtain ⟨wp, rfl⟩ : ∃ wp, wp = wr := ⟨_, rfl⟩
            clear hRL hV h12 h9 hy hyc qT HV HV7
            go_upto_region 24 with fail
            clear tS tL
            go_loopw [15] (fun i wz => ∃ j : Nat, i = .int .i64 j ∧ j ≤ k ∧ Hid (Below wp.heap.size wp wz)) (fun i _ => k - (intOf i).toNat)
            case atStart => exact ⟨0, rfl, Nat.zero_le _, Lib.hid (Below.refl _ _)⟩
            case round =>
              obtain ⟨j, rfl, hj, HBz⟩ := hrel
              by_cases hjk : j < k
              · have hjI : (j : Int) < (k : Int) := Int.ofNat_lt.2 hjk
                have r12 := HV12.out.below HBz.out
                have r9 := HV9.out.below HBz.out
                obtain ⟨A', c', e', g12⟩ := id r12
                obtain ⟨b12, o12, rfl, l12, -⟩ := g12 (by rw [HLL.out]; omega)
                injection e' with e1 e2 e3
                subst e1
                obtain ⟨A'', c'', e'', g9⟩ := id r9
                obtain ⟨b9, o9, rfl, l9, -⟩ := g9 (by rw [HLL.out]; omega)
                injection e'' with e4 e5 e6
                subst e4
                have t12 := rdI_atx r12 (show j < LS.length by rw [HLL.out]; exact hjk)
                have t9 := rdI_atx r9 (show j < LS.length by rw [HLL.out]; exact hjk)
                have HJK := Lib.hid hjk
                have hjw := rz_wrap (Nat.le_of_lt hjk) (show k ≤ 100000 by have := HML.out; omega)
                generalize LS.getD j 0 = Z at t12 t9
                have hzz : (Z != Z) = false := by simp
                clear r12 r9 g12 g9 hj hjk e2 e3 e5 e6
                go_upto_region 26 with fail
                go_quiet (fail)
                go_wp2_with fail
                go_roundw
                case rel => exact ⟨j + 1, rfl, HJK.out, Lib.hid (HBz.out.drewN' nq)⟩
                case measure =>
                  exact rz_meas HJK.out
              · have hjI : ¬ (j : Int) < (k : Int) := by omega
                have HQZ := Lib.hid (show SBlk wr gt T.s from Blk.below HQT.out HBz.out (Blk.lt HQT.out))
                have HRZ := Lib.hid (HRT.out.below HBz.out)
                have HWZ := Lib.hid (HWB.out.trans (HBz.out.mono HWB.out.size))
                clear hj hjk
                go_wp2_with (first | (refine wpList_scr_load_w HQZ.out rfl (by rfl) rfl ?_) | (refine wpList_scr_load HQZ.out rfl rfl rfl ?_) | ((with_reducible refine (sane_ok T _ HRZ.out HT.out.1).mono ?_); rintro e w7 ⟨rfl, hg7⟩; replace hg7 := hg7.below))
                refine bodyPost_ret (v := .bool true) (by simp [results, Try.results5, go_sem]) rfl ⟨rfl, Below.toGrow (HWZ.out.trans (hg7.mono HWZ.out.size))⟩
end Go.Proofs.Ytlchffkabpfjpaa.Scr
