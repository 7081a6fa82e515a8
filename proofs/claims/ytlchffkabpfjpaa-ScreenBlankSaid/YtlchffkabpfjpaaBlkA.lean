/- lapwinglaw15.ScreenBlank. -/
import Derived.Test.YtlchffkabpfjpaaBlkP
import Derived.BigQuiet
namespace Go.Proofs.Ytlchffkabpfjpaa.Scr
open Go.RowKit Go.Proofs.Ytlchffkabpfjpaa.Row
attribute [local go_sem ↓] scr_load_pre scr_store_pre
attribute [local go_sem] scr_cell scr_frozen
theorem blk_sz {S : Sn} {n q : Nat} {kp : Int} (h : S.md = newMd n q kp) (hn : n ≤ 1000) (hq : q ≤ 16) : S.s.gn * S.s.W.toNat ≤ 90000 := by
  have e1 : S.s.gn = n := congrArg Md.n h
  have e2 : S.s.W = (q : Int) := congrArg Md.W h
  rw [e1, e2, Int.toNat_natCast]
  exact Nat.le_trans (Nat.mul_le_mul hn hq) (by decide)
theorem blk_n2 {n : Nat} (h : 3 ≤ n ∧ n ≤ 10) : wrap64 ((n : Int) - 2) = (n : Int) - 2 ∧ ¬ (n : Int) - 2 = 0 := ⟨IntWalk.wrap64_in _ (by omega), by omega⟩
theorem blk_yv {n : Nat} {y : Int} (h : 3 ≤ n ∧ n ≤ 10) : 0 ≤ y % 65536 % ((n : Int) - 2) ∧ y % 65536 % ((n : Int) - 2) + 2 < (n : Int) := by
  have h1 := Int.emod_nonneg (y % 65536) (show (n : Int) - 2 ≠ 0 by omega)
  have h2 := Int.emod_lt_of_pos (y % 65536) (show 0 < (n : Int) - 2 by omega)
  omega
theorem blk_down {S : Sn} {n q : Nat} {kp yv : Int} (h : S.md = newMd n q kp) (hO : S.md.Ok) (hy : 0 ≤ yv ∧ yv + 2 < (n : Int)) : (Sn.md ⟨{ S.s with y := yv }, S.F, S.zs, S.L⟩).Ok ∧ ((Sn.md ⟨{ S.s with y := yv }, S.F, S.zs, S.L⟩).down).upC.y = yv ∧ ((Sn.md ⟨{ S.s with y := yv }, S.F, S.zs, S.L⟩).down).Ok := by
  have hc := hO.cf
  have e0 : Sn.md ⟨{ S.s with y := yv }, S.F, S.zs, S.L⟩ = { S.md with y := yv } := rfl
  have e1 : S.md.H = n := congrArg Md.H h
  have e2 : S.md.T = 0 := congrArg Md.T h
  have e3 : S.md.B = n := congrArg Md.B h
  have e4 : S.md.og = false := congrArg Md.og h
  have e5 : S.md.wr = false := congrArg Md.wr h
  obtain ⟨h1, h2, w1, w2, t0, tb, bh, x0, x1, y0, y1, wx, oy⟩ := hc
  have h1 : Md.Ok { S.md with y := yv } := hO.move (x := S.md.x) (y := yv) (wr := S.md.wr) ⟨h1, h2, w1, w2, t0, tb, bh, x0, x1, by omega, by omega, wx, fun ho => by rw [e4] at ho; cases ho⟩
  rw [e0]
  obtain ⟨a, b⟩ := down_up h1 e2 (by show yv + 1 < S.md.B; omega) (by show S.md.B = S.md.H; omega)
  exact ⟨h1, a, b⟩
theorem blk_gn {S : Sn} (h : S.md.Ok) : S.s.gn ≤ 1000 := by
  have h1 := h.nH
  have h2 := h.cf.h2
  have e : S.md.n = S.s.gn := rfl
  omega
theorem blk_same {r s : Rw} {q : Nat} (h : r.sh = blkS q) (hs : s.n = q ∧ s.f = (fun _ => Row.blank 0 0 0) ∧ s.wb = false ∧ s.dir = 0 ∧ s.ex = false) : sameRw r s = true := by
  refine sh_same ?_
  rw [h]
  obtain ⟨h1, h2, h3, h4, h5⟩ := hs
  unfold Rw.sh blkS
  rw [h1, h2, h3, h4, h5]
open BigFrame in
theorem wpList_scr_load_w {w : World} {ops : Array Oper} {rest : List Oper} {o : Oper} {a : Act} {Q : Exit → Act → World → Prop} {g : Nat} {s : Sc} {x : Operand} (h : SBlk w g s) (ho : o.op = .load 41 x) (hw : Region.wanted o (yielded ops a.tmps) = true) (hx : a.eval x = .pointer (some ⟨g, 0, none⟩)) (hk : wpList Try.prog ops Q rest (a.put o.dst (.agg #[.slice s.gA s.gn s.gc, .int .i64 s.x, .int .i64 s.y, .bool s.wr, .bool s.og, .int .i64 s.fg, .int .i64 s.bg, .int .i64 s.fl, .int .u8 s.g0, .int .u8 s.g1, .int .u8 s.g2, .int .u8 s.g3, .int .i64 s.gl, .int .i64 s.gr, .int .i64 s.on, .int .i64 s.H, .int .i64 s.W, .int .i64 s.T, .int .i64 s.B, .slice s.tA s.tn s.tc, .int .i64 s.tw, .slice s.kA s.kn s.kc, .int .i64 s.kp, .int .i64 s.dir, .bool s.ex])) w) : wpList Try.prog ops Q (o :: rest) a w :=
  wpList_want hw fun _ hK => wp_scr_load h ho hx (hK _ _ hk)
set_option maxRecDepth 100000 in
set_option maxHeartbeats 4000000 in
theorem blank_law (h v y : Int) (w : World) : Calls Try.prog 6 #[.int .i64 h, .int .i64 v, .int .i64 y] w fun e w' => e = .returned (.bool true) ∧ Grew w w' := by
  have b1 : bits .and .i64 h 7 = h % 8 := and_mask 3 (by omega) h
  have b2 : bits .and .i64 h 15 = h % 16 := and_mask 4 (by omega) h
  have b3 : bits .and .i64 v 7 = v % 8 := and_mask 3 (by omega) v
  have b4 : bits .and .i64 v 15 = v % 16 := and_mask 4 (by omega) v
  have b5 : bits .and .i64 y 65535 = y % 65536 := and_mask 16 (by omega) y
  obtain ⟨n, hn⟩ : ∃ n : Nat, 3 + h % 8 = (n : Int) := ⟨(3 + h % 8).toNat, by omega⟩
  obtain ⟨q, hq⟩ : ∃ q : Nat, 1 + v % 16 = (q : Int) := ⟨(1 + v % 16).toNat, by omega⟩
  obtain ⟨n2, hn2⟩ : ∃ n : Nat, 1 + v % 8 = (n : Int) := ⟨(1 + v % 8).toNat, by omega⟩
  obtain ⟨q2, hq2⟩ : ∃ q : Nat, 1 + h % 16 = (q : Int) := ⟨(1 + h % 16).toNat, by omega⟩
  have HN := Lib.hid (show 3 ≤ n ∧ n ≤ 10 by omega)
  have HQ := Lib.hid (show 1 ≤ q ∧ q ≤ 16 by omega)
  have HN2 := Lib.hid (show 1 ≤ n2 ∧ n2 ≤ 8 by omega)
  have HQ2 := Lib.hid (show 1 ≤ q2 ∧ q2 ≤ 16 by omega)
  have HNM : Hid (max 1 (min (n : Int) 1000) = (n : Int)) := Lib.hid (by have := HN.out; omega)
  have HQM : Hid (max 1 (min (q : Int) 4096) = (q : Int)) := Lib.hid (by have := HQ.out; omega)
  have HNM2 : Hid (max 1 (min (n2 : Int) 1000) = (n2 : Int)) := Lib.hid (by have := HN2.out; omega)
  have HQM2 : Hid (max 1 (min (q2 : Int) 4096) = (q2 : Int)) := Lib.hid (by have := HQ2.out; omega)
  go_enter Try.func6, Try.ntmps6
  go_upto_region 4 with (first | ((with_reducible refine (awake15_c _).mono ?_); rintro e w0 ⟨rfl, hg0⟩))
  go_upto_region 5 with (first | ((with_reducible refine (New_c (n : Int) (q : Int) 5 n q _ HNM.out HQM.out).mono ?_); rintro e w1 ⟨S, rfl, hg1, hrd1, hmd1, -⟩) | (refine wpList_scr_store S.s ⟨_, Blk.new _ _ _, rfl⟩ rfl rfl rfl rfl rfl ?_))
  generalize hW5 : World.setRow _ _ _ = W5
  have hP : PW w w1.heap.size (newMd n q 5) W5 := by rw [← hW5]; exact PW.start (hg0.below.trans (hg1.mono hg0.below.size)) hrd1 hmd1
  clear hW5 hg1 hrd1 hmd1 hg0
  generalize w1.heap.size = gs at *
  obtain ⟨S1, h1, h2, h3, h4, h5, h6⟩ := hP
  have HS := Lib.hid h2
  have HR := Lib.hid h3
  have HF := Lib.hid h4
  have HM := Lib.hid h5
  have HB := Lib.hid h1
  have HG := Lib.hid h6
  have HO : Hid S1.md.Ok := Lib.hid (by rw [h5]; exact newMd_ok (by have := HN.out; omega) (by have := HN.out; omega) HQ.out.1 (by have := HQ.out; omega) (by omega) (by omega))
  have HZ : Hid (S1.s.gn * S1.s.W.toNat ≤ 90000) := Lib.hid (blk_sz HM.out (by have := HN.out; omega) HQ.out.2)
  clear h1 h2 h3 h4 h5 h6
  go_upto_region 6 with (first | (refine wpList_scr_load HS.out rfl rfl rfl ?_) | ((with_reducible refine (Resize_any S1 (n2 : Int) (q2 : Int) n2 q2 _ HO.out HR.out HNM2.out HQM2.out HZ.out).mono ?_); rintro e w2 ⟨T, rfl, hg2, hrd2, hm2, hf2⟩) | (refine wpList_scr_store T.s ⟨_, Blk.new _ _ _, rfl⟩ rfl rfl rfl rfl rfl ?_))
  generalize hW7 : World.setRow _ _ _ = W7
  have hz2 : gs < w2.heap.size := Nat.lt_of_lt_of_le (Blk.lt HS.out) hg2.size
  have hT7 : SBlk W7 w2.heap.size T.s := by rw [← hW7]; exact setRow_heap _ _ _ _ _ _ (Blk.new _ _ _)
  have hbA : Below w2.heap.size w2 W7 := by rw [← hW7]; exact below_row ((Below.refl _ _).alloc (Nat.le_refl _) _) (Nat.le_refl _) _
  have hR7 : T.rd W7 := by
    rw [← hW7]
    exact (hrd2.below ((Below.refl _ _).alloc (Nat.le_refl _) _)).keep (hrd2.ft.mono fun b hb => Nat.ne_of_lt hb) (Keeps.row _ _ (fun h => h rfl))
  have HTF : Hid (T.ft (· ≠ gs)) := Lib.hid ((hf2 _ HF.out).mono fun b hb => hb.elim id fun h => (Nat.ne_of_lt (Nat.lt_of_lt_of_le (Blk.lt HS.out) h)).symm)
  have HBL := Lib.hid (blank_t HM.out HO.out (by have := HN.out; omega) (by have := HN2.out; omega) (by have := HQ2.out; omega) hrd2 hm2)
  have HS7 := Lib.hid (Blk.below (Blk.below HS.out hg2 (Blk.lt HS.out)) hbA hz2)
  have HT7 := Lib.hid hT7
  have HR7 := Lib.hid hR7
  have HB7 : Hid (Below w.heap.size w W7) := Lib.hid (((HB.out.trans (hg2.mono HB.out.size))).trans (hbA.mono (Nat.le_trans HB.out.size hg2.size)))
  have HRS7 : Hid (S1.rd W7) := Lib.hid ((HR.out.below hg2).below hbA)
  have HGT : Hid (gs < w2.heap.size) := Lib.hid hz2
  clear hW7 hT7 hbA hR7 hg2 hrd2 hm2 hf2 hz2
  generalize w2.heap.size = gt at *
  obtain ⟨hnw, hnz⟩ := blk_n2 HN.out
  have sS := SBlk.isScr HS7.out
  have sL := SBlk.cells HS7.out
  go_upto_region 7 with fail
  clear sS sL hnw hnz
  generalize hyv : y % 65536 % ((n : Int) - 2) = yv
  have HY : Hid (0 ≤ yv ∧ yv + 2 < (n : Int)) := Lib.hid (by rw [← hyv]; exact blk_yv HN.out)
  generalize hW8 : World.setCell _ _ _ = W8
  have HS8 : Hid (SBlk W8 gs { S1.s with y := yv }) := Lib.hid (by rw [← hW8]; exact SBlk.cell 2 _ HS7.out rfl)
  have HT8 : Hid (SBlk W8 gt T.s) := Lib.hid (by rw [← hW8]; exact (Below.heap_setCell W7 _ _ gt (Nat.ne_of_gt HGT.out)).trans HT7.out)
  have HR8 : Hid (T.rd W8) := Lib.hid (by rw [← hW8]; exact HR7.out.keep HTF.out (Keeps.cell _ _ (fun h => h rfl)))
  have HRS8 : Hid (Sn.rd ⟨{ S1.s with y := yv }, S1.F, S1.zs, S1.L⟩ W8) := Lib.hid (by rw [← hW8]; exact HRS7.out.keep HF.out (Keeps.cell _ _ (fun h => h rfl)))
  have HB8 : Hid (Below w.heap.size w W8) := Lib.hid (by rw [← hW8]; exact HB7.out.setCell HG.out _)
  have HD8 := Lib.hid (blk_down (S := S1) HM.out HO.out HY.out)
  clear hW8 HS7 HT7 HR7 HRS7 HB7 HS HR HB
  generalize (.agg #[.slice S1.s.gA S1.s.gn S1.s.gc, .int .i64 S1.s.x, .int .i64 S1.s.y, .bool S1.s.wr, .bool S1.s.og, .int .i64 S1.s.fg, .int .i64 S1.s.bg, .int .i64 S1.s.fl, .int .u8 S1.s.g0, .int .u8 S1.s.g1, .int .u8 S1.s.g2, .int .u8 S1.s.g3, .int .i64 S1.s.gl, .int .i64 S1.s.gr, .int .i64 S1.s.on, .int .i64 S1.s.H, .int .i64 S1.s.W, .int .i64 S1.s.T, .int .i64 S1.s.B, .slice S1.s.tA S1.s.tn S1.s.tc, .int .i64 S1.s.tw, .slice S1.s.kA S1.s.kn S1.s.kc, .int .i64 S1.s.kp, .int .i64 S1.s.dir, .bool S1.s.ex] : Value) = V1
  go_upto_region 8 with (first | (refine wpList_scr_load HS8.out rfl rfl rfl ?_) | ((with_reducible refine (Down_c ⟨{ S1.s with y := yv }, S1.F, S1.zs, S1.L⟩ _ HD8.out.1 HRS8.out).mono ?_); rintro e w4 ⟨D, rfl, hg4, hrd4, hm4, hf4⟩) | ((with_reducible refine (Up_c D _ (hm4 ▸ HD8.out.2.2) hrd4).mono ?_); rintro e w5 ⟨U, rfl, hg5, hrd5, hm5, hf5⟩) | (refine wpList_scr_store U.s ⟨_, Blk.new _ _ _, rfl⟩ rfl rfl rfl rfl rfl ?_))
  generalize hW9 : World.setRow _ _ _ = W9
  have hU9 : SBlk W9 w5.heap.size U.s := by rw [← hW9]; exact setRow_heap _ _ _ _ _ _ (Blk.new _ _ _)
  have hb9 : Below W8.heap.size W8 W9 := by
    have h1 : Below w5.heap.size w5 W9 := by rw [← hW9]; exact below_row ((Below.refl _ _).alloc (Nat.le_refl _) _) (Nat.le_refl _) _
    exact (hg4.trans (hg5.mono hg4.size)).trans (h1.mono (Nat.le_trans hg4.size hg5.size))
  have HU9 := Lib.hid hU9
  have HUY : Hid (U.s.y = yv) := Lib.hid ((congrArg Md.y hm5).trans ((congrArg (fun m => Md.y (Md.upC m)) hm4).trans HD8.out.2.1))
  have HS9 := Lib.hid (Blk.below HS8.out hb9 (Blk.lt HS8.out))
  have HT9 := Lib.hid (Blk.below HT8.out hb9 (Blk.lt HT8.out))
  have HR9 := Lib.hid (HR8.out.below hb9)
  have HB9 := Lib.hid (HB8.out.trans (hb9.mono HB8.out.size))
  clear hW9 hU9 hb9 hg4 hg5 hm4 hm5 hrd4 hrd5 HS8 HT8 HR8 HB8
  generalize w5.heap.size = gu at *
  obtain ⟨c, hc⟩ : ∃ c, T.s.gn = c := ⟨_, rfl⟩
  have HC := Lib.hid hc
  generalize (.agg #[.slice T.s.gA T.s.gn T.s.gc, .int .i64 T.s.x, .int .i64 T.s.y, .bool T.s.wr, .bool T.s.og, .int .i64 T.s.fg, .int .i64 T.s.bg, .int .i64 T.s.fl, .int .u8 T.s.g0, .int .u8 T.s.g1, .int .u8 T.s.g2, .int .u8 T.s.g3, .int .i64 T.s.gl, .int .i64 T.s.gr, .int .i64 T.s.on, .int .i64 T.s.H, .int .i64 T.s.W, .int .i64 T.s.T, .int .i64 T.s.B, .slice T.s.tA T.s.tn T.s.tc, .int .i64 T.s.tw, .slice T.s.kA T.s.kn T.s.kc, .int .i64 T.s.kp, .int .i64 T.s.dir, .bool T.s.ex] : Value) = V2
  generalize (.agg #[.slice U.s.gA U.s.gn U.s.gc, .int .i64 U.s.x, .int .i64 U.s.y, .bool U.s.wr, .bool U.s.og, .int .i64 U.s.fg, .int .i64 U.s.bg, .int .i64 U.s.fl, .int .u8 U.s.g0, .int .u8 U.s.g1, .int .u8 U.s.g2, .int .u8 U.s.g3, .int .i64 U.s.gl, .int .i64 U.s.gr, .int .i64 U.s.on, .int .i64 U.s.H, .int .i64 U.s.W, .int .i64 U.s.T, .int .i64 U.s.B, .slice U.s.tA U.s.tn U.s.tc, .int .i64 U.s.tw, .slice U.s.kA U.s.kn U.s.kc, .int .i64 U.s.kp, .int .i64 U.s.dir, .bool U.s.ex] : Value) = V3
  go_upto_region 9 with fail
  generalize (.agg #[.slice S.s.gA S.s.gn S.s.gc, .int .i64 S.s.x, .int .i64 S.s.y, .bool S.s.wr, .bool S.s.og, .int .i64 S.s.fg, .int .i64 S.s.bg, .int .i64 S.s.fl, .int .u8 S.s.g0, .int .u8 S.s.g1, .int .u8 S.s.g2, .int .u8 S.s.g3, .int .i64 S.s.gl, .int .i64 S.s.gr, .int .i64 S.s.on, .int .i64 S.s.H, .int .i64 S.s.W, .int .i64 S.s.T, .int .i64 S.s.B, .slice S.s.tA S.s.tn S.s.tc, .int .i64 S.s.tw, .slice S.s.kA S.s.kn S.s.kc, .int .i64 S.s.kp, .int .i64 S.s.dir, .bool S.s.ex] : Value) = V4
  generalize (.agg #[.slice D.s.gA D.s.gn D.s.gc, .int .i64 D.s.x, .int .i64 D.s.y, .bool D.s.wr, .bool D.s.og, .int .i64 D.s.fg, .int .i64 D.s.bg, .int .i64 D.s.fl, .int .u8 D.s.g0, .int .u8 D.s.g1, .int .u8 D.s.g2, .int .u8 D.s.g3, .int .i64 D.s.gl, .int .i64 D.s.gr, .int .i64 D.s.on, .int .i64 D.s.H, .int .i64 D.s.W, .int .i64 D.s.T, .int .i64 D.s.B, .slice D.s.tA D.s.tn D.s.tc, .int .i64 D.s.tw, .slice D.s.kA D.s.kn D.s.kc, .int .i64 D.s.kp, .int .i64 D.s.dir, .bool D.s.ex] : Value) = V5
  clear hc b1 b3 b4 b5 hn hq hn2
  go_loopw [13] (fun i wz => ∃ j : Nat, j ≤ c ∧ i = .int .i64 j ∧ Below W9.heap.size W9 wz) (fun i _ => c - (intOf i).toNat)
  case atStart => exact ⟨0, Nat.zero_le _, rfl, Below.refl _ _⟩
  case round =>
    obtain ⟨j, hj, rfl, hbz⟩ := hrel
    have HBZ := Lib.hid hbz
    have qT : SBlk _ gt T.s := Blk.below HT9.out hbz (Blk.lt HT9.out)
    have tS := SBlk.isScr qT
    have tL := SBlk.cells qT
    rw [HC.out] at tL
    by_cases hjc : j < c
    · have hjI : (j : Int) < (c : Int) := Int.ofNat_lt.2 hjc
      have hTG := (HR9.out.below hbz).1
      obtain ⟨bt, ot, eT⟩ : ∃ bt ot, T.s.gA = some ⟨bt, ot, none⟩ := by
        obtain ⟨b, o, e, _⟩ := hTG.at_ (show j < (listG T.s.gn T.F).length by rw [listG_len, HC.out]; exact hjc)
        exact ⟨b, o, e⟩
      rw [eT] at tL
      rw [eT, HC.out] at hTG
      have HET := Lib.hid eT
      obtain ⟨⟨p0, p1, p2, p3⟩, hof, lb⟩ := rdR_row hTG (j := j) hjc
      have HOF := Lib.hid hof
      have HP0 := Lib.hid p0
      have HP1 := Lib.hid p1
      have HP2 := Lib.hid p2
      have HP3 := Lib.hid p3
      have HLB := Lib.hid lb
      have HTL := Lib.hid tL
      have HTS := Lib.hid qT
      have HJC := Lib.hid hjc
      have HCN : Hid (c ≤ 1000) := Lib.hid (by rw [← HC.out]; exact blk_gn HBL.out.1)
      have HSH := Lib.hid (HBL.out.2.2 j (by rw [HC.out]; exact hjc))
      clear hof eT hTG hbz hj hjc qT p0 p1 p2 p3 lb
      have hwr : IntKind.i64.wrap (q2 : Int) = (q2 : Int) := IntWalk.i64_in _ (by have := HQ2.out; omega)
      go_upto_region 11 with fail
      clear tS tL
      refine hr_start (S := (fun w' => Below wr.heap.size wr w')) (by kernel_rfl) rfl ?_ (fun hHeld => ?_)
      · ((try dsimp only); (first | exact Below.drew (Below.refl _ _) | exact hHeld | exact hHeld.trans (hg.mono hHeld.size)))
      refine hr_take (i := 0) rfl rfl (by kernel_rfl) (by kernel_rfl) (by kernel_rfl) (by kernel_rfl) (fun _ _ _ h => h) (v := ?_) ?_ (by assumption) ?_
      rotate_left
      focus (intro wS hSw; ((try dsimp only at hSw); have p0 := (Below.cell (p := ⟨bt, ot + j * 4, none⟩) hSw HLB.out).trans HP0.out; have p1 := (Below.cell (p := ⟨bt, ot + j * 4 + 1, none⟩) hSw HLB.out).trans HP1.out; have p2 := (Below.cell (p := ⟨bt, ot + j * 4 + 2, none⟩) hSw HLB.out).trans HP2.out; have p3 := (Below.cell (p := ⟨bt, ot + j * 4 + 3, none⟩) hSw HLB.out).trans HP3.out; have qT := Blk.below HTS.out hSw (Blk.lt HTS.out); have tS := SBlk.isScr qT; have tL := SBlk.cells qT; rw [HET.out, HC.out] at tL); go_simp; (try with_reducible rfl))
      simp only [List.set_cons_zero, List.set_cons_succ]
      refine hr_take (i := 1) rfl rfl (by kernel_rfl) (by kernel_rfl) (by kernel_rfl) (by kernel_rfl) (fun _ _ _ h => h) (v := ?_) ?_ (by assumption) ?_
      rotate_left
      focus (intro wS hSw; ((try dsimp only at hSw); have p0 := (Below.cell (p := ⟨bt, ot + j * 4, none⟩) hSw HLB.out).trans HP0.out; have p1 := (Below.cell (p := ⟨bt, ot + j * 4 + 1, none⟩) hSw HLB.out).trans HP1.out; have p2 := (Below.cell (p := ⟨bt, ot + j * 4 + 2, none⟩) hSw HLB.out).trans HP2.out; have p3 := (Below.cell (p := ⟨bt, ot + j * 4 + 3, none⟩) hSw HLB.out).trans HP3.out; have qT := Blk.below HTS.out hSw (Blk.lt HTS.out); have tS := SBlk.isScr qT; have tL := SBlk.cells qT; rw [HET.out, HC.out] at tL); go_simp; (try with_reducible rfl))
      simp only [List.set_cons_zero, List.set_cons_succ]
      refine hr_take (i := 2) rfl rfl (by kernel_rfl) (by kernel_rfl) (by kernel_rfl) (by kernel_rfl) (fun _ _ _ h => h) (v := ?_) ?_ (by assumption) ?_
      rotate_left
      focus (intro wS hSw; ((try dsimp only at hSw); have p0 := (Below.cell (p := ⟨bt, ot + j * 4, none⟩) hSw HLB.out).trans HP0.out; have p1 := (Below.cell (p := ⟨bt, ot + j * 4 + 1, none⟩) hSw HLB.out).trans HP1.out; have p2 := (Below.cell (p := ⟨bt, ot + j * 4 + 2, none⟩) hSw HLB.out).trans HP2.out; have p3 := (Below.cell (p := ⟨bt, ot + j * 4 + 3, none⟩) hSw HLB.out).trans HP3.out; have qT := Blk.below HTS.out hSw (Blk.lt HTS.out); have tS := SBlk.isScr qT; have tL := SBlk.cells qT; rw [HET.out, HC.out] at tL); go_simp; (try with_reducible rfl))
      simp only [List.set_cons_zero, List.set_cons_succ]
      refine hr_take (i := 3) rfl rfl (by kernel_rfl) (by kernel_rfl) (by kernel_rfl) (by kernel_rfl) (fun _ _ _ h => h) (v := ?_) ?_ (by assumption) ?_
      rotate_left
      focus (intro wS hSw; ((try dsimp only at hSw); have p0 := (Below.cell (p := ⟨bt, ot + j * 4, none⟩) hSw HLB.out).trans HP0.out; have p1 := (Below.cell (p := ⟨bt, ot + j * 4 + 1, none⟩) hSw HLB.out).trans HP1.out; have p2 := (Below.cell (p := ⟨bt, ot + j * 4 + 2, none⟩) hSw HLB.out).trans HP2.out; have p3 := (Below.cell (p := ⟨bt, ot + j * 4 + 3, none⟩) hSw HLB.out).trans HP3.out; have qT := Blk.below HTS.out hSw (Blk.lt HTS.out); have tS := SBlk.isScr qT; have tL := SBlk.cells qT; rw [HET.out, HC.out] at tL); go_simp; (try with_reducible rfl))
      simp only [List.set_cons_zero, List.set_cons_succ]
      refine hr_take (i := 4) rfl rfl (by kernel_rfl) (by kernel_rfl) (by kernel_rfl) (by kernel_rfl) (fun _ _ _ h => h) (v := ?_) ?_ (by assumption) ?_
      rotate_left
      focus (intro wS hSw; ((try dsimp only at hSw); have p0 := (Below.cell (p := ⟨bt, ot + j * 4, none⟩) hSw HLB.out).trans HP0.out; have p1 := (Below.cell (p := ⟨bt, ot + j * 4 + 1, none⟩) hSw HLB.out).trans HP1.out; have p2 := (Below.cell (p := ⟨bt, ot + j * 4 + 2, none⟩) hSw HLB.out).trans HP2.out; have p3 := (Below.cell (p := ⟨bt, ot + j * 4 + 3, none⟩) hSw HLB.out).trans HP3.out; have qT := Blk.below HTS.out hSw (Blk.lt HTS.out); have tS := SBlk.isScr qT; have tL := SBlk.cells qT; rw [HET.out, HC.out] at tL); go_simp; (try with_reducible rfl))
      simp only [List.set_cons_zero, List.set_cons_succ]
      refine hr_take (i := 5) rfl rfl (by kernel_rfl) (by kernel_rfl) (by kernel_rfl) (by kernel_rfl) (fun _ _ _ h => h) (v := ?_) ?_ (by assumption) ?_
      rotate_left
      focus (intro wS hSw; ((try dsimp only at hSw); have p0 := (Below.cell (p := ⟨bt, ot + j * 4, none⟩) hSw HLB.out).trans HP0.out; have p1 := (Below.cell (p := ⟨bt, ot + j * 4 + 1, none⟩) hSw HLB.out).trans HP1.out; have p2 := (Below.cell (p := ⟨bt, ot + j * 4 + 2, none⟩) hSw HLB.out).trans HP2.out; have p3 := (Below.cell (p := ⟨bt, ot + j * 4 + 3, none⟩) hSw HLB.out).trans HP3.out; have qT := Blk.below HTS.out hSw (Blk.lt HTS.out); have tS := SBlk.isScr qT; have tL := SBlk.cells qT; rw [HET.out, HC.out] at tL); go_simp; (try with_reducible rfl))
      simp only [List.set_cons_zero, List.set_cons_succ]
      refine hr_take (i := 6) rfl rfl (by kernel_rfl) (by kernel_rfl) (by kernel_rfl) (by kernel_rfl) (fun _ _ _ h => h) (v := ?_) ?_ (by assumption) ?_
      rotate_left
      focus (intro wS hSw; ((try dsimp only at hSw); have p0 := (Below.cell (p := ⟨bt, ot + j * 4, none⟩) hSw HLB.out).trans HP0.out; have p1 := (Below.cell (p := ⟨bt, ot + j * 4 + 1, none⟩) hSw HLB.out).trans HP1.out; have p2 := (Below.cell (p := ⟨bt, ot + j * 4 + 2, none⟩) hSw HLB.out).trans HP2.out; have p3 := (Below.cell (p := ⟨bt, ot + j * 4 + 3, none⟩) hSw HLB.out).trans HP3.out; have qT := Blk.below HTS.out hSw (Blk.lt HTS.out); have tS := SBlk.isScr qT; have tL := SBlk.cells qT; rw [HET.out, HC.out] at tL); go_simp; (try with_reducible rfl))
      simp only [List.set_cons_zero, List.set_cons_succ]
      refine hr_take (i := 7) rfl rfl (by kernel_rfl) (by kernel_rfl) (by kernel_rfl) (by kernel_rfl) (fun _ _ _ h => h) (v := ?_) ?_ (by assumption) ?_
      rotate_left
      focus (intro wS hSw; ((try dsimp only at hSw); have p0 := (Below.cell (p := ⟨bt, ot + j * 4, none⟩) hSw HLB.out).trans HP0.out; have p1 := (Below.cell (p := ⟨bt, ot + j * 4 + 1, none⟩) hSw HLB.out).trans HP1.out; have p2 := (Below.cell (p := ⟨bt, ot + j * 4 + 2, none⟩) hSw HLB.out).trans HP2.out; have p3 := (Below.cell (p := ⟨bt, ot + j * 4 + 3, none⟩) hSw HLB.out).trans HP3.out; have qT := Blk.below HTS.out hSw (Blk.lt HTS.out); have tS := SBlk.isScr qT; have tL := SBlk.cells qT; rw [HET.out, HC.out] at tL); go_simp; (try with_reducible rfl))
      simp only [List.set_cons_zero, List.set_cons_succ]
      refine hr_take (i := 8) rfl rfl (by kernel_rfl) (by kernel_rfl) (by kernel_rfl) (by kernel_rfl) (fun _ _ _ h => h) (v := ?_) ?_ (by assumption) ?_
      rotate_left
      focus (intro wS hSw; ((try dsimp only at hSw); have p0 := (Below.cell (p := ⟨bt, ot + j * 4, none⟩) hSw HLB.out).trans HP0.out; have p1 := (Below.cell (p := ⟨bt, ot + j * 4 + 1, none⟩) hSw HLB.out).trans HP1.out; have p2 := (Below.cell (p := ⟨bt, ot + j * 4 + 2, none⟩) hSw HLB.out).trans HP2.out; have p3 := (Below.cell (p := ⟨bt, ot + j * 4 + 3, none⟩) hSw HLB.out).trans HP3.out; have qT := Blk.below HTS.out hSw (Blk.lt HTS.out); have tS := SBlk.isScr qT; have tL := SBlk.cells qT; rw [HET.out, HC.out] at tL); go_simp; (try with_reducible rfl))
      simp only [List.set_cons_zero, List.set_cons_succ]
      refine hr_take (i := 9) rfl rfl (by kernel_rfl) (by kernel_rfl) (by kernel_rfl) (by kernel_rfl) (fun _ _ _ h => h) (v := ?_) ?_ (by assumption) ?_
      rotate_left
      focus (intro wS hSw; ((try dsimp only at hSw); have p0 := (Below.cell (p := ⟨bt, ot + j * 4, none⟩) hSw HLB.out).trans HP0.out; have p1 := (Below.cell (p := ⟨bt, ot + j * 4 + 1, none⟩) hSw HLB.out).trans HP1.out; have p2 := (Below.cell (p := ⟨bt, ot + j * 4 + 2, none⟩) hSw HLB.out).trans HP2.out; have p3 := (Below.cell (p := ⟨bt, ot + j * 4 + 3, none⟩) hSw HLB.out).trans HP3.out; have qT := Blk.below HTS.out hSw (Blk.lt HTS.out); have tS := SBlk.isScr qT; have tL := SBlk.cells qT; rw [HET.out, HC.out] at tL); go_simp; (try with_reducible rfl))
      simp only [List.set_cons_zero, List.set_cons_succ]
      refine hr_op (i := 10) rfl rfl (by kernel_rfl) (by kernel_rfl) (fun K hK => ?_)
      (try go_simp)
      ((with_reducible refine (new8_c (q2 : Int) q2 0 0 0 _ HQM2.out).mono ?_); rintro e w8 ⟨r, rfl, hg, hrok, hrx⟩; have HRK := Lib.hid hrok; have HRX := Lib.hid hrx; clear hrok hrx)
      (try go_wp2_with fail)
      refine hK.out _ _ ?_ (fun hHeld => ?_)
      · ((try dsimp only); (first | exact Below.drew (Below.refl _ _) | exact hHeld | exact hHeld.trans (hg.mono hHeld.size)))
      clear hK K
      simp only [List.set_cons_zero, List.set_cons_succ]
      refine hr_op (i := 11) rfl rfl (by kernel_rfl) (by kernel_rfl) (fun K hK => ?_)
      (try go_simp)
      ((with_reducible refine (samer_c (T.F j) r _ (HOF.out.below hHeld) HRK.out).mono ?_); rw [blk_same HSH.out HRX.out]; rintro e w9 ⟨rfl, hg⟩; replace hg := hg.below)
      (try go_wp2_with fail)
      refine hK.out _ _ ?_ (fun hHeld => ?_)
      · ((try dsimp only); (first | exact Below.drew (Below.refl _ _) | exact hHeld | exact hHeld.trans (hg.mono hHeld.size)))
      clear hK K
      simp only [List.set_cons_zero, List.set_cons_succ]
      refine hr_take (i := 12) rfl rfl (by kernel_rfl) (by kernel_rfl) (by kernel_rfl) (by kernel_rfl) (fun _ _ _ h => h) (v := ?_) ?_ (by assumption) ?_
      rotate_left
      focus (intro wS hSw; ((try dsimp only at hSw); have p0 := (Below.cell (p := ⟨bt, ot + j * 4, none⟩) hSw HLB.out).trans HP0.out; have p1 := (Below.cell (p := ⟨bt, ot + j * 4 + 1, none⟩) hSw HLB.out).trans HP1.out; have p2 := (Below.cell (p := ⟨bt, ot + j * 4 + 2, none⟩) hSw HLB.out).trans HP2.out; have p3 := (Below.cell (p := ⟨bt, ot + j * 4 + 3, none⟩) hSw HLB.out).trans HP3.out; have qT := Blk.below HTS.out hSw (Blk.lt HTS.out); have tS := SBlk.isScr qT; have tL := SBlk.cells qT; rw [HET.out, HC.out] at tL); go_simp; (try with_reducible rfl))
      simp only [List.set_cons_zero, List.set_cons_succ]
      refine hr_done (by kernel_rfl) ?_
      have hjw := rz_wrap (Nat.le_of_lt HJC.out) (Nat.le_trans HCN.out (by decide))
      clear hwr hjI
      go_wp2_with fail
      go_roundw
      case rel => exact ⟨j + 1, HJC.out, by rw [hjw]; rfl, HBZ.out.trans (hHeld.mono HBZ.out.size)⟩
      case measure =>
        rw [hjw]
        exact rz_meas HJC.out
    · have hjI : ¬ (j : Int) < (c : Int) := by omega
      have qU : SBlk _ gu U.s := Blk.below HU9.out hbz (Blk.lt HU9.out)
      have uS := SBlk.isScr qU
      have uL := SBlk.cells qU
      have qS : SBlk wr gs { S1.s with y := yv } := Blk.below HS9.out hbz (Blk.lt HS9.out)
      have sS := SBlk.isScr qS
      have sL := SBlk.cells qS
      rw [HBL.out.2.1] at tL
      rw [HUY.out] at uL
      have hyy : (yv == yv) = true := by simp
      have HQT := Lib.hid qT
      have HRT := Lib.hid (HR9.out.below hbz)
      have HWB := Lib.hid (HB9.out.trans (hbz.mono HB9.out.size))
      clear qS qU hbz HBZ hj hjc qT b2 hq2
      go_upto_region 13 with fail
      go_wp2_with (first | (refine wpList_scr_load_w HQT.out rfl (by rfl) rfl ?_) | (refine wpList_scr_load HQT.out rfl rfl rfl ?_) | ((with_reducible refine (sane_ok T _ HRT.out HBL.out.1).mono ?_); rintro e w7 ⟨rfl, hg7⟩; replace hg7 := hg7.below))
      refine bodyPost_ret (v := .bool true) (by simp [results, Try.results6, go_sem]) rfl ⟨rfl, Below.toGrow (HWB.out.trans (hg7.mono HWB.out.size))⟩
end Go.Proofs.Ytlchffkabpfjpaa.Scr
