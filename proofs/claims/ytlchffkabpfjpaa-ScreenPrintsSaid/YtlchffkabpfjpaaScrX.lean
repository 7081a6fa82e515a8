/- lapwinglaw15.ScreenPrints. -/
import Derived.Test.YtlchffkabpfjpaaScrW
import Derived.BigQuiet
namespace Go.Proofs.Ytlchffkabpfjpaa.Scr
open Go.RowKit Go.Proofs.Ytlchffkabpfjpaa.Row
attribute [local go_sem ↓] scr_load_pre scr_store_pre
attribute [local go_sem] scr_cell scr_frozen
/-- the letters of a list -/
def lett (l : List Int) (i : Nat) : Int := 33 + l.getD i 0 % 64
theorem lett_b (l : List Int) (i : Nat) : 33 ≤ lett l i ∧ lett l i ≤ 96 := by unfold lett; omega
theorem lett_ok {n q : Nat} {kp : Int} (l : List Int) (h1 : 1 ≤ n) (h2 : n ≤ 1000) (h3 : 1 ≤ q) (h4 : q ≤ 4096) (h5 : 0 ≤ kp) (h6 : kp ≤ 200) (k : Nat) (hk : k ≤ n ∧ k ≤ 200) : (prMd n q kp (lett l) k).Ok :=
  prMd_ok h1 h2 h3 h4 h5 h6 (fun i => by have := lett_b l i; omega) (fun i _ => by have := lett_b l i; omega) k hk
theorem rdI_at {w : World} {b o : Nat} {n c : Nat} {zs : List Int} {i : Nat} (h : RdI w (.slice (some ⟨b, o, none⟩) n c) zs) (hi : i < zs.length) : w.cell? ⟨b, o + i, none⟩ = some (.int .i64 (zs.getD i 0)) := by
  obtain ⟨A, c', e, h⟩ := h
  obtain ⟨b', o', rfl, hb, hc⟩ := h (by omega)
  injection e with e
  injection e with e
  injection e with e1 e2
  subst e1 e2
  rw [hc i _ (List.getElem?_eq_getElem hi), List.getD_eq_getElem?_getD, List.getElem?_eq_getElem hi]
  rfl
theorem at_facts {q L k : Nat} (h1 : 1 ≤ q) (h2 : q ≤ 16) (h3 : L ≤ 100) (h4 : k < L) :
    ∃ Y J D : Nat, k / q = Y ∧ (L - 1) / q = D ∧ J < q ∧ (J : Int) < q ∧ Y < L + 1 ∧ (Y : Int) < (L : Int) + 1 ∧ Y * q + J = k ∧ wrap64 (Y : Int) = (Y : Int) ∧ (k : Int) % (q : Int) = (J : Int) ∧ wrap64 (D : Int) = (D : Int) ∧ (k : Int) / (q : Int) = (Y : Int) ∧ ((L : Int) - 1) / (q : Int) = (D : Int) := by
  have a1 : k / q ≤ k := Nat.div_le_self _ _
  have a2 : (L - 1) / q ≤ L - 1 := Nat.div_le_self _ _
  have a3 := Nat.mod_lt k (show 0 < q by omega)
  have a4 := (place (y := k / q) (k := k) a3).2 ⟨rfl, rfl⟩
  have a5 : ((k : Int) / (q : Int)) = ((k / q : Nat) : Int) := (Int.natCast_ediv k q).symm
  have a6 : ((k : Int) % (q : Int)) = ((k % q : Nat) : Int) := (Int.natCast_emod k q).symm
  have a7 : (((L : Int) - 1) / (q : Int)) = (((L - 1) / q : Nat) : Int) := by
    rw [show (L : Int) - 1 = ((L - 1 : Nat) : Int) by omega]
    exact (Int.natCast_ediv _ q).symm
  rw [a5, a6, a7]
  generalize k / q = Y at *
  generalize k % q = J at *
  generalize (L - 1) / q = D at *
  exact ⟨Y, J, D, rfl, rfl, a3, by omega, by omega, by omega, a4, IntWalk.wrap64_in _ (by omega), rfl, IntWalk.wrap64_in _ (by omega), rfl, rfl⟩
set_option maxRecDepth 100000 in
set_option maxHeartbeats 4000000 in
theorem prints_law (x : Value) (l : List Int) (z : Int) (w : World) (hx : RdI w x l) : Calls Try.prog 3 #[x, .int .i64 z] w fun e w' => e = .returned (.bool true) ∧ Grew w w' := by
  obtain ⟨A, c, rfl, hcell⟩ := id hx
  have hand : bits .and .i64 z 15 = z % 16 := and_mask 4 (by omega) z
  obtain ⟨q, hq⟩ : ∃ q : Nat, 1 + z % 16 = (q : Int) := ⟨(1 + z % 16).toNat, by omega⟩
  have hq1 : 1 ≤ q ∧ q ≤ 16 := by omega
  by_cases hl : 100 < l.length
  · have hlI : (100 : Int) < l.length := by omega
    go_enter Try.func3, Try.ntmps3
    go_wp2_with (first | (with_reducible refine (awake15_c _).mono ?_; rintro e w0 ⟨rfl, hg0⟩))
    refine bodyPost_ret (v := .bool true) (by simp [results, Try.results3, go_sem]) rfl ⟨rfl, hg0⟩
  · have hlI : ¬ (100 : Int) < l.length := by omega
    go_enter Try.func3, Try.ntmps3
    go_wp2_with (first | (with_reducible refine (awake15_c _).mono ?_; rintro e w0 ⟨rfl, hg0⟩))
    try rw [hq]
    (with_reducible refine (New_c ((l.length : Int) + 1) (q : Int) 0 (l.length + 1) q _ (by omega) (by omega)).mono ?_)
    rintro e w1 ⟨S, rfl, hg, hrd, hmd, -⟩
    replace hg := hg0.below.trans (hg.mono hg0.below.size)
    have hI : IsScr (w1.alloc (.cells #[.slice dummy.gA dummy.gn dummy.gc, .int .i64 dummy.x, .int .i64 dummy.y, .bool dummy.wr, .bool dummy.og, .int .i64 dummy.fg, .int .i64 dummy.bg, .int .i64 dummy.fl, .int .u8 dummy.g0, .int .u8 dummy.g1, .int .u8 dummy.g2, .int .u8 dummy.g3, .int .i64 dummy.gl, .int .i64 dummy.gr, .int .i64 dummy.on, .int .i64 dummy.H, .int .i64 dummy.W, .int .i64 dummy.T, .int .i64 dummy.B, .slice dummy.tA dummy.tn dummy.tc, .int .i64 dummy.tw, .slice dummy.kA dummy.kn dummy.kc, .int .i64 dummy.kp, .int .i64 dummy.dir, .bool dummy.ex] 41)) w1.heap.size := ⟨_, Blk.new _ _ _, rfl⟩
    go_upto_region 6 with (refine wpList_scr_store S.s hI rfl rfl rfl rfl rfl ?_)
    generalize hW2 : World.setRow _ _ _ = W2
    have hP : PW w w1.heap.size (prMd (l.length + 1) q 0 (lett l) 0) W2 := hW2 ▸ PW.start hg hrd (hmd.trans (pr_start (l.length + 1) q 0 (lett l)))
    clear hW2 hI hg hrd hmd hg0
    generalize (.agg #[.slice S.s.gA S.s.gn S.s.gc, .int .i64 S.s.x, .int .i64 S.s.y, .bool S.s.wr, .bool S.s.og, .int .i64 S.s.fg, .int .i64 S.s.bg, .int .i64 S.s.fl, .int .u8 S.s.g0, .int .u8 S.s.g1, .int .u8 S.s.g2, .int .u8 S.s.g3, .int .i64 S.s.gl, .int .i64 S.s.gr, .int .i64 S.s.on, .int .i64 S.s.H, .int .i64 S.s.W, .int .i64 S.s.T, .int .i64 S.s.B, .slice S.s.tA S.s.tn S.s.tc, .int .i64 S.s.tw, .slice S.s.kA S.s.kn S.s.kc, .int .i64 S.s.kp, .int .i64 S.s.dir, .bool S.s.ex] : Value) = V0
    generalize w1.heap.size = g at *
    go_wp2_with fail
    go_loopw [8] (fun i wz => ∃ k : Nat, k ≤ l.length ∧ i = .int .i64 k ∧ PW w g (prMd (l.length + 1) q 0 (lett l) k) wz) (fun i _ => l.length - (intOf i).toNat)
    case atStart => exact ⟨0, by omega, rfl, hP⟩
    case round =>
      obtain ⟨k, hk, rfl, S1, h1, h2, h3, h4, hm, h6⟩ := hrel
      have HMD := Lib.hid hm
      have hO : S1.md.Ok := hm ▸ lett_ok l (by omega) (by omega) (by omega) (by omega) (by omega) (by omega) k (by omega)
      have HO := Lib.hid hO
      have HS := Lib.hid h2
      clear hO h2
      by_cases hlt : k < l.length
      · have hkI : (k : Int) < l.length := by omega
        obtain ⟨bl, ol, rfl, hbl, hcl⟩ := hcell (by omega)
        have hxr : RdI wr (.slice (some ⟨bl, ol, none⟩) l.length c) l := hx.below (h1.mono (Nat.le_refl _))
        have hat := rdI_at hxr hlt
        have HLT := Lib.hid (show 33 + l.getD k 0 % 64 = lett l k from rfl)
        generalize l.getD k 0 = Z at hat HLT
        have hlb : bl < wr.heap.size := Nat.lt_of_lt_of_le hbl h1.size
        have hbg : bl ≠ g := by omega
        have hz := HS.out
        have hsz := Blk.lt HS.out
        have hbd : Below wr.heap.size wr wr.drew := Below.drew (Below.refl _ _)
        have h1d := h1.trans (hbd.mono h1.size)
        have h3d := h3.below hbd
        have hNB : SBlk wr.drew g S1.s := Blk.below HS.out hbd hsz
        have hatd : wr.drew.cell? ⟨bl, ol + k, none⟩ = some (.int .i64 (Z)) := hat
        have hwr : IntKind.i64.wrap (33 + Z % 64) = 33 + Z % 64 := IntWalk.i64_in _ (by omega)
        have hmk : bits .and .i64 (Z) 63 = Z % 64 := and_mask 6 (by omega) _
        have HKQ := Lib.hid (show k / q < l.length + 1 from Nat.lt_of_le_of_lt (Nat.div_le_self _ _) (by omega))
        go_upto_region 9 with fail
        refine hr_start (S := (fun w' => w'.cell? ⟨bl, ol + k, none⟩ = some (.int .i64 Z))) (by kernel_rfl) rfl ?_ (fun hHeld => ?_)
        · ((try dsimp only); (first | exact hatd | exact hHeld | exact (Below.cell (p := ⟨bl, ol + k, none⟩) hg5 hlb).trans hHeld | (show World.cell? _ _ = _; unfold World.cell?; rw [setRow_other _ _ _ _ hbg]; exact hHeld)))
        refine hr_take (i := 1) rfl rfl (by kernel_rfl) (by kernel_rfl) (by kernel_rfl) (by kernel_rfl) (fun _ _ _ h => h) (v := ?_) ?_ (by assumption) ?_
        rotate_left
        focus (intro wS hSw; skip; go_simp; (try with_reducible rfl))
        simp only [List.set_cons_zero, List.set_cons_succ]
        refine hr_take (i := 2) rfl rfl (by kernel_rfl) (by kernel_rfl) (by kernel_rfl) (by kernel_rfl) (fun _ _ _ h => h) (v := ?_) ?_ (by assumption) ?_
        rotate_left
        focus (intro wS hSw; skip; go_simp; (try with_reducible rfl))
        simp only [List.set_cons_zero, List.set_cons_succ]
        refine hr_take (i := 3) rfl rfl (by kernel_rfl) (by kernel_rfl) (by kernel_rfl) (by kernel_rfl) (fun _ _ _ h => h) (v := ?_) ?_ (by assumption) ?_
        rotate_left
        focus (intro wS hSw; skip; go_simp; (try with_reducible rfl))
        simp only [List.set_cons_zero, List.set_cons_succ]
        refine hr_take (i := 4) rfl rfl (by kernel_rfl) (by kernel_rfl) (by kernel_rfl) (by kernel_rfl) (fun _ _ _ h => h) (v := ?_) ?_ (by assumption) ?_
        rotate_left
        focus (intro wS hSw; skip; go_simp; (try with_reducible rfl))
        simp only [List.set_cons_zero, List.set_cons_succ]
        refine hr_take (i := 5) rfl rfl (by kernel_rfl) (by kernel_rfl) (by kernel_rfl) (by kernel_rfl) (fun _ _ _ h => h) (v := ?_) ?_ (by assumption) ?_
        rotate_left
        focus (intro wS hSw; skip; go_simp; (try with_reducible rfl))
        simp only [List.set_cons_zero, List.set_cons_succ]
        refine hr_take (i := 6) rfl rfl (by kernel_rfl) (by kernel_rfl) (by kernel_rfl) (by kernel_rfl) (fun _ _ _ h => h) (v := ?_) ?_ (by assumption) ?_
        rotate_left
        focus (intro wS hSw; skip; go_simp; (try with_reducible rfl))
        simp only [List.set_cons_zero, List.set_cons_succ]
        refine hr_op (i := 0) rfl rfl (by kernel_rfl) (by kernel_rfl) (fun K hK => ?_)
        refine wp_scr_load hNB rfl rfl ?_
        refine hK.out _ _ ?_ (fun hHeld => ?_)
        · ((try dsimp only); (first | exact hatd | exact hHeld | exact (Below.cell (p := ⟨bl, ol + k, none⟩) hg5 hlb).trans hHeld | (show World.cell? _ _ = _; unfold World.cell?; rw [setRow_other _ _ _ _ hbg]; exact hHeld)))
        clear hK K
        simp only [List.set_cons_zero, List.set_cons_succ]
        refine hr_op (i := 7) rfl rfl (by kernel_rfl) (by kernel_rfl) (fun K hK => ?_)
        (try go_simp)
        ((with_reducible refine (pw_print (n := l.length + 1) (q := q) (kp := 0) (a := lett l) (k := k) h1d hNB h3d h4 hm h6 HO.out (by omega) HKQ.out (by have := lett_b l k; omega) (by have := lett_b l k; omega) HLT.out).mono ?_); rintro e w5 ⟨S2, rfl, k1, hP2, hg5⟩)
        (try go_wp2_with fail)
        refine hK.out _ _ ?_ (fun hHeld => ?_)
        · ((try dsimp only); (first | exact hatd | exact hHeld | exact (Below.cell (p := ⟨bl, ol + k, none⟩) hg5 hlb).trans hHeld | (show World.cell? _ _ = _; unfold World.cell?; rw [setRow_other _ _ _ _ hbg]; exact hHeld)))
        clear hK K
        simp only [List.set_cons_zero, List.set_cons_succ]
        refine hr_op0 (i := 8) rfl (by kernel_rfl) (by kernel_rfl) (fun K hK => ?_)
        (refine wp_scr_store S2.s k1.isScr rfl rfl rfl rfl ?_)
        refine hK.out _ ?_ (fun hHeld => ?_)
        · ((try dsimp only); (first | exact hatd | exact hHeld | exact (Below.cell (p := ⟨bl, ol + k, none⟩) hg5 hlb).trans hHeld | (show World.cell? _ _ = _; unfold World.cell?; rw [setRow_other _ _ _ _ hbg]; exact hHeld)))
        clear hK K
        refine hr_done (by kernel_rfl) ?_
        go_wp2_with fail; go_roundw
        case rel => exact ⟨k + 1, by omega, by go_num, hP2⟩
        case measure =>
          simp [intOf]
          omega
      · obtain rfl : k = l.length := by omega
        clear HO hP
        have hgn : S1.s.gn = l.length + 1 := congrArg Md.n hm
        have hy : S1.s.y = (((l.length - 1) / q : Nat) : Int) := congrArg Md.y hm
        have hG : ct ∘ S1.F = prRow q (lett l) l.length := congrArg Md.G hm
        have hL : S1.L = [] := List.map_eq_nil_iff.1 (congrArg Md.K hm)
        have hkn : S1.s.kn = 0 := by
          have h := h3.2.2
          obtain ⟨A, cap, e, hcap⟩ := h.1.len
          injection e with _ e _
          rw [e, hL]
          rfl
        obtain ⟨bg, og, eA⟩ : ∃ bg og, S1.s.gA = some ⟨bg, og, none⟩ := by
          obtain ⟨b, o, e, _⟩ := h3.1.at_ (show 0 < (listG S1.s.gn S1.F).length by rw [listG_len, hgn]; omega)
          exact ⟨b, o, e⟩
        have hrd := h3.1
        rw [eA, hgn] at hrd
        have hC := SBlk.cells HS.out
        rw [eA, hgn, hy, hkn] at hC
        have HB := Lib.hid HS.out
        have hIS := SBlk.isScr HS.out
        have HH1 := Lib.hid h1
        have HEQ := Lib.hid (And.intro eA (And.intro hgn (And.intro hy hkn)))
        clear HS hm HMD h3 h4 eA hgn hy hkn
        go_upto_region 13 with fail
        generalize (.agg #[.slice S.s.gA S.s.gn S.s.gc, .int .i64 S.s.x, .int .i64 S.s.y, .bool S.s.wr, .bool S.s.og, .int .i64 S.s.fg, .int .i64 S.s.bg, .int .i64 S.s.fl, .int .u8 S.s.g0, .int .u8 S.s.g1, .int .u8 S.s.g2, .int .u8 S.s.g3, .int .i64 S.s.gl, .int .i64 S.s.gr, .int .i64 S.s.on, .int .i64 S.s.H, .int .i64 S.s.W, .int .i64 S.s.T, .int .i64 S.s.B, .slice S.s.tA S.s.tn S.s.tc, .int .i64 S.s.tw, .slice S.s.kA S.s.kn S.s.kc, .int .i64 S.s.kp, .int .i64 S.s.dir, .bool S.s.ex] : Value) = V1
        go_loopw [9] (fun i wz => ∃ k : Nat, k ≤ l.length ∧ i = .int .i64 k ∧ Below wr.heap.size wr wz) (fun i _ => l.length - (intOf i).toNat)
        case atStart => exact ⟨0, by omega, rfl, Below.refl _ _⟩
        case round =>
          obtain ⟨k, hk2, rfl, hbz⟩ := hrel
          have hBz : SBlk _ g S1.s := Blk.below HB.out hbz (Blk.lt HB.out)
          have hIz := SBlk.isScr hBz
          have hCz := SBlk.cells hBz
          rw [HEQ.out.1, HEQ.out.2.1, HEQ.out.2.2.1, HEQ.out.2.2.2] at hCz
          by_cases hlt : k < l.length
          · have hkI : (k : Int) < l.length := by omega
            obtain ⟨bl, ol, rfl, hbl, hcl⟩ := hcell (by omega)
            have hat := rdI_at (hx.below (HH1.out.trans (hbz.mono HH1.out.size))) hlt
            obtain ⟨Y, J, D, hY, hD, hm, hmI, hyl, hylI, hdm, hd1, hd2, hd3, hd4, hd5⟩ := at_facts (q := q) (L := l.length) (k := k) (by omega) (by omega) (by omega) hlt
            obtain ⟨⟨r0, r1, r2, r3⟩, hok, -⟩ := rdR_row (hrd.below hbz) (j := Y) hyl
            have hR : ct (S1.F Y) = prRow q (lett l) l.length Y := congrFun hG _
            have hRn : (S1.F Y).n = q := congrArg Ct.n hR
            have hRw : (S1.F Y).wb = decide (Y < D) := by rw [← hD]; exact congrArg Ct.wb hR
            have hRf : (S1.F Y).f J = ⟨33 + l.getD k 0 % 64, 0, 0, 1, 0, 0, 0⟩ := by
              refine (congrFun (congrArg Ct.f hR) J).trans ?_
              unfold prRow
              dsimp only
              rw [if_pos ⟨hm, by rw [hdm]; exact hlt⟩, hdm]
              rfl
            obtain ⟨bc, oc, eC, -, hc⟩ := rd_zero hok (j := J) (by rw [hRn]; exact hm)
            rw [hRf] at hc
            obtain ⟨c0, c1, c2, c3, c4, c5, c6⟩ := hc
            rw [eC, hRn] at r0
            obtain ⟨bw, hbw⟩ : ∃ bw, decide (Y < D) = bw := ⟨_, rfl⟩
            rw [hRw, hbw] at r1
            generalize l.getD k 0 = Z at hat c0
            have hwr : IntKind.i64.wrap (33 + Z % 64) = 33 + Z % 64 := IntWalk.i64_in _ (by omega)
            have hmk : bits .and .i64 Z 63 = Z % 64 := and_mask 6 (by omega) _
            have hnq := neq_cell ⟨33 + Z % 64, 0, 0, 1, 0, 0, 0⟩ ⟨33 + Z % 64, 0, 0, 1, 0, 0, 0⟩
            rw [decide_eq_true (show (⟨33 + Z % 64, 0, 0, 1, 0, 0, 0⟩ : Cl) = ⟨33 + Z % 64, 0, 0, 1, 0, 0, 0⟩ from rfl)] at hnq
            clear hdm hR hRn hRf hRw hcl hY hD hok eC
            go_upto_region 16 with fail
            go_quiet (fail)
            go_wp2_with fail
            go_roundw
            case rel => exact ⟨k + 1, by omega, by go_num, hbz.drewN' nq⟩
            case measure =>
              simp [intOf]
              omega
          · have hkI : ¬ (k : Int) < l.length := by omega
            obtain rfl : k = l.length := by omega
            have hw : Below w.heap.size w _ := HH1.out.trans (hbz.mono HH1.out.size)
            by_cases h0 : l.length = 0
            · have h0I : ((l.length : Int) == 0) = true := by simp [h0]
              have h0J : (l.length : Int) = 0 := by omega
              have HWB := Lib.hid hw
              clear hw h0
              go_upto_region 18 with fail
              go_quiet (fail)
              go_wp2_with fail
              refine bodyPost_ret (v := .bool true) (by simp [results, Try.results3, go_sem]) rfl ⟨rfl, Below.toGrow (HWB.out.drewN' nq)⟩
            · obtain ⟨Y, J, D, hY, hD, hm, hmI, hyl, hylI, hdm, hd1, hd2, hd3, hd4, hd5⟩ := at_facts (q := q) (L := l.length) (k := 0) (by omega) (by omega) (by omega) (by omega)
              have h0J : ¬ (l.length : Int) = 0 := by omega
              have h0I : ((l.length : Int) == 0) = false := by simpa using h0J
              rw [hD] at hCz
              have HWB := Lib.hid hw
              clear hw h0 hY hm hmI hyl hylI hdm hd1 hd2 hd4
              go_upto_region 18 with fail
              go_quiet (fail)
              go_wp2_with fail
              refine bodyPost_ret (v := .bool true) (by simp [results, Try.results3, go_sem]) rfl ⟨rfl, Below.toGrow (HWB.out.drewN' nq)⟩
end Go.Proofs.Ytlchffkabpfjpaa.Scr
