/- screen.used. -/
import Derived.Test.YtlchffkabpfjpaaRszQ
import Derived.Test.YtlchffkabpfjpaaScrW
namespace Go.Proofs.Ytlchffkabpfjpaa.Scr
open Go.RowKit Go.Proofs.Ytlchffkabpfjpaa.Row
attribute [local go_sem ↓] scr_load_pre scr_store_pre
attribute [local go_sem] scr_cell scr_frozen
theorem used_nums {s : Sc} {F : Nat → Rw} {zs : List Int} {L : List Rw} (h : (Sn.md ⟨s, F, zs, L⟩).Ok) : wrap64 (s.y + 1) = s.y + 1 ∧ 0 ≤ s.y ∧ s.y < s.H ∧ (s.gn : Int) = s.H ∧ s.gn ≤ 1000 := by
  obtain ⟨f1, f2, w1, w2, t0, tb, bh, x0, x1, y0, y1, -, -⟩ := h.cf
  have := h.nH
  dsimp only [Sn.md] at *
  exact ⟨IntWalk.wrap64_in _ (by omega), y0, y1, this, by omega⟩
theorem used_wrap {j n : Nat} (h : j + 1 ≤ n) (h2 : n ≤ 1000) : wrap64 (j : Int) = (j : Int) := IntWalk.wrap64_in _ (by omega)
theorem used_step {s : Sc} {F : Nat → Rw} {j : Nat} (h : ∀ i, j + 1 ≤ i → i < s.gn → lenF (F i).f (F i).n = 0) (h2 : lenF (F j).f (F j).n = 0) : ∀ i, j ≤ i → i < s.gn → lenF (F i).f (F i).n = 0 := fun i hi hn => by
  by_cases e : i = j
  · rw [e]; exact h2
  · exact h i (by omega) hn
theorem used_y {y : Int} {j : Nat} (h : y < ((j + 1 : Nat) : Int)) : y ≤ (j : Int) := by omega
theorem used_lo {y : Int} {j : Nat} (h : y < (j : Int)) : y + 1 ≤ ((j + 1 : Nat) : Int) := by omega
theorem used_lo2 {y : Int} {j : Nat} (h : y = (j : Int)) : y + 1 ≤ ((j + 1 : Nat) : Int) := by omega
theorem used_eq {y : Int} {j : Nat} (h : y = (j : Int)) : ((j + 1 : Nat) : Int) = y + 1 := by omega
theorem used_meas (j : Nat) : (intOf (.int .i64 ((j + 1 : Nat) : Int))).toNat < (intOf (.int .i64 (((j + 1 : Nat) : Int) + 1))).toNat := by
  simp [intOf]
  omega
set_option maxRecDepth 100000 in
set_option maxHeartbeats 4000000 in
theorem used_c (S : Sn) (w : World) (hO : S.md.Ok) (hr : S.rd w) : Calls Try.prog 44 #[.agg #[.slice S.s.gA S.s.gn S.s.gc, .int .i64 S.s.x, .int .i64 S.s.y, .bool S.s.wr, .bool S.s.og, .int .i64 S.s.fg, .int .i64 S.s.bg, .int .i64 S.s.fl, .int .u8 S.s.g0, .int .u8 S.s.g1, .int .u8 S.s.g2, .int .u8 S.s.g3, .int .i64 S.s.gl, .int .i64 S.s.gr, .int .i64 S.s.on, .int .i64 S.s.H, .int .i64 S.s.W, .int .i64 S.s.T, .int .i64 S.s.B, .slice S.s.tA S.s.tn S.s.tc, .int .i64 S.s.tw, .slice S.s.kA S.s.kn S.s.kc, .int .i64 S.s.kp, .int .i64 S.s.dir, .bool S.s.ex]] w fun e w' => ∃ k : Nat, e = .returned (.int .i64 k) ∧ UsedP S k ∧ Below w.heap.size w w' := by
  have HR := Lib.hid hr
  have HO := Lib.hid hO
  obtain ⟨s, F, zs, L⟩ := S
  obtain ⟨n1, n2, n3, n4, n5⟩ := used_nums hO
  have HN4 := Lib.hid n4
  have HN5 := Lib.hid n5
  have HN2 := Lib.hid n2
  have HY3 := Lib.hid n3
  clear hr hO n2 n3 n4 n5
  dsimp only at *
  go_enter Try.func44, Try.ntmps44
  go_upto_region 1 with fail
  generalize hW : w.alloc _ = W
  have hbW : Below w.heap.size w W := by rw [← hW]; exact (Below.refl _ _).alloc (Nat.le_refl _) _
  have hX : SBlk W w.heap.size s := by rw [← hW]; exact Blk.new _ _ _
  have HX := Lib.hid hX
  have HBW := Lib.hid hbW
  have HRW := Lib.hid (HR.out.below hbW)
  have xS := SBlk.isScr hX
  have xL := SBlk.cells hX
  have hz : w.heap.size < W.heap.size := Blk.lt hX
  clear hW hbW hX
  go_upto_region 2 with fail
  clear xS xL
  have hH : s.H = ((s.gn - 1 : Nat) : Int) + 1 := by have := HN4.out; have := HN2.out; have := HY3.out; omega
  generalize (.agg #[.slice s.gA s.gn s.gc, .int .i64 s.x, .int .i64 s.y, .bool s.wr, .bool s.og, .int .i64 s.fg, .int .i64 s.bg, .int .i64 s.fl, .int .u8 s.g0, .int .u8 s.g1, .int .u8 s.g2, .int .u8 s.g3, .int .i64 s.gl, .int .i64 s.gr, .int .i64 s.on, .int .i64 s.H, .int .i64 s.W, .int .i64 s.T, .int .i64 s.B, .slice s.tA s.tn s.tc, .int .i64 s.tw, .slice s.kA s.kn s.kc, .int .i64 s.kp, .int .i64 s.dir, .bool s.ex] : Value) = V0
  rw [hH]
  have hsg : (s.y : Int) ≤ ((s.gn - 1 : Nat) : Int) := by have := HN4.out; have := HY3.out; omega
  have hsn : s.gn - 1 + 1 ≤ s.gn := by have := HN4.out; have := HN2.out; have := HY3.out; omega
  clear hH
  go_loopw [3] (fun i wz => ∃ j : Nat, i = .int .i64 ((j : Int) + 1) ∧ s.y ≤ (j : Int) ∧ j + 1 ≤ s.gn ∧ Hid (∀ i, j + 1 ≤ i → i < s.gn → lenF (F i).f (F i).n = 0) ∧ Below W.heap.size W wz) (fun i _ => (intOf i).toNat)
  case atStart => exact ⟨s.gn - 1, rfl, hsg, hsn, Lib.hid (fun i h1 h2 => by omega), Below.refl _ _⟩
  case round =>
    obtain ⟨j, rfl, hyj, hjn, HNO, hb⟩ := hrel
    have hX := Blk.below HX.out hb (Blk.lt HX.out)
    have xS := SBlk.isScr hX
    have xL := SBlk.cells hX
    have HB := Lib.hid hb
    by_cases hlt : s.y < (j : Int)
    · have hd : decide (s.y + 1 < (j : Int) + 1) = true := decide_eq_true (by omega)
      have hRG := (HRW.out.below hb).1
      obtain ⟨bg, og, eA⟩ : ∃ bg og, s.gA = some ⟨bg, og, none⟩ := by
        obtain ⟨b, o, e, _⟩ := hRG.at_ (show j < (listG s.gn F).length by rw [listG_len]; omega)
        exact ⟨b, o, e⟩
      dsimp only at hRG
      rw [eA] at hRG xL
      obtain ⟨⟨p0, p1, p2, p3⟩, hof, lb⟩ := rdR_row hRG (j := j) (by omega)
      have HOF := Lib.hid hof
      have HSN : Hid (saneB (F j).n (F j).f (F j).dir = true) := Lib.hid (HO.out.rowz (show j < s.gn by omega))
      have hjI : (j : Int) < (s.gn : Int) := by omega
      have hj0 : (0 : Int) ≤ (j : Int) := by omega
      have hwj := used_wrap hjn HN5.out
      have HJN := Lib.hid hjn
      have HLT := Lib.hid hlt
      clear hof hRG eA hX hb hjn hyj hlt
      go_upto_if 23 with fail
      refine (length_c (F j).A (F j).n (F j).cap (F j).f (F j).wb (F j).dir (F j).ex _ HOF.out.1 HSN.out).mono ?_
      rintro e w5 ⟨rfl, hg5⟩
      have HB5 := Lib.hid (HB.out.trans (hg5.mono HB.out.size))
      have hX := Blk.below HX.out HB5.out (Blk.lt HX.out)
      clear p0 p1 p2 p3 lb hg5 xS xL
      have xS := SBlk.isScr hX
      have xL := SBlk.cells hX
      by_cases h0 : lenF (F j).f (F j).n = 0
      · have HNO2 := Lib.hid (used_step HNO.out h0)
        have h0' : (lenF (F j).f (F j).n == 0) = true := by simpa using h0
        rw [h0] at h0' ⊢
        obtain ⟨j', rfl⟩ : ∃ j', j = j' + 1 := ⟨j - 1, by have := HLT.out; have := HN2.out; omega⟩
        have hwk : wrap64 ((j' : Int) + 1) = (j' : Int) + 1 := by simpa using hwj
        clear h0 hd hjI hj0 xS xL hX
        go_wp2_with fail
        go_roundw
        case rel => exact ⟨j', by rw [hwk], used_y HLT.out, Nat.le_of_succ_le HJN.out, HNO2, HB5.out⟩
        case measure =>
          rw [hwk]
          exact used_meas j'
      · have h0' : (lenF (F j).f (F j).n == 0) = false := by simpa using h0
        have HL0 := Lib.hid h0
        clear h0 hd hjI hj0
        generalize lenF (F j).f (F j).n = lz at h0'
        go_wp2_with fail
        exact bodyPost_ret (v := .int .i64 ((j : Int) + 1)) (by simp [results, Try.results44, go_sem]) rfl ⟨j + 1, rfl, ⟨used_lo HLT.out, HJN.out, HNO.out, Or.inr (by simpa using HL0.out)⟩, HBW.out.trans (HB5.out.mono HBW.out.size)⟩
    · have hd : decide (s.y + 1 < (j : Int) + 1) = false := decide_eq_false (by omega)
      have HYE : Hid (s.y = (j : Int)) := Lib.hid (by omega)
      have HJN := Lib.hid hjn
      clear hb hyj hjn
      go_wp2_with fail
      exact bodyPost_ret (v := .int .i64 ((j : Int) + 1)) (by simp [results, Try.results44, go_sem]) rfl ⟨j + 1, rfl, ⟨used_lo2 HYE.out, HJN.out, HNO.out, Or.inl (used_eq HYE.out)⟩, HBW.out.trans (HB.out.mono HBW.out.size)⟩
end Go.Proofs.Ytlchffkabpfjpaa.Scr
