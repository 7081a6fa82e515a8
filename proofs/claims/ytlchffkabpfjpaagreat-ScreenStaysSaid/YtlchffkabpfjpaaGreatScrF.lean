/- lapwingref15.Few. -/
import Derived.Test.YtlchffkabpfjpaaGreatScrG
namespace Go.Proofs.YtlchffkabpfjpaaGreat.Scr
open Go.RowKit Go.Proofs.YtlchffkabpfjpaaGreat.Row
attribute [local go_sem] doc_cell doc_frozen
def few15 (Lg Lk : List Rw) (tn : Nat) : Bool := fewB Lg && (fewB Lk && decide (tn ≤ 200))
set_option maxRecDepth 100000 in
set_option maxHeartbeats 4000000 in
theorem few15_c (s : Sc) (Lg Lk : List Rw) (w : World) (hg : RdR0 w (.slice s.gA s.gn s.gc) Lg) (hk : RdR0 w (.slice s.kA s.kn s.kc) Lk) (hgl : Lg.length ≤ maxLen) (hkl : Lk.length ≤ maxLen) : Calls Tryz.prog 5 #[.agg #[.slice s.gA s.gn s.gc, .int .i64 s.x, .int .i64 s.y, .bool s.wr, .bool s.og, .int .i64 s.fg, .int .i64 s.bg, .int .i64 s.fl, .int .u8 s.g0, .int .u8 s.g1, .int .u8 s.g2, .int .u8 s.g3, .int .i64 s.gl, .int .i64 s.gr, .int .i64 s.on, .int .i64 s.H, .int .i64 s.W, .int .i64 s.T, .int .i64 s.B, .slice s.tA s.tn s.tc, .int .i64 s.tw, .slice s.kA s.kn s.kc, .int .i64 s.kp, .int .i64 s.dir, .bool s.ex]] w fun e w' => e = .returned (.bool (few15 Lg Lk s.tn)) ∧ Grew w w' := by
  have HS : Hid (few15 Lg Lk s.tn = (fewB Lg && (fewB Lk && decide (s.tn ≤ 200)))) := rfl
  generalize few15 Lg Lk s.tn = R at *
  have HGL := Lib.hid hgl
  have HKL := Lib.hid hkl
  go_enter Tryz.func5, Tryz.ntmps5
  go_upto_region 1 with fail
  generalize hW : w.alloc _ = W
  have hD : DBlk W w.heap.size s := by rw [← hW]; exact Blk.new _ _ _
  have hbW : Below w.heap.size w W := by rw [← hW]; exact (Below.refl _ _).alloc (Nat.le_refl _) _
  have HG := Lib.hid (hg.below hbW)
  have HK := Lib.hid (hk.below hbW)
  have HBW := Lib.hid hbW
  have qS := DBlk.isDoc hD
  have qL := DBlk.cells hD
  clear hW hg hk hgl hkl hbW hD
  cases h1 : fewB Lg
  · have H1 := Lib.hid h1
    obtain rfl : R = false := by rw [HS.out, h1]; rfl
    clear h1 HS
    go_wp2_with (first | (go_at_call 13; (with_reducible refine (few_c (.slice s.gA s.gn s.gc) Lg _ (HG.out.below (by exact bcAll)) HGL.out).mono ?_); rw [H1.out]; rintro e w1 ⟨rfl, rfl⟩) | (go_at_call 13; (with_reducible refine (few_c (.slice s.kA s.kn s.kc) Lk _ (HK.out.below (by exact bcAll)) HKL.out).mono ?_); rw [H2.out]; rintro e w1 ⟨rfl, rfl⟩))
    exact bodyPost_ret (v := .bool false) (by simp [results, Tryz.results5, go_sem]) rfl ⟨rfl, Below.toGrow HBW.out⟩
  · have H1 := Lib.hid h1
    cases h2 : fewB Lk
    · have H2 := Lib.hid h2
      obtain rfl : R = false := by rw [HS.out, h1, h2]; rfl
      clear h1 h2 HS
      go_wp2_with (first | (go_at_call 13; (with_reducible refine (few_c (.slice s.gA s.gn s.gc) Lg _ (HG.out.below (by exact bcAll)) HGL.out).mono ?_); rw [H1.out]; rintro e w1 ⟨rfl, rfl⟩) | (go_at_call 13; (with_reducible refine (few_c (.slice s.kA s.kn s.kc) Lk _ (HK.out.below (by exact bcAll)) HKL.out).mono ?_); rw [H2.out]; rintro e w1 ⟨rfl, rfl⟩))
      exact bodyPost_ret (v := .bool false) (by simp [results, Tryz.results5, go_sem]) rfl ⟨rfl, Below.toGrow HBW.out⟩
    · have H2 := Lib.hid h2
      obtain ⟨tb, htb⟩ : ∃ tb, decide ((s.tn : Int) ≤ 200) = tb := ⟨_, rfl⟩
      obtain rfl : R = tb := by
        rw [HS.out, h1, h2, ← htb]
        show decide (s.tn ≤ 200) = _
        rw [decide_eq_decide]
        omega
      clear h1 h2 HS
      go_wp2_with (first | (go_at_call 13; (with_reducible refine (few_c (.slice s.gA s.gn s.gc) Lg _ (HG.out.below (by exact bcAll)) HGL.out).mono ?_); rw [H1.out]; rintro e w1 ⟨rfl, rfl⟩) | (go_at_call 13; (with_reducible refine (few_c (.slice s.kA s.kn s.kc) Lk _ (HK.out.below (by exact bcAll)) HKL.out).mono ?_); rw [H2.out]; rintro e w1 ⟨rfl, rfl⟩))
      exact bodyPost_ret (v := .bool R) (by simp [results, Tryz.results5, go_sem]) rfl ⟨rfl, Below.toGrow HBW.out⟩
end Go.Proofs.YtlchffkabpfjpaaGreat.Scr
