/- lapwinglaw15.ScreenKeeps, joined. -/
import Derived.Test.YtlchffkabpfjpaaScrN
namespace Go.Proofs.Ytlchffkabpfjpaa.Scr
open Go.RowKit Go.Proofs.Ytlchffkabpfjpaa.Row
theorem i64_rng {n : Int} (h : (Lit.int .i64 n).wf = true) : -9223372036854775808 ≤ n ∧ n ≤ 9223372036854775807 := by
  simpa [Lit.wf, IntKind.min, IntKind.max, IntKind.signed, IntKind.bits] using h
theorem few15_both {Lg Lk : List Rw} {n : Nat} (h : few15 Lg Lk n = true) : fewB Lg = true ∧ fewB Lk = true := by
  unfold few15 at h
  simp only [Bool.and_eq_true] at h
  exact ⟨h.1, h.2.1⟩
theorem keeps_law (s : Sc) (Lg Lk : List Rw) (zs : List Int) (z : Int) (w : World) (hg : RdR0 w (.slice s.gA s.gn s.gc) Lg) (hgl : Lg.length ≤ maxLen) (ht : RdI w (.slice s.tA s.tn s.tc) zs) (hk : RdR0 w (.slice s.kA s.kn s.kc) Lk) (hkl : Lk.length ≤ maxLen) (hwf : (Lit.int .i64 s.W).wf = true) :
    Calls Try.prog 4 #[.agg #[.slice s.gA s.gn s.gc, .int .i64 s.x, .int .i64 s.y, .bool s.wr, .bool s.og, .int .i64 s.fg, .int .i64 s.bg, .int .i64 s.fl, .int .u8 s.g0, .int .u8 s.g1, .int .u8 s.g2, .int .u8 s.g3, .int .i64 s.gl, .int .i64 s.gr, .int .i64 s.on, .int .i64 s.H, .int .i64 s.W, .int .i64 s.T, .int .i64 s.B, .slice s.tA s.tn s.tc, .int .i64 s.tw, .slice s.kA s.kn s.kc, .int .i64 s.kp, .int .i64 s.dir, .bool s.ex], .int .i64 z] w fun e w' => e = .returned (.bool true) ∧ Grew w w' := by
  obtain ⟨hW2, hW1⟩ := i64_rng hwf
  by_cases h1 : few15 Lg Lk s.tn = true
  · obtain ⟨A, cap, e, -⟩ := hg.1.len
    have hn : s.gn = Lg.length := by injection e
    obtain ⟨F, hF⟩ : ∃ F, listG s.gn F = Lg := ⟨fun i => Lg.getD i nilRw, by rw [hn]; exact listG_getD Lg⟩
    subst hF
    obtain ⟨f1, f2⟩ := few15_both h1
    have hr : Sn.rd ⟨s, F, zs, Lk⟩ w := ⟨hg.few f1, ht, hk.few f2⟩
    cases h2 : (Sn.md ⟨s, F, zs, Lk⟩).sane with
    | false => exact keeps_insane s F zs Lk z w hr hg hk hW1 hW2 h1 h2
    | true =>
      by_cases hT : s.T = 0
      · exact keeps_top s F zs Lk z w hr hg hk hW1 hW2 h1 (Md.sane_iff.1 h2) hT
      · exact keeps_other s F zs Lk z w hr hg hk hW1 hW2 h1 (Md.sane_iff.1 h2) hT
  · exact keeps_few s Lg Lk zs z w hg hgl ht hk hkl hW1 hW2 (by simpa using h1)
end Go.Proofs.Ytlchffkabpfjpaa.Scr
