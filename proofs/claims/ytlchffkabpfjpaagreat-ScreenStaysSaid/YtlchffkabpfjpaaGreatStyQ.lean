/- lapwinglaw15.ScreenStays, joined. -/
import Derived.Test.YtlchffkabpfjpaaGreatStyP
import Derived.Test.YtlchffkabpfjpaaGreatJB
namespace Go.Proofs.YtlchffkabpfjpaaGreat.Scr
open Go.RowKit Go.Proofs.YtlchffkabpfjpaaGreat.Row
theorem i64_rng {n : Int} (h : (Lit.int .i64 n).wf = true) : -9223372036854775808 ≤ n ∧ n ≤ 9223372036854775807 := by
  simpa [Lit.wf, IntKind.min, IntKind.max, IntKind.signed, IntKind.bits] using h
theorem few15_both {Lg Lk : List Rw} {n : Nat} (h : few15 Lg Lk n = true) : fewB Lg = true ∧ fewB Lk = true := by
  unfold few15 at h
  simp only [Bool.and_eq_true] at h
  exact ⟨h.1, h.2.1⟩
theorem stays_law (s : Sc) (Lg Lk : List Rw) (zs : List Int) (o a b : Int) (i u : Bool) (p q r : Int) (w : World) (hg : RdR0 w (.slice s.gA s.gn s.gc) Lg) (hgl : Lg.length ≤ maxLen) (ht : RdI w (.slice s.tA s.tn s.tc) zs) (hk : RdR0 w (.slice s.kA s.kn s.kc) Lk) (hkl : Lk.length ≤ maxLen) (hwf : (Lit.int .i64 s.W).wf = true) (hwa : (Lit.int .i64 a).wf = true) :
    Calls Tryz.prog 3 #[.agg #[.slice s.gA s.gn s.gc, .int .i64 s.x, .int .i64 s.y, .bool s.wr, .bool s.og, .int .i64 s.fg, .int .i64 s.bg, .int .i64 s.fl, .int .u8 s.g0, .int .u8 s.g1, .int .u8 s.g2, .int .u8 s.g3, .int .i64 s.gl, .int .i64 s.gr, .int .i64 s.on, .int .i64 s.H, .int .i64 s.W, .int .i64 s.T, .int .i64 s.B, .slice s.tA s.tn s.tc, .int .i64 s.tw, .slice s.kA s.kn s.kc, .int .i64 s.kp, .int .i64 s.dir, .bool s.ex], .agg #[.int .i64 o, .int .i64 a, .int .i64 b, .bool i, .bool u, .int .i64 p, .int .i64 q, .int .i64 r]] w fun e w' => e = .returned (.bool true) ∧ Grew w w' := by
  obtain ⟨hW2, hW1⟩ := i64_rng hwf
  obtain ⟨ha1, ha2⟩ := i64_rng hwa
  by_cases h1 : few15 Lg Lk s.tn = true
  · obtain ⟨A, cap, e, -⟩ := hg.1.len
    have hn : s.gn = Lg.length := by injection e
    obtain ⟨F, hF⟩ : ∃ F, listG s.gn F = Lg := ⟨fun i => Lg.getD i nilRz, by rw [hn]; exact listG_getDz Lg⟩
    subst hF
    obtain ⟨f1, f2⟩ := few15_both h1
    have hr : Sn.rd ⟨s, F, zs, Lk⟩ w := ⟨hg.few f1, ht, hk.few f2⟩
    cases h2 : (Sn.md ⟨s, F, zs, Lk⟩).sane with
    | false => exact stays_insane s F zs Lk o a b i u p q r w hr hg hk hW1 hW2 h1 h2
    | true =>
      by_cases h3 : o < 0
      · exact stays_low s F zs Lk o a b i u p q r w hr hg hk hW1 hW2 h1 h2 h3
      · by_cases h4 : 13 < o
        · exact stays_high s F zs Lk o a b i u p q r w hr hg hk hW1 hW2 h1 h2 h4
        · by_cases h5 : o = 13
          · exact stays_13 s F zs Lk o a b i u p q r w hr hg hk hW1 hW2 h1 (Md.sane_iff.1 h2) (by omega) (by omega) ha1 ha2 h5
          · exact stays_main s F zs Lk o a b i u p q r w hr hg hk hW1 hW2 h1 (Md.sane_iff.1 h2) (by omega) (by omega) ha1 ha2 h5
  · exact stays_few s Lg Lk o a b i u p q r w hg hgl hk hkl (by simpa using h1)
section
open Go.ChangeShapes Go.WideShapes Go.ChangeAt
theorem leavesAct : Tryz.prog.cellTypes Tryz.prog.depth 42 = some [3, 3, 3, 4, 4, 3, 3, 3] := by kernel_rfl
theorem cellsAct : Tryz.prog.cellsOf 42 = 8 := by kernel_rfl
set_option maxRecDepth 100000 in
theorem act15_open {W0 : World} {base : Nat} {v : Value} (h : Value.okWide Tryz.prog W0 .any base 42 v) :
    ∃ (o a b : Int) (i u : Bool) (p q r : Int), v = .agg #[.int .i64 o, .int .i64 a, .int .i64 b, .bool i, .bool u, .int .i64 p, .int .i64 q, .int .i64 r] ∧ (Lit.int .i64 a).wf = true := by
  obtain ⟨cs, rfl, hlen, hc⟩ := agg_cells Tryz.underlying42 leavesAct cellsAct h
  match cs, hlen with
  | [c0, c1, c2, c3, c4, c5, c6, c7], _ =>
    obtain ⟨o, rfl, -⟩ := cell_int Tryz.underlying3 (hc 0 _ _ rfl rfl)
    obtain ⟨a, rfl, wa⟩ := cell_int Tryz.underlying3 (hc 1 _ _ rfl rfl)
    obtain ⟨b, rfl, -⟩ := cell_int Tryz.underlying3 (hc 2 _ _ rfl rfl)
    obtain ⟨i, rfl⟩ := cell_bool Tryz.underlying4 (hc 3 _ _ rfl rfl)
    obtain ⟨u, rfl⟩ := cell_bool Tryz.underlying4 (hc 4 _ _ rfl rfl)
    obtain ⟨p, rfl, -⟩ := cell_int Tryz.underlying3 (hc 5 _ _ rfl rfl)
    obtain ⟨q, rfl, -⟩ := cell_int Tryz.underlying3 (hc 6 _ _ rfl rfl)
    obtain ⟨r, rfl, -⟩ := cell_int Tryz.underlying3 (hc 7 _ _ rfl rfl)
    exact ⟨o, a, b, i, u, p, q, r, rfl, wa⟩
end
end Go.Proofs.YtlchffkabpfjpaaGreat.Scr
