/- The document's screen as it comes in, by value. -/
import Derived.Test.YtlchffkabpfjpaaScrF
import Derived.Test.YtlchffkabpfjpaaLstOpen
import Derived.Test.YtlchffkabpfjpaaIntsO
namespace Go.Proofs.Ytlchffkabpfjpaa.Scr
open Go.ChangeShapes Go.WideShapes Go.ChangeAt Go.RowKit Go.Proofs.Ytlchffkabpfjpaa.Row
theorem leaves15 : Try.prog.cellTypes Try.prog.depth 59 = some [24, 3, 3, 4, 4, 3, 3, 3, 5, 5, 5, 5, 3, 3, 3, 3, 3, 3, 3, 22, 3, 24, 3, 3, 4] := by kernel_rfl
theorem cells15 : Try.prog.cellsOf 59 = 25 := by kernel_rfl
theorem cells_g9 : Try.prog.cellsOf 51 = 1 := by kernel_rfl
theorem cells_s12 : Try.prog.cellsOf 56 = 2 := by kernel_rfl
theorem cells_k10 : Try.prog.cellsOf 57 = 2 := by kernel_rfl
theorem cells_rw : Try.prog.cellsOf 24 = 1 := by kernel_rfl
theorem cells_is : Try.prog.cellsOf 22 = 1 := by kernel_rfl
section
variable {H : Type} {enc : TypeId × Value → H}
theorem some_at {α : Type} {xs : List α} {n i : Nat} (h : xs.length = n) (hi : i < n) : ∃ y, xs[i]? = some y := ⟨_, List.getElem?_eq_getElem (by omega)⟩
set_option maxRecDepth 100000 in
set_option maxHeartbeats 2000000 in
theorem doc_open {W0 : World} {base : Nat} {v : Value} {d : DataW H} {p : List MemPlace} (h : Value.okWide Try.prog W0 .any base 59 v) (ht : DataW.Trod enc Try.prog W0 0 (fun _ => true) true 59 v d p) :
    ∃ (s : Sc) (Lg Lk : List Rw) (zs : List Int), v = .agg #[.slice s.gA s.gn s.gc, .int .i64 s.x, .int .i64 s.y, .bool s.wr, .bool s.og, .int .i64 s.fg, .int .i64 s.bg, .int .i64 s.fl, .int .u8 s.g0, .int .u8 s.g1, .int .u8 s.g2, .int .u8 s.g3, .int .i64 s.gl, .int .i64 s.gr, .int .i64 s.on, .int .i64 s.H, .int .i64 s.W, .int .i64 s.T, .int .i64 s.B, .slice s.tA s.tn s.tc, .int .i64 s.tw, .slice s.kA s.kn s.kc, .int .i64 s.kp, .int .i64 s.dir, .bool s.ex] ∧ RdR0 W0 (.slice s.gA s.gn s.gc) Lg ∧ Lg.length ≤ maxLen ∧ RdI W0 (.slice s.tA s.tn s.tc) zs ∧ RdR0 W0 (.slice s.kA s.kn s.kc) Lk ∧ Lk.length ≤ maxLen ∧ (Lit.int .i64 s.W).wf = true := by
  obtain ⟨cs, rfl, hlen, hc⟩ := agg_cells Try.underlying59 leaves15 cells15 h
  obtain ⟨fuel, hf⟩ := ht
  match cs, hlen with
  | [c0, c1, c2, c3, c4, c5, c6, c7, c8, c9, c10, c11, c12, c13, c14, c15, c16, c17, c18, c19, c20, c21, c22, c23, c24], _ =>
    obtain ⟨x, rfl, w1⟩ := cell_int Try.underlying3 (hc 1 _ _ rfl rfl)
    obtain ⟨y, rfl, w2⟩ := cell_int Try.underlying3 (hc 2 _ _ rfl rfl)
    obtain ⟨wr, rfl⟩ := cell_bool Try.underlying4 (hc 3 _ _ rfl rfl)
    obtain ⟨og, rfl⟩ := cell_bool Try.underlying4 (hc 4 _ _ rfl rfl)
    obtain ⟨fg, rfl, w5⟩ := cell_int Try.underlying3 (hc 5 _ _ rfl rfl)
    obtain ⟨bg, rfl, w6⟩ := cell_int Try.underlying3 (hc 6 _ _ rfl rfl)
    obtain ⟨fl, rfl, w7⟩ := cell_int Try.underlying3 (hc 7 _ _ rfl rfl)
    obtain ⟨g0, rfl, w8⟩ := cell_int Try.underlying5 (hc 8 _ _ rfl rfl)
    obtain ⟨g1, rfl, w9⟩ := cell_int Try.underlying5 (hc 9 _ _ rfl rfl)
    obtain ⟨g2, rfl, w10⟩ := cell_int Try.underlying5 (hc 10 _ _ rfl rfl)
    obtain ⟨g3, rfl, w11⟩ := cell_int Try.underlying5 (hc 11 _ _ rfl rfl)
    obtain ⟨gl, rfl, w12⟩ := cell_int Try.underlying3 (hc 12 _ _ rfl rfl)
    obtain ⟨gr, rfl, w13⟩ := cell_int Try.underlying3 (hc 13 _ _ rfl rfl)
    obtain ⟨on, rfl, w14⟩ := cell_int Try.underlying3 (hc 14 _ _ rfl rfl)
    obtain ⟨H, rfl, w15⟩ := cell_int Try.underlying3 (hc 15 _ _ rfl rfl)
    obtain ⟨W, rfl, w16⟩ := cell_int Try.underlying3 (hc 16 _ _ rfl rfl)
    obtain ⟨T, rfl, w17⟩ := cell_int Try.underlying3 (hc 17 _ _ rfl rfl)
    obtain ⟨B, rfl, w18⟩ := cell_int Try.underlying3 (hc 18 _ _ rfl rfl)
    obtain ⟨tw, rfl, w20⟩ := cell_int Try.underlying3 (hc 20 _ _ rfl rfl)
    obtain ⟨kp, rfl, w22⟩ := cell_int Try.underlying3 (hc 22 _ _ rfl rfl)
    obtain ⟨dir, rfl, w23⟩ := cell_int Try.underlying3 (hc 23 _ _ rfl rfl)
    obtain ⟨ex, rfl⟩ := cell_bool Try.underlying4 (hc 24 _ _ rfl rfl)
    obtain ⟨xs, n, _, _, _, hxl, hg⟩ := DataW.trod_struct Try.underlying59 hf
    obtain ⟨y0, e0⟩ := some_at (i := 0) hxl (by decide)
    obtain ⟨y3, e3⟩ := some_at (i := 3) hxl (by decide)
    obtain ⟨y4, e4⟩ := some_at (i := 4) hxl (by decide)
    have h0 : DataW.trod enc Try.prog W0 0 (fun _ => true) true n 51 (([c0, (.int .i64 x : Value), (.int .i64 y : Value), (.bool wr : Value), (.bool og : Value), (.int .i64 fg : Value), (.int .i64 bg : Value), (.int .i64 fl : Value), (.int .u8 g0 : Value), (.int .u8 g1 : Value), (.int .u8 g2 : Value), (.int .u8 g3 : Value), (.int .i64 gl : Value), (.int .i64 gr : Value), (.int .i64 on : Value), (.int .i64 H : Value), (.int .i64 W : Value), (.int .i64 T : Value), (.int .i64 B : Value), c19, (.int .i64 tw : Value), c21, (.int .i64 kp : Value), (.int .i64 dir : Value), (.bool ex : Value)].drop 0).take (Try.prog.cellsOf 51)) = xs[0]? := hg 0 _ rfl
    have h3 : DataW.trod enc Try.prog W0 0 (fun _ => true) true n 56 (([c0, (.int .i64 x : Value), (.int .i64 y : Value), (.bool wr : Value), (.bool og : Value), (.int .i64 fg : Value), (.int .i64 bg : Value), (.int .i64 fl : Value), (.int .u8 g0 : Value), (.int .u8 g1 : Value), (.int .u8 g2 : Value), (.int .u8 g3 : Value), (.int .i64 gl : Value), (.int .i64 gr : Value), (.int .i64 on : Value), (.int .i64 H : Value), (.int .i64 W : Value), (.int .i64 T : Value), (.int .i64 B : Value), c19, (.int .i64 tw : Value), c21, (.int .i64 kp : Value), (.int .i64 dir : Value), (.bool ex : Value)].drop 19).take (Try.prog.cellsOf 56)) = xs[3]? := hg 3 _ rfl
    have h4 : DataW.trod enc Try.prog W0 0 (fun _ => true) true n 57 (([c0, (.int .i64 x : Value), (.int .i64 y : Value), (.bool wr : Value), (.bool og : Value), (.int .i64 fg : Value), (.int .i64 bg : Value), (.int .i64 fl : Value), (.int .u8 g0 : Value), (.int .u8 g1 : Value), (.int .u8 g2 : Value), (.int .u8 g3 : Value), (.int .i64 gl : Value), (.int .i64 gr : Value), (.int .i64 on : Value), (.int .i64 H : Value), (.int .i64 W : Value), (.int .i64 T : Value), (.int .i64 B : Value), c19, (.int .i64 tw : Value), c21, (.int .i64 kp : Value), (.int .i64 dir : Value), (.bool ex : Value)].drop 21).take (Try.prog.cellsOf 57)) = xs[4]? := hg 4 _ rfl
    rw [e0, cells_g9] at h0
    rw [e3, cells_s12] at h3
    rw [e4, cells_k10] at h4
    simp only [List.drop_zero, List.drop_succ_cons, List.take_succ_cons, List.take_zero] at h0 h3 h4
    obtain ⟨u0, m0, _, _, k0⟩ := trod_struct1 Try.underlying51 h0
    obtain ⟨u3, v3, m3, _, _, k3, _⟩ := trod_struct2 Try.underlying56 h3
    obtain ⟨u4, v4, m4, _, _, k4, _⟩ := trod_struct2 Try.underlying57 h4
    dsimp only at k0 k3 k4
    rw [cells_rw] at k0 k4
    rw [cells_is] at k3
    simp only [List.drop_zero, List.take_succ_cons, List.take_zero] at k0 k3 k4
    obtain ⟨a0, Lg, q0, r0, l0⟩ := rows_open k0
    obtain ⟨a3, zs, q3, r3⟩ := Tab.ints_open k3
    obtain ⟨a4, Lk, q4, r4, l4⟩ := rows_open k4
    obtain rfl : c0 = a0 := by simpa using q0
    obtain rfl : c19 = a3 := by simpa using q3
    obtain rfl : c21 = a4 := by simpa using q4
    obtain ⟨A0, p0, rfl, -⟩ := r0.1.len
    obtain ⟨A3, p3, rfl, -⟩ := id r3
    obtain ⟨A4, p4, rfl, -⟩ := r4.1.len
    exact ⟨⟨A0, Lg.length, p0, x, y, wr, og, fg, bg, fl, g0, g1, g2, g3, gl, gr, on, H, W, T, B, A3, zs.length, p3, tw, A4, Lk.length, p4, kp, dir, ex⟩, Lg, Lk, zs, rfl, r0, l0, r3, r4, l4, w16⟩
end
end Go.Proofs.Ytlchffkabpfjpaa.Scr
