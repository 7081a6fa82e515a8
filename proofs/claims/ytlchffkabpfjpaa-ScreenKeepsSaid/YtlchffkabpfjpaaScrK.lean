/- lapwinglaw15.ScreenKeeps: where nothing is asked. -/
import Derived.Test.YtlchffkabpfjpaaScrH
import Derived.BigQuiet
namespace Go.Proofs.Ytlchffkabpfjpaa.Scr
open Go.RowKit Go.Proofs.Ytlchffkabpfjpaa.Row
attribute [local go_sem ↓] scr_load_pre scr_store_pre doc_load_pre
attribute [local go_sem] scr_cell scr_frozen doc_cell doc_frozen
open BigFrame in
theorem wpList_doc_load_w {w : World} {ops : Array Oper} {rest : List Oper} {o : Oper} {a : Act} {Q : Exit → Act → World → Prop} {g : Nat} {s : Sc} {x : Operand} (h : DBlk w g s) (ho : o.op = .load 59 x) (hw : Region.wanted o (yielded ops a.tmps) = true) (hx : a.eval x = .pointer (some ⟨g, 0, none⟩)) (hk : wpList Try.prog ops Q rest (a.put o.dst (.agg #[.slice s.gA s.gn s.gc, .int .i64 s.x, .int .i64 s.y, .bool s.wr, .bool s.og, .int .i64 s.fg, .int .i64 s.bg, .int .i64 s.fl, .int .u8 s.g0, .int .u8 s.g1, .int .u8 s.g2, .int .u8 s.g3, .int .i64 s.gl, .int .i64 s.gr, .int .i64 s.on, .int .i64 s.H, .int .i64 s.W, .int .i64 s.T, .int .i64 s.B, .slice s.tA s.tn s.tc, .int .i64 s.tw, .slice s.kA s.kn s.kc, .int .i64 s.kp, .int .i64 s.dir, .bool s.ex])) w) : wpList Try.prog ops Q (o :: rest) a w :=
  wpList_want hw fun _ hK => wp_doc_load h ho hx (hK _ _ hk)
set_option maxRecDepth 100000 in
set_option maxHeartbeats 4000000 in
theorem keeps_few (s : Sc) (Lg Lk : List Rw) (zs : List Int) (z : Int) (w : World) (hg : RdR0 w (.slice s.gA s.gn s.gc) Lg) (hgl : Lg.length ≤ maxLen) (ht : RdI w (.slice s.tA s.tn s.tc) zs) (hk : RdR0 w (.slice s.kA s.kn s.kc) Lk) (hkl : Lk.length ≤ maxLen) (hW1 : s.W ≤ 9223372036854775807) (hW2 : -9223372036854775808 ≤ s.W) (h1 : few15 Lg Lk s.tn = false) : Calls Try.prog 4 #[.agg #[.slice s.gA s.gn s.gc, .int .i64 s.x, .int .i64 s.y, .bool s.wr, .bool s.og, .int .i64 s.fg, .int .i64 s.bg, .int .i64 s.fl, .int .u8 s.g0, .int .u8 s.g1, .int .u8 s.g2, .int .u8 s.g3, .int .i64 s.gl, .int .i64 s.gr, .int .i64 s.on, .int .i64 s.H, .int .i64 s.W, .int .i64 s.T, .int .i64 s.B, .slice s.tA s.tn s.tc, .int .i64 s.tw, .slice s.kA s.kn s.kc, .int .i64 s.kp, .int .i64 s.dir, .bool s.ex], .int .i64 z] w fun e w' => e = .returned (.bool true) ∧ Grew w w' := by
  have HGL := Lib.hid hgl
  have HKL := Lib.hid hkl
  have HF := Lib.hid h1
  go_enter Try.func4, Try.ntmps4
  go_upto_region 1 with fail
  generalize hW : w.alloc _ = W
  have HD : Hid (DBlk W w.heap.size s) := Lib.hid (by rw [← hW]; exact Blk.new _ _ _)
  have hbW : Below w.heap.size w W := by rw [← hW]; exact (Below.refl _ _).alloc (Nat.le_refl _) _
  have HG := Lib.hid (hg.below hbW)
  have HK := Lib.hid (hk.below hbW)
  have HBW := Lib.hid hbW
  clear hW hg hk hgl hkl hbW ht h1
  go_wp2_with (first | ((with_reducible refine (awake15_c _).mono ?_); rintro e w0 ⟨rfl, hg0⟩; replace hg0 := hg0.below; have HD0 := Lib.hid (Blk.below HD.out hg0 HD.out.lt)) | (refine wpList_doc_load HD0.out rfl rfl rfl ?_) | ((with_reducible refine (few15_c s Lg Lk _ (HG.out.below hg0) (HK.out.below hg0) HGL.out HKL.out).mono ?_); rw [HF.out]; rintro e w1 ⟨rfl, hg1⟩; replace hg1 := hg1.below; have HD1 := Lib.hid (Blk.below HD0.out hg1 HD0.out.lt)))
  have hb0 := HBW.out.trans (hg0.mono HBW.out.size)
  exact bodyPost_ret (v := .bool true) (by simp [results, Try.results4, go_sem]) rfl ⟨rfl, Below.toGrow (hb0.trans (hg1.mono hb0.size))⟩
theorem few15_facts {s : Sc} {F : Nat → Rw} {zs : List Int} {L : List Rw} {w : World} (hr : Sn.rd ⟨s, F, zs, L⟩ w) (h1 : few15 (listG s.gn F) L s.tn = true) : s.gn ≤ 60 ∧ L.length ≤ 60 ∧ zs.length ≤ 200 ∧ s.kn = L.length := by
  unfold few15 at h1
  simp only [Bool.and_eq_true, decide_eq_true_eq] at h1
  obtain ⟨a, b, c⟩ := h1
  have a1 := (few_iff.1 a).1
  rw [listG_len] at a1
  refine ⟨a1, (few_iff.1 b).1, ?_, ?_⟩
  · obtain ⟨A, cap, e, _⟩ := hr.2.1
    have e' : s.tn = zs.length := by injection e
    omega
  · obtain ⟨A, cap, e, _⟩ := hr.2.2.1.len
    exact (by injection e : s.kn = L.length)
set_option maxRecDepth 100000 in
set_option maxHeartbeats 4000000 in
theorem keeps_insane (s : Sc) (F : Nat → Rw) (zs : List Int) (L : List Rw) (z : Int) (w : World) (hr : Sn.rd ⟨s, F, zs, L⟩ w) (hg0 : RdR0 w (.slice s.gA s.gn s.gc) (listG s.gn F)) (hk0 : RdR0 w (.slice s.kA s.kn s.kc) L) (hW1 : s.W ≤ 9223372036854775807) (hW2 : -9223372036854775808 ≤ s.W) (h1 : few15 (listG s.gn F) L s.tn = true) (h2 : (Sn.md ⟨s, F, zs, L⟩).sane = false) : Calls Try.prog 4 #[.agg #[.slice s.gA s.gn s.gc, .int .i64 s.x, .int .i64 s.y, .bool s.wr, .bool s.og, .int .i64 s.fg, .int .i64 s.bg, .int .i64 s.fl, .int .u8 s.g0, .int .u8 s.g1, .int .u8 s.g2, .int .u8 s.g3, .int .i64 s.gl, .int .i64 s.gr, .int .i64 s.on, .int .i64 s.H, .int .i64 s.W, .int .i64 s.T, .int .i64 s.B, .slice s.tA s.tn s.tc, .int .i64 s.tw, .slice s.kA s.kn s.kc, .int .i64 s.kp, .int .i64 s.dir, .bool s.ex], .int .i64 z] w fun e w' => e = .returned (.bool true) ∧ Grew w w' := by
  have HSN := Lib.hid h2
  clear h2
  have hfw := few15_facts hr h1; have HGL := Lib.hid (show (listG s.gn F).length ≤ maxLen by rw [listG_len]; unfold maxLen; omega); have HKL := Lib.hid (show L.length ≤ maxLen by unfold maxLen; omega); have HG5 := Lib.hid (show s.gn ≤ 5000 by omega); have HL5 := Lib.hid (show L.length ≤ 5000 by omega); have HZ5 := Lib.hid (show zs.length ≤ 65536 by omega); have HW1 := Lib.hid hW1; have HW2 := Lib.hid hW2; have HF := Lib.hid h1; clear hfw; go_enter Try.func4, Try.ntmps4; go_upto_region 1 with fail; generalize hW : w.alloc _ = W; have HD : Hid (DBlk W w.heap.size s) := Lib.hid (by rw [← hW]; exact Blk.new _ _ _); have hbW : Below w.heap.size w W := (by rw [← hW]; exact (Below.refl _ _).alloc (Nat.le_refl _) _); have HR := Lib.hid (hr.below hbW); have HG0 := Lib.hid (hg0.below hbW); have HK0 := Lib.hid (hk0.below hbW); have HBW := Lib.hid hbW; clear hW hr hbW h1 hW1 hW2 hg0 hk0
  go_wp2_with (first | ((with_reducible refine (awake15_c _).mono ?_); rintro e w0 ⟨rfl, hg0⟩; replace hg0 := hg0.below; have HD0 := Lib.hid (Blk.below HD.out hg0 HD.out.lt)) | (refine wpList_doc_load HD0.out rfl rfl rfl ?_) | (refine wpList_doc_load_w HD1.out rfl (by rfl) rfl ?_) | ((with_reducible refine (few15_c s (listG s.gn F) L _ (HG0.out.below hg0) (HK0.out.below hg0) HGL.out HKL.out).mono ?_); rw [HF.out]; rintro e w1 ⟨rfl, hg1⟩; replace hg1 := hg1.below; have HD1 := Lib.hid (Blk.below HD0.out hg1 HD0.out.lt); have HR1 := Lib.hid ((HR.out.below hg0).below hg1)) | ((with_reducible refine (ours15_c s _).mono ?_); rintro e w2 ⟨rfl, hg2⟩; replace hg2 := hg2.below; have HD2 := Lib.hid (Blk.below HD1.out hg2 HD1.out.lt); have HR2 := Lib.hid (HR1.out.below hg2)) | ((with_reducible refine (sane_c ⟨s, F, zs, L⟩ _ HR2.out HG5.out HL5.out HZ5.out HW1.out HW2.out).mono ?_); rw [HSN.out]; rintro e w3 ⟨rfl, hg3⟩; replace hg3 := hg3.below; have HD3 := Lib.hid (Blk.below HD2.out hg3 HD2.out.lt); have HR3 := Lib.hid (HR2.out.below hg3)))
  have hb0 := HBW.out.trans (hg0.mono HBW.out.size)
  have hb1 := hb0.trans (hg1.mono hb0.size)
  have hb2 := hb1.trans (hg2.mono hb1.size)
  exact bodyPost_ret (v := .bool true) (by simp [results, Try.results4, go_sem]) rfl ⟨rfl, Below.toGrow (hb2.trans (hg3.mono hb2.size))⟩
end Go.Proofs.Ytlchffkabpfjpaa.Scr
