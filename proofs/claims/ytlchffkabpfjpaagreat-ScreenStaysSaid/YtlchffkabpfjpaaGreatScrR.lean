/- The step of screen.Print. -/
import Derived.Test.YtlchffkabpfjpaaGreatJC
import Derived.Test.YtlchffkabpfjpaaGreatGH
namespace Go.Proofs.YtlchffkabpfjpaaGreat.Scr
open Go.RowKit Go.Proofs.YtlchffkabpfjpaaGreat.Row
attribute [local go_sem ↓] scr_load_pre scr_store_pre
attribute [local go_sem] scr_cell scr_frozen
theorem rowPost_new {r : Rw} {w w' : World} {b : Nat} {g : Nat → Cl} (hb : w.heap.size ≤ b) (hB : Below w.heap.size w w') (ho : Own w' b r.n g) (hn : r.n ≤ 5000) :
    RowPost r w ⟨r.n, g, r.wb, r.dir, r.ex⟩ (.returned (.agg #[.slice (some ⟨b, 0, none⟩) r.n r.n, .bool r.wb, .int .i64 r.dir, .bool r.ex])) w' :=
  ⟨⟨some ⟨b, 0, none⟩, r.n, r.n, g, r.wb, r.dir, r.ex⟩, rfl, hB, ⟨ho.rd, Nat.le_refl _, hn⟩, rfl, fun _ _ _ b' o e => by
    injection e with e
    injection e with e
    exact .inr (e ▸ hb)⟩
theorem row_info4 : (Tryz.prog.info? 64).map (·.size) = some 4 := by kernel_rfl
/-- a row's result's box is read -/
theorem results_row {fn : Func} {t : Tmp} {r : Nat} {w : World} {a b c d : Value} {tmps : Array Value} (h : fn.results = #[.cell t 64]) (ht : tmps.getD t undef = .pointer (some ⟨r, 0, none⟩)) (hB : Blk w r 64 #[a, b, c, d]) : (results fn tmps).run Tryz.prog w = .ok (.agg #[a, b, c, d]) w := by
  have := run_loadVar_row (P := Tryz.prog) w r _ 64 #[a, b, c, d] (0, 0) _ hB Tryz.underlying64 rfl (by rw [row_info4]; rfl)
  simp only [Array.getD_eq_getD_getElem?] at ht
  simp only [results, h]
  simp [ht, this, asAddr]
/-- a row with a cell put in, told its direction -/
def putC (k : Nat) (cell : Cl) (dir : Int) (ex beyond : Bool) (c : Ct) : Ct := ⟨c.n, mend c.n (putF c.f k cell), if beyond = true then false else c.wb, dir, ex⟩
theorem putC_sane {k q : Nat} {cell : Cl} {dir : Int} {ex beyond : Bool} (hf : fitsB cell = true) (h0 : 0 ≤ dir) (h2 : dir ≤ 2) (c : Ct) (hc : c.sane = true) (hn : c.n = q) : (putC k cell dir ex beyond c).sane = true ∧ (putC k cell dir ex beyond c).n = q := by
  refine ⟨?_, hn⟩
  obtain ⟨h3, h4⟩ := ct_len hc
  refine sane_mend h3 h4 h0 h2 fun i hi => ?_
  rw [putF_at]
  split
  · exact hf
  · split
    · exact fits_half hf
    · exact fits_of_sane hc hi
def PutPost (r : Rw) (k : Nat) (cell : Cl) (w : World) (e : Ending) (w' : World) : Prop := ∃ b, e = .returned (.agg #[.slice (some ⟨b, 0, none⟩) r.n r.n, .bool r.wb, .int .i64 r.dir, .bool r.ex]) ∧ w.heap.size ≤ b ∧ Below w.heap.size w w' ∧ Own w' b r.n (mend r.n (putF r.f k cell))
theorem put_p (r : Rw) (k : Nat) (R W fg bg fl : Int) (w : World) (hr : r.ok w) (hs : saneRw r = true) (hf : fitsB ⟨R, 0, 0, W, fg, bg, fl⟩ = true) (hw : W = 1 ∨ W = 2) (hk : (k : Int) + W ≤ r.n) :
    Calls Tryz.prog 38 #[.agg #[.slice r.A r.n r.cap, .bool r.wb, .int .i64 r.dir, .bool r.ex], .int .i64 k, .agg #[.int .i64 R, .int .i64 0, .int .i64 0, .int .i64 W, .int .i64 fg, .int .i64 bg, .int .i64 fl]] w (PutPost r k ⟨R, 0, 0, W, fg, bg, fl⟩ w) :=
  put_yes r.A r.n r.cap r.f r.wb r.dir r.ex k ⟨R, 0, 0, W, fg, bg, fl⟩ w hr.1 hs hf hw hk
theorem blk_other {w : World} {g : Nat} {t : TypeId} {cs : Array Value} (h : Blk w g t cs) (p : Addr) (u : Value) (hp : g ≠ p.block) : Blk (w.setCell p u) g t cs := (Below.heap_setCell w p u g hp).trans h
set_option maxRecDepth 100000 in
set_option maxHeartbeats 4000000 in
theorem print_step (q k ba br bw bs bb : Nat) (R W : Int) (s : Sc) (beyond : Bool) (w0 : World) (hA : Blk w0 ba 3 #[.int .i64 k]) (hR : Blk w0 br 3 #[.int .i64 R]) (hW : Blk w0 bw 3 #[.int .i64 W]) (hS : SBlk w0 bs s) (hB : Blk w0 bb 4 #[.bool beyond])
    (hf : fitsB ⟨R, 0, 0, W, s.fg, s.bg, s.fl⟩ = true) (hw : W = 1 ∨ W = 2) (hk : (k : Int) + W ≤ q) (h0 : 0 ≤ s.dir) (h2 : s.dir ≤ 2) :
    StepOk q w0 ⟨37, #[.pointer (some ⟨ba, 0, none⟩), .pointer (some ⟨br, 0, none⟩), .pointer (some ⟨bw, 0, none⟩), .pointer (some ⟨bs, 0, none⟩), .pointer (some ⟨bb, 0, none⟩)]⟩ (putC k ⟨R, 0, 0, W, s.fg, s.bg, s.fl⟩ s.dir s.ex beyond) := by
  refine ⟨callFunc_enter Tryz.func37 (by kernel_rfl) (by kernel_rfl), fun r w hb hok hsn hrq => ?_, putC_sane hf h0 h2⟩
  have HA := Lib.hid (hA.below hb hA.lt)
  have HR := Lib.hid (hR.below hb hR.lt)
  have HW := Lib.hid (hW.below hb hW.lt)
  have HS := Lib.hid (show SBlk w bs s from Blk.below hS hb (Blk.lt hS))
  have HB := Lib.hid (hB.below hb hB.lt)
  have HOK := Lib.hid hok
  have HSN := Lib.hid (show saneRw r = true from hsn)
  have HK := Lib.hid (show (k : Int) + W ≤ r.n by omega)
  have HF := Lib.hid hf
  have HWW := Lib.hid hw
  clear hA hR hW hS hB hf hw hk h0 h2 hok hsn hrq hb
  show Calls _ _ #[.agg #[.slice r.A r.n r.cap, .bool r.wb, .int .i64 r.dir, .bool r.ex], .pointer (some ⟨ba, 0, none⟩), .pointer (some ⟨br, 0, none⟩), .pointer (some ⟨bw, 0, none⟩), .pointer (some ⟨bs, 0, none⟩), .pointer (some ⟨bb, 0, none⟩)] _ _
  obtain ⟨a0, al⟩ := blk_one HA.out
  obtain ⟨b0, bl⟩ := blk_one HR.out
  obtain ⟨c0, cl⟩ := blk_one HW.out
  have rS := SBlk.isScr HS.out; have rL := SBlk.cells HS.out; have rZ := IsScr.lt rS
  go_enter Tryz.func37, Tryz.ntmps37
  go_upto_region 1 with fail
  generalize hW1 : (w.alloc _).alloc _ = W1
  have hbw : Below w.heap.size w W1 := by rw [← hW1]; exact bcAll
  have hX : Blk W1 w.heap.size 64 #[.slice r.A r.n r.cap, .bool r.wb, .int .i64 r.dir, .bool r.ex] := by rw [← hW1]; exact (Blk.new _ _ _).alloc _
  have hY : Blk W1 (w.heap.size + 1) 64 #[.slice none 0 0, .bool false, .int .i64 0, .bool false] := by rw [← hW1]; exact Blk.new_at (by simp)
  clear hW1 a0 b0 c0
  clear rS rL rZ
  obtain ⟨a0, al'⟩ := blk_one (HA.out.below hbw al)
  obtain ⟨b0, bl'⟩ := blk_one (HR.out.below hbw bl)
  obtain ⟨c0, cl'⟩ := blk_one (HW.out.below hbw cl)
  have hS1 : SBlk W1 bs s := Blk.below HS.out hbw (Blk.lt HS.out)
  have rS := SBlk.isScr hS1; have rL := SBlk.cells hS1; have rZ := IsScr.lt rS
  obtain ⟨x0, x1, x2, x3, xf, xl⟩ := hX.facts4
  go_wp2_with fail
  refine (put_p r k R W s.fg s.bg s.fl _ (HOK.out.below hbw) HSN.out HF.out HWW.out HK.out).mono ?_
  rintro e w2 ⟨b2, rfl, hb2, hg, ho⟩
  have hz1 := hY.lt
  have hX2 := hX.below hg hX.lt
  have hY2 := hY.below hg hY.lt
  have hbw2 := hbw.trans (hg.mono hbw.size)
  clear hX hY hbw hS1 a0 al' b0 bl' c0 cl' x0 x1 x2 x3 xf xl
  clear rS rL rZ
  obtain ⟨x0, x1, x2, x3, xf, xl⟩ := hX2.facts4
  have HO := Lib.hid ho
  have hzb : w.heap.size + 1 < b2 := by omega
  have HB2 := Lib.hid hb2
  clear ho hb2
  go_upto_region 2 with fail
  clear x0 x1 x2 x3 xf xl
  generalize hW3 : World.setCell _ _ _ = W3
  have hbw3 : Below w.heap.size w W3 := by rw [← hW3]; exact bcAll
  have hX3 : Blk W3 w.heap.size 64 #[.slice (some ⟨b2, 0, none⟩) r.n r.n, .bool r.wb, .int .i64 r.dir, .bool r.ex] := by rw [← hW3]; exact blk_set4 hX2
  have hO3 : Own W3 b2 r.n (mend r.n (putF r.f k ⟨R, 0, 0, W, s.fg, s.bg, s.fl⟩)) := by rw [← hW3]; exact (((HO.out.far' (show w.heap.size ≠ b2 by omega) _).far' (show w.heap.size ≠ b2 by omega) _).far' (show w.heap.size ≠ b2 by omega) _).far' (show w.heap.size ≠ b2 by omega) _
  have hY3 : Blk W3 (w.heap.size + 1) 64 #[.slice none 0 0, .bool false, .int .i64 0, .bool false] := by rw [← hW3]; exact blk_other (blk_other (blk_other (blk_other hY2 _ _ (by simp)) _ _ (by simp)) _ _ (by simp)) _ _ (by simp)
  clear hW3 hX2 hY2 hbw2
  have hbs : bs < w.heap.size := Blk.lt HS.out
  have hne : ¬ bs = w.heap.size := by omega
  have hne' : ¬ w.heap.size = bs := by omega
  have d0 : W3.cell? ⟨bs, 23, none⟩ = some (.int .i64 s.dir) := Blk.cell (Blk.below HS.out hbw3 hbs) 23
  have d1 : W3.cell? ⟨bs, 24, none⟩ = some (.bool s.ex) := Blk.cell (Blk.below HS.out hbw3 hbs) 24
  obtain ⟨x0, x1, x2, x3, xf, xl⟩ := hX3.facts4
  refine hr_start (S := (fun w' => w'.cell? ⟨bs, 23, none⟩ = some (.int .i64 s.dir) ∧ w'.cell? ⟨bs, 24, none⟩ = some (.bool s.ex))) (by kernel_rfl) rfl ?_ (fun hHeld => ?_)
  · ((try dsimp only); go_simp)
  refine hr_q 0 ?_
  simp only [st0, st1]
  refine hr_q 1 ?_
  simp only [st0, st1]
  refine hr_q 2 ?_
  simp only [st0, st1]
  refine hr_q 3 ?_
  simp only [st0, st1]
  refine hr_q 4 ?_
  simp only [st0, st1]
  refine hr_op0 (i := 5) rfl (by kernel_rfl) (by kernel_rfl) (fun K hK => ?_)
  (try go_simp)
  (try go_wp2_with fail)
  refine hK.out _ ?_ (fun hHeld => ?_)
  · ((try dsimp only); go_simp)
  clear hK K
  refine hr_q 6 ?_
  simp only [st0, st1]
  refine hr_op0 (i := 7) rfl (by kernel_rfl) (by kernel_rfl) (fun K hK => ?_)
  (try go_simp)
  (try go_wp2_with fail)
  refine hK.out _ ?_ (fun hHeld => ?_)
  · ((try dsimp only); go_simp)
  clear hK K
  refine hr_done (by kernel_rfl) ?_
  generalize hW4 : World.drew _ = W4
  have hbw4 : Below w.heap.size w W4 := by rw [← hW4]; exact bcAll
  have hX4 : Blk W4 w.heap.size 64 #[.slice (some ⟨b2, 0, none⟩) r.n r.n, .bool r.wb, .int .i64 s.dir, .bool s.ex] := by rw [← hW4]; exact (hX3.set_ 2 _).set_ 3 _
  have hO4 : Own W4 b2 r.n (mend r.n (putF r.f k ⟨R, 0, 0, W, s.fg, s.bg, s.fl⟩)) := by rw [← hW4]; exact own_drew ((hO3.far' (show w.heap.size ≠ b2 by omega) _).far' (show w.heap.size ≠ b2 by omega) _)
  have hY4 : Blk W4 (w.heap.size + 1) 64 #[.slice none 0 0, .bool false, .int .i64 0, .bool false] := by rw [← hW4]; exact blk_other (blk_other hY3 _ _ (by simp)) _ _ (by simp)
  clear hW4 hX3 hO3 hY3 hbw3 d0 d1 x0 x1 x2 x3 xf xl hHeld hne hne'
  obtain ⟨x0, x1, x2, x3, xf, xl⟩ := hX4.facts4
  obtain ⟨y0, y1, y2, y3, yf, yl⟩ := hY4.facts4
  obtain ⟨e0, el⟩ := blk_one (HB.out.below hbw4 HB.out.lt)
  cases beyond
  · go_wp2_with fail
    exact bodyPost_ret (results_row rfl rfl (blk_set4 hY4)) rfl ⟨⟨some ⟨b2, 0, none⟩, r.n, r.n, _, r.wb, s.dir, s.ex⟩, rfl, by exact bcAll, ⟨((((hO4.far' (show w.heap.size + 1 ≠ b2 by omega) _).far' (show w.heap.size + 1 ≠ b2 by omega) _).far' (show w.heap.size + 1 ≠ b2 by omega) _).far' (show w.heap.size + 1 ≠ b2 by omega) _).rd, Nat.le_refl _, HOK.out.2.2⟩, rfl, fun P _ _ b o e => .inr (by injection e with e; injection e with e; omega)⟩
  · go_wp2_with fail
    exact bodyPost_ret (results_row rfl rfl (blk_set4 (blk_other hY4 _ _ (by simp)))) rfl ⟨⟨some ⟨b2, 0, none⟩, r.n, r.n, _, false, s.dir, s.ex⟩, rfl, by exact bcAll, ⟨(((((hO4.far' (show w.heap.size ≠ b2 by omega) _).far' (show w.heap.size + 1 ≠ b2 by omega) _).far' (show w.heap.size + 1 ≠ b2 by omega) _).far' (show w.heap.size + 1 ≠ b2 by omega) _).far' (show w.heap.size + 1 ≠ b2 by omega) _).rd, Nat.le_refl _, HOK.out.2.2⟩, rfl, fun P _ _ b o e => .inr (by injection e with e; injection e with e; omega)⟩
end Go.Proofs.YtlchffkabpfjpaaGreat.Scr
