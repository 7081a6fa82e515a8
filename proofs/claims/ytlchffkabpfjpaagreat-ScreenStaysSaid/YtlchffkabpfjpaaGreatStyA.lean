/- screen.erased and its step. -/
import Derived.Test.YtlchffkabpfjpaaGreatScrT
import Derived.Test.YtlchffkabpfjpaaGreatScrW
namespace Go.Proofs.YtlchffkabpfjpaaGreat.Scr
open Go.RowKit Go.Proofs.YtlchffkabpfjpaaGreat.Row
attribute [local go_sem ↓] scr_load_pre scr_store_pre
attribute [local go_sem] scr_cell scr_frozen
/-- row.Erase by a pen that may be: the cells lie anew -/
theorem erase_p (r : Rw) (x y : Int) (F T : Nat) (fg bg fl : Int) (w : World) (hr : r.ok w) (hs : saneRw r = true) (hp : penB fg bg fl = true) (hF : max 0 (min x (r.n : Int)) = (F : Int)) (hT : max (F : Int) (max 0 (min y (r.n : Int))) = (T : Int)) :
    Calls Tryz.prog 86 #[.agg #[.slice r.A r.n r.cap, .bool r.wb, .int .i64 r.dir, .bool r.ex], .int .i64 x, .int .i64 y, .agg #[.int .i64 fg, .int .i64 bg, .int .i64 fl]] w (RowPost r w ⟨r.n, eraseR r.n r.f F T fg bg fl, r.wb, r.dir, r.ex⟩) := by
  obtain ⟨hd, hcap, hn⟩ := hr
  unfold eraseR
  by_cases h0 : F < T
  · rw [if_pos ⟨hp, h0⟩]
    refine (erase_yes r.A r.n r.cap r.f r.wb r.dir r.ex x y F T fg bg fl w hd hs hp hF hT h0 (by omega)).mono ?_
    rintro e w' ⟨b, rfl, h1, hb, ho⟩
    exact rowPost_new h1 hb ho hn
  · rw [if_neg (fun e => h0 e.2)]
    obtain rfl : T = F := by omega
    refine (erase_none r.A r.n r.cap r.f r.wb r.dir r.ex x y T fg bg fl w hd hs hp hF hT).mono ?_
    rintro e w' ⟨b, rfl, h1, hb, ho⟩
    exact rowPost_new h1 hb ho hn
/-- cells erased -/
def ersC (F T : Nat) (fg bg fl : Int) (c : Ct) : Ct := ⟨c.n, eraseR c.n c.f F T fg bg fl, c.wb, c.dir, c.ex⟩
set_option maxHeartbeats 4000000 in
theorem erased_c (x y fg bg fl : Int) (w : World) : Calls Tryz.prog 52 #[.int .i64 x, .int .i64 y, .agg #[.int .i64 fg, .int .i64 bg, .int .i64 fl]] w (FnPost 85 w fun caps w' => ∃ b1 b2 b3, caps = #[.pointer (some ⟨b1, 0, none⟩), .pointer (some ⟨b2, 0, none⟩), .pointer (some ⟨b3, 0, none⟩)] ∧
      Blk w' b1 3 #[.int .i64 x] ∧ Blk w' b2 3 #[.int .i64 y] ∧ Blk w' b3 26 #[.int .i64 fg, .int .i64 bg, .int .i64 fl]) := by
  have hmf : ∀ (fn : Fn) (first cap : Array Value) (w : World), (Instr.makeFunc fn first cap).run Tryz.prog w = .ok (.func fn first cap) w := fun _ _ _ _ => rfl
  go_enter Tryz.func52, Tryz.ntmps52
  go_wp2_with fail
  go_ret
  exact ⟨_, rfl, by exact bcAll, _, _, _, rfl, ((Blk.new _ _ _).alloc _).alloc _, (Blk.new_at (by simp)).alloc _, Blk.new_at (by simp)⟩
set_option maxRecDepth 100000 in
set_option maxHeartbeats 4000000 in
theorem erased_step (q F T b1 b2 b3 : Nat) (x y fg bg fl : Int) (w0 : World) (h1 : Blk w0 b1 3 #[.int .i64 x]) (h2 : Blk w0 b2 3 #[.int .i64 y]) (h4 : Blk w0 b3 26 #[.int .i64 fg, .int .i64 bg, .int .i64 fl])
    (hp : penB fg bg fl = true) (hF : max 0 (min x (q : Int)) = (F : Int)) (hT : max (F : Int) (max 0 (min y (q : Int))) = (T : Int)) :
    StepOk q w0 ⟨85, #[.pointer (some ⟨b1, 0, none⟩), .pointer (some ⟨b2, 0, none⟩), .pointer (some ⟨b3, 0, none⟩)]⟩ (ersC F T fg bg fl) := by
  refine ⟨callFunc_enter Tryz.func85 (by kernel_rfl) (by kernel_rfl), fun r w hb hok hsn hrq => ?_, fun c hc hn => ⟨erase_sane hc F T fg bg fl, hn⟩⟩
  subst hrq
  have H1 := Lib.hid (h1.below hb h1.lt)
  have H2 := Lib.hid (h2.below hb h2.lt)
  have H4 := Lib.hid (h4.below hb h4.lt)
  have HOK := Lib.hid hok
  have HSN := Lib.hid (show saneRw r = true from hsn)
  have HP := Lib.hid hp
  have HF := Lib.hid hF
  have HT := Lib.hid hT
  clear h1 h2 h4 hp hF hT hok hsn hb
  show Calls _ _ #[.agg #[.slice r.A r.n r.cap, .bool r.wb, .int .i64 r.dir, .bool r.ex], .pointer (some ⟨b1, 0, none⟩), .pointer (some ⟨b2, 0, none⟩), .pointer (some ⟨b3, 0, none⟩)] _ _
  go_enter Tryz.func85, Tryz.ntmps85
  go_upto_region 1 with fail
  generalize hW1 : (w.alloc _).alloc _ = W1
  have hbw : Below w.heap.size w W1 := by rw [← hW1]; exact bcAll
  have hX : Blk W1 w.heap.size 64 #[.slice r.A r.n r.cap, .bool r.wb, .int .i64 r.dir, .bool r.ex] := by rw [← hW1]; exact (Blk.new _ _ _).alloc _
  have hY : Blk W1 (w.heap.size + 1) 64 #[.slice none 0 0, .bool false, .int .i64 0, .bool false] := by rw [← hW1]; exact Blk.new_at (by simp)
  clear hW1
  obtain ⟨a0, al⟩ := blk_one (H1.out.below hbw H1.out.lt)
  obtain ⟨b0, bl⟩ := blk_one (H2.out.below hbw H2.out.lt)
  obtain ⟨d0, d1, d2, df, dl⟩ := (H4.out.below hbw H4.out.lt).facts3
  obtain ⟨x0, x1, x2, x3, xf, xl⟩ := hX.facts4
  go_wp2_with fail
  refine (erase_p r x y F T fg bg fl _ (HOK.out.below hbw) HSN.out HP.out HF.out HT.out).mono ?_
  rintro e w2 ⟨r2, rfl, hg, hok2, hct, hft⟩
  have hY2 := hY.below hg hY.lt
  have hbw2 := hbw.trans (hg.mono hbw.size)
  have hz1 := hY.lt
  have hz2 := hbw.size
  have HOK2 := Lib.hid hok2
  have HCT := Lib.hid hct
  have hnot : ∀ P : Nat → Prop, ftR P r → ftR (since P w.heap.size) r2 := fun P hP => (hft P hP).mono (since_mono hz2)
  have hfar : ftR (· ≠ w.heap.size + 1) r2 := (hft (· < w.heap.size) (ok_ft HOK.out)).mono fun b hb => by rcases hb with hb | hb <;> omega
  clear hX hY hbw a0 al b0 bl d0 d1 d2 df dl x0 x1 x2 x3 xf xl hok2 hct hg hft
  obtain ⟨y0, y1, y2, y3, yf, yl⟩ := hY2.facts4
  go_wp2_with fail
  exact bodyPost_ret (results_row rfl rfl (blk_set4 hY2)) rfl ⟨r2, rfl, by exact bcAll, ok_keep (ok_keep (ok_keep (ok_keep HOK2.out hfar (Keeps.cell _ _ (fun h => h rfl))) hfar (Keeps.cell _ _ (fun h => h rfl))) hfar (Keeps.cell _ _ (fun h => h rfl))) hfar (Keeps.cell _ _ (fun h => h rfl)), HCT.out, hnot⟩
end Go.Proofs.YtlchffkabpfjpaaGreat.Scr
