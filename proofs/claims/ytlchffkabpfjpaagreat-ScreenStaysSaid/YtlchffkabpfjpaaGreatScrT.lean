/- screen.inserted and its step. -/
import Derived.Test.YtlchffkabpfjpaaGreatScrR
namespace Go.Proofs.YtlchffkabpfjpaaGreat.Scr
open Go.RowKit Go.Proofs.YtlchffkabpfjpaaGreat.Row
attribute [local go_sem ↓] scr_load_pre scr_store_pre
attribute [local go_sem] scr_cell scr_frozen
/-- row.Insert by a pen that may be: the cells lie anew -/
theorem insert_p (r : Rw) (k rt m : Nat) (M fg bg fl : Int) (w : World) (hr : r.ok w) (hs : saneRw r = true) (hp : penB fg bg fl = true) (hat : k < rt) (hrt : rt ≤ r.n) (hm : max 0 (min M ((rt : Int) - k)) = (m : Int)) :
    Calls Tryz.prog 71 #[.agg #[.slice r.A r.n r.cap, .bool r.wb, .int .i64 r.dir, .bool r.ex], .int .i64 k, .int .i64 M, .int .i64 rt, .agg #[.int .i64 fg, .int .i64 bg, .int .i64 fl]] w (RowPost r w ⟨r.n, insR r.n r.f k m rt fg bg fl, r.wb, r.dir, r.ex⟩) := by
  obtain ⟨hd, hcap, hn⟩ := hr
  unfold insR
  rw [if_pos hp]
  by_cases h0 : M ≤ 0
  · obtain rfl : m = 0 := by omega
    refine (insert_zero r.A r.n r.cap r.f r.wb r.dir r.ex k rt M fg bg fl w hd hs hp hat hrt hcap h0).mono ?_
    rintro e w' ⟨b, rfl, h1, hb, ho⟩
    have e0 : insF r.f k 0 rt (Row.blank fg bg fl) = r.f := by funext i; unfold insF; rw [if_neg (by omega)]; split <;> simp
    rw [e0]
    exact rowPost_new h1 hb (ho.congr fun i hi => (mend_none (fun j hj => lost_of_sane hs hj) hi).symm) hn
  · by_cases h1 : M < (rt : Int) - k
    · obtain rfl : M = (m : Int) := by omega
      refine (insert_mid r.A r.n r.cap r.f r.wb r.dir r.ex k rt m fg bg fl w hd hs hp hat hrt hcap (by omega) (by omega)).mono ?_
      rintro e w' ⟨b, rfl, h1, hb, ho⟩
      exact rowPost_new h1 hb ho hn
    · have hmr : (rt : Int) - k = (m : Int) := by omega
      by_cases h2 : M = (m : Int)
      · subst h2
        refine (insert_eq r.A r.n r.cap r.f r.wb r.dir r.ex k rt m fg bg fl w hd hs hp hat hrt hcap hmr).mono ?_
        rintro e w' ⟨b, rfl, h1, hb, ho⟩
        exact rowPost_new h1 hb ho hn
      · refine (insert_all r.A r.n r.cap r.f r.wb r.dir r.ex k rt m M fg bg fl w hd hs hp hat hrt hcap hmr (by omega)).mono ?_
        rintro e w' ⟨b, rfl, h1, hb, ho⟩
        exact rowPost_new h1 hb ho hn
/-- blank cells laid in -/
def insC (k m rt : Nat) (fg bg fl : Int) (c : Ct) : Ct := ⟨c.n, insR c.n c.f k m rt fg bg fl, c.wb, c.dir, c.ex⟩
set_option maxHeartbeats 4000000 in
theorem inserted_c (k M rt fg bg fl : Int) (w : World) : Calls Tryz.prog 35 #[.int .i64 k, .int .i64 M, .int .i64 rt, .agg #[.int .i64 fg, .int .i64 bg, .int .i64 fl]] w (FnPost 70 w fun caps w' => ∃ b1 b2 b3 b4, caps = #[.pointer (some ⟨b1, 0, none⟩), .pointer (some ⟨b2, 0, none⟩), .pointer (some ⟨b3, 0, none⟩), .pointer (some ⟨b4, 0, none⟩)] ∧
      Blk w' b1 3 #[.int .i64 k] ∧ Blk w' b2 3 #[.int .i64 M] ∧ Blk w' b3 3 #[.int .i64 rt] ∧ Blk w' b4 26 #[.int .i64 fg, .int .i64 bg, .int .i64 fl]) := by
  have hmf : ∀ (fn : Fn) (first cap : Array Value) (w : World), (Instr.makeFunc fn first cap).run Tryz.prog w = .ok (.func fn first cap) w := fun _ _ _ _ => rfl
  go_enter Tryz.func35, Tryz.ntmps35
  go_wp2_with fail
  go_ret
  exact ⟨_, rfl, by exact bcAll, _, _, _, _, rfl, (((Blk.new _ _ _).alloc _).alloc _).alloc _, (((Blk.new_at (by simp))).alloc _).alloc _, (Blk.new_at (by simp)).alloc _, Blk.new_at (by simp)⟩
set_option maxRecDepth 100000 in
set_option maxHeartbeats 4000000 in
theorem inserted_step (q k m b1 b2 b3 b4 : Nat) (M fg bg fl : Int) (w0 : World) (h1 : Blk w0 b1 3 #[.int .i64 k]) (h2 : Blk w0 b2 3 #[.int .i64 M]) (h3 : Blk w0 b3 3 #[.int .i64 q]) (h4 : Blk w0 b4 26 #[.int .i64 fg, .int .i64 bg, .int .i64 fl])
    (hp : penB fg bg fl = true) (hk : k < q) (hm : max 0 (min M ((q : Int) - k)) = (m : Int)) :
    StepOk q w0 ⟨70, #[.pointer (some ⟨b1, 0, none⟩), .pointer (some ⟨b2, 0, none⟩), .pointer (some ⟨b3, 0, none⟩), .pointer (some ⟨b4, 0, none⟩)]⟩ (insC k m q fg bg fl) := by
  refine ⟨callFunc_enter Tryz.func70 (by kernel_rfl) (by kernel_rfl), fun r w hb hok hsn hrq => ?_, fun c hc hn => ⟨ins_sane hc fg bg fl, hn⟩⟩
  have H1 := Lib.hid (h1.below hb h1.lt)
  have H2 := Lib.hid (h2.below hb h2.lt)
  have H3 := Lib.hid (h3.below hb h3.lt)
  have H4 := Lib.hid (h4.below hb h4.lt)
  have HOK := Lib.hid hok
  have HSN := Lib.hid (show saneRw r = true from hsn)
  have HP := Lib.hid hp
  have HM := Lib.hid hm
  have HK := Lib.hid hk
  have HQ := Lib.hid (show q ≤ r.n by omega)
  clear h1 h2 h3 h4 hp hm hk hok hsn hrq hb
  show Calls _ _ #[.agg #[.slice r.A r.n r.cap, .bool r.wb, .int .i64 r.dir, .bool r.ex], .pointer (some ⟨b1, 0, none⟩), .pointer (some ⟨b2, 0, none⟩), .pointer (some ⟨b3, 0, none⟩), .pointer (some ⟨b4, 0, none⟩)] _ _
  go_enter Tryz.func70, Tryz.ntmps70
  go_upto_region 1 with fail
  generalize hW1 : (w.alloc _).alloc _ = W1
  have hbw : Below w.heap.size w W1 := by rw [← hW1]; exact bcAll
  have hX : Blk W1 w.heap.size 64 #[.slice r.A r.n r.cap, .bool r.wb, .int .i64 r.dir, .bool r.ex] := by rw [← hW1]; exact (Blk.new _ _ _).alloc _
  have hY : Blk W1 (w.heap.size + 1) 64 #[.slice none 0 0, .bool false, .int .i64 0, .bool false] := by rw [← hW1]; exact Blk.new_at (by simp)
  clear hW1
  obtain ⟨a0, al⟩ := blk_one (H1.out.below hbw H1.out.lt)
  obtain ⟨b0, bl⟩ := blk_one (H2.out.below hbw H2.out.lt)
  obtain ⟨c0, cl⟩ := blk_one (H3.out.below hbw H3.out.lt)
  obtain ⟨d0, d1, d2, df, dl⟩ := (H4.out.below hbw H4.out.lt).facts3
  obtain ⟨x0, x1, x2, x3, xf, xl⟩ := hX.facts4
  go_wp2_with fail
  refine (insert_p r k q m M fg bg fl _ (HOK.out.below hbw) HSN.out HP.out HK.out HQ.out HM.out).mono ?_
  rintro e w2 ⟨r2, rfl, hg, hok2, hct, hft⟩
  have hY2 := hY.below hg hY.lt
  have hbw2 := hbw.trans (hg.mono hbw.size)
  have hz1 := hY.lt
  have hz2 := hbw.size
  have HOK2 := Lib.hid hok2
  have HCT := Lib.hid hct
  have hnot : ∀ P : Nat → Prop, ftR P r → ftR (since P w.heap.size) r2 := fun P hP => (hft P hP).mono (since_mono hz2)
  have hfar : ftR (· ≠ w.heap.size + 1) r2 := (hft (· < w.heap.size) (ok_ft HOK.out)).mono fun b hb => by rcases hb with hb | hb <;> omega
  clear hX hY hbw a0 al b0 bl c0 cl d0 d1 d2 df dl x0 x1 x2 x3 xf xl hok2 hct hg hft
  obtain ⟨y0, y1, y2, y3, yf, yl⟩ := hY2.facts4
  go_wp2_with fail
  exact bodyPost_ret (results_row rfl rfl (blk_set4 hY2)) rfl ⟨r2, rfl, by exact bcAll, ok_keep (ok_keep (ok_keep (ok_keep HOK2.out hfar (Keeps.cell _ _ (fun h => h rfl))) hfar (Keeps.cell _ _ (fun h => h rfl))) hfar (Keeps.cell _ _ (fun h => h rfl))) hfar (Keeps.cell _ _ (fun h => h rfl)), HCT.out, hnot⟩
end Go.Proofs.YtlchffkabpfjpaaGreat.Scr
