/- row.Mark; screen.Mark. -/
import Derived.Test.YtlchffkabpfjpaaGreatStyJ
namespace Go.Proofs.YtlchffkabpfjpaaGreat.Scr
open Go.RowKit Go.Proofs.YtlchffkabpfjpaaGreat.Row
attribute [local go_sem ↓] scr_load_pre scr_store_pre
attribute [local go_sem] scr_cell scr_frozen
/-- a cell with one mark more -/
def mkCl (c : Cl) (m : Int) : Cl := if c.r = 0 then c else if c.m0 = 0 then ⟨c.r, m, c.m1, c.w, c.fg, c.bg, c.fl⟩ else if c.m1 = 0 then ⟨c.r, c.m0, m, c.w, c.fg, c.bg, c.fl⟩ else c
def mkAt (f : Nat → Cl) (k : Nat) : Nat := if (f k).w = 0 then k - 1 else k
def mkF (f : Nat → Cl) (k : Nat) (m : Int) (i : Nat) : Cl := if (1 ≤ m ∧ m ≤ 1114111) ∧ i = mkAt f k then mkCl (f i) m else f i
def mkC (k : Nat) (m : Int) (c : Ct) : Ct := ⟨c.n, mkF c.f k m, c.wb, c.dir, c.ex⟩
theorem mkF_w (f : Nat → Cl) (k : Nat) (m : Int) (i : Nat) : (mkF f k m i).w = (f i).w := by
  unfold mkF mkCl
  split
  · split
    · rfl
    · split
      · rfl
      · split <;> rfl
  · rfl
theorem mark_sane {n : Nat} {f : Nat → Cl} {dir : Int} (hs : saneB n f dir = true) (k : Nat) (m : Int) : saneB n (mkF f k m) dir = true := by
  obtain ⟨h1, h2, h3, h4, h5⟩ := sane_iff.1 hs
  refine sane_iff.2 ⟨h1, h2, h3, h4, fun i hi => ⟨?_, ?_⟩⟩
  · have hf := (h5 i hi).1
    unfold mkF
    split
    · rename_i hm
      obtain ⟨⟨hm1, hm2⟩, -⟩ := hm
      unfold fitsB at hf ⊢
      have h := of_decide_eq_true hf
      refine decide_eq_true ?_
      obtain ⟨a1, a2, a3, a4, a5, a6, a7, a8, a9, a10, a11⟩ := h
      unfold mkCl
      split
      · exact ⟨a1, a2, a3, a4, a5, a6, a7, a8, a9, a10, a11⟩
      · rename_i hr
        split
        · rename_i h0
          exact ⟨by show 0 ≤ m; omega, hm2, fun _ => hr, a4, a5, a6, a7, a8, fun e => by exfalso; have e' : m = 0 := e; omega, a10, a11⟩
        · rename_i h0
          split
          · exact ⟨a1, a2, a3, by show 0 ≤ m; omega, hm2, fun _ => hr, a7, a8, fun e => absurd e h0, a10, a11⟩
          · exact ⟨a1, a2, a3, a4, a5, a6, a7, a8, a9, a10, a11⟩
    · exact hf
  · have hl := (h5 i hi).2
    unfold lostB at hl ⊢
    simp only [mkF_w]
    exact hl
theorem mark_left {n : Nat} {f : Nat → Cl} {dir : Int} (hs : saneB n f dir = true) {k : Nat} (hk : k < n) (h0 : (f k).w = 0) : 1 ≤ k := by
  have h := lost_of_sane hs hk
  unfold lostB at h
  have := of_decide_eq_false h
  by_cases hk0 : k = 0
  · exact absurd (.inl ⟨h0, .inl hk0⟩) this
  · omega
theorem rowPost_same {r : Rw} {w w' : World} (h : r.ok w) (hb : Below w.heap.size w w') {c : Ct} (hc : ct r = c) : RowPost r w c (.returned (.agg #[.slice r.A r.n r.cap, .bool r.wb, .int .i64 r.dir, .bool r.ex])) w' := ⟨r, rfl, hb, h.below hb, hc, fun _ k => k.mono fun _ u => .inl u⟩
theorem ct_mark {r : Rw} {k : Nat} {m : Int} (h : mkCl (r.f (mkAt r.f k)) m = r.f (mkAt r.f k)) : ct r = ⟨r.n, mkF r.f k m, r.wb, r.dir, r.ex⟩ := by
  have e : mkF r.f k m = r.f := by
    funext i
    unfold mkF
    split
    · rename_i hi
      rw [hi.2]
      exact h
    · rfl
  rw [e]
  rfl
theorem rowPost_at {r : Rw} {w w' : World} {b o : Nat} (h : r.ok w) (hb : Below w.heap.size w w') {c : Ct} (e : r.A = some ⟨b, o, none⟩) (hc : ct r = c) : RowPost r w c (.returned (.agg #[.slice (some ⟨b, o, none⟩) r.n r.cap, .bool r.wb, .int .i64 r.dir, .bool r.ex])) w' := by
  rw [← e]
  exact rowPost_same h hb hc
theorem own_m0 {w : World} {b n j : Nat} {f : Nat → Cl} (h : Own w b n f) (k : Nat) (m : Int) (hm : 1 ≤ m ∧ m ≤ 1114111) (hj : mkAt f k = j) (hr : (f j).r ≠ 0) (h0 : (f j).m0 = 0) : Own (w.setCell ⟨b, j * 7 + 1, none⟩ (.int .i64 m)) b n (mkF f k m) := by
  refine World.rowIs.congr (World.rowIs.set h _ _) fun i _ => ?_
  unfold valF
  by_cases e : i / 7 = j
  · have e2 : mkF f k m (i / 7) = ⟨(f j).r, m, (f j).m1, (f j).w, (f j).fg, (f j).bg, (f j).fl⟩ := by unfold mkF mkCl; rw [if_pos ⟨hm, e.trans hj.symm⟩, e, if_neg hr, if_pos h0]
    rw [e2, e]
    have hi : i % 7 < 7 := Nat.mod_lt _ (by omega)
    generalize hq : i % 7 = q at hi
    have hiq : i = i / 7 * 7 + q := by omega
    match q, hi with
    | 0, _ => rw [if_neg (by omega)]; rfl
    | 1, _ => rw [if_pos (by omega)]; rfl
    | 2, _ => rw [if_neg (by omega)]; rfl
    | 3, _ => rw [if_neg (by omega)]; rfl
    | 4, _ => rw [if_neg (by omega)]; rfl
    | 5, _ => rw [if_neg (by omega)]; rfl
    | 6, _ => rw [if_neg (by omega)]; rfl
  · have e2 : mkF f k m (i / 7) = f (i / 7) := by unfold mkF; rw [if_neg (fun u => e (u.2.trans hj))]
    rw [e2, if_neg (by omega)]
theorem own_m1 {w : World} {b n j : Nat} {f : Nat → Cl} (h : Own w b n f) (k : Nat) (m : Int) (hm : 1 ≤ m ∧ m ≤ 1114111) (hj : mkAt f k = j) (hr : (f j).r ≠ 0) (h0 : (f j).m0 ≠ 0) (h1 : (f j).m1 = 0) : Own (w.setCell ⟨b, j * 7 + 2, none⟩ (.int .i64 m)) b n (mkF f k m) := by
  refine World.rowIs.congr (World.rowIs.set h _ _) fun i _ => ?_
  unfold valF
  by_cases e : i / 7 = j
  · have e2 : mkF f k m (i / 7) = ⟨(f j).r, (f j).m0, m, (f j).w, (f j).fg, (f j).bg, (f j).fl⟩ := by unfold mkF mkCl; rw [if_pos ⟨hm, e.trans hj.symm⟩, e, if_neg hr, if_neg h0, if_pos h1]
    rw [e2, e]
    have hi : i % 7 < 7 := Nat.mod_lt _ (by omega)
    generalize hq : i % 7 = q at hi
    have hiq : i = i / 7 * 7 + q := by omega
    match q, hi with
    | 0, _ => rw [if_neg (by omega)]; rfl
    | 1, _ => rw [if_neg (by omega)]; rfl
    | 2, _ => rw [if_pos (by omega)]; rfl
    | 3, _ => rw [if_neg (by omega)]; rfl
    | 4, _ => rw [if_neg (by omega)]; rfl
    | 5, _ => rw [if_neg (by omega)]; rfl
    | 6, _ => rw [if_neg (by omega)]; rfl
  · have e2 : mkF f k m (i / 7) = f (i / 7) := by unfold mkF; rw [if_neg (fun u => e (u.2.trans hj))]
    rw [e2, if_neg (by omega)]
theorem of_good {m : Int} (d1 : decide (m < 1) = false) (d2 : decide (1114111 < m) = false) : 1 ≤ m ∧ m ≤ 1114111 := by
  have := of_decide_eq_false d1
  have := of_decide_eq_false d2
  omega
set_option maxRecDepth 100000 in
set_option maxHeartbeats 4000000 in
theorem mark_bad1 (r : Rw) (k : Nat) (m : Int) (w : World) (hr : r.ok w) (hs : saneRw r = true) (hk : k < r.n) (d1 : decide (m < 1) = true) :
    Calls Tryz.prog 47 #[.agg #[.slice r.A r.n r.cap, .bool r.wb, .int .i64 r.dir, .bool r.ex], .int .i64 k, .int .i64 m] w (RowPost r w (ct r)) := by
  have HOK := Lib.hid hr; obtain ⟨hd, hcap, hn⟩ := hr; obtain ⟨hn1, hn2⟩ := sane_len hs; have HSN := Lib.hid (show saneB r.n r.f r.dir = true from hs); go_enter Tryz.func47, Tryz.ntmps47; go_upto_region 1 with fail; generalize hW0 : (w.alloc _).alloc _ = W0; have hbw : Below w.heap.size w W0 := (by rw [← hW0]; exact bcAll); have hX : Blk W0 w.heap.size 64 #[.slice r.A r.n r.cap, .bool r.wb, .int .i64 r.dir, .bool r.ex] := (by rw [← hW0]; exact (Blk.new _ _ _).alloc _); have hY : Blk W0 (w.heap.size + 1) 64 #[.slice none 0 0, .bool false, .int .i64 0, .bool false] := (by rw [← hW0]; exact Blk.new_at (by simp)); clear hW0; obtain ⟨x0, x1, x2, x3, xf, xl⟩ := hX.facts4; go_wp2_with fail; refine (Row.sane_c r.A r.n r.cap r.f r.wb r.dir r.ex _ (hd.below hbw) (by omega)).mono ?_; rintro e w1 ⟨rfl, hg⟩; rw [HSN.out]; replace hg := hg.below; clear x0 x1 x2 x3 xf xl; have hX1 := hX.below hg hX.lt; have hY1 := hY.below hg hY.lt; have hbw1 := hbw.trans (hg.mono hbw.size); have hd1 := hd.below hbw1; have hz1 := hY.lt; have hz2 := hbw.size; clear hX hY hg hbw; obtain ⟨x0, x1, x2, x3, xf, xl⟩ := hX1.facts4; obtain ⟨y0, y1, y2, y3, yf, yl⟩ := hY1.facts4
  have d3 : decide ((r.n : Int) ≤ (k : Int)) = false := decide_eq_false (by omega)
  go_wp2_with fail
  exact bodyPost_ret (results_row rfl rfl (blk_set4 hY1)) rfl (rowPost_same HOK.out (by exact bcAll) rfl)
set_option maxRecDepth 100000 in
set_option maxHeartbeats 4000000 in
theorem mark_bad2 (r : Rw) (k : Nat) (m : Int) (w : World) (hr : r.ok w) (hs : saneRw r = true) (hk : k < r.n) (d1 : decide (m < 1) = false) (d2 : decide (1114111 < m) = true) :
    Calls Tryz.prog 47 #[.agg #[.slice r.A r.n r.cap, .bool r.wb, .int .i64 r.dir, .bool r.ex], .int .i64 k, .int .i64 m] w (RowPost r w (ct r)) := by
  have HOK := Lib.hid hr; obtain ⟨hd, hcap, hn⟩ := hr; obtain ⟨hn1, hn2⟩ := sane_len hs; have HSN := Lib.hid (show saneB r.n r.f r.dir = true from hs); go_enter Tryz.func47, Tryz.ntmps47; go_upto_region 1 with fail; generalize hW0 : (w.alloc _).alloc _ = W0; have hbw : Below w.heap.size w W0 := (by rw [← hW0]; exact bcAll); have hX : Blk W0 w.heap.size 64 #[.slice r.A r.n r.cap, .bool r.wb, .int .i64 r.dir, .bool r.ex] := (by rw [← hW0]; exact (Blk.new _ _ _).alloc _); have hY : Blk W0 (w.heap.size + 1) 64 #[.slice none 0 0, .bool false, .int .i64 0, .bool false] := (by rw [← hW0]; exact Blk.new_at (by simp)); clear hW0; obtain ⟨x0, x1, x2, x3, xf, xl⟩ := hX.facts4; go_wp2_with fail; refine (Row.sane_c r.A r.n r.cap r.f r.wb r.dir r.ex _ (hd.below hbw) (by omega)).mono ?_; rintro e w1 ⟨rfl, hg⟩; rw [HSN.out]; replace hg := hg.below; clear x0 x1 x2 x3 xf xl; have hX1 := hX.below hg hX.lt; have hY1 := hY.below hg hY.lt; have hbw1 := hbw.trans (hg.mono hbw.size); have hd1 := hd.below hbw1; have hz1 := hY.lt; have hz2 := hbw.size; clear hX hY hg hbw; obtain ⟨x0, x1, x2, x3, xf, xl⟩ := hX1.facts4; obtain ⟨y0, y1, y2, y3, yf, yl⟩ := hY1.facts4
  have d3 : decide ((r.n : Int) ≤ (k : Int)) = false := decide_eq_false (by omega)
  go_wp2_with fail
  exact bodyPost_ret (results_row rfl rfl (blk_set4 hY1)) rfl (rowPost_same HOK.out (by exact bcAll) rfl)
set_option maxRecDepth 100000 in
set_option maxHeartbeats 4000000 in
theorem mark_good (r : Rw) (k KK : Nat) (m : Int) (w : World) (hr : r.ok w) (hs : saneRw r = true) (hk : k < r.n) (d1 : decide (m < 1) = false) (d2 : decide (1114111 < m) = false) (hw : (r.f k).w ≠ 0) (hj : mkAt r.f KK = k) :
    Calls Tryz.prog 47 #[.agg #[.slice r.A r.n r.cap, .bool r.wb, .int .i64 r.dir, .bool r.ex], .int .i64 k, .int .i64 m] w (RowPost r w ⟨r.n, mkF r.f KK m, r.wb, r.dir, r.ex⟩) := by
  have i0 : ∀ (a c : Int) (w : World), (Instr.index 65 (.agg #[.int .i64 a, .int .i64 c]) (.int .i64 0)).run Tryz.prog w = .ok (.int .i64 a) w := fun _ _ _ => by kernel_rfl
  have i1 : ∀ (a c : Int) (w : World), (Instr.index 65 (.agg #[.int .i64 a, .int .i64 c]) (.int .i64 1)).run Tryz.prog w = .ok (.int .i64 c) w := fun _ _ _ => by kernel_rfl
  have d4 : ((r.f k).w == 0) = false := by simpa using hw
  have HOK := Lib.hid hr; obtain ⟨hd, hcap, hn⟩ := hr; obtain ⟨hn1, hn2⟩ := sane_len hs; have HSN := Lib.hid (show saneB r.n r.f r.dir = true from hs); go_enter Tryz.func47, Tryz.ntmps47; go_upto_region 1 with fail; generalize hW0 : (w.alloc _).alloc _ = W0; have hbw : Below w.heap.size w W0 := (by rw [← hW0]; exact bcAll); have hX : Blk W0 w.heap.size 64 #[.slice r.A r.n r.cap, .bool r.wb, .int .i64 r.dir, .bool r.ex] := (by rw [← hW0]; exact (Blk.new _ _ _).alloc _); have hY : Blk W0 (w.heap.size + 1) 64 #[.slice none 0 0, .bool false, .int .i64 0, .bool false] := (by rw [← hW0]; exact Blk.new_at (by simp)); clear hW0; obtain ⟨x0, x1, x2, x3, xf, xl⟩ := hX.facts4; go_wp2_with fail; refine (Row.sane_c r.A r.n r.cap r.f r.wb r.dir r.ex _ (hd.below hbw) (by omega)).mono ?_; rintro e w1 ⟨rfl, hg⟩; rw [HSN.out]; replace hg := hg.below; clear x0 x1 x2 x3 xf xl; have hX1 := hX.below hg hX.lt; have hY1 := hY.below hg hY.lt; have hbw1 := hbw.trans (hg.mono hbw.size); have hd1 := hd.below hbw1; have hz1 := hY.lt; have hz2 := hbw.size; clear hX hY hg hbw; obtain ⟨x0, x1, x2, x3, xf, xl⟩ := hX1.facts4; obtain ⟨y0, y1, y2, y3, yf, yl⟩ := hY1.facts4
  have d3 : decide ((r.n : Int) ≤ (k : Int)) = false := decide_eq_false (by omega)
  obtain ⟨b, o, eA, hb, hc⟩ := hd1 (by omega)
  have HC := Lib.hid hc
  have HA := Lib.hid eA
  rw [eA] at x0
  obtain ⟨p0, p1, p2, p3, p4, p5, p6⟩ := hc k hk
  by_cases hr0 : (r.f k).r = 0
  · have d5 : ((r.f k).r == 0) = true := by simpa using hr0
    have HE := Lib.hid (show ct r = ⟨r.n, mkF r.f KK m, r.wb, r.dir, r.ex⟩ from ct_mark (by rw [hj]; unfold mkCl; rw [if_pos hr0]))
    clear hr0 hj
    go_wp2_with fail
    exact bodyPost_ret (results_row rfl rfl (blk_set4 hY1)) rfl (rowPost_at HOK.out (by exact bcAll) HA.out HE.out)
  · have d5 : ((r.f k).r == 0) = false := by simpa using hr0
    go_upto_region 7 with fail
    go_wp2_with fail
    refine wp_loop_rounds 3 ?_
    rw [rounds_succ]
    by_cases h0 : (r.f k).m0 = 0
    · have d6 : ((r.f k).m0 == 0) = true := by simpa using h0
      have HOM := Lib.hid (fun (w : World) (b : Nat) (h : Own w b r.n r.f) => own_m0 h KK m (of_good d1 d2) hj hr0 h0)
      go_wp2_with fail
      refine (cells_c (some ⟨b, o, none⟩) r.n r.cap r.f r.wb r.dir r.ex _ (by rw [← HA.out]; exact hd1) (by omega) hn2).mono ?_; rintro e w3 ⟨b2, rfl, hbb, hg, hob⟩; have hX3 := hX1.below hg hX1.lt; have hY3 := hY1.below hg hY1.lt; have hbw3 := hbw1.trans (hg.mono hbw1.size); have hbn : w.heap.size + 1 < b2 := (by have := hY1.lt; omega); clear hX1 hY1 hbw1 x0 x1 x2 x3 xf xl y0 y1 y2 y3 yf yl p0 p1 p2 p3 p4 p5 p6 hd1 hd; obtain ⟨x0, x1, x2, x3, xf, xl⟩ := hX3.facts4; obtain ⟨y0, y1, y2, y3, yf, yl⟩ := hY3.facts4; have hlb := hob.lt; have hfb := hob.frozen; obtain ⟨p0, p1, p2, p3, p4, p5, p6⟩ := hob.at_ hk; go_upto_region 13 with fail; clear x0 x1 x2 x3 xf xl y0 y1 y2 y3 yf yl p0 p1 p2 p3 p4 p5 p6 hfb; have hob4 := HOM.out _ _ hob; generalize hW4 : w3.setCell _ _ = W4 at hob4 ⊢; have hX4 : Blk W4 w.heap.size 64 #[.slice (some ⟨b, o, none⟩) r.n r.cap, .bool r.wb, .int .i64 r.dir, .bool r.ex] := (by rw [← hW4, ← HA.out]; exact blk_other hX3 _ _ (by show w.heap.size ≠ b2; omega)); have hY4 : Blk W4 (w.heap.size + 1) 64 #[.slice none 0 0, .bool false, .int .i64 0, .bool false] := (by rw [← hW4]; exact blk_other hY3 _ _ (by show w.heap.size + 1 ≠ b2; omega)); have hbw4 : Below w.heap.size w W4 := (by rw [← hW4]; exact bcAll); clear hW4 hX3 hY3 hbw3 hob hlb; obtain ⟨x0, x1, x2, x3, xf, xl⟩ := hX4.facts4; obtain ⟨y0, y1, y2, y3, yf, yl⟩ := hY4.facts4; have hlb := hob4.lt; go_wp2_with fail; exact bodyPost_ret (results_row rfl rfl (blk_set4 (blk_other hY4 _ _ (by show w.heap.size + 1 ≠ w.heap.size; omega)))) rfl (rowPost_new (by omega) (by exact bcAll) (by (iterate 5 (refine Own.far ?_ (by first | (show b2 ≠ w.heap.size + 1; omega) | (show b2 ≠ w.heap.size; omega)) _)); exact hob4) hn)
    · have d6 : ((r.f k).m0 == 0) = false := by simpa using h0
      go_wp2_with fail
      rw [rounds_succ]
      by_cases h1 : (r.f k).m1 = 0
      · have d7 : ((r.f k).m1 == 0) = true := by simpa using h1
        have HOM := Lib.hid (fun (w : World) (b : Nat) (h : Own w b r.n r.f) => own_m1 h KK m (of_good d1 d2) hj hr0 h0 h1)
        go_wp2_with fail
        refine (cells_c (some ⟨b, o, none⟩) r.n r.cap r.f r.wb r.dir r.ex _ (by rw [← HA.out]; exact hd1) (by omega) hn2).mono ?_; rintro e w3 ⟨b2, rfl, hbb, hg, hob⟩; have hX3 := hX1.below hg hX1.lt; have hY3 := hY1.below hg hY1.lt; have hbw3 := hbw1.trans (hg.mono hbw1.size); have hbn : w.heap.size + 1 < b2 := (by have := hY1.lt; omega); clear hX1 hY1 hbw1 x0 x1 x2 x3 xf xl y0 y1 y2 y3 yf yl p0 p1 p2 p3 p4 p5 p6 hd1 hd; obtain ⟨x0, x1, x2, x3, xf, xl⟩ := hX3.facts4; obtain ⟨y0, y1, y2, y3, yf, yl⟩ := hY3.facts4; have hlb := hob.lt; have hfb := hob.frozen; obtain ⟨p0, p1, p2, p3, p4, p5, p6⟩ := hob.at_ hk; go_upto_region 13 with fail; clear x0 x1 x2 x3 xf xl y0 y1 y2 y3 yf yl p0 p1 p2 p3 p4 p5 p6 hfb; have hob4 := HOM.out _ _ hob; generalize hW4 : w3.setCell _ _ = W4 at hob4 ⊢; have hX4 : Blk W4 w.heap.size 64 #[.slice (some ⟨b, o, none⟩) r.n r.cap, .bool r.wb, .int .i64 r.dir, .bool r.ex] := (by rw [← hW4, ← HA.out]; exact blk_other hX3 _ _ (by show w.heap.size ≠ b2; omega)); have hY4 : Blk W4 (w.heap.size + 1) 64 #[.slice none 0 0, .bool false, .int .i64 0, .bool false] := (by rw [← hW4]; exact blk_other hY3 _ _ (by show w.heap.size + 1 ≠ b2; omega)); have hbw4 : Below w.heap.size w W4 := (by rw [← hW4]; exact bcAll); clear hW4 hX3 hY3 hbw3 hob hlb; obtain ⟨x0, x1, x2, x3, xf, xl⟩ := hX4.facts4; obtain ⟨y0, y1, y2, y3, yf, yl⟩ := hY4.facts4; have hlb := hob4.lt; go_wp2_with fail; exact bodyPost_ret (results_row rfl rfl (blk_set4 (blk_other hY4 _ _ (by show w.heap.size + 1 ≠ w.heap.size; omega)))) rfl (rowPost_new (by omega) (by exact bcAll) (by (iterate 5 (refine Own.far ?_ (by first | (show b2 ≠ w.heap.size + 1; omega) | (show b2 ≠ w.heap.size; omega)) _)); exact hob4) hn)
      · have d7 : ((r.f k).m1 == 0) = false := by simpa using h1
        go_wp2_with fail
        rw [rounds_succ]
        have HE := Lib.hid (show ct r = ⟨r.n, mkF r.f KK m, r.wb, r.dir, r.ex⟩ from ct_mark (by rw [hj]; unfold mkCl; rw [if_neg hr0, if_neg h0, if_neg h1]))
        clear hr0 hj h0 h1
        go_wp2_with fail
        exact bodyPost_ret (results_row rfl rfl (blk_set4 hY1)) rfl (rowPost_at HOK.out (by exact bcAll) HA.out HE.out)
set_option maxRecDepth 100000 in
set_option maxHeartbeats 4000000 in
theorem mark_left_c (r : Rw) (k KK : Nat) (m : Int) (w : World) (hr : r.ok w) (hs : saneRw r = true) (hk1 : k + 1 < r.n) (d1 : decide (m < 1) = false) (d2 : decide (1114111 < m) = false) (hw : (r.f (k + 1)).w = 0) (hj : mkAt r.f KK = k) :
    Calls Tryz.prog 47 #[.agg #[.slice r.A r.n r.cap, .bool r.wb, .int .i64 r.dir, .bool r.ex], .int .i64 ((k : Int) + 1), .int .i64 m] w (RowPost r w ⟨r.n, mkF r.f KK m, r.wb, r.dir, r.ex⟩) := by
  have i0 : ∀ (a c : Int) (w : World), (Instr.index 65 (.agg #[.int .i64 a, .int .i64 c]) (.int .i64 0)).run Tryz.prog w = .ok (.int .i64 a) w := fun _ _ _ => by kernel_rfl
  have i1 : ∀ (a c : Int) (w : World), (Instr.index 65 (.agg #[.int .i64 a, .int .i64 c]) (.int .i64 1)).run Tryz.prog w = .ok (.int .i64 c) w := fun _ _ _ => by kernel_rfl
  have d4 : ((r.f (k + 1)).w == 0) = true := by simpa using hw
  have HOK := Lib.hid hr; obtain ⟨hd, hcap, hn⟩ := hr; obtain ⟨hn1, hn2⟩ := sane_len hs; have HSN := Lib.hid (show saneB r.n r.f r.dir = true from hs); go_enter Tryz.func47, Tryz.ntmps47; go_upto_region 1 with fail; generalize hW0 : (w.alloc _).alloc _ = W0; have hbw : Below w.heap.size w W0 := (by rw [← hW0]; exact bcAll); have hX : Blk W0 w.heap.size 64 #[.slice r.A r.n r.cap, .bool r.wb, .int .i64 r.dir, .bool r.ex] := (by rw [← hW0]; exact (Blk.new _ _ _).alloc _); have hY : Blk W0 (w.heap.size + 1) 64 #[.slice none 0 0, .bool false, .int .i64 0, .bool false] := (by rw [← hW0]; exact Blk.new_at (by simp)); clear hW0; obtain ⟨x0, x1, x2, x3, xf, xl⟩ := hX.facts4; go_wp2_with fail; refine (Row.sane_c r.A r.n r.cap r.f r.wb r.dir r.ex _ (hd.below hbw) (by omega)).mono ?_; rintro e w1 ⟨rfl, hg⟩; rw [HSN.out]; replace hg := hg.below; clear x0 x1 x2 x3 xf xl; have hX1 := hX.below hg hX.lt; have hY1 := hY.below hg hY.lt; have hbw1 := hbw.trans (hg.mono hbw.size); have hd1 := hd.below hbw1; have hz1 := hY.lt; have hz2 := hbw.size; clear hX hY hg hbw; obtain ⟨x0, x1, x2, x3, xf, xl⟩ := hX1.facts4; obtain ⟨y0, y1, y2, y3, yf, yl⟩ := hY1.facts4
  have d3 : decide ((r.n : Int) ≤ (k : Int) + 1) = false := decide_eq_false (by omega)
  have hwr : IntKind.i64.wrap ((k : Int) + 1 - 1) = (k : Int) := by rw [Int.add_sub_cancel]; exact IntWalk.i64_in _ (by omega)
  obtain ⟨b, o, eA, hb, hc⟩ := hd1 (by omega)
  have HC := Lib.hid hc
  have HA := Lib.hid eA
  rw [eA] at x0
  obtain ⟨p0, p1, p2, p3, p4, p5, p6⟩ := hc (k + 1) hk1
  have hk : k < r.n := by omega
  go_upto_region 5 with fail
  clear p0 p1 p2 p3 p4 p5 p6
  obtain ⟨p0, p1, p2, p3, p4, p5, p6⟩ := hc k hk
  by_cases hr0 : (r.f k).r = 0
  · have d5 : ((r.f k).r == 0) = true := by simpa using hr0
    have HE := Lib.hid (show ct r = ⟨r.n, mkF r.f KK m, r.wb, r.dir, r.ex⟩ from ct_mark (by rw [hj]; unfold mkCl; rw [if_pos hr0]))
    clear hr0 hj
    go_wp2_with fail
    exact bodyPost_ret (results_row rfl rfl (blk_set4 hY1)) rfl (rowPost_at HOK.out (by exact bcAll) HA.out HE.out)
  · have d5 : ((r.f k).r == 0) = false := by simpa using hr0
    go_upto_region 7 with fail
    go_wp2_with fail
    refine wp_loop_rounds 3 ?_
    rw [rounds_succ]
    by_cases h0 : (r.f k).m0 = 0
    · have d6 : ((r.f k).m0 == 0) = true := by simpa using h0
      have HOM := Lib.hid (fun (w : World) (b : Nat) (h : Own w b r.n r.f) => own_m0 h KK m (of_good d1 d2) hj hr0 h0)
      go_wp2_with fail
      refine (cells_c (some ⟨b, o, none⟩) r.n r.cap r.f r.wb r.dir r.ex _ (by rw [← HA.out]; exact hd1) (by omega) hn2).mono ?_; rintro e w3 ⟨b2, rfl, hbb, hg, hob⟩; have hX3 := hX1.below hg hX1.lt; have hY3 := hY1.below hg hY1.lt; have hbw3 := hbw1.trans (hg.mono hbw1.size); have hbn : w.heap.size + 1 < b2 := (by have := hY1.lt; omega); clear hX1 hY1 hbw1 x0 x1 x2 x3 xf xl y0 y1 y2 y3 yf yl p0 p1 p2 p3 p4 p5 p6 hd1 hd; obtain ⟨x0, x1, x2, x3, xf, xl⟩ := hX3.facts4; obtain ⟨y0, y1, y2, y3, yf, yl⟩ := hY3.facts4; have hlb := hob.lt; have hfb := hob.frozen; obtain ⟨p0, p1, p2, p3, p4, p5, p6⟩ := hob.at_ hk; go_upto_region 13 with fail; clear x0 x1 x2 x3 xf xl y0 y1 y2 y3 yf yl p0 p1 p2 p3 p4 p5 p6 hfb; have hob4 := HOM.out _ _ hob; generalize hW4 : w3.setCell _ _ = W4 at hob4 ⊢; have hX4 : Blk W4 w.heap.size 64 #[.slice (some ⟨b, o, none⟩) r.n r.cap, .bool r.wb, .int .i64 r.dir, .bool r.ex] := (by rw [← hW4, ← HA.out]; exact blk_other hX3 _ _ (by show w.heap.size ≠ b2; omega)); have hY4 : Blk W4 (w.heap.size + 1) 64 #[.slice none 0 0, .bool false, .int .i64 0, .bool false] := (by rw [← hW4]; exact blk_other hY3 _ _ (by show w.heap.size + 1 ≠ b2; omega)); have hbw4 : Below w.heap.size w W4 := (by rw [← hW4]; exact bcAll); clear hW4 hX3 hY3 hbw3 hob hlb; obtain ⟨x0, x1, x2, x3, xf, xl⟩ := hX4.facts4; obtain ⟨y0, y1, y2, y3, yf, yl⟩ := hY4.facts4; have hlb := hob4.lt; go_wp2_with fail; exact bodyPost_ret (results_row rfl rfl (blk_set4 (blk_other hY4 _ _ (by show w.heap.size + 1 ≠ w.heap.size; omega)))) rfl (rowPost_new (by omega) (by exact bcAll) (by (iterate 5 (refine Own.far ?_ (by first | (show b2 ≠ w.heap.size + 1; omega) | (show b2 ≠ w.heap.size; omega)) _)); exact hob4) hn)
    · have d6 : ((r.f k).m0 == 0) = false := by simpa using h0
      go_wp2_with fail
      rw [rounds_succ]
      by_cases h1 : (r.f k).m1 = 0
      · have d7 : ((r.f k).m1 == 0) = true := by simpa using h1
        have HOM := Lib.hid (fun (w : World) (b : Nat) (h : Own w b r.n r.f) => own_m1 h KK m (of_good d1 d2) hj hr0 h0 h1)
        go_wp2_with fail
        refine (cells_c (some ⟨b, o, none⟩) r.n r.cap r.f r.wb r.dir r.ex _ (by rw [← HA.out]; exact hd1) (by omega) hn2).mono ?_; rintro e w3 ⟨b2, rfl, hbb, hg, hob⟩; have hX3 := hX1.below hg hX1.lt; have hY3 := hY1.below hg hY1.lt; have hbw3 := hbw1.trans (hg.mono hbw1.size); have hbn : w.heap.size + 1 < b2 := (by have := hY1.lt; omega); clear hX1 hY1 hbw1 x0 x1 x2 x3 xf xl y0 y1 y2 y3 yf yl p0 p1 p2 p3 p4 p5 p6 hd1 hd; obtain ⟨x0, x1, x2, x3, xf, xl⟩ := hX3.facts4; obtain ⟨y0, y1, y2, y3, yf, yl⟩ := hY3.facts4; have hlb := hob.lt; have hfb := hob.frozen; obtain ⟨p0, p1, p2, p3, p4, p5, p6⟩ := hob.at_ hk; go_upto_region 13 with fail; clear x0 x1 x2 x3 xf xl y0 y1 y2 y3 yf yl p0 p1 p2 p3 p4 p5 p6 hfb; have hob4 := HOM.out _ _ hob; generalize hW4 : w3.setCell _ _ = W4 at hob4 ⊢; have hX4 : Blk W4 w.heap.size 64 #[.slice (some ⟨b, o, none⟩) r.n r.cap, .bool r.wb, .int .i64 r.dir, .bool r.ex] := (by rw [← hW4, ← HA.out]; exact blk_other hX3 _ _ (by show w.heap.size ≠ b2; omega)); have hY4 : Blk W4 (w.heap.size + 1) 64 #[.slice none 0 0, .bool false, .int .i64 0, .bool false] := (by rw [← hW4]; exact blk_other hY3 _ _ (by show w.heap.size + 1 ≠ b2; omega)); have hbw4 : Below w.heap.size w W4 := (by rw [← hW4]; exact bcAll); clear hW4 hX3 hY3 hbw3 hob hlb; obtain ⟨x0, x1, x2, x3, xf, xl⟩ := hX4.facts4; obtain ⟨y0, y1, y2, y3, yf, yl⟩ := hY4.facts4; have hlb := hob4.lt; go_wp2_with fail; exact bodyPost_ret (results_row rfl rfl (blk_set4 (blk_other hY4 _ _ (by show w.heap.size + 1 ≠ w.heap.size; omega)))) rfl (rowPost_new (by omega) (by exact bcAll) (by (iterate 5 (refine Own.far ?_ (by first | (show b2 ≠ w.heap.size + 1; omega) | (show b2 ≠ w.heap.size; omega)) _)); exact hob4) hn)
      · have d7 : ((r.f k).m1 == 0) = false := by simpa using h1
        go_wp2_with fail
        rw [rounds_succ]
        have HE := Lib.hid (show ct r = ⟨r.n, mkF r.f KK m, r.wb, r.dir, r.ex⟩ from ct_mark (by rw [hj]; unfold mkCl; rw [if_neg hr0, if_neg h0, if_neg h1]))
        clear hr0 hj h0 h1
        go_wp2_with fail
        exact bodyPost_ret (results_row rfl rfl (blk_set4 hY1)) rfl (rowPost_at HOK.out (by exact bcAll) HA.out HE.out)
theorem mark_p (r : Rw) (k : Nat) (m : Int) (w : World) (hr : r.ok w) (hs : saneRw r = true) (hk : k < r.n) :
    Calls Tryz.prog 47 #[.agg #[.slice r.A r.n r.cap, .bool r.wb, .int .i64 r.dir, .bool r.ex], .int .i64 k, .int .i64 m] w (RowPost r w ⟨r.n, mkF r.f k m, r.wb, r.dir, r.ex⟩) := by
  by_cases hm : 1 ≤ m ∧ m ≤ 1114111
  · have d1 : decide (m < 1) = false := decide_eq_false (by omega)
    have d2 : decide (1114111 < m) = false := decide_eq_false (by omega)
    by_cases hw : (r.f k).w = 0
    · obtain ⟨k, rfl⟩ : ∃ j, k = j + 1 := ⟨k - 1, by have := mark_left hs hk hw; omega⟩
      have h := mark_left_c r k (k + 1) m w hr hs hk d1 d2 hw (by unfold mkAt; rw [if_pos hw]; rfl)
      rw [show ((k : Int) + 1) = ((k + 1 : Nat) : Int) by omega] at h
      exact h
    · exact mark_good r k k m w hr hs hk d1 d2 hw (if_neg hw)
  · have e : (⟨r.n, mkF r.f k m, r.wb, r.dir, r.ex⟩ : Ct) = ct r := by
      have e : mkF r.f k m = r.f := by
        funext i
        unfold mkF
        rw [if_neg (fun u => hm u.1)]
      rw [e]
      rfl
    rw [e]
    by_cases d : m < 1
    · exact mark_bad1 r k m w hr hs hk (decide_eq_true d)
    · exact mark_bad2 r k m w hr hs hk (decide_eq_false d) (decide_eq_true (by omega))
end Go.Proofs.YtlchffkabpfjpaaGreat.Scr
