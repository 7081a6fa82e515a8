/- Walk of row.Put. -/
import Derived.Test.YtpnadnjcacaibaaRowC
import Derived.Test.YtpnadnjcacaibaaRowL1
namespace Go.Proofs.Ytpnadnjcacaibaa.Row
open Go.RowKit

theorem sane_len {n : Nat} {f : Nat → Cl} {dir : Int} (h : saneB n f dir = true) : 1 ≤ n ∧ n ≤ 4096 := by
  unfold saneB at h
  have := of_decide_eq_true h
  exact ⟨this.1, this.2.1⟩
set_option maxRecDepth 100000 in
set_option maxHeartbeats 1000000 in
theorem put_yes (A : Option Addr) (n cap : Nat) (f : Nat → Cl) (wb : Bool) (dir : Int) (ex : Bool) (k : Nat) (c : Cl) (w : World) (hr : Rd w A n f) (hs : saneB n f dir = true) (hf : fitsB c = true) (hw : c.w = 1 ∨ c.w = 2) (hk : (k : Int) + c.w ≤ n) :
    Calls Try.prog 16 #[.agg #[.slice A n cap, .bool wb, .int .i64 dir, .bool ex], .int .i64 k, .agg #[.int .i64 c.r, .int .i64 c.m0, .int .i64 c.m1, .int .i64 c.w, .int .i64 c.fg, .int .i64 c.bg, .int .i64 c.fl]] w fun e w' => ∃ b, e = .returned (.agg #[.slice (some ⟨b, 0, none⟩) n n, .bool wb, .int .i64 dir, .bool ex]) ∧ w.heap.size ≤ b ∧ Below w.heap.size w w' ∧ Own w' b n (mend n (putF f k c)) := by
  obtain ⟨hn1, hn2⟩ := sane_len hs
  obtain ⟨r, m0, m1, W, fg, bg, fl⟩ := c
  simp only at hw hk
  rcases hw with rfl | rfl
  · go_enter Try.func16, Try.ntmps16
    go_wp2_with fail
    generalize hw0 : ((w.alloc _).alloc _).alloc _ = w0
    have hbw : Below w.heap.size w w0 := by rw [← hw0]; (repeat (first | (with_reducible exact Below.refl _ _) | (with_reducible assumption) | (with_reducible refine Below.grow ?_ ?_ _ _) | (with_reducible refine Below.drewN' ?_ _) | (with_reducible refine Below.drew ?_) | (with_reducible refine Below.alloc ?_ ?_ _) | (with_reducible refine Below.setCell ?_ ?_ _) | omega | (focus (simp; done)) | (focus (simp; omega))))
    have hB1 : Blk w0 w.heap.size 24 #[.slice A n cap, .bool wb, .int .i64 dir, .bool ex] := by rw [← hw0]; exact ((Blk.new _ _ _).alloc _).alloc _
    have hB2 : Blk w0 (w.heap.size + 1) 29 #[.int .i64 r, .int .i64 m0, .int .i64 m1, .int .i64 1, .int .i64 fg, .int .i64 bg, .int .i64 fl] := by rw [← hw0]; exact (Blk.new_at (by simp)).alloc _
    have hB3 : Blk w0 (w.heap.size + 2) 24 #[.slice none 0 0, .bool false, .int .i64 0, .bool false] := by rw [← hw0]; exact Blk.new_at (by simp)
    clear hw0
    obtain ⟨r0, r1, r2, r3, rf, rl⟩ := hB1.facts4; obtain ⟨c0, c1, c2, c3, c4, c5, c6, cf, cl⟩ := hB2.facts7; obtain ⟨z0, z1, z2, z3, zf, zl⟩ := hB3.facts4
    go_wp2_with fail
    refine (sane_c A n cap f wb dir ex _ (hr.below hbw) (by omega)).mono ?_
    rintro e w1 ⟨rfl, hg⟩
    replace hg := hg.below
    replace hbw := hbw.trans (hg.mono hbw.size); replace hB1 := hB1.below hg hB1.lt; clear r0 r1 r2 r3 rf rl; obtain ⟨r0, r1, r2, r3, rf, rl⟩ := hB1.facts4; replace hB2 := hB2.below hg hB2.lt; clear c0 c1 c2 c3 c4 c5 c6 cf cl; obtain ⟨c0, c1, c2, c3, c4, c5, c6, cf, cl⟩ := hB2.facts7; replace hB3 := hB3.below hg hB3.lt; clear z0 z1 z2 z3 zf zl; obtain ⟨z0, z1, z2, z3, zf, zl⟩ := hB3.facts4; clear hg
    go_wp2_with fail
    refine (fits_c ⟨r, m0, m1, 1, fg, bg, fl⟩ _).mono ?_
    rintro e w2 ⟨rfl, hg⟩
    replace hg := hg.below
    replace hbw := hbw.trans (hg.mono hbw.size); replace hB1 := hB1.below hg hB1.lt; clear r0 r1 r2 r3 rf rl; obtain ⟨r0, r1, r2, r3, rf, rl⟩ := hB1.facts4; replace hB2 := hB2.below hg hB2.lt; clear c0 c1 c2 c3 c4 c5 c6 cf cl; obtain ⟨c0, c1, c2, c3, c4, c5, c6, cf, cl⟩ := hB2.facts7; replace hB3 := hB3.below hg hB3.lt; clear z0 z1 z2 z3 zf zl; obtain ⟨z0, z1, z2, z3, zf, zl⟩ := hB3.facts4; clear hg
    go_wp2_with fail
    refine (cells_c A n cap f wb dir ex _ (hr.below hbw) (by omega) (by omega)).mono ?_
    rintro e w3 ⟨b, rfl, hbb, hg, hob⟩
    have hbn : w.heap.size + 2 < b := by omega
    replace hbw := hbw.trans (hg.mono hbw.size); replace hB1 := hB1.below hg hB1.lt; clear r0 r1 r2 r3 rf rl; obtain ⟨r0, r1, r2, r3, rf, rl⟩ := hB1.facts4; replace hB2 := hB2.below hg hB2.lt; clear c0 c1 c2 c3 c4 c5 c6 cf cl; obtain ⟨c0, c1, c2, c3, c4, c5, c6, cf, cl⟩ := hB2.facts7; replace hB3 := hB3.below hg hB3.lt; clear z0 z1 z2 z3 zf zl; obtain ⟨z0, z1, z2, z3, zf, zl⟩ := hB3.facts4; clear hg
    have hlb := hob.lt
    have hfb := hob.frozen
    obtain ⟨o0, o1, o2, o3, o4, o5, o6⟩ := hob.at_ (i := k) (by omega)
    go_wp2_with fail
    (with_reducible refine (mended_c b n n _ A n cap wb dir ex _ (hob.store k ⟨r, m0, m1, 1, fg, bg, fl⟩) (by omega)).mono ?_)
    rintro e w4 ⟨rfl, hg4, hob4⟩
    have hg := gb_trans (a := w3) (by (repeat (first | (with_reducible exact World.grownBy.refl _ _) | (with_reducible assumption) | (with_reducible refine gb_grow ?_ _ _) | (with_reducible refine gb_drewN ?_ _) | (with_reducible refine gb_drew ?_) | (with_reducible refine gb_alloc ?_ _) | (with_reducible refine gb_setCell ?_ ?_ _) | (focus (left; rfl)) | (focus (right; simp; done)) | (focus (right; simp; omega)) | (focus (right; omega))))) hg4
    replace hB1 := hB1.gb hg (by intro e; injection e; omega); clear r0 r1 r2 r3 rf rl; obtain ⟨r0, r1, r2, r3, rf, rl⟩ := hB1.facts4; replace hB2 := hB2.gb hg (by intro e; injection e; omega); clear c0 c1 c2 c3 c4 c5 c6 cf cl; obtain ⟨c0, c1, c2, c3, c4, c5, c6, cf, cl⟩ := hB2.facts7; replace hB3 := hB3.gb hg (by intro e; injection e; omega); clear z0 z1 z2 z3 zf zl; obtain ⟨z0, z1, z2, z3, zf, zl⟩ := hB3.facts4
    have hob5 : Own w4 b n (mend n (putF f k ⟨r, m0, m1, 1, fg, bg, fl⟩)) := by
      unfold putF
      rw [if_neg (by show ¬ ((1 : Int) = 2); omega)]
      exact hob4
    clear hob4
    go_wp2
    refine bodyPost_ret (v := _) (by simp [results, Try.results16, go_sem, *]; try exact rfl) rfl ⟨b, rfl, by have := hbw.size; omega, ?_, ?_⟩
    · have := below_gb (a := w) hbw hg (by have := hbw.size; omega) hbw.size
      (repeat (first | (with_reducible exact Below.refl _ _) | (with_reducible assumption) | (with_reducible refine Below.grow ?_ ?_ _ _) | (with_reducible refine Below.drewN' ?_ _) | (with_reducible refine Below.drew ?_) | (with_reducible refine Below.alloc ?_ ?_ _) | (with_reducible refine Below.setCell ?_ ?_ _) | omega | (focus (simp; done)) | (focus (simp; omega))))
    · (repeat (first | (with_reducible assumption) | (with_reducible refine Own.grow ?_ _ _) | (with_reducible refine Own.drewN ?_ _) | (with_reducible refine own_drew ?_) | (with_reducible refine Own.alloc ?_ _) | (with_reducible refine Own.far' ?_ ?_ _) | (focus (simp; done)) | (focus (simp; omega))))
  · go_enter Try.func16, Try.ntmps16
    go_wp2_with fail
    generalize hw0 : ((w.alloc _).alloc _).alloc _ = w0
    have hbw : Below w.heap.size w w0 := by rw [← hw0]; (repeat (first | (with_reducible exact Below.refl _ _) | (with_reducible assumption) | (with_reducible refine Below.grow ?_ ?_ _ _) | (with_reducible refine Below.drewN' ?_ _) | (with_reducible refine Below.drew ?_) | (with_reducible refine Below.alloc ?_ ?_ _) | (with_reducible refine Below.setCell ?_ ?_ _) | omega | (focus (simp; done)) | (focus (simp; omega))))
    have hB1 : Blk w0 w.heap.size 24 #[.slice A n cap, .bool wb, .int .i64 dir, .bool ex] := by rw [← hw0]; exact ((Blk.new _ _ _).alloc _).alloc _
    have hB2 : Blk w0 (w.heap.size + 1) 29 #[.int .i64 r, .int .i64 m0, .int .i64 m1, .int .i64 2, .int .i64 fg, .int .i64 bg, .int .i64 fl] := by rw [← hw0]; exact (Blk.new_at (by simp)).alloc _
    have hB3 : Blk w0 (w.heap.size + 2) 24 #[.slice none 0 0, .bool false, .int .i64 0, .bool false] := by rw [← hw0]; exact Blk.new_at (by simp)
    clear hw0
    obtain ⟨r0, r1, r2, r3, rf, rl⟩ := hB1.facts4; obtain ⟨c0, c1, c2, c3, c4, c5, c6, cf, cl⟩ := hB2.facts7; obtain ⟨z0, z1, z2, z3, zf, zl⟩ := hB3.facts4
    go_wp2_with fail
    refine (sane_c A n cap f wb dir ex _ (hr.below hbw) (by omega)).mono ?_
    rintro e w1 ⟨rfl, hg⟩
    replace hg := hg.below
    replace hbw := hbw.trans (hg.mono hbw.size); replace hB1 := hB1.below hg hB1.lt; clear r0 r1 r2 r3 rf rl; obtain ⟨r0, r1, r2, r3, rf, rl⟩ := hB1.facts4; replace hB2 := hB2.below hg hB2.lt; clear c0 c1 c2 c3 c4 c5 c6 cf cl; obtain ⟨c0, c1, c2, c3, c4, c5, c6, cf, cl⟩ := hB2.facts7; replace hB3 := hB3.below hg hB3.lt; clear z0 z1 z2 z3 zf zl; obtain ⟨z0, z1, z2, z3, zf, zl⟩ := hB3.facts4; clear hg
    go_wp2_with fail
    refine (fits_c ⟨r, m0, m1, 2, fg, bg, fl⟩ _).mono ?_
    rintro e w2 ⟨rfl, hg⟩
    replace hg := hg.below
    replace hbw := hbw.trans (hg.mono hbw.size); replace hB1 := hB1.below hg hB1.lt; clear r0 r1 r2 r3 rf rl; obtain ⟨r0, r1, r2, r3, rf, rl⟩ := hB1.facts4; replace hB2 := hB2.below hg hB2.lt; clear c0 c1 c2 c3 c4 c5 c6 cf cl; obtain ⟨c0, c1, c2, c3, c4, c5, c6, cf, cl⟩ := hB2.facts7; replace hB3 := hB3.below hg hB3.lt; clear z0 z1 z2 z3 zf zl; obtain ⟨z0, z1, z2, z3, zf, zl⟩ := hB3.facts4; clear hg
    go_wp2_with fail
    refine (cells_c A n cap f wb dir ex _ (hr.below hbw) (by omega) (by omega)).mono ?_
    rintro e w3 ⟨b, rfl, hbb, hg, hob⟩
    have hbn : w.heap.size + 2 < b := by omega
    replace hbw := hbw.trans (hg.mono hbw.size); replace hB1 := hB1.below hg hB1.lt; clear r0 r1 r2 r3 rf rl; obtain ⟨r0, r1, r2, r3, rf, rl⟩ := hB1.facts4; replace hB2 := hB2.below hg hB2.lt; clear c0 c1 c2 c3 c4 c5 c6 cf cl; obtain ⟨c0, c1, c2, c3, c4, c5, c6, cf, cl⟩ := hB2.facts7; replace hB3 := hB3.below hg hB3.lt; clear z0 z1 z2 z3 zf zl; obtain ⟨z0, z1, z2, z3, zf, zl⟩ := hB3.facts4; clear hg
    have hlb := hob.lt
    have hfb := hob.frozen
    obtain ⟨o0, o1, o2, o3, o4, o5, o6⟩ := hob.at_ (i := k) (by omega)
    obtain ⟨q0, q1, q2, q3, q4, q5, q6⟩ := hob.at_p (i := k + 1) (p := (k + 1) * 7) (by omega) rfl
    go_wp2_with fail
    (with_reducible refine (mended_c b n n _ A n cap wb dir ex _ ((hob.store k ⟨r, m0, m1, 2, fg, bg, fl⟩).store (k + 1) ⟨0, 0, 0, 0, fg, bg, fl⟩) (by omega)).mono ?_)
    rintro e w4 ⟨rfl, hg4, hob4⟩
    have hg := gb_trans (a := w3) (by (repeat (first | (with_reducible exact World.grownBy.refl _ _) | (with_reducible assumption) | (with_reducible refine gb_grow ?_ _ _) | (with_reducible refine gb_drewN ?_ _) | (with_reducible refine gb_drew ?_) | (with_reducible refine gb_alloc ?_ _) | (with_reducible refine gb_setCell ?_ ?_ _) | (focus (left; rfl)) | (focus (right; simp; done)) | (focus (right; simp; omega)) | (focus (right; omega))))) hg4
    replace hB1 := hB1.gb hg (by intro e; injection e; omega); clear r0 r1 r2 r3 rf rl; obtain ⟨r0, r1, r2, r3, rf, rl⟩ := hB1.facts4; replace hB2 := hB2.gb hg (by intro e; injection e; omega); clear c0 c1 c2 c3 c4 c5 c6 cf cl; obtain ⟨c0, c1, c2, c3, c4, c5, c6, cf, cl⟩ := hB2.facts7; replace hB3 := hB3.gb hg (by intro e; injection e; omega); clear z0 z1 z2 z3 zf zl; obtain ⟨z0, z1, z2, z3, zf, zl⟩ := hB3.facts4
    have hob5 : Own w4 b n (mend n (putF f k ⟨r, m0, m1, 2, fg, bg, fl⟩)) := by
      unfold putF
      rw [if_pos rfl]
      exact hob4
    clear hob4
    go_wp2
    refine bodyPost_ret (v := _) (by simp [results, Try.results16, go_sem, *]; try exact rfl) rfl ⟨b, rfl, by have := hbw.size; omega, ?_, ?_⟩
    · have := below_gb (a := w) hbw hg (by have := hbw.size; omega) hbw.size
      (repeat (first | (with_reducible exact Below.refl _ _) | (with_reducible assumption) | (with_reducible refine Below.grow ?_ ?_ _ _) | (with_reducible refine Below.drewN' ?_ _) | (with_reducible refine Below.drew ?_) | (with_reducible refine Below.alloc ?_ ?_ _) | (with_reducible refine Below.setCell ?_ ?_ _) | omega | (focus (simp; done)) | (focus (simp; omega))))
    · (repeat (first | (with_reducible assumption) | (with_reducible refine Own.grow ?_ _ _) | (with_reducible refine Own.drewN ?_ _) | (with_reducible refine own_drew ?_) | (with_reducible refine Own.alloc ?_ _) | (with_reducible refine Own.far' ?_ ?_ _) | (focus (simp; done)) | (focus (simp; omega))))
set_option maxRecDepth 100000 in
set_option maxHeartbeats 4000000 in
theorem put_no (A : Option Addr) (n cap : Nat) (f : Nat → Cl) (wb : Bool) (dir : Int) (ex : Bool) (k : Nat) (c : Cl) (w : World) (hr : Rd w A n f) (hs : saneB n f dir = true) (h : fitsB c = false ∨ fitsB c = true ∧ c.w = 0 ∨ fitsB c = true ∧ c.w = 1 ∧ (n : Int) < k + c.w ∨ fitsB c = true ∧ c.w = 2 ∧ (n : Int) < k + c.w) :
    Calls Try.prog 16 #[.agg #[.slice A n cap, .bool wb, .int .i64 dir, .bool ex], .int .i64 k, .agg #[.int .i64 c.r, .int .i64 c.m0, .int .i64 c.m1, .int .i64 c.w, .int .i64 c.fg, .int .i64 c.bg, .int .i64 c.fl]] w fun e w' => e = .returned (.agg #[.slice A n cap, .bool wb, .int .i64 dir, .bool ex]) ∧ Grew w w' := by
  obtain ⟨hn1, hn2⟩ := sane_len hs
  obtain ⟨r, m0, m1, W, fg, bg, fl⟩ := c
  simp only at h
  rcases h with hf | ⟨hf, rfl⟩ | ⟨hf, rfl, h2⟩ | ⟨hf, rfl, h2⟩
  · go_enter Try.func16, Try.ntmps16
    go_wp2_with fail
    generalize hw0 : ((w.alloc _).alloc _).alloc _ = w0
    have hbw : Below w.heap.size w w0 := by rw [← hw0]; (repeat (first | (with_reducible exact Below.refl _ _) | (with_reducible assumption) | (with_reducible refine Below.grow ?_ ?_ _ _) | (with_reducible refine Below.drewN' ?_ _) | (with_reducible refine Below.drew ?_) | (with_reducible refine Below.alloc ?_ ?_ _) | (with_reducible refine Below.setCell ?_ ?_ _) | omega | (focus (simp; done)) | (focus (simp; omega))))
    have hB1 : Blk w0 w.heap.size 24 #[.slice A n cap, .bool wb, .int .i64 dir, .bool ex] := by rw [← hw0]; exact ((Blk.new _ _ _).alloc _).alloc _
    have hB2 : Blk w0 (w.heap.size + 1) 29 #[.int .i64 r, .int .i64 m0, .int .i64 m1, .int .i64 W, .int .i64 fg, .int .i64 bg, .int .i64 fl] := by rw [← hw0]; exact (Blk.new_at (by simp)).alloc _
    have hB3 : Blk w0 (w.heap.size + 2) 24 #[.slice none 0 0, .bool false, .int .i64 0, .bool false] := by rw [← hw0]; exact Blk.new_at (by simp)
    clear hw0
    obtain ⟨r0, r1, r2, r3, rf, rl⟩ := hB1.facts4; obtain ⟨c0, c1, c2, c3, c4, c5, c6, cf, cl⟩ := hB2.facts7; obtain ⟨z0, z1, z2, z3, zf, zl⟩ := hB3.facts4
    go_wp2_with fail
    refine (sane_c A n cap f wb dir ex _ (hr.below hbw) (by omega)).mono ?_
    rintro e w1 ⟨rfl, hg⟩
    replace hg := hg.below
    replace hbw := hbw.trans (hg.mono hbw.size); replace hB1 := hB1.below hg hB1.lt; clear r0 r1 r2 r3 rf rl; obtain ⟨r0, r1, r2, r3, rf, rl⟩ := hB1.facts4; replace hB2 := hB2.below hg hB2.lt; clear c0 c1 c2 c3 c4 c5 c6 cf cl; obtain ⟨c0, c1, c2, c3, c4, c5, c6, cf, cl⟩ := hB2.facts7; replace hB3 := hB3.below hg hB3.lt; clear z0 z1 z2 z3 zf zl; obtain ⟨z0, z1, z2, z3, zf, zl⟩ := hB3.facts4; clear hg
    go_wp2_with fail
    refine (fits_c ⟨r, m0, m1, W, fg, bg, fl⟩ _).mono ?_
    rintro e w2 ⟨rfl, hg⟩
    replace hg := hg.below
    replace hbw := hbw.trans (hg.mono hbw.size); replace hB1 := hB1.below hg hB1.lt; clear r0 r1 r2 r3 rf rl; obtain ⟨r0, r1, r2, r3, rf, rl⟩ := hB1.facts4; replace hB2 := hB2.below hg hB2.lt; clear c0 c1 c2 c3 c4 c5 c6 cf cl; obtain ⟨c0, c1, c2, c3, c4, c5, c6, cf, cl⟩ := hB2.facts7; replace hB3 := hB3.below hg hB3.lt; clear z0 z1 z2 z3 zf zl; obtain ⟨z0, z1, z2, z3, zf, zl⟩ := hB3.facts4; clear hg
    go_wp2
    refine bodyPost_ret (v := _) (by simp [results, Try.results16, go_sem, *]; try exact rfl) rfl ⟨rfl, (Below.toGrow (by (repeat (first | (with_reducible exact Below.refl _ _) | (with_reducible assumption) | (with_reducible refine Below.grow ?_ ?_ _ _) | (with_reducible refine Below.drewN' ?_ _) | (with_reducible refine Below.drew ?_) | (with_reducible refine Below.alloc ?_ ?_ _) | (with_reducible refine Below.setCell ?_ ?_ _) | omega | (focus (simp; done)) | (focus (simp; omega))))))⟩
  · go_enter Try.func16, Try.ntmps16
    go_wp2_with fail
    generalize hw0 : ((w.alloc _).alloc _).alloc _ = w0
    have hbw : Below w.heap.size w w0 := by rw [← hw0]; (repeat (first | (with_reducible exact Below.refl _ _) | (with_reducible assumption) | (with_reducible refine Below.grow ?_ ?_ _ _) | (with_reducible refine Below.drewN' ?_ _) | (with_reducible refine Below.drew ?_) | (with_reducible refine Below.alloc ?_ ?_ _) | (with_reducible refine Below.setCell ?_ ?_ _) | omega | (focus (simp; done)) | (focus (simp; omega))))
    have hB1 : Blk w0 w.heap.size 24 #[.slice A n cap, .bool wb, .int .i64 dir, .bool ex] := by rw [← hw0]; exact ((Blk.new _ _ _).alloc _).alloc _
    have hB2 : Blk w0 (w.heap.size + 1) 29 #[.int .i64 r, .int .i64 m0, .int .i64 m1, .int .i64 0, .int .i64 fg, .int .i64 bg, .int .i64 fl] := by rw [← hw0]; exact (Blk.new_at (by simp)).alloc _
    have hB3 : Blk w0 (w.heap.size + 2) 24 #[.slice none 0 0, .bool false, .int .i64 0, .bool false] := by rw [← hw0]; exact Blk.new_at (by simp)
    clear hw0
    obtain ⟨r0, r1, r2, r3, rf, rl⟩ := hB1.facts4; obtain ⟨c0, c1, c2, c3, c4, c5, c6, cf, cl⟩ := hB2.facts7; obtain ⟨z0, z1, z2, z3, zf, zl⟩ := hB3.facts4
    go_wp2_with fail
    refine (sane_c A n cap f wb dir ex _ (hr.below hbw) (by omega)).mono ?_
    rintro e w1 ⟨rfl, hg⟩
    replace hg := hg.below
    replace hbw := hbw.trans (hg.mono hbw.size); replace hB1 := hB1.below hg hB1.lt; clear r0 r1 r2 r3 rf rl; obtain ⟨r0, r1, r2, r3, rf, rl⟩ := hB1.facts4; replace hB2 := hB2.below hg hB2.lt; clear c0 c1 c2 c3 c4 c5 c6 cf cl; obtain ⟨c0, c1, c2, c3, c4, c5, c6, cf, cl⟩ := hB2.facts7; replace hB3 := hB3.below hg hB3.lt; clear z0 z1 z2 z3 zf zl; obtain ⟨z0, z1, z2, z3, zf, zl⟩ := hB3.facts4; clear hg
    go_wp2_with fail
    refine (fits_c ⟨r, m0, m1, 0, fg, bg, fl⟩ _).mono ?_
    rintro e w2 ⟨rfl, hg⟩
    replace hg := hg.below
    replace hbw := hbw.trans (hg.mono hbw.size); replace hB1 := hB1.below hg hB1.lt; clear r0 r1 r2 r3 rf rl; obtain ⟨r0, r1, r2, r3, rf, rl⟩ := hB1.facts4; replace hB2 := hB2.below hg hB2.lt; clear c0 c1 c2 c3 c4 c5 c6 cf cl; obtain ⟨c0, c1, c2, c3, c4, c5, c6, cf, cl⟩ := hB2.facts7; replace hB3 := hB3.below hg hB3.lt; clear z0 z1 z2 z3 zf zl; obtain ⟨z0, z1, z2, z3, zf, zl⟩ := hB3.facts4; clear hg
    go_wp2
    refine bodyPost_ret (v := _) (by simp [results, Try.results16, go_sem, *]; try exact rfl) rfl ⟨rfl, (Below.toGrow (by (repeat (first | (with_reducible exact Below.refl _ _) | (with_reducible assumption) | (with_reducible refine Below.grow ?_ ?_ _ _) | (with_reducible refine Below.drewN' ?_ _) | (with_reducible refine Below.drew ?_) | (with_reducible refine Below.alloc ?_ ?_ _) | (with_reducible refine Below.setCell ?_ ?_ _) | omega | (focus (simp; done)) | (focus (simp; omega))))))⟩
  · go_enter Try.func16, Try.ntmps16
    go_wp2_with fail
    generalize hw0 : ((w.alloc _).alloc _).alloc _ = w0
    have hbw : Below w.heap.size w w0 := by rw [← hw0]; (repeat (first | (with_reducible exact Below.refl _ _) | (with_reducible assumption) | (with_reducible refine Below.grow ?_ ?_ _ _) | (with_reducible refine Below.drewN' ?_ _) | (with_reducible refine Below.drew ?_) | (with_reducible refine Below.alloc ?_ ?_ _) | (with_reducible refine Below.setCell ?_ ?_ _) | omega | (focus (simp; done)) | (focus (simp; omega))))
    have hB1 : Blk w0 w.heap.size 24 #[.slice A n cap, .bool wb, .int .i64 dir, .bool ex] := by rw [← hw0]; exact ((Blk.new _ _ _).alloc _).alloc _
    have hB2 : Blk w0 (w.heap.size + 1) 29 #[.int .i64 r, .int .i64 m0, .int .i64 m1, .int .i64 1, .int .i64 fg, .int .i64 bg, .int .i64 fl] := by rw [← hw0]; exact (Blk.new_at (by simp)).alloc _
    have hB3 : Blk w0 (w.heap.size + 2) 24 #[.slice none 0 0, .bool false, .int .i64 0, .bool false] := by rw [← hw0]; exact Blk.new_at (by simp)
    clear hw0
    obtain ⟨r0, r1, r2, r3, rf, rl⟩ := hB1.facts4; obtain ⟨c0, c1, c2, c3, c4, c5, c6, cf, cl⟩ := hB2.facts7; obtain ⟨z0, z1, z2, z3, zf, zl⟩ := hB3.facts4
    go_wp2_with fail
    refine (sane_c A n cap f wb dir ex _ (hr.below hbw) (by omega)).mono ?_
    rintro e w1 ⟨rfl, hg⟩
    replace hg := hg.below
    replace hbw := hbw.trans (hg.mono hbw.size); replace hB1 := hB1.below hg hB1.lt; clear r0 r1 r2 r3 rf rl; obtain ⟨r0, r1, r2, r3, rf, rl⟩ := hB1.facts4; replace hB2 := hB2.below hg hB2.lt; clear c0 c1 c2 c3 c4 c5 c6 cf cl; obtain ⟨c0, c1, c2, c3, c4, c5, c6, cf, cl⟩ := hB2.facts7; replace hB3 := hB3.below hg hB3.lt; clear z0 z1 z2 z3 zf zl; obtain ⟨z0, z1, z2, z3, zf, zl⟩ := hB3.facts4; clear hg
    go_wp2_with fail
    refine (fits_c ⟨r, m0, m1, 1, fg, bg, fl⟩ _).mono ?_
    rintro e w2 ⟨rfl, hg⟩
    replace hg := hg.below
    replace hbw := hbw.trans (hg.mono hbw.size); replace hB1 := hB1.below hg hB1.lt; clear r0 r1 r2 r3 rf rl; obtain ⟨r0, r1, r2, r3, rf, rl⟩ := hB1.facts4; replace hB2 := hB2.below hg hB2.lt; clear c0 c1 c2 c3 c4 c5 c6 cf cl; obtain ⟨c0, c1, c2, c3, c4, c5, c6, cf, cl⟩ := hB2.facts7; replace hB3 := hB3.below hg hB3.lt; clear z0 z1 z2 z3 zf zl; obtain ⟨z0, z1, z2, z3, zf, zl⟩ := hB3.facts4; clear hg
    go_wp2
    refine bodyPost_ret (v := _) (by simp [results, Try.results16, go_sem, *]; try exact rfl) rfl ⟨rfl, (Below.toGrow (by (repeat (first | (with_reducible exact Below.refl _ _) | (with_reducible assumption) | (with_reducible refine Below.grow ?_ ?_ _ _) | (with_reducible refine Below.drewN' ?_ _) | (with_reducible refine Below.drew ?_) | (with_reducible refine Below.alloc ?_ ?_ _) | (with_reducible refine Below.setCell ?_ ?_ _) | omega | (focus (simp; done)) | (focus (simp; omega))))))⟩
  · go_enter Try.func16, Try.ntmps16
    go_wp2_with fail
    generalize hw0 : ((w.alloc _).alloc _).alloc _ = w0
    have hbw : Below w.heap.size w w0 := by rw [← hw0]; (repeat (first | (with_reducible exact Below.refl _ _) | (with_reducible assumption) | (with_reducible refine Below.grow ?_ ?_ _ _) | (with_reducible refine Below.drewN' ?_ _) | (with_reducible refine Below.drew ?_) | (with_reducible refine Below.alloc ?_ ?_ _) | (with_reducible refine Below.setCell ?_ ?_ _) | omega | (focus (simp; done)) | (focus (simp; omega))))
    have hB1 : Blk w0 w.heap.size 24 #[.slice A n cap, .bool wb, .int .i64 dir, .bool ex] := by rw [← hw0]; exact ((Blk.new _ _ _).alloc _).alloc _
    have hB2 : Blk w0 (w.heap.size + 1) 29 #[.int .i64 r, .int .i64 m0, .int .i64 m1, .int .i64 2, .int .i64 fg, .int .i64 bg, .int .i64 fl] := by rw [← hw0]; exact (Blk.new_at (by simp)).alloc _
    have hB3 : Blk w0 (w.heap.size + 2) 24 #[.slice none 0 0, .bool false, .int .i64 0, .bool false] := by rw [← hw0]; exact Blk.new_at (by simp)
    clear hw0
    obtain ⟨r0, r1, r2, r3, rf, rl⟩ := hB1.facts4; obtain ⟨c0, c1, c2, c3, c4, c5, c6, cf, cl⟩ := hB2.facts7; obtain ⟨z0, z1, z2, z3, zf, zl⟩ := hB3.facts4
    go_wp2_with fail
    refine (sane_c A n cap f wb dir ex _ (hr.below hbw) (by omega)).mono ?_
    rintro e w1 ⟨rfl, hg⟩
    replace hg := hg.below
    replace hbw := hbw.trans (hg.mono hbw.size); replace hB1 := hB1.below hg hB1.lt; clear r0 r1 r2 r3 rf rl; obtain ⟨r0, r1, r2, r3, rf, rl⟩ := hB1.facts4; replace hB2 := hB2.below hg hB2.lt; clear c0 c1 c2 c3 c4 c5 c6 cf cl; obtain ⟨c0, c1, c2, c3, c4, c5, c6, cf, cl⟩ := hB2.facts7; replace hB3 := hB3.below hg hB3.lt; clear z0 z1 z2 z3 zf zl; obtain ⟨z0, z1, z2, z3, zf, zl⟩ := hB3.facts4; clear hg
    go_wp2_with fail
    refine (fits_c ⟨r, m0, m1, 2, fg, bg, fl⟩ _).mono ?_
    rintro e w2 ⟨rfl, hg⟩
    replace hg := hg.below
    replace hbw := hbw.trans (hg.mono hbw.size); replace hB1 := hB1.below hg hB1.lt; clear r0 r1 r2 r3 rf rl; obtain ⟨r0, r1, r2, r3, rf, rl⟩ := hB1.facts4; replace hB2 := hB2.below hg hB2.lt; clear c0 c1 c2 c3 c4 c5 c6 cf cl; obtain ⟨c0, c1, c2, c3, c4, c5, c6, cf, cl⟩ := hB2.facts7; replace hB3 := hB3.below hg hB3.lt; clear z0 z1 z2 z3 zf zl; obtain ⟨z0, z1, z2, z3, zf, zl⟩ := hB3.facts4; clear hg
    go_wp2
    refine bodyPost_ret (v := _) (by simp [results, Try.results16, go_sem, *]; try exact rfl) rfl ⟨rfl, (Below.toGrow (by (repeat (first | (with_reducible exact Below.refl _ _) | (with_reducible assumption) | (with_reducible refine Below.grow ?_ ?_ _ _) | (with_reducible refine Below.drewN' ?_ _) | (with_reducible refine Below.drew ?_) | (with_reducible refine Below.alloc ?_ ?_ _) | (with_reducible refine Below.setCell ?_ ?_ _) | omega | (focus (simp; done)) | (focus (simp; omega))))))⟩

theorem fits_w {c : Cl} (h : fitsB c = true) : c.w = 0 ∨ c.w = 1 ∨ c.w = 2 := by
  unfold fitsB at h
  have := (of_decide_eq_true h).2.2.2.2.2.2.2.2.2.2
  omega
theorem put_c (A : Option Addr) (n cap : Nat) (f : Nat → Cl) (wb : Bool) (dir : Int) (ex : Bool) (k : Nat) (c : Cl) (w : World) (hr : Rd w A n f) (hs : saneB n f dir = true) :
    Calls Try.prog 16 #[.agg #[.slice A n cap, .bool wb, .int .i64 dir, .bool ex], .int .i64 k, .agg #[.int .i64 c.r, .int .i64 c.m0, .int .i64 c.m1, .int .i64 c.w, .int .i64 c.fg, .int .i64 c.bg, .int .i64 c.fl]] w fun e w' => ∃ B cap', e = .returned (.agg #[.slice B n cap', .bool wb, .int .i64 dir, .bool ex]) ∧ Grew w w' ∧ Rd w' B n (putR n f k c) := by
  unfold putR
  cases hp : putOk n k c
  · refine (put_no A n cap f wb dir ex k c w hr hs ?_).mono ?_
    · unfold putOk at hp
      cases hf : fitsB c
      · exact .inl rfl
      · right
        rw [hf] at hp
        rcases fits_w hf with h | h | h
        · exact .inl ⟨rfl, h⟩
        · rw [h] at hp
          simp at hp
          exact .inr (.inl ⟨rfl, h, by rw [h]; omega⟩)
        · rw [h] at hp
          simp at hp
          exact .inr (.inr ⟨rfl, h, by rw [h]; omega⟩)
    · rintro e w' ⟨rfl, hg⟩
      exact ⟨A, cap, rfl, hg, by simpa using hr.below hg.below⟩
  · unfold putOk at hp
    simp at hp
    refine (put_yes A n cap f wb dir ex k c w hr hs hp.1 hp.2.1 hp.2.2).mono ?_
    rintro e w' ⟨b, rfl, _, hb, ho⟩
    exact ⟨some ⟨b, 0, none⟩, n, rfl, hb.toGrow, by simpa using ho.rd⟩
end Go.Proofs.Ytpnadnjcacaibaa.Row
