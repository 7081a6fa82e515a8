/- Walks of row.between and row.Erase. -/
import Derived.Test.YtpnadnjcacaibaaRowN
import Derived.Test.YtpnadnjcacaibaaHand
import Derived.Test.YtpnadnjcacaibaaRowL2
namespace Go.Proofs.Ytpnadnjcacaibaa.Row
open Go.RowKit

theorem own_drew {w : World} {b n : Nat} {f : Nat → Cl} (h : Own w b n f) : Own w.drew b n f := h
theorem e2int {a b a' b' : Int} (h : a = a') (h' : b = b') : Ending.returned (.tuple #[.int .i64 a, .int .i64 b]) = .returned (.tuple #[.int .i64 a', .int .i64 b']) := by rw [h, h']
set_option maxHeartbeats 1000000 in
theorem between_c (A : Option Addr) (n cap : Nat) (wb : Bool) (dir : Int) (ex : Bool) (a b : Int) (F T : Nat) (w : World) (hn : n ≤ 9223372036854775806) (hF : max 0 (min a n) = (F : Int)) (hT : max (F : Int) (max 0 (min b n)) = (T : Int)) :
    Calls Try.prog 65 #[.agg #[.slice A n cap, .bool wb, .int .i64 dir, .bool ex], .int .i64 a, .int .i64 b] w fun e w' => e = .returned (.tuple #[.int .i64 F, .int .i64 T]) ∧ Grew w w' := by
  have HF := Lib.hid hF
  have HT := Lib.hid hT
  clear hF hT
  go_enter Try.func65, Try.ntmps65
  go_wp2
  all_goals (go_ret2; refine ⟨e2int ?_ ?_, (Below.toGrow (by repeat (first | (with_reducible exact Below.refl _ _) | (with_reducible assumption) | (with_reducible refine Below.grow ?_ ?_ _ _) | (with_reducible refine Below.drewN' ?_ _) | (with_reducible refine Below.drew ?_) | (with_reducible refine Below.alloc ?_ ?_ _) | (with_reducible refine Below.setCell ?_ ?_ _) | omega | (focus (simp; done)) | (focus (simp; omega)))))⟩)
  all_goals (have h1 := HF.out; have h2 := HT.out; clear HF HT; omega)

set_option maxRecDepth 100000 in
set_option maxHeartbeats 1000000 in
theorem lay0_c (A : Option Addr) (cap : Nat) (fg bg fl : Int) (w : World) :
    Calls Try.prog 66 #[.slice A 0 cap, .agg #[.int .i64 fg, .int .i64 bg, .int .i64 fl]] w fun e w' => e = .returned (.tuple #[]) ∧ Grew w w' := by
  go_enter Try.func66, Try.ntmps66
  go_wp2
  refine wp_loop_rounds 1 ?_
  rw [rounds_succ]
  go_wp2
  go_end0
  exact ⟨rfl, (Below.toGrow (by repeat (first | (with_reducible exact Below.refl _ _) | (with_reducible assumption) | (with_reducible refine Below.grow ?_ ?_ _ _) | (with_reducible refine Below.drewN' ?_ _) | (with_reducible refine Below.drew ?_) | (with_reducible refine Below.alloc ?_ ?_ _) | (with_reducible refine Below.setCell ?_ ?_ _) | omega | (focus (simp; done)) | (focus (simp; omega)))))⟩

set_option maxRecDepth 100000 in
set_option maxHeartbeats 4000000 in
/-- Erase where it does something -/
theorem erase_yes (A : Option Addr) (n cap : Nat) (f : Nat → Cl) (wb : Bool) (dir : Int) (ex : Bool) (x y : Int) (F T : Nat) (fg bg fl : Int) (w : World) (hr : Rd w A n f) (hs : saneB n f dir = true) (hp : penB fg bg fl = true)
    (hF : max 0 (min x n) = (F : Int)) (hT : max (F : Int) (max 0 (min y n)) = (T : Int)) (hFT : F < T) (hTn : T ≤ n) :
    Calls Try.prog 31 #[.agg #[.slice A n cap, .bool wb, .int .i64 dir, .bool ex], .int .i64 x, .int .i64 y, .agg #[.int .i64 fg, .int .i64 bg, .int .i64 fl]] w fun e w' => ∃ b, e = .returned (.agg #[.slice (some ⟨b, 0, none⟩) n n, .bool wb, .int .i64 dir, .bool ex]) ∧ w.heap.size ≤ b ∧ Below w.heap.size w w' ∧ Own w' b n (mend n (laid f F (T - F) (blank fg bg fl))) := by
  obtain ⟨hn1, hn2⟩ := sane_len hs
  have HF := Lib.hid hF
  have HT := Lib.hid hT
  clear hF hT
  go_enter Try.func31, Try.ntmps31
  go_wp2_with fail
  generalize hw0 : ((w.alloc _).alloc _).alloc _ = w0
  have hbw : Below w.heap.size w w0 := by rw [← hw0]; (repeat (first | (with_reducible exact Below.refl _ _) | (with_reducible assumption) | (with_reducible refine Below.grow ?_ ?_ _ _) | (with_reducible refine Below.drewN' ?_ _) | (with_reducible refine Below.drew ?_) | (with_reducible refine Below.alloc ?_ ?_ _) | (with_reducible refine Below.setCell ?_ ?_ _) | omega | (focus (simp; done)) | (focus (simp; omega))))
  have hB1 : Blk w0 w.heap.size 24 #[.slice A n cap, .bool wb, .int .i64 dir, .bool ex] := by rw [← hw0]; exact ((Blk.new _ _ _).alloc _).alloc _
  have hB2 : Blk w0 (w.heap.size + 1) 27 #[.int .i64 fg, .int .i64 bg, .int .i64 fl] := by rw [← hw0]; exact (Blk.new_at (by simp)).alloc _
  have hB3 : Blk w0 (w.heap.size + 2) 24 #[.slice none 0 0, .bool false, .int .i64 0, .bool false] := by rw [← hw0]; exact Blk.new_at (by simp)
  clear hw0
  obtain ⟨r0, r1, r2, r3, rf, rl⟩ := hB1.facts4; obtain ⟨p0, p1, p2, pf, pl⟩ := hB2.facts3; obtain ⟨z0, z1, z2, z3, zf, zl⟩ := hB3.facts4
  go_wp2_with fail
  refine (sane_c A n cap f wb dir ex _ (hr.below hbw) (by omega)).mono ?_
  rintro e w1 ⟨rfl, hg⟩
  replace hg := hg.below
  replace hbw := hbw.trans (hg.mono hbw.size); replace hB1 := hB1.below hg hB1.lt; clear r0 r1 r2 r3 rf rl; obtain ⟨r0, r1, r2, r3, rf, rl⟩ := hB1.facts4; replace hB2 := hB2.below hg hB2.lt; clear p0 p1 p2 pf pl; obtain ⟨p0, p1, p2, pf, pl⟩ := hB2.facts3; replace hB3 := hB3.below hg hB3.lt; clear z0 z1 z2 z3 zf zl; obtain ⟨z0, z1, z2, z3, zf, zl⟩ := hB3.facts4; clear hg
  go_wp2_with fail
  refine (penSane_c fg bg fl _).mono ?_
  rintro e w2 ⟨rfl, hg⟩
  replace hg := hg.below
  replace hbw := hbw.trans (hg.mono hbw.size); replace hB1 := hB1.below hg hB1.lt; clear r0 r1 r2 r3 rf rl; obtain ⟨r0, r1, r2, r3, rf, rl⟩ := hB1.facts4; replace hB2 := hB2.below hg hB2.lt; clear p0 p1 p2 pf pl; obtain ⟨p0, p1, p2, pf, pl⟩ := hB2.facts3; replace hB3 := hB3.below hg hB3.lt; clear z0 z1 z2 z3 zf zl; obtain ⟨z0, z1, z2, z3, zf, zl⟩ := hB3.facts4; clear hg
  go_wp2_with fail
  refine (between_c A n cap wb dir ex x y F T _ (by omega) HF.out HT.out).mono ?_
  rintro e w3 ⟨rfl, hg⟩
  replace hg := hg.below
  replace hbw := hbw.trans (hg.mono hbw.size); replace hB1 := hB1.below hg hB1.lt; clear r0 r1 r2 r3 rf rl; obtain ⟨r0, r1, r2, r3, rf, rl⟩ := hB1.facts4; replace hB2 := hB2.below hg hB2.lt; clear p0 p1 p2 pf pl; obtain ⟨p0, p1, p2, pf, pl⟩ := hB2.facts3; replace hB3 := hB3.below hg hB3.lt; clear z0 z1 z2 z3 zf zl; obtain ⟨z0, z1, z2, z3, zf, zl⟩ := hB3.facts4; clear hg
  go_wp2_with fail
  refine (cells_c A n cap f wb dir ex _ (hr.below hbw) (by omega) (by omega)).mono ?_
  rintro e w4 ⟨b, rfl, hbb, hg, hob⟩
  have hbn : w.heap.size + 2 < b := by omega
  replace hbw := hbw.trans (hg.mono hbw.size); replace hB1 := hB1.below hg hB1.lt; clear r0 r1 r2 r3 rf rl; obtain ⟨r0, r1, r2, r3, rf, rl⟩ := hB1.facts4; replace hB2 := hB2.below hg hB2.lt; clear p0 p1 p2 pf pl; obtain ⟨p0, p1, p2, pf, pl⟩ := hB2.facts3; replace hB3 := hB3.below hg hB3.lt; clear z0 z1 z2 z3 zf zl; obtain ⟨z0, z1, z2, z3, zf, zl⟩ := hB3.facts4; clear hg
  have hlb := hob.lt
  have l1 : (0 : Int) ≤ (F : Int) := by omega
  have l2 : (F : Int) ≤ (T : Int) := by omega
  have l3 : (T : Int) ≤ (n : Int) := by omega
  have l4 : ¬ (n = F) := by omega
  go_wp2_with fail
  refine hr_start (S := (fun w' => w'.cell? ⟨w.heap.size + 1, 0, none⟩ = some (.int .i64 fg) ∧ w'.cell? ⟨w.heap.size + 1, 1, none⟩ = some (.int .i64 bg) ∧ w'.cell? ⟨w.heap.size + 1, 2, none⟩ = some (.int .i64 fl))) (by kernel_rfl) rfl ?_ (fun hHeld => ?_)
  · ((try dsimp only); go_simp)
  refine hr_take (i := 0) rfl rfl (by kernel_rfl) (by kernel_rfl) (by kernel_rfl) (by kernel_rfl) (fun _ _ _ h => h) (v := ?_) ?_ (by assumption) ?_
  rotate_left
  focus (intro wS hSw; (try dsimp only at hSw); go_simp; (try with_reducible rfl))
  simp only [List.set_cons_zero, List.set_cons_succ]
  refine hr_take (i := 1) rfl rfl (by kernel_rfl) (by kernel_rfl) (by kernel_rfl) (by kernel_rfl) (fun _ _ _ h => h) (v := ?_) ?_ (by assumption) ?_
  rotate_left
  focus (intro wS hSw; (try dsimp only at hSw); go_simp; (try with_reducible rfl))
  simp only [List.set_cons_zero, List.set_cons_succ]
  refine hr_take (i := 2) rfl rfl (by kernel_rfl) (by kernel_rfl) (by kernel_rfl) (by kernel_rfl) (fun _ _ _ h => h) (v := ?_) ?_ (by assumption) ?_
  rotate_left
  focus (intro wS hSw; (try dsimp only at hSw); go_simp; (try with_reducible rfl))
  simp only [List.set_cons_zero, List.set_cons_succ]
  refine hr_take (i := 3) rfl rfl (by kernel_rfl) (by kernel_rfl) (by kernel_rfl) (by kernel_rfl) (fun _ _ _ h => h) (v := ?_) ?_ (by assumption) ?_
  rotate_left
  focus (intro wS hSw; (try dsimp only at hSw); go_simp; (try with_reducible rfl))
  simp only [List.set_cons_zero, List.set_cons_succ]
  refine hr_take (i := 4) rfl rfl (by kernel_rfl) (by kernel_rfl) (by kernel_rfl) (by kernel_rfl) (fun _ _ _ h => h) (v := ?_) ?_ (by assumption) ?_
  rotate_left
  focus (intro wS hSw; (try dsimp only at hSw); go_simp; (try with_reducible rfl))
  simp only [List.set_cons_zero, List.set_cons_succ]
  refine hr_op (i := 5) rfl rfl (by kernel_rfl) (by kernel_rfl) (fun K hK => ?_)
  go_simp
  ((with_reducible refine (lay_c b (F * 7) n F (T - F) _ f fg bg fl _ (by (repeat (first | (with_reducible assumption) | (with_reducible refine Own.grow ?_ _ _) | (with_reducible refine Own.drewN ?_ _) | (with_reducible refine own_drew ?_) | (with_reducible refine Own.alloc ?_ _) | (with_reducible refine Own.far' ?_ ?_ _) | (focus (simp; done)) | (focus (simp; omega))))) rfl (by omega) (by omega)).mono ?_); rintro e w6 ⟨rfl, hg6, ho6⟩; obtain ⟨y0, y1, y2, _, _⟩ := (Blk.gb (show Blk w4.drew (w.heap.size + 1) _ _ from hB2) hg6 (by intro e; injection e; omega)).facts3)
  (try go_wp2_with fail)
  refine hK.out _ _ ?_ (fun hHeld => ?_)
  · ((try dsimp only); go_simp)
  clear hK K
  simp only [List.set_cons_zero, List.set_cons_succ]
  refine hr_done (by kernel_rfl) ?_
  have hg : w4.grownBy w6 (some b) := gb_trans (gb_drew (World.grownBy.refl _ _)) hg6
  clear hg6 hHeld y0 y1 y2
  have hbb2 : w.heap.size ≤ b := by omega
  have hbw6 := below_gb hbw hg hbb2 hbw.size
  replace hB1 := hB1.gb hg (by intro e; injection e; omega); clear r0 r1 r2 r3 rf rl; obtain ⟨r0, r1, r2, r3, rf, rl⟩ := hB1.facts4; replace hB3 := hB3.gb hg (by intro e; injection e; omega); clear z0 z1 z2 z3 zf zl; obtain ⟨z0, z1, z2, z3, zf, zl⟩ := hB3.facts4
  clear p0 p1 p2 pf pl hB2 hg hob
  go_wp2_with fail
  refine (mended_c b n n _ A n cap wb dir ex _ ho6 (by omega)).mono ?_
  rintro e w7 ⟨rfl, hg, ho7⟩
  have hbw7 := below_gb hbw6 hg hbb2 hbw6.size
  replace hB1 := hB1.gb hg (by intro e; injection e; omega); clear r0 r1 r2 r3 rf rl; obtain ⟨r0, r1, r2, r3, rf, rl⟩ := hB1.facts4; replace hB3 := hB3.gb hg (by intro e; injection e; omega); clear z0 z1 z2 z3 zf zl; obtain ⟨z0, z1, z2, z3, zf, zl⟩ := hB3.facts4
  go_wp2
  refine bodyPost_ret (v := _) (by simp [results, Try.results31, go_sem, *]; try exact rfl) rfl ⟨b, rfl, hbb2, by (repeat (first | (with_reducible exact Below.refl _ _) | (with_reducible assumption) | (with_reducible refine Below.grow ?_ ?_ _ _) | (with_reducible refine Below.drewN' ?_ _) | (with_reducible refine Below.drew ?_) | (with_reducible refine Below.alloc ?_ ?_ _) | (with_reducible refine Below.setCell ?_ ?_ _) | omega | (focus (simp; done)) | (focus (simp; omega)))), by (repeat (first | (with_reducible assumption) | (with_reducible refine Own.grow ?_ _ _) | (with_reducible refine Own.drewN ?_ _) | (with_reducible refine own_drew ?_) | (with_reducible refine Own.alloc ?_ _) | (with_reducible refine Own.far' ?_ ?_ _) | (focus (simp; done)) | (focus (simp; omega))))⟩

set_option maxRecDepth 100000 in
set_option maxHeartbeats 4000000 in
/-- Erase of no cell -/
theorem erase_none (A : Option Addr) (n cap : Nat) (f : Nat → Cl) (wb : Bool) (dir : Int) (ex : Bool) (x y : Int) (F : Nat) (fg bg fl : Int) (w : World) (hr : Rd w A n f) (hs : saneB n f dir = true) (hp : penB fg bg fl = true)
    (hF : max 0 (min x n) = (F : Int)) (hT : max (F : Int) (max 0 (min y n)) = (F : Int)) :
    Calls Try.prog 31 #[.agg #[.slice A n cap, .bool wb, .int .i64 dir, .bool ex], .int .i64 x, .int .i64 y, .agg #[.int .i64 fg, .int .i64 bg, .int .i64 fl]] w fun e w' => ∃ b, e = .returned (.agg #[.slice (some ⟨b, 0, none⟩) n n, .bool wb, .int .i64 dir, .bool ex]) ∧ w.heap.size ≤ b ∧ Below w.heap.size w w' ∧ Own w' b n f := by
  obtain ⟨hn1, hn2⟩ := sane_len hs
  have hFn : F ≤ n := by omega
  have HF := Lib.hid hF
  have HT := Lib.hid hT
  clear hF hT
  go_enter Try.func31, Try.ntmps31
  go_wp2_with fail
  generalize hw0 : ((w.alloc _).alloc _).alloc _ = w0
  have hbw : Below w.heap.size w w0 := by rw [← hw0]; (repeat (first | (with_reducible exact Below.refl _ _) | (with_reducible assumption) | (with_reducible refine Below.grow ?_ ?_ _ _) | (with_reducible refine Below.drewN' ?_ _) | (with_reducible refine Below.drew ?_) | (with_reducible refine Below.alloc ?_ ?_ _) | (with_reducible refine Below.setCell ?_ ?_ _) | omega | (focus (simp; done)) | (focus (simp; omega))))
  have hB1 : Blk w0 w.heap.size 24 #[.slice A n cap, .bool wb, .int .i64 dir, .bool ex] := by rw [← hw0]; exact ((Blk.new _ _ _).alloc _).alloc _
  have hB2 : Blk w0 (w.heap.size + 1) 27 #[.int .i64 fg, .int .i64 bg, .int .i64 fl] := by rw [← hw0]; exact (Blk.new_at (by simp)).alloc _
  have hB3 : Blk w0 (w.heap.size + 2) 24 #[.slice none 0 0, .bool false, .int .i64 0, .bool false] := by rw [← hw0]; exact Blk.new_at (by simp)
  clear hw0
  obtain ⟨r0, r1, r2, r3, rf, rl⟩ := hB1.facts4; obtain ⟨p0, p1, p2, pf, pl⟩ := hB2.facts3; obtain ⟨z0, z1, z2, z3, zf, zl⟩ := hB3.facts4
  go_wp2_with fail
  refine (sane_c A n cap f wb dir ex _ (hr.below hbw) (by omega)).mono ?_
  rintro e w1 ⟨rfl, hg⟩
  replace hg := hg.below
  replace hbw := hbw.trans (hg.mono hbw.size); replace hB1 := hB1.below hg hB1.lt; clear r0 r1 r2 r3 rf rl; obtain ⟨r0, r1, r2, r3, rf, rl⟩ := hB1.facts4; replace hB2 := hB2.below hg hB2.lt; clear p0 p1 p2 pf pl; obtain ⟨p0, p1, p2, pf, pl⟩ := hB2.facts3; replace hB3 := hB3.below hg hB3.lt; clear z0 z1 z2 z3 zf zl; obtain ⟨z0, z1, z2, z3, zf, zl⟩ := hB3.facts4; clear hg
  go_wp2_with fail
  refine (penSane_c fg bg fl _).mono ?_
  rintro e w2 ⟨rfl, hg⟩
  replace hg := hg.below
  replace hbw := hbw.trans (hg.mono hbw.size); replace hB1 := hB1.below hg hB1.lt; clear r0 r1 r2 r3 rf rl; obtain ⟨r0, r1, r2, r3, rf, rl⟩ := hB1.facts4; replace hB2 := hB2.below hg hB2.lt; clear p0 p1 p2 pf pl; obtain ⟨p0, p1, p2, pf, pl⟩ := hB2.facts3; replace hB3 := hB3.below hg hB3.lt; clear z0 z1 z2 z3 zf zl; obtain ⟨z0, z1, z2, z3, zf, zl⟩ := hB3.facts4; clear hg
  go_wp2_with fail
  refine (between_c A n cap wb dir ex x y F F _ (by omega) HF.out HT.out).mono ?_
  rintro e w3 ⟨rfl, hg⟩
  replace hg := hg.below
  replace hbw := hbw.trans (hg.mono hbw.size); replace hB1 := hB1.below hg hB1.lt; clear r0 r1 r2 r3 rf rl; obtain ⟨r0, r1, r2, r3, rf, rl⟩ := hB1.facts4; replace hB2 := hB2.below hg hB2.lt; clear p0 p1 p2 pf pl; obtain ⟨p0, p1, p2, pf, pl⟩ := hB2.facts3; replace hB3 := hB3.below hg hB3.lt; clear z0 z1 z2 z3 zf zl; obtain ⟨z0, z1, z2, z3, zf, zl⟩ := hB3.facts4; clear hg
  go_wp2_with fail
  refine (cells_c A n cap f wb dir ex _ (hr.below hbw) (by omega) (by omega)).mono ?_
  rintro e w4 ⟨b, rfl, hbb, hg, hob⟩
  have hbn : w.heap.size + 2 < b := by omega
  replace hbw := hbw.trans (hg.mono hbw.size); replace hB1 := hB1.below hg hB1.lt; clear r0 r1 r2 r3 rf rl; obtain ⟨r0, r1, r2, r3, rf, rl⟩ := hB1.facts4; replace hB2 := hB2.below hg hB2.lt; clear p0 p1 p2 pf pl; obtain ⟨p0, p1, p2, pf, pl⟩ := hB2.facts3; replace hB3 := hB3.below hg hB3.lt; clear z0 z1 z2 z3 zf zl; obtain ⟨z0, z1, z2, z3, zf, zl⟩ := hB3.facts4; clear hg
  have hlb := hob.lt
  have l1 : (0 : Int) ≤ (F : Int) := by omega
  have l3 : (F : Int) ≤ (n : Int) := by omega
  have hbb2 : w.heap.size ≤ b := by omega
  rcases Nat.lt_or_ge F n with hlt | hge
  · have l4 : ¬ (n = F) := by omega
    go_wp2_with fail
    refine hr_start (S := (fun w' => w'.cell? ⟨w.heap.size + 1, 0, none⟩ = some (.int .i64 fg) ∧ w'.cell? ⟨w.heap.size + 1, 1, none⟩ = some (.int .i64 bg) ∧ w'.cell? ⟨w.heap.size + 1, 2, none⟩ = some (.int .i64 fl))) (by kernel_rfl) rfl ?_ (fun hHeld => ?_)
    · ((try dsimp only); go_simp)
    refine hr_take (i := 0) rfl rfl (by kernel_rfl) (by kernel_rfl) (by kernel_rfl) (by kernel_rfl) (fun _ _ _ h => h) (v := ?_) ?_ (by assumption) ?_
    rotate_left
    focus (intro wS hSw; (try dsimp only at hSw); go_simp; (try with_reducible rfl))
    simp only [List.set_cons_zero, List.set_cons_succ]
    refine hr_take (i := 1) rfl rfl (by kernel_rfl) (by kernel_rfl) (by kernel_rfl) (by kernel_rfl) (fun _ _ _ h => h) (v := ?_) ?_ (by assumption) ?_
    rotate_left
    focus (intro wS hSw; (try dsimp only at hSw); go_simp; (try with_reducible rfl))
    simp only [List.set_cons_zero, List.set_cons_succ]
    refine hr_take (i := 2) rfl rfl (by kernel_rfl) (by kernel_rfl) (by kernel_rfl) (by kernel_rfl) (fun _ _ _ h => h) (v := ?_) ?_ (by assumption) ?_
    rotate_left
    focus (intro wS hSw; (try dsimp only at hSw); go_simp; (try with_reducible rfl))
    simp only [List.set_cons_zero, List.set_cons_succ]
    refine hr_take (i := 3) rfl rfl (by kernel_rfl) (by kernel_rfl) (by kernel_rfl) (by kernel_rfl) (fun _ _ _ h => h) (v := ?_) ?_ (by assumption) ?_
    rotate_left
    focus (intro wS hSw; (try dsimp only at hSw); go_simp; (try with_reducible rfl))
    simp only [List.set_cons_zero, List.set_cons_succ]
    refine hr_take (i := 4) rfl rfl (by kernel_rfl) (by kernel_rfl) (by kernel_rfl) (by kernel_rfl) (fun _ _ _ h => h) (v := ?_) ?_ (by assumption) ?_
    rotate_left
    focus (intro wS hSw; (try dsimp only at hSw); go_simp; (try with_reducible rfl))
    simp only [List.set_cons_zero, List.set_cons_succ]
    refine hr_op (i := 5) rfl rfl (by kernel_rfl) (by kernel_rfl) (fun K hK => ?_)
    go_simp
    ((with_reducible refine (lay0_c _ _ fg bg fl _).mono ?_); rintro e w6 ⟨rfl, X6, d6, rfl⟩)
    (try go_wp2_with fail)
    refine hK.out _ _ ?_ (fun hHeld => ?_)
    · ((try dsimp only); go_simp)
    clear hK K
    simp only [List.set_cons_zero, List.set_cons_succ]
    refine hr_done (by kernel_rfl) ?_
    go_wp2_with fail
    refine (mended_c b n n f A n cap wb dir ex _ (by (repeat (first | (with_reducible assumption) | (with_reducible refine Own.grow ?_ _ _) | (with_reducible refine Own.drewN ?_ _) | (with_reducible refine own_drew ?_) | (with_reducible refine Own.alloc ?_ _) | (with_reducible refine Own.far' ?_ ?_ _) | (focus (simp; done)) | (focus (simp; omega))))) (by omega)).mono ?_
    rintro e w7 ⟨rfl, hg, ho7⟩
    have hg := gb_trans (a := w4) (by (repeat (first | (with_reducible exact World.grownBy.refl _ _) | (with_reducible assumption) | (with_reducible refine gb_grow ?_ _ _) | (with_reducible refine gb_drewN ?_ _) | (with_reducible refine gb_drew ?_) | (with_reducible refine gb_alloc ?_ _) | (with_reducible refine gb_setCell ?_ ?_ _) | (focus (left; rfl)) | (focus (right; simp; done)) | (focus (right; simp; omega)) | (focus (right; omega))))) hg
    have hbw7 := below_gb hbw hg hbb2 hbw.size
    have ho8 : Own w7 b n f := ho7.congr fun i hi => by unfold mend; rw [lost_of_sane hs hi]; rfl
    replace hB1 := hB1.gb hg (by intro e; injection e; omega); clear r0 r1 r2 r3 rf rl; obtain ⟨r0, r1, r2, r3, rf, rl⟩ := hB1.facts4; replace hB3 := hB3.gb hg (by intro e; injection e; omega); clear z0 z1 z2 z3 zf zl; obtain ⟨z0, z1, z2, z3, zf, zl⟩ := hB3.facts4
    go_wp2
    refine bodyPost_ret (v := _) (by simp [results, Try.results31, go_sem, *]; try exact rfl) rfl ⟨b, rfl, hbb2, by (repeat (first | (with_reducible exact Below.refl _ _) | (with_reducible assumption) | (with_reducible refine Below.grow ?_ ?_ _ _) | (with_reducible refine Below.drewN' ?_ _) | (with_reducible refine Below.drew ?_) | (with_reducible refine Below.alloc ?_ ?_ _) | (with_reducible refine Below.setCell ?_ ?_ _) | omega | (focus (simp; done)) | (focus (simp; omega)))), by (repeat (first | (with_reducible assumption) | (with_reducible refine Own.grow ?_ _ _) | (with_reducible refine Own.drewN ?_ _) | (with_reducible refine own_drew ?_) | (with_reducible refine Own.alloc ?_ _) | (with_reducible refine Own.far' ?_ ?_ _) | (focus (simp; done)) | (focus (simp; omega))))⟩
  · obtain rfl : F = n := by omega
    go_wp2_with fail
    refine hr_start (S := (fun w' => w'.cell? ⟨w.heap.size + 1, 0, none⟩ = some (.int .i64 fg) ∧ w'.cell? ⟨w.heap.size + 1, 1, none⟩ = some (.int .i64 bg) ∧ w'.cell? ⟨w.heap.size + 1, 2, none⟩ = some (.int .i64 fl))) (by kernel_rfl) rfl ?_ (fun hHeld => ?_)
    · ((try dsimp only); go_simp)
    refine hr_take (i := 0) rfl rfl (by kernel_rfl) (by kernel_rfl) (by kernel_rfl) (by kernel_rfl) (fun _ _ _ h => h) (v := ?_) ?_ (by assumption) ?_
    rotate_left
    focus (intro wS hSw; (try dsimp only at hSw); go_simp; (try with_reducible rfl))
    simp only [List.set_cons_zero, List.set_cons_succ]
    refine hr_take (i := 1) rfl rfl (by kernel_rfl) (by kernel_rfl) (by kernel_rfl) (by kernel_rfl) (fun _ _ _ h => h) (v := ?_) ?_ (by assumption) ?_
    rotate_left
    focus (intro wS hSw; (try dsimp only at hSw); go_simp; (try with_reducible rfl))
    simp only [List.set_cons_zero, List.set_cons_succ]
    refine hr_take (i := 2) rfl rfl (by kernel_rfl) (by kernel_rfl) (by kernel_rfl) (by kernel_rfl) (fun _ _ _ h => h) (v := ?_) ?_ (by assumption) ?_
    rotate_left
    focus (intro wS hSw; (try dsimp only at hSw); go_simp; (try with_reducible rfl))
    simp only [List.set_cons_zero, List.set_cons_succ]
    refine hr_take (i := 3) rfl rfl (by kernel_rfl) (by kernel_rfl) (by kernel_rfl) (by kernel_rfl) (fun _ _ _ h => h) (v := ?_) ?_ (by assumption) ?_
    rotate_left
    focus (intro wS hSw; (try dsimp only at hSw); go_simp; (try with_reducible rfl))
    simp only [List.set_cons_zero, List.set_cons_succ]
    refine hr_take (i := 4) rfl rfl (by kernel_rfl) (by kernel_rfl) (by kernel_rfl) (by kernel_rfl) (fun _ _ _ h => h) (v := ?_) ?_ (by assumption) ?_
    rotate_left
    focus (intro wS hSw; (try dsimp only at hSw); go_simp; (try with_reducible rfl))
    simp only [List.set_cons_zero, List.set_cons_succ]
    refine hr_op (i := 5) rfl rfl (by kernel_rfl) (by kernel_rfl) (fun K hK => ?_)
    go_simp
    ((with_reducible refine (lay0_c _ _ fg bg fl _).mono ?_); rintro e w6 ⟨rfl, X6, d6, rfl⟩)
    (try go_wp2_with fail)
    refine hK.out _ _ ?_ (fun hHeld => ?_)
    · ((try dsimp only); go_simp)
    clear hK K
    simp only [List.set_cons_zero, List.set_cons_succ]
    refine hr_done (by kernel_rfl) ?_
    go_wp2_with fail
    refine (mended_c b F F f A F cap wb dir ex _ (by (repeat (first | (with_reducible assumption) | (with_reducible refine Own.grow ?_ _ _) | (with_reducible refine Own.drewN ?_ _) | (with_reducible refine own_drew ?_) | (with_reducible refine Own.alloc ?_ _) | (with_reducible refine Own.far' ?_ ?_ _) | (focus (simp; done)) | (focus (simp; omega))))) (by omega)).mono ?_
    rintro e w7 ⟨rfl, hg, ho7⟩
    have hg := gb_trans (a := w4) (by (repeat (first | (with_reducible exact World.grownBy.refl _ _) | (with_reducible assumption) | (with_reducible refine gb_grow ?_ _ _) | (with_reducible refine gb_drewN ?_ _) | (with_reducible refine gb_drew ?_) | (with_reducible refine gb_alloc ?_ _) | (with_reducible refine gb_setCell ?_ ?_ _) | (focus (left; rfl)) | (focus (right; simp; done)) | (focus (right; simp; omega)) | (focus (right; omega))))) hg
    have hbw7 := below_gb hbw hg hbb2 hbw.size
    have ho8 : Own w7 b F f := ho7.congr fun i hi => by unfold mend; rw [lost_of_sane hs hi]; rfl
    replace hB1 := hB1.gb hg (by intro e; injection e; omega); clear r0 r1 r2 r3 rf rl; obtain ⟨r0, r1, r2, r3, rf, rl⟩ := hB1.facts4; replace hB3 := hB3.gb hg (by intro e; injection e; omega); clear z0 z1 z2 z3 zf zl; obtain ⟨z0, z1, z2, z3, zf, zl⟩ := hB3.facts4
    go_wp2
    refine bodyPost_ret (v := _) (by simp [results, Try.results31, go_sem, *]; try exact rfl) rfl ⟨b, rfl, hbb2, by (repeat (first | (with_reducible exact Below.refl _ _) | (with_reducible assumption) | (with_reducible refine Below.grow ?_ ?_ _ _) | (with_reducible refine Below.drewN' ?_ _) | (with_reducible refine Below.drew ?_) | (with_reducible refine Below.alloc ?_ ?_ _) | (with_reducible refine Below.setCell ?_ ?_ _) | omega | (focus (simp; done)) | (focus (simp; omega)))), by (repeat (first | (with_reducible assumption) | (with_reducible refine Own.grow ?_ _ _) | (with_reducible refine Own.drewN ?_ _) | (with_reducible refine own_drew ?_) | (with_reducible refine Own.alloc ?_ _) | (with_reducible refine Own.far' ?_ ?_ _) | (focus (simp; done)) | (focus (simp; omega))))⟩

set_option maxRecDepth 100000 in
set_option maxHeartbeats 4000000 in
/-- Erase by a pen that may not be -/
theorem erase_no (A : Option Addr) (n cap : Nat) (f : Nat → Cl) (wb : Bool) (dir : Int) (ex : Bool) (x y : Int) (fg bg fl : Int) (w : World) (hr : Rd w A n f) (hs : saneB n f dir = true) (hp : penB fg bg fl = false) :
    Calls Try.prog 31 #[.agg #[.slice A n cap, .bool wb, .int .i64 dir, .bool ex], .int .i64 x, .int .i64 y, .agg #[.int .i64 fg, .int .i64 bg, .int .i64 fl]] w fun e w' => e = .returned (.agg #[.slice A n cap, .bool wb, .int .i64 dir, .bool ex]) ∧ Grew w w' := by
  obtain ⟨hn1, hn2⟩ := sane_len hs
  go_enter Try.func31, Try.ntmps31
  go_wp2_with fail
  generalize hw0 : ((w.alloc _).alloc _).alloc _ = w0
  have hbw : Below w.heap.size w w0 := by rw [← hw0]; (repeat (first | (with_reducible exact Below.refl _ _) | (with_reducible assumption) | (with_reducible refine Below.grow ?_ ?_ _ _) | (with_reducible refine Below.drewN' ?_ _) | (with_reducible refine Below.drew ?_) | (with_reducible refine Below.alloc ?_ ?_ _) | (with_reducible refine Below.setCell ?_ ?_ _) | omega | (focus (simp; done)) | (focus (simp; omega))))
  have hB1 : Blk w0 w.heap.size 24 #[.slice A n cap, .bool wb, .int .i64 dir, .bool ex] := by rw [← hw0]; exact ((Blk.new _ _ _).alloc _).alloc _
  have hB2 : Blk w0 (w.heap.size + 1) 27 #[.int .i64 fg, .int .i64 bg, .int .i64 fl] := by rw [← hw0]; exact (Blk.new_at (by simp)).alloc _
  have hB3 : Blk w0 (w.heap.size + 2) 24 #[.slice none 0 0, .bool false, .int .i64 0, .bool false] := by rw [← hw0]; exact Blk.new_at (by simp)
  clear hw0
  obtain ⟨r0, r1, r2, r3, rf, rl⟩ := hB1.facts4; obtain ⟨p0, p1, p2, pf, pl⟩ := hB2.facts3; obtain ⟨z0, z1, z2, z3, zf, zl⟩ := hB3.facts4
  go_wp2_with fail
  refine (sane_c A n cap f wb dir ex _ (hr.below hbw) (by omega)).mono ?_
  rintro e w1 ⟨rfl, hg⟩
  replace hg := hg.below
  replace hbw := hbw.trans (hg.mono hbw.size); replace hB1 := hB1.below hg hB1.lt; clear r0 r1 r2 r3 rf rl; obtain ⟨r0, r1, r2, r3, rf, rl⟩ := hB1.facts4; replace hB2 := hB2.below hg hB2.lt; clear p0 p1 p2 pf pl; obtain ⟨p0, p1, p2, pf, pl⟩ := hB2.facts3; replace hB3 := hB3.below hg hB3.lt; clear z0 z1 z2 z3 zf zl; obtain ⟨z0, z1, z2, z3, zf, zl⟩ := hB3.facts4; clear hg
  go_wp2_with fail
  refine (penSane_c fg bg fl _).mono ?_
  rintro e w2 ⟨rfl, hg⟩
  replace hg := hg.below
  replace hbw := hbw.trans (hg.mono hbw.size); replace hB1 := hB1.below hg hB1.lt; clear r0 r1 r2 r3 rf rl; obtain ⟨r0, r1, r2, r3, rf, rl⟩ := hB1.facts4; replace hB2 := hB2.below hg hB2.lt; clear p0 p1 p2 pf pl; obtain ⟨p0, p1, p2, pf, pl⟩ := hB2.facts3; replace hB3 := hB3.below hg hB3.lt; clear z0 z1 z2 z3 zf zl; obtain ⟨z0, z1, z2, z3, zf, zl⟩ := hB3.facts4; clear hg
  go_wp2
  refine bodyPost_ret (v := _) (by simp [results, Try.results31, go_sem, *]; try exact rfl) rfl ⟨rfl, (Below.toGrow (by (repeat (first | (with_reducible exact Below.refl _ _) | (with_reducible assumption) | (with_reducible refine Below.grow ?_ ?_ _ _) | (with_reducible refine Below.drewN' ?_ _) | (with_reducible refine Below.drew ?_) | (with_reducible refine Below.alloc ?_ ?_ _) | (with_reducible refine Below.setCell ?_ ?_ _) | omega | (focus (simp; done)) | (focus (simp; omega))))))⟩

theorem erase_c (A : Option Addr) (n cap : Nat) (f : Nat → Cl) (wb : Bool) (dir : Int) (ex : Bool) (x y : Int) (F T : Nat) (fg bg fl : Int) (w : World) (hr : Rd w A n f) (hs : saneB n f dir = true)
    (hF : max 0 (min x n) = (F : Int)) (hT : max (F : Int) (max 0 (min y n)) = (T : Int)) :
    Calls Try.prog 31 #[.agg #[.slice A n cap, .bool wb, .int .i64 dir, .bool ex], .int .i64 x, .int .i64 y, .agg #[.int .i64 fg, .int .i64 bg, .int .i64 fl]] w fun e w' => ∃ B cap', e = .returned (.agg #[.slice B n cap', .bool wb, .int .i64 dir, .bool ex]) ∧ Grew w w' ∧ Rd w' B n (eraseR n f F T fg bg fl) := by
  unfold eraseR
  cases hp : penB fg bg fl
  · refine (erase_no A n cap f wb dir ex x y fg bg fl w hr hs hp).mono ?_
    rintro e w' ⟨rfl, hg⟩
    exact ⟨A, cap, rfl, hg, by simpa using hr.below hg.below⟩
  · by_cases hFT : F < T
    · refine (erase_yes A n cap f wb dir ex x y F T fg bg fl w hr hs hp hF hT hFT (by omega)).mono ?_
      rintro e w' ⟨b, rfl, _, hb, ho⟩
      exact ⟨some ⟨b, 0, none⟩, n, rfl, hb.toGrow, by simpa [hFT] using ho.rd⟩
    · obtain rfl : T = F := by omega
      refine (erase_none A n cap f wb dir ex x y T fg bg fl w hr hs hp hF hT).mono ?_
      rintro e w' ⟨b, rfl, _, hb, ho⟩
      exact ⟨some ⟨b, 0, none⟩, n, rfl, hb.toGrow, by simpa using ho.rd⟩
end Go.Proofs.Ytpnadnjcacaibaa.Row
