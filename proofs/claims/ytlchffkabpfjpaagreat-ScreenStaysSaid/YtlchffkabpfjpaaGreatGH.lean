/- Joined: RowL2 RowF RowG RowG2 RowH. -/
import Derived.Test.YtlchffkabpfjpaaGreatGA
import Derived.Test.YtlchffkabpfjpaaGreatGB
section
/- What Erase does, in plain Lean: what is erased is blank. -/
namespace Go.Proofs.YtlchffkabpfjpaaGreat.Row

/-- what Erase makes of a row -/
def eraseR (n : Nat) (f : Nat → Cl) (F T : Nat) (fg bg fl : Int) : Nat → Cl := if penB fg bg fl = true ∧ F < T then mend n (laid f F (T - F) (blank fg bg fl)) else f
theorem laid_at (f : Nat → Cl) {F T : Nat} (h : F < T) (c : Cl) (i : Nat) : laid f F (T - F) c i = if F ≤ i ∧ i < T then c else f i := by
  unfold laid
  rw [show F + (T - F) = T by omega]
theorem erase_sane {n : Nat} {f : Nat → Cl} {dir : Int} (hs : saneB n f dir = true) (F T : Nat) (fg bg fl : Int) : saneB n (eraseR n f F T fg bg fl) dir = true := by
  unfold eraseR
  split
  · rename_i h
    obtain ⟨a1, a2, a3, a4, a5⟩ := sane_iff.1 hs
    refine sane_mend a1 a2 a3 a4 fun i hi => ?_
    unfold laid
    split
    · exact fits_blank h.1
    · exact (a5 i hi).1
  · exact hs
theorem blank_w (fg bg fl : Int) : (blank fg bg fl).w = 1 := rfl
/-- what is erased is not lost -/
theorem erased_not_lost {n : Nat} {f : Nat → Cl} {F T : Nat} (h : F < T) {fg bg fl : Int} {i : Nat} (h1 : F ≤ i) (h2 : i < T) : lostB n (laid f F (T - F) (blank fg bg fl)) i = false := by
  rw [lost_not, laid_at f h, if_pos ⟨h1, h2⟩, blank_w]
  omega
end Go.Proofs.YtlchffkabpfjpaaGreat.Row
end
section
/- Walks of row.between and row.Erase. -/
namespace Go.Proofs.YtlchffkabpfjpaaGreat.Row
open Go.RowKit

theorem own_drew {w : World} {b n : Nat} {f : Nat → Cl} (h : Own w b n f) : Own w.drew b n f := h
theorem e2int {a b a' b' : Int} (h : a = a') (h' : b = b') : Ending.returned (.tuple #[.int .i64 a, .int .i64 b]) = .returned (.tuple #[.int .i64 a', .int .i64 b']) := by rw [h, h']
set_option maxHeartbeats 1000000 in
theorem between_c (A : Option Addr) (n cap : Nat) (wb : Bool) (dir : Int) (ex : Bool) (a b : Int) (F T : Nat) (w : World) (hn : n ≤ 9223372036854775806) (hF : max 0 (min a n) = (F : Int)) (hT : max (F : Int) (max 0 (min b n)) = (T : Int)) :
    Calls Tryz.prog 105 #[.agg #[.slice A n cap, .bool wb, .int .i64 dir, .bool ex], .int .i64 a, .int .i64 b] w fun e w' => e = .returned (.tuple #[.int .i64 F, .int .i64 T]) ∧ Grew w w' := by
  have HF := Lib.hid hF
  have HT := Lib.hid hT
  clear hF hT
  go_enter Tryz.func105, Tryz.ntmps105
  go_wp2
  all_goals (go_ret2; refine ⟨e2int ?_ ?_, (Below.toGrow (by exact bcAll))⟩)
  all_goals (have h1 := HF.out; have h2 := HT.out; clear HF HT; omega)

set_option maxRecDepth 100000 in
set_option maxHeartbeats 1000000 in
theorem lay0_c (A : Option Addr) (cap : Nat) (fg bg fl : Int) (w : World) :
    Calls Tryz.prog 103 #[.slice A 0 cap, .agg #[.int .i64 fg, .int .i64 bg, .int .i64 fl]] w fun e w' => e = .returned (.tuple #[]) ∧ Grew w w' := by
  go_enter Tryz.func103, Tryz.ntmps103
  go_wp2
  refine wp_loop_rounds 1 ?_
  rw [rounds_succ]
  go_wp2
  go_end0
  exact ⟨rfl, (Below.toGrow (by exact bcAll))⟩

set_option maxRecDepth 100000 in
set_option maxHeartbeats 4000000 in
/-- Erase where it does something -/
theorem erase_yes (A : Option Addr) (n cap : Nat) (f : Nat → Cl) (wb : Bool) (dir : Int) (ex : Bool) (x y : Int) (F T : Nat) (fg bg fl : Int) (w : World) (hr : Rd w A n f) (hs : saneB n f dir = true) (hp : penB fg bg fl = true)
    (hF : max 0 (min x n) = (F : Int)) (hT : max (F : Int) (max 0 (min y n)) = (T : Int)) (hFT : F < T) (hTn : T ≤ n) :
    Calls Tryz.prog 86 #[.agg #[.slice A n cap, .bool wb, .int .i64 dir, .bool ex], .int .i64 x, .int .i64 y, .agg #[.int .i64 fg, .int .i64 bg, .int .i64 fl]] w fun e w' => ∃ b, e = .returned (.agg #[.slice (some ⟨b, 0, none⟩) n n, .bool wb, .int .i64 dir, .bool ex]) ∧ w.heap.size ≤ b ∧ Below w.heap.size w w' ∧ Own w' b n (mend n (laid f F (T - F) (blank fg bg fl))) := by
  obtain ⟨hn1, hn2⟩ := sane_len hs
  have HF := Lib.hid hF
  have HT := Lib.hid hT
  clear hF hT
  go_enter Tryz.func86, Tryz.ntmps86
  go_wp2_with fail
  generalize hw0 : ((w.alloc _).alloc _).alloc _ = w0
  have hbw : Below w.heap.size w w0 := by rw [← hw0]; exact bcAll
  have hB1 : Blk w0 w.heap.size 64 #[.slice A n cap, .bool wb, .int .i64 dir, .bool ex] := by rw [← hw0]; exact ((Blk.new _ _ _).alloc _).alloc _
  have hB2 : Blk w0 (w.heap.size + 1) 26 #[.int .i64 fg, .int .i64 bg, .int .i64 fl] := by rw [← hw0]; exact (Blk.new_at (by simp)).alloc _
  have hB3 : Blk w0 (w.heap.size + 2) 64 #[.slice none 0 0, .bool false, .int .i64 0, .bool false] := by rw [← hw0]; exact Blk.new_at (by simp)
  clear hw0
  obtain ⟨r0, r1, r2, r3, rf, rl⟩ := hB1.facts4; obtain ⟨p0, p1, p2, pf, pl⟩ := hB2.facts3; obtain ⟨z0, z1, z2, z3, zf, zl⟩ := hB3.facts4
  go_wp2_with fail
  refine (sane_c A n cap f wb dir ex _ (hr.below hbw) (by omega)).mono ?_
  rintro e w1 ⟨rfl, hg⟩
  replace hg := hg.below
  replace hbw := hbw.trans (hg.mono hbw.size); replace hB1 := hB1.below hg hB1.lt; clear r0 r1 r2 r3 rf rl; obtain ⟨r0, r1, r2, r3, rf, rl⟩ := hB1.facts4; replace hB2 := hB2.below hg hB2.lt; clear p0 p1 p2 pf pl; obtain ⟨p0, p1, p2, pf, pl⟩ := hB2.facts3; replace hB3 := hB3.below hg hB3.lt; clear z0 z1 z2 z3 zf zl; obtain ⟨z0, z1, z2, z3, zf, zl⟩ := hB3.facts4; clear hg
  go_wp2_with fail
  refine (penSane_c fg bg fl _).mono ?_
  rintro e w2 ⟨rfl, hg⟩
  replace hg := hg.below
  replace hbw := hbw.trans (hg.mono hbw.size); replace hB1 := hB1.below hg hB1.lt; clear r0 r1 r2 r3 rf rl; obtain ⟨r0, r1, r2, r3, rf, rl⟩ := hB1.facts4; replace hB2 := hB2.below hg hB2.lt; clear p0 p1 p2 pf pl; obtain ⟨p0, p1, p2, pf, pl⟩ := hB2.facts3; replace hB3 := hB3.below hg hB3.lt; clear z0 z1 z2 z3 zf zl; obtain ⟨z0, z1, z2, z3, zf, zl⟩ := hB3.facts4; clear hg
  go_wp2_with fail
  refine (between_c A n cap wb dir ex x y F T _ (by omega) HF.out HT.out).mono ?_
  rintro e w3 ⟨rfl, hg⟩
  replace hg := hg.below
  replace hbw := hbw.trans (hg.mono hbw.size); replace hB1 := hB1.below hg hB1.lt; clear r0 r1 r2 r3 rf rl; obtain ⟨r0, r1, r2, r3, rf, rl⟩ := hB1.facts4; replace hB2 := hB2.below hg hB2.lt; clear p0 p1 p2 pf pl; obtain ⟨p0, p1, p2, pf, pl⟩ := hB2.facts3; replace hB3 := hB3.below hg hB3.lt; clear z0 z1 z2 z3 zf zl; obtain ⟨z0, z1, z2, z3, zf, zl⟩ := hB3.facts4; clear hg
  go_wp2_with fail
  refine (cells_c A n cap f wb dir ex _ (hr.below hbw) (by omega) (by omega)).mono ?_
  rintro e w4 ⟨b, rfl, hbb, hg, hob⟩
  have hbn : w.heap.size + 2 < b := by omega
  replace hbw := hbw.trans (hg.mono hbw.size); replace hB1 := hB1.below hg hB1.lt; clear r0 r1 r2 r3 rf rl; obtain ⟨r0, r1, r2, r3, rf, rl⟩ := hB1.facts4; replace hB2 := hB2.below hg hB2.lt; clear p0 p1 p2 pf pl; obtain ⟨p0, p1, p2, pf, pl⟩ := hB2.facts3; replace hB3 := hB3.below hg hB3.lt; clear z0 z1 z2 z3 zf zl; obtain ⟨z0, z1, z2, z3, zf, zl⟩ := hB3.facts4; clear hg
  have hlb := hob.lt
  have l1 : (0 : Int) ≤ (F : Int) := by omega
  have l2 : (F : Int) ≤ (T : Int) := by omega
  have l3 : (T : Int) ≤ (n : Int) := by omega
  have l4 : ¬ (n = F) := by omega
  go_wp2_with fail
  refine hr_start (S := (fun w' => w'.cell? ⟨w.heap.size + 1, 0, none⟩ = some (.int .i64 fg) ∧ w'.cell? ⟨w.heap.size + 1, 1, none⟩ = some (.int .i64 bg) ∧ w'.cell? ⟨w.heap.size + 1, 2, none⟩ = some (.int .i64 fl))) (by kernel_rfl) rfl ?_ (fun hHeld => ?_)
  · ((try dsimp only); go_simp)
  refine hr_q 0 ?_
  simp only [st0, st1]
  refine hr_q 1 ?_
  simp only [st0, st1]
  refine hr_q 2 ?_
  simp only [st0, st1]
  refine hr_q 3 ?_
  simp only [st0, st1]
  refine hr_q 4 ?_
  simp only [st0, st1]
  refine hr_o 5 (fun K hK => ?_)
  go_simp
  ((with_reducible refine (lay_c b (F * 7) n F (T - F) _ f fg bg fl _ (by (exact ownAll)) rfl (by omega) (by omega)).mono ?_); rintro e w6 ⟨rfl, hg6, ho6⟩; obtain ⟨y0, y1, y2, _, _⟩ := (Blk.gb (show Blk w4.drew (w.heap.size + 1) _ _ from hB2) hg6 (by intro e; injection e; omega)).facts3)
  (try go_wp2_with fail)
  refine hK.out _ _ ?_ (fun hHeld => ?_)
  · ((try dsimp only); go_simp)
  clear hK K
  simp only [st0, st1]
  refine hr_done (by kernel_rfl) ?_
  have hg : w4.grownBy w6 (some b) := gb_trans (gb_drew (World.grownBy.refl _ _)) hg6
  clear hg6 hHeld y0 y1 y2
  have hbb2 : w.heap.size ≤ b := by omega
  have hbw6 := below_gb hbw hg hbb2 hbw.size
  replace hB1 := hB1.gb hg (by intro e; injection e; omega); clear r0 r1 r2 r3 rf rl; obtain ⟨r0, r1, r2, r3, rf, rl⟩ := hB1.facts4; replace hB3 := hB3.gb hg (by intro e; injection e; omega); clear z0 z1 z2 z3 zf zl; obtain ⟨z0, z1, z2, z3, zf, zl⟩ := hB3.facts4
  clear p0 p1 p2 pf pl hB2 hg hob
  go_wp2_with fail
  refine (mended_c b n n _ A n cap wb dir ex _ ho6 (by omega)).mono ?_
  rintro e w7 ⟨rfl, hg, ho7⟩
  have hbw7 := below_gb hbw6 hg hbb2 hbw6.size
  replace hB1 := hB1.gb hg (by intro e; injection e; omega); clear r0 r1 r2 r3 rf rl; obtain ⟨r0, r1, r2, r3, rf, rl⟩ := hB1.facts4; replace hB3 := hB3.gb hg (by intro e; injection e; omega); clear z0 z1 z2 z3 zf zl; obtain ⟨z0, z1, z2, z3, zf, zl⟩ := hB3.facts4
  go_wp2
  refine bodyPost_ret (v := _) (by simp [results, Tryz.results86, go_sem, *]; try exact rfl) rfl ⟨b, rfl, hbb2, by exact bcAll, by (exact ownAll)⟩

set_option maxRecDepth 100000 in
set_option maxHeartbeats 4000000 in
/-- Erase of no cell -/
theorem erase_none (A : Option Addr) (n cap : Nat) (f : Nat → Cl) (wb : Bool) (dir : Int) (ex : Bool) (x y : Int) (F : Nat) (fg bg fl : Int) (w : World) (hr : Rd w A n f) (hs : saneB n f dir = true) (hp : penB fg bg fl = true)
    (hF : max 0 (min x n) = (F : Int)) (hT : max (F : Int) (max 0 (min y n)) = (F : Int)) :
    Calls Tryz.prog 86 #[.agg #[.slice A n cap, .bool wb, .int .i64 dir, .bool ex], .int .i64 x, .int .i64 y, .agg #[.int .i64 fg, .int .i64 bg, .int .i64 fl]] w fun e w' => ∃ b, e = .returned (.agg #[.slice (some ⟨b, 0, none⟩) n n, .bool wb, .int .i64 dir, .bool ex]) ∧ w.heap.size ≤ b ∧ Below w.heap.size w w' ∧ Own w' b n f := by
  obtain ⟨hn1, hn2⟩ := sane_len hs
  have hFn : F ≤ n := by omega
  have HF := Lib.hid hF
  have HT := Lib.hid hT
  clear hF hT
  go_enter Tryz.func86, Tryz.ntmps86
  go_wp2_with fail
  generalize hw0 : ((w.alloc _).alloc _).alloc _ = w0
  have hbw : Below w.heap.size w w0 := by rw [← hw0]; exact bcAll
  have hB1 : Blk w0 w.heap.size 64 #[.slice A n cap, .bool wb, .int .i64 dir, .bool ex] := by rw [← hw0]; exact ((Blk.new _ _ _).alloc _).alloc _
  have hB2 : Blk w0 (w.heap.size + 1) 26 #[.int .i64 fg, .int .i64 bg, .int .i64 fl] := by rw [← hw0]; exact (Blk.new_at (by simp)).alloc _
  have hB3 : Blk w0 (w.heap.size + 2) 64 #[.slice none 0 0, .bool false, .int .i64 0, .bool false] := by rw [← hw0]; exact Blk.new_at (by simp)
  clear hw0
  obtain ⟨r0, r1, r2, r3, rf, rl⟩ := hB1.facts4; obtain ⟨p0, p1, p2, pf, pl⟩ := hB2.facts3; obtain ⟨z0, z1, z2, z3, zf, zl⟩ := hB3.facts4
  go_wp2_with fail
  refine (sane_c A n cap f wb dir ex _ (hr.below hbw) (by omega)).mono ?_
  rintro e w1 ⟨rfl, hg⟩
  replace hg := hg.below
  replace hbw := hbw.trans (hg.mono hbw.size); replace hB1 := hB1.below hg hB1.lt; clear r0 r1 r2 r3 rf rl; obtain ⟨r0, r1, r2, r3, rf, rl⟩ := hB1.facts4; replace hB2 := hB2.below hg hB2.lt; clear p0 p1 p2 pf pl; obtain ⟨p0, p1, p2, pf, pl⟩ := hB2.facts3; replace hB3 := hB3.below hg hB3.lt; clear z0 z1 z2 z3 zf zl; obtain ⟨z0, z1, z2, z3, zf, zl⟩ := hB3.facts4; clear hg
  go_wp2_with fail
  refine (penSane_c fg bg fl _).mono ?_
  rintro e w2 ⟨rfl, hg⟩
  replace hg := hg.below
  replace hbw := hbw.trans (hg.mono hbw.size); replace hB1 := hB1.below hg hB1.lt; clear r0 r1 r2 r3 rf rl; obtain ⟨r0, r1, r2, r3, rf, rl⟩ := hB1.facts4; replace hB2 := hB2.below hg hB2.lt; clear p0 p1 p2 pf pl; obtain ⟨p0, p1, p2, pf, pl⟩ := hB2.facts3; replace hB3 := hB3.below hg hB3.lt; clear z0 z1 z2 z3 zf zl; obtain ⟨z0, z1, z2, z3, zf, zl⟩ := hB3.facts4; clear hg
  go_wp2_with fail
  refine (between_c A n cap wb dir ex x y F F _ (by omega) HF.out HT.out).mono ?_
  rintro e w3 ⟨rfl, hg⟩
  replace hg := hg.below
  replace hbw := hbw.trans (hg.mono hbw.size); replace hB1 := hB1.below hg hB1.lt; clear r0 r1 r2 r3 rf rl; obtain ⟨r0, r1, r2, r3, rf, rl⟩ := hB1.facts4; replace hB2 := hB2.below hg hB2.lt; clear p0 p1 p2 pf pl; obtain ⟨p0, p1, p2, pf, pl⟩ := hB2.facts3; replace hB3 := hB3.below hg hB3.lt; clear z0 z1 z2 z3 zf zl; obtain ⟨z0, z1, z2, z3, zf, zl⟩ := hB3.facts4; clear hg
  go_wp2_with fail
  refine (cells_c A n cap f wb dir ex _ (hr.below hbw) (by omega) (by omega)).mono ?_
  rintro e w4 ⟨b, rfl, hbb, hg, hob⟩
  have hbn : w.heap.size + 2 < b := by omega
  replace hbw := hbw.trans (hg.mono hbw.size); replace hB1 := hB1.below hg hB1.lt; clear r0 r1 r2 r3 rf rl; obtain ⟨r0, r1, r2, r3, rf, rl⟩ := hB1.facts4; replace hB2 := hB2.below hg hB2.lt; clear p0 p1 p2 pf pl; obtain ⟨p0, p1, p2, pf, pl⟩ := hB2.facts3; replace hB3 := hB3.below hg hB3.lt; clear z0 z1 z2 z3 zf zl; obtain ⟨z0, z1, z2, z3, zf, zl⟩ := hB3.facts4; clear hg
  have hlb := hob.lt
  have l1 : (0 : Int) ≤ (F : Int) := by omega
  have l3 : (F : Int) ≤ (n : Int) := by omega
  have hbb2 : w.heap.size ≤ b := by omega
  rcases Nat.lt_or_ge F n with hlt | hge
  · have l4 : ¬ (n = F) := by omega
    go_wp2_with fail
    refine hr_start (S := (fun w' => w'.cell? ⟨w.heap.size + 1, 0, none⟩ = some (.int .i64 fg) ∧ w'.cell? ⟨w.heap.size + 1, 1, none⟩ = some (.int .i64 bg) ∧ w'.cell? ⟨w.heap.size + 1, 2, none⟩ = some (.int .i64 fl))) (by kernel_rfl) rfl ?_ (fun hHeld => ?_)
    · ((try dsimp only); go_simp)
    refine hr_q 0 ?_
    simp only [st0, st1]
    refine hr_q 1 ?_
    simp only [st0, st1]
    refine hr_q 2 ?_
    simp only [st0, st1]
    refine hr_q 3 ?_
    simp only [st0, st1]
    refine hr_q 4 ?_
    simp only [st0, st1]
    refine hr_o 5 (fun K hK => ?_)
    go_simp
    ((with_reducible refine (lay0_c _ _ fg bg fl _).mono ?_); rintro e w6 ⟨rfl, X6, d6, rfl⟩)
    (try go_wp2_with fail)
    refine hK.out _ _ ?_ (fun hHeld => ?_)
    · ((try dsimp only); go_simp)
    clear hK K
    simp only [st0, st1]
    refine hr_done (by kernel_rfl) ?_
    go_wp2_with fail
    refine (mended_c b n n f A n cap wb dir ex _ (by (exact ownAll)) (by omega)).mono ?_
    rintro e w7 ⟨rfl, hg, ho7⟩
    have hg := gb_trans (a := w4) (by (exact gbAll)) hg
    have hbw7 := below_gb hbw hg hbb2 hbw.size
    have ho8 : Own w7 b n f := ho7.congr fun i hi => by unfold mend; rw [lost_of_sane hs hi]; rfl
    replace hB1 := hB1.gb hg (by intro e; injection e; omega); clear r0 r1 r2 r3 rf rl; obtain ⟨r0, r1, r2, r3, rf, rl⟩ := hB1.facts4; replace hB3 := hB3.gb hg (by intro e; injection e; omega); clear z0 z1 z2 z3 zf zl; obtain ⟨z0, z1, z2, z3, zf, zl⟩ := hB3.facts4
    go_wp2
    refine bodyPost_ret (v := _) (by simp [results, Tryz.results86, go_sem, *]; try exact rfl) rfl ⟨b, rfl, hbb2, by exact bcAll, by (exact ownAll)⟩
  · obtain rfl : F = n := by omega
    go_wp2_with fail
    refine hr_start (S := (fun w' => w'.cell? ⟨w.heap.size + 1, 0, none⟩ = some (.int .i64 fg) ∧ w'.cell? ⟨w.heap.size + 1, 1, none⟩ = some (.int .i64 bg) ∧ w'.cell? ⟨w.heap.size + 1, 2, none⟩ = some (.int .i64 fl))) (by kernel_rfl) rfl ?_ (fun hHeld => ?_)
    · ((try dsimp only); go_simp)
    refine hr_q 0 ?_
    simp only [st0, st1]
    refine hr_q 1 ?_
    simp only [st0, st1]
    refine hr_q 2 ?_
    simp only [st0, st1]
    refine hr_q 3 ?_
    simp only [st0, st1]
    refine hr_q 4 ?_
    simp only [st0, st1]
    refine hr_o 5 (fun K hK => ?_)
    go_simp
    ((with_reducible refine (lay0_c _ _ fg bg fl _).mono ?_); rintro e w6 ⟨rfl, X6, d6, rfl⟩)
    (try go_wp2_with fail)
    refine hK.out _ _ ?_ (fun hHeld => ?_)
    · ((try dsimp only); go_simp)
    clear hK K
    simp only [st0, st1]
    refine hr_done (by kernel_rfl) ?_
    go_wp2_with fail
    refine (mended_c b F F f A F cap wb dir ex _ (by (exact ownAll)) (by omega)).mono ?_
    rintro e w7 ⟨rfl, hg, ho7⟩
    have hg := gb_trans (a := w4) (by (exact gbAll)) hg
    have hbw7 := below_gb hbw hg hbb2 hbw.size
    have ho8 : Own w7 b F f := ho7.congr fun i hi => by unfold mend; rw [lost_of_sane hs hi]; rfl
    replace hB1 := hB1.gb hg (by intro e; injection e; omega); clear r0 r1 r2 r3 rf rl; obtain ⟨r0, r1, r2, r3, rf, rl⟩ := hB1.facts4; replace hB3 := hB3.gb hg (by intro e; injection e; omega); clear z0 z1 z2 z3 zf zl; obtain ⟨z0, z1, z2, z3, zf, zl⟩ := hB3.facts4
    go_wp2
    refine bodyPost_ret (v := _) (by simp [results, Tryz.results86, go_sem, *]; try exact rfl) rfl ⟨b, rfl, hbb2, by exact bcAll, by (exact ownAll)⟩

end Go.Proofs.YtlchffkabpfjpaaGreat.Row
end
section
/- Walks of row.moves, row.Insert, row.Delete. -/
namespace Go.RowKit
/-- copy of nothing, whatever the elements' size -/
theorem run_copy_rows0 {P : Program} (w : World) (dT sT ty elem : TypeId) (size : Nat) (d a : Option Addr) (dLen dCap sLen sCap : Nat) (hu : P.underlying dT = some (.slice elem)) (hs : (P.info? elem).map (·.size) = some size) (hn : Nat.min sLen dLen = 0) :
    (Builtin.copy_ #[dT, sT] ty #[.slice d dLen dCap, .slice a sLen sCap]).run P w = .ok (.int .i64 0) w := by
  cases hq : P.info? elem with
  | none => simp [hq] at hs
  | some i =>
    cases a <;> cases d <;> simp [Builtin.copy_, run_underlying hu, Builtin.lenOf, Builtin.firstCells, sizeOf, typeInfo, hq, hn, loadCells, storeCells] <;> rfl
theorem wp_copy_rows0 {P : Program} {w : World} {o : Oper} {a : Act} {K : Act → World → Prop} {Q : Exit → Act → World → Prop} (d s : Operand) (dT sT : TypeId)
    (ho : o.op = .call { callee := .builtin .copy, args := #[d, s], argTypes := #[dT, sT] }) (elem : TypeId) (size : Nat) (hu : P.underlying dT = some (.slice elem)) (hsz : (P.info? elem).map (·.size) = some size)
    (da sa : Option Addr) (dLen dCap sLen sCap : Nat) (hd : a.eval d = .slice da dLen dCap) (hs : a.eval s = .slice sa sLen sCap) (hm : Nat.min sLen dLen = 0)
    (hK : K (a.put o.dst (.int .i64 0)) w) : o.wp P a w K Q := by
  have hrun := run_copy_rows0 (P := P) w dT sT o.type elem size da sa dLen dCap sLen sCap hu hsz hm
  unfold Oper.wp
  simp [execOp, ho, resolve, invoke, builtin, hd, hs, hrun, Result.andThen]
  exact hK
end Go.RowKit
namespace Go.Proofs.YtlchffkabpfjpaaGreat.Row
open Go.RowKit

theorem Own.copied {w : World} {b n D C S : Nat} {f g : Nat → Cl} (h : w.rowIs b 67 (n * 7) (fun j => if D * 7 ≤ j ∧ j < D * 7 + C * 7 then valF f (S * 7 + (j - D * 7)) else valF g j)) :
    Own w b n (fun i => if D ≤ i ∧ i < D + C then f (S + (i - D)) else g i) := World.rowIs.congr h fun j _ => by
  show _ = ((if D ≤ j / 7 ∧ j / 7 < D + C then f (S + (j / 7 - D)) else g (j / 7)) : Cl).val (j % 7)
  unfold valF
  by_cases hj : D * 7 ≤ j ∧ j < D * 7 + C * 7
  · rw [if_pos hj, if_pos (show D ≤ j / 7 ∧ j / 7 < D + C by omega)]
    rw [show (S * 7 + (j - D * 7)) / 7 = S + (j / 7 - D) by omega, show (S * 7 + (j - D * 7)) % 7 = j % 7 by omega]
  · rw [if_neg hj, if_neg (show ¬ (D ≤ j / 7 ∧ j / 7 < D + C) by omega)]

def rmovesB (n : Nat) (f : Nat → Cl) (dir at_ right fg bg fl : Int) : Bool := saneB n f dir && (penB fg bg fl && (decide (0 ≤ at_) && (decide (at_ < right) && decide (right ≤ n))))
set_option maxRecDepth 100000 in
set_option maxHeartbeats 2000000 in
theorem moves_c (A : Option Addr) (n cap : Nat) (f : Nat → Cl) (wb : Bool) (dir : Int) (ex : Bool) (x y fg bg fl : Int) (w : World) (hr : Rd w A n f) (hn : n ≤ 9223372036854775806) :
    Calls Tryz.prog 102 #[.agg #[.slice A n cap, .bool wb, .int .i64 dir, .bool ex], .int .i64 x, .int .i64 y, .agg #[.int .i64 fg, .int .i64 bg, .int .i64 fl]] w fun e w' => e = .returned (.bool (rmovesB n f dir x y fg bg fl)) ∧ Grew w w' := by
  unfold rmovesB
  cases hs : saneB n f dir
  · go_enter Tryz.func102, Tryz.ntmps102
    go_wp2_with fail
    refine (sane_c A n cap f wb dir ex _ (hr.below (by exact bcAll)) (by omega)).mono ?_
    rintro e w1 ⟨rfl, X1, d1, rfl⟩
    go_wp2_with fail
    go_ret
    exact ⟨by simp, (Below.toGrow (by exact bcAll))⟩
  · cases hp : penB fg bg fl
    · go_enter Tryz.func102, Tryz.ntmps102
      go_wp2_with (first | (go_at_call 45; refine (sane_c A n cap f wb dir ex _ (hr.below (by exact bcAll)) (by omega)).mono ?_; rintro e w1 ⟨rfl, X1, d1, rfl⟩) | (go_at_call 42; refine (penSane_c fg bg fl _).mono ?_; rintro e w1 ⟨rfl, X2, d2, rfl⟩))
      go_ret
      exact ⟨by simp, (Below.toGrow (by exact bcAll))⟩
    · go_enter Tryz.func102, Tryz.ntmps102
      go_wp2_with fail
      generalize hw0 : (w.alloc _).alloc _ = w0
      have hbw : Below w.heap.size w w0 := by rw [← hw0]; exact bcAll
      have hB1 : Blk w0 w.heap.size 64 #[.slice A n cap, .bool wb, .int .i64 dir, .bool ex] := by rw [← hw0]; exact (Blk.new _ _ _).alloc _
      have hB2 : Blk w0 (w.heap.size + 1) 26 #[.int .i64 fg, .int .i64 bg, .int .i64 fl] := by rw [← hw0]; exact Blk.new_at (by simp)
      clear hw0
      obtain ⟨r0, r1, r2, r3, rf, rl⟩ := hB1.facts4; obtain ⟨p0, p1, p2, pf, pl⟩ := hB2.facts3
      refine (sane_c A n cap f wb dir ex _ (hr.below hbw) (by omega)).mono ?_
      rintro e w1 ⟨rfl, hg⟩
      replace hg := hg.below
      replace hbw := hbw.trans (hg.mono hbw.size); replace hB1 := hB1.below hg hB1.lt; clear r0 r1 r2 r3 rf rl; obtain ⟨r0, r1, r2, r3, rf, rl⟩ := hB1.facts4; replace hB2 := hB2.below hg hB2.lt; clear p0 p1 p2 pf pl; obtain ⟨p0, p1, p2, pf, pl⟩ := hB2.facts3; clear hg
      go_wp2_with fail
      refine (penSane_c fg bg fl _).mono ?_
      rintro e w2 ⟨rfl, hg⟩
      replace hg := hg.below
      replace hbw := hbw.trans (hg.mono hbw.size); replace hB1 := hB1.below hg hB1.lt; clear r0 r1 r2 r3 rf rl; obtain ⟨r0, r1, r2, r3, rf, rl⟩ := hB1.facts4; replace hB2 := hB2.below hg hB2.lt; clear p0 p1 p2 pf pl; obtain ⟨p0, p1, p2, pf, pl⟩ := hB2.facts3; clear hg
      go_wp2_with fail
      all_goals (go_ret; refine ⟨ebool ?_, (Below.toGrow (by exact bcAll))⟩)
      all_goals (clear r0 r1 r2 r3 rf p0 p1 p2 pf; grind)

def insF (f : Nat → Cl) (at_ m rt : Nat) (c : Cl) (i : Nat) : Cl := if at_ ≤ i ∧ i < at_ + m then c else if at_ + m ≤ i ∧ i < rt then f (i - m) else f i
set_option maxRecDepth 100000 in
set_option maxHeartbeats 4000000 in
theorem insert_mid (A : Option Addr) (n cap : Nat) (f : Nat → Cl) (wb : Bool) (dir : Int) (ex : Bool) (at_ rt m : Nat) (fg bg fl : Int) (w : World) (hr : Rd w A n f) (hs : saneB n f dir = true) (hp : penB fg bg fl = true)
    (hat : at_ < rt) (hrt : rt ≤ n) (hcap : n ≤ cap) (hm : 1 ≤ m) (hlt : m < rt - at_) :
    Calls Tryz.prog 71 #[.agg #[.slice A n cap, .bool wb, .int .i64 dir, .bool ex], .int .i64 at_, .int .i64 m, .int .i64 rt, .agg #[.int .i64 fg, .int .i64 bg, .int .i64 fl]] w fun e w' => ∃ b, e = .returned (.agg #[.slice (some ⟨b, 0, none⟩) n n, .bool wb, .int .i64 dir, .bool ex]) ∧ w.heap.size ≤ b ∧ Below w.heap.size w w' ∧ Own w' b n (mend n (insF f at_ m rt (blank fg bg fl))) := by
  obtain ⟨hn1, hn2⟩ := sane_len hs
  have hmv : rmovesB n f dir at_ rt fg bg fl = true := by unfold rmovesB; simp [hs, hp]; omega
  obtain ⟨bf, of_, rfl, hbf, hcf⟩ := hr (by omega)
  have HCF := Lib.hid hcf
  clear hcf
  go_enter Tryz.func71, Tryz.ntmps71
  go_wp2_with fail
  generalize hw0 : ((w.alloc _).alloc _).alloc _ = w0
  have hbw : Below w.heap.size w w0 := by rw [← hw0]; exact bcAll
  have hB1 : Blk w0 w.heap.size 64 #[.slice (some ⟨bf, of_, none⟩) n cap, .bool wb, .int .i64 dir, .bool ex] := by rw [← hw0]; exact ((Blk.new _ _ _).alloc _).alloc _
  have hB2 : Blk w0 (w.heap.size + 1) 26 #[.int .i64 fg, .int .i64 bg, .int .i64 fl] := by rw [← hw0]; exact (Blk.new_at (by simp)).alloc _
  have hB3 : Blk w0 (w.heap.size + 2) 64 #[.slice none 0 0, .bool false, .int .i64 0, .bool false] := by rw [← hw0]; exact Blk.new_at (by simp)
  clear hw0
  obtain ⟨r0, r1, r2, r3, rf, rl⟩ := hB1.facts4; obtain ⟨p0, p1, p2, pf, pl⟩ := hB2.facts3; obtain ⟨z0, z1, z2, z3, zf, zl⟩ := hB3.facts4
  go_wp2_with fail
  refine (moves_c (some ⟨bf, of_, none⟩) n cap f wb dir ex at_ rt fg bg fl _ (hr.below hbw) (by omega)).mono ?_
  rintro e w1 ⟨rfl, hg⟩
  replace hg := hg.below
  replace hbw := hbw.trans (hg.mono hbw.size); replace hB1 := hB1.below hg hB1.lt; clear r0 r1 r2 r3 rf rl; obtain ⟨r0, r1, r2, r3, rf, rl⟩ := hB1.facts4; replace hB2 := hB2.below hg hB2.lt; clear p0 p1 p2 pf pl; obtain ⟨p0, p1, p2, pf, pl⟩ := hB2.facts3; replace hB3 := hB3.below hg hB3.lt; clear z0 z1 z2 z3 zf zl; obtain ⟨z0, z1, z2, z3, zf, zl⟩ := hB3.facts4; clear hg
  rw [hmv]
  clear hmv
  have c2 : IntKind.i64.wrap ((at_ : Int) + m) = (at_ : Int) + m := IntWalk.i64_in _ (by omega)
  have c3 : IntKind.i64.wrap ((rt : Int) - m) = (rt : Int) - m := IntWalk.i64_in _ (by omega)
  have d1 : ((at_ : Int) + m).toNat = at_ + m := by omega
  have d2 : ((rt : Int) - m).toNat = rt - m := by omega
  have l1 : (0 : Int) ≤ (at_ : Int) + m := by omega
  have l2 : (at_ : Int) + m ≤ rt := by omega
  have l3 : (rt : Int) ≤ n := by omega
  have l4 : (0 : Int) ≤ at_ := by omega
  have l5 : (at_ : Int) ≤ (rt : Int) - m := by omega
  have l6 : (rt : Int) - m ≤ cap := by omega
  have l7 : (at_ : Int) ≤ (at_ : Int) + m := by omega
  have l8 : (at_ : Int) + m ≤ n := by omega
  have n1 : ¬ (n = at_ + m) := by omega
  have n2 : ¬ (cap = at_) := by omega
  have n3 : ¬ (n = at_) := by omega
  go_wp2_with fail
  refine (cells_c (some ⟨bf, of_, none⟩) n cap f wb dir ex _ (hr.below hbw) (by omega) (by omega)).mono ?_
  rintro e w4 ⟨b, rfl, hbb, hg, hob⟩
  have hbn : w.heap.size + 2 < b := by omega
  have hrx := (hr.below hbw).below hg
  replace hbw := hbw.trans (hg.mono hbw.size); replace hB1 := hB1.below hg hB1.lt; clear r0 r1 r2 r3 rf rl; obtain ⟨r0, r1, r2, r3, rf, rl⟩ := hB1.facts4; replace hB2 := hB2.below hg hB2.lt; clear p0 p1 p2 pf pl; obtain ⟨p0, p1, p2, pf, pl⟩ := hB2.facts3; replace hB3 := hB3.below hg hB3.lt; clear z0 z1 z2 z3 zf zl; obtain ⟨z0, z1, z2, z3, zf, zl⟩ := hB3.facts4; clear hg
  have hlb := hob.lt
  have hbb2 : w.heap.size ≤ b := by omega
  obtain ⟨_, _, e2, hbf', hcf'⟩ := hrx (by omega)
  obtain ⟨rfl, rfl⟩ : bf = _ ∧ of_ = _ := by simpa using e2
  clear e2
  have HCX := Lib.hid hcf'
  clear hcf' hrx
  go_wp2_with fail
  refine hr_start (S := (fun w' => w'.cell? ⟨w.heap.size, 0, none⟩ = some (.slice (some ⟨bf, of_, none⟩) n cap) ∧ w'.cell? ⟨w.heap.size, 1, none⟩ = some (.bool wb) ∧ w'.cell? ⟨w.heap.size, 2, none⟩ = some (.int .i64 dir) ∧ w'.cell? ⟨w.heap.size, 3, none⟩ = some (.bool ex))) (by kernel_rfl) rfl ?_ (fun hHeld => ?_)
  · ((try dsimp only); go_simp)
  refine hr_q 0 ?_
  simp only [st0, st1]
  refine hr_q 1 ?_
  simp only [st0, st1]
  refine hr_q 2 ?_
  simp only [st0, st1]
  refine hr_q 3 ?_
  simp only [st0, st1]
  refine hr_q 4 ?_
  simp only [st0, st1]
  refine hr_q 5 ?_
  simp only [st0, st1]
  refine hr_q 6 ?_
  simp only [st0, st1]
  refine hr_q 7 ?_
  simp only [st0, st1]
  refine hr_q 8 ?_
  simp only [st0, st1]
  refine hr_q 9 ?_
  simp only [st0, st1]
  refine hr_q 10 ?_
  simp only [st0, st1]
  refine hr_q 11 ?_
  simp only [st0, st1]
  refine hr_q 12 ?_
  simp only [st0, st1]
  refine hr_o 13 (fun K hK => ?_)
  (refine wp_copy_rows (.tmp 32) (.tmp 39) _ _ rfl 67 7 Tryz.underlying62 cellSize b ((at_ + m) * 7) (n * 7) 67 (valF f) _ _ _ _ (rt - at_ - m) ⟨bf, of_ + at_ * 7, none⟩ (fun j => valF f (at_ * 7 + j)) (by rfl) (by rfl) hob (by show min _ _ = _; omega) (fun j hj => by have h := Rd.cellsOf HCX.out (at_ * 7 + j) (by omega); rw [addr_add] at h ⊢; rw [Nat.add_assoc]; exact h) (by omega) (fun j _ => val_one _ _) ?_; intro w6 hrow6 hg6 hz6; obtain ⟨y0, y1, y2, y3, _, _⟩ := (Blk.gb (show Blk w4.drew w.heap.size _ _ from hB1) hg6 (by intro e; injection e; omega)).facts4)
  refine hK.out _ _ ?_ (fun hHeld => ?_)
  · ((try dsimp only); go_simp)
  clear hK K
  simp only [st0, st1]
  refine hr_done (by kernel_rfl) ?_
  have hg : w4.grownBy w6 (some b) := gb_trans (gb_drew (World.grownBy.refl _ _)) hg6
  have ho6 : Own w6 b n (fun i => if at_ + m ≤ i ∧ i < at_ + m + (rt - at_ - m) then f (at_ + (i - (at_ + m))) else f i) := Own.copied hrow6
  clear hg6 hHeld y0 y1 y2 y3 hz6 hrow6 hob HCX
  have hlb6 := ho6.lt
  have hbw6 := below_gb hbw hg hbb2 hbw.size
  replace hB1 := hB1.gb hg (by intro e; injection e; omega); clear r0 r1 r2 r3 rf rl; obtain ⟨r0, r1, r2, r3, rf, rl⟩ := hB1.facts4; replace hB2 := hB2.gb hg (by intro e; injection e; omega); clear p0 p1 p2 pf pl; obtain ⟨p0, p1, p2, pf, pl⟩ := hB2.facts3; replace hB3 := hB3.gb hg (by intro e; injection e; omega); clear z0 z1 z2 z3 zf zl; obtain ⟨z0, z1, z2, z3, zf, zl⟩ := hB3.facts4
  clear hg
  go_wp2_with fail
  refine hr_start (S := (fun w' => w'.cell? ⟨w.heap.size + 1, 0, none⟩ = some (.int .i64 fg) ∧ w'.cell? ⟨w.heap.size + 1, 1, none⟩ = some (.int .i64 bg) ∧ w'.cell? ⟨w.heap.size + 1, 2, none⟩ = some (.int .i64 fl))) (by kernel_rfl) rfl ?_ (fun hHeld => ?_)
  · ((try dsimp only); go_simp)
  refine hr_q 0 ?_
  simp only [st0, st1]
  refine hr_q 1 ?_
  simp only [st0, st1]
  refine hr_q 2 ?_
  simp only [st0, st1]
  refine hr_q 3 ?_
  simp only [st0, st1]
  refine hr_q 4 ?_
  simp only [st0, st1]
  refine hr_q 5 ?_
  simp only [st0, st1]
  refine hr_q 6 ?_
  simp only [st0, st1]
  refine hr_o 7 (fun K hK => ?_)
  go_simp
  ((with_reducible refine (lay_c b (at_ * 7) n at_ m _ _ fg bg fl _ (own_drew ho6) rfl (by omega) (by omega)).mono ?_); rintro e w8 ⟨rfl, hg8, ho8⟩; obtain ⟨y0, y1, y2, _, _⟩ := (Blk.gb (show Blk w6.drew (w.heap.size + 1) _ _ from hB2) hg8 (by intro e; injection e; omega)).facts3)
  (try go_wp2_with fail)
  refine hK.out _ _ ?_ (fun hHeld => ?_)
  · ((try dsimp only); go_simp)
  clear hK K
  simp only [st0, st1]
  refine hr_done (by kernel_rfl) ?_
  have hg : w6.grownBy w8 (some b) := gb_trans (gb_drew (World.grownBy.refl _ _)) hg8
  clear hg8 hHeld y0 y1 y2 ho6
  have hbw8 := below_gb hbw6 hg hbb2 hbw6.size
  replace hB1 := hB1.gb hg (by intro e; injection e; omega); clear r0 r1 r2 r3 rf rl; obtain ⟨r0, r1, r2, r3, rf, rl⟩ := hB1.facts4; replace hB3 := hB3.gb hg (by intro e; injection e; omega); clear z0 z1 z2 z3 zf zl; obtain ⟨z0, z1, z2, z3, zf, zl⟩ := hB3.facts4
  clear p0 p1 p2 pf pl hB2 hg
  go_wp2_with fail
  refine (mended_c b n n _ (some ⟨bf, of_, none⟩) n cap wb dir ex _ ho8 (by omega)).mono ?_
  rintro e w9 ⟨rfl, hg, ho9⟩
  have hbw9 := below_gb hbw8 hg hbb2 hbw8.size
  have hoF : Own w9 b n (mend n (insF f at_ m rt (blank fg bg fl))) := ho9.congr fun i hi => mend_congr (fun j _ => by unfold laid insF; grind) hi
  clear ho9 ho8
  replace hB1 := hB1.gb hg (by intro e; injection e; omega); clear r0 r1 r2 r3 rf rl; obtain ⟨r0, r1, r2, r3, rf, rl⟩ := hB1.facts4; replace hB3 := hB3.gb hg (by intro e; injection e; omega); clear z0 z1 z2 z3 zf zl; obtain ⟨z0, z1, z2, z3, zf, zl⟩ := hB3.facts4
  go_wp2
  refine bodyPost_ret (v := _) (by simp [results, Tryz.results71, go_sem, *]; try exact rfl) rfl ⟨b, rfl, hbb2, by exact bcAll, by (exact ownAll)⟩
end Go.Proofs.YtlchffkabpfjpaaGreat.Row
end
section
/- Walks of row.Insert and row.Delete (written by movegen.py). -/
namespace Go.Proofs.YtlchffkabpfjpaaGreat.Row
open Go.RowKit
def delF (f : Nat → Cl) (at_ m rt : Nat) (c : Cl) (i : Nat) : Cl := if rt - m ≤ i ∧ i < rt then c else if at_ ≤ i ∧ i < rt - m then f (i + m) else f i
set_option maxRecDepth 100000 in
set_option maxHeartbeats 4000000 in
theorem insert_all (A : Option Addr) (n cap : Nat) (f : Nat → Cl) (wb : Bool) (dir : Int) (ex : Bool) (at_ rt m : Nat) (M fg bg fl : Int) (w : World) (hr : Rd w A n f) (hs : saneB n f dir = true) (hp : penB fg bg fl = true)
    (hat : at_ < rt) (hrt : rt ≤ n) (hcap : n ≤ cap) (hm : (rt : Int) - at_ = (m : Int)) (hM : (m : Int) < M) :
    Calls Tryz.prog 71 #[.agg #[.slice A n cap, .bool wb, .int .i64 dir, .bool ex], .int .i64 at_, .int .i64 M, .int .i64 rt, .agg #[.int .i64 fg, .int .i64 bg, .int .i64 fl]] w fun e w' => ∃ b, e = .returned (.agg #[.slice (some ⟨b, 0, none⟩) n n, .bool wb, .int .i64 dir, .bool ex]) ∧ w.heap.size ≤ b ∧ Below w.heap.size w w' ∧ Own w' b n (mend n (insF f at_ m rt (blank fg bg fl))) := by
  obtain ⟨hn1, hn2⟩ := sane_len hs
  have hMm : (rt : Int) - at_ < M := by omega
  have hmv : rmovesB n f dir at_ rt fg bg fl = true := by unfold rmovesB; simp [hs, hp]; omega
  obtain ⟨bf, of_, rfl, hbf, hcf⟩ := hr (by omega)
  clear hcf
  go_enter Tryz.func71, Tryz.ntmps71
  go_wp2_with fail
  generalize hw0 : ((w.alloc _).alloc _).alloc _ = w0
  have hbw : Below w.heap.size w w0 := by rw [← hw0]; exact bcAll
  have hB1 : Blk w0 w.heap.size 64 #[.slice (some ⟨bf, of_, none⟩) n cap, .bool wb, .int .i64 dir, .bool ex] := by rw [← hw0]; exact ((Blk.new _ _ _).alloc _).alloc _
  have hB2 : Blk w0 (w.heap.size + 1) 26 #[.int .i64 fg, .int .i64 bg, .int .i64 fl] := by rw [← hw0]; exact (Blk.new_at (by simp)).alloc _
  have hB3 : Blk w0 (w.heap.size + 2) 64 #[.slice none 0 0, .bool false, .int .i64 0, .bool false] := by rw [← hw0]; exact Blk.new_at (by simp)
  clear hw0
  obtain ⟨r0, r1, r2, r3, rf, rl⟩ := hB1.facts4; obtain ⟨p0, p1, p2, pf, pl⟩ := hB2.facts3; obtain ⟨z0, z1, z2, z3, zf, zl⟩ := hB3.facts4
  go_wp2_with fail
  refine (moves_c (some ⟨bf, of_, none⟩) n cap f wb dir ex at_ rt fg bg fl _ (hr.below hbw) (by omega)).mono ?_
  rintro e w1 ⟨rfl, hg⟩
  replace hg := hg.below
  replace hbw := hbw.trans (hg.mono hbw.size); replace hB1 := hB1.below hg hB1.lt; clear r0 r1 r2 r3 rf rl; obtain ⟨r0, r1, r2, r3, rf, rl⟩ := hB1.facts4; replace hB2 := hB2.below hg hB2.lt; clear p0 p1 p2 pf pl; obtain ⟨p0, p1, p2, pf, pl⟩ := hB2.facts3; replace hB3 := hB3.below hg hB3.lt; clear z0 z1 z2 z3 zf zl; obtain ⟨z0, z1, z2, z3, zf, zl⟩ := hB3.facts4; clear hg
  rw [hmv]
  clear hmv
  have c2 : IntKind.i64.wrap ((at_ : Int) + m) = (at_ : Int) + m := IntWalk.i64_in _ (by omega)
  have c3 : IntKind.i64.wrap ((rt : Int) - m) = (rt : Int) - m := IntWalk.i64_in _ (by omega)
  have d1 : ((at_ : Int) + m).toNat = at_ + m := by omega
  have d2 : ((rt : Int) - m).toNat = rt - m := by omega
  have l1 : (0 : Int) ≤ (at_ : Int) + m := by omega
  have l2 : (at_ : Int) + m ≤ rt := by omega
  have l3 : (rt : Int) ≤ n := by omega
  have l4 : (0 : Int) ≤ at_ := by omega
  have l5 : (at_ : Int) ≤ (rt : Int) - m := by omega
  have l6 : (rt : Int) - m ≤ cap := by omega
  have l7 : (at_ : Int) ≤ (at_ : Int) + m := by omega
  have l8 : (at_ : Int) + m ≤ n := by omega
  have l9 : (rt : Int) ≤ cap := by omega
  have l10 : (rt : Int) - m ≤ n := by omega
  have l11 : (rt : Int) - m ≤ rt := by omega
  have l12 : (0 : Int) ≤ (rt : Int) - m := by omega
  have l17 : (m : Int) ≤ (rt : Int) := by omega
  have n2 : ¬ (cap = at_) := by omega
  have n3 : ¬ (n = at_) := by omega
  go_wp2_with fail
  refine (cells_c (some ⟨bf, of_, none⟩) n cap f wb dir ex _ (hr.below hbw) (by omega) (by omega)).mono ?_
  rintro e w4 ⟨b, rfl, hbb, hg, hob⟩
  have hbn : w.heap.size + 2 < b := by omega
  have hrx := (hr.below hbw).below hg
  replace hbw := hbw.trans (hg.mono hbw.size); replace hB1 := hB1.below hg hB1.lt; clear r0 r1 r2 r3 rf rl; obtain ⟨r0, r1, r2, r3, rf, rl⟩ := hB1.facts4; replace hB2 := hB2.below hg hB2.lt; clear p0 p1 p2 pf pl; obtain ⟨p0, p1, p2, pf, pl⟩ := hB2.facts3; replace hB3 := hB3.below hg hB3.lt; clear z0 z1 z2 z3 zf zl; obtain ⟨z0, z1, z2, z3, zf, zl⟩ := hB3.facts4; clear hg
  have hlb := hob.lt
  have hbb2 : w.heap.size ≤ b := by omega
  obtain ⟨_, _, e2, hbf', hcf'⟩ := hrx (by omega)
  obtain ⟨rfl, rfl⟩ : bf = _ ∧ of_ = _ := by simpa using e2
  clear e2
  have HCX := Lib.hid hcf'
  clear hcf' hrx
  go_wp2_with fail
  refine hr_start (S := (fun w' => w'.cell? ⟨w.heap.size, 0, none⟩ = some (.slice (some ⟨bf, of_, none⟩) n cap) ∧ w'.cell? ⟨w.heap.size, 1, none⟩ = some (.bool wb) ∧ w'.cell? ⟨w.heap.size, 2, none⟩ = some (.int .i64 dir) ∧ w'.cell? ⟨w.heap.size, 3, none⟩ = some (.bool ex))) (by kernel_rfl) rfl ?_ (fun hHeld => ?_)
  · ((try dsimp only); go_simp)
  refine hr_q 0 ?_
  simp only [st0, st1]
  refine hr_q 1 ?_
  simp only [st0, st1]
  refine hr_q 2 ?_
  simp only [st0, st1]
  refine hr_q 3 ?_
  simp only [st0, st1]
  refine hr_q 4 ?_
  simp only [st0, st1]
  refine hr_q 5 ?_
  simp only [st0, st1]
  generalize (@ite (Option Addr) (n = at_ + m) _ _ _) = zz
  refine hr_q 6 ?_
  simp only [st0, st1]
  refine hr_q 7 ?_
  simp only [st0, st1]
  refine hr_q 8 ?_
  simp only [st0, st1]
  refine hr_q 9 ?_
  simp only [st0, st1]
  refine hr_q 10 ?_
  simp only [st0, st1]
  refine hr_q 11 ?_
  simp only [st0, st1]
  refine hr_q 12 ?_
  simp only [st0, st1]
  refine hr_o 13 (fun K hK => ?_)
  (refine wp_copy_rows0 (.tmp 32) (.tmp 39) _ _ rfl 67 7 Tryz.underlying62 cellSize _ _ _ _ _ _ (by rfl) (by rfl) (by show min _ _ = _; omega) ?_)
  refine hK.out _ _ ?_ (fun hHeld => ?_)
  · ((try dsimp only); go_simp)
  clear hK K
  simp only [st0, st1]
  refine hr_done (by kernel_rfl) ?_
  have hg : w4.grownBy w4.drew (some b) := gb_drew (World.grownBy.refl _ _)
  have ho6 : Own w4.drew b n f := own_drew hob
  clear hHeld hob HCX
  generalize w4.drew = w6 at *
  have hlb6 := ho6.lt
  have hbw6 := below_gb hbw hg hbb2 hbw.size
  replace hB1 := hB1.gb hg (by intro e; injection e; omega); clear r0 r1 r2 r3 rf rl; obtain ⟨r0, r1, r2, r3, rf, rl⟩ := hB1.facts4; replace hB2 := hB2.gb hg (by intro e; injection e; omega); clear p0 p1 p2 pf pl; obtain ⟨p0, p1, p2, pf, pl⟩ := hB2.facts3; replace hB3 := hB3.gb hg (by intro e; injection e; omega); clear z0 z1 z2 z3 zf zl; obtain ⟨z0, z1, z2, z3, zf, zl⟩ := hB3.facts4
  clear hg
  go_wp2_with fail
  refine hr_start (S := (fun w' => w'.cell? ⟨w.heap.size + 1, 0, none⟩ = some (.int .i64 fg) ∧ w'.cell? ⟨w.heap.size + 1, 1, none⟩ = some (.int .i64 bg) ∧ w'.cell? ⟨w.heap.size + 1, 2, none⟩ = some (.int .i64 fl))) (by kernel_rfl) rfl ?_ (fun hHeld => ?_)
  · ((try dsimp only); go_simp)
  refine hr_q 0 ?_
  simp only [st0, st1]
  refine hr_q 1 ?_
  simp only [st0, st1]
  refine hr_q 2 ?_
  simp only [st0, st1]
  refine hr_q 3 ?_
  simp only [st0, st1]
  refine hr_q 4 ?_
  simp only [st0, st1]
  refine hr_q 5 ?_
  simp only [st0, st1]
  refine hr_q 6 ?_
  simp only [st0, st1]
  refine hr_o 7 (fun K hK => ?_)
  go_simp
  ((with_reducible refine (lay_c b (at_ * 7) n at_ m _ _ fg bg fl _ (own_drew ho6) rfl (by omega) (by omega)).mono ?_); rintro e w8 ⟨rfl, hg8, ho8⟩; obtain ⟨y0, y1, y2, _, _⟩ := (Blk.gb (show Blk w6.drew (w.heap.size + 1) _ _ from hB2) hg8 (by intro e; injection e; omega)).facts3)
  (try go_wp2_with fail)
  refine hK.out _ _ ?_ (fun hHeld => ?_)
  · ((try dsimp only); go_simp)
  clear hK K
  simp only [st0, st1]
  refine hr_done (by kernel_rfl) ?_
  have hg : w6.grownBy w8 (some b) := gb_trans (gb_drew (World.grownBy.refl _ _)) hg8
  clear hg8 hHeld y0 y1 y2 ho6
  have hbw8 := below_gb hbw6 hg hbb2 hbw6.size
  replace hB1 := hB1.gb hg (by intro e; injection e; omega); clear r0 r1 r2 r3 rf rl; obtain ⟨r0, r1, r2, r3, rf, rl⟩ := hB1.facts4; replace hB3 := hB3.gb hg (by intro e; injection e; omega); clear z0 z1 z2 z3 zf zl; obtain ⟨z0, z1, z2, z3, zf, zl⟩ := hB3.facts4
  clear p0 p1 p2 pf pl hB2 hg
  go_wp2_with fail
  refine (mended_c b n n _ (some ⟨bf, of_, none⟩) n cap wb dir ex _ ho8 (by omega)).mono ?_
  rintro e w9 ⟨rfl, hg, ho9⟩
  have hbw9 := below_gb hbw8 hg hbb2 hbw8.size
  have hoF : Own w9 b n (mend n (insF f at_ m rt (blank fg bg fl))) := ho9.congr fun i hi => mend_congr (fun j _ => by unfold laid insF; grind) hi
  clear ho9 ho8
  replace hB1 := hB1.gb hg (by intro e; injection e; omega); clear r0 r1 r2 r3 rf rl; obtain ⟨r0, r1, r2, r3, rf, rl⟩ := hB1.facts4; replace hB3 := hB3.gb hg (by intro e; injection e; omega); clear z0 z1 z2 z3 zf zl; obtain ⟨z0, z1, z2, z3, zf, zl⟩ := hB3.facts4
  go_wp2
  refine bodyPost_ret (v := _) (by simp [results, Tryz.results71, go_sem, *]; try exact rfl) rfl ⟨b, rfl, hbb2, by exact bcAll, by (exact ownAll)⟩

set_option maxRecDepth 100000 in
set_option maxHeartbeats 4000000 in
theorem insert_eq (A : Option Addr) (n cap : Nat) (f : Nat → Cl) (wb : Bool) (dir : Int) (ex : Bool) (at_ rt m : Nat) (fg bg fl : Int) (w : World) (hr : Rd w A n f) (hs : saneB n f dir = true) (hp : penB fg bg fl = true)
    (hat : at_ < rt) (hrt : rt ≤ n) (hcap : n ≤ cap) (hm : (rt : Int) - at_ = (m : Int)) :
    Calls Tryz.prog 71 #[.agg #[.slice A n cap, .bool wb, .int .i64 dir, .bool ex], .int .i64 at_, .int .i64 m, .int .i64 rt, .agg #[.int .i64 fg, .int .i64 bg, .int .i64 fl]] w fun e w' => ∃ b, e = .returned (.agg #[.slice (some ⟨b, 0, none⟩) n n, .bool wb, .int .i64 dir, .bool ex]) ∧ w.heap.size ≤ b ∧ Below w.heap.size w w' ∧ Own w' b n (mend n (insF f at_ m rt (blank fg bg fl))) := by
  obtain ⟨hn1, hn2⟩ := sane_len hs
  have hmv : rmovesB n f dir at_ rt fg bg fl = true := by unfold rmovesB; simp [hs, hp]; omega
  obtain ⟨bf, of_, rfl, hbf, hcf⟩ := hr (by omega)
  clear hcf
  go_enter Tryz.func71, Tryz.ntmps71
  go_wp2_with fail
  generalize hw0 : ((w.alloc _).alloc _).alloc _ = w0
  have hbw : Below w.heap.size w w0 := by rw [← hw0]; exact bcAll
  have hB1 : Blk w0 w.heap.size 64 #[.slice (some ⟨bf, of_, none⟩) n cap, .bool wb, .int .i64 dir, .bool ex] := by rw [← hw0]; exact ((Blk.new _ _ _).alloc _).alloc _
  have hB2 : Blk w0 (w.heap.size + 1) 26 #[.int .i64 fg, .int .i64 bg, .int .i64 fl] := by rw [← hw0]; exact (Blk.new_at (by simp)).alloc _
  have hB3 : Blk w0 (w.heap.size + 2) 64 #[.slice none 0 0, .bool false, .int .i64 0, .bool false] := by rw [← hw0]; exact Blk.new_at (by simp)
  clear hw0
  obtain ⟨r0, r1, r2, r3, rf, rl⟩ := hB1.facts4; obtain ⟨p0, p1, p2, pf, pl⟩ := hB2.facts3; obtain ⟨z0, z1, z2, z3, zf, zl⟩ := hB3.facts4
  go_wp2_with fail
  refine (moves_c (some ⟨bf, of_, none⟩) n cap f wb dir ex at_ rt fg bg fl _ (hr.below hbw) (by omega)).mono ?_
  rintro e w1 ⟨rfl, hg⟩
  replace hg := hg.below
  replace hbw := hbw.trans (hg.mono hbw.size); replace hB1 := hB1.below hg hB1.lt; clear r0 r1 r2 r3 rf rl; obtain ⟨r0, r1, r2, r3, rf, rl⟩ := hB1.facts4; replace hB2 := hB2.below hg hB2.lt; clear p0 p1 p2 pf pl; obtain ⟨p0, p1, p2, pf, pl⟩ := hB2.facts3; replace hB3 := hB3.below hg hB3.lt; clear z0 z1 z2 z3 zf zl; obtain ⟨z0, z1, z2, z3, zf, zl⟩ := hB3.facts4; clear hg
  rw [hmv]
  clear hmv
  have c2 : IntKind.i64.wrap ((at_ : Int) + m) = (at_ : Int) + m := IntWalk.i64_in _ (by omega)
  have c3 : IntKind.i64.wrap ((rt : Int) - m) = (rt : Int) - m := IntWalk.i64_in _ (by omega)
  have d1 : ((at_ : Int) + m).toNat = at_ + m := by omega
  have d2 : ((rt : Int) - m).toNat = rt - m := by omega
  have l1 : (0 : Int) ≤ (at_ : Int) + m := by omega
  have l2 : (at_ : Int) + m ≤ rt := by omega
  have l3 : (rt : Int) ≤ n := by omega
  have l4 : (0 : Int) ≤ at_ := by omega
  have l5 : (at_ : Int) ≤ (rt : Int) - m := by omega
  have l6 : (rt : Int) - m ≤ cap := by omega
  have l7 : (at_ : Int) ≤ (at_ : Int) + m := by omega
  have l8 : (at_ : Int) + m ≤ n := by omega
  have l9 : (rt : Int) ≤ cap := by omega
  have l10 : (rt : Int) - m ≤ n := by omega
  have l11 : (rt : Int) - m ≤ rt := by omega
  have l12 : (0 : Int) ≤ (rt : Int) - m := by omega
  have l17 : (m : Int) ≤ (rt : Int) := by omega
  have n2 : ¬ (cap = at_) := by omega
  have n3 : ¬ (n = at_) := by omega
  go_wp2_with fail
  refine (cells_c (some ⟨bf, of_, none⟩) n cap f wb dir ex _ (hr.below hbw) (by omega) (by omega)).mono ?_
  rintro e w4 ⟨b, rfl, hbb, hg, hob⟩
  have hbn : w.heap.size + 2 < b := by omega
  have hrx := (hr.below hbw).below hg
  replace hbw := hbw.trans (hg.mono hbw.size); replace hB1 := hB1.below hg hB1.lt; clear r0 r1 r2 r3 rf rl; obtain ⟨r0, r1, r2, r3, rf, rl⟩ := hB1.facts4; replace hB2 := hB2.below hg hB2.lt; clear p0 p1 p2 pf pl; obtain ⟨p0, p1, p2, pf, pl⟩ := hB2.facts3; replace hB3 := hB3.below hg hB3.lt; clear z0 z1 z2 z3 zf zl; obtain ⟨z0, z1, z2, z3, zf, zl⟩ := hB3.facts4; clear hg
  have hlb := hob.lt
  have hbb2 : w.heap.size ≤ b := by omega
  obtain ⟨_, _, e2, hbf', hcf'⟩ := hrx (by omega)
  obtain ⟨rfl, rfl⟩ : bf = _ ∧ of_ = _ := by simpa using e2
  clear e2
  have HCX := Lib.hid hcf'
  clear hcf' hrx
  go_wp2_with fail
  refine hr_start (S := (fun w' => w'.cell? ⟨w.heap.size, 0, none⟩ = some (.slice (some ⟨bf, of_, none⟩) n cap) ∧ w'.cell? ⟨w.heap.size, 1, none⟩ = some (.bool wb) ∧ w'.cell? ⟨w.heap.size, 2, none⟩ = some (.int .i64 dir) ∧ w'.cell? ⟨w.heap.size, 3, none⟩ = some (.bool ex))) (by kernel_rfl) rfl ?_ (fun hHeld => ?_)
  · ((try dsimp only); go_simp)
  refine hr_q 0 ?_
  simp only [st0, st1]
  refine hr_q 1 ?_
  simp only [st0, st1]
  refine hr_q 2 ?_
  simp only [st0, st1]
  refine hr_q 3 ?_
  simp only [st0, st1]
  refine hr_q 4 ?_
  simp only [st0, st1]
  refine hr_q 5 ?_
  simp only [st0, st1]
  generalize (@ite (Option Addr) (n = at_ + m) _ _ _) = zz
  refine hr_q 6 ?_
  simp only [st0, st1]
  refine hr_q 7 ?_
  simp only [st0, st1]
  refine hr_q 8 ?_
  simp only [st0, st1]
  refine hr_q 9 ?_
  simp only [st0, st1]
  refine hr_q 10 ?_
  simp only [st0, st1]
  refine hr_q 11 ?_
  simp only [st0, st1]
  refine hr_q 12 ?_
  simp only [st0, st1]
  refine hr_o 13 (fun K hK => ?_)
  (refine wp_copy_rows0 (.tmp 32) (.tmp 39) _ _ rfl 67 7 Tryz.underlying62 cellSize _ _ _ _ _ _ (by rfl) (by rfl) (by show min _ _ = _; omega) ?_)
  refine hK.out _ _ ?_ (fun hHeld => ?_)
  · ((try dsimp only); go_simp)
  clear hK K
  simp only [st0, st1]
  refine hr_done (by kernel_rfl) ?_
  have hg : w4.grownBy w4.drew (some b) := gb_drew (World.grownBy.refl _ _)
  have ho6 : Own w4.drew b n f := own_drew hob
  clear hHeld hob HCX
  generalize w4.drew = w6 at *
  have hlb6 := ho6.lt
  have hbw6 := below_gb hbw hg hbb2 hbw.size
  replace hB1 := hB1.gb hg (by intro e; injection e; omega); clear r0 r1 r2 r3 rf rl; obtain ⟨r0, r1, r2, r3, rf, rl⟩ := hB1.facts4; replace hB2 := hB2.gb hg (by intro e; injection e; omega); clear p0 p1 p2 pf pl; obtain ⟨p0, p1, p2, pf, pl⟩ := hB2.facts3; replace hB3 := hB3.gb hg (by intro e; injection e; omega); clear z0 z1 z2 z3 zf zl; obtain ⟨z0, z1, z2, z3, zf, zl⟩ := hB3.facts4
  clear hg
  go_wp2_with fail
  refine hr_start (S := (fun w' => w'.cell? ⟨w.heap.size + 1, 0, none⟩ = some (.int .i64 fg) ∧ w'.cell? ⟨w.heap.size + 1, 1, none⟩ = some (.int .i64 bg) ∧ w'.cell? ⟨w.heap.size + 1, 2, none⟩ = some (.int .i64 fl))) (by kernel_rfl) rfl ?_ (fun hHeld => ?_)
  · ((try dsimp only); go_simp)
  refine hr_q 0 ?_
  simp only [st0, st1]
  refine hr_q 1 ?_
  simp only [st0, st1]
  refine hr_q 2 ?_
  simp only [st0, st1]
  refine hr_q 3 ?_
  simp only [st0, st1]
  refine hr_q 4 ?_
  simp only [st0, st1]
  refine hr_q 5 ?_
  simp only [st0, st1]
  refine hr_q 6 ?_
  simp only [st0, st1]
  refine hr_o 7 (fun K hK => ?_)
  go_simp
  ((with_reducible refine (lay_c b (at_ * 7) n at_ m _ _ fg bg fl _ (own_drew ho6) rfl (by omega) (by omega)).mono ?_); rintro e w8 ⟨rfl, hg8, ho8⟩; obtain ⟨y0, y1, y2, _, _⟩ := (Blk.gb (show Blk w6.drew (w.heap.size + 1) _ _ from hB2) hg8 (by intro e; injection e; omega)).facts3)
  (try go_wp2_with fail)
  refine hK.out _ _ ?_ (fun hHeld => ?_)
  · ((try dsimp only); go_simp)
  clear hK K
  simp only [st0, st1]
  refine hr_done (by kernel_rfl) ?_
  have hg : w6.grownBy w8 (some b) := gb_trans (gb_drew (World.grownBy.refl _ _)) hg8
  clear hg8 hHeld y0 y1 y2 ho6
  have hbw8 := below_gb hbw6 hg hbb2 hbw6.size
  replace hB1 := hB1.gb hg (by intro e; injection e; omega); clear r0 r1 r2 r3 rf rl; obtain ⟨r0, r1, r2, r3, rf, rl⟩ := hB1.facts4; replace hB3 := hB3.gb hg (by intro e; injection e; omega); clear z0 z1 z2 z3 zf zl; obtain ⟨z0, z1, z2, z3, zf, zl⟩ := hB3.facts4
  clear p0 p1 p2 pf pl hB2 hg
  go_wp2_with fail
  refine (mended_c b n n _ (some ⟨bf, of_, none⟩) n cap wb dir ex _ ho8 (by omega)).mono ?_
  rintro e w9 ⟨rfl, hg, ho9⟩
  have hbw9 := below_gb hbw8 hg hbb2 hbw8.size
  have hoF : Own w9 b n (mend n (insF f at_ m rt (blank fg bg fl))) := ho9.congr fun i hi => mend_congr (fun j _ => by unfold laid insF; grind) hi
  clear ho9 ho8
  replace hB1 := hB1.gb hg (by intro e; injection e; omega); clear r0 r1 r2 r3 rf rl; obtain ⟨r0, r1, r2, r3, rf, rl⟩ := hB1.facts4; replace hB3 := hB3.gb hg (by intro e; injection e; omega); clear z0 z1 z2 z3 zf zl; obtain ⟨z0, z1, z2, z3, zf, zl⟩ := hB3.facts4
  go_wp2
  refine bodyPost_ret (v := _) (by simp [results, Tryz.results71, go_sem, *]; try exact rfl) rfl ⟨b, rfl, hbb2, by exact bcAll, by (exact ownAll)⟩

set_option maxRecDepth 100000 in
set_option maxHeartbeats 4000000 in
theorem insert_zero (A : Option Addr) (n cap : Nat) (f : Nat → Cl) (wb : Bool) (dir : Int) (ex : Bool) (at_ rt : Nat) (M fg bg fl : Int) (w : World) (hr : Rd w A n f) (hs : saneB n f dir = true) (hp : penB fg bg fl = true)
    (hat : at_ < rt) (hrt : rt ≤ n) (hcap : n ≤ cap) (hM : M ≤ 0) :
    Calls Tryz.prog 71 #[.agg #[.slice A n cap, .bool wb, .int .i64 dir, .bool ex], .int .i64 at_, .int .i64 M, .int .i64 rt, .agg #[.int .i64 fg, .int .i64 bg, .int .i64 fl]] w fun e w' => ∃ b, e = .returned (.agg #[.slice (some ⟨b, 0, none⟩) n n, .bool wb, .int .i64 dir, .bool ex]) ∧ w.heap.size ≤ b ∧ Below w.heap.size w w' ∧ Own w' b n (f) := by
  obtain ⟨hn1, hn2⟩ := sane_len hs
  have hM1 : ¬ ((rt : Int) - at_ < M) := by omega
  have hmv : rmovesB n f dir at_ rt fg bg fl = true := by unfold rmovesB; simp [hs, hp]; omega
  obtain ⟨bf, of_, rfl, hbf, hcf⟩ := hr (by omega)
  clear hcf
  go_enter Tryz.func71, Tryz.ntmps71
  go_wp2_with fail
  generalize hw0 : ((w.alloc _).alloc _).alloc _ = w0
  have hbw : Below w.heap.size w w0 := by rw [← hw0]; exact bcAll
  have hB1 : Blk w0 w.heap.size 64 #[.slice (some ⟨bf, of_, none⟩) n cap, .bool wb, .int .i64 dir, .bool ex] := by rw [← hw0]; exact ((Blk.new _ _ _).alloc _).alloc _
  have hB2 : Blk w0 (w.heap.size + 1) 26 #[.int .i64 fg, .int .i64 bg, .int .i64 fl] := by rw [← hw0]; exact (Blk.new_at (by simp)).alloc _
  have hB3 : Blk w0 (w.heap.size + 2) 64 #[.slice none 0 0, .bool false, .int .i64 0, .bool false] := by rw [← hw0]; exact Blk.new_at (by simp)
  clear hw0
  obtain ⟨r0, r1, r2, r3, rf, rl⟩ := hB1.facts4; obtain ⟨p0, p1, p2, pf, pl⟩ := hB2.facts3; obtain ⟨z0, z1, z2, z3, zf, zl⟩ := hB3.facts4
  go_wp2_with fail
  refine (moves_c (some ⟨bf, of_, none⟩) n cap f wb dir ex at_ rt fg bg fl _ (hr.below hbw) (by omega)).mono ?_
  rintro e w1 ⟨rfl, hg⟩
  replace hg := hg.below
  replace hbw := hbw.trans (hg.mono hbw.size); replace hB1 := hB1.below hg hB1.lt; clear r0 r1 r2 r3 rf rl; obtain ⟨r0, r1, r2, r3, rf, rl⟩ := hB1.facts4; replace hB2 := hB2.below hg hB2.lt; clear p0 p1 p2 pf pl; obtain ⟨p0, p1, p2, pf, pl⟩ := hB2.facts3; replace hB3 := hB3.below hg hB3.lt; clear z0 z1 z2 z3 zf zl; obtain ⟨z0, z1, z2, z3, zf, zl⟩ := hB3.facts4; clear hg
  rw [hmv]
  clear hmv
  have c2 : IntKind.i64.wrap ((at_ : Int) + 0) = (at_ : Int) + 0 := IntWalk.i64_in _ (by omega)
  have c3 : IntKind.i64.wrap ((rt : Int) - 0) = (rt : Int) - 0 := IntWalk.i64_in _ (by omega)
  have d1 : ((at_ : Int) + 0).toNat = at_ + 0 := by omega
  have d2 : ((rt : Int) - 0).toNat = rt - 0 := by omega
  have l1 : (0 : Int) ≤ (at_ : Int) + 0 := by omega
  have l2 : (at_ : Int) + 0 ≤ rt := by omega
  have l3 : (rt : Int) ≤ n := by omega
  have l4 : (0 : Int) ≤ at_ := by omega
  have l5 : (at_ : Int) ≤ (rt : Int) - 0 := by omega
  have l6 : (rt : Int) - 0 ≤ cap := by omega
  have l7 : (at_ : Int) ≤ (at_ : Int) + 0 := by omega
  have l8 : (at_ : Int) + 0 ≤ n := by omega
  have l9 : (rt : Int) ≤ cap := by omega
  have l10 : (rt : Int) - 0 ≤ n := by omega
  have l11 : (rt : Int) - 0 ≤ rt := by omega
  have l12 : (0 : Int) ≤ (rt : Int) - 0 := by omega
  have l17 : (0 : Int) ≤ (rt : Int) := by omega
  have n2 : ¬ (cap = at_) := by omega
  have n3 : ¬ (n = at_) := by omega
  have c4 : IntKind.i64.wrap (at_ : Int) = (at_ : Int) := IntWalk.i64_in _ (by omega)
  have c5 : IntKind.i64.wrap (rt : Int) = (rt : Int) := IntWalk.i64_in _ (by omega)
  have l13 : (at_ : Int) ≤ rt := by omega
  have l14 : (at_ : Int) ≤ n := by omega
  have l15 : (at_ : Int) ≤ cap := by omega
  have l16 : (0 : Int) ≤ rt := by omega
  go_wp2_with fail
  refine (cells_c (some ⟨bf, of_, none⟩) n cap f wb dir ex _ (hr.below hbw) (by omega) (by omega)).mono ?_
  rintro e w4 ⟨b, rfl, hbb, hg, hob⟩
  have hbn : w.heap.size + 2 < b := by omega
  have hrx := (hr.below hbw).below hg
  replace hbw := hbw.trans (hg.mono hbw.size); replace hB1 := hB1.below hg hB1.lt; clear r0 r1 r2 r3 rf rl; obtain ⟨r0, r1, r2, r3, rf, rl⟩ := hB1.facts4; replace hB2 := hB2.below hg hB2.lt; clear p0 p1 p2 pf pl; obtain ⟨p0, p1, p2, pf, pl⟩ := hB2.facts3; replace hB3 := hB3.below hg hB3.lt; clear z0 z1 z2 z3 zf zl; obtain ⟨z0, z1, z2, z3, zf, zl⟩ := hB3.facts4; clear hg
  have hlb := hob.lt
  have hbb2 : w.heap.size ≤ b := by omega
  obtain ⟨_, _, e2, hbf', hcf'⟩ := hrx (by omega)
  obtain ⟨rfl, rfl⟩ : bf = _ ∧ of_ = _ := by simpa using e2
  clear e2
  have HCX := Lib.hid hcf'
  clear hcf' hrx
  go_wp2_with fail
  refine hr_start (S := (fun w' => w'.cell? ⟨w.heap.size, 0, none⟩ = some (.slice (some ⟨bf, of_, none⟩) n cap) ∧ w'.cell? ⟨w.heap.size, 1, none⟩ = some (.bool wb) ∧ w'.cell? ⟨w.heap.size, 2, none⟩ = some (.int .i64 dir) ∧ w'.cell? ⟨w.heap.size, 3, none⟩ = some (.bool ex))) (by kernel_rfl) rfl ?_ (fun hHeld => ?_)
  · ((try dsimp only); go_simp)
  refine hr_q 0 ?_
  simp only [st0, st1]
  refine hr_q 1 ?_
  simp only [st0, st1]
  refine hr_q 2 ?_
  simp only [st0, st1]
  refine hr_q 3 ?_
  simp only [st0, st1]
  refine hr_q 4 ?_
  simp only [st0, st1]
  refine hr_q 5 ?_
  simp only [st0, st1]
  refine hr_q 6 ?_
  simp only [st0, st1]
  refine hr_q 7 ?_
  simp only [st0, st1]
  refine hr_q 8 ?_
  simp only [st0, st1]
  refine hr_q 9 ?_
  simp only [st0, st1]
  refine hr_q 10 ?_
  simp only [st0, st1]
  refine hr_q 11 ?_
  simp only [st0, st1]
  refine hr_q 12 ?_
  simp only [st0, st1]
  refine hr_o 13 (fun K hK => ?_)
  (refine wp_copy_rows (.tmp 32) (.tmp 39) _ _ rfl 67 7 Tryz.underlying62 cellSize b (at_ * 7) (n * 7) 67 (valF f) _ _ _ _ (rt - at_) ⟨bf, of_ + at_ * 7, none⟩ (fun j => valF f (at_ * 7 + j)) (by rfl) (by rfl) hob (by show min _ _ = _; omega) (fun j hj => by have h := Rd.cellsOf HCX.out (at_ * 7 + j) (by omega); rw [addr_add] at h ⊢; rw [Nat.add_assoc]; exact h) (by omega) (fun j _ => val_one _ _) ?_; intro w6 hrow6 hg6 hz6; obtain ⟨y0, y1, y2, y3, _, _⟩ := (Blk.gb (show Blk w4.drew w.heap.size _ _ from hB1) hg6 (by intro e; injection e; omega)).facts4)
  refine hK.out _ _ ?_ (fun hHeld => ?_)
  · ((try dsimp only); go_simp)
  clear hK K
  simp only [st0, st1]
  refine hr_done (by kernel_rfl) ?_
  have hg : w4.grownBy w6 (some b) := gb_trans (gb_drew (World.grownBy.refl _ _)) hg6
  have ho6 : Own w6 b n (fun i => if at_ ≤ i ∧ i < at_ + (rt - at_) then f (at_ + (i - at_)) else f i) := Own.copied hrow6
  replace ho6 : Own w6 b n f := ho6.congr fun i _ => by grind
  clear hg6 hHeld y0 y1 y2 y3 hz6 hrow6 hob HCX
  have hlb6 := ho6.lt
  have hbw6 := below_gb hbw hg hbb2 hbw.size
  replace hB1 := hB1.gb hg (by intro e; injection e; omega); clear r0 r1 r2 r3 rf rl; obtain ⟨r0, r1, r2, r3, rf, rl⟩ := hB1.facts4; replace hB2 := hB2.gb hg (by intro e; injection e; omega); clear p0 p1 p2 pf pl; obtain ⟨p0, p1, p2, pf, pl⟩ := hB2.facts3; replace hB3 := hB3.gb hg (by intro e; injection e; omega); clear z0 z1 z2 z3 zf zl; obtain ⟨z0, z1, z2, z3, zf, zl⟩ := hB3.facts4
  clear hg
  go_wp2_with fail
  refine hr_start (S := (fun w' => w'.cell? ⟨w.heap.size + 1, 0, none⟩ = some (.int .i64 fg) ∧ w'.cell? ⟨w.heap.size + 1, 1, none⟩ = some (.int .i64 bg) ∧ w'.cell? ⟨w.heap.size + 1, 2, none⟩ = some (.int .i64 fl))) (by kernel_rfl) rfl ?_ (fun hHeld => ?_)
  · ((try dsimp only); go_simp)
  refine hr_q 0 ?_
  simp only [st0, st1]
  refine hr_q 1 ?_
  simp only [st0, st1]
  refine hr_q 2 ?_
  simp only [st0, st1]
  refine hr_q 3 ?_
  simp only [st0, st1]
  refine hr_q 4 ?_
  simp only [st0, st1]
  refine hr_q 5 ?_
  simp only [st0, st1]
  refine hr_q 6 ?_
  simp only [st0, st1]
  refine hr_o 7 (fun K hK => ?_)
  go_simp
  ((with_reducible refine (lay0_c _ _ fg bg fl _).mono ?_); rintro e w8 ⟨rfl, X8, d8, rfl⟩)
  (try go_wp2_with fail)
  refine hK.out _ _ ?_ (fun hHeld => ?_)
  · ((try dsimp only); go_simp)
  clear hK K
  simp only [st0, st1]
  refine hr_done (by kernel_rfl) ?_
  have ho8 : Own (w6.grow X8 d8) b n f := ho6.grow _ _
  have hbw8 : Below w.heap.size w (w6.grow X8 d8) := hbw6.grow hbw6.size _ _
  replace hB1 : Blk (w6.grow X8 d8) _ _ _ := hB1.grow _ _
  replace hB3 : Blk (w6.grow X8 d8) _ _ _ := hB3.grow _ _
  clear ho6 hHeld r0 r1 r2 r3 rf rl z0 z1 z2 z3 zf zl p0 p1 p2 pf pl hB2
  generalize w6.grow X8 d8 = w8 at *
  obtain ⟨r0, r1, r2, r3, rf, rl⟩ := hB1.facts4; obtain ⟨z0, z1, z2, z3, zf, zl⟩ := hB3.facts4
  go_wp2_with fail
  refine (mended_c b n n _ (some ⟨bf, of_, none⟩) n cap wb dir ex _ ho8 (by omega)).mono ?_
  rintro e w9 ⟨rfl, hg, ho9⟩
  have hbw9 := below_gb hbw8 hg hbb2 hbw8.size
  have hoF : Own w9 b n (f) := ho9.congr fun i hi => mend_none (fun j hj => lost_of_sane hs hj) hi
  clear ho9 ho8
  replace hB1 := hB1.gb hg (by intro e; injection e; omega); clear r0 r1 r2 r3 rf rl; obtain ⟨r0, r1, r2, r3, rf, rl⟩ := hB1.facts4; replace hB3 := hB3.gb hg (by intro e; injection e; omega); clear z0 z1 z2 z3 zf zl; obtain ⟨z0, z1, z2, z3, zf, zl⟩ := hB3.facts4
  go_wp2
  refine bodyPost_ret (v := _) (by simp [results, Tryz.results71, go_sem, *]; try exact rfl) rfl ⟨b, rfl, hbb2, by exact bcAll, by (exact ownAll)⟩

set_option maxRecDepth 100000 in
set_option maxHeartbeats 4000000 in
theorem delete_mid (A : Option Addr) (n cap : Nat) (f : Nat → Cl) (wb : Bool) (dir : Int) (ex : Bool) (at_ rt m : Nat) (fg bg fl : Int) (w : World) (hr : Rd w A n f) (hs : saneB n f dir = true) (hp : penB fg bg fl = true)
    (hat : at_ < rt) (hrt : rt ≤ n) (hcap : n ≤ cap) (hm : 1 ≤ m) (hlt : m < rt - at_) :
    Calls Tryz.prog 88 #[.agg #[.slice A n cap, .bool wb, .int .i64 dir, .bool ex], .int .i64 at_, .int .i64 m, .int .i64 rt, .agg #[.int .i64 fg, .int .i64 bg, .int .i64 fl]] w fun e w' => ∃ b, e = .returned (.agg #[.slice (some ⟨b, 0, none⟩) n n, .bool wb, .int .i64 dir, .bool ex]) ∧ w.heap.size ≤ b ∧ Below w.heap.size w w' ∧ Own w' b n (mend n (delF f at_ m rt (blank fg bg fl))) := by
  obtain ⟨hn1, hn2⟩ := sane_len hs
  have hmv : rmovesB n f dir at_ rt fg bg fl = true := by unfold rmovesB; simp [hs, hp]; omega
  obtain ⟨bf, of_, rfl, hbf, hcf⟩ := hr (by omega)
  clear hcf
  go_enter Tryz.func88, Tryz.ntmps88
  go_wp2_with fail
  generalize hw0 : ((w.alloc _).alloc _).alloc _ = w0
  have hbw : Below w.heap.size w w0 := by rw [← hw0]; exact bcAll
  have hB1 : Blk w0 w.heap.size 64 #[.slice (some ⟨bf, of_, none⟩) n cap, .bool wb, .int .i64 dir, .bool ex] := by rw [← hw0]; exact ((Blk.new _ _ _).alloc _).alloc _
  have hB2 : Blk w0 (w.heap.size + 1) 26 #[.int .i64 fg, .int .i64 bg, .int .i64 fl] := by rw [← hw0]; exact (Blk.new_at (by simp)).alloc _
  have hB3 : Blk w0 (w.heap.size + 2) 64 #[.slice none 0 0, .bool false, .int .i64 0, .bool false] := by rw [← hw0]; exact Blk.new_at (by simp)
  clear hw0
  obtain ⟨r0, r1, r2, r3, rf, rl⟩ := hB1.facts4; obtain ⟨p0, p1, p2, pf, pl⟩ := hB2.facts3; obtain ⟨z0, z1, z2, z3, zf, zl⟩ := hB3.facts4
  go_wp2_with fail
  refine (moves_c (some ⟨bf, of_, none⟩) n cap f wb dir ex at_ rt fg bg fl _ (hr.below hbw) (by omega)).mono ?_
  rintro e w1 ⟨rfl, hg⟩
  replace hg := hg.below
  replace hbw := hbw.trans (hg.mono hbw.size); replace hB1 := hB1.below hg hB1.lt; clear r0 r1 r2 r3 rf rl; obtain ⟨r0, r1, r2, r3, rf, rl⟩ := hB1.facts4; replace hB2 := hB2.below hg hB2.lt; clear p0 p1 p2 pf pl; obtain ⟨p0, p1, p2, pf, pl⟩ := hB2.facts3; replace hB3 := hB3.below hg hB3.lt; clear z0 z1 z2 z3 zf zl; obtain ⟨z0, z1, z2, z3, zf, zl⟩ := hB3.facts4; clear hg
  rw [hmv]
  clear hmv
  have c2 : IntKind.i64.wrap ((at_ : Int) + m) = (at_ : Int) + m := IntWalk.i64_in _ (by omega)
  have c3 : IntKind.i64.wrap ((rt : Int) - m) = (rt : Int) - m := IntWalk.i64_in _ (by omega)
  have d1 : ((at_ : Int) + m).toNat = at_ + m := by omega
  have d2 : ((rt : Int) - m).toNat = rt - m := by omega
  have l1 : (0 : Int) ≤ (at_ : Int) + m := by omega
  have l2 : (at_ : Int) + m ≤ rt := by omega
  have l3 : (rt : Int) ≤ n := by omega
  have l4 : (0 : Int) ≤ at_ := by omega
  have l5 : (at_ : Int) ≤ (rt : Int) - m := by omega
  have l6 : (rt : Int) - m ≤ cap := by omega
  have l7 : (at_ : Int) ≤ (at_ : Int) + m := by omega
  have l8 : (at_ : Int) + m ≤ n := by omega
  have l9 : (rt : Int) ≤ cap := by omega
  have l10 : (rt : Int) - m ≤ n := by omega
  have l11 : (rt : Int) - m ≤ rt := by omega
  have l12 : (0 : Int) ≤ (rt : Int) - m := by omega
  have l17 : (m : Int) ≤ (rt : Int) := by omega
  have n2 : ¬ (cap = at_) := by omega
  have n3 : ¬ (n = at_) := by omega
  have n1 : ¬ (n = at_ + m) := by omega
  have n4 : ¬ (cap = at_ + m) := by omega
  have n5 : ¬ (n = rt - m) := by omega
  go_wp2_with fail
  refine (cells_c (some ⟨bf, of_, none⟩) n cap f wb dir ex _ (hr.below hbw) (by omega) (by omega)).mono ?_
  rintro e w4 ⟨b, rfl, hbb, hg, hob⟩
  have hbn : w.heap.size + 2 < b := by omega
  have hrx := (hr.below hbw).below hg
  replace hbw := hbw.trans (hg.mono hbw.size); replace hB1 := hB1.below hg hB1.lt; clear r0 r1 r2 r3 rf rl; obtain ⟨r0, r1, r2, r3, rf, rl⟩ := hB1.facts4; replace hB2 := hB2.below hg hB2.lt; clear p0 p1 p2 pf pl; obtain ⟨p0, p1, p2, pf, pl⟩ := hB2.facts3; replace hB3 := hB3.below hg hB3.lt; clear z0 z1 z2 z3 zf zl; obtain ⟨z0, z1, z2, z3, zf, zl⟩ := hB3.facts4; clear hg
  have hlb := hob.lt
  have hbb2 : w.heap.size ≤ b := by omega
  obtain ⟨_, _, e2, hbf', hcf'⟩ := hrx (by omega)
  obtain ⟨rfl, rfl⟩ : bf = _ ∧ of_ = _ := by simpa using e2
  clear e2
  have HCX := Lib.hid hcf'
  clear hcf' hrx
  go_wp2_with fail
  refine hr_start (S := (fun w' => w'.cell? ⟨w.heap.size, 0, none⟩ = some (.slice (some ⟨bf, of_, none⟩) n cap) ∧ w'.cell? ⟨w.heap.size, 1, none⟩ = some (.bool wb) ∧ w'.cell? ⟨w.heap.size, 2, none⟩ = some (.int .i64 dir) ∧ w'.cell? ⟨w.heap.size, 3, none⟩ = some (.bool ex))) (by kernel_rfl) rfl ?_ (fun hHeld => ?_)
  · ((try dsimp only); go_simp)
  refine hr_q 0 ?_
  simp only [st0, st1]
  refine hr_q 1 ?_
  simp only [st0, st1]
  refine hr_q 2 ?_
  simp only [st0, st1]
  refine hr_q 3 ?_
  simp only [st0, st1]
  refine hr_q 4 ?_
  simp only [st0, st1]
  refine hr_q 5 ?_
  simp only [st0, st1]
  refine hr_q 6 ?_
  simp only [st0, st1]
  refine hr_q 7 ?_
  simp only [st0, st1]
  refine hr_q 8 ?_
  simp only [st0, st1]
  refine hr_q 9 ?_
  simp only [st0, st1]
  refine hr_q 10 ?_
  simp only [st0, st1]
  refine hr_q 11 ?_
  simp only [st0, st1]
  refine hr_q 12 ?_
  simp only [st0, st1]
  refine hr_o 13 (fun K hK => ?_)
  (refine wp_copy_rows (.tmp 32) (.tmp 39) _ _ rfl 67 7 Tryz.underlying62 cellSize b (at_ * 7) (n * 7) 67 (valF f) _ _ _ _ (rt - at_ - m) ⟨bf, of_ + (at_ + m) * 7, none⟩ (fun j => valF f ((at_ + m) * 7 + j)) (by rfl) (by rfl) hob (by show min _ _ = _; omega) (fun j hj => by have h := Rd.cellsOf HCX.out ((at_ + m) * 7 + j) (by omega); rw [addr_add] at h ⊢; rw [Nat.add_assoc]; exact h) (by omega) (fun j _ => val_one _ _) ?_; intro w6 hrow6 hg6 hz6; obtain ⟨y0, y1, y2, y3, _, _⟩ := (Blk.gb (show Blk w4.drew w.heap.size _ _ from hB1) hg6 (by intro e; injection e; omega)).facts4)
  refine hK.out _ _ ?_ (fun hHeld => ?_)
  · ((try dsimp only); go_simp)
  clear hK K
  simp only [st0, st1]
  refine hr_done (by kernel_rfl) ?_
  have hg : w4.grownBy w6 (some b) := gb_trans (gb_drew (World.grownBy.refl _ _)) hg6
  have ho6 : Own w6 b n (fun i => if at_ ≤ i ∧ i < at_ + (rt - at_ - m) then f ((at_ + m) + (i - at_)) else f i) := Own.copied hrow6
  clear hg6 hHeld y0 y1 y2 y3 hz6 hrow6 hob HCX
  have hlb6 := ho6.lt
  have hbw6 := below_gb hbw hg hbb2 hbw.size
  replace hB1 := hB1.gb hg (by intro e; injection e; omega); clear r0 r1 r2 r3 rf rl; obtain ⟨r0, r1, r2, r3, rf, rl⟩ := hB1.facts4; replace hB2 := hB2.gb hg (by intro e; injection e; omega); clear p0 p1 p2 pf pl; obtain ⟨p0, p1, p2, pf, pl⟩ := hB2.facts3; replace hB3 := hB3.gb hg (by intro e; injection e; omega); clear z0 z1 z2 z3 zf zl; obtain ⟨z0, z1, z2, z3, zf, zl⟩ := hB3.facts4
  clear hg
  go_wp2_with fail
  refine hr_start (S := (fun w' => w'.cell? ⟨w.heap.size + 1, 0, none⟩ = some (.int .i64 fg) ∧ w'.cell? ⟨w.heap.size + 1, 1, none⟩ = some (.int .i64 bg) ∧ w'.cell? ⟨w.heap.size + 1, 2, none⟩ = some (.int .i64 fl))) (by kernel_rfl) rfl ?_ (fun hHeld => ?_)
  · ((try dsimp only); go_simp)
  refine hr_q 0 ?_
  simp only [st0, st1]
  refine hr_q 1 ?_
  simp only [st0, st1]
  refine hr_q 2 ?_
  simp only [st0, st1]
  refine hr_q 3 ?_
  simp only [st0, st1]
  refine hr_q 4 ?_
  simp only [st0, st1]
  refine hr_q 5 ?_
  simp only [st0, st1]
  refine hr_q 6 ?_
  simp only [st0, st1]
  refine hr_o 7 (fun K hK => ?_)
  go_simp
  ((with_reducible refine (lay_c b ((rt - m) * 7) n (rt - m) _ _ _ fg bg fl _ (own_drew ho6) rfl (by omega) (by omega)).mono ?_); rintro e w8 ⟨rfl, hg8, ho8⟩; obtain ⟨y0, y1, y2, _, _⟩ := (Blk.gb (show Blk w6.drew (w.heap.size + 1) _ _ from hB2) hg8 (by intro e; injection e; omega)).facts3)
  (try go_wp2_with fail)
  refine hK.out _ _ ?_ (fun hHeld => ?_)
  · ((try dsimp only); go_simp)
  clear hK K
  simp only [st0, st1]
  refine hr_done (by kernel_rfl) ?_
  have hg : w6.grownBy w8 (some b) := gb_trans (gb_drew (World.grownBy.refl _ _)) hg8
  clear hg8 hHeld y0 y1 y2 ho6
  have hbw8 := below_gb hbw6 hg hbb2 hbw6.size
  replace hB1 := hB1.gb hg (by intro e; injection e; omega); clear r0 r1 r2 r3 rf rl; obtain ⟨r0, r1, r2, r3, rf, rl⟩ := hB1.facts4; replace hB3 := hB3.gb hg (by intro e; injection e; omega); clear z0 z1 z2 z3 zf zl; obtain ⟨z0, z1, z2, z3, zf, zl⟩ := hB3.facts4
  clear p0 p1 p2 pf pl hB2 hg
  go_wp2_with fail
  refine (mended_c b n n _ (some ⟨bf, of_, none⟩) n cap wb dir ex _ ho8 (by omega)).mono ?_
  rintro e w9 ⟨rfl, hg, ho9⟩
  have hbw9 := below_gb hbw8 hg hbb2 hbw8.size
  have hoF : Own w9 b n (mend n (delF f at_ m rt (blank fg bg fl))) := ho9.congr fun i hi => mend_congr (fun j _ => by unfold laid delF; grind) hi
  clear ho9 ho8
  replace hB1 := hB1.gb hg (by intro e; injection e; omega); clear r0 r1 r2 r3 rf rl; obtain ⟨r0, r1, r2, r3, rf, rl⟩ := hB1.facts4; replace hB3 := hB3.gb hg (by intro e; injection e; omega); clear z0 z1 z2 z3 zf zl; obtain ⟨z0, z1, z2, z3, zf, zl⟩ := hB3.facts4
  go_wp2
  refine bodyPost_ret (v := _) (by simp [results, Tryz.results88, go_sem, *]; try exact rfl) rfl ⟨b, rfl, hbb2, by exact bcAll, by (exact ownAll)⟩

set_option maxRecDepth 100000 in
set_option maxHeartbeats 4000000 in
theorem delete_all (A : Option Addr) (n cap : Nat) (f : Nat → Cl) (wb : Bool) (dir : Int) (ex : Bool) (at_ rt m : Nat) (M fg bg fl : Int) (w : World) (hr : Rd w A n f) (hs : saneB n f dir = true) (hp : penB fg bg fl = true)
    (hat : at_ < rt) (hrt : rt ≤ n) (hcap : n ≤ cap) (hm : (rt : Int) - at_ = (m : Int)) (hM : (m : Int) < M) :
    Calls Tryz.prog 88 #[.agg #[.slice A n cap, .bool wb, .int .i64 dir, .bool ex], .int .i64 at_, .int .i64 M, .int .i64 rt, .agg #[.int .i64 fg, .int .i64 bg, .int .i64 fl]] w fun e w' => ∃ b, e = .returned (.agg #[.slice (some ⟨b, 0, none⟩) n n, .bool wb, .int .i64 dir, .bool ex]) ∧ w.heap.size ≤ b ∧ Below w.heap.size w w' ∧ Own w' b n (mend n (delF f at_ m rt (blank fg bg fl))) := by
  obtain ⟨hn1, hn2⟩ := sane_len hs
  have hMm : (rt : Int) - at_ < M := by omega
  have hmv : rmovesB n f dir at_ rt fg bg fl = true := by unfold rmovesB; simp [hs, hp]; omega
  obtain ⟨bf, of_, rfl, hbf, hcf⟩ := hr (by omega)
  clear hcf
  go_enter Tryz.func88, Tryz.ntmps88
  go_wp2_with fail
  generalize hw0 : ((w.alloc _).alloc _).alloc _ = w0
  have hbw : Below w.heap.size w w0 := by rw [← hw0]; exact bcAll
  have hB1 : Blk w0 w.heap.size 64 #[.slice (some ⟨bf, of_, none⟩) n cap, .bool wb, .int .i64 dir, .bool ex] := by rw [← hw0]; exact ((Blk.new _ _ _).alloc _).alloc _
  have hB2 : Blk w0 (w.heap.size + 1) 26 #[.int .i64 fg, .int .i64 bg, .int .i64 fl] := by rw [← hw0]; exact (Blk.new_at (by simp)).alloc _
  have hB3 : Blk w0 (w.heap.size + 2) 64 #[.slice none 0 0, .bool false, .int .i64 0, .bool false] := by rw [← hw0]; exact Blk.new_at (by simp)
  clear hw0
  obtain ⟨r0, r1, r2, r3, rf, rl⟩ := hB1.facts4; obtain ⟨p0, p1, p2, pf, pl⟩ := hB2.facts3; obtain ⟨z0, z1, z2, z3, zf, zl⟩ := hB3.facts4
  go_wp2_with fail
  refine (moves_c (some ⟨bf, of_, none⟩) n cap f wb dir ex at_ rt fg bg fl _ (hr.below hbw) (by omega)).mono ?_
  rintro e w1 ⟨rfl, hg⟩
  replace hg := hg.below
  replace hbw := hbw.trans (hg.mono hbw.size); replace hB1 := hB1.below hg hB1.lt; clear r0 r1 r2 r3 rf rl; obtain ⟨r0, r1, r2, r3, rf, rl⟩ := hB1.facts4; replace hB2 := hB2.below hg hB2.lt; clear p0 p1 p2 pf pl; obtain ⟨p0, p1, p2, pf, pl⟩ := hB2.facts3; replace hB3 := hB3.below hg hB3.lt; clear z0 z1 z2 z3 zf zl; obtain ⟨z0, z1, z2, z3, zf, zl⟩ := hB3.facts4; clear hg
  rw [hmv]
  clear hmv
  have c2 : IntKind.i64.wrap ((at_ : Int) + m) = (at_ : Int) + m := IntWalk.i64_in _ (by omega)
  have c3 : IntKind.i64.wrap ((rt : Int) - m) = (rt : Int) - m := IntWalk.i64_in _ (by omega)
  have d1 : ((at_ : Int) + m).toNat = at_ + m := by omega
  have d2 : ((rt : Int) - m).toNat = rt - m := by omega
  have l1 : (0 : Int) ≤ (at_ : Int) + m := by omega
  have l2 : (at_ : Int) + m ≤ rt := by omega
  have l3 : (rt : Int) ≤ n := by omega
  have l4 : (0 : Int) ≤ at_ := by omega
  have l5 : (at_ : Int) ≤ (rt : Int) - m := by omega
  have l6 : (rt : Int) - m ≤ cap := by omega
  have l7 : (at_ : Int) ≤ (at_ : Int) + m := by omega
  have l8 : (at_ : Int) + m ≤ n := by omega
  have l9 : (rt : Int) ≤ cap := by omega
  have l10 : (rt : Int) - m ≤ n := by omega
  have l11 : (rt : Int) - m ≤ rt := by omega
  have l12 : (0 : Int) ≤ (rt : Int) - m := by omega
  have l17 : (m : Int) ≤ (rt : Int) := by omega
  have n2 : ¬ (cap = at_) := by omega
  have n3 : ¬ (n = at_) := by omega
  have n5 : ¬ (n = rt - m) := by omega
  go_wp2_with fail
  refine (cells_c (some ⟨bf, of_, none⟩) n cap f wb dir ex _ (hr.below hbw) (by omega) (by omega)).mono ?_
  rintro e w4 ⟨b, rfl, hbb, hg, hob⟩
  have hbn : w.heap.size + 2 < b := by omega
  have hrx := (hr.below hbw).below hg
  replace hbw := hbw.trans (hg.mono hbw.size); replace hB1 := hB1.below hg hB1.lt; clear r0 r1 r2 r3 rf rl; obtain ⟨r0, r1, r2, r3, rf, rl⟩ := hB1.facts4; replace hB2 := hB2.below hg hB2.lt; clear p0 p1 p2 pf pl; obtain ⟨p0, p1, p2, pf, pl⟩ := hB2.facts3; replace hB3 := hB3.below hg hB3.lt; clear z0 z1 z2 z3 zf zl; obtain ⟨z0, z1, z2, z3, zf, zl⟩ := hB3.facts4; clear hg
  have hlb := hob.lt
  have hbb2 : w.heap.size ≤ b := by omega
  obtain ⟨_, _, e2, hbf', hcf'⟩ := hrx (by omega)
  obtain ⟨rfl, rfl⟩ : bf = _ ∧ of_ = _ := by simpa using e2
  clear e2
  have HCX := Lib.hid hcf'
  clear hcf' hrx
  go_wp2_with fail
  refine hr_start (S := (fun w' => w'.cell? ⟨w.heap.size, 0, none⟩ = some (.slice (some ⟨bf, of_, none⟩) n cap) ∧ w'.cell? ⟨w.heap.size, 1, none⟩ = some (.bool wb) ∧ w'.cell? ⟨w.heap.size, 2, none⟩ = some (.int .i64 dir) ∧ w'.cell? ⟨w.heap.size, 3, none⟩ = some (.bool ex))) (by kernel_rfl) rfl ?_ (fun hHeld => ?_)
  · ((try dsimp only); go_simp)
  refine hr_q 0 ?_
  simp only [st0, st1]
  refine hr_q 1 ?_
  simp only [st0, st1]
  refine hr_q 2 ?_
  simp only [st0, st1]
  refine hr_q 3 ?_
  simp only [st0, st1]
  refine hr_q 4 ?_
  simp only [st0, st1]
  refine hr_q 5 ?_
  simp only [st0, st1]
  refine hr_q 6 ?_
  simp only [st0, st1]
  refine hr_q 7 ?_
  simp only [st0, st1]
  refine hr_q 8 ?_
  simp only [st0, st1]
  refine hr_q 9 ?_
  simp only [st0, st1]
  refine hr_q 10 ?_
  simp only [st0, st1]
  refine hr_q 11 ?_
  simp only [st0, st1]
  refine hr_q 12 ?_
  simp only [st0, st1]
  generalize (@ite (Option Addr) (cap = at_ + m) _ _ _) = zz
  refine hr_o 13 (fun K hK => ?_)
  (refine wp_copy_rows0 (.tmp 32) (.tmp 39) _ _ rfl 67 7 Tryz.underlying62 cellSize _ _ _ _ _ _ (by rfl) (by rfl) (by show min _ _ = _; omega) ?_)
  refine hK.out _ _ ?_ (fun hHeld => ?_)
  · ((try dsimp only); go_simp)
  clear hK K
  simp only [st0, st1]
  refine hr_done (by kernel_rfl) ?_
  have hg : w4.grownBy w4.drew (some b) := gb_drew (World.grownBy.refl _ _)
  have ho6 : Own w4.drew b n f := own_drew hob
  clear hHeld hob HCX
  generalize w4.drew = w6 at *
  have hlb6 := ho6.lt
  have hbw6 := below_gb hbw hg hbb2 hbw.size
  replace hB1 := hB1.gb hg (by intro e; injection e; omega); clear r0 r1 r2 r3 rf rl; obtain ⟨r0, r1, r2, r3, rf, rl⟩ := hB1.facts4; replace hB2 := hB2.gb hg (by intro e; injection e; omega); clear p0 p1 p2 pf pl; obtain ⟨p0, p1, p2, pf, pl⟩ := hB2.facts3; replace hB3 := hB3.gb hg (by intro e; injection e; omega); clear z0 z1 z2 z3 zf zl; obtain ⟨z0, z1, z2, z3, zf, zl⟩ := hB3.facts4
  clear hg
  go_wp2_with fail
  refine hr_start (S := (fun w' => w'.cell? ⟨w.heap.size + 1, 0, none⟩ = some (.int .i64 fg) ∧ w'.cell? ⟨w.heap.size + 1, 1, none⟩ = some (.int .i64 bg) ∧ w'.cell? ⟨w.heap.size + 1, 2, none⟩ = some (.int .i64 fl))) (by kernel_rfl) rfl ?_ (fun hHeld => ?_)
  · ((try dsimp only); go_simp)
  refine hr_q 0 ?_
  simp only [st0, st1]
  refine hr_q 1 ?_
  simp only [st0, st1]
  refine hr_q 2 ?_
  simp only [st0, st1]
  refine hr_q 3 ?_
  simp only [st0, st1]
  refine hr_q 4 ?_
  simp only [st0, st1]
  refine hr_q 5 ?_
  simp only [st0, st1]
  refine hr_q 6 ?_
  simp only [st0, st1]
  refine hr_o 7 (fun K hK => ?_)
  go_simp
  ((with_reducible refine (lay_c b ((rt - m) * 7) n (rt - m) _ _ _ fg bg fl _ (own_drew ho6) rfl (by omega) (by omega)).mono ?_); rintro e w8 ⟨rfl, hg8, ho8⟩; obtain ⟨y0, y1, y2, _, _⟩ := (Blk.gb (show Blk w6.drew (w.heap.size + 1) _ _ from hB2) hg8 (by intro e; injection e; omega)).facts3)
  (try go_wp2_with fail)
  refine hK.out _ _ ?_ (fun hHeld => ?_)
  · ((try dsimp only); go_simp)
  clear hK K
  simp only [st0, st1]
  refine hr_done (by kernel_rfl) ?_
  have hg : w6.grownBy w8 (some b) := gb_trans (gb_drew (World.grownBy.refl _ _)) hg8
  clear hg8 hHeld y0 y1 y2 ho6
  have hbw8 := below_gb hbw6 hg hbb2 hbw6.size
  replace hB1 := hB1.gb hg (by intro e; injection e; omega); clear r0 r1 r2 r3 rf rl; obtain ⟨r0, r1, r2, r3, rf, rl⟩ := hB1.facts4; replace hB3 := hB3.gb hg (by intro e; injection e; omega); clear z0 z1 z2 z3 zf zl; obtain ⟨z0, z1, z2, z3, zf, zl⟩ := hB3.facts4
  clear p0 p1 p2 pf pl hB2 hg
  go_wp2_with fail
  refine (mended_c b n n _ (some ⟨bf, of_, none⟩) n cap wb dir ex _ ho8 (by omega)).mono ?_
  rintro e w9 ⟨rfl, hg, ho9⟩
  have hbw9 := below_gb hbw8 hg hbb2 hbw8.size
  have hoF : Own w9 b n (mend n (delF f at_ m rt (blank fg bg fl))) := ho9.congr fun i hi => mend_congr (fun j _ => by unfold laid delF; grind) hi
  clear ho9 ho8
  replace hB1 := hB1.gb hg (by intro e; injection e; omega); clear r0 r1 r2 r3 rf rl; obtain ⟨r0, r1, r2, r3, rf, rl⟩ := hB1.facts4; replace hB3 := hB3.gb hg (by intro e; injection e; omega); clear z0 z1 z2 z3 zf zl; obtain ⟨z0, z1, z2, z3, zf, zl⟩ := hB3.facts4
  go_wp2
  refine bodyPost_ret (v := _) (by simp [results, Tryz.results88, go_sem, *]; try exact rfl) rfl ⟨b, rfl, hbb2, by exact bcAll, by (exact ownAll)⟩

set_option maxRecDepth 100000 in
set_option maxHeartbeats 4000000 in
theorem delete_eq (A : Option Addr) (n cap : Nat) (f : Nat → Cl) (wb : Bool) (dir : Int) (ex : Bool) (at_ rt m : Nat) (fg bg fl : Int) (w : World) (hr : Rd w A n f) (hs : saneB n f dir = true) (hp : penB fg bg fl = true)
    (hat : at_ < rt) (hrt : rt ≤ n) (hcap : n ≤ cap) (hm : (rt : Int) - at_ = (m : Int)) :
    Calls Tryz.prog 88 #[.agg #[.slice A n cap, .bool wb, .int .i64 dir, .bool ex], .int .i64 at_, .int .i64 m, .int .i64 rt, .agg #[.int .i64 fg, .int .i64 bg, .int .i64 fl]] w fun e w' => ∃ b, e = .returned (.agg #[.slice (some ⟨b, 0, none⟩) n n, .bool wb, .int .i64 dir, .bool ex]) ∧ w.heap.size ≤ b ∧ Below w.heap.size w w' ∧ Own w' b n (mend n (delF f at_ m rt (blank fg bg fl))) := by
  obtain ⟨hn1, hn2⟩ := sane_len hs
  have hmv : rmovesB n f dir at_ rt fg bg fl = true := by unfold rmovesB; simp [hs, hp]; omega
  obtain ⟨bf, of_, rfl, hbf, hcf⟩ := hr (by omega)
  clear hcf
  go_enter Tryz.func88, Tryz.ntmps88
  go_wp2_with fail
  generalize hw0 : ((w.alloc _).alloc _).alloc _ = w0
  have hbw : Below w.heap.size w w0 := by rw [← hw0]; exact bcAll
  have hB1 : Blk w0 w.heap.size 64 #[.slice (some ⟨bf, of_, none⟩) n cap, .bool wb, .int .i64 dir, .bool ex] := by rw [← hw0]; exact ((Blk.new _ _ _).alloc _).alloc _
  have hB2 : Blk w0 (w.heap.size + 1) 26 #[.int .i64 fg, .int .i64 bg, .int .i64 fl] := by rw [← hw0]; exact (Blk.new_at (by simp)).alloc _
  have hB3 : Blk w0 (w.heap.size + 2) 64 #[.slice none 0 0, .bool false, .int .i64 0, .bool false] := by rw [← hw0]; exact Blk.new_at (by simp)
  clear hw0
  obtain ⟨r0, r1, r2, r3, rf, rl⟩ := hB1.facts4; obtain ⟨p0, p1, p2, pf, pl⟩ := hB2.facts3; obtain ⟨z0, z1, z2, z3, zf, zl⟩ := hB3.facts4
  go_wp2_with fail
  refine (moves_c (some ⟨bf, of_, none⟩) n cap f wb dir ex at_ rt fg bg fl _ (hr.below hbw) (by omega)).mono ?_
  rintro e w1 ⟨rfl, hg⟩
  replace hg := hg.below
  replace hbw := hbw.trans (hg.mono hbw.size); replace hB1 := hB1.below hg hB1.lt; clear r0 r1 r2 r3 rf rl; obtain ⟨r0, r1, r2, r3, rf, rl⟩ := hB1.facts4; replace hB2 := hB2.below hg hB2.lt; clear p0 p1 p2 pf pl; obtain ⟨p0, p1, p2, pf, pl⟩ := hB2.facts3; replace hB3 := hB3.below hg hB3.lt; clear z0 z1 z2 z3 zf zl; obtain ⟨z0, z1, z2, z3, zf, zl⟩ := hB3.facts4; clear hg
  rw [hmv]
  clear hmv
  have c2 : IntKind.i64.wrap ((at_ : Int) + m) = (at_ : Int) + m := IntWalk.i64_in _ (by omega)
  have c3 : IntKind.i64.wrap ((rt : Int) - m) = (rt : Int) - m := IntWalk.i64_in _ (by omega)
  have d1 : ((at_ : Int) + m).toNat = at_ + m := by omega
  have d2 : ((rt : Int) - m).toNat = rt - m := by omega
  have l1 : (0 : Int) ≤ (at_ : Int) + m := by omega
  have l2 : (at_ : Int) + m ≤ rt := by omega
  have l3 : (rt : Int) ≤ n := by omega
  have l4 : (0 : Int) ≤ at_ := by omega
  have l5 : (at_ : Int) ≤ (rt : Int) - m := by omega
  have l6 : (rt : Int) - m ≤ cap := by omega
  have l7 : (at_ : Int) ≤ (at_ : Int) + m := by omega
  have l8 : (at_ : Int) + m ≤ n := by omega
  have l9 : (rt : Int) ≤ cap := by omega
  have l10 : (rt : Int) - m ≤ n := by omega
  have l11 : (rt : Int) - m ≤ rt := by omega
  have l12 : (0 : Int) ≤ (rt : Int) - m := by omega
  have l17 : (m : Int) ≤ (rt : Int) := by omega
  have n2 : ¬ (cap = at_) := by omega
  have n3 : ¬ (n = at_) := by omega
  have n5 : ¬ (n = rt - m) := by omega
  go_wp2_with fail
  refine (cells_c (some ⟨bf, of_, none⟩) n cap f wb dir ex _ (hr.below hbw) (by omega) (by omega)).mono ?_
  rintro e w4 ⟨b, rfl, hbb, hg, hob⟩
  have hbn : w.heap.size + 2 < b := by omega
  have hrx := (hr.below hbw).below hg
  replace hbw := hbw.trans (hg.mono hbw.size); replace hB1 := hB1.below hg hB1.lt; clear r0 r1 r2 r3 rf rl; obtain ⟨r0, r1, r2, r3, rf, rl⟩ := hB1.facts4; replace hB2 := hB2.below hg hB2.lt; clear p0 p1 p2 pf pl; obtain ⟨p0, p1, p2, pf, pl⟩ := hB2.facts3; replace hB3 := hB3.below hg hB3.lt; clear z0 z1 z2 z3 zf zl; obtain ⟨z0, z1, z2, z3, zf, zl⟩ := hB3.facts4; clear hg
  have hlb := hob.lt
  have hbb2 : w.heap.size ≤ b := by omega
  obtain ⟨_, _, e2, hbf', hcf'⟩ := hrx (by omega)
  obtain ⟨rfl, rfl⟩ : bf = _ ∧ of_ = _ := by simpa using e2
  clear e2
  have HCX := Lib.hid hcf'
  clear hcf' hrx
  go_wp2_with fail
  refine hr_start (S := (fun w' => w'.cell? ⟨w.heap.size, 0, none⟩ = some (.slice (some ⟨bf, of_, none⟩) n cap) ∧ w'.cell? ⟨w.heap.size, 1, none⟩ = some (.bool wb) ∧ w'.cell? ⟨w.heap.size, 2, none⟩ = some (.int .i64 dir) ∧ w'.cell? ⟨w.heap.size, 3, none⟩ = some (.bool ex))) (by kernel_rfl) rfl ?_ (fun hHeld => ?_)
  · ((try dsimp only); go_simp)
  refine hr_q 0 ?_
  simp only [st0, st1]
  refine hr_q 1 ?_
  simp only [st0, st1]
  refine hr_q 2 ?_
  simp only [st0, st1]
  refine hr_q 3 ?_
  simp only [st0, st1]
  refine hr_q 4 ?_
  simp only [st0, st1]
  refine hr_q 5 ?_
  simp only [st0, st1]
  refine hr_q 6 ?_
  simp only [st0, st1]
  refine hr_q 7 ?_
  simp only [st0, st1]
  refine hr_q 8 ?_
  simp only [st0, st1]
  refine hr_q 9 ?_
  simp only [st0, st1]
  refine hr_q 10 ?_
  simp only [st0, st1]
  refine hr_q 11 ?_
  simp only [st0, st1]
  refine hr_q 12 ?_
  simp only [st0, st1]
  generalize (@ite (Option Addr) (cap = at_ + m) _ _ _) = zz
  refine hr_o 13 (fun K hK => ?_)
  (refine wp_copy_rows0 (.tmp 32) (.tmp 39) _ _ rfl 67 7 Tryz.underlying62 cellSize _ _ _ _ _ _ (by rfl) (by rfl) (by show min _ _ = _; omega) ?_)
  refine hK.out _ _ ?_ (fun hHeld => ?_)
  · ((try dsimp only); go_simp)
  clear hK K
  simp only [st0, st1]
  refine hr_done (by kernel_rfl) ?_
  have hg : w4.grownBy w4.drew (some b) := gb_drew (World.grownBy.refl _ _)
  have ho6 : Own w4.drew b n f := own_drew hob
  clear hHeld hob HCX
  generalize w4.drew = w6 at *
  have hlb6 := ho6.lt
  have hbw6 := below_gb hbw hg hbb2 hbw.size
  replace hB1 := hB1.gb hg (by intro e; injection e; omega); clear r0 r1 r2 r3 rf rl; obtain ⟨r0, r1, r2, r3, rf, rl⟩ := hB1.facts4; replace hB2 := hB2.gb hg (by intro e; injection e; omega); clear p0 p1 p2 pf pl; obtain ⟨p0, p1, p2, pf, pl⟩ := hB2.facts3; replace hB3 := hB3.gb hg (by intro e; injection e; omega); clear z0 z1 z2 z3 zf zl; obtain ⟨z0, z1, z2, z3, zf, zl⟩ := hB3.facts4
  clear hg
  go_wp2_with fail
  refine hr_start (S := (fun w' => w'.cell? ⟨w.heap.size + 1, 0, none⟩ = some (.int .i64 fg) ∧ w'.cell? ⟨w.heap.size + 1, 1, none⟩ = some (.int .i64 bg) ∧ w'.cell? ⟨w.heap.size + 1, 2, none⟩ = some (.int .i64 fl))) (by kernel_rfl) rfl ?_ (fun hHeld => ?_)
  · ((try dsimp only); go_simp)
  refine hr_q 0 ?_
  simp only [st0, st1]
  refine hr_q 1 ?_
  simp only [st0, st1]
  refine hr_q 2 ?_
  simp only [st0, st1]
  refine hr_q 3 ?_
  simp only [st0, st1]
  refine hr_q 4 ?_
  simp only [st0, st1]
  refine hr_q 5 ?_
  simp only [st0, st1]
  refine hr_q 6 ?_
  simp only [st0, st1]
  refine hr_o 7 (fun K hK => ?_)
  go_simp
  ((with_reducible refine (lay_c b ((rt - m) * 7) n (rt - m) _ _ _ fg bg fl _ (own_drew ho6) rfl (by omega) (by omega)).mono ?_); rintro e w8 ⟨rfl, hg8, ho8⟩; obtain ⟨y0, y1, y2, _, _⟩ := (Blk.gb (show Blk w6.drew (w.heap.size + 1) _ _ from hB2) hg8 (by intro e; injection e; omega)).facts3)
  (try go_wp2_with fail)
  refine hK.out _ _ ?_ (fun hHeld => ?_)
  · ((try dsimp only); go_simp)
  clear hK K
  simp only [st0, st1]
  refine hr_done (by kernel_rfl) ?_
  have hg : w6.grownBy w8 (some b) := gb_trans (gb_drew (World.grownBy.refl _ _)) hg8
  clear hg8 hHeld y0 y1 y2 ho6
  have hbw8 := below_gb hbw6 hg hbb2 hbw6.size
  replace hB1 := hB1.gb hg (by intro e; injection e; omega); clear r0 r1 r2 r3 rf rl; obtain ⟨r0, r1, r2, r3, rf, rl⟩ := hB1.facts4; replace hB3 := hB3.gb hg (by intro e; injection e; omega); clear z0 z1 z2 z3 zf zl; obtain ⟨z0, z1, z2, z3, zf, zl⟩ := hB3.facts4
  clear p0 p1 p2 pf pl hB2 hg
  go_wp2_with fail
  refine (mended_c b n n _ (some ⟨bf, of_, none⟩) n cap wb dir ex _ ho8 (by omega)).mono ?_
  rintro e w9 ⟨rfl, hg, ho9⟩
  have hbw9 := below_gb hbw8 hg hbb2 hbw8.size
  have hoF : Own w9 b n (mend n (delF f at_ m rt (blank fg bg fl))) := ho9.congr fun i hi => mend_congr (fun j _ => by unfold laid delF; grind) hi
  clear ho9 ho8
  replace hB1 := hB1.gb hg (by intro e; injection e; omega); clear r0 r1 r2 r3 rf rl; obtain ⟨r0, r1, r2, r3, rf, rl⟩ := hB1.facts4; replace hB3 := hB3.gb hg (by intro e; injection e; omega); clear z0 z1 z2 z3 zf zl; obtain ⟨z0, z1, z2, z3, zf, zl⟩ := hB3.facts4
  go_wp2
  refine bodyPost_ret (v := _) (by simp [results, Tryz.results88, go_sem, *]; try exact rfl) rfl ⟨b, rfl, hbb2, by exact bcAll, by (exact ownAll)⟩

set_option maxRecDepth 100000 in
set_option maxHeartbeats 4000000 in
theorem delete_zero (A : Option Addr) (n cap : Nat) (f : Nat → Cl) (wb : Bool) (dir : Int) (ex : Bool) (at_ rt : Nat) (M fg bg fl : Int) (w : World) (hr : Rd w A n f) (hs : saneB n f dir = true) (hp : penB fg bg fl = true)
    (hat : at_ < rt) (hrt : rt ≤ n) (hcap : n ≤ cap) (hM : M ≤ 0) :
    Calls Tryz.prog 88 #[.agg #[.slice A n cap, .bool wb, .int .i64 dir, .bool ex], .int .i64 at_, .int .i64 M, .int .i64 rt, .agg #[.int .i64 fg, .int .i64 bg, .int .i64 fl]] w fun e w' => ∃ b, e = .returned (.agg #[.slice (some ⟨b, 0, none⟩) n n, .bool wb, .int .i64 dir, .bool ex]) ∧ w.heap.size ≤ b ∧ Below w.heap.size w w' ∧ Own w' b n (f) := by
  obtain ⟨hn1, hn2⟩ := sane_len hs
  have hM1 : ¬ ((rt : Int) - at_ < M) := by omega
  have hmv : rmovesB n f dir at_ rt fg bg fl = true := by unfold rmovesB; simp [hs, hp]; omega
  obtain ⟨bf, of_, rfl, hbf, hcf⟩ := hr (by omega)
  clear hcf
  go_enter Tryz.func88, Tryz.ntmps88
  go_wp2_with fail
  generalize hw0 : ((w.alloc _).alloc _).alloc _ = w0
  have hbw : Below w.heap.size w w0 := by rw [← hw0]; exact bcAll
  have hB1 : Blk w0 w.heap.size 64 #[.slice (some ⟨bf, of_, none⟩) n cap, .bool wb, .int .i64 dir, .bool ex] := by rw [← hw0]; exact ((Blk.new _ _ _).alloc _).alloc _
  have hB2 : Blk w0 (w.heap.size + 1) 26 #[.int .i64 fg, .int .i64 bg, .int .i64 fl] := by rw [← hw0]; exact (Blk.new_at (by simp)).alloc _
  have hB3 : Blk w0 (w.heap.size + 2) 64 #[.slice none 0 0, .bool false, .int .i64 0, .bool false] := by rw [← hw0]; exact Blk.new_at (by simp)
  clear hw0
  obtain ⟨r0, r1, r2, r3, rf, rl⟩ := hB1.facts4; obtain ⟨p0, p1, p2, pf, pl⟩ := hB2.facts3; obtain ⟨z0, z1, z2, z3, zf, zl⟩ := hB3.facts4
  go_wp2_with fail
  refine (moves_c (some ⟨bf, of_, none⟩) n cap f wb dir ex at_ rt fg bg fl _ (hr.below hbw) (by omega)).mono ?_
  rintro e w1 ⟨rfl, hg⟩
  replace hg := hg.below
  replace hbw := hbw.trans (hg.mono hbw.size); replace hB1 := hB1.below hg hB1.lt; clear r0 r1 r2 r3 rf rl; obtain ⟨r0, r1, r2, r3, rf, rl⟩ := hB1.facts4; replace hB2 := hB2.below hg hB2.lt; clear p0 p1 p2 pf pl; obtain ⟨p0, p1, p2, pf, pl⟩ := hB2.facts3; replace hB3 := hB3.below hg hB3.lt; clear z0 z1 z2 z3 zf zl; obtain ⟨z0, z1, z2, z3, zf, zl⟩ := hB3.facts4; clear hg
  rw [hmv]
  clear hmv
  have c2 : IntKind.i64.wrap ((at_ : Int) + 0) = (at_ : Int) + 0 := IntWalk.i64_in _ (by omega)
  have c3 : IntKind.i64.wrap ((rt : Int) - 0) = (rt : Int) - 0 := IntWalk.i64_in _ (by omega)
  have d1 : ((at_ : Int) + 0).toNat = at_ + 0 := by omega
  have d2 : ((rt : Int) - 0).toNat = rt - 0 := by omega
  have l1 : (0 : Int) ≤ (at_ : Int) + 0 := by omega
  have l2 : (at_ : Int) + 0 ≤ rt := by omega
  have l3 : (rt : Int) ≤ n := by omega
  have l4 : (0 : Int) ≤ at_ := by omega
  have l5 : (at_ : Int) ≤ (rt : Int) - 0 := by omega
  have l6 : (rt : Int) - 0 ≤ cap := by omega
  have l7 : (at_ : Int) ≤ (at_ : Int) + 0 := by omega
  have l8 : (at_ : Int) + 0 ≤ n := by omega
  have l9 : (rt : Int) ≤ cap := by omega
  have l10 : (rt : Int) - 0 ≤ n := by omega
  have l11 : (rt : Int) - 0 ≤ rt := by omega
  have l12 : (0 : Int) ≤ (rt : Int) - 0 := by omega
  have l17 : (0 : Int) ≤ (rt : Int) := by omega
  have n2 : ¬ (cap = at_) := by omega
  have n3 : ¬ (n = at_) := by omega
  have c4 : IntKind.i64.wrap (at_ : Int) = (at_ : Int) := IntWalk.i64_in _ (by omega)
  have c5 : IntKind.i64.wrap (rt : Int) = (rt : Int) := IntWalk.i64_in _ (by omega)
  have l13 : (at_ : Int) ≤ rt := by omega
  have l14 : (at_ : Int) ≤ n := by omega
  have l15 : (at_ : Int) ≤ cap := by omega
  have l16 : (0 : Int) ≤ rt := by omega
  go_wp2_with fail
  refine (cells_c (some ⟨bf, of_, none⟩) n cap f wb dir ex _ (hr.below hbw) (by omega) (by omega)).mono ?_
  rintro e w4 ⟨b, rfl, hbb, hg, hob⟩
  have hbn : w.heap.size + 2 < b := by omega
  have hrx := (hr.below hbw).below hg
  replace hbw := hbw.trans (hg.mono hbw.size); replace hB1 := hB1.below hg hB1.lt; clear r0 r1 r2 r3 rf rl; obtain ⟨r0, r1, r2, r3, rf, rl⟩ := hB1.facts4; replace hB2 := hB2.below hg hB2.lt; clear p0 p1 p2 pf pl; obtain ⟨p0, p1, p2, pf, pl⟩ := hB2.facts3; replace hB3 := hB3.below hg hB3.lt; clear z0 z1 z2 z3 zf zl; obtain ⟨z0, z1, z2, z3, zf, zl⟩ := hB3.facts4; clear hg
  have hlb := hob.lt
  have hbb2 : w.heap.size ≤ b := by omega
  obtain ⟨_, _, e2, hbf', hcf'⟩ := hrx (by omega)
  obtain ⟨rfl, rfl⟩ : bf = _ ∧ of_ = _ := by simpa using e2
  clear e2
  have HCX := Lib.hid hcf'
  clear hcf' hrx
  go_wp2_with fail
  refine hr_start (S := (fun w' => w'.cell? ⟨w.heap.size, 0, none⟩ = some (.slice (some ⟨bf, of_, none⟩) n cap) ∧ w'.cell? ⟨w.heap.size, 1, none⟩ = some (.bool wb) ∧ w'.cell? ⟨w.heap.size, 2, none⟩ = some (.int .i64 dir) ∧ w'.cell? ⟨w.heap.size, 3, none⟩ = some (.bool ex))) (by kernel_rfl) rfl ?_ (fun hHeld => ?_)
  · ((try dsimp only); go_simp)
  refine hr_q 0 ?_
  simp only [st0, st1]
  refine hr_q 1 ?_
  simp only [st0, st1]
  refine hr_q 2 ?_
  simp only [st0, st1]
  refine hr_q 3 ?_
  simp only [st0, st1]
  refine hr_q 4 ?_
  simp only [st0, st1]
  refine hr_q 5 ?_
  simp only [st0, st1]
  refine hr_q 6 ?_
  simp only [st0, st1]
  refine hr_q 7 ?_
  simp only [st0, st1]
  refine hr_q 8 ?_
  simp only [st0, st1]
  refine hr_q 9 ?_
  simp only [st0, st1]
  refine hr_q 10 ?_
  simp only [st0, st1]
  refine hr_q 11 ?_
  simp only [st0, st1]
  refine hr_q 12 ?_
  simp only [st0, st1]
  refine hr_o 13 (fun K hK => ?_)
  (refine wp_copy_rows (.tmp 32) (.tmp 39) _ _ rfl 67 7 Tryz.underlying62 cellSize b (at_ * 7) (n * 7) 67 (valF f) _ _ _ _ (rt - at_) ⟨bf, of_ + at_ * 7, none⟩ (fun j => valF f (at_ * 7 + j)) (by rfl) (by rfl) hob (by show min _ _ = _; omega) (fun j hj => by have h := Rd.cellsOf HCX.out (at_ * 7 + j) (by omega); rw [addr_add] at h ⊢; rw [Nat.add_assoc]; exact h) (by omega) (fun j _ => val_one _ _) ?_; intro w6 hrow6 hg6 hz6; obtain ⟨y0, y1, y2, y3, _, _⟩ := (Blk.gb (show Blk w4.drew w.heap.size _ _ from hB1) hg6 (by intro e; injection e; omega)).facts4)
  refine hK.out _ _ ?_ (fun hHeld => ?_)
  · ((try dsimp only); go_simp)
  clear hK K
  simp only [st0, st1]
  refine hr_done (by kernel_rfl) ?_
  have hg : w4.grownBy w6 (some b) := gb_trans (gb_drew (World.grownBy.refl _ _)) hg6
  have ho6 : Own w6 b n (fun i => if at_ ≤ i ∧ i < at_ + (rt - at_) then f (at_ + (i - at_)) else f i) := Own.copied hrow6
  replace ho6 : Own w6 b n f := ho6.congr fun i _ => by grind
  clear hg6 hHeld y0 y1 y2 y3 hz6 hrow6 hob HCX
  have hlb6 := ho6.lt
  have hbw6 := below_gb hbw hg hbb2 hbw.size
  replace hB1 := hB1.gb hg (by intro e; injection e; omega); clear r0 r1 r2 r3 rf rl; obtain ⟨r0, r1, r2, r3, rf, rl⟩ := hB1.facts4; replace hB2 := hB2.gb hg (by intro e; injection e; omega); clear p0 p1 p2 pf pl; obtain ⟨p0, p1, p2, pf, pl⟩ := hB2.facts3; replace hB3 := hB3.gb hg (by intro e; injection e; omega); clear z0 z1 z2 z3 zf zl; obtain ⟨z0, z1, z2, z3, zf, zl⟩ := hB3.facts4
  clear hg
  go_wp2_with fail
  refine hr_start (S := (fun w' => w'.cell? ⟨w.heap.size + 1, 0, none⟩ = some (.int .i64 fg) ∧ w'.cell? ⟨w.heap.size + 1, 1, none⟩ = some (.int .i64 bg) ∧ w'.cell? ⟨w.heap.size + 1, 2, none⟩ = some (.int .i64 fl))) (by kernel_rfl) rfl ?_ (fun hHeld => ?_)
  · ((try dsimp only); go_simp)
  refine hr_q 0 ?_
  simp only [st0, st1]
  refine hr_q 1 ?_
  simp only [st0, st1]
  refine hr_q 2 ?_
  simp only [st0, st1]
  refine hr_q 3 ?_
  simp only [st0, st1]
  refine hr_q 4 ?_
  simp only [st0, st1]
  refine hr_q 5 ?_
  simp only [st0, st1]
  generalize (@ite (Option Addr) (n = rt) _ _ _) = zz
  refine hr_q 6 ?_
  simp only [st0, st1]
  refine hr_o 7 (fun K hK => ?_)
  go_simp
  ((with_reducible refine (lay0_c _ _ fg bg fl _).mono ?_); rintro e w8 ⟨rfl, X8, d8, rfl⟩)
  (try go_wp2_with fail)
  refine hK.out _ _ ?_ (fun hHeld => ?_)
  · ((try dsimp only); go_simp)
  clear hK K
  simp only [st0, st1]
  refine hr_done (by kernel_rfl) ?_
  have ho8 : Own (w6.grow X8 d8) b n f := ho6.grow _ _
  have hbw8 : Below w.heap.size w (w6.grow X8 d8) := hbw6.grow hbw6.size _ _
  replace hB1 : Blk (w6.grow X8 d8) _ _ _ := hB1.grow _ _
  replace hB3 : Blk (w6.grow X8 d8) _ _ _ := hB3.grow _ _
  clear ho6 hHeld r0 r1 r2 r3 rf rl z0 z1 z2 z3 zf zl p0 p1 p2 pf pl hB2
  generalize w6.grow X8 d8 = w8 at *
  obtain ⟨r0, r1, r2, r3, rf, rl⟩ := hB1.facts4; obtain ⟨z0, z1, z2, z3, zf, zl⟩ := hB3.facts4
  go_wp2_with fail
  refine (mended_c b n n _ (some ⟨bf, of_, none⟩) n cap wb dir ex _ ho8 (by omega)).mono ?_
  rintro e w9 ⟨rfl, hg, ho9⟩
  have hbw9 := below_gb hbw8 hg hbb2 hbw8.size
  have hoF : Own w9 b n (f) := ho9.congr fun i hi => mend_none (fun j hj => lost_of_sane hs hj) hi
  clear ho9 ho8
  replace hB1 := hB1.gb hg (by intro e; injection e; omega); clear r0 r1 r2 r3 rf rl; obtain ⟨r0, r1, r2, r3, rf, rl⟩ := hB1.facts4; replace hB3 := hB3.gb hg (by intro e; injection e; omega); clear z0 z1 z2 z3 zf zl; obtain ⟨z0, z1, z2, z3, zf, zl⟩ := hB3.facts4
  go_wp2
  refine bodyPost_ret (v := _) (by simp [results, Tryz.results88, go_sem, *]; try exact rfl) rfl ⟨b, rfl, hbb2, by exact bcAll, by (exact ownAll)⟩
end Go.Proofs.YtlchffkabpfjpaaGreat.Row
end
section
/- row.Insert and row.Delete, all ways joined; what they do to rows without halves. -/
namespace Go.Proofs.YtlchffkabpfjpaaGreat.Row
open Go.RowKit

def insR (n : Nat) (f : Nat → Cl) (at_ m rt : Nat) (fg bg fl : Int) : Nat → Cl := if penB fg bg fl = true then mend n (insF f at_ m rt (blank fg bg fl)) else f
def delR (n : Nat) (f : Nat → Cl) (at_ m rt : Nat) (fg bg fl : Int) : Nat → Cl := if penB fg bg fl = true then mend n (delF f at_ m rt (blank fg bg fl)) else f

theorem ins_sane {n : Nat} {f : Nat → Cl} {dir : Int} (hs : saneB n f dir = true) {at_ m rt : Nat} (fg bg fl : Int) : saneB n (insR n f at_ m rt fg bg fl) dir = true := by
  unfold insR
  split
  · rename_i hp
    obtain ⟨a1, a2, a3, a4, a5⟩ := sane_iff.1 hs
    refine sane_mend a1 a2 a3 a4 fun i hi => ?_
    unfold insF
    split
    · exact fits_blank hp
    · split
      · exact (a5 (i - m) (by omega)).1
      · exact (a5 i hi).1
  · exact hs
theorem one_not_lost {n : Nat} {g : Nat → Cl} {i : Nat} (h : (g i).w = 1) : lostB n g i = false := by
  rw [lost_not, h]
  omega
end Go.Proofs.YtlchffkabpfjpaaGreat.Row
end
