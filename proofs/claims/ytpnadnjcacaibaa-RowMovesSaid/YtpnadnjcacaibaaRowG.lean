/- Walks of row.moves, row.Insert, row.Delete. -/
import Derived.Test.YtpnadnjcacaibaaRowF
namespace Go.RowKit
/-- copy of nothing, whatever the elements' size -/
theorem run_copy_rows0 {P : Program} (w : World) (dT sT ty elem : TypeId) (size : Nat) (d a : Option Addr) (dLen dCap sLen sCap : Nat) (hu : P.underlying dT = some (.slice elem)) (hs : (P.info? elem).map (·.size) = some size) (hn : Nat.min sLen dLen = 0) :
    (Builtin.copy_ #[dT, sT] ty #[.slice d dLen dCap, .slice a sLen sCap]).run P w = .ok (.int .i64 0) w := by
  cases hq : P.info? elem with
  | none => simp [hq] at hs
  | some i =>
    cases a <;> cases d <;> simp [Builtin.copy_, run_underlying hu, Builtin.lenOf, Builtin.firstCells, sizeOf, typeInfo, hq, hn, loadCells, storeCells] <;> rfl
theorem wp_copy_rows0 {P : Program} {w : World} {o : Oper} {a : Act} {K : Act → World → Prop} {Q : Exit → Act → World → Prop} (d s : Operand) (dT sT : TypeId)
    (ho : o.op = .call { callee := .builtin .copy, args := #[d, s], argTypes := #[dT, sT] }) (elem : TypeId) (size : Nat) (hu : P.underlying dT = some (.slice elem)) (hsz : (P.info? elem).map (·.size) = some size)
    (da sa : Option Addr) (dLen dCap sLen sCap : Nat) (hd : a.eval d = .slice da dLen dCap) (hs : a.eval s = .slice sa sLen sCap) (hm : Nat.min sLen dLen = 0)
    (hK : K (a.put o.dst (.int .i64 0)) w) : o.wp P a w K Q := by
  have hrun := run_copy_rows0 (P := P) w dT sT o.type elem size da sa dLen dCap sLen sCap hu hsz hm
  unfold Oper.wp
  simp [execOp, ho, resolve, invoke, builtin, hd, hs, hrun, Result.andThen]
  exact hK
end Go.RowKit
namespace Go.Proofs.Ytpnadnjcacaibaa.Row
open Go.RowKit

theorem Own.copied {w : World} {b n D C S : Nat} {f g : Nat → Cl} (h : w.rowIs b 29 (n * 7) (fun j => if D * 7 ≤ j ∧ j < D * 7 + C * 7 then valF f (S * 7 + (j - D * 7)) else valF g j)) :
    Own w b n (fun i => if D ≤ i ∧ i < D + C then f (S + (i - D)) else g i) := World.rowIs.congr h fun j _ => by
  show _ = ((if D ≤ j / 7 ∧ j / 7 < D + C then f (S + (j / 7 - D)) else g (j / 7)) : Cl).val (j % 7)
  unfold valF
  by_cases hj : D * 7 ≤ j ∧ j < D * 7 + C * 7
  · rw [if_pos hj, if_pos (show D ≤ j / 7 ∧ j / 7 < D + C by omega)]
    rw [show (S * 7 + (j - D * 7)) / 7 = S + (j / 7 - D) by omega, show (S * 7 + (j - D * 7)) % 7 = j % 7 by omega]
  · rw [if_neg hj, if_neg (show ¬ (D ≤ j / 7 ∧ j / 7 < D + C) by omega)]

def movesB (n : Nat) (f : Nat → Cl) (dir at_ right fg bg fl : Int) : Bool := saneB n f dir && (penB fg bg fl && (decide (0 ≤ at_) && (decide (at_ < right) && decide (right ≤ n))))
set_option maxRecDepth 100000 in
set_option maxHeartbeats 2000000 in
theorem moves_c (A : Option Addr) (n cap : Nat) (f : Nat → Cl) (wb : Bool) (dir : Int) (ex : Bool) (x y fg bg fl : Int) (w : World) (hr : Rd w A n f) (hn : n ≤ 9223372036854775806) :
    Calls Try.prog 67 #[.agg #[.slice A n cap, .bool wb, .int .i64 dir, .bool ex], .int .i64 x, .int .i64 y, .agg #[.int .i64 fg, .int .i64 bg, .int .i64 fl]] w fun e w' => e = .returned (.bool (movesB n f dir x y fg bg fl)) ∧ Grew w w' := by
  unfold movesB
  cases hs : saneB n f dir
  · go_enter Try.func67, Try.ntmps67
    go_wp2_with fail
    refine (sane_c A n cap f wb dir ex _ (hr.below (by (repeat (first | (with_reducible exact Below.refl _ _) | (with_reducible assumption) | (with_reducible refine Below.grow ?_ ?_ _ _) | (with_reducible refine Below.drewN' ?_ _) | (with_reducible refine Below.drew ?_) | (with_reducible refine Below.alloc ?_ ?_ _) | (with_reducible refine Below.setCell ?_ ?_ _) | omega | (focus (simp; done)) | (focus (simp; omega)))))) (by omega)).mono ?_
    rintro e w1 ⟨rfl, X1, d1, rfl⟩
    go_wp2_with fail
    go_ret
    exact ⟨by simp, (Below.toGrow (by repeat (first | (with_reducible exact Below.refl _ _) | (with_reducible assumption) | (with_reducible refine Below.grow ?_ ?_ _ _) | (with_reducible refine Below.drewN' ?_ _) | (with_reducible refine Below.drew ?_) | (with_reducible refine Below.alloc ?_ ?_ _) | (with_reducible refine Below.setCell ?_ ?_ _) | omega | (focus (simp; done)) | (focus (simp; omega)))))⟩
  · cases hp : penB fg bg fl
    · go_enter Try.func67, Try.ntmps67
      go_wp2_with (first | (go_at_call 15; refine (sane_c A n cap f wb dir ex _ (hr.below (by (repeat (first | (with_reducible exact Below.refl _ _) | (with_reducible assumption) | (with_reducible refine Below.grow ?_ ?_ _ _) | (with_reducible refine Below.drewN' ?_ _) | (with_reducible refine Below.drew ?_) | (with_reducible refine Below.alloc ?_ ?_ _) | (with_reducible refine Below.setCell ?_ ?_ _) | omega | (focus (simp; done)) | (focus (simp; omega)))))) (by omega)).mono ?_; rintro e w1 ⟨rfl, X1, d1, rfl⟩) | (go_at_call 64; refine (penSane_c fg bg fl _).mono ?_; rintro e w1 ⟨rfl, X2, d2, rfl⟩))
      go_ret
      exact ⟨by simp, (Below.toGrow (by repeat (first | (with_reducible exact Below.refl _ _) | (with_reducible assumption) | (with_reducible refine Below.grow ?_ ?_ _ _) | (with_reducible refine Below.drewN' ?_ _) | (with_reducible refine Below.drew ?_) | (with_reducible refine Below.alloc ?_ ?_ _) | (with_reducible refine Below.setCell ?_ ?_ _) | omega | (focus (simp; done)) | (focus (simp; omega)))))⟩
    · go_enter Try.func67, Try.ntmps67
      go_wp2_with fail
      generalize hw0 : (w.alloc _).alloc _ = w0
      have hbw : Below w.heap.size w w0 := by rw [← hw0]; (repeat (first | (with_reducible exact Below.refl _ _) | (with_reducible assumption) | (with_reducible refine Below.grow ?_ ?_ _ _) | (with_reducible refine Below.drewN' ?_ _) | (with_reducible refine Below.drew ?_) | (with_reducible refine Below.alloc ?_ ?_ _) | (with_reducible refine Below.setCell ?_ ?_ _) | omega | (focus (simp; done)) | (focus (simp; omega))))
      have hB1 : Blk w0 w.heap.size 24 #[.slice A n cap, .bool wb, .int .i64 dir, .bool ex] := by rw [← hw0]; exact (Blk.new _ _ _).alloc _
      have hB2 : Blk w0 (w.heap.size + 1) 27 #[.int .i64 fg, .int .i64 bg, .int .i64 fl] := by rw [← hw0]; exact Blk.new_at (by simp)
      clear hw0
      obtain ⟨r0, r1, r2, r3, rf, rl⟩ := hB1.facts4; obtain ⟨p0, p1, p2, pf, pl⟩ := hB2.facts3
      refine (sane_c A n cap f wb dir ex _ (hr.below hbw) (by omega)).mono ?_
      rintro e w1 ⟨rfl, hg⟩
      replace hg := hg.below
      replace hbw := hbw.trans (hg.mono hbw.size); replace hB1 := hB1.below hg hB1.lt; clear r0 r1 r2 r3 rf rl; obtain ⟨r0, r1, r2, r3, rf, rl⟩ := hB1.facts4; replace hB2 := hB2.below hg hB2.lt; clear p0 p1 p2 pf pl; obtain ⟨p0, p1, p2, pf, pl⟩ := hB2.facts3; clear hg
      go_wp2_with fail
      refine (penSane_c fg bg fl _).mono ?_
      rintro e w2 ⟨rfl, hg⟩
      replace hg := hg.below
      replace hbw := hbw.trans (hg.mono hbw.size); replace hB1 := hB1.below hg hB1.lt; clear r0 r1 r2 r3 rf rl; obtain ⟨r0, r1, r2, r3, rf, rl⟩ := hB1.facts4; replace hB2 := hB2.below hg hB2.lt; clear p0 p1 p2 pf pl; obtain ⟨p0, p1, p2, pf, pl⟩ := hB2.facts3; clear hg
      go_wp2_with fail
      all_goals (go_ret; refine ⟨ebool ?_, (Below.toGrow (by (repeat (first | (with_reducible exact Below.refl _ _) | (with_reducible assumption) | (with_reducible refine Below.grow ?_ ?_ _ _) | (with_reducible refine Below.drewN' ?_ _) | (with_reducible refine Below.drew ?_) | (with_reducible refine Below.alloc ?_ ?_ _) | (with_reducible refine Below.setCell ?_ ?_ _) | omega | (focus (simp; done)) | (focus (simp; omega))))))⟩)
      all_goals (clear r0 r1 r2 r3 rf p0 p1 p2 pf; grind)

def insF (f : Nat → Cl) (at_ m rt : Nat) (c : Cl) (i : Nat) : Cl := if at_ ≤ i ∧ i < at_ + m then c else if at_ + m ≤ i ∧ i < rt then f (i - m) else f i
set_option maxRecDepth 100000 in
set_option maxHeartbeats 4000000 in
theorem insert_mid (A : Option Addr) (n cap : Nat) (f : Nat → Cl) (wb : Bool) (dir : Int) (ex : Bool) (at_ rt m : Nat) (fg bg fl : Int) (w : World) (hr : Rd w A n f) (hs : saneB n f dir = true) (hp : penB fg bg fl = true)
    (hat : at_ < rt) (hrt : rt ≤ n) (hcap : n ≤ cap) (hm : 1 ≤ m) (hlt : m < rt - at_) :
    Calls Try.prog 32 #[.agg #[.slice A n cap, .bool wb, .int .i64 dir, .bool ex], .int .i64 at_, .int .i64 m, .int .i64 rt, .agg #[.int .i64 fg, .int .i64 bg, .int .i64 fl]] w fun e w' => ∃ b, e = .returned (.agg #[.slice (some ⟨b, 0, none⟩) n n, .bool wb, .int .i64 dir, .bool ex]) ∧ w.heap.size ≤ b ∧ Below w.heap.size w w' ∧ Own w' b n (mend n (insF f at_ m rt (blank fg bg fl))) := by
  obtain ⟨hn1, hn2⟩ := sane_len hs
  have hmv : movesB n f dir at_ rt fg bg fl = true := by unfold movesB; simp [hs, hp]; omega
  obtain ⟨bf, of_, rfl, hbf, hcf⟩ := hr (by omega)
  have HCF := Lib.hid hcf
  clear hcf
  go_enter Try.func32, Try.ntmps32
  go_wp2_with fail
  generalize hw0 : ((w.alloc _).alloc _).alloc _ = w0
  have hbw : Below w.heap.size w w0 := by rw [← hw0]; (repeat (first | (with_reducible exact Below.refl _ _) | (with_reducible assumption) | (with_reducible refine Below.grow ?_ ?_ _ _) | (with_reducible refine Below.drewN' ?_ _) | (with_reducible refine Below.drew ?_) | (with_reducible refine Below.alloc ?_ ?_ _) | (with_reducible refine Below.setCell ?_ ?_ _) | omega | (focus (simp; done)) | (focus (simp; omega))))
  have hB1 : Blk w0 w.heap.size 24 #[.slice (some ⟨bf, of_, none⟩) n cap, .bool wb, .int .i64 dir, .bool ex] := by rw [← hw0]; exact ((Blk.new _ _ _).alloc _).alloc _
  have hB2 : Blk w0 (w.heap.size + 1) 27 #[.int .i64 fg, .int .i64 bg, .int .i64 fl] := by rw [← hw0]; exact (Blk.new_at (by simp)).alloc _
  have hB3 : Blk w0 (w.heap.size + 2) 24 #[.slice none 0 0, .bool false, .int .i64 0, .bool false] := by rw [← hw0]; exact Blk.new_at (by simp)
  clear hw0
  obtain ⟨r0, r1, r2, r3, rf, rl⟩ := hB1.facts4; obtain ⟨p0, p1, p2, pf, pl⟩ := hB2.facts3; obtain ⟨z0, z1, z2, z3, zf, zl⟩ := hB3.facts4
  go_wp2_with fail
  refine (moves_c (some ⟨bf, of_, none⟩) n cap f wb dir ex at_ rt fg bg fl _ (hr.below hbw) (by omega)).mono ?_
  rintro e w1 ⟨rfl, hg⟩
  replace hg := hg.below
  replace hbw := hbw.trans (hg.mono hbw.size); replace hB1 := hB1.below hg hB1.lt; clear r0 r1 r2 r3 rf rl; obtain ⟨r0, r1, r2, r3, rf, rl⟩ := hB1.facts4; replace hB2 := hB2.below hg hB2.lt; clear p0 p1 p2 pf pl; obtain ⟨p0, p1, p2, pf, pl⟩ := hB2.facts3; replace hB3 := hB3.below hg hB3.lt; clear z0 z1 z2 z3 zf zl; obtain ⟨z0, z1, z2, z3, zf, zl⟩ := hB3.facts4; clear hg
  rw [hmv]
  clear hmv
  have c2 : IntKind.i64.wrap ((at_ : Int) + m) = (at_ : Int) + m := IntWalk.i64_in _ (by omega)
  have c3 : IntKind.i64.wrap ((rt : Int) - m) = (rt : Int) - m := IntWalk.i64_in _ (by omega)
  have d1 : ((at_ : Int) + m).toNat = at_ + m := by omega
  have d2 : ((rt : Int) - m).toNat = rt - m := by omega
  have l1 : (0 : Int) ≤ (at_ : Int) + m := by omega
  have l2 : (at_ : Int) + m ≤ rt := by omega
  have l3 : (rt : Int) ≤ n := by omega
  have l4 : (0 : Int) ≤ at_ := by omega
  have l5 : (at_ : Int) ≤ (rt : Int) - m := by omega
  have l6 : (rt : Int) - m ≤ cap := by omega
  have l7 : (at_ : Int) ≤ (at_ : Int) + m := by omega
  have l8 : (at_ : Int) + m ≤ n := by omega
  have n1 : ¬ (n = at_ + m) := by omega
  have n2 : ¬ (cap = at_) := by omega
  have n3 : ¬ (n = at_) := by omega
  go_wp2_with fail
  refine (cells_c (some ⟨bf, of_, none⟩) n cap f wb dir ex _ (hr.below hbw) (by omega) (by omega)).mono ?_
  rintro e w4 ⟨b, rfl, hbb, hg, hob⟩
  have hbn : w.heap.size + 2 < b := by omega
  have hrx := (hr.below hbw).below hg
  replace hbw := hbw.trans (hg.mono hbw.size); replace hB1 := hB1.below hg hB1.lt; clear r0 r1 r2 r3 rf rl; obtain ⟨r0, r1, r2, r3, rf, rl⟩ := hB1.facts4; replace hB2 := hB2.below hg hB2.lt; clear p0 p1 p2 pf pl; obtain ⟨p0, p1, p2, pf, pl⟩ := hB2.facts3; replace hB3 := hB3.below hg hB3.lt; clear z0 z1 z2 z3 zf zl; obtain ⟨z0, z1, z2, z3, zf, zl⟩ := hB3.facts4; clear hg
  have hlb := hob.lt
  have hbb2 : w.heap.size ≤ b := by omega
  obtain ⟨_, _, e2, hbf', hcf'⟩ := hrx (by omega)
  obtain ⟨rfl, rfl⟩ : bf = _ ∧ of_ = _ := by simpa using e2
  clear e2
  have HCX := Lib.hid hcf'
  clear hcf' hrx
  go_wp2_with fail
  refine hr_start (S := (fun w' => w'.cell? ⟨w.heap.size, 0, none⟩ = some (.slice (some ⟨bf, of_, none⟩) n cap) ∧ w'.cell? ⟨w.heap.size, 1, none⟩ = some (.bool wb) ∧ w'.cell? ⟨w.heap.size, 2, none⟩ = some (.int .i64 dir) ∧ w'.cell? ⟨w.heap.size, 3, none⟩ = some (.bool ex))) (by kernel_rfl) rfl ?_ (fun hHeld => ?_)
  · ((try dsimp only); go_simp)
  refine hr_take (i := 0) rfl rfl (by kernel_rfl) (by kernel_rfl) (by kernel_rfl) (by kernel_rfl) (fun _ _ _ h => h) (v := ?_) ?_ (by assumption) ?_
  rotate_left
  focus (intro wS hSw; (try dsimp only at hSw); go_simp; (try with_reducible rfl))
  simp only [List.set_cons_zero, List.set_cons_succ]
  refine hr_take (i := 1) rfl rfl (by kernel_rfl) (by kernel_rfl) (by kernel_rfl) (by kernel_rfl) (fun _ _ _ h => h) (v := ?_) ?_ (by assumption) ?_
  rotate_left
  focus (intro wS hSw; (try dsimp only at hSw); go_simp; (try with_reducible rfl))
  simp only [List.set_cons_zero, List.set_cons_succ]
  refine hr_take (i := 2) rfl rfl (by kernel_rfl) (by kernel_rfl) (by kernel_rfl) (by kernel_rfl) (fun _ _ _ h => h) (v := ?_) ?_ (by assumption) ?_
  rotate_left
  focus (intro wS hSw; (try dsimp only at hSw); go_simp; (try with_reducible rfl))
  simp only [List.set_cons_zero, List.set_cons_succ]
  refine hr_take (i := 3) rfl rfl (by kernel_rfl) (by kernel_rfl) (by kernel_rfl) (by kernel_rfl) (fun _ _ _ h => h) (v := ?_) ?_ (by assumption) ?_
  rotate_left
  focus (intro wS hSw; (try dsimp only at hSw); go_simp; (try with_reducible rfl))
  simp only [List.set_cons_zero, List.set_cons_succ]
  refine hr_take (i := 4) rfl rfl (by kernel_rfl) (by kernel_rfl) (by kernel_rfl) (by kernel_rfl) (fun _ _ _ h => h) (v := ?_) ?_ (by assumption) ?_
  rotate_left
  focus (intro wS hSw; (try dsimp only at hSw); go_simp; (try with_reducible rfl))
  simp only [List.set_cons_zero, List.set_cons_succ]
  refine hr_take (i := 5) rfl rfl (by kernel_rfl) (by kernel_rfl) (by kernel_rfl) (by kernel_rfl) (fun _ _ _ h => h) (v := ?_) ?_ (by assumption) ?_
  rotate_left
  focus (intro wS hSw; (try dsimp only at hSw); go_simp; (try with_reducible rfl))
  simp only [List.set_cons_zero, List.set_cons_succ]
  refine hr_take (i := 6) rfl rfl (by kernel_rfl) (by kernel_rfl) (by kernel_rfl) (by kernel_rfl) (fun _ _ _ h => h) (v := ?_) ?_ (by assumption) ?_
  rotate_left
  focus (intro wS hSw; (try dsimp only at hSw); go_simp; (try with_reducible rfl))
  simp only [List.set_cons_zero, List.set_cons_succ]
  refine hr_take (i := 7) rfl rfl (by kernel_rfl) (by kernel_rfl) (by kernel_rfl) (by kernel_rfl) (fun _ _ _ h => h) (v := ?_) ?_ (by assumption) ?_
  rotate_left
  focus (intro wS hSw; (try dsimp only at hSw); go_simp; (try with_reducible rfl))
  simp only [List.set_cons_zero, List.set_cons_succ]
  refine hr_take (i := 8) rfl rfl (by kernel_rfl) (by kernel_rfl) (by kernel_rfl) (by kernel_rfl) (fun _ _ _ h => h) (v := ?_) ?_ (by assumption) ?_
  rotate_left
  focus (intro wS hSw; (try dsimp only at hSw); go_simp; (try with_reducible rfl))
  simp only [List.set_cons_zero, List.set_cons_succ]
  refine hr_take (i := 9) rfl rfl (by kernel_rfl) (by kernel_rfl) (by kernel_rfl) (by kernel_rfl) (fun _ _ _ h => h) (v := ?_) ?_ (by assumption) ?_
  rotate_left
  focus (intro wS hSw; (try dsimp only at hSw); go_simp; (try with_reducible rfl))
  simp only [List.set_cons_zero, List.set_cons_succ]
  refine hr_take (i := 10) rfl rfl (by kernel_rfl) (by kernel_rfl) (by kernel_rfl) (by kernel_rfl) (fun _ _ _ h => h) (v := ?_) ?_ (by assumption) ?_
  rotate_left
  focus (intro wS hSw; (try dsimp only at hSw); go_simp; (try with_reducible rfl))
  simp only [List.set_cons_zero, List.set_cons_succ]
  refine hr_take (i := 11) rfl rfl (by kernel_rfl) (by kernel_rfl) (by kernel_rfl) (by kernel_rfl) (fun _ _ _ h => h) (v := ?_) ?_ (by assumption) ?_
  rotate_left
  focus (intro wS hSw; (try dsimp only at hSw); go_simp; (try with_reducible rfl))
  simp only [List.set_cons_zero, List.set_cons_succ]
  refine hr_take (i := 12) rfl rfl (by kernel_rfl) (by kernel_rfl) (by kernel_rfl) (by kernel_rfl) (fun _ _ _ h => h) (v := ?_) ?_ (by assumption) ?_
  rotate_left
  focus (intro wS hSw; (try dsimp only at hSw); go_simp; (try with_reducible rfl))
  simp only [List.set_cons_zero, List.set_cons_succ]
  refine hr_op (i := 13) rfl rfl (by kernel_rfl) (by kernel_rfl) (fun K hK => ?_)
  (refine wp_copy_rows (.tmp 32) (.tmp 39) _ _ rfl 29 7 Try.underlying22 cellSize b ((at_ + m) * 7) (n * 7) 29 (valF f) _ _ _ _ (rt - at_ - m) ⟨bf, of_ + at_ * 7, none⟩ (fun j => valF f (at_ * 7 + j)) (by rfl) (by rfl) hob (by show min _ _ = _; omega) (fun j hj => by have h := Rd.cellsOf HCX.out (at_ * 7 + j) (by omega); rw [addr_add] at h ⊢; rw [Nat.add_assoc]; exact h) (by omega) (fun j _ => val_one _ _) ?_; intro w6 hrow6 hg6 hz6; obtain ⟨y0, y1, y2, y3, _, _⟩ := (Blk.gb (show Blk w4.drew w.heap.size _ _ from hB1) hg6 (by intro e; injection e; omega)).facts4)
  (try go_wp2_with fail)
  refine hK.out _ _ ?_ (fun hHeld => ?_)
  · ((try dsimp only); go_simp)
  clear hK K
  simp only [List.set_cons_zero, List.set_cons_succ]
  refine hr_done (by kernel_rfl) ?_
  have hg : w4.grownBy w6 (some b) := gb_trans (gb_drew (World.grownBy.refl _ _)) hg6
  have ho6 : Own w6 b n (fun i => if at_ + m ≤ i ∧ i < at_ + m + (rt - at_ - m) then f (at_ + (i - (at_ + m))) else f i) := Own.copied hrow6
  clear hg6 hHeld y0 y1 y2 y3 hz6 hrow6 hob HCX
  have hlb6 := ho6.lt
  have hbw6 := below_gb hbw hg hbb2 hbw.size
  replace hB1 := hB1.gb hg (by intro e; injection e; omega); clear r0 r1 r2 r3 rf rl; obtain ⟨r0, r1, r2, r3, rf, rl⟩ := hB1.facts4; replace hB2 := hB2.gb hg (by intro e; injection e; omega); clear p0 p1 p2 pf pl; obtain ⟨p0, p1, p2, pf, pl⟩ := hB2.facts3; replace hB3 := hB3.gb hg (by intro e; injection e; omega); clear z0 z1 z2 z3 zf zl; obtain ⟨z0, z1, z2, z3, zf, zl⟩ := hB3.facts4
  clear hg
  go_wp2_with fail
  refine hr_start (S := (fun w' => w'.cell? ⟨w.heap.size + 1, 0, none⟩ = some (.int .i64 fg) ∧ w'.cell? ⟨w.heap.size + 1, 1, none⟩ = some (.int .i64 bg) ∧ w'.cell? ⟨w.heap.size + 1, 2, none⟩ = some (.int .i64 fl))) (by kernel_rfl) rfl ?_ (fun hHeld => ?_)
  · ((try dsimp only); go_simp)
  refine hr_take (i := 0) rfl rfl (by kernel_rfl) (by kernel_rfl) (by kernel_rfl) (by kernel_rfl) (fun _ _ _ h => h) (v := ?_) ?_ (by assumption) ?_
  rotate_left
  focus (intro wS hSw; (try dsimp only at hSw); go_simp; (try with_reducible rfl))
  simp only [List.set_cons_zero, List.set_cons_succ]
  refine hr_take (i := 1) rfl rfl (by kernel_rfl) (by kernel_rfl) (by kernel_rfl) (by kernel_rfl) (fun _ _ _ h => h) (v := ?_) ?_ (by assumption) ?_
  rotate_left
  focus (intro wS hSw; (try dsimp only at hSw); go_simp; (try with_reducible rfl))
  simp only [List.set_cons_zero, List.set_cons_succ]
  refine hr_take (i := 2) rfl rfl (by kernel_rfl) (by kernel_rfl) (by kernel_rfl) (by kernel_rfl) (fun _ _ _ h => h) (v := ?_) ?_ (by assumption) ?_
  rotate_left
  focus (intro wS hSw; (try dsimp only at hSw); go_simp; (try with_reducible rfl))
  simp only [List.set_cons_zero, List.set_cons_succ]
  refine hr_take (i := 3) rfl rfl (by kernel_rfl) (by kernel_rfl) (by kernel_rfl) (by kernel_rfl) (fun _ _ _ h => h) (v := ?_) ?_ (by assumption) ?_
  rotate_left
  focus (intro wS hSw; (try dsimp only at hSw); go_simp; (try with_reducible rfl))
  simp only [List.set_cons_zero, List.set_cons_succ]
  refine hr_take (i := 4) rfl rfl (by kernel_rfl) (by kernel_rfl) (by kernel_rfl) (by kernel_rfl) (fun _ _ _ h => h) (v := ?_) ?_ (by assumption) ?_
  rotate_left
  focus (intro wS hSw; (try dsimp only at hSw); go_simp; (try with_reducible rfl))
  simp only [List.set_cons_zero, List.set_cons_succ]
  refine hr_take (i := 5) rfl rfl (by kernel_rfl) (by kernel_rfl) (by kernel_rfl) (by kernel_rfl) (fun _ _ _ h => h) (v := ?_) ?_ (by assumption) ?_
  rotate_left
  focus (intro wS hSw; (try dsimp only at hSw); go_simp; (try with_reducible rfl))
  simp only [List.set_cons_zero, List.set_cons_succ]
  refine hr_take (i := 6) rfl rfl (by kernel_rfl) (by kernel_rfl) (by kernel_rfl) (by kernel_rfl) (fun _ _ _ h => h) (v := ?_) ?_ (by assumption) ?_
  rotate_left
  focus (intro wS hSw; (try dsimp only at hSw); go_simp; (try with_reducible rfl))
  simp only [List.set_cons_zero, List.set_cons_succ]
  refine hr_op (i := 7) rfl rfl (by kernel_rfl) (by kernel_rfl) (fun K hK => ?_)
  go_simp
  ((with_reducible refine (lay_c b (at_ * 7) n at_ m _ _ fg bg fl _ (own_drew ho6) rfl (by omega) (by omega)).mono ?_); rintro e w8 ⟨rfl, hg8, ho8⟩; obtain ⟨y0, y1, y2, _, _⟩ := (Blk.gb (show Blk w6.drew (w.heap.size + 1) _ _ from hB2) hg8 (by intro e; injection e; omega)).facts3)
  (try go_wp2_with fail)
  refine hK.out _ _ ?_ (fun hHeld => ?_)
  · ((try dsimp only); go_simp)
  clear hK K
  simp only [List.set_cons_zero, List.set_cons_succ]
  refine hr_done (by kernel_rfl) ?_
  have hg : w6.grownBy w8 (some b) := gb_trans (gb_drew (World.grownBy.refl _ _)) hg8
  clear hg8 hHeld y0 y1 y2 ho6
  have hbw8 := below_gb hbw6 hg hbb2 hbw6.size
  replace hB1 := hB1.gb hg (by intro e; injection e; omega); clear r0 r1 r2 r3 rf rl; obtain ⟨r0, r1, r2, r3, rf, rl⟩ := hB1.facts4; replace hB3 := hB3.gb hg (by intro e; injection e; omega); clear z0 z1 z2 z3 zf zl; obtain ⟨z0, z1, z2, z3, zf, zl⟩ := hB3.facts4
  clear p0 p1 p2 pf pl hB2 hg
  go_wp2_with fail
  refine (mended_c b n n _ (some ⟨bf, of_, none⟩) n cap wb dir ex _ ho8 (by omega)).mono ?_
  rintro e w9 ⟨rfl, hg, ho9⟩
  have hbw9 := below_gb hbw8 hg hbb2 hbw8.size
  have hoF : Own w9 b n (mend n (insF f at_ m rt (blank fg bg fl))) := ho9.congr fun i hi => mend_congr (fun j _ => by unfold laid insF; grind) hi
  clear ho9 ho8
  replace hB1 := hB1.gb hg (by intro e; injection e; omega); clear r0 r1 r2 r3 rf rl; obtain ⟨r0, r1, r2, r3, rf, rl⟩ := hB1.facts4; replace hB3 := hB3.gb hg (by intro e; injection e; omega); clear z0 z1 z2 z3 zf zl; obtain ⟨z0, z1, z2, z3, zf, zl⟩ := hB3.facts4
  go_wp2
  refine bodyPost_ret (v := _) (by simp [results, Try.results32, go_sem, *]; try exact rfl) rfl ⟨b, rfl, hbb2, by (repeat (first | (with_reducible exact Below.refl _ _) | (with_reducible assumption) | (with_reducible refine Below.grow ?_ ?_ _ _) | (with_reducible refine Below.drewN' ?_ _) | (with_reducible refine Below.drew ?_) | (with_reducible refine Below.alloc ?_ ?_ _) | (with_reducible refine Below.setCell ?_ ?_ _) | omega | (focus (simp; done)) | (focus (simp; omega)))), by (repeat (first | (with_reducible assumption) | (with_reducible refine Own.grow ?_ _ _) | (with_reducible refine Own.drewN ?_ _) | (with_reducible refine own_drew ?_) | (with_reducible refine Own.alloc ?_ _) | (with_reducible refine Own.far' ?_ ?_ _) | (focus (simp; done)) | (focus (simp; omega))))⟩
end Go.Proofs.Ytpnadnjcacaibaa.Row
