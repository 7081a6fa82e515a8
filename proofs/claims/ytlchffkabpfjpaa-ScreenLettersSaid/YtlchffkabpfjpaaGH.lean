/- Joined: RowL2 RowF RowG RowG2 RowH. -/
import Derived.Test.YtlchffkabpfjpaaGA
import Derived.Test.YtlchffkabpfjpaaGB
section
/- What Erase does, in plain Lean: what is erased is blank. -/
namespace Go.Proofs.Ytlchffkabpfjpaa.Row

/-- what Erase makes of a row -/
def eraseR (n : Nat) (f : Nat → Cl) (F T : Nat) (fg bg fl : Int) : Nat → Cl := if penB fg bg fl = true ∧ F < T then mend n (laid f F (T - F) (blank fg bg fl)) else f
theorem laid_at (f : Nat → Cl) {F T : Nat} (h : F < T) (c : Cl) (i : Nat) : laid f F (T - F) c i = if F ≤ i ∧ i < T then c else f i := by
  unfold laid
  rw [show F + (T - F) = T by omega]
theorem erase_sane {n : Nat} {f : Nat → Cl} {dir : Int} (hs : saneB n f dir = true) (F T : Nat) (fg bg fl : Int) : saneB n (eraseR n f F T fg bg fl) dir = true := by
  unfold eraseR
  split
  · rename_i h
    obtain ⟨a1, a2, a3, a4, a5⟩ := sane_iff.1 hs
    refine sane_mend a1 a2 a3 a4 fun i hi => ?_
    unfold laid
    split
    · exact fits_blank h.1
    · exact (a5 i hi).1
  · exact hs
theorem erase_congr {n : Nat} {f g : Nat → Cl} (h : ∀ i, i < n → f i = g i) (F T : Nat) (fg bg fl : Int) {i : Nat} (hi : i < n) : eraseR n f F T fg bg fl i = eraseR n g F T fg bg fl i := by
  unfold eraseR
  split
  · refine mend_congr (fun j hj => ?_) hi
    unfold laid
    rw [h j hj]
  · exact h i hi
theorem blank_w (fg bg fl : Int) : (blank fg bg fl).w = 1 := rfl
/-- what is erased is not lost -/
theorem erased_not_lost {n : Nat} {f : Nat → Cl} {F T : Nat} (h : F < T) {fg bg fl : Int} {i : Nat} (h1 : F ≤ i) (h2 : i < T) : lostB n (laid f F (T - F) (blank fg bg fl)) i = false := by
  rw [lost_not, laid_at f h, if_pos ⟨h1, h2⟩, blank_w]
  omega
/-- WHAT IS ERASED IS BLANK, all else as it was but for halves; erased twice it is the same -/
theorem erase_there {n : Nat} {f : Nat → Cl} {dir : Int} (hs : saneB n f dir = true) {F T : Nat} {fg bg fl : Int} (hFT : F < T) (hp : penB fg bg fl = true) :
    (∀ i, i < n → F ≤ i → i < T → eraseR n f F T fg bg fl i = blank fg bg fl) ∧
    (∀ i, i < n → ¬ (F ≤ i ∧ i < T) → eraseR n f F T fg bg fl i = f i ∨ ((i + 1 = F ∨ i = T) ∧ eraseR n f F T fg bg fl i = (f i).bl)) := by
  have e : eraseR n f F T fg bg fl = mend n (laid f F (T - F) (blank fg bg fl)) := by unfold eraseR; rw [if_pos ⟨hp, hFT⟩]
  rw [e]
  refine ⟨fun i _ h1 h2 => by rw [mend_keep (erased_not_lost hFT h1 h2), laid_at f hFT, if_pos ⟨h1, h2⟩], fun i hi hn => ?_⟩
  have hat := laid_at f hFT (blank fg bg fl)
  have hfi : laid f F (T - F) (blank fg bg fl) i = f i := by rw [hat, if_neg hn]
  cases hl : lostB n (laid f F (T - F) (blank fg bg fl)) i
  · left
    rw [mend_keep hl, hfi]
  · right
    refine ⟨?_, by unfold mend; rw [hl, hfi]; rfl⟩
    have hli := lost_of_sane hs hi
    rw [lost_iff, hfi] at hl
    rw [lost_not] at hli
    have e1 := hat (i - 1)
    have e2 := hat (i + 1)
    by_cases c1 : i + 1 = F
    · exact .inl c1
    · by_cases c2 : i = T
      · exact .inr c2
      · exfalso
        apply hli
        rcases hl with ⟨u, v⟩ | ⟨u, v⟩
        · refine .inl ⟨u, ?_⟩
          rcases v with v | v
          · exact .inl v
          · by_cases h0 : i = 0
            · exact .inl h0
            · rw [if_neg (by omega)] at e1
              rw [e1] at v
              exact .inr v
        · refine .inr ⟨u, ?_⟩
          rcases v with v | v
          · exact .inl v
          · rw [if_neg (by omega)] at e2
            rw [e2] at v
            exact .inr v
theorem erase_twice {n : Nat} {f : Nat → Cl} {dir : Int} (hs : saneB n f dir = true) {F T : Nat} {fg bg fl : Int} {i : Nat} (hi : i < n) :
    eraseR n (eraseR n f F T fg bg fl) F T fg bg fl i = eraseR n f F T fg bg fl i := by
  by_cases h : penB fg bg fl = true ∧ F < T
  · obtain ⟨t1, _⟩ := erase_there hs h.2 h.1
    have hs2 := erase_sane hs F T fg bg fl
    generalize eraseR n f F T fg bg fl = g at *
    unfold eraseR
    rw [if_pos h]
    have hsame : ∀ j, j < n → laid g F (T - F) (blank fg bg fl) j = g j := fun j hj => by
      rw [laid_at g h.2]
      split
      · rename_i hh
        exact (t1 j hj hh.1 hh.2).symm
      · rfl
    rw [mend_congr hsame hi]
    exact mend_none (fun j hj => lost_of_sane hs2 hj) hi
  · unfold eraseR
    rw [if_neg h, if_neg h]
theorem erase_none_eq {n : Nat} {f : Nat → Cl} {F T : Nat} {fg bg fl : Int} (h : ¬ (penB fg bg fl = true ∧ F < T)) : eraseR n f F T fg bg fl = f := by unfold eraseR; rw [if_neg h]
end Go.Proofs.Ytlchffkabpfjpaa.Row
end
section
/- Walks of row.between and row.Erase. -/
namespace Go.Proofs.Ytlchffkabpfjpaa.Row
open Go.RowKit

theorem own_drew {w : World} {b n : Nat} {f : Nat → Cl} (h : Own w b n f) : Own w.drew b n f := h
theorem e2int {a b a' b' : Int} (h : a = a') (h' : b = b') : Ending.returned (.tuple #[.int .i64 a, .int .i64 b]) = .returned (.tuple #[.int .i64 a', .int .i64 b']) := by rw [h, h']
set_option maxRecDepth 100000 in
set_option maxHeartbeats 1000000 in
theorem lay0_c (A : Option Addr) (cap : Nat) (fg bg fl : Int) (w : World) :
    Calls Try.prog 77 #[.slice A 0 cap, .agg #[.int .i64 fg, .int .i64 bg, .int .i64 fl]] w fun e w' => e = .returned (.tuple #[]) ∧ Grew w w' := by
  go_enter Try.func77, Try.ntmps77
  go_wp2
  refine wp_loop_rounds 1 ?_
  rw [rounds_succ]
  go_wp2
  go_end0
  exact ⟨rfl, (Below.toGrow (by repeat (first | (with_reducible exact Below.refl _ _) | (with_reducible assumption) | (with_reducible refine Below.grow ?_ ?_ _ _) | (with_reducible refine Below.drewN' ?_ _) | (with_reducible refine Below.drew ?_) | (with_reducible refine Below.alloc ?_ ?_ _) | (with_reducible refine Below.setCell ?_ ?_ _) | omega | (focus (simp; done)) | (focus (simp; omega)))))⟩

end Go.Proofs.Ytlchffkabpfjpaa.Row
end
section
/- Walks of row.moves, row.Insert, row.Delete. -/
namespace Go.RowKit
/-- copy of nothing, whatever the elements' size -/
theorem run_copy_rows0 {P : Program} (w : World) (dT sT ty elem : TypeId) (size : Nat) (d a : Option Addr) (dLen dCap sLen sCap : Nat) (hu : P.underlying dT = some (.slice elem)) (hs : (P.info? elem).map (·.size) = some size) (hn : Nat.min sLen dLen = 0) :
    (Builtin.copy_ #[dT, sT] ty #[.slice d dLen dCap, .slice a sLen sCap]).run P w = .ok (.int .i64 0) w := by
  cases hq : P.info? elem with
  | none => simp [hq] at hs
  | some i =>
    cases a <;> cases d <;> simp [Builtin.copy_, run_underlying hu, Builtin.lenOf, Builtin.firstCells, sizeOf, typeInfo, hq, hn, loadCells, storeCells] <;> rfl
theorem wp_copy_rows0 {P : Program} {w : World} {o : Oper} {a : Act} {K : Act → World → Prop} {Q : Exit → Act → World → Prop} (d s : Operand) (dT sT : TypeId)
    (ho : o.op = .call { callee := .builtin .copy, args := #[d, s], argTypes := #[dT, sT] }) (elem : TypeId) (size : Nat) (hu : P.underlying dT = some (.slice elem)) (hsz : (P.info? elem).map (·.size) = some size)
    (da sa : Option Addr) (dLen dCap sLen sCap : Nat) (hd : a.eval d = .slice da dLen dCap) (hs : a.eval s = .slice sa sLen sCap) (hm : Nat.min sLen dLen = 0)
    (hK : K (a.put o.dst (.int .i64 0)) w) : o.wp P a w K Q := by
  have hrun := run_copy_rows0 (P := P) w dT sT o.type elem size da sa dLen dCap sLen sCap hu hsz hm
  unfold Oper.wp
  simp [execOp, ho, resolve, invoke, builtin, hd, hs, hrun, Result.andThen]
  exact hK
end Go.RowKit
namespace Go.Proofs.Ytlchffkabpfjpaa.Row
open Go.RowKit

theorem Own.copied {w : World} {b n D C S : Nat} {f g : Nat → Cl} (h : w.rowIs b 46 (n * 7) (fun j => if D * 7 ≤ j ∧ j < D * 7 + C * 7 then valF f (S * 7 + (j - D * 7)) else valF g j)) :
    Own w b n (fun i => if D ≤ i ∧ i < D + C then f (S + (i - D)) else g i) := World.rowIs.congr h fun j _ => by
  show _ = ((if D ≤ j / 7 ∧ j / 7 < D + C then f (S + (j / 7 - D)) else g (j / 7)) : Cl).val (j % 7)
  unfold valF
  by_cases hj : D * 7 ≤ j ∧ j < D * 7 + C * 7
  · rw [if_pos hj, if_pos (show D ≤ j / 7 ∧ j / 7 < D + C by omega)]
    rw [show (S * 7 + (j - D * 7)) / 7 = S + (j / 7 - D) by omega, show (S * 7 + (j - D * 7)) % 7 = j % 7 by omega]
  · rw [if_neg hj, if_neg (show ¬ (D ≤ j / 7 ∧ j / 7 < D + C) by omega)]

def rmovesB (n : Nat) (f : Nat → Cl) (dir at_ right fg bg fl : Int) : Bool := saneB n f dir && (penB fg bg fl && (decide (0 ≤ at_) && (decide (at_ < right) && decide (right ≤ n))))
set_option maxRecDepth 100000 in
set_option maxHeartbeats 2000000 in
theorem moves_c (A : Option Addr) (n cap : Nat) (f : Nat → Cl) (wb : Bool) (dir : Int) (ex : Bool) (x y fg bg fl : Int) (w : World) (hr : Rd w A n f) (hn : n ≤ 9223372036854775806) :
    Calls Try.prog 81 #[.agg #[.slice A n cap, .bool wb, .int .i64 dir, .bool ex], .int .i64 x, .int .i64 y, .agg #[.int .i64 fg, .int .i64 bg, .int .i64 fl]] w fun e w' => e = .returned (.bool (rmovesB n f dir x y fg bg fl)) ∧ Grew w w' := by
  unfold rmovesB
  cases hs : saneB n f dir
  · go_enter Try.func81, Try.ntmps81
    go_wp2_with fail
    refine (sane_c A n cap f wb dir ex _ (hr.below (by (repeat (first | (with_reducible exact Below.refl _ _) | (with_reducible assumption) | (with_reducible refine Below.grow ?_ ?_ _ _) | (with_reducible refine Below.drewN' ?_ _) | (with_reducible refine Below.drew ?_) | (with_reducible refine Below.alloc ?_ ?_ _) | (with_reducible refine Below.setCell ?_ ?_ _) | omega | (focus (simp; done)) | (focus (simp; omega)))))) (by omega)).mono ?_
    rintro e w1 ⟨rfl, X1, d1, rfl⟩
    go_wp2_with fail
    go_ret
    exact ⟨by simp, (Below.toGrow (by repeat (first | (with_reducible exact Below.refl _ _) | (with_reducible assumption) | (with_reducible refine Below.grow ?_ ?_ _ _) | (with_reducible refine Below.drewN' ?_ _) | (with_reducible refine Below.drew ?_) | (with_reducible refine Below.alloc ?_ ?_ _) | (with_reducible refine Below.setCell ?_ ?_ _) | omega | (focus (simp; done)) | (focus (simp; omega)))))⟩
  · cases hp : penB fg bg fl
    · go_enter Try.func81, Try.ntmps81
      go_wp2_with (first | (go_at_call 17; refine (sane_c A n cap f wb dir ex _ (hr.below (by (repeat (first | (with_reducible exact Below.refl _ _) | (with_reducible assumption) | (with_reducible refine Below.grow ?_ ?_ _ _) | (with_reducible refine Below.drewN' ?_ _) | (with_reducible refine Below.drew ?_) | (with_reducible refine Below.alloc ?_ ?_ _) | (with_reducible refine Below.setCell ?_ ?_ _) | omega | (focus (simp; done)) | (focus (simp; omega)))))) (by omega)).mono ?_; rintro e w1 ⟨rfl, X1, d1, rfl⟩) | (go_at_call 64; refine (penSane_c fg bg fl _).mono ?_; rintro e w1 ⟨rfl, X2, d2, rfl⟩))
      go_ret
      exact ⟨by simp, (Below.toGrow (by repeat (first | (with_reducible exact Below.refl _ _) | (with_reducible assumption) | (with_reducible refine Below.grow ?_ ?_ _ _) | (with_reducible refine Below.drewN' ?_ _) | (with_reducible refine Below.drew ?_) | (with_reducible refine Below.alloc ?_ ?_ _) | (with_reducible refine Below.setCell ?_ ?_ _) | omega | (focus (simp; done)) | (focus (simp; omega)))))⟩
    · go_enter Try.func81, Try.ntmps81
      go_wp2_with fail
      generalize hw0 : (w.alloc _).alloc _ = w0
      have hbw : Below w.heap.size w w0 := by rw [← hw0]; (repeat (first | (with_reducible exact Below.refl _ _) | (with_reducible assumption) | (with_reducible refine Below.grow ?_ ?_ _ _) | (with_reducible refine Below.drewN' ?_ _) | (with_reducible refine Below.drew ?_) | (with_reducible refine Below.alloc ?_ ?_ _) | (with_reducible refine Below.setCell ?_ ?_ _) | omega | (focus (simp; done)) | (focus (simp; omega))))
      have hB1 : Blk w0 w.heap.size 49 #[.slice A n cap, .bool wb, .int .i64 dir, .bool ex] := by rw [← hw0]; exact (Blk.new _ _ _).alloc _
      have hB2 : Blk w0 (w.heap.size + 1) 28 #[.int .i64 fg, .int .i64 bg, .int .i64 fl] := by rw [← hw0]; exact Blk.new_at (by simp)
      clear hw0
      obtain ⟨r0, r1, r2, r3, rf, rl⟩ := hB1.facts4; obtain ⟨p0, p1, p2, pf, pl⟩ := hB2.facts3
      refine (sane_c A n cap f wb dir ex _ (hr.below hbw) (by omega)).mono ?_
      rintro e w1 ⟨rfl, hg⟩
      replace hg := hg.below
      replace hbw := hbw.trans (hg.mono hbw.size); replace hB1 := hB1.below hg hB1.lt; clear r0 r1 r2 r3 rf rl; obtain ⟨r0, r1, r2, r3, rf, rl⟩ := hB1.facts4; replace hB2 := hB2.below hg hB2.lt; clear p0 p1 p2 pf pl; obtain ⟨p0, p1, p2, pf, pl⟩ := hB2.facts3; clear hg
      go_wp2_with fail
      refine (penSane_c fg bg fl _).mono ?_
      rintro e w2 ⟨rfl, hg⟩
      replace hg := hg.below
      replace hbw := hbw.trans (hg.mono hbw.size); replace hB1 := hB1.below hg hB1.lt; clear r0 r1 r2 r3 rf rl; obtain ⟨r0, r1, r2, r3, rf, rl⟩ := hB1.facts4; replace hB2 := hB2.below hg hB2.lt; clear p0 p1 p2 pf pl; obtain ⟨p0, p1, p2, pf, pl⟩ := hB2.facts3; clear hg
      go_wp2_with fail
      all_goals (go_ret; refine ⟨ebool ?_, (Below.toGrow (by (repeat (first | (with_reducible exact Below.refl _ _) | (with_reducible assumption) | (with_reducible refine Below.grow ?_ ?_ _ _) | (with_reducible refine Below.drewN' ?_ _) | (with_reducible refine Below.drew ?_) | (with_reducible refine Below.alloc ?_ ?_ _) | (with_reducible refine Below.setCell ?_ ?_ _) | omega | (focus (simp; done)) | (focus (simp; omega))))))⟩)
      all_goals (clear r0 r1 r2 r3 rf p0 p1 p2 pf; grind)

def insF (f : Nat → Cl) (at_ m rt : Nat) (c : Cl) (i : Nat) : Cl := if at_ ≤ i ∧ i < at_ + m then c else if at_ + m ≤ i ∧ i < rt then f (i - m) else f i
set_option maxRecDepth 100000 in
set_option maxHeartbeats 4000000 in
theorem insert_mid (A : Option Addr) (n cap : Nat) (f : Nat → Cl) (wb : Bool) (dir : Int) (ex : Bool) (at_ rt m : Nat) (fg bg fl : Int) (w : World) (hr : Rd w A n f) (hs : saneB n f dir = true) (hp : penB fg bg fl = true)
    (hat : at_ < rt) (hrt : rt ≤ n) (hcap : n ≤ cap) (hm : 1 ≤ m) (hlt : m < rt - at_) :
    Calls Try.prog 58 #[.agg #[.slice A n cap, .bool wb, .int .i64 dir, .bool ex], .int .i64 at_, .int .i64 m, .int .i64 rt, .agg #[.int .i64 fg, .int .i64 bg, .int .i64 fl]] w fun e w' => ∃ b, e = .returned (.agg #[.slice (some ⟨b, 0, none⟩) n n, .bool wb, .int .i64 dir, .bool ex]) ∧ w.heap.size ≤ b ∧ Below w.heap.size w w' ∧ Own w' b n (mend n (insF f at_ m rt (blank fg bg fl))) := by
  obtain ⟨hn1, hn2⟩ := sane_len hs
  have hmv : rmovesB n f dir at_ rt fg bg fl = true := by unfold rmovesB; simp [hs, hp]; omega
  obtain ⟨bf, of_, rfl, hbf, hcf⟩ := hr (by omega)
  have HCF := Lib.hid hcf
  clear hcf
  go_enter Try.func58, Try.ntmps58
  go_wp2_with fail
  generalize hw0 : ((w.alloc _).alloc _).alloc _ = w0
  have hbw : Below w.heap.size w w0 := by rw [← hw0]; (repeat (first | (with_reducible exact Below.refl _ _) | (with_reducible assumption) | (with_reducible refine Below.grow ?_ ?_ _ _) | (with_reducible refine Below.drewN' ?_ _) | (with_reducible refine Below.drew ?_) | (with_reducible refine Below.alloc ?_ ?_ _) | (with_reducible refine Below.setCell ?_ ?_ _) | omega | (focus (simp; done)) | (focus (simp; omega))))
  have hB1 : Blk w0 w.heap.size 49 #[.slice (some ⟨bf, of_, none⟩) n cap, .bool wb, .int .i64 dir, .bool ex] := by rw [← hw0]; exact ((Blk.new _ _ _).alloc _).alloc _
  have hB2 : Blk w0 (w.heap.size + 1) 28 #[.int .i64 fg, .int .i64 bg, .int .i64 fl] := by rw [← hw0]; exact (Blk.new_at (by simp)).alloc _
  have hB3 : Blk w0 (w.heap.size + 2) 49 #[.slice none 0 0, .bool false, .int .i64 0, .bool false] := by rw [← hw0]; exact Blk.new_at (by simp)
  clear hw0
  obtain ⟨r0, r1, r2, r3, rf, rl⟩ := hB1.facts4; obtain ⟨p0, p1, p2, pf, pl⟩ := hB2.facts3; obtain ⟨z0, z1, z2, z3, zf, zl⟩ := hB3.facts4
  go_wp2_with fail
  refine (moves_c (some ⟨bf, of_, none⟩) n cap f wb dir ex at_ rt fg bg fl _ (hr.below hbw) (by omega)).mono ?_
  rintro e w1 ⟨rfl, hg⟩
  replace hg := hg.below
  replace hbw := hbw.trans (hg.mono hbw.size); replace hB1 := hB1.below hg hB1.lt; clear r0 r1 r2 r3 rf rl; obtain ⟨r0, r1, r2, r3, rf, rl⟩ := hB1.facts4; replace hB2 := hB2.below hg hB2.lt; clear p0 p1 p2 pf pl; obtain ⟨p0, p1, p2, pf, pl⟩ := hB2.facts3; replace hB3 := hB3.below hg hB3.lt; clear z0 z1 z2 z3 zf zl; obtain ⟨z0, z1, z2, z3, zf, zl⟩ := hB3.facts4; clear hg
  rw [hmv]
  clear hmv
  have c2 : IntKind.i64.wrap ((at_ : Int) + m) = (at_ : Int) + m := IntWalk.i64_in _ (by omega)
  have c3 : IntKind.i64.wrap ((rt : Int) - m) = (rt : Int) - m := IntWalk.i64_in _ (by omega)
  have d1 : ((at_ : Int) + m).toNat = at_ + m := by omega
  have d2 : ((rt : Int) - m).toNat = rt - m := by omega
  have l1 : (0 : Int) ≤ (at_ : Int) + m := by omega
  have l2 : (at_ : Int) + m ≤ rt := by omega
  have l3 : (rt : Int) ≤ n := by omega
  have l4 : (0 : Int) ≤ at_ := by omega
  have l5 : (at_ : Int) ≤ (rt : Int) - m := by omega
  have l6 : (rt : Int) - m ≤ cap := by omega
  have l7 : (at_ : Int) ≤ (at_ : Int) + m := by omega
  have l8 : (at_ : Int) + m ≤ n := by omega
  have n1 : ¬ (n = at_ + m) := by omega
  have n2 : ¬ (cap = at_) := by omega
  have n3 : ¬ (n = at_) := by omega
  go_wp2_with fail
  refine (cells_c (some ⟨bf, of_, none⟩) n cap f wb dir ex _ (hr.below hbw) (by omega) (by omega)).mono ?_
  rintro e w4 ⟨b, rfl, hbb, hg, hob⟩
  have hbn : w.heap.size + 2 < b := by omega
  have hrx := (hr.below hbw).below hg
  replace hbw := hbw.trans (hg.mono hbw.size); replace hB1 := hB1.below hg hB1.lt; clear r0 r1 r2 r3 rf rl; obtain ⟨r0, r1, r2, r3, rf, rl⟩ := hB1.facts4; replace hB2 := hB2.below hg hB2.lt; clear p0 p1 p2 pf pl; obtain ⟨p0, p1, p2, pf, pl⟩ := hB2.facts3; replace hB3 := hB3.below hg hB3.lt; clear z0 z1 z2 z3 zf zl; obtain ⟨z0, z1, z2, z3, zf, zl⟩ := hB3.facts4; clear hg
  have hlb := hob.lt
  have hbb2 : w.heap.size ≤ b := by omega
  obtain ⟨_, _, e2, hbf', hcf'⟩ := hrx (by omega)
  obtain ⟨rfl, rfl⟩ : bf = _ ∧ of_ = _ := by simpa using e2
  clear e2
  have HCX := Lib.hid hcf'
  clear hcf' hrx
  go_wp2_with fail
  refine hr_start (S := (fun w' => w'.cell? ⟨w.heap.size, 0, none⟩ = some (.slice (some ⟨bf, of_, none⟩) n cap) ∧ w'.cell? ⟨w.heap.size, 1, none⟩ = some (.bool wb) ∧ w'.cell? ⟨w.heap.size, 2, none⟩ = some (.int .i64 dir) ∧ w'.cell? ⟨w.heap.size, 3, none⟩ = some (.bool ex))) (by kernel_rfl) rfl ?_ (fun hHeld => ?_)
  · ((try dsimp only); go_simp)
  refine hr_take (i := 0) rfl rfl (by kernel_rfl) (by kernel_rfl) (by kernel_rfl) (by kernel_rfl) (fun _ _ _ h => h) (v := ?_) ?_ (by assumption) ?_
  rotate_left
  focus (intro wS hSw; (try dsimp only at hSw); go_simp; (try with_reducible rfl))
  simp only [List.set_cons_zero, List.set_cons_succ]
  refine hr_take (i := 1) rfl rfl (by kernel_rfl) (by kernel_rfl) (by kernel_rfl) (by kernel_rfl) (fun _ _ _ h => h) (v := ?_) ?_ (by assumption) ?_
  rotate_left
  focus (intro wS hSw; (try dsimp only at hSw); go_simp; (try with_reducible rfl))
  simp only [List.set_cons_zero, List.set_cons_succ]
  refine hr_take (i := 2) rfl rfl (by kernel_rfl) (by kernel_rfl) (by kernel_rfl) (by kernel_rfl) (fun _ _ _ h => h) (v := ?_) ?_ (by assumption) ?_
  rotate_left
  focus (intro wS hSw; (try dsimp only at hSw); go_simp; (try with_reducible rfl))
  simp only [List.set_cons_zero, List.set_cons_succ]
  refine hr_take (i := 3) rfl rfl (by kernel_rfl) (by kernel_rfl) (by kernel_rfl) (by kernel_rfl) (fun _ _ _ h => h) (v := ?_) ?_ (by assumption) ?_
  rotate_left
  focus (intro wS hSw; (try dsimp only at hSw); go_simp; (try with_reducible rfl))
  simp only [List.set_cons_zero, List.set_cons_succ]
  refine hr_take (i := 4) rfl rfl (by kernel_rfl) (by kernel_rfl) (by kernel_rfl) (by kernel_rfl) (fun _ _ _ h => h) (v := ?_) ?_ (by assumption) ?_
  rotate_left
  focus (intro wS hSw; (try dsimp only at hSw); go_simp; (try with_reducible rfl))
  simp only [List.set_cons_zero, List.set_cons_succ]
  refine hr_take (i := 5) rfl rfl (by kernel_rfl) (by kernel_rfl) (by kernel_rfl) (by kernel_rfl) (fun _ _ _ h => h) (v := ?_) ?_ (by assumption) ?_
  rotate_left
  focus (intro wS hSw; (try dsimp only at hSw); go_simp; (try with_reducible rfl))
  simp only [List.set_cons_zero, List.set_cons_succ]
  refine hr_take (i := 6) rfl rfl (by kernel_rfl) (by kernel_rfl) (by kernel_rfl) (by kernel_rfl) (fun _ _ _ h => h) (v := ?_) ?_ (by assumption) ?_
  rotate_left
  focus (intro wS hSw; (try dsimp only at hSw); go_simp; (try with_reducible rfl))
  simp only [List.set_cons_zero, List.set_cons_succ]
  refine hr_take (i := 7) rfl rfl (by kernel_rfl) (by kernel_rfl) (by kernel_rfl) (by kernel_rfl) (fun _ _ _ h => h) (v := ?_) ?_ (by assumption) ?_
  rotate_left
  focus (intro wS hSw; (try dsimp only at hSw); go_simp; (try with_reducible rfl))
  simp only [List.set_cons_zero, List.set_cons_succ]
  refine hr_take (i := 8) rfl rfl (by kernel_rfl) (by kernel_rfl) (by kernel_rfl) (by kernel_rfl) (fun _ _ _ h => h) (v := ?_) ?_ (by assumption) ?_
  rotate_left
  focus (intro wS hSw; (try dsimp only at hSw); go_simp; (try with_reducible rfl))
  simp only [List.set_cons_zero, List.set_cons_succ]
  refine hr_take (i := 9) rfl rfl (by kernel_rfl) (by kernel_rfl) (by kernel_rfl) (by kernel_rfl) (fun _ _ _ h => h) (v := ?_) ?_ (by assumption) ?_
  rotate_left
  focus (intro wS hSw; (try dsimp only at hSw); go_simp; (try with_reducible rfl))
  simp only [List.set_cons_zero, List.set_cons_succ]
  refine hr_take (i := 10) rfl rfl (by kernel_rfl) (by kernel_rfl) (by kernel_rfl) (by kernel_rfl) (fun _ _ _ h => h) (v := ?_) ?_ (by assumption) ?_
  rotate_left
  focus (intro wS hSw; (try dsimp only at hSw); go_simp; (try with_reducible rfl))
  simp only [List.set_cons_zero, List.set_cons_succ]
  refine hr_take (i := 11) rfl rfl (by kernel_rfl) (by kernel_rfl) (by kernel_rfl) (by kernel_rfl) (fun _ _ _ h => h) (v := ?_) ?_ (by assumption) ?_
  rotate_left
  focus (intro wS hSw; (try dsimp only at hSw); go_simp; (try with_reducible rfl))
  simp only [List.set_cons_zero, List.set_cons_succ]
  refine hr_take (i := 12) rfl rfl (by kernel_rfl) (by kernel_rfl) (by kernel_rfl) (by kernel_rfl) (fun _ _ _ h => h) (v := ?_) ?_ (by assumption) ?_
  rotate_left
  focus (intro wS hSw; (try dsimp only at hSw); go_simp; (try with_reducible rfl))
  simp only [List.set_cons_zero, List.set_cons_succ]
  refine hr_op (i := 13) rfl rfl (by kernel_rfl) (by kernel_rfl) (fun K hK => ?_)
  (refine wp_copy_rows (.tmp 32) (.tmp 39) _ _ rfl 46 7 Try.underlying47 cellSize b ((at_ + m) * 7) (n * 7) 46 (valF f) _ _ _ _ (rt - at_ - m) ⟨bf, of_ + at_ * 7, none⟩ (fun j => valF f (at_ * 7 + j)) (by rfl) (by rfl) hob (by show min _ _ = _; omega) (fun j hj => by have h := Rd.cellsOf HCX.out (at_ * 7 + j) (by omega); rw [addr_add] at h ⊢; rw [Nat.add_assoc]; exact h) (by omega) (fun j _ => val_one _ _) ?_; intro w6 hrow6 hg6 hz6; obtain ⟨y0, y1, y2, y3, _, _⟩ := (Blk.gb (show Blk w4.drew w.heap.size _ _ from hB1) hg6 (by intro e; injection e; omega)).facts4)
  refine hK.out _ _ ?_ (fun hHeld => ?_)
  · ((try dsimp only); go_simp)
  clear hK K
  simp only [List.set_cons_zero, List.set_cons_succ]
  refine hr_done (by kernel_rfl) ?_
  have hg : w4.grownBy w6 (some b) := gb_trans (gb_drew (World.grownBy.refl _ _)) hg6
  have ho6 : Own w6 b n (fun i => if at_ + m ≤ i ∧ i < at_ + m + (rt - at_ - m) then f (at_ + (i - (at_ + m))) else f i) := Own.copied hrow6
  clear hg6 hHeld y0 y1 y2 y3 hz6 hrow6 hob HCX
  have hlb6 := ho6.lt
  have hbw6 := below_gb hbw hg hbb2 hbw.size
  replace hB1 := hB1.gb hg (by intro e; injection e; omega); clear r0 r1 r2 r3 rf rl; obtain ⟨r0, r1, r2, r3, rf, rl⟩ := hB1.facts4; replace hB2 := hB2.gb hg (by intro e; injection e; omega); clear p0 p1 p2 pf pl; obtain ⟨p0, p1, p2, pf, pl⟩ := hB2.facts3; replace hB3 := hB3.gb hg (by intro e; injection e; omega); clear z0 z1 z2 z3 zf zl; obtain ⟨z0, z1, z2, z3, zf, zl⟩ := hB3.facts4
  clear hg
  go_wp2_with fail
  refine hr_start (S := (fun w' => w'.cell? ⟨w.heap.size + 1, 0, none⟩ = some (.int .i64 fg) ∧ w'.cell? ⟨w.heap.size + 1, 1, none⟩ = some (.int .i64 bg) ∧ w'.cell? ⟨w.heap.size + 1, 2, none⟩ = some (.int .i64 fl))) (by kernel_rfl) rfl ?_ (fun hHeld => ?_)
  · ((try dsimp only); go_simp)
  refine hr_take (i := 0) rfl rfl (by kernel_rfl) (by kernel_rfl) (by kernel_rfl) (by kernel_rfl) (fun _ _ _ h => h) (v := ?_) ?_ (by assumption) ?_
  rotate_left
  focus (intro wS hSw; (try dsimp only at hSw); go_simp; (try with_reducible rfl))
  simp only [List.set_cons_zero, List.set_cons_succ]
  refine hr_take (i := 1) rfl rfl (by kernel_rfl) (by kernel_rfl) (by kernel_rfl) (by kernel_rfl) (fun _ _ _ h => h) (v := ?_) ?_ (by assumption) ?_
  rotate_left
  focus (intro wS hSw; (try dsimp only at hSw); go_simp; (try with_reducible rfl))
  simp only [List.set_cons_zero, List.set_cons_succ]
  refine hr_take (i := 2) rfl rfl (by kernel_rfl) (by kernel_rfl) (by kernel_rfl) (by kernel_rfl) (fun _ _ _ h => h) (v := ?_) ?_ (by assumption) ?_
  rotate_left
  focus (intro wS hSw; (try dsimp only at hSw); go_simp; (try with_reducible rfl))
  simp only [List.set_cons_zero, List.set_cons_succ]
  refine hr_take (i := 3) rfl rfl (by kernel_rfl) (by kernel_rfl) (by kernel_rfl) (by kernel_rfl) (fun _ _ _ h => h) (v := ?_) ?_ (by assumption) ?_
  rotate_left
  focus (intro wS hSw; (try dsimp only at hSw); go_simp; (try with_reducible rfl))
  simp only [List.set_cons_zero, List.set_cons_succ]
  refine hr_take (i := 4) rfl rfl (by kernel_rfl) (by kernel_rfl) (by kernel_rfl) (by kernel_rfl) (fun _ _ _ h => h) (v := ?_) ?_ (by assumption) ?_
  rotate_left
  focus (intro wS hSw; (try dsimp only at hSw); go_simp; (try with_reducible rfl))
  simp only [List.set_cons_zero, List.set_cons_succ]
  refine hr_take (i := 5) rfl rfl (by kernel_rfl) (by kernel_rfl) (by kernel_rfl) (by kernel_rfl) (fun _ _ _ h => h) (v := ?_) ?_ (by assumption) ?_
  rotate_left
  focus (intro wS hSw; (try dsimp only at hSw); go_simp; (try with_reducible rfl))
  simp only [List.set_cons_zero, List.set_cons_succ]
  refine hr_take (i := 6) rfl rfl (by kernel_rfl) (by kernel_rfl) (by kernel_rfl) (by kernel_rfl) (fun _ _ _ h => h) (v := ?_) ?_ (by assumption) ?_
  rotate_left
  focus (intro wS hSw; (try dsimp only at hSw); go_simp; (try with_reducible rfl))
  simp only [List.set_cons_zero, List.set_cons_succ]
  refine hr_op (i := 7) rfl rfl (by kernel_rfl) (by kernel_rfl) (fun K hK => ?_)
  go_simp
  ((with_reducible refine (lay_c b (at_ * 7) n at_ m _ _ fg bg fl _ (own_drew ho6) rfl (by omega) (by omega)).mono ?_); rintro e w8 ⟨rfl, hg8, ho8⟩; obtain ⟨y0, y1, y2, _, _⟩ := (Blk.gb (show Blk w6.drew (w.heap.size + 1) _ _ from hB2) hg8 (by intro e; injection e; omega)).facts3)
  (try go_wp2_with fail)
  refine hK.out _ _ ?_ (fun hHeld => ?_)
  · ((try dsimp only); go_simp)
  clear hK K
  simp only [List.set_cons_zero, List.set_cons_succ]
  refine hr_done (by kernel_rfl) ?_
  have hg : w6.grownBy w8 (some b) := gb_trans (gb_drew (World.grownBy.refl _ _)) hg8
  clear hg8 hHeld y0 y1 y2 ho6
  have hbw8 := below_gb hbw6 hg hbb2 hbw6.size
  replace hB1 := hB1.gb hg (by intro e; injection e; omega); clear r0 r1 r2 r3 rf rl; obtain ⟨r0, r1, r2, r3, rf, rl⟩ := hB1.facts4; replace hB3 := hB3.gb hg (by intro e; injection e; omega); clear z0 z1 z2 z3 zf zl; obtain ⟨z0, z1, z2, z3, zf, zl⟩ := hB3.facts4
  clear p0 p1 p2 pf pl hB2 hg
  go_wp2_with fail
  refine (mended_c b n n _ (some ⟨bf, of_, none⟩) n cap wb dir ex _ ho8 (by omega)).mono ?_
  rintro e w9 ⟨rfl, hg, ho9⟩
  have hbw9 := below_gb hbw8 hg hbb2 hbw8.size
  have hoF : Own w9 b n (mend n (insF f at_ m rt (blank fg bg fl))) := ho9.congr fun i hi => mend_congr (fun j _ => by unfold laid insF; grind) hi
  clear ho9 ho8
  replace hB1 := hB1.gb hg (by intro e; injection e; omega); clear r0 r1 r2 r3 rf rl; obtain ⟨r0, r1, r2, r3, rf, rl⟩ := hB1.facts4; replace hB3 := hB3.gb hg (by intro e; injection e; omega); clear z0 z1 z2 z3 zf zl; obtain ⟨z0, z1, z2, z3, zf, zl⟩ := hB3.facts4
  go_wp2
  refine bodyPost_ret (v := _) (by simp [results, Try.results58, go_sem, *]; try exact rfl) rfl ⟨b, rfl, hbb2, by (repeat (first | (with_reducible exact Below.refl _ _) | (with_reducible assumption) | (with_reducible refine Below.grow ?_ ?_ _ _) | (with_reducible refine Below.drewN' ?_ _) | (with_reducible refine Below.drew ?_) | (with_reducible refine Below.alloc ?_ ?_ _) | (with_reducible refine Below.setCell ?_ ?_ _) | omega | (focus (simp; done)) | (focus (simp; omega)))), by (repeat (first | (with_reducible assumption) | (with_reducible refine Own.grow ?_ _ _) | (with_reducible refine Own.drewN ?_ _) | (with_reducible refine own_drew ?_) | (with_reducible refine Own.alloc ?_ _) | (with_reducible refine Own.far' ?_ ?_ _) | (focus (simp; done)) | (focus (simp; omega))))⟩
end Go.Proofs.Ytlchffkabpfjpaa.Row
end
section
/- Walks of row.Insert and row.Delete (written by movegen.py). -/
namespace Go.Proofs.Ytlchffkabpfjpaa.Row
open Go.RowKit
def delF (f : Nat → Cl) (at_ m rt : Nat) (c : Cl) (i : Nat) : Cl := if rt - m ≤ i ∧ i < rt then c else if at_ ≤ i ∧ i < rt - m then f (i + m) else f i
set_option maxRecDepth 100000 in
set_option maxHeartbeats 4000000 in
theorem insert_all (A : Option Addr) (n cap : Nat) (f : Nat → Cl) (wb : Bool) (dir : Int) (ex : Bool) (at_ rt m : Nat) (M fg bg fl : Int) (w : World) (hr : Rd w A n f) (hs : saneB n f dir = true) (hp : penB fg bg fl = true)
    (hat : at_ < rt) (hrt : rt ≤ n) (hcap : n ≤ cap) (hm : (rt : Int) - at_ = (m : Int)) (hM : (m : Int) < M) :
    Calls Try.prog 58 #[.agg #[.slice A n cap, .bool wb, .int .i64 dir, .bool ex], .int .i64 at_, .int .i64 M, .int .i64 rt, .agg #[.int .i64 fg, .int .i64 bg, .int .i64 fl]] w fun e w' => ∃ b, e = .returned (.agg #[.slice (some ⟨b, 0, none⟩) n n, .bool wb, .int .i64 dir, .bool ex]) ∧ w.heap.size ≤ b ∧ Below w.heap.size w w' ∧ Own w' b n (mend n (insF f at_ m rt (blank fg bg fl))) := by
  obtain ⟨hn1, hn2⟩ := sane_len hs
  have hMm : (rt : Int) - at_ < M := by omega
  have hmv : rmovesB n f dir at_ rt fg bg fl = true := by unfold rmovesB; simp [hs, hp]; omega
  obtain ⟨bf, of_, rfl, hbf, hcf⟩ := hr (by omega)
  clear hcf
  go_enter Try.func58, Try.ntmps58
  go_wp2_with fail
  generalize hw0 : ((w.alloc _).alloc _).alloc _ = w0
  have hbw : Below w.heap.size w w0 := by rw [← hw0]; (repeat (first | (with_reducible exact Below.refl _ _) | (with_reducible assumption) | (with_reducible refine Below.grow ?_ ?_ _ _) | (with_reducible refine Below.drewN' ?_ _) | (with_reducible refine Below.drew ?_) | (with_reducible refine Below.alloc ?_ ?_ _) | (with_reducible refine Below.setCell ?_ ?_ _) | omega | (focus (simp; done)) | (focus (simp; omega))))
  have hB1 : Blk w0 w.heap.size 49 #[.slice (some ⟨bf, of_, none⟩) n cap, .bool wb, .int .i64 dir, .bool ex] := by rw [← hw0]; exact ((Blk.new _ _ _).alloc _).alloc _
  have hB2 : Blk w0 (w.heap.size + 1) 28 #[.int .i64 fg, .int .i64 bg, .int .i64 fl] := by rw [← hw0]; exact (Blk.new_at (by simp)).alloc _
  have hB3 : Blk w0 (w.heap.size + 2) 49 #[.slice none 0 0, .bool false, .int .i64 0, .bool false] := by rw [← hw0]; exact Blk.new_at (by simp)
  clear hw0
  obtain ⟨r0, r1, r2, r3, rf, rl⟩ := hB1.facts4; obtain ⟨p0, p1, p2, pf, pl⟩ := hB2.facts3; obtain ⟨z0, z1, z2, z3, zf, zl⟩ := hB3.facts4
  go_wp2_with fail
  refine (moves_c (some ⟨bf, of_, none⟩) n cap f wb dir ex at_ rt fg bg fl _ (hr.below hbw) (by omega)).mono ?_
  rintro e w1 ⟨rfl, hg⟩
  replace hg := hg.below
  replace hbw := hbw.trans (hg.mono hbw.size); replace hB1 := hB1.below hg hB1.lt; clear r0 r1 r2 r3 rf rl; obtain ⟨r0, r1, r2, r3, rf, rl⟩ := hB1.facts4; replace hB2 := hB2.below hg hB2.lt; clear p0 p1 p2 pf pl; obtain ⟨p0, p1, p2, pf, pl⟩ := hB2.facts3; replace hB3 := hB3.below hg hB3.lt; clear z0 z1 z2 z3 zf zl; obtain ⟨z0, z1, z2, z3, zf, zl⟩ := hB3.facts4; clear hg
  rw [hmv]
  clear hmv
  have c2 : IntKind.i64.wrap ((at_ : Int) + m) = (at_ : Int) + m := IntWalk.i64_in _ (by omega)
  have c3 : IntKind.i64.wrap ((rt : Int) - m) = (rt : Int) - m := IntWalk.i64_in _ (by omega)
  have d1 : ((at_ : Int) + m).toNat = at_ + m := by omega
  have d2 : ((rt : Int) - m).toNat = rt - m := by omega
  have l1 : (0 : Int) ≤ (at_ : Int) + m := by omega
  have l2 : (at_ : Int) + m ≤ rt := by omega
  have l3 : (rt : Int) ≤ n := by omega
  have l4 : (0 : Int) ≤ at_ := by omega
  have l5 : (at_ : Int) ≤ (rt : Int) - m := by omega
  have l6 : (rt : Int) - m ≤ cap := by omega
  have l7 : (at_ : Int) ≤ (at_ : Int) + m := by omega
  have l8 : (at_ : Int) + m ≤ n := by omega
  have l9 : (rt : Int) ≤ cap := by omega
  have l10 : (rt : Int) - m ≤ n := by omega
  have l11 : (rt : Int) - m ≤ rt := by omega
  have l12 : (0 : Int) ≤ (rt : Int) - m := by omega
  have l17 : (m : Int) ≤ (rt : Int) := by omega
  have n2 : ¬ (cap = at_) := by omega
  have n3 : ¬ (n = at_) := by omega
  go_wp2_with fail
  refine (cells_c (some ⟨bf, of_, none⟩) n cap f wb dir ex _ (hr.below hbw) (by omega) (by omega)).mono ?_
  rintro e w4 ⟨b, rfl, hbb, hg, hob⟩
  have hbn : w.heap.size + 2 < b := by omega
  have hrx := (hr.below hbw).below hg
  replace hbw := hbw.trans (hg.mono hbw.size); replace hB1 := hB1.below hg hB1.lt; clear r0 r1 r2 r3 rf rl; obtain ⟨r0, r1, r2, r3, rf, rl⟩ := hB1.facts4; replace hB2 := hB2.below hg hB2.lt; clear p0 p1 p2 pf pl; obtain ⟨p0, p1, p2, pf, pl⟩ := hB2.facts3; replace hB3 := hB3.below hg hB3.lt; clear z0 z1 z2 z3 zf zl; obtain ⟨z0, z1, z2, z3, zf, zl⟩ := hB3.facts4; clear hg
  have hlb := hob.lt
  have hbb2 : w.heap.size ≤ b := by omega
  obtain ⟨_, _, e2, hbf', hcf'⟩ := hrx (by omega)
  obtain ⟨rfl, rfl⟩ : bf = _ ∧ of_ = _ := by simpa using e2
  clear e2
  have HCX := Lib.hid hcf'
  clear hcf' hrx
  go_wp2_with fail
  refine hr_start (S := (fun w' => w'.cell? ⟨w.heap.size, 0, none⟩ = some (.slice (some ⟨bf, of_, none⟩) n cap) ∧ w'.cell? ⟨w.heap.size, 1, none⟩ = some (.bool wb) ∧ w'.cell? ⟨w.heap.size, 2, none⟩ = some (.int .i64 dir) ∧ w'.cell? ⟨w.heap.size, 3, none⟩ = some (.bool ex))) (by kernel_rfl) rfl ?_ (fun hHeld => ?_)
  · ((try dsimp only); go_simp)
  refine hr_take (i := 0) rfl rfl (by kernel_rfl) (by kernel_rfl) (by kernel_rfl) (by kernel_rfl) (fun _ _ _ h => h) (v := ?_) ?_ (by assumption) ?_
  rotate_left
  focus (intro wS hSw; (try dsimp only at hSw); go_simp; (try with_reducible rfl))
  simp only [List.set_cons_zero, List.set_cons_succ]
  refine hr_take (i := 1) rfl rfl (by kernel_rfl) (by kernel_rfl) (by kernel_rfl) (by kernel_rfl) (fun _ _ _ h => h) (v := ?_) ?_ (by assumption) ?_
  rotate_left
  focus (intro wS hSw; (try dsimp only at hSw); go_simp; (try with_reducible rfl))
  simp only [List.set_cons_zero, List.set_cons_succ]
  refine hr_take (i := 2) rfl rfl (by kernel_rfl) (by kernel_rfl) (by kernel_rfl) (by kernel_rfl) (fun _ _ _ h => h) (v := ?_) ?_ (by assumption) ?_
  rotate_left
  focus (intro wS hSw; (try dsimp only at hSw); go_simp; (try with_reducible rfl))
  simp only [List.set_cons_zero, List.set_cons_succ]
  refine hr_take (i := 3) rfl rfl (by kernel_rfl) (by kernel_rfl) (by kernel_rfl) (by kernel_rfl) (fun _ _ _ h => h) (v := ?_) ?_ (by assumption) ?_
  rotate_left
  focus (intro wS hSw; (try dsimp only at hSw); go_simp; (try with_reducible rfl))
  simp only [List.set_cons_zero, List.set_cons_succ]
  refine hr_take (i := 4) rfl rfl (by kernel_rfl) (by kernel_rfl) (by kernel_rfl) (by kernel_rfl) (fun _ _ _ h => h) (v := ?_) ?_ (by assumption) ?_
  rotate_left
  focus (intro wS hSw; (try dsimp only at hSw); go_simp; (try with_reducible rfl))
  simp only [List.set_cons_zero, List.set_cons_succ]
  refine hr_take (i := 5) rfl rfl (by kernel_rfl) (by kernel_rfl) (by kernel_rfl) (by kernel_rfl) (fun _ _ _ h => h) (v := ?_) ?_ (by assumption) ?_
  rotate_left
  focus (intro wS hSw; (try dsimp only at hSw); go_simp; (try with_reducible rfl))
  simp only [List.set_cons_zero, List.set_cons_succ]
  generalize (@ite (Option Addr) (n = at_ + m) _ _ _) = zz
  refine hr_take (i := 6) rfl rfl (by kernel_rfl) (by kernel_rfl) (by kernel_rfl) (by kernel_rfl) (fun _ _ _ h => h) (v := ?_) ?_ (by assumption) ?_
  rotate_left
  focus (intro wS hSw; (try dsimp only at hSw); go_simp; (try with_reducible rfl))
  simp only [List.set_cons_zero, List.set_cons_succ]
  refine hr_take (i := 7) rfl rfl (by kernel_rfl) (by kernel_rfl) (by kernel_rfl) (by kernel_rfl) (fun _ _ _ h => h) (v := ?_) ?_ (by assumption) ?_
  rotate_left
  focus (intro wS hSw; (try dsimp only at hSw); go_simp; (try with_reducible rfl))
  simp only [List.set_cons_zero, List.set_cons_succ]
  refine hr_take (i := 8) rfl rfl (by kernel_rfl) (by kernel_rfl) (by kernel_rfl) (by kernel_rfl) (fun _ _ _ h => h) (v := ?_) ?_ (by assumption) ?_
  rotate_left
  focus (intro wS hSw; (try dsimp only at hSw); go_simp; (try with_reducible rfl))
  simp only [List.set_cons_zero, List.set_cons_succ]
  refine hr_take (i := 9) rfl rfl (by kernel_rfl) (by kernel_rfl) (by kernel_rfl) (by kernel_rfl) (fun _ _ _ h => h) (v := ?_) ?_ (by assumption) ?_
  rotate_left
  focus (intro wS hSw; (try dsimp only at hSw); go_simp; (try with_reducible rfl))
  simp only [List.set_cons_zero, List.set_cons_succ]
  refine hr_take (i := 10) rfl rfl (by kernel_rfl) (by kernel_rfl) (by kernel_rfl) (by kernel_rfl) (fun _ _ _ h => h) (v := ?_) ?_ (by assumption) ?_
  rotate_left
  focus (intro wS hSw; (try dsimp only at hSw); go_simp; (try with_reducible rfl))
  simp only [List.set_cons_zero, List.set_cons_succ]
  refine hr_take (i := 11) rfl rfl (by kernel_rfl) (by kernel_rfl) (by kernel_rfl) (by kernel_rfl) (fun _ _ _ h => h) (v := ?_) ?_ (by assumption) ?_
  rotate_left
  focus (intro wS hSw; (try dsimp only at hSw); go_simp; (try with_reducible rfl))
  simp only [List.set_cons_zero, List.set_cons_succ]
  refine hr_take (i := 12) rfl rfl (by kernel_rfl) (by kernel_rfl) (by kernel_rfl) (by kernel_rfl) (fun _ _ _ h => h) (v := ?_) ?_ (by assumption) ?_
  rotate_left
  focus (intro wS hSw; (try dsimp only at hSw); go_simp; (try with_reducible rfl))
  simp only [List.set_cons_zero, List.set_cons_succ]
  refine hr_op (i := 13) rfl rfl (by kernel_rfl) (by kernel_rfl) (fun K hK => ?_)
  (refine wp_copy_rows0 (.tmp 32) (.tmp 39) _ _ rfl 46 7 Try.underlying47 cellSize _ _ _ _ _ _ (by rfl) (by rfl) (by show min _ _ = _; omega) ?_)
  refine hK.out _ _ ?_ (fun hHeld => ?_)
  · ((try dsimp only); go_simp)
  clear hK K
  simp only [List.set_cons_zero, List.set_cons_succ]
  refine hr_done (by kernel_rfl) ?_
  have hg : w4.grownBy w4.drew (some b) := gb_drew (World.grownBy.refl _ _)
  have ho6 : Own w4.drew b n f := own_drew hob
  clear hHeld hob HCX
  generalize w4.drew = w6 at *
  have hlb6 := ho6.lt
  have hbw6 := below_gb hbw hg hbb2 hbw.size
  replace hB1 := hB1.gb hg (by intro e; injection e; omega); clear r0 r1 r2 r3 rf rl; obtain ⟨r0, r1, r2, r3, rf, rl⟩ := hB1.facts4; replace hB2 := hB2.gb hg (by intro e; injection e; omega); clear p0 p1 p2 pf pl; obtain ⟨p0, p1, p2, pf, pl⟩ := hB2.facts3; replace hB3 := hB3.gb hg (by intro e; injection e; omega); clear z0 z1 z2 z3 zf zl; obtain ⟨z0, z1, z2, z3, zf, zl⟩ := hB3.facts4
  clear hg
  go_wp2_with fail
  refine hr_start (S := (fun w' => w'.cell? ⟨w.heap.size + 1, 0, none⟩ = some (.int .i64 fg) ∧ w'.cell? ⟨w.heap.size + 1, 1, none⟩ = some (.int .i64 bg) ∧ w'.cell? ⟨w.heap.size + 1, 2, none⟩ = some (.int .i64 fl))) (by kernel_rfl) rfl ?_ (fun hHeld => ?_)
  · ((try dsimp only); go_simp)
  refine hr_take (i := 0) rfl rfl (by kernel_rfl) (by kernel_rfl) (by kernel_rfl) (by kernel_rfl) (fun _ _ _ h => h) (v := ?_) ?_ (by assumption) ?_
  rotate_left
  focus (intro wS hSw; (try dsimp only at hSw); go_simp; (try with_reducible rfl))
  simp only [List.set_cons_zero, List.set_cons_succ]
  refine hr_take (i := 1) rfl rfl (by kernel_rfl) (by kernel_rfl) (by kernel_rfl) (by kernel_rfl) (fun _ _ _ h => h) (v := ?_) ?_ (by assumption) ?_
  rotate_left
  focus (intro wS hSw; (try dsimp only at hSw); go_simp; (try with_reducible rfl))
  simp only [List.set_cons_zero, List.set_cons_succ]
  refine hr_take (i := 2) rfl rfl (by kernel_rfl) (by kernel_rfl) (by kernel_rfl) (by kernel_rfl) (fun _ _ _ h => h) (v := ?_) ?_ (by assumption) ?_
  rotate_left
  focus (intro wS hSw; (try dsimp only at hSw); go_simp; (try with_reducible rfl))
  simp only [List.set_cons_zero, List.set_cons_succ]
  refine hr_take (i := 3) rfl rfl (by kernel_rfl) (by kernel_rfl) (by kernel_rfl) (by kernel_rfl) (fun _ _ _ h => h) (v := ?_) ?_ (by assumption) ?_
  rotate_left
  focus (intro wS hSw; (try dsimp only at hSw); go_simp; (try with_reducible rfl))
  simp only [List.set_cons_zero, List.set_cons_succ]
  refine hr_take (i := 4) rfl rfl (by kernel_rfl) (by kernel_rfl) (by kernel_rfl) (by kernel_rfl) (fun _ _ _ h => h) (v := ?_) ?_ (by assumption) ?_
  rotate_left
  focus (intro wS hSw; (try dsimp only at hSw); go_simp; (try with_reducible rfl))
  simp only [List.set_cons_zero, List.set_cons_succ]
  refine hr_take (i := 5) rfl rfl (by kernel_rfl) (by kernel_rfl) (by kernel_rfl) (by kernel_rfl) (fun _ _ _ h => h) (v := ?_) ?_ (by assumption) ?_
  rotate_left
  focus (intro wS hSw; (try dsimp only at hSw); go_simp; (try with_reducible rfl))
  simp only [List.set_cons_zero, List.set_cons_succ]
  refine hr_take (i := 6) rfl rfl (by kernel_rfl) (by kernel_rfl) (by kernel_rfl) (by kernel_rfl) (fun _ _ _ h => h) (v := ?_) ?_ (by assumption) ?_
  rotate_left
  focus (intro wS hSw; (try dsimp only at hSw); go_simp; (try with_reducible rfl))
  simp only [List.set_cons_zero, List.set_cons_succ]
  refine hr_op (i := 7) rfl rfl (by kernel_rfl) (by kernel_rfl) (fun K hK => ?_)
  go_simp
  ((with_reducible refine (lay_c b (at_ * 7) n at_ m _ _ fg bg fl _ (own_drew ho6) rfl (by omega) (by omega)).mono ?_); rintro e w8 ⟨rfl, hg8, ho8⟩; obtain ⟨y0, y1, y2, _, _⟩ := (Blk.gb (show Blk w6.drew (w.heap.size + 1) _ _ from hB2) hg8 (by intro e; injection e; omega)).facts3)
  (try go_wp2_with fail)
  refine hK.out _ _ ?_ (fun hHeld => ?_)
  · ((try dsimp only); go_simp)
  clear hK K
  simp only [List.set_cons_zero, List.set_cons_succ]
  refine hr_done (by kernel_rfl) ?_
  have hg : w6.grownBy w8 (some b) := gb_trans (gb_drew (World.grownBy.refl _ _)) hg8
  clear hg8 hHeld y0 y1 y2 ho6
  have hbw8 := below_gb hbw6 hg hbb2 hbw6.size
  replace hB1 := hB1.gb hg (by intro e; injection e; omega); clear r0 r1 r2 r3 rf rl; obtain ⟨r0, r1, r2, r3, rf, rl⟩ := hB1.facts4; replace hB3 := hB3.gb hg (by intro e; injection e; omega); clear z0 z1 z2 z3 zf zl; obtain ⟨z0, z1, z2, z3, zf, zl⟩ := hB3.facts4
  clear p0 p1 p2 pf pl hB2 hg
  go_wp2_with fail
  refine (mended_c b n n _ (some ⟨bf, of_, none⟩) n cap wb dir ex _ ho8 (by omega)).mono ?_
  rintro e w9 ⟨rfl, hg, ho9⟩
  have hbw9 := below_gb hbw8 hg hbb2 hbw8.size
  have hoF : Own w9 b n (mend n (insF f at_ m rt (blank fg bg fl))) := ho9.congr fun i hi => mend_congr (fun j _ => by unfold laid insF; grind) hi
  clear ho9 ho8
  replace hB1 := hB1.gb hg (by intro e; injection e; omega); clear r0 r1 r2 r3 rf rl; obtain ⟨r0, r1, r2, r3, rf, rl⟩ := hB1.facts4; replace hB3 := hB3.gb hg (by intro e; injection e; omega); clear z0 z1 z2 z3 zf zl; obtain ⟨z0, z1, z2, z3, zf, zl⟩ := hB3.facts4
  go_wp2
  refine bodyPost_ret (v := _) (by simp [results, Try.results58, go_sem, *]; try exact rfl) rfl ⟨b, rfl, hbb2, by (repeat (first | (with_reducible exact Below.refl _ _) | (with_reducible assumption) | (with_reducible refine Below.grow ?_ ?_ _ _) | (with_reducible refine Below.drewN' ?_ _) | (with_reducible refine Below.drew ?_) | (with_reducible refine Below.alloc ?_ ?_ _) | (with_reducible refine Below.setCell ?_ ?_ _) | omega | (focus (simp; done)) | (focus (simp; omega)))), by (repeat (first | (with_reducible assumption) | (with_reducible refine Own.grow ?_ _ _) | (with_reducible refine Own.drewN ?_ _) | (with_reducible refine own_drew ?_) | (with_reducible refine Own.alloc ?_ _) | (with_reducible refine Own.far' ?_ ?_ _) | (focus (simp; done)) | (focus (simp; omega))))⟩

set_option maxRecDepth 100000 in
set_option maxHeartbeats 4000000 in
theorem insert_eq (A : Option Addr) (n cap : Nat) (f : Nat → Cl) (wb : Bool) (dir : Int) (ex : Bool) (at_ rt m : Nat) (fg bg fl : Int) (w : World) (hr : Rd w A n f) (hs : saneB n f dir = true) (hp : penB fg bg fl = true)
    (hat : at_ < rt) (hrt : rt ≤ n) (hcap : n ≤ cap) (hm : (rt : Int) - at_ = (m : Int)) :
    Calls Try.prog 58 #[.agg #[.slice A n cap, .bool wb, .int .i64 dir, .bool ex], .int .i64 at_, .int .i64 m, .int .i64 rt, .agg #[.int .i64 fg, .int .i64 bg, .int .i64 fl]] w fun e w' => ∃ b, e = .returned (.agg #[.slice (some ⟨b, 0, none⟩) n n, .bool wb, .int .i64 dir, .bool ex]) ∧ w.heap.size ≤ b ∧ Below w.heap.size w w' ∧ Own w' b n (mend n (insF f at_ m rt (blank fg bg fl))) := by
  obtain ⟨hn1, hn2⟩ := sane_len hs
  have hmv : rmovesB n f dir at_ rt fg bg fl = true := by unfold rmovesB; simp [hs, hp]; omega
  obtain ⟨bf, of_, rfl, hbf, hcf⟩ := hr (by omega)
  clear hcf
  go_enter Try.func58, Try.ntmps58
  go_wp2_with fail
  generalize hw0 : ((w.alloc _).alloc _).alloc _ = w0
  have hbw : Below w.heap.size w w0 := by rw [← hw0]; (repeat (first | (with_reducible exact Below.refl _ _) | (with_reducible assumption) | (with_reducible refine Below.grow ?_ ?_ _ _) | (with_reducible refine Below.drewN' ?_ _) | (with_reducible refine Below.drew ?_) | (with_reducible refine Below.alloc ?_ ?_ _) | (with_reducible refine Below.setCell ?_ ?_ _) | omega | (focus (simp; done)) | (focus (simp; omega))))
  have hB1 : Blk w0 w.heap.size 49 #[.slice (some ⟨bf, of_, none⟩) n cap, .bool wb, .int .i64 dir, .bool ex] := by rw [← hw0]; exact ((Blk.new _ _ _).alloc _).alloc _
  have hB2 : Blk w0 (w.heap.size + 1) 28 #[.int .i64 fg, .int .i64 bg, .int .i64 fl] := by rw [← hw0]; exact (Blk.new_at (by simp)).alloc _
  have hB3 : Blk w0 (w.heap.size + 2) 49 #[.slice none 0 0, .bool false, .int .i64 0, .bool false] := by rw [← hw0]; exact Blk.new_at (by simp)
  clear hw0
  obtain ⟨r0, r1, r2, r3, rf, rl⟩ := hB1.facts4; obtain ⟨p0, p1, p2, pf, pl⟩ := hB2.facts3; obtain ⟨z0, z1, z2, z3, zf, zl⟩ := hB3.facts4
  go_wp2_with fail
  refine (moves_c (some ⟨bf, of_, none⟩) n cap f wb dir ex at_ rt fg bg fl _ (hr.below hbw) (by omega)).mono ?_
  rintro e w1 ⟨rfl, hg⟩
  replace hg := hg.below
  replace hbw := hbw.trans (hg.mono hbw.size); replace hB1 := hB1.below hg hB1.lt; clear r0 r1 r2 r3 rf rl; obtain ⟨r0, r1, r2, r3, rf, rl⟩ := hB1.facts4; replace hB2 := hB2.below hg hB2.lt; clear p0 p1 p2 pf pl; obtain ⟨p0, p1, p2, pf, pl⟩ := hB2.facts3; replace hB3 := hB3.below hg hB3.lt; clear z0 z1 z2 z3 zf zl; obtain ⟨z0, z1, z2, z3, zf, zl⟩ := hB3.facts4; clear hg
  rw [hmv]
  clear hmv
  have c2 : IntKind.i64.wrap ((at_ : Int) + m) = (at_ : Int) + m := IntWalk.i64_in _ (by omega)
  have c3 : IntKind.i64.wrap ((rt : Int) - m) = (rt : Int) - m := IntWalk.i64_in _ (by omega)
  have d1 : ((at_ : Int) + m).toNat = at_ + m := by omega
  have d2 : ((rt : Int) - m).toNat = rt - m := by omega
  have l1 : (0 : Int) ≤ (at_ : Int) + m := by omega
  have l2 : (at_ : Int) + m ≤ rt := by omega
  have l3 : (rt : Int) ≤ n := by omega
  have l4 : (0 : Int) ≤ at_ := by omega
  have l5 : (at_ : Int) ≤ (rt : Int) - m := by omega
  have l6 : (rt : Int) - m ≤ cap := by omega
  have l7 : (at_ : Int) ≤ (at_ : Int) + m := by omega
  have l8 : (at_ : Int) + m ≤ n := by omega
  have l9 : (rt : Int) ≤ cap := by omega
  have l10 : (rt : Int) - m ≤ n := by omega
  have l11 : (rt : Int) - m ≤ rt := by omega
  have l12 : (0 : Int) ≤ (rt : Int) - m := by omega
  have l17 : (m : Int) ≤ (rt : Int) := by omega
  have n2 : ¬ (cap = at_) := by omega
  have n3 : ¬ (n = at_) := by omega
  go_wp2_with fail
  refine (cells_c (some ⟨bf, of_, none⟩) n cap f wb dir ex _ (hr.below hbw) (by omega) (by omega)).mono ?_
  rintro e w4 ⟨b, rfl, hbb, hg, hob⟩
  have hbn : w.heap.size + 2 < b := by omega
  have hrx := (hr.below hbw).below hg
  replace hbw := hbw.trans (hg.mono hbw.size); replace hB1 := hB1.below hg hB1.lt; clear r0 r1 r2 r3 rf rl; obtain ⟨r0, r1, r2, r3, rf, rl⟩ := hB1.facts4; replace hB2 := hB2.below hg hB2.lt; clear p0 p1 p2 pf pl; obtain ⟨p0, p1, p2, pf, pl⟩ := hB2.facts3; replace hB3 := hB3.below hg hB3.lt; clear z0 z1 z2 z3 zf zl; obtain ⟨z0, z1, z2, z3, zf, zl⟩ := hB3.facts4; clear hg
  have hlb := hob.lt
  have hbb2 : w.heap.size ≤ b := by omega
  obtain ⟨_, _, e2, hbf', hcf'⟩ := hrx (by omega)
  obtain ⟨rfl, rfl⟩ : bf = _ ∧ of_ = _ := by simpa using e2
  clear e2
  have HCX := Lib.hid hcf'
  clear hcf' hrx
  go_wp2_with fail
  refine hr_start (S := (fun w' => w'.cell? ⟨w.heap.size, 0, none⟩ = some (.slice (some ⟨bf, of_, none⟩) n cap) ∧ w'.cell? ⟨w.heap.size, 1, none⟩ = some (.bool wb) ∧ w'.cell? ⟨w.heap.size, 2, none⟩ = some (.int .i64 dir) ∧ w'.cell? ⟨w.heap.size, 3, none⟩ = some (.bool ex))) (by kernel_rfl) rfl ?_ (fun hHeld => ?_)
  · ((try dsimp only); go_simp)
  refine hr_take (i := 0) rfl rfl (by kernel_rfl) (by kernel_rfl) (by kernel_rfl) (by kernel_rfl) (fun _ _ _ h => h) (v := ?_) ?_ (by assumption) ?_
  rotate_left
  focus (intro wS hSw; (try dsimp only at hSw); go_simp; (try with_reducible rfl))
  simp only [List.set_cons_zero, List.set_cons_succ]
  refine hr_take (i := 1) rfl rfl (by kernel_rfl) (by kernel_rfl) (by kernel_rfl) (by kernel_rfl) (fun _ _ _ h => h) (v := ?_) ?_ (by assumption) ?_
  rotate_left
  focus (intro wS hSw; (try dsimp only at hSw); go_simp; (try with_reducible rfl))
  simp only [List.set_cons_zero, List.set_cons_succ]
  refine hr_take (i := 2) rfl rfl (by kernel_rfl) (by kernel_rfl) (by kernel_rfl) (by kernel_rfl) (fun _ _ _ h => h) (v := ?_) ?_ (by assumption) ?_
  rotate_left
  focus (intro wS hSw; (try dsimp only at hSw); go_simp; (try with_reducible rfl))
  simp only [List.set_cons_zero, List.set_cons_succ]
  refine hr_take (i := 3) rfl rfl (by kernel_rfl) (by kernel_rfl) (by kernel_rfl) (by kernel_rfl) (fun _ _ _ h => h) (v := ?_) ?_ (by assumption) ?_
  rotate_left
  focus (intro wS hSw; (try dsimp only at hSw); go_simp; (try with_reducible rfl))
  simp only [List.set_cons_zero, List.set_cons_succ]
  refine hr_take (i := 4) rfl rfl (by kernel_rfl) (by kernel_rfl) (by kernel_rfl) (by kernel_rfl) (fun _ _ _ h => h) (v := ?_) ?_ (by assumption) ?_
  rotate_left
  focus (intro wS hSw; (try dsimp only at hSw); go_simp; (try with_reducible rfl))
  simp only [List.set_cons_zero, List.set_cons_succ]
  refine hr_take (i := 5) rfl rfl (by kernel_rfl) (by kernel_rfl) (by kernel_rfl) (by kernel_rfl) (fun _ _ _ h => h) (v := ?_) ?_ (by assumption) ?_
  rotate_left
  focus (intro wS hSw; (try dsimp only at hSw); go_simp; (try with_reducible rfl))
  simp only [List.set_cons_zero, List.set_cons_succ]
  generalize (@ite (Option Addr) (n = at_ + m) _ _ _) = zz
  refine hr_take (i := 6) rfl rfl (by kernel_rfl) (by kernel_rfl) (by kernel_rfl) (by kernel_rfl) (fun _ _ _ h => h) (v := ?_) ?_ (by assumption) ?_
  rotate_left
  focus (intro wS hSw; (try dsimp only at hSw); go_simp; (try with_reducible rfl))
  simp only [List.set_cons_zero, List.set_cons_succ]
  refine hr_take (i := 7) rfl rfl (by kernel_rfl) (by kernel_rfl) (by kernel_rfl) (by kernel_rfl) (fun _ _ _ h => h) (v := ?_) ?_ (by assumption) ?_
  rotate_left
  focus (intro wS hSw; (try dsimp only at hSw); go_simp; (try with_reducible rfl))
  simp only [List.set_cons_zero, List.set_cons_succ]
  refine hr_take (i := 8) rfl rfl (by kernel_rfl) (by kernel_rfl) (by kernel_rfl) (by kernel_rfl) (fun _ _ _ h => h) (v := ?_) ?_ (by assumption) ?_
  rotate_left
  focus (intro wS hSw; (try dsimp only at hSw); go_simp; (try with_reducible rfl))
  simp only [List.set_cons_zero, List.set_cons_succ]
  refine hr_take (i := 9) rfl rfl (by kernel_rfl) (by kernel_rfl) (by kernel_rfl) (by kernel_rfl) (fun _ _ _ h => h) (v := ?_) ?_ (by assumption) ?_
  rotate_left
  focus (intro wS hSw; (try dsimp only at hSw); go_simp; (try with_reducible rfl))
  simp only [List.set_cons_zero, List.set_cons_succ]
  refine hr_take (i := 10) rfl rfl (by kernel_rfl) (by kernel_rfl) (by kernel_rfl) (by kernel_rfl) (fun _ _ _ h => h) (v := ?_) ?_ (by assumption) ?_
  rotate_left
  focus (intro wS hSw; (try dsimp only at hSw); go_simp; (try with_reducible rfl))
  simp only [List.set_cons_zero, List.set_cons_succ]
  refine hr_take (i := 11) rfl rfl (by kernel_rfl) (by kernel_rfl) (by kernel_rfl) (by kernel_rfl) (fun _ _ _ h => h) (v := ?_) ?_ (by assumption) ?_
  rotate_left
  focus (intro wS hSw; (try dsimp only at hSw); go_simp; (try with_reducible rfl))
  simp only [List.set_cons_zero, List.set_cons_succ]
  refine hr_take (i := 12) rfl rfl (by kernel_rfl) (by kernel_rfl) (by kernel_rfl) (by kernel_rfl) (fun _ _ _ h => h) (v := ?_) ?_ (by assumption) ?_
  rotate_left
  focus (intro wS hSw; (try dsimp only at hSw); go_simp; (try with_reducible rfl))
  simp only [List.set_cons_zero, List.set_cons_succ]
  refine hr_op (i := 13) rfl rfl (by kernel_rfl) (by kernel_rfl) (fun K hK => ?_)
  (refine wp_copy_rows0 (.tmp 32) (.tmp 39) _ _ rfl 46 7 Try.underlying47 cellSize _ _ _ _ _ _ (by rfl) (by rfl) (by show min _ _ = _; omega) ?_)
  refine hK.out _ _ ?_ (fun hHeld => ?_)
  · ((try dsimp only); go_simp)
  clear hK K
  simp only [List.set_cons_zero, List.set_cons_succ]
  refine hr_done (by kernel_rfl) ?_
  have hg : w4.grownBy w4.drew (some b) := gb_drew (World.grownBy.refl _ _)
  have ho6 : Own w4.drew b n f := own_drew hob
  clear hHeld hob HCX
  generalize w4.drew = w6 at *
  have hlb6 := ho6.lt
  have hbw6 := below_gb hbw hg hbb2 hbw.size
  replace hB1 := hB1.gb hg (by intro e; injection e; omega); clear r0 r1 r2 r3 rf rl; obtain ⟨r0, r1, r2, r3, rf, rl⟩ := hB1.facts4; replace hB2 := hB2.gb hg (by intro e; injection e; omega); clear p0 p1 p2 pf pl; obtain ⟨p0, p1, p2, pf, pl⟩ := hB2.facts3; replace hB3 := hB3.gb hg (by intro e; injection e; omega); clear z0 z1 z2 z3 zf zl; obtain ⟨z0, z1, z2, z3, zf, zl⟩ := hB3.facts4
  clear hg
  go_wp2_with fail
  refine hr_start (S := (fun w' => w'.cell? ⟨w.heap.size + 1, 0, none⟩ = some (.int .i64 fg) ∧ w'.cell? ⟨w.heap.size + 1, 1, none⟩ = some (.int .i64 bg) ∧ w'.cell? ⟨w.heap.size + 1, 2, none⟩ = some (.int .i64 fl))) (by kernel_rfl) rfl ?_ (fun hHeld => ?_)
  · ((try dsimp only); go_simp)
  refine hr_take (i := 0) rfl rfl (by kernel_rfl) (by kernel_rfl) (by kernel_rfl) (by kernel_rfl) (fun _ _ _ h => h) (v := ?_) ?_ (by assumption) ?_
  rotate_left
  focus (intro wS hSw; (try dsimp only at hSw); go_simp; (try with_reducible rfl))
  simp only [List.set_cons_zero, List.set_cons_succ]
  refine hr_take (i := 1) rfl rfl (by kernel_rfl) (by kernel_rfl) (by kernel_rfl) (by kernel_rfl) (fun _ _ _ h => h) (v := ?_) ?_ (by assumption) ?_
  rotate_left
  focus (intro wS hSw; (try dsimp only at hSw); go_simp; (try with_reducible rfl))
  simp only [List.set_cons_zero, List.set_cons_succ]
  refine hr_take (i := 2) rfl rfl (by kernel_rfl) (by kernel_rfl) (by kernel_rfl) (by kernel_rfl) (fun _ _ _ h => h) (v := ?_) ?_ (by assumption) ?_
  rotate_left
  focus (intro wS hSw; (try dsimp only at hSw); go_simp; (try with_reducible rfl))
  simp only [List.set_cons_zero, List.set_cons_succ]
  refine hr_take (i := 3) rfl rfl (by kernel_rfl) (by kernel_rfl) (by kernel_rfl) (by kernel_rfl) (fun _ _ _ h => h) (v := ?_) ?_ (by assumption) ?_
  rotate_left
  focus (intro wS hSw; (try dsimp only at hSw); go_simp; (try with_reducible rfl))
  simp only [List.set_cons_zero, List.set_cons_succ]
  refine hr_take (i := 4) rfl rfl (by kernel_rfl) (by kernel_rfl) (by kernel_rfl) (by kernel_rfl) (fun _ _ _ h => h) (v := ?_) ?_ (by assumption) ?_
  rotate_left
  focus (intro wS hSw; (try dsimp only at hSw); go_simp; (try with_reducible rfl))
  simp only [List.set_cons_zero, List.set_cons_succ]
  refine hr_take (i := 5) rfl rfl (by kernel_rfl) (by kernel_rfl) (by kernel_rfl) (by kernel_rfl) (fun _ _ _ h => h) (v := ?_) ?_ (by assumption) ?_
  rotate_left
  focus (intro wS hSw; (try dsimp only at hSw); go_simp; (try with_reducible rfl))
  simp only [List.set_cons_zero, List.set_cons_succ]
  refine hr_take (i := 6) rfl rfl (by kernel_rfl) (by kernel_rfl) (by kernel_rfl) (by kernel_rfl) (fun _ _ _ h => h) (v := ?_) ?_ (by assumption) ?_
  rotate_left
  focus (intro wS hSw; (try dsimp only at hSw); go_simp; (try with_reducible rfl))
  simp only [List.set_cons_zero, List.set_cons_succ]
  refine hr_op (i := 7) rfl rfl (by kernel_rfl) (by kernel_rfl) (fun K hK => ?_)
  go_simp
  ((with_reducible refine (lay_c b (at_ * 7) n at_ m _ _ fg bg fl _ (own_drew ho6) rfl (by omega) (by omega)).mono ?_); rintro e w8 ⟨rfl, hg8, ho8⟩; obtain ⟨y0, y1, y2, _, _⟩ := (Blk.gb (show Blk w6.drew (w.heap.size + 1) _ _ from hB2) hg8 (by intro e; injection e; omega)).facts3)
  (try go_wp2_with fail)
  refine hK.out _ _ ?_ (fun hHeld => ?_)
  · ((try dsimp only); go_simp)
  clear hK K
  simp only [List.set_cons_zero, List.set_cons_succ]
  refine hr_done (by kernel_rfl) ?_
  have hg : w6.grownBy w8 (some b) := gb_trans (gb_drew (World.grownBy.refl _ _)) hg8
  clear hg8 hHeld y0 y1 y2 ho6
  have hbw8 := below_gb hbw6 hg hbb2 hbw6.size
  replace hB1 := hB1.gb hg (by intro e; injection e; omega); clear r0 r1 r2 r3 rf rl; obtain ⟨r0, r1, r2, r3, rf, rl⟩ := hB1.facts4; replace hB3 := hB3.gb hg (by intro e; injection e; omega); clear z0 z1 z2 z3 zf zl; obtain ⟨z0, z1, z2, z3, zf, zl⟩ := hB3.facts4
  clear p0 p1 p2 pf pl hB2 hg
  go_wp2_with fail
  refine (mended_c b n n _ (some ⟨bf, of_, none⟩) n cap wb dir ex _ ho8 (by omega)).mono ?_
  rintro e w9 ⟨rfl, hg, ho9⟩
  have hbw9 := below_gb hbw8 hg hbb2 hbw8.size
  have hoF : Own w9 b n (mend n (insF f at_ m rt (blank fg bg fl))) := ho9.congr fun i hi => mend_congr (fun j _ => by unfold laid insF; grind) hi
  clear ho9 ho8
  replace hB1 := hB1.gb hg (by intro e; injection e; omega); clear r0 r1 r2 r3 rf rl; obtain ⟨r0, r1, r2, r3, rf, rl⟩ := hB1.facts4; replace hB3 := hB3.gb hg (by intro e; injection e; omega); clear z0 z1 z2 z3 zf zl; obtain ⟨z0, z1, z2, z3, zf, zl⟩ := hB3.facts4
  go_wp2
  refine bodyPost_ret (v := _) (by simp [results, Try.results58, go_sem, *]; try exact rfl) rfl ⟨b, rfl, hbb2, by (repeat (first | (with_reducible exact Below.refl _ _) | (with_reducible assumption) | (with_reducible refine Below.grow ?_ ?_ _ _) | (with_reducible refine Below.drewN' ?_ _) | (with_reducible refine Below.drew ?_) | (with_reducible refine Below.alloc ?_ ?_ _) | (with_reducible refine Below.setCell ?_ ?_ _) | omega | (focus (simp; done)) | (focus (simp; omega)))), by (repeat (first | (with_reducible assumption) | (with_reducible refine Own.grow ?_ _ _) | (with_reducible refine Own.drewN ?_ _) | (with_reducible refine own_drew ?_) | (with_reducible refine Own.alloc ?_ _) | (with_reducible refine Own.far' ?_ ?_ _) | (focus (simp; done)) | (focus (simp; omega))))⟩

set_option maxRecDepth 100000 in
set_option maxHeartbeats 4000000 in
theorem insert_zero (A : Option Addr) (n cap : Nat) (f : Nat → Cl) (wb : Bool) (dir : Int) (ex : Bool) (at_ rt : Nat) (M fg bg fl : Int) (w : World) (hr : Rd w A n f) (hs : saneB n f dir = true) (hp : penB fg bg fl = true)
    (hat : at_ < rt) (hrt : rt ≤ n) (hcap : n ≤ cap) (hM : M ≤ 0) :
    Calls Try.prog 58 #[.agg #[.slice A n cap, .bool wb, .int .i64 dir, .bool ex], .int .i64 at_, .int .i64 M, .int .i64 rt, .agg #[.int .i64 fg, .int .i64 bg, .int .i64 fl]] w fun e w' => ∃ b, e = .returned (.agg #[.slice (some ⟨b, 0, none⟩) n n, .bool wb, .int .i64 dir, .bool ex]) ∧ w.heap.size ≤ b ∧ Below w.heap.size w w' ∧ Own w' b n (f) := by
  obtain ⟨hn1, hn2⟩ := sane_len hs
  have hM1 : ¬ ((rt : Int) - at_ < M) := by omega
  have hmv : rmovesB n f dir at_ rt fg bg fl = true := by unfold rmovesB; simp [hs, hp]; omega
  obtain ⟨bf, of_, rfl, hbf, hcf⟩ := hr (by omega)
  clear hcf
  go_enter Try.func58, Try.ntmps58
  go_wp2_with fail
  generalize hw0 : ((w.alloc _).alloc _).alloc _ = w0
  have hbw : Below w.heap.size w w0 := by rw [← hw0]; (repeat (first | (with_reducible exact Below.refl _ _) | (with_reducible assumption) | (with_reducible refine Below.grow ?_ ?_ _ _) | (with_reducible refine Below.drewN' ?_ _) | (with_reducible refine Below.drew ?_) | (with_reducible refine Below.alloc ?_ ?_ _) | (with_reducible refine Below.setCell ?_ ?_ _) | omega | (focus (simp; done)) | (focus (simp; omega))))
  have hB1 : Blk w0 w.heap.size 49 #[.slice (some ⟨bf, of_, none⟩) n cap, .bool wb, .int .i64 dir, .bool ex] := by rw [← hw0]; exact ((Blk.new _ _ _).alloc _).alloc _
  have hB2 : Blk w0 (w.heap.size + 1) 28 #[.int .i64 fg, .int .i64 bg, .int .i64 fl] := by rw [← hw0]; exact (Blk.new_at (by simp)).alloc _
  have hB3 : Blk w0 (w.heap.size + 2) 49 #[.slice none 0 0, .bool false, .int .i64 0, .bool false] := by rw [← hw0]; exact Blk.new_at (by simp)
  clear hw0
  obtain ⟨r0, r1, r2, r3, rf, rl⟩ := hB1.facts4; obtain ⟨p0, p1, p2, pf, pl⟩ := hB2.facts3; obtain ⟨z0, z1, z2, z3, zf, zl⟩ := hB3.facts4
  go_wp2_with fail
  refine (moves_c (some ⟨bf, of_, none⟩) n cap f wb dir ex at_ rt fg bg fl _ (hr.below hbw) (by omega)).mono ?_
  rintro e w1 ⟨rfl, hg⟩
  replace hg := hg.below
  replace hbw := hbw.trans (hg.mono hbw.size); replace hB1 := hB1.below hg hB1.lt; clear r0 r1 r2 r3 rf rl; obtain ⟨r0, r1, r2, r3, rf, rl⟩ := hB1.facts4; replace hB2 := hB2.below hg hB2.lt; clear p0 p1 p2 pf pl; obtain ⟨p0, p1, p2, pf, pl⟩ := hB2.facts3; replace hB3 := hB3.below hg hB3.lt; clear z0 z1 z2 z3 zf zl; obtain ⟨z0, z1, z2, z3, zf, zl⟩ := hB3.facts4; clear hg
  rw [hmv]
  clear hmv
  have c2 : IntKind.i64.wrap ((at_ : Int) + 0) = (at_ : Int) + 0 := IntWalk.i64_in _ (by omega)
  have c3 : IntKind.i64.wrap ((rt : Int) - 0) = (rt : Int) - 0 := IntWalk.i64_in _ (by omega)
  have d1 : ((at_ : Int) + 0).toNat = at_ + 0 := by omega
  have d2 : ((rt : Int) - 0).toNat = rt - 0 := by omega
  have l1 : (0 : Int) ≤ (at_ : Int) + 0 := by omega
  have l2 : (at_ : Int) + 0 ≤ rt := by omega
  have l3 : (rt : Int) ≤ n := by omega
  have l4 : (0 : Int) ≤ at_ := by omega
  have l5 : (at_ : Int) ≤ (rt : Int) - 0 := by omega
  have l6 : (rt : Int) - 0 ≤ cap := by omega
  have l7 : (at_ : Int) ≤ (at_ : Int) + 0 := by omega
  have l8 : (at_ : Int) + 0 ≤ n := by omega
  have l9 : (rt : Int) ≤ cap := by omega
  have l10 : (rt : Int) - 0 ≤ n := by omega
  have l11 : (rt : Int) - 0 ≤ rt := by omega
  have l12 : (0 : Int) ≤ (rt : Int) - 0 := by omega
  have l17 : (0 : Int) ≤ (rt : Int) := by omega
  have n2 : ¬ (cap = at_) := by omega
  have n3 : ¬ (n = at_) := by omega
  have c4 : IntKind.i64.wrap (at_ : Int) = (at_ : Int) := IntWalk.i64_in _ (by omega)
  have c5 : IntKind.i64.wrap (rt : Int) = (rt : Int) := IntWalk.i64_in _ (by omega)
  have l13 : (at_ : Int) ≤ rt := by omega
  have l14 : (at_ : Int) ≤ n := by omega
  have l15 : (at_ : Int) ≤ cap := by omega
  have l16 : (0 : Int) ≤ rt := by omega
  go_wp2_with fail
  refine (cells_c (some ⟨bf, of_, none⟩) n cap f wb dir ex _ (hr.below hbw) (by omega) (by omega)).mono ?_
  rintro e w4 ⟨b, rfl, hbb, hg, hob⟩
  have hbn : w.heap.size + 2 < b := by omega
  have hrx := (hr.below hbw).below hg
  replace hbw := hbw.trans (hg.mono hbw.size); replace hB1 := hB1.below hg hB1.lt; clear r0 r1 r2 r3 rf rl; obtain ⟨r0, r1, r2, r3, rf, rl⟩ := hB1.facts4; replace hB2 := hB2.below hg hB2.lt; clear p0 p1 p2 pf pl; obtain ⟨p0, p1, p2, pf, pl⟩ := hB2.facts3; replace hB3 := hB3.below hg hB3.lt; clear z0 z1 z2 z3 zf zl; obtain ⟨z0, z1, z2, z3, zf, zl⟩ := hB3.facts4; clear hg
  have hlb := hob.lt
  have hbb2 : w.heap.size ≤ b := by omega
  obtain ⟨_, _, e2, hbf', hcf'⟩ := hrx (by omega)
  obtain ⟨rfl, rfl⟩ : bf = _ ∧ of_ = _ := by simpa using e2
  clear e2
  have HCX := Lib.hid hcf'
  clear hcf' hrx
  go_wp2_with fail
  refine hr_start (S := (fun w' => w'.cell? ⟨w.heap.size, 0, none⟩ = some (.slice (some ⟨bf, of_, none⟩) n cap) ∧ w'.cell? ⟨w.heap.size, 1, none⟩ = some (.bool wb) ∧ w'.cell? ⟨w.heap.size, 2, none⟩ = some (.int .i64 dir) ∧ w'.cell? ⟨w.heap.size, 3, none⟩ = some (.bool ex))) (by kernel_rfl) rfl ?_ (fun hHeld => ?_)
  · ((try dsimp only); go_simp)
  refine hr_take (i := 0) rfl rfl (by kernel_rfl) (by kernel_rfl) (by kernel_rfl) (by kernel_rfl) (fun _ _ _ h => h) (v := ?_) ?_ (by assumption) ?_
  rotate_left
  focus (intro wS hSw; (try dsimp only at hSw); go_simp; (try with_reducible rfl))
  simp only [List.set_cons_zero, List.set_cons_succ]
  refine hr_take (i := 1) rfl rfl (by kernel_rfl) (by kernel_rfl) (by kernel_rfl) (by kernel_rfl) (fun _ _ _ h => h) (v := ?_) ?_ (by assumption) ?_
  rotate_left
  focus (intro wS hSw; (try dsimp only at hSw); go_simp; (try with_reducible rfl))
  simp only [List.set_cons_zero, List.set_cons_succ]
  refine hr_take (i := 2) rfl rfl (by kernel_rfl) (by kernel_rfl) (by kernel_rfl) (by kernel_rfl) (fun _ _ _ h => h) (v := ?_) ?_ (by assumption) ?_
  rotate_left
  focus (intro wS hSw; (try dsimp only at hSw); go_simp; (try with_reducible rfl))
  simp only [List.set_cons_zero, List.set_cons_succ]
  refine hr_take (i := 3) rfl rfl (by kernel_rfl) (by kernel_rfl) (by kernel_rfl) (by kernel_rfl) (fun _ _ _ h => h) (v := ?_) ?_ (by assumption) ?_
  rotate_left
  focus (intro wS hSw; (try dsimp only at hSw); go_simp; (try with_reducible rfl))
  simp only [List.set_cons_zero, List.set_cons_succ]
  refine hr_take (i := 4) rfl rfl (by kernel_rfl) (by kernel_rfl) (by kernel_rfl) (by kernel_rfl) (fun _ _ _ h => h) (v := ?_) ?_ (by assumption) ?_
  rotate_left
  focus (intro wS hSw; (try dsimp only at hSw); go_simp; (try with_reducible rfl))
  simp only [List.set_cons_zero, List.set_cons_succ]
  refine hr_take (i := 5) rfl rfl (by kernel_rfl) (by kernel_rfl) (by kernel_rfl) (by kernel_rfl) (fun _ _ _ h => h) (v := ?_) ?_ (by assumption) ?_
  rotate_left
  focus (intro wS hSw; (try dsimp only at hSw); go_simp; (try with_reducible rfl))
  simp only [List.set_cons_zero, List.set_cons_succ]
  refine hr_take (i := 6) rfl rfl (by kernel_rfl) (by kernel_rfl) (by kernel_rfl) (by kernel_rfl) (fun _ _ _ h => h) (v := ?_) ?_ (by assumption) ?_
  rotate_left
  focus (intro wS hSw; (try dsimp only at hSw); go_simp; (try with_reducible rfl))
  simp only [List.set_cons_zero, List.set_cons_succ]
  refine hr_take (i := 7) rfl rfl (by kernel_rfl) (by kernel_rfl) (by kernel_rfl) (by kernel_rfl) (fun _ _ _ h => h) (v := ?_) ?_ (by assumption) ?_
  rotate_left
  focus (intro wS hSw; (try dsimp only at hSw); go_simp; (try with_reducible rfl))
  simp only [List.set_cons_zero, List.set_cons_succ]
  refine hr_take (i := 8) rfl rfl (by kernel_rfl) (by kernel_rfl) (by kernel_rfl) (by kernel_rfl) (fun _ _ _ h => h) (v := ?_) ?_ (by assumption) ?_
  rotate_left
  focus (intro wS hSw; (try dsimp only at hSw); go_simp; (try with_reducible rfl))
  simp only [List.set_cons_zero, List.set_cons_succ]
  refine hr_take (i := 9) rfl rfl (by kernel_rfl) (by kernel_rfl) (by kernel_rfl) (by kernel_rfl) (fun _ _ _ h => h) (v := ?_) ?_ (by assumption) ?_
  rotate_left
  focus (intro wS hSw; (try dsimp only at hSw); go_simp; (try with_reducible rfl))
  simp only [List.set_cons_zero, List.set_cons_succ]
  refine hr_take (i := 10) rfl rfl (by kernel_rfl) (by kernel_rfl) (by kernel_rfl) (by kernel_rfl) (fun _ _ _ h => h) (v := ?_) ?_ (by assumption) ?_
  rotate_left
  focus (intro wS hSw; (try dsimp only at hSw); go_simp; (try with_reducible rfl))
  simp only [List.set_cons_zero, List.set_cons_succ]
  refine hr_take (i := 11) rfl rfl (by kernel_rfl) (by kernel_rfl) (by kernel_rfl) (by kernel_rfl) (fun _ _ _ h => h) (v := ?_) ?_ (by assumption) ?_
  rotate_left
  focus (intro wS hSw; (try dsimp only at hSw); go_simp; (try with_reducible rfl))
  simp only [List.set_cons_zero, List.set_cons_succ]
  refine hr_take (i := 12) rfl rfl (by kernel_rfl) (by kernel_rfl) (by kernel_rfl) (by kernel_rfl) (fun _ _ _ h => h) (v := ?_) ?_ (by assumption) ?_
  rotate_left
  focus (intro wS hSw; (try dsimp only at hSw); go_simp; (try with_reducible rfl))
  simp only [List.set_cons_zero, List.set_cons_succ]
  refine hr_op (i := 13) rfl rfl (by kernel_rfl) (by kernel_rfl) (fun K hK => ?_)
  (refine wp_copy_rows (.tmp 32) (.tmp 39) _ _ rfl 46 7 Try.underlying47 cellSize b (at_ * 7) (n * 7) 46 (valF f) _ _ _ _ (rt - at_) ⟨bf, of_ + at_ * 7, none⟩ (fun j => valF f (at_ * 7 + j)) (by rfl) (by rfl) hob (by show min _ _ = _; omega) (fun j hj => by have h := Rd.cellsOf HCX.out (at_ * 7 + j) (by omega); rw [addr_add] at h ⊢; rw [Nat.add_assoc]; exact h) (by omega) (fun j _ => val_one _ _) ?_; intro w6 hrow6 hg6 hz6; obtain ⟨y0, y1, y2, y3, _, _⟩ := (Blk.gb (show Blk w4.drew w.heap.size _ _ from hB1) hg6 (by intro e; injection e; omega)).facts4)
  refine hK.out _ _ ?_ (fun hHeld => ?_)
  · ((try dsimp only); go_simp)
  clear hK K
  simp only [List.set_cons_zero, List.set_cons_succ]
  refine hr_done (by kernel_rfl) ?_
  have hg : w4.grownBy w6 (some b) := gb_trans (gb_drew (World.grownBy.refl _ _)) hg6
  have ho6 : Own w6 b n (fun i => if at_ ≤ i ∧ i < at_ + (rt - at_) then f (at_ + (i - at_)) else f i) := Own.copied hrow6
  replace ho6 : Own w6 b n f := ho6.congr fun i _ => by grind
  clear hg6 hHeld y0 y1 y2 y3 hz6 hrow6 hob HCX
  have hlb6 := ho6.lt
  have hbw6 := below_gb hbw hg hbb2 hbw.size
  replace hB1 := hB1.gb hg (by intro e; injection e; omega); clear r0 r1 r2 r3 rf rl; obtain ⟨r0, r1, r2, r3, rf, rl⟩ := hB1.facts4; replace hB2 := hB2.gb hg (by intro e; injection e; omega); clear p0 p1 p2 pf pl; obtain ⟨p0, p1, p2, pf, pl⟩ := hB2.facts3; replace hB3 := hB3.gb hg (by intro e; injection e; omega); clear z0 z1 z2 z3 zf zl; obtain ⟨z0, z1, z2, z3, zf, zl⟩ := hB3.facts4
  clear hg
  go_wp2_with fail
  refine hr_start (S := (fun w' => w'.cell? ⟨w.heap.size + 1, 0, none⟩ = some (.int .i64 fg) ∧ w'.cell? ⟨w.heap.size + 1, 1, none⟩ = some (.int .i64 bg) ∧ w'.cell? ⟨w.heap.size + 1, 2, none⟩ = some (.int .i64 fl))) (by kernel_rfl) rfl ?_ (fun hHeld => ?_)
  · ((try dsimp only); go_simp)
  refine hr_take (i := 0) rfl rfl (by kernel_rfl) (by kernel_rfl) (by kernel_rfl) (by kernel_rfl) (fun _ _ _ h => h) (v := ?_) ?_ (by assumption) ?_
  rotate_left
  focus (intro wS hSw; (try dsimp only at hSw); go_simp; (try with_reducible rfl))
  simp only [List.set_cons_zero, List.set_cons_succ]
  refine hr_take (i := 1) rfl rfl (by kernel_rfl) (by kernel_rfl) (by kernel_rfl) (by kernel_rfl) (fun _ _ _ h => h) (v := ?_) ?_ (by assumption) ?_
  rotate_left
  focus (intro wS hSw; (try dsimp only at hSw); go_simp; (try with_reducible rfl))
  simp only [List.set_cons_zero, List.set_cons_succ]
  refine hr_take (i := 2) rfl rfl (by kernel_rfl) (by kernel_rfl) (by kernel_rfl) (by kernel_rfl) (fun _ _ _ h => h) (v := ?_) ?_ (by assumption) ?_
  rotate_left
  focus (intro wS hSw; (try dsimp only at hSw); go_simp; (try with_reducible rfl))
  simp only [List.set_cons_zero, List.set_cons_succ]
  refine hr_take (i := 3) rfl rfl (by kernel_rfl) (by kernel_rfl) (by kernel_rfl) (by kernel_rfl) (fun _ _ _ h => h) (v := ?_) ?_ (by assumption) ?_
  rotate_left
  focus (intro wS hSw; (try dsimp only at hSw); go_simp; (try with_reducible rfl))
  simp only [List.set_cons_zero, List.set_cons_succ]
  refine hr_take (i := 4) rfl rfl (by kernel_rfl) (by kernel_rfl) (by kernel_rfl) (by kernel_rfl) (fun _ _ _ h => h) (v := ?_) ?_ (by assumption) ?_
  rotate_left
  focus (intro wS hSw; (try dsimp only at hSw); go_simp; (try with_reducible rfl))
  simp only [List.set_cons_zero, List.set_cons_succ]
  refine hr_take (i := 5) rfl rfl (by kernel_rfl) (by kernel_rfl) (by kernel_rfl) (by kernel_rfl) (fun _ _ _ h => h) (v := ?_) ?_ (by assumption) ?_
  rotate_left
  focus (intro wS hSw; (try dsimp only at hSw); go_simp; (try with_reducible rfl))
  simp only [List.set_cons_zero, List.set_cons_succ]
  refine hr_take (i := 6) rfl rfl (by kernel_rfl) (by kernel_rfl) (by kernel_rfl) (by kernel_rfl) (fun _ _ _ h => h) (v := ?_) ?_ (by assumption) ?_
  rotate_left
  focus (intro wS hSw; (try dsimp only at hSw); go_simp; (try with_reducible rfl))
  simp only [List.set_cons_zero, List.set_cons_succ]
  refine hr_op (i := 7) rfl rfl (by kernel_rfl) (by kernel_rfl) (fun K hK => ?_)
  go_simp
  ((with_reducible refine (lay0_c _ _ fg bg fl _).mono ?_); rintro e w8 ⟨rfl, X8, d8, rfl⟩)
  (try go_wp2_with fail)
  refine hK.out _ _ ?_ (fun hHeld => ?_)
  · ((try dsimp only); go_simp)
  clear hK K
  simp only [List.set_cons_zero, List.set_cons_succ]
  refine hr_done (by kernel_rfl) ?_
  have ho8 : Own (w6.grow X8 d8) b n f := ho6.grow _ _
  have hbw8 : Below w.heap.size w (w6.grow X8 d8) := hbw6.grow hbw6.size _ _
  replace hB1 : Blk (w6.grow X8 d8) _ _ _ := hB1.grow _ _
  replace hB3 : Blk (w6.grow X8 d8) _ _ _ := hB3.grow _ _
  clear ho6 hHeld r0 r1 r2 r3 rf rl z0 z1 z2 z3 zf zl p0 p1 p2 pf pl hB2
  generalize w6.grow X8 d8 = w8 at *
  obtain ⟨r0, r1, r2, r3, rf, rl⟩ := hB1.facts4; obtain ⟨z0, z1, z2, z3, zf, zl⟩ := hB3.facts4
  go_wp2_with fail
  refine (mended_c b n n _ (some ⟨bf, of_, none⟩) n cap wb dir ex _ ho8 (by omega)).mono ?_
  rintro e w9 ⟨rfl, hg, ho9⟩
  have hbw9 := below_gb hbw8 hg hbb2 hbw8.size
  have hoF : Own w9 b n (f) := ho9.congr fun i hi => mend_none (fun j hj => lost_of_sane hs hj) hi
  clear ho9 ho8
  replace hB1 := hB1.gb hg (by intro e; injection e; omega); clear r0 r1 r2 r3 rf rl; obtain ⟨r0, r1, r2, r3, rf, rl⟩ := hB1.facts4; replace hB3 := hB3.gb hg (by intro e; injection e; omega); clear z0 z1 z2 z3 zf zl; obtain ⟨z0, z1, z2, z3, zf, zl⟩ := hB3.facts4
  go_wp2
  refine bodyPost_ret (v := _) (by simp [results, Try.results58, go_sem, *]; try exact rfl) rfl ⟨b, rfl, hbb2, by (repeat (first | (with_reducible exact Below.refl _ _) | (with_reducible assumption) | (with_reducible refine Below.grow ?_ ?_ _ _) | (with_reducible refine Below.drewN' ?_ _) | (with_reducible refine Below.drew ?_) | (with_reducible refine Below.alloc ?_ ?_ _) | (with_reducible refine Below.setCell ?_ ?_ _) | omega | (focus (simp; done)) | (focus (simp; omega)))), by (repeat (first | (with_reducible assumption) | (with_reducible refine Own.grow ?_ _ _) | (with_reducible refine Own.drewN ?_ _) | (with_reducible refine own_drew ?_) | (with_reducible refine Own.alloc ?_ _) | (with_reducible refine Own.far' ?_ ?_ _) | (focus (simp; done)) | (focus (simp; omega))))⟩

end Go.Proofs.Ytlchffkabpfjpaa.Row
end
section
/- row.Insert and row.Delete, all ways joined; what they do to rows without halves. -/
namespace Go.Proofs.Ytlchffkabpfjpaa.Row
open Go.RowKit

def insR (n : Nat) (f : Nat → Cl) (at_ m rt : Nat) (fg bg fl : Int) : Nat → Cl := if penB fg bg fl = true then mend n (insF f at_ m rt (blank fg bg fl)) else f
def delR (n : Nat) (f : Nat → Cl) (at_ m rt : Nat) (fg bg fl : Int) : Nat → Cl := if penB fg bg fl = true then mend n (delF f at_ m rt (blank fg bg fl)) else f

set_option maxRecDepth 100000 in
set_option maxHeartbeats 2000000 in
theorem insert_no (A : Option Addr) (n cap : Nat) (f : Nat → Cl) (wb : Bool) (dir : Int) (ex : Bool) (x M y fg bg fl : Int) (w : World) (hr : Rd w A n f) (hn : n ≤ 9223372036854775806) (hmv : rmovesB n f dir x y fg bg fl = false) :
    Calls Try.prog 58 #[.agg #[.slice A n cap, .bool wb, .int .i64 dir, .bool ex], .int .i64 x, .int .i64 M, .int .i64 y, .agg #[.int .i64 fg, .int .i64 bg, .int .i64 fl]] w fun e w' => e = .returned (.agg #[.slice A n cap, .bool wb, .int .i64 dir, .bool ex]) ∧ Grew w w' := by
  go_enter Try.func58, Try.ntmps58
  go_wp2_with fail
  generalize hw0 : ((w.alloc _).alloc _).alloc _ = w0
  have hbw : Below w.heap.size w w0 := by rw [← hw0]; (repeat (first | (with_reducible exact Below.refl _ _) | (with_reducible assumption) | (with_reducible refine Below.grow ?_ ?_ _ _) | (with_reducible refine Below.drewN' ?_ _) | (with_reducible refine Below.drew ?_) | (with_reducible refine Below.alloc ?_ ?_ _) | (with_reducible refine Below.setCell ?_ ?_ _) | omega | (focus (simp; done)) | (focus (simp; omega))))
  have hB1 : Blk w0 w.heap.size 49 #[.slice A n cap, .bool wb, .int .i64 dir, .bool ex] := by rw [← hw0]; exact ((Blk.new _ _ _).alloc _).alloc _
  have hB2 : Blk w0 (w.heap.size + 1) 28 #[.int .i64 fg, .int .i64 bg, .int .i64 fl] := by rw [← hw0]; exact (Blk.new_at (by simp)).alloc _
  have hB3 : Blk w0 (w.heap.size + 2) 49 #[.slice none 0 0, .bool false, .int .i64 0, .bool false] := by rw [← hw0]; exact Blk.new_at (by simp)
  clear hw0
  obtain ⟨r0, r1, r2, r3, rf, rl⟩ := hB1.facts4; obtain ⟨p0, p1, p2, pf, pl⟩ := hB2.facts3; obtain ⟨z0, z1, z2, z3, zf, zl⟩ := hB3.facts4
  go_wp2_with fail
  refine (moves_c A n cap f wb dir ex x y fg bg fl _ (hr.below hbw) hn).mono ?_
  rintro e w1 ⟨rfl, hg⟩
  replace hg := hg.below
  replace hbw := hbw.trans (hg.mono hbw.size); replace hB1 := hB1.below hg hB1.lt; clear r0 r1 r2 r3 rf rl; obtain ⟨r0, r1, r2, r3, rf, rl⟩ := hB1.facts4; replace hB2 := hB2.below hg hB2.lt; clear p0 p1 p2 pf pl; obtain ⟨p0, p1, p2, pf, pl⟩ := hB2.facts3; replace hB3 := hB3.below hg hB3.lt; clear z0 z1 z2 z3 zf zl; obtain ⟨z0, z1, z2, z3, zf, zl⟩ := hB3.facts4; clear hg
  rw [hmv]
  clear hmv
  go_wp2
  refine bodyPost_ret (v := _) (by simp [results, Try.results58, go_sem, *]; try exact rfl) rfl ⟨rfl, (Below.toGrow (by (repeat (first | (with_reducible exact Below.refl _ _) | (with_reducible assumption) | (with_reducible refine Below.grow ?_ ?_ _ _) | (with_reducible refine Below.drewN' ?_ _) | (with_reducible refine Below.drew ?_) | (with_reducible refine Below.alloc ?_ ?_ _) | (with_reducible refine Below.setCell ?_ ?_ _) | omega | (focus (simp; done)) | (focus (simp; omega))))))⟩
theorem insert_c (A : Option Addr) (n cap : Nat) (f : Nat → Cl) (wb : Bool) (dir : Int) (ex : Bool) (at_ rt m : Nat) (M fg bg fl : Int) (w : World) (hr : Rd w A n f) (hs : saneB n f dir = true)
    (hat : at_ < rt) (hrt : rt ≤ n) (hcap : n ≤ cap) (hm : max 0 (min M ((rt : Int) - at_)) = (m : Int)) :
    Calls Try.prog 58 #[.agg #[.slice A n cap, .bool wb, .int .i64 dir, .bool ex], .int .i64 at_, .int .i64 M, .int .i64 rt, .agg #[.int .i64 fg, .int .i64 bg, .int .i64 fl]] w fun e w' => ∃ B cap', e = .returned (.agg #[.slice B n cap', .bool wb, .int .i64 dir, .bool ex]) ∧ n ≤ cap' ∧ Grew w w' ∧ Rd w' B n (insR n f at_ m rt fg bg fl) := by
  unfold insR
  cases hp : penB fg bg fl
  · refine (insert_no A n cap f wb dir ex at_ M rt fg bg fl w hr (by have := (sane_len hs).2; omega) (by unfold rmovesB; rw [hp]; simp)).mono ?_
    rintro e w' ⟨rfl, hg⟩
    exact ⟨A, cap, rfl, hcap, hg, by simpa using hr.below hg.below⟩
  · by_cases h0 : M ≤ 0
    · obtain rfl : m = 0 := by omega
      refine (insert_zero A n cap f wb dir ex at_ rt M fg bg fl w hr hs hp hat hrt hcap h0).mono ?_
      rintro e w' ⟨b, rfl, _, hb, ho⟩
      have e0 : insF f at_ 0 rt (blank fg bg fl) = f := by funext i; unfold insF; rw [if_neg (by omega)]; split <;> simp
      exact ⟨some ⟨b, 0, none⟩, n, rfl, Nat.le_refl _, hb.toGrow, by
        rw [if_pos rfl, e0]
        exact (ho.congr fun i hi => (mend_none (fun j hj => lost_of_sane hs hj) hi).symm).rd⟩
    · by_cases h1 : M < (rt : Int) - at_
      · obtain rfl : M = (m : Int) := by omega
        refine (insert_mid A n cap f wb dir ex at_ rt m fg bg fl w hr hs hp hat hrt hcap (by omega) (by omega)).mono ?_
        rintro e w' ⟨b, rfl, _, hb, ho⟩
        exact ⟨some ⟨b, 0, none⟩, n, rfl, Nat.le_refl _, hb.toGrow, by simpa using ho.rd⟩
      · have hmr : (rt : Int) - at_ = (m : Int) := by omega
        by_cases h2 : M = (m : Int)
        · subst h2
          refine (insert_eq A n cap f wb dir ex at_ rt m fg bg fl w hr hs hp hat hrt hcap hmr).mono ?_
          rintro e w' ⟨b, rfl, _, hb, ho⟩
          exact ⟨some ⟨b, 0, none⟩, n, rfl, Nat.le_refl _, hb.toGrow, by simpa using ho.rd⟩
        · refine (insert_all A n cap f wb dir ex at_ rt m M fg bg fl w hr hs hp hat hrt hcap hmr (by omega)).mono ?_
          rintro e w' ⟨b, rfl, _, hb, ho⟩
          exact ⟨some ⟨b, 0, none⟩, n, rfl, Nat.le_refl _, hb.toGrow, by simpa using ho.rd⟩
theorem ins_sane {n : Nat} {f : Nat → Cl} {dir : Int} (hs : saneB n f dir = true) {at_ m rt : Nat} (fg bg fl : Int) : saneB n (insR n f at_ m rt fg bg fl) dir = true := by
  unfold insR
  split
  · rename_i hp
    obtain ⟨a1, a2, a3, a4, a5⟩ := sane_iff.1 hs
    refine sane_mend a1 a2 a3 a4 fun i hi => ?_
    unfold insF
    split
    · exact fits_blank hp
    · split
      · exact (a5 (i - m) (by omega)).1
      · exact (a5 i hi).1
  · exact hs
theorem one_not_lost {n : Nat} {g : Nat → Cl} {i : Nat} (h : (g i).w = 1) : lostB n g i = false := by
  rw [lost_not, h]
  omega
/-- WHAT IS INSERTED IS DELETED AGAIN, of a row without halves -/
theorem moves_there {n : Nat} {f : Nat → Cl} (h1 : ∀ i, i < n → (f i).w = 1) {k m v : Nat} (hv : v ≤ n) {fg bg fl : Int} (hp : penB fg bg fl = true) (hkm : k + m ≤ v) :
    (∀ i, i < n → k + m ≤ i → i < v → insR n f k m v fg bg fl i = f (i - m)) ∧
    (∀ i, i < n → v ≤ i + m → i < v → delR n (insR n f k m v fg bg fl) k m v fg bg fl i = blank fg bg fl) ∧
    (∀ i, i < n → ¬ (v ≤ i + m ∧ i < v) → delR n (insR n f k m v fg bg fl) k m v fg bg fl i = f i) := by
  have hw : ∀ i, i < n → (insF f k m v (blank fg bg fl) i).w = 1 := fun i hi => by
    unfold insF
    split
    · rfl
    · split
      · exact h1 _ (by omega)
      · exact h1 i hi
  have ei : ∀ i, i < n → insR n f k m v fg bg fl i = insF f k m v (blank fg bg fl) i := fun i hi => by
    unfold insR
    rw [if_pos hp]
    exact mend_keep (one_not_lost (hw i hi))
  generalize insR n f k m v fg bg fl = g at *
  have hwg : ∀ i, i < n → (delF g k m v (blank fg bg fl) i).w = 1 := fun i hi => by
    unfold delF
    split
    · rfl
    · split
      · rw [ei _ (by omega)]; exact hw _ (by omega)
      · rw [ei i hi]; exact hw i hi
  have ed : ∀ i, i < n → delR n g k m v fg bg fl i = delF g k m v (blank fg bg fl) i := fun i hi => by
    unfold delR
    rw [if_pos hp]
    exact mend_keep (one_not_lost (hwg i hi))
  refine ⟨fun i hi a b => ?_, fun i hi a b => ?_, fun i hi hn => ?_⟩
  · rw [ei i hi]
    unfold insF
    rw [if_neg (by omega), if_pos ⟨a, b⟩]
  · rw [ed i hi]
    unfold delF
    rw [if_pos (by omega)]
  · rw [ed i hi]
    unfold delF
    rw [if_neg (by omega)]
    split
    · rw [ei _ (by omega)]
      unfold insF
      rw [if_neg (by omega), if_pos (by omega)]
      congr 1
      omega
    · rw [ei i hi]
      unfold insF
      rw [if_neg (by omega), if_neg (by omega)]
end Go.Proofs.Ytlchffkabpfjpaa.Row
end
