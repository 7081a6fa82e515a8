/- row.Insert and row.Delete, all ways joined; what they do to rows without halves. -/
import Derived.Test.YtpnadnjcacaibaaRowG2
namespace Go.Proofs.Ytpnadnjcacaibaa.Row
open Go.RowKit

def insR (n : Nat) (f : Nat → Cl) (at_ m rt : Nat) (fg bg fl : Int) : Nat → Cl := if penB fg bg fl = true then mend n (insF f at_ m rt (blank fg bg fl)) else f
def delR (n : Nat) (f : Nat → Cl) (at_ m rt : Nat) (fg bg fl : Int) : Nat → Cl := if penB fg bg fl = true then mend n (delF f at_ m rt (blank fg bg fl)) else f

set_option maxRecDepth 100000 in
set_option maxHeartbeats 2000000 in
theorem insert_no (A : Option Addr) (n cap : Nat) (f : Nat → Cl) (wb : Bool) (dir : Int) (ex : Bool) (x M y fg bg fl : Int) (w : World) (hr : Rd w A n f) (hn : n ≤ 9223372036854775806) (hmv : movesB n f dir x y fg bg fl = false) :
    Calls Try.prog 32 #[.agg #[.slice A n cap, .bool wb, .int .i64 dir, .bool ex], .int .i64 x, .int .i64 M, .int .i64 y, .agg #[.int .i64 fg, .int .i64 bg, .int .i64 fl]] w fun e w' => e = .returned (.agg #[.slice A n cap, .bool wb, .int .i64 dir, .bool ex]) ∧ Grew w w' := by
  go_enter Try.func32, Try.ntmps32
  go_wp2_with fail
  generalize hw0 : ((w.alloc _).alloc _).alloc _ = w0
  have hbw : Below w.heap.size w w0 := by rw [← hw0]; (repeat (first | (with_reducible exact Below.refl _ _) | (with_reducible assumption) | (with_reducible refine Below.grow ?_ ?_ _ _) | (with_reducible refine Below.drewN' ?_ _) | (with_reducible refine Below.drew ?_) | (with_reducible refine Below.alloc ?_ ?_ _) | (with_reducible refine Below.setCell ?_ ?_ _) | omega | (focus (simp; done)) | (focus (simp; omega))))
  have hB1 : Blk w0 w.heap.size 24 #[.slice A n cap, .bool wb, .int .i64 dir, .bool ex] := by rw [← hw0]; exact ((Blk.new _ _ _).alloc _).alloc _
  have hB2 : Blk w0 (w.heap.size + 1) 27 #[.int .i64 fg, .int .i64 bg, .int .i64 fl] := by rw [← hw0]; exact (Blk.new_at (by simp)).alloc _
  have hB3 : Blk w0 (w.heap.size + 2) 24 #[.slice none 0 0, .bool false, .int .i64 0, .bool false] := by rw [← hw0]; exact Blk.new_at (by simp)
  clear hw0
  obtain ⟨r0, r1, r2, r3, rf, rl⟩ := hB1.facts4; obtain ⟨p0, p1, p2, pf, pl⟩ := hB2.facts3; obtain ⟨z0, z1, z2, z3, zf, zl⟩ := hB3.facts4
  go_wp2_with fail
  refine (moves_c A n cap f wb dir ex x y fg bg fl _ (hr.below hbw) hn).mono ?_
  rintro e w1 ⟨rfl, hg⟩
  replace hg := hg.below
  replace hbw := hbw.trans (hg.mono hbw.size); replace hB1 := hB1.below hg hB1.lt; clear r0 r1 r2 r3 rf rl; obtain ⟨r0, r1, r2, r3, rf, rl⟩ := hB1.facts4; replace hB2 := hB2.below hg hB2.lt; clear p0 p1 p2 pf pl; obtain ⟨p0, p1, p2, pf, pl⟩ := hB2.facts3; replace hB3 := hB3.below hg hB3.lt; clear z0 z1 z2 z3 zf zl; obtain ⟨z0, z1, z2, z3, zf, zl⟩ := hB3.facts4; clear hg
  rw [hmv]
  clear hmv
  go_wp2
  refine bodyPost_ret (v := _) (by simp [results, Try.results32, go_sem, *]; try exact rfl) rfl ⟨rfl, (Below.toGrow (by (repeat (first | (with_reducible exact Below.refl _ _) | (with_reducible assumption) | (with_reducible refine Below.grow ?_ ?_ _ _) | (with_reducible refine Below.drewN' ?_ _) | (with_reducible refine Below.drew ?_) | (with_reducible refine Below.alloc ?_ ?_ _) | (with_reducible refine Below.setCell ?_ ?_ _) | omega | (focus (simp; done)) | (focus (simp; omega))))))⟩
set_option maxRecDepth 100000 in
set_option maxHeartbeats 2000000 in
theorem delete_no (A : Option Addr) (n cap : Nat) (f : Nat → Cl) (wb : Bool) (dir : Int) (ex : Bool) (x M y fg bg fl : Int) (w : World) (hr : Rd w A n f) (hn : n ≤ 9223372036854775806) (hmv : movesB n f dir x y fg bg fl = false) :
    Calls Try.prog 33 #[.agg #[.slice A n cap, .bool wb, .int .i64 dir, .bool ex], .int .i64 x, .int .i64 M, .int .i64 y, .agg #[.int .i64 fg, .int .i64 bg, .int .i64 fl]] w fun e w' => e = .returned (.agg #[.slice A n cap, .bool wb, .int .i64 dir, .bool ex]) ∧ Grew w w' := by
  go_enter Try.func33, Try.ntmps33
  go_wp2_with fail
  generalize hw0 : ((w.alloc _).alloc _).alloc _ = w0
  have hbw : Below w.heap.size w w0 := by rw [← hw0]; (repeat (first | (with_reducible exact Below.refl _ _) | (with_reducible assumption) | (with_reducible refine Below.grow ?_ ?_ _ _) | (with_reducible refine Below.drewN' ?_ _) | (with_reducible refine Below.drew ?_) | (with_reducible refine Below.alloc ?_ ?_ _) | (with_reducible refine Below.setCell ?_ ?_ _) | omega | (focus (simp; done)) | (focus (simp; omega))))
  have hB1 : Blk w0 w.heap.size 24 #[.slice A n cap, .bool wb, .int .i64 dir, .bool ex] := by rw [← hw0]; exact ((Blk.new _ _ _).alloc _).alloc _
  have hB2 : Blk w0 (w.heap.size + 1) 27 #[.int .i64 fg, .int .i64 bg, .int .i64 fl] := by rw [← hw0]; exact (Blk.new_at (by simp)).alloc _
  have hB3 : Blk w0 (w.heap.size + 2) 24 #[.slice none 0 0, .bool false, .int .i64 0, .bool false] := by rw [← hw0]; exact Blk.new_at (by simp)
  clear hw0
  obtain ⟨r0, r1, r2, r3, rf, rl⟩ := hB1.facts4; obtain ⟨p0, p1, p2, pf, pl⟩ := hB2.facts3; obtain ⟨z0, z1, z2, z3, zf, zl⟩ := hB3.facts4
  go_wp2_with fail
  refine (moves_c A n cap f wb dir ex x y fg bg fl _ (hr.below hbw) hn).mono ?_
  rintro e w1 ⟨rfl, hg⟩
  replace hg := hg.below
  replace hbw := hbw.trans (hg.mono hbw.size); replace hB1 := hB1.below hg hB1.lt; clear r0 r1 r2 r3 rf rl; obtain ⟨r0, r1, r2, r3, rf, rl⟩ := hB1.facts4; replace hB2 := hB2.below hg hB2.lt; clear p0 p1 p2 pf pl; obtain ⟨p0, p1, p2, pf, pl⟩ := hB2.facts3; replace hB3 := hB3.below hg hB3.lt; clear z0 z1 z2 z3 zf zl; obtain ⟨z0, z1, z2, z3, zf, zl⟩ := hB3.facts4; clear hg
  rw [hmv]
  clear hmv
  go_wp2
  refine bodyPost_ret (v := _) (by simp [results, Try.results33, go_sem, *]; try exact rfl) rfl ⟨rfl, (Below.toGrow (by (repeat (first | (with_reducible exact Below.refl _ _) | (with_reducible assumption) | (with_reducible refine Below.grow ?_ ?_ _ _) | (with_reducible refine Below.drewN' ?_ _) | (with_reducible refine Below.drew ?_) | (with_reducible refine Below.alloc ?_ ?_ _) | (with_reducible refine Below.setCell ?_ ?_ _) | omega | (focus (simp; done)) | (focus (simp; omega))))))⟩

theorem insert_c (A : Option Addr) (n cap : Nat) (f : Nat → Cl) (wb : Bool) (dir : Int) (ex : Bool) (at_ rt m : Nat) (M fg bg fl : Int) (w : World) (hr : Rd w A n f) (hs : saneB n f dir = true)
    (hat : at_ < rt) (hrt : rt ≤ n) (hcap : n ≤ cap) (hm : max 0 (min M ((rt : Int) - at_)) = (m : Int)) :
    Calls Try.prog 32 #[.agg #[.slice A n cap, .bool wb, .int .i64 dir, .bool ex], .int .i64 at_, .int .i64 M, .int .i64 rt, .agg #[.int .i64 fg, .int .i64 bg, .int .i64 fl]] w fun e w' => ∃ B cap', e = .returned (.agg #[.slice B n cap', .bool wb, .int .i64 dir, .bool ex]) ∧ n ≤ cap' ∧ Grew w w' ∧ Rd w' B n (insR n f at_ m rt fg bg fl) := by
  unfold insR
  cases hp : penB fg bg fl
  · refine (insert_no A n cap f wb dir ex at_ M rt fg bg fl w hr (by have := (sane_len hs).2; omega) (by unfold movesB; rw [hp]; simp)).mono ?_
    rintro e w' ⟨rfl, hg⟩
    exact ⟨A, cap, rfl, hcap, hg, by simpa using hr.below hg.below⟩
  · by_cases h0 : M ≤ 0
    · obtain rfl : m = 0 := by omega
      refine (insert_zero A n cap f wb dir ex at_ rt M fg bg fl w hr hs hp hat hrt hcap h0).mono ?_
      rintro e w' ⟨b, rfl, _, hb, ho⟩
      have e0 : insF f at_ 0 rt (blank fg bg fl) = f := by funext i; unfold insF; rw [if_neg (by omega)]; split <;> simp
      exact ⟨some ⟨b, 0, none⟩, n, rfl, Nat.le_refl _, hb.toGrow, by
        rw [if_pos rfl, e0]
        exact (ho.congr fun i hi => (mend_none (fun j hj => lost_of_sane hs hj) hi).symm).rd⟩
    · by_cases h1 : M < (rt : Int) - at_
      · obtain rfl : M = (m : Int) := by omega
        refine (insert_mid A n cap f wb dir ex at_ rt m fg bg fl w hr hs hp hat hrt hcap (by omega) (by omega)).mono ?_
        rintro e w' ⟨b, rfl, _, hb, ho⟩
        exact ⟨some ⟨b, 0, none⟩, n, rfl, Nat.le_refl _, hb.toGrow, by simpa using ho.rd⟩
      · have hmr : (rt : Int) - at_ = (m : Int) := by omega
        by_cases h2 : M = (m : Int)
        · subst h2
          refine (insert_eq A n cap f wb dir ex at_ rt m fg bg fl w hr hs hp hat hrt hcap hmr).mono ?_
          rintro e w' ⟨b, rfl, _, hb, ho⟩
          exact ⟨some ⟨b, 0, none⟩, n, rfl, Nat.le_refl _, hb.toGrow, by simpa using ho.rd⟩
        · refine (insert_all A n cap f wb dir ex at_ rt m M fg bg fl w hr hs hp hat hrt hcap hmr (by omega)).mono ?_
          rintro e w' ⟨b, rfl, _, hb, ho⟩
          exact ⟨some ⟨b, 0, none⟩, n, rfl, Nat.le_refl _, hb.toGrow, by simpa using ho.rd⟩
theorem delete_c (A : Option Addr) (n cap : Nat) (f : Nat → Cl) (wb : Bool) (dir : Int) (ex : Bool) (at_ rt m : Nat) (M fg bg fl : Int) (w : World) (hr : Rd w A n f) (hs : saneB n f dir = true)
    (hat : at_ < rt) (hrt : rt ≤ n) (hcap : n ≤ cap) (hm : max 0 (min M ((rt : Int) - at_)) = (m : Int)) :
    Calls Try.prog 33 #[.agg #[.slice A n cap, .bool wb, .int .i64 dir, .bool ex], .int .i64 at_, .int .i64 M, .int .i64 rt, .agg #[.int .i64 fg, .int .i64 bg, .int .i64 fl]] w fun e w' => ∃ B cap', e = .returned (.agg #[.slice B n cap', .bool wb, .int .i64 dir, .bool ex]) ∧ n ≤ cap' ∧ Grew w w' ∧ Rd w' B n (delR n f at_ m rt fg bg fl) := by
  unfold delR
  cases hp : penB fg bg fl
  · refine (delete_no A n cap f wb dir ex at_ M rt fg bg fl w hr (by have := (sane_len hs).2; omega) (by unfold movesB; rw [hp]; simp)).mono ?_
    rintro e w' ⟨rfl, hg⟩
    exact ⟨A, cap, rfl, hcap, hg, by simpa using hr.below hg.below⟩
  · by_cases h0 : M ≤ 0
    · obtain rfl : m = 0 := by omega
      refine (delete_zero A n cap f wb dir ex at_ rt M fg bg fl w hr hs hp hat hrt hcap h0).mono ?_
      rintro e w' ⟨b, rfl, _, hb, ho⟩
      have e0 : delF f at_ 0 rt (blank fg bg fl) = f := by funext i; unfold delF; rw [if_neg (by omega)]; split <;> simp
      exact ⟨some ⟨b, 0, none⟩, n, rfl, Nat.le_refl _, hb.toGrow, by
        rw [if_pos rfl, e0]
        exact (ho.congr fun i hi => (mend_none (fun j hj => lost_of_sane hs hj) hi).symm).rd⟩
    · by_cases h1 : M < (rt : Int) - at_
      · obtain rfl : M = (m : Int) := by omega
        refine (delete_mid A n cap f wb dir ex at_ rt m fg bg fl w hr hs hp hat hrt hcap (by omega) (by omega)).mono ?_
        rintro e w' ⟨b, rfl, _, hb, ho⟩
        exact ⟨some ⟨b, 0, none⟩, n, rfl, Nat.le_refl _, hb.toGrow, by simpa using ho.rd⟩
      · have hmr : (rt : Int) - at_ = (m : Int) := by omega
        by_cases h2 : M = (m : Int)
        · subst h2
          refine (delete_eq A n cap f wb dir ex at_ rt m fg bg fl w hr hs hp hat hrt hcap hmr).mono ?_
          rintro e w' ⟨b, rfl, _, hb, ho⟩
          exact ⟨some ⟨b, 0, none⟩, n, rfl, Nat.le_refl _, hb.toGrow, by simpa using ho.rd⟩
        · refine (delete_all A n cap f wb dir ex at_ rt m M fg bg fl w hr hs hp hat hrt hcap hmr (by omega)).mono ?_
          rintro e w' ⟨b, rfl, _, hb, ho⟩
          exact ⟨some ⟨b, 0, none⟩, n, rfl, Nat.le_refl _, hb.toGrow, by simpa using ho.rd⟩

theorem ins_sane {n : Nat} {f : Nat → Cl} {dir : Int} (hs : saneB n f dir = true) {at_ m rt : Nat} (fg bg fl : Int) : saneB n (insR n f at_ m rt fg bg fl) dir = true := by
  unfold insR
  split
  · rename_i hp
    obtain ⟨a1, a2, a3, a4, a5⟩ := sane_iff.1 hs
    refine sane_mend a1 a2 a3 a4 fun i hi => ?_
    unfold insF
    split
    · exact fits_blank hp
    · split
      · exact (a5 (i - m) (by omega)).1
      · exact (a5 i hi).1
  · exact hs
theorem one_not_lost {n : Nat} {g : Nat → Cl} {i : Nat} (h : (g i).w = 1) : lostB n g i = false := by
  rw [lost_not, h]
  omega
/-- WHAT IS INSERTED IS DELETED AGAIN, of a row without halves -/
theorem moves_there {n : Nat} {f : Nat → Cl} (h1 : ∀ i, i < n → (f i).w = 1) {k m v : Nat} (hv : v ≤ n) {fg bg fl : Int} (hp : penB fg bg fl = true) (hkm : k + m ≤ v) :
    (∀ i, i < n → k + m ≤ i → i < v → insR n f k m v fg bg fl i = f (i - m)) ∧
    (∀ i, i < n → v ≤ i + m → i < v → delR n (insR n f k m v fg bg fl) k m v fg bg fl i = blank fg bg fl) ∧
    (∀ i, i < n → ¬ (v ≤ i + m ∧ i < v) → delR n (insR n f k m v fg bg fl) k m v fg bg fl i = f i) := by
  have hw : ∀ i, i < n → (insF f k m v (blank fg bg fl) i).w = 1 := fun i hi => by
    unfold insF
    split
    · rfl
    · split
      · exact h1 _ (by omega)
      · exact h1 i hi
  have ei : ∀ i, i < n → insR n f k m v fg bg fl i = insF f k m v (blank fg bg fl) i := fun i hi => by
    unfold insR
    rw [if_pos hp]
    exact mend_keep (one_not_lost (hw i hi))
  generalize insR n f k m v fg bg fl = g at *
  have hwg : ∀ i, i < n → (delF g k m v (blank fg bg fl) i).w = 1 := fun i hi => by
    unfold delF
    split
    · rfl
    · split
      · rw [ei _ (by omega)]; exact hw _ (by omega)
      · rw [ei i hi]; exact hw i hi
  have ed : ∀ i, i < n → delR n g k m v fg bg fl i = delF g k m v (blank fg bg fl) i := fun i hi => by
    unfold delR
    rw [if_pos hp]
    exact mend_keep (one_not_lost (hwg i hi))
  refine ⟨fun i hi a b => ?_, fun i hi a b => ?_, fun i hi hn => ?_⟩
  · rw [ei i hi]
    unfold insF
    rw [if_neg (by omega), if_pos ⟨a, b⟩]
  · rw [ed i hi]
    unfold delF
    rw [if_pos (by omega)]
  · rw [ed i hi]
    unfold delF
    rw [if_neg (by omega)]
    split
    · rw [ei _ (by omega)]
      unfold insF
      rw [if_neg (by omega), if_pos (by omega)]
      congr 1
      omega
    · rw [ei i hi]
      unfold insF
      rw [if_neg (by omega), if_neg (by omega)]
end Go.Proofs.Ytpnadnjcacaibaa.Row
