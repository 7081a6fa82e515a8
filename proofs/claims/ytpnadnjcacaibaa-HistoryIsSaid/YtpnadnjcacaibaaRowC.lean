/- Walks of row's functions that make and change cells: cells, Blank, lay, mended, width, New. -/
import Derived.Test.YtpnadnjcacaibaaRowB
import Derived.Test.YtpnadnjcacaibaaMem
namespace Go.Proofs.Ytpnadnjcacaibaa.Row
open Go.RowKit

theorem cellSize : (Try.prog.info? 29).map (·.size) = some 7 := by kernel_rfl
theorem cellInfo : (Try.prog.info? 29).map (fun i => (i.zero, i.size, i.bytes)) = some (some (.agg #[.int .i64 0, .int .i64 0, .int .i64 0, .int .i64 0, .int .i64 0, .int .i64 0, .int .i64 0]), 7, 56) := by kernel_rfl

theorem blank_c (fg bg fl : Int) (w : World) : Calls Try.prog 18 #[.agg #[.int .i64 fg, .int .i64 bg, .int .i64 fl]] w fun e w' => e = .returned (.agg #[.int .i64 (blank fg bg fl).r, .int .i64 (blank fg bg fl).m0, .int .i64 (blank fg bg fl).m1, .int .i64 (blank fg bg fl).w, .int .i64 (blank fg bg fl).fg, .int .i64 (blank fg bg fl).bg, .int .i64 (blank fg bg fl).fl]) ∧ Grew w w' := by
  show Calls Try.prog 18 #[.agg #[.int .i64 fg, .int .i64 bg, .int .i64 fl]] w fun e w' => e = .returned (.agg #[.int .i64 0, .int .i64 0, .int .i64 0, .int .i64 1, .int .i64 fg, .int .i64 bg, .int .i64 fl]) ∧ Grew w w'
  go_enter Try.func18, Try.ntmps18
  go_wp2
  (refine bodyPost_ret (v := _) (by (simp [results, Try.results18, go_sem]; exact rfl)) rfl ⟨?_, (Below.toGrow (by repeat (first | (with_reducible exact Below.refl _ _) | (with_reducible assumption) | (with_reducible refine Below.grow ?_ ?_ _ _) | (with_reducible refine Below.drewN' ?_ _) | (with_reducible refine Below.drew ?_) | (with_reducible refine Below.alloc ?_ ?_ _) | (with_reducible refine Below.setCell ?_ ?_ _) | omega | (focus (simp; done)) | (focus (simp; omega)))))⟩; exact rfl)

theorem width_c (v : Int) (w : World) : Calls Try.prog 75 #[.int .i64 v] w fun e w' => e = .returned (.int .i64 (max 1 (min v 4096))) ∧ w = w' := by
  go_enter Try.func75, Try.ntmps75
  go_wp2
  all_goals (go_ret; refine ⟨eint ?_, rfl⟩)
  all_goals omega

set_option maxHeartbeats 1000000 in
theorem cells_c (A : Option Addr) (n cap : Nat) (f : Nat → Cl) (wb : Bool) (dir : Int) (ex : Bool) (w : World) (hr : Rd w A n f) (h1 : 1 ≤ n) (hn : n ≤ 4096) :
    Calls Try.prog 57 #[.agg #[.slice A n cap, .bool wb, .int .i64 dir, .bool ex]] w fun e w' => ∃ b, e = .returned (.slice (some ⟨b, 0, none⟩) n n) ∧ w.heap.size ≤ b ∧ Below w.heap.size w w' ∧ Own w' b n f := by
  obtain ⟨b, o, rfl, hb, hc⟩ := hr (by omega)
  have HC := Lib.hid hc
  clear hc hr
  obtain ⟨C, hC, -, hmk⟩ := run_make_rows (P := Try.prog) 22 29 _ 7 56 Try.underlying22 cellInfo rfl (by omega) n (by omega) (by omega)
  have HCs := Lib.hid hC
  clear hC
  go_enter Try.func57, Try.ntmps57
  go_wp2_with (refine wpList_copy_rows rfl (.tmp 8) (.tmp 10) _ _ rfl 29 7 Try.underlying22 cellSize (w.heap.size + 1) 0 (n * 7) 29 (fun j => C.getD j undef) n n n cap n ⟨b, o, none⟩ (valF f) rfl rfl ?c1 ?c2 ?c3 ?c4 ?c5 ?c6)
  case c1 =>
    have h := World.rowIs_alloc (w.alloc (.cells #[.slice (some ⟨b, o, none⟩) n cap, .bool wb, .int .i64 dir, .bool ex] 24)) C 29 (fun j => C.getD j undef) (fun i hi => by simp [Array.getD, hi])
    rw [HCs.out] at h
    simpa using h
  case c2 => exact Nat.min_self n
  case c3 =>
    intro j hj
    rw [addr_add, World.cell?_alloc_lt _ _ _ (by simp; omega), World.cell?_alloc_lt _ _ _ hb, ← addr_add]
    exact Rd.cellsOf HC.out j hj
  case c4 => omega
  case c5 => exact fun j _ => val_one _ _
  case c6 =>
    intro w1 hrow hgb hsz
    have HR := Lib.hid hrow
    have HS := Lib.hid hsz
    clear hrow hsz
    go_wp2
    go_ret
    refine ⟨_, rfl, by omega, below_gb (a := w) (by (repeat (first | (with_reducible exact Below.refl _ _) | (with_reducible assumption) | (with_reducible refine Below.grow ?_ ?_ _ _) | (with_reducible refine Below.drewN' ?_ _) | (with_reducible refine Below.drew ?_) | (with_reducible refine Below.alloc ?_ ?_ _) | (with_reducible refine Below.setCell ?_ ?_ _) | omega | (focus (simp; done)) | (focus (simp; omega))))) hgb (by omega) (by simp; omega), ?_⟩
    exact World.rowIs.congr HR.out fun i hi => by simp [hi]

def laid (f : Nat → Cl) (k m : Nat) (c : Cl) (i : Nat) : Cl := if k ≤ i ∧ i < k + m then c else f i

set_option maxRecDepth 100000 in
set_option maxHeartbeats 2000000 in
/-- lay: the cells k .. k + m of block b become blank by a pen -/
theorem lay_c (b o n k m cap : Nat) (f : Nat → Cl) (fg bg fl : Int) (w : World) (ho : Own w b n f) (hk : o = k * 7) (hkm : k + m ≤ n) (hn : n ≤ 4096) :
    Calls Try.prog 66 #[.slice (some ⟨b, o, none⟩) m cap, .agg #[.int .i64 fg, .int .i64 bg, .int .i64 fl]] w fun e w' => e = .returned (.tuple #[]) ∧ w.grownBy w' (some b) ∧ Own w' b n (laid f k m (blank fg bg fl)) := by
  have hbw := ho.lt
  have HK := Lib.hid hk
  clear hk
  go_enter Try.func66, Try.ntmps66
  go_wp2
  go_loopw [7] (fun i wz => ∃ j : Nat, j ≤ m ∧ i = .int .i64 j ∧ w.grownBy wz (some b) ∧ Own wz b n (laid f k j (blank fg bg fl)) ∧ Blk wz w.heap.size 27 #[.int .i64 fg, .int .i64 bg, .int .i64 fl]) (fun i _ => m - (intOf i).toNat)
  case atStart => exact ⟨0, Nat.zero_le _, rfl, by (repeat (first | (with_reducible exact World.grownBy.refl _ _) | (with_reducible assumption) | (with_reducible refine gb_grow ?_ _ _) | (with_reducible refine gb_drewN ?_ _) | (with_reducible refine gb_drew ?_) | (with_reducible refine gb_alloc ?_ _) | (with_reducible refine gb_setCell ?_ ?_ _) | (focus (left; rfl)) | (focus (right; simp; done)) | (focus (right; simp; omega)) | (focus (right; omega)))), (ho.alloc _).congr fun i _ => by unfold laid; rw [if_neg (by omega)], Blk.new _ _ _⟩
  case round =>
    obtain ⟨j, hj, rfl, hg, hoz, hB⟩ := hrel
    have hbz := hoz.lt
    by_cases hlt : j < m
    · obtain ⟨r0, r1, r2, rf, rl⟩ := hB.facts3
      obtain ⟨c0, c1, c2, c3, c4, c5, c6⟩ := hoz.at_p (i := k + j) (p := o + j * 7) (by omega) (by have := HK.out; omega)
      have hfz := hoz.frozen
      go_wp2_with (first | (go_at_call 18; refine (blank_c _ _ _ _).mono ?_; rintro e w1 ⟨rfl, X1, d1, rfl⟩))
      go_roundw
      case rel => exact ⟨j + 1, by omega, by go_num, by (repeat (first | (with_reducible exact World.grownBy.refl _ _) | (with_reducible assumption) | (with_reducible refine gb_grow ?_ _ _) | (with_reducible refine gb_drewN ?_ _) | (with_reducible refine gb_drew ?_) | (with_reducible refine gb_alloc ?_ _) | (with_reducible refine gb_setCell ?_ ?_ _) | (focus (left; rfl)) | (focus (right; simp; done)) | (focus (right; simp; omega)) | (focus (right; omega)))), ((hoz.store_at (k + j) (blank fg bg fl) (p := o + j * 7) (by have := HK.out; omega)).grow _ _).congr fun i _ => by unfold laid upd; grind, hB.gb (row := some b) (by (repeat (first | (with_reducible exact World.grownBy.refl _ _) | (with_reducible assumption) | (with_reducible refine gb_grow ?_ _ _) | (with_reducible refine gb_drewN ?_ _) | (with_reducible refine gb_drew ?_) | (with_reducible refine gb_alloc ?_ _) | (with_reducible refine gb_setCell ?_ ?_ _) | (focus (left; rfl)) | (focus (right; simp; done)) | (focus (right; simp; omega)) | (focus (right; omega))))) (by intro e; injection e; omega)⟩
      case measure => simp [intOf]; omega
    · obtain rfl : j = m := by omega
      go_wp2
      go_end0
      exact ⟨rfl, by (repeat (first | (with_reducible exact World.grownBy.refl _ _) | (with_reducible assumption) | (with_reducible refine gb_grow ?_ _ _) | (with_reducible refine gb_drewN ?_ _) | (with_reducible refine gb_drew ?_) | (with_reducible refine gb_alloc ?_ _) | (with_reducible refine gb_setCell ?_ ?_ _) | (focus (left; rfl)) | (focus (right; simp; done)) | (focus (right; simp; omega)) | (focus (right; omega)))), hoz⟩

set_option maxRecDepth 100000 in
set_option maxHeartbeats 2000000 in
theorem mended_c (b n cap : Nat) (f : Nat → Cl) (A0 : Option Addr) (n0 cap0 : Nat) (wb : Bool) (dir : Int) (ex : Bool) (w : World) (ho : Own w b n f) (hn : n ≤ 4096) :
    Calls Try.prog 58 #[.agg #[.slice A0 n0 cap0, .bool wb, .int .i64 dir, .bool ex], .slice (some ⟨b, 0, none⟩) n cap] w fun e w' => e = .returned (.agg #[.slice (some ⟨b, 0, none⟩) n cap, .bool wb, .int .i64 dir, .bool ex]) ∧ w.grownBy w' (some b) ∧ Own w' b n (mend n f) := by
  have hbw := ho.lt
  go_enter Try.func58, Try.ntmps58
  go_wp2
  go_loopw [8] (fun i wz => ∃ j : Nat, j ≤ n ∧ i = .int .i64 j ∧ w.grownBy wz (some b) ∧ Own wz b n (mix n f j) ∧ Blk wz w.heap.size 24 #[.slice A0 n0 cap0, .bool wb, .int .i64 dir, .bool ex] ∧ Blk wz (w.heap.size + 1) 24 #[.slice none 0 0, .bool false, .int .i64 0, .bool false]) (fun i _ => n - (intOf i).toNat)
  case atStart => exact ⟨0, Nat.zero_le _, rfl, by (repeat (first | (with_reducible exact World.grownBy.refl _ _) | (with_reducible assumption) | (with_reducible refine gb_grow ?_ _ _) | (with_reducible refine gb_drewN ?_ _) | (with_reducible refine gb_drew ?_) | (with_reducible refine gb_alloc ?_ _) | (with_reducible refine gb_setCell ?_ ?_ _) | (focus (left; rfl)) | (focus (right; simp; done)) | (focus (right; simp; omega)) | (focus (right; omega)))), ((ho.alloc _).alloc _).congr fun i _ => by unfold mix; rw [if_neg (by omega)], (Blk.new _ _ _).alloc _, Blk.new_at (by simp)⟩
  case round =>
    obtain ⟨j, hj, rfl, hg, hoz, hB, hB2⟩ := hrel
    have hbz := hoz.lt
    by_cases hlt : j < n
    · obtain ⟨c0, c1, c2, c3, c4, c5, c6⟩ : CellAt wr b (j * 7) (f j) := by have := hoz.at_ hlt; rwa [mix_at] at this
      have hfz := hoz.frozen
      cases hl : lostB n f j
      · have hl' := (lost_mix (f := f) hlt).trans hl
        go_wp2_with (first | (go_at_call 56; refine (lost_c _ n cap (mix n f j) j _ hoz.rd (by omega) hlt).mono ?_; rintro e w1 ⟨rfl, rfl⟩) | (go_at_call 18; refine (blank_c _ _ _ _).mono ?_; rintro e w1 ⟨rfl, X1, d1, rfl⟩))
        go_roundw
        case rel => exact ⟨j + 1, by omega, by go_num, by (repeat (first | (with_reducible exact World.grownBy.refl _ _) | (with_reducible assumption) | (with_reducible refine gb_grow ?_ _ _) | (with_reducible refine gb_drewN ?_ _) | (with_reducible refine gb_drew ?_) | (with_reducible refine gb_alloc ?_ _) | (with_reducible refine gb_setCell ?_ ?_ _) | (focus (left; rfl)) | (focus (right; simp; done)) | (focus (right; simp; omega)) | (focus (right; omega)))), hoz.congr fun i _ => by unfold mix mend; grind, hB, hB2⟩
        case measure => simp [intOf]; omega
      · have hl' := (lost_mix (f := f) hlt).trans hl
        go_wp2_with (first | (go_at_call 56; refine (lost_c _ n cap (mix n f j) j _ hoz.rd (by omega) hlt).mono ?_; rintro e w1 ⟨rfl, rfl⟩) | (go_at_call 18; refine (blank_c _ _ _ _).mono ?_; rintro e w1 ⟨rfl, X1, d1, rfl⟩))
        go_roundw
        case rel => exact ⟨j + 1, by omega, by go_num, by (repeat (first | (with_reducible exact World.grownBy.refl _ _) | (with_reducible assumption) | (with_reducible refine gb_grow ?_ _ _) | (with_reducible refine gb_drewN ?_ _) | (with_reducible refine gb_drew ?_) | (with_reducible refine gb_alloc ?_ _) | (with_reducible refine gb_setCell ?_ ?_ _) | (focus (left; rfl)) | (focus (right; simp; done)) | (focus (right; simp; omega)) | (focus (right; omega)))), ((hoz.store j (blank (f j).fg (f j).bg (f j).fl)).grow _ _).congr fun i _ => by unfold mix mend upd Cl.bl; grind, hB.gb (row := some b) (by (repeat (first | (with_reducible exact World.grownBy.refl _ _) | (with_reducible assumption) | (with_reducible refine gb_grow ?_ _ _) | (with_reducible refine gb_drewN ?_ _) | (with_reducible refine gb_drew ?_) | (with_reducible refine gb_alloc ?_ _) | (with_reducible refine gb_setCell ?_ ?_ _) | (focus (left; rfl)) | (focus (right; simp; done)) | (focus (right; simp; omega)) | (focus (right; omega))))) (by intro e; injection e; omega), hB2.gb (row := some b) (by (repeat (first | (with_reducible exact World.grownBy.refl _ _) | (with_reducible assumption) | (with_reducible refine gb_grow ?_ _ _) | (with_reducible refine gb_drewN ?_ _) | (with_reducible refine gb_drew ?_) | (with_reducible refine gb_alloc ?_ _) | (with_reducible refine gb_setCell ?_ ?_ _) | (focus (left; rfl)) | (focus (right; simp; done)) | (focus (right; simp; omega)) | (focus (right; omega))))) (by intro e; injection e; omega)⟩
        case measure => simp [intOf]; omega
    · obtain rfl : j = n := by omega
      obtain ⟨r0, r1, r2, r3, rf, rl⟩ := hB.facts4
      obtain ⟨s0, s1, s2, s3, sf, sl⟩ := hB2.facts4
      go_wp2
      refine bodyPost_ret (v := _) (by simp [results, Try.results58, go_sem, *]; exact rfl) rfl ⟨?_, by (repeat (first | (with_reducible exact World.grownBy.refl _ _) | (with_reducible assumption) | (with_reducible refine gb_grow ?_ _ _) | (with_reducible refine gb_drewN ?_ _) | (with_reducible refine gb_drew ?_) | (with_reducible refine gb_alloc ?_ _) | (with_reducible refine gb_setCell ?_ ?_ _) | (focus (left; rfl)) | (focus (right; simp; done)) | (focus (right; simp; omega)) | (focus (right; omega)))), ?_⟩
      · rfl
      · refine Own.congr (f := mix j f j) (by (repeat (first | (with_reducible assumption) | (with_reducible refine Own.grow ?_ _ _) | (with_reducible refine Own.drewN ?_ _) | (with_reducible refine own_drew ?_) | (with_reducible refine Own.alloc ?_ _) | (with_reducible refine Own.far' ?_ ?_ _) | (focus (simp; done)) | (focus (simp; omega))))) fun i hi => by unfold mix; rw [if_pos hi]

theorem width_n (v : Int) (n : Nat) (w : World) (h : max 1 (min v 4096) = (n : Int)) : Calls Try.prog 75 #[.int .i64 v] w fun e w' => e = .returned (.int .i64 n) ∧ w = w' := by
  rw [← h]
  exact width_c v w
end Go.Proofs.Ytpnadnjcacaibaa.Row
