/- Walks of row's functions that make and change cells: cells, Blank, lay, mended, width, New. -/
import Derived.Test.YtlgnchhhadnjbaaRowB
import Derived.Test.YtlgnchhhadnjbaaMem
namespace Go.Proofs.Ytlgnchhhadnjbaa.Row
open Go.RowKit

theorem cellSize : (Try.prog.info? 59).map (·.size) = some 7 := by kernel_rfl
theorem cellInfo : (Try.prog.info? 59).map (fun i => (i.zero, i.size, i.bytes)) = some (some (.agg #[.int .i64 0, .int .i64 0, .int .i64 0, .int .i64 0, .int .i64 0, .int .i64 0, .int .i64 0]), 7, 56) := by kernel_rfl

theorem blank_c (fg bg fl : Int) (w : World) : Calls Try.prog 51 #[.agg #[.int .i64 fg, .int .i64 bg, .int .i64 fl]] w fun e w' => e = .returned (.agg #[.int .i64 (blank fg bg fl).r, .int .i64 (blank fg bg fl).m0, .int .i64 (blank fg bg fl).m1, .int .i64 (blank fg bg fl).w, .int .i64 (blank fg bg fl).fg, .int .i64 (blank fg bg fl).bg, .int .i64 (blank fg bg fl).fl]) ∧ Grew w w' := by
  show Calls Try.prog 51 #[.agg #[.int .i64 fg, .int .i64 bg, .int .i64 fl]] w fun e w' => e = .returned (.agg #[.int .i64 0, .int .i64 0, .int .i64 0, .int .i64 1, .int .i64 fg, .int .i64 bg, .int .i64 fl]) ∧ Grew w w'
  go_enter Try.func51, Try.ntmps51
  go_wp2
  (refine bodyPost_ret (v := _) (by (simp [results, Try.results51, go_sem]; exact rfl)) rfl ⟨?_, (Below.toGrow (by repeat (first | (with_reducible exact Below.refl _ _) | (with_reducible assumption) | (with_reducible refine Below.grow ?_ ?_ _ _) | (with_reducible refine Below.drewN' ?_ _) | (with_reducible refine Below.drew ?_) | (with_reducible refine Below.alloc ?_ ?_ _) | (with_reducible refine Below.setCell ?_ ?_ _) | omega | (focus (simp; done)) | (focus (simp; omega)))))⟩; exact rfl)

theorem width_c (v : Int) (w : World) : Calls Try.prog 48 #[.int .i64 v] w fun e w' => e = .returned (.int .i64 (max 1 (min v 4096))) ∧ w = w' := by
  go_enter Try.func48, Try.ntmps48
  go_wp2
  all_goals (go_ret; refine ⟨eint ?_, rfl⟩)
  all_goals omega

def laid (f : Nat → Cl) (k m : Nat) (c : Cl) (i : Nat) : Cl := if k ≤ i ∧ i < k + m then c else f i

set_option maxRecDepth 100000 in
set_option maxHeartbeats 2000000 in
/-- lay: the cells k .. k + m of block b become blank by a pen -/
theorem lay_c (b o n k m cap : Nat) (f : Nat → Cl) (fg bg fl : Int) (w : World) (ho : Own w b n f) (hk : o = k * 7) (hkm : k + m ≤ n) (hn : n ≤ 4096) :
    Calls Try.prog 49 #[.slice (some ⟨b, o, none⟩) m cap, .agg #[.int .i64 fg, .int .i64 bg, .int .i64 fl]] w fun e w' => e = .returned (.tuple #[]) ∧ w.grownBy w' (some b) ∧ Own w' b n (laid f k m (blank fg bg fl)) := by
  have hbw := ho.lt
  have HK := Lib.hid hk
  clear hk
  go_enter Try.func49, Try.ntmps49
  go_wp2
  go_loopw [7] (fun i wz => ∃ j : Nat, j ≤ m ∧ i = .int .i64 j ∧ w.grownBy wz (some b) ∧ Own wz b n (laid f k j (blank fg bg fl)) ∧ Blk wz w.heap.size 57 #[.int .i64 fg, .int .i64 bg, .int .i64 fl]) (fun i _ => m - (intOf i).toNat)
  case atStart => exact ⟨0, Nat.zero_le _, rfl, by (repeat (first | (with_reducible exact World.grownBy.refl _ _) | (with_reducible assumption) | (with_reducible refine gb_grow ?_ _ _) | (with_reducible refine gb_drewN ?_ _) | (with_reducible refine gb_drew ?_) | (with_reducible refine gb_alloc ?_ _) | (with_reducible refine gb_setCell ?_ ?_ _) | (focus (left; rfl)) | (focus (right; simp; done)) | (focus (right; simp; omega)) | (focus (right; omega)))), (ho.alloc _).congr fun i _ => by unfold laid; rw [if_neg (by omega)], Blk.new _ _ _⟩
  case round =>
    obtain ⟨j, hj, rfl, hg, hoz, hB⟩ := hrel
    have hbz := hoz.lt
    by_cases hlt : j < m
    · obtain ⟨r0, r1, r2, rf, rl⟩ := hB.facts3
      obtain ⟨c0, c1, c2, c3, c4, c5, c6⟩ := hoz.at_p (i := k + j) (p := o + j * 7) (by omega) (by have := HK.out; omega)
      have hfz := hoz.frozen
      go_wp2_with (first | (go_at_call 51; refine (blank_c _ _ _ _).mono ?_; rintro e w1 ⟨rfl, X1, d1, rfl⟩))
      go_roundw
      case rel => exact ⟨j + 1, by omega, by go_num, by (repeat (first | (with_reducible exact World.grownBy.refl _ _) | (with_reducible assumption) | (with_reducible refine gb_grow ?_ _ _) | (with_reducible refine gb_drewN ?_ _) | (with_reducible refine gb_drew ?_) | (with_reducible refine gb_alloc ?_ _) | (with_reducible refine gb_setCell ?_ ?_ _) | (focus (left; rfl)) | (focus (right; simp; done)) | (focus (right; simp; omega)) | (focus (right; omega)))), ((hoz.store_at (k + j) (blank fg bg fl) (p := o + j * 7) (by have := HK.out; omega)).grow _ _).congr fun i _ => by unfold laid upd; grind, hB.gb (row := some b) (by (repeat (first | (with_reducible exact World.grownBy.refl _ _) | (with_reducible assumption) | (with_reducible refine gb_grow ?_ _ _) | (with_reducible refine gb_drewN ?_ _) | (with_reducible refine gb_drew ?_) | (with_reducible refine gb_alloc ?_ _) | (with_reducible refine gb_setCell ?_ ?_ _) | (focus (left; rfl)) | (focus (right; simp; done)) | (focus (right; simp; omega)) | (focus (right; omega))))) (by intro e; injection e; omega)⟩
      case measure => simp [intOf]; omega
    · obtain rfl : j = m := by omega
      go_wp2
      go_end0
      exact ⟨rfl, by (repeat (first | (with_reducible exact World.grownBy.refl _ _) | (with_reducible assumption) | (with_reducible refine gb_grow ?_ _ _) | (with_reducible refine gb_drewN ?_ _) | (with_reducible refine gb_drew ?_) | (with_reducible refine gb_alloc ?_ _) | (with_reducible refine gb_setCell ?_ ?_ _) | (focus (left; rfl)) | (focus (right; simp; done)) | (focus (right; simp; omega)) | (focus (right; omega)))), hoz⟩

theorem width_n (v : Int) (n : Nat) (w : World) (h : max 1 (min v 4096) = (n : Int)) : Calls Try.prog 48 #[.int .i64 v] w fun e w' => e = .returned (.int .i64 n) ∧ w = w' := by
  rw [← h]
  exact width_c v w
end Go.Proofs.Ytlgnchhhadnjbaa.Row
