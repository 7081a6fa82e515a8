/- Walk of row.New. -/
import Derived.Test.YtlgnchhhadnjbaaRowD
namespace Go.Proofs.Ytlgnchhhadnjbaa.Row
open Go.RowKit
set_option maxRecDepth 100000 in
set_option maxHeartbeats 2000000 in
theorem new_c (v : Int) (n : Nat) (fg bg fl : Int) (w : World) (hv : max 1 (min v 4096) = (n : Int)) :
    Calls Try.prog 36 #[.int .i64 v, .agg #[.int .i64 fg, .int .i64 bg, .int .i64 fl]] w fun e w' => ∃ b, e = .returned (.agg #[.slice (some ⟨b, 0, none⟩) n n, .bool false, .int .i64 0, .bool false]) ∧ w.heap.size ≤ b ∧ Below w.heap.size w w' ∧ Own w' b n (fun _ => blank fg bg fl) := by
  have HV := Lib.hid hv
  have hn : n ≤ 4096 := by omega
  clear hv
  obtain ⟨C, hC, hCc, hmk⟩ := run_make_rows (P := Try.prog) 38 59 _ 7 56 Try.underlying38 cellInfo rfl (by omega) n (by omega) (by omega)
  have HCs := Lib.hid hC
  have HCc := Lib.hid hCc
  clear hC hCc
  go_enter Try.func36, Try.ntmps36
  go_wp2_with fail
  refine (width_n v n _ HV.out).mono ?_
  rintro e w1 ⟨rfl, rfl⟩
  go_wp2_with fail
  generalize hw0 : ((w.alloc _).alloc _).alloc _ = w0
  have hbw : Below w.heap.size w w0 := by rw [← hw0]; (repeat (first | (with_reducible exact Below.refl _ _) | (with_reducible assumption) | (with_reducible refine Below.grow ?_ ?_ _ _) | (with_reducible refine Below.drewN' ?_ _) | (with_reducible refine Below.drew ?_) | (with_reducible refine Below.alloc ?_ ?_ _) | (with_reducible refine Below.setCell ?_ ?_ _) | omega | (focus (simp; done)) | (focus (simp; omega))))
  have hB1 : Blk w0 w.heap.size 57 #[.int .i64 fg, .int .i64 bg, .int .i64 fl] := by rw [← hw0]; exact ((Blk.new _ _ _).alloc _).alloc _
  have hB2 : Blk w0 (w.heap.size + 1) 48 #[.slice none 0 0, .bool false, .int .i64 0, .bool false] := by rw [← hw0]; exact (Blk.new_at (by simp)).alloc _
  have hob : Own w0 (w.heap.size + 2) n (fun _ => ⟨0, 0, 0, 0, 0, 0, 0⟩) := by
    rw [← hw0]
    have h := World.rowIs_alloc ((w.alloc (.cells #[.int .i64 fg, .int .i64 bg, .int .i64 fl] 57)).alloc (.cells #[.slice none 0 0, .bool false, .int .i64 0, .bool false] 48)) C 59 (valF (fun _ => ⟨0, 0, 0, 0, 0, 0, 0⟩)) (fun i hi => by
      rw [HCs.out] at hi
      rw [HCc.out i hi]
      unfold valF
      have hm : i % 7 < 7 := Nat.mod_lt _ (by omega)
      generalize i % 7 = j at hm
      match j, hm with
      | 0, _ => rfl
      | 1, _ => rfl
      | 2, _ => rfl
      | 3, _ => rfl
      | 4, _ => rfl
      | 5, _ => rfl
      | 6, _ => rfl)
    rw [HCs.out] at h
    simp only [World.size_alloc] at h
    exact h
  clear hw0
  obtain ⟨r0, r1, r2, rf, rl⟩ := hB1.facts3; obtain ⟨z0, z1, z2, z3, zf, zl⟩ := hB2.facts4
  go_wp2_with fail
  refine (lay_c (w.heap.size + 2) 0 n 0 n n _ fg bg fl _ hob (by omega) (by omega) hn).mono ?_
  rintro e w1 ⟨rfl, hg, ho1⟩
  have hbw1 := below_gb hbw hg (by omega) hbw.size
  replace hB2 := hB2.gb hg (by intro e; injection e; omega)
  clear z0 z1 z2 z3 zf zl r0 r1 r2 rf rl hB1
  obtain ⟨z0, z1, z2, z3, zf, zl⟩ := hB2.facts4
  have ho2 : Own w1 (w.heap.size + 2) n (fun _ => blank fg bg fl) := ho1.congr fun i hi => by unfold laid; rw [if_pos (by omega)]
  go_wp2
  refine bodyPost_ret (v := _) (by simp [results, Try.results36, go_sem, *]; try exact rfl) rfl ⟨w.heap.size + 2, rfl, by omega, by (repeat (first | (with_reducible exact Below.refl _ _) | (with_reducible assumption) | (with_reducible refine Below.grow ?_ ?_ _ _) | (with_reducible refine Below.drewN' ?_ _) | (with_reducible refine Below.drew ?_) | (with_reducible refine Below.alloc ?_ ?_ _) | (with_reducible refine Below.setCell ?_ ?_ _) | omega | (focus (simp; done)) | (focus (simp; omega)))), by (repeat (first | (with_reducible assumption) | (with_reducible refine Own.grow ?_ _ _) | (with_reducible refine Own.drewN ?_ _) | (with_reducible refine own_drew ?_) | (with_reducible refine Own.alloc ?_ _) | (with_reducible refine Own.far' ?_ ?_ _) | (focus (simp; done)) | (focus (simp; omega))))⟩
end Go.Proofs.Ytlgnchhhadnjbaa.Row
