/- The document's Cells. -/
import Derived.Test.YtpnadnjcacaibaaHisB
namespace Go.Proofs.Ytpnadnjcacaibaa.Row
open Go.RowKit
attribute [local go_sem] Nat.add_pos_iff_pos_or_pos lt_add_r2 le_add_r2
set_option maxRecDepth 100000 in
set_option maxHeartbeats 2000000 in
theorem cells10_no (x : Value) (c : Int) (L : List Rw) (w : World) (hx : RdR w x L) (hl : L.length ≤ 5000) (hs : hsaneB L c = false) :
    Calls Try.prog 45 #[.agg #[x, .int .i64 c]] w fun e w' => e = .returned (.int .i64 0) ∧ Grew w w' := by
  obtain ⟨A, cap, rfl, hc⟩ := hx.1.len
  have HLL := Lib.hid hl
  have HX := Lib.hid hx
  have HS := Lib.hid hs
  generalize L.length = n at hl hc hx HX ⊢
  clear hs hx
  by_cases h0 : n = 0
  · subst h0
    go_enter Try.func45, Try.ntmps45
    go_wp2_with fail
    refine wp_loop_rounds 1 ?_
    rw [rounds_succ]
    go_wp2_with fail
    go_ret
    exact ⟨rfl, (Below.toGrow (by repeat (first | (with_reducible exact Below.refl _ _) | (with_reducible assumption) | (with_reducible refine Below.grow ?_ ?_ _ _) | (with_reducible refine Below.drewN' ?_ _) | (with_reducible refine Below.drew ?_) | (with_reducible refine Below.alloc ?_ ?_ _) | (with_reducible refine Below.setCell ?_ ?_ _) | omega | (focus (simp; done)) | (focus (simp; omega)))))⟩
  · have h1 : 0 < n := by omega
    have h1I : (0 : Int) < n := by omega
    go_enter Try.func45, Try.ntmps45
    go_wp2_with fail
    refine wp_loop_rounds 1 ?_
    rw [rounds_succ]
    go_wp2_with (go_at_call 46; refine (sane10_c (.slice A n cap) c L _ (HX.out.below (by (repeat (first | (with_reducible exact Below.refl _ _) | (with_reducible assumption) | (with_reducible refine Below.grow ?_ ?_ _ _) | (with_reducible refine Below.drewN' ?_ _) | (with_reducible refine Below.drew ?_) | (with_reducible refine Below.alloc ?_ ?_ _) | (with_reducible refine Below.setCell ?_ ?_ _) | omega | (focus (simp; done)) | (focus (simp; omega)))))) HLL.out).mono ?_; rw [HS.out]; rintro e w1 ⟨rfl, X1, d1, rfl⟩)
    go_ret
    exact ⟨rfl, (Below.toGrow (by repeat (first | (with_reducible exact Below.refl _ _) | (with_reducible assumption) | (with_reducible refine Below.grow ?_ ?_ _ _) | (with_reducible refine Below.drewN' ?_ _) | (with_reducible refine Below.drew ?_) | (with_reducible refine Below.alloc ?_ ?_ _) | (with_reducible refine Below.setCell ?_ ?_ _) | omega | (focus (simp; done)) | (focus (simp; omega)))))⟩
set_option maxRecDepth 100000 in
set_option maxHeartbeats 2000000 in
theorem cells10_yes (x : Value) (c : Int) (L : List Rw) (w : World) (hx : RdR w x L) (hl : L.length ≤ 5000) (hs : hsaneB L c = true) :
    Calls Try.prog 45 #[.agg #[x, .int .i64 c]] w fun e w' => e = .returned (.int .i64 (cellsL L)) ∧ Grew w w' := by
  obtain ⟨A, cap, rfl, hc⟩ := hx.1.len
  have HLL := Lib.hid hl
  have HS := Lib.hid hs
  have HCL : Hid (cellsL L = cellsL (L.take L.length)) := by rw [List.take_length]; exact rfl
  generalize hn : L.length = n at hl hc hx HCL ⊢
  have HL := Lib.hid hn
  have HX0 := Lib.hid hx
  clear hn hs
  go_enter Try.func45, Try.ntmps45
  go_upto_region 3 with fail
  generalize hw0 : w.alloc _ = w0
  have hb0 : Below w.heap.size w w0 := by rw [← hw0]; (repeat (first | (with_reducible exact Below.refl _ _) | (with_reducible assumption) | (with_reducible refine Below.grow ?_ ?_ _ _) | (with_reducible refine Below.drewN' ?_ _) | (with_reducible refine Below.drew ?_) | (with_reducible refine Below.alloc ?_ ?_ _) | (with_reducible refine Below.setCell ?_ ?_ _) | omega | (focus (simp; done)) | (focus (simp; omega))))
  have hB0 : Blk w0 w.heap.size 38 #[.slice A n cap, .int .i64 c] := by rw [← hw0]; exact Blk.new _ _ _
  clear hw0
  go_wp2_with fail
  go_loopw [3, 4] (fun v i wz => ∃ k : Nat, k ≤ n ∧ i = .int .i64 k ∧ v = .int .i64 (cellsL (L.take k)) ∧ Below w0.heap.size w0 wz) (fun _ i _ => n - (intOf i).toNat)
  case atStart => exact ⟨0, Nat.zero_le _, rfl, rfl, Below.refl _ _⟩
  case round =>
    obtain ⟨k, hk, rfl, rfl, hb⟩ := hrel
    obtain ⟨r0, r1, rf, rl⟩ := (hB0.below hb hB0.lt).facts2
    have hbw := hb0.trans (hb.mono hb0.size)
    have HX := Lib.hid (HX0.out.below hbw)
    have hws := hbw.size
    have hwz := hb.size
    by_cases hlt : k < n
    · have hkl : k < L.length := by rw [HL.out]; exact hlt
      obtain ⟨b, o, rfl, hb1, hat, hok⟩ := (hx.below hbw).at_ hkl
      have HE := Lib.hid (cellsL_snoc L k hkl)
      obtain ⟨g1, g2⟩ := cellsL_nn (L.take k) fun r hr => (hx.2 r (List.mem_of_mem_take hr)).2.2
      have g3 : (L.take k).length ≤ k := List.length_take_le _ _
      generalize cellsL (L.take k) = C at *
      generalize L[k] = r at *
      obtain ⟨p0, p1, p2, p3⟩ := hat
      have hrn := hok.2.2
      clear hok
      have hltI : (k : Int) < n := by omega
      go_wp2_with (go_at_call 46; refine (sane10_c (.slice (some ⟨b, o, none⟩) n cap) c L _ (HX.out.below (by (repeat (first | (with_reducible exact Below.refl _ _) | (with_reducible assumption) | (with_reducible refine Below.grow ?_ ?_ _ _) | (with_reducible refine Below.drewN' ?_ _) | (with_reducible refine Below.drew ?_) | (with_reducible refine Below.alloc ?_ ?_ _) | (with_reducible refine Below.setCell ?_ ?_ _) | omega | (focus (simp; done)) | (focus (simp; omega)))))) HLL.out).mono ?_; rw [HS.out]; rintro e w1 ⟨rfl, X1, d1, rfl⟩)
      go_roundw
      case rel => exact ⟨k + 1, by omega, by go_num, by rw [HE.out], by (repeat (first | (with_reducible exact Below.refl _ _) | (with_reducible assumption) | (with_reducible refine Below.grow ?_ ?_ _ _) | (with_reducible refine Below.drewN' ?_ _) | (with_reducible refine Below.drew ?_) | (with_reducible refine Below.alloc ?_ ?_ _) | (with_reducible refine Below.setCell ?_ ?_ _) | omega | (focus (simp; done)) | (focus (simp; omega))))⟩
      case measure => simp [intOf]; omega
    · obtain rfl : k = n := by omega
      go_wp2_with fail
      go_ret
      exact ⟨eint HCL.out.symm, Below.toGrow hbw⟩
end Go.Proofs.Ytpnadnjcacaibaa.Row
