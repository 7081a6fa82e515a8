/- Tab stops: Resize; the document's Same; lapwinglaw12.awake. -/
import Derived.Test.YtpcpgoeahndlfaaTabB
namespace Go.Proofs.Ytpcpgoeahndlfaa.Tab
open Go.RowKit
theorem own_far {w : World} {base e g : Nat} {v : Value} {zs : List Int} (h : OwnI w base e v zs) (hg : g < base) : some g ≠ v.ownBlock := fun e' => by
  have := (h.lt e'.symm).1
  omega
/-- what Resize makes -/
def ResizeF (n W : Int) (zs : List Int) (w : World) (e : Ending) (w' : World) : Prop :=
  ∃ v c k, e = .returned (.agg #[v, .int .i64 n]) ∧ Below w.heap.size w w' ∧ RdI w' v (zs.filter (fun z => decide (z < n)) ++ eights c k) ∧ c = (W + 7) / 8 * 8 ∧ n ≤ c + 8 * (k : Int) ∧ (k = 0 ∨ c + 8 * (k : Int) < n + 8)
set_option maxRecDepth 100000 in
set_option maxHeartbeats 2000000 in
theorem resize_c (x : Value) (W v n : Int) (zs : List Int) (w : World) (hx : RdI w x zs) (hn : zs.length ≤ 60000) (hs : tsaneB W zs = true) (hv : max 1 (min v 4096) = n) :
    Calls Try.prog 11 #[.agg #[x, .int .i64 W], .int .i64 v] w (ResizeF n W zs w) := by
  obtain ⟨i3, hi3, hz3, hs3, hb3⟩ := info_parts int_info
  have HI3 := Lib.hid hi3
  have HZ3 := Lib.hid hz3
  have HS3 := Lib.hid hs3
  have HB3 := Lib.hid hb3
  clear hi3 hz3 hs3 hb3
  have hmf : ∀ (fn : Fn) (first cap : Array Value) (w : World), (Instr.makeFunc fn first cap).run Try.prog w = .ok (.func fn first cap) w := fun _ _ _ _ => rfl
  have HS := Lib.hid hs
  have HW := Lib.hid (tsane_iff.1 hs).1
  have hW1 := HW.out.1
  have hW2 := HW.out.2
  have hn1 : 1 ≤ n ∧ n ≤ 4096 := by omega
  have HV := Lib.hid hv
  obtain ⟨A, c, rfl, -⟩ := id hx
  have HX := Lib.hid hx
  clear hs hv hx
  go_enter Try.func11, Try.ntmps11
  go_upto_region 4 with (first | (go_at_call 9; refine (sane_c _ W zs _ (HX.out.below (by (repeat (first | (with_reducible exact Below.refl _ _) | (with_reducible assumption) | (with_reducible refine Below.grow ?_ ?_ _ _) | (with_reducible refine Below.drewN' ?_ _) | (with_reducible refine Below.drew ?_) | (with_reducible refine Below.alloc ?_ ?_ _) | (with_reducible refine Below.setCell ?_ ?_ _) | omega | (focus (simp; done)) | (focus (simp; omega)))))) (by omega)).mono ?_; rw [HS.out]; rintro e w1 ⟨rfl, hg⟩; obtain ⟨X1, d1, rfl⟩ := Below.toGrow hg; clear hg) | (go_at_call 28; refine (width_c _ _).mono ?_; rw [HV.out]; rintro e w1 ⟨rfl, rfl⟩))
  generalize hw4 : World.grow _ _ _ = w4
  have hb4 : Below w.heap.size w w4 := by rw [← hw4]; (repeat (first | (with_reducible exact Below.refl _ _) | (with_reducible assumption) | (with_reducible refine Below.grow ?_ ?_ _ _) | (with_reducible refine Below.drewN' ?_ _) | (with_reducible refine Below.drew ?_) | (with_reducible refine Below.alloc ?_ ?_ _) | (with_reducible refine Below.setCell ?_ ?_ _) | omega | (focus (simp; done)) | (focus (simp; omega))))
  have hB1 : Blk w4 w.heap.size 27 #[.slice A zs.length c, .int .i64 W] := by rw [← hw4]; (repeat (first | (with_reducible exact Blk.new _ _ _) | (with_reducible refine Blk.new_at ?_; simp; done) | (with_reducible refine Blk.grow ?_ _ _) | (with_reducible refine Blk.alloc ?_ _)))
  have hB2 : Blk w4 (w.heap.size + 1) 3 #[.int .i64 n] := by rw [← hw4]; (repeat (first | (with_reducible exact Blk.new _ _ _) | (with_reducible refine Blk.new_at ?_; simp; done) | (with_reducible refine Blk.grow ?_ _ _) | (with_reducible refine Blk.alloc ?_ _)))
  have hB3 : Blk w4 (w.heap.size + 1 + 1) 27 #[.slice none 0 0, .int .i64 0] := by rw [← hw4]; (repeat (first | (with_reducible exact Blk.new _ _ _) | (with_reducible refine Blk.new_at ?_; simp; done) | (with_reducible refine Blk.grow ?_ _ _) | (with_reducible refine Blk.alloc ?_ _)))
  clear hw4
  obtain ⟨r0, r1, rf, rl⟩ := hB1.facts2
  have HB1_ := Lib.hid hB1
  have HB2_ := Lib.hid hB2
  have HB3_ := Lib.hid hB3
  clear hB1 hB2 hB3
  go_wp2_with fail
  refine (chosen_c _ W n zs (w.heap.size + 1) _ (HX.out.below hb4) hn HB2_.out).mono ?_
  rintro e w5 ⟨l, rfl, hg, hl⟩
  have hb5 := hb4.trans (hg.mono hb4.size)
  have hB1 := HB1_.out.below hg HB1_.out.lt
  have hB2 := HB2_.out.below hg HB2_.out.lt
  have hB3 := HB3_.out.below hg HB3_.out.lt
  have hs5 := HB3_.out.lt
  have hgs := hg.size
  have hl5 : OwnI w5 (w.heap.size + 3) 3 l (zs.filter (fun z => decide (z < n))) := OwnI.mono hl (by omega)
  clear r0 r1 rf rl HB1_ HB2_ HB3_ hb4 hl
  obtain ⟨r0, r1, rf, rl⟩ := hB1.facts2
  go_upto_region 6 with fail
  have hcc : (W + 8 - 1) / 8 * 8 = (W + 7) / 8 * 8 := by omega
  rw [hcc]
  clear hcc
  generalize hcc : (W + 7) / 8 * 8 = cc
  have hc1 : 8 ≤ cc ∧ cc ≤ 4104 := by omega
  have HCC := Lib.hid hcc
  have HB1_ := Lib.hid (show Blk w5 (w.heap.size + 1) 3 #[.int .i64 n] from hB2)
  have HFL := Lib.hid (List.length_filter_le (fun z => decide (z < n)) zs)
  generalize hfs : zs.filter (fun z => decide (z < n)) = fs at hl5 HFL
  have HFS := Lib.hid hfs
  clear hfs
  clear r0 r1 rf rl hB1 hcc
  go_wp2_with fail
  go_loopw [5, 6] (fun l i wz => ∃ (k : Nat), i = .int .i64 (cc + 8 * (k : Int)) ∧ Below w.heap.size w wz ∧ Blk wz (w.heap.size + 1) 3 #[.int .i64 n] ∧ Blk wz (w.heap.size + 1 + 1) 27 #[.slice none 0 0, .int .i64 0] ∧ OwnI wz (w.heap.size + 3) 3 l (fs ++ eights cc k) ∧ (k = 0 ∨ cc + 8 * (k : Int) < n + 8) ∧ w.heap.size + 3 ≤ wz.heap.size) (fun _ i _ => 9000 - (intOf i).toNat)
  case atStart => exact ⟨0, by simp, hb5, hB2, hB3, by simpa [eights] using hl5, .inl rfl, by omega⟩
  case round =>
    obtain ⟨k, rfl, hb, hB2, hB3, hl, hk, hwz⟩ := hrel
    obtain ⟨q0, q1, qf, ql⟩ := hB3.facts2
    have g0 := hB2.cell 0
    have gl := hB2.lt
    simp only [List.getElem?_toArray, List.getElem?_cons_zero] at g0
    by_cases hlt : cc + 8 * (k : Int) < n
    · have HLA : Hid ((fs ++ eights cc k).length + [cc + 8 * (k : Int)].length ≤ 65536) := by
        show _ ≤ _
        have := HFL.out
        rw [List.length_append, eights_len]
        simp only [List.length_cons, List.length_nil]
        omega
      have HLE : Hid (w.heap.size + 3 ≤ wr.heap.size) := hwz
      have hno := own_far hl (show w.heap.size + 1 < w.heap.size + 3 by omega)
      have HLD : Hid (w.heap.size + 3 ≤ (wr.alloc (.cells #[.int .i64 (cc + 8 * (k : Int))] 3)).heap.size) := by show _ ≤ _; rw [World.size_alloc]; omega
      go_wp2_with (at_builtin; refine wpList_append_ints rfl _ _ _ rfl (w.heap.size + 3) 3 i3 rfl HI3.out HZ3.out HS3.out HB3.out _ _ (fs ++ eights cc k) [cc + 8 * (k : Int)] rfl rfl (ownI_alloc hl _) (rdI_one _ _ _ _ (by simp)) HLA.out HLD.out ?_; intro v1 w3 hv1 hgb hor; obtain ⟨hz3, hb3, hk3⟩ := own_push hb (Nat.le_add_right _ 3) hl _ hgb HLE.out; have hBi := (hB2.alloc _).gb hgb hno; clear hgb hor)
      rw [List.append_assoc, ← eights_succ] at hv1
      go_roundw
      case rel => exact ⟨k + 1, by go_num, hb3, hBi, hk3 _ _ _ hB3 (by decide), hv1, .inr (by omega), hz3⟩
      case measure => simp [intOf]; omega
    · generalize hL : fs ++ eights cc k = L at hl
      have HLL := Lib.hid hL
      clear hL
      obtain ⟨Ax, cx, rfl, -⟩ := id hl.rd
      go_wp2_with fail
      refine bodyPost_ret (v := .agg #[.slice Ax L.length cx, .int .i64 n]) (by simp [results, Try.results11, go_sem, q0, q1]) rfl ?_
      have hrd := (OwnI.setOther (i := 1) (u := .int .i64 n) (OwnI.setOther (i := 0) (u := .slice Ax L.length cx) hl hB3 (by decide)) (hB3.set_ 0 _) (by decide)).rd
      exact ⟨_, cc, k, rfl, by (repeat (first | (with_reducible exact Below.refl _ _) | (with_reducible assumption) | (with_reducible refine Below.grow ?_ ?_ _ _) | (with_reducible refine Below.drewN' ?_ _) | (with_reducible refine Below.drew ?_) | (with_reducible refine Below.alloc ?_ ?_ _) | (with_reducible refine Below.setCell ?_ ?_ _) | omega | (focus (simp; done)) | (focus (simp; omega)))), by rw [HFS.out, HLL.out]; exact hrd, HCC.out.symm, by omega, hk⟩
theorem ours_c (A : Option Addr) (n cap : Nat) (c : Int) (w : World) : Calls Try.prog 10 #[.agg #[.slice A n cap, .int .i64 c]] w fun e w' => e = .returned (.agg #[.slice A n cap, .int .i64 c]) ∧ Grew w w' := by
  go_enter Try.func10, Try.ntmps10
  go_wp2
  (refine bodyPost_ret (v := _) (by (simp [results, Try.results10, go_sem]; exact rfl)) rfl ⟨?_, (Below.toGrow (by repeat (first | (with_reducible exact Below.refl _ _) | (with_reducible assumption) | (with_reducible refine Below.grow ?_ ?_ _ _) | (with_reducible refine Below.drewN' ?_ _) | (with_reducible refine Below.drew ?_) | (with_reducible refine Below.alloc ?_ ?_ _) | (with_reducible refine Below.setCell ?_ ?_ _) | omega | (focus (simp; done)) | (focus (simp; omega)))))⟩; exact rfl)
theorem theirs_c (A : Option Addr) (n cap : Nat) (c : Int) (w : World) : Calls Try.prog 13 #[.agg #[.slice A n cap, .int .i64 c]] w fun e w' => e = .returned (.agg #[.slice A n cap, .int .i64 c]) ∧ Grew w w' := by
  go_enter Try.func13, Try.ntmps13
  go_wp2
  (refine bodyPost_ret (v := _) (by (simp [results, Try.results13, go_sem]; exact rfl)) rfl ⟨?_, (Below.toGrow (by repeat (first | (with_reducible exact Below.refl _ _) | (with_reducible assumption) | (with_reducible refine Below.grow ?_ ?_ _ _) | (with_reducible refine Below.drewN' ?_ _) | (with_reducible refine Below.drew ?_) | (with_reducible refine Below.alloc ?_ ?_ _) | (with_reducible refine Below.setCell ?_ ?_ _) | omega | (focus (simp; done)) | (focus (simp; omega)))))⟩; exact rfl)
set_option maxRecDepth 100000 in
set_option maxHeartbeats 2000000 in
theorem same_refl_c (x y : Value) (W : Int) (zs : List Int) (w : World) (hx : RdI w x zs) (hy : RdI w y zs) (hn : zs.length ≤ 65536) :
    Calls Try.prog 12 #[.agg #[x, .int .i64 W], .agg #[y, .int .i64 W]] w fun e w' => e = .returned (.bool true) ∧ Below w.heap.size w w' := by
  obtain ⟨A, c, rfl, hx⟩ := hx
  obtain ⟨B, d, rfl, hy⟩ := hy
  go_enter Try.func12, Try.ntmps12
  go_upto_region 3 with fail
  generalize hw0 : World.alloc _ _ = w0
  have hb0 : Below w.heap.size w w0 := by rw [← hw0]; (repeat (first | (with_reducible exact Below.refl _ _) | (with_reducible assumption) | (with_reducible refine Below.grow ?_ ?_ _ _) | (with_reducible refine Below.drewN' ?_ _) | (with_reducible refine Below.drew ?_) | (with_reducible refine Below.alloc ?_ ?_ _) | (with_reducible refine Below.setCell ?_ ?_ _) | omega | (focus (simp; done)) | (focus (simp; omega))))
  have hB1 : Blk w0 w.heap.size 24 #[.slice A zs.length c, .int .i64 W] := by rw [← hw0]; exact Blk.alloc (Blk.new _ _ _) _
  have hB2 : Blk w0 (w.heap.size + 1) 24 #[.slice B zs.length d, .int .i64 W] := by rw [← hw0]; exact Blk.new_at (by simp)
  clear hw0
  go_wp2_with fail
  go_loopw [5] (fun i wz => ∃ (j : Nat), j ≤ zs.length ∧ i = .int .i64 j ∧ Below w0.heap.size w0 wz) (fun i _ => zs.length - (intOf i).toNat)
  case atStart => exact ⟨0, Nat.zero_le _, rfl, Below.refl _ _⟩
  case round =>
    obtain ⟨j, hj, rfl, hb⟩ := hrel
    obtain ⟨r0, r1, rf, rl⟩ := (hB1.below hb hB1.lt).facts2
    obtain ⟨q0, q1, qf, ql⟩ := (hB2.below hb hB2.lt).facts2
    have hbw := hb0.trans (hb.mono hb0.size)
    by_cases hlt : j < zs.length
    · have hltI : (j : Int) < zs.length := by omega
      obtain ⟨b, o, rfl, hbl, hc⟩ := hx (by omega)
      obtain ⟨b', o', rfl, hbl', hc'⟩ := hy (by omega)
      have hz := List.getElem?_eq_getElem hlt
      have c0 := (hbw.cell (p := ⟨b, o + j, none⟩) hbl).trans (hc j _ hz)
      have c1 := (hbw.cell (p := ⟨b', o' + j, none⟩) hbl').trans (hc' j _ hz)
      generalize zs[j] = z at c0 c1
      clear hc hc' hz
      go_upto_region 6 with fail
      go_quiet (fail)
      go_wp2_with fail
      go_roundw
      case rel => exact ⟨j + 1, by omega, by go_num, by (repeat (first | (with_reducible exact Below.refl _ _) | (with_reducible assumption) | (with_reducible refine Below.grow ?_ ?_ _ _) | (with_reducible refine Below.drewN' ?_ _) | (with_reducible refine Below.drew ?_) | (with_reducible refine Below.alloc ?_ ?_ _) | (with_reducible refine Below.setCell ?_ ?_ _) | omega | (focus (simp; done)) | (focus (simp; omega))))⟩
      case measure => simp [intOf]; omega
    · obtain rfl : j = zs.length := by omega
      go_wp2_with fail
      go_ret
      exact ⟨rfl, hbw⟩
theorem eights_9 : eights 8 9 = [8, 16, 24, 32, 40, 48, 56, 64, 72] := by decide
set_option maxRecDepth 100000 in
set_option maxHeartbeats 2000000 in
theorem awake12_c (w : World) : Calls Try.prog 8 #[] w fun e w' => e = .returned (.bool true) ∧ Grew w w' := by
  go_enter Try.func8, Try.ntmps8
  go_wp2_with fail
  refine (new_c 80 80 _ (by decide)).mono ?_
  rintro e w1 ⟨x, k, rfl, hg, hx, hk1, hk2⟩
  obtain rfl : k = 9 := by omega
  rw [eights_9] at hx
  obtain ⟨A, c, rfl, -⟩ := id hx
  clear hk1 hk2
  have HX := Lib.hid hx
  have hbw := hg
  have hbws := hg.size
  clear hx hg
  have n1 : seekN 3 80 [8, 16, 24, 32, 40, 48, 56, 64, 72] = 8 := by decide
  have n2 : seekN 8 80 [8, 16, 24, 32, 40, 48, 56, 64, 72] = 16 := by decide
  have n3 : seekN 72 80 [8, 16, 24, 32, 40, 48, 56, 64, 72] = 79 := by decide
  have n4 : seekP 8 [8, 16, 24, 32, 40, 48, 56, 64, 72] = 0 := by decide
  have n5 : tsaneB 80 [8, 16, 24, 32, 40, 48, 56, 64, 72] = true := by decide
  go_wp2_with (first | (go_at_call 26; refine (next_c _ 80 _ _ _ (HX.out.below (by (repeat (first | (with_reducible exact Below.refl _ _) | (with_reducible assumption) | (with_reducible refine Below.grow ?_ ?_ _ _) | (with_reducible refine Below.drewN' ?_ _) | (with_reducible refine Below.drew ?_) | (with_reducible refine Below.alloc ?_ ?_ _) | (with_reducible refine Below.setCell ?_ ?_ _) | omega | (focus (simp; done)) | (focus (simp; omega)))))) (by decide) (by decide) (by decide) (by decide)).mono ?_; rintro e w1 ⟨rfl, X3, d3, rfl⟩) | (go_at_call 27; refine (prev_c _ 80 _ _ _ (HX.out.below (by (repeat (first | (with_reducible exact Below.refl _ _) | (with_reducible assumption) | (with_reducible refine Below.grow ?_ ?_ _ _) | (with_reducible refine Below.drewN' ?_ _) | (with_reducible refine Below.drew ?_) | (with_reducible refine Below.alloc ?_ ?_ _) | (with_reducible refine Below.setCell ?_ ?_ _) | omega | (focus (simp; done)) | (focus (simp; omega)))))) (by decide) (by decide) (by decide) (by decide)).mono ?_; rintro e w1 ⟨rfl, X4, d4, rfl⟩) | (go_at_call 9; refine (sane_c _ 80 _ _ (HX.out.below (by (repeat (first | (with_reducible exact Below.refl _ _) | (with_reducible assumption) | (with_reducible refine Below.grow ?_ ?_ _ _) | (with_reducible refine Below.drewN' ?_ _) | (with_reducible refine Below.drew ?_) | (with_reducible refine Below.alloc ?_ ?_ _) | (with_reducible refine Below.setCell ?_ ?_ _) | omega | (focus (simp; done)) | (focus (simp; omega)))))) (by decide)).mono ?_; rintro e w1 ⟨rfl, hg5⟩; obtain ⟨X5, d5, rfl⟩ := Below.toGrow hg5; clear hg5))
  go_ret
  exact ⟨rfl, (Below.toGrow (by repeat (first | (with_reducible exact Below.refl _ _) | (with_reducible assumption) | (with_reducible refine Below.grow ?_ ?_ _ _) | (with_reducible refine Below.drewN' ?_ _) | (with_reducible refine Below.drew ?_) | (with_reducible refine Below.alloc ?_ ?_ _) | (with_reducible refine Below.setCell ?_ ?_ _) | omega | (focus (simp; done)) | (focus (simp; omega)))))⟩
end Go.Proofs.Ytpcpgoeahndlfaa.Tab
