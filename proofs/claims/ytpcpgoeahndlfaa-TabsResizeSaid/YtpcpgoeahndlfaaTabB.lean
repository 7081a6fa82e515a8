/- Tab stops: Next, Prev, chosen, Resize, the document's Same; lapwinglaw12.awake. -/
import Derived.Test.YtpcpgoeahndlfaaTabA
namespace Go.Proofs.Ytpcpgoeahndlfaa.Tab
open Go.RowKit
theorem tsane_iff {W : Int} {zs : List Int} : tsaneB W zs = true ↔ (1 ≤ W ∧ W ≤ 4096) ∧ okL (-1) W zs = true := by unfold tsaneB; rw [Bool.and_eq_true, decide_eq_true_eq]
set_option maxRecDepth 100000 in
set_option maxHeartbeats 2000000 in
theorem next_c (at_ W : Int) (x : Value) (zs : List Int) (w : World) (hx : RdI w x zs) (hn : zs.length ≤ 65536) (hs : tsaneB W zs = true) (h1 : 0 ≤ at_) (h2 : at_ < W - 1) :
    Calls Try.prog 26 #[.agg #[x, .int .i64 W], .int .i64 at_, .int .i64 1] w fun e w' => e = .returned (.int .i64 (seekN at_ W zs)) ∧ Grew w w' := by
  have hmf : ∀ (fn : Fn) (first cap : Array Value) (w : World), (Instr.makeFunc fn first cap).run Try.prog w = .ok (.func fn first cap) w := fun _ _ _ _ => rfl
  have HS := Lib.hid hs
  have HW := Lib.hid (tsane_iff.1 hs).1
  have hW1 := HW.out.1
  have hW2 := HW.out.2
  have e2 : (if 0 < at_ then at_ else 0) = at_ := by split <;> omega
  obtain ⟨A, c, rfl, -⟩ := id hx
  clear hs
  go_enter Try.func26, Try.ntmps26
  go_wp2_with (go_at_call 9; refine (sane_c _ W zs _ (hx.below (by (repeat (first | (with_reducible exact Below.refl _ _) | (with_reducible assumption) | (with_reducible refine Below.grow ?_ ?_ _ _) | (with_reducible refine Below.drewN' ?_ _) | (with_reducible refine Below.drew ?_) | (with_reducible refine Below.alloc ?_ ?_ _) | (with_reducible refine Below.setCell ?_ ?_ _) | omega | (focus (simp; done)) | (focus (simp; omega)))))) hn).mono ?_; rw [HS.out]; rintro e w1 ⟨rfl, hg⟩; obtain ⟨X1, d1, rfl⟩ := Below.toGrow hg; clear hg)
  refine wp_loop_rounds 2 ?_
  rw [rounds_succ]
  go_wp2_with (go_at_call 40; refine (seekn_c at_ W w.heap.size _ zs _ (by (repeat (first | (with_reducible exact Blk.new _ _ _) | (with_reducible refine Blk.new_at ?_; simp; done) | (with_reducible refine Blk.grow ?_ _ _) | (with_reducible refine Blk.alloc ?_ _)))) (hx.below (by (repeat (first | (with_reducible exact Below.refl _ _) | (with_reducible assumption) | (with_reducible refine Below.grow ?_ ?_ _ _) | (with_reducible refine Below.drewN' ?_ _) | (with_reducible refine Below.drew ?_) | (with_reducible refine Below.alloc ?_ ?_ _) | (with_reducible refine Below.setCell ?_ ?_ _) | omega | (focus (simp; done)) | (focus (simp; omega)))))) hn HW.out).mono ?_; rintro e w2 ⟨rfl, rfl⟩)
  rw [rounds_succ]
  go_wp2_with fail
  go_ret
  exact ⟨rfl, (Below.toGrow (by repeat (first | (with_reducible exact Below.refl _ _) | (with_reducible assumption) | (with_reducible refine Below.grow ?_ ?_ _ _) | (with_reducible refine Below.drewN' ?_ _) | (with_reducible refine Below.drew ?_) | (with_reducible refine Below.alloc ?_ ?_ _) | (with_reducible refine Below.setCell ?_ ?_ _) | omega | (focus (simp; done)) | (focus (simp; omega)))))⟩
set_option maxRecDepth 100000 in
set_option maxHeartbeats 2000000 in
theorem prev_c (at_ W : Int) (x : Value) (zs : List Int) (w : World) (hx : RdI w x zs) (hn : zs.length ≤ 65536) (hs : tsaneB W zs = true) (h1 : 0 < at_) (h2 : at_ < W - 1) :
    Calls Try.prog 27 #[.agg #[x, .int .i64 W], .int .i64 at_, .int .i64 1] w fun e w' => e = .returned (.int .i64 (seekP at_ zs)) ∧ Grew w w' := by
  have hmf : ∀ (fn : Fn) (first cap : Array Value) (w : World), (Instr.makeFunc fn first cap).run Try.prog w = .ok (.func fn first cap) w := fun _ _ _ _ => rfl
  have HS := Lib.hid hs
  have HW := Lib.hid (tsane_iff.1 hs).1
  have hW1 := HW.out.1
  have hW2 := HW.out.2
  obtain ⟨A, c, rfl, -⟩ := id hx
  clear hs
  go_enter Try.func27, Try.ntmps27
  go_wp2_with (go_at_call 9; refine (sane_c _ W zs _ (hx.below (by (repeat (first | (with_reducible exact Below.refl _ _) | (with_reducible assumption) | (with_reducible refine Below.grow ?_ ?_ _ _) | (with_reducible refine Below.drewN' ?_ _) | (with_reducible refine Below.drew ?_) | (with_reducible refine Below.alloc ?_ ?_ _) | (with_reducible refine Below.setCell ?_ ?_ _) | omega | (focus (simp; done)) | (focus (simp; omega)))))) hn).mono ?_; rw [HS.out]; rintro e w1 ⟨rfl, hg⟩; obtain ⟨X1, d1, rfl⟩ := Below.toGrow hg; clear hg)
  refine wp_loop_rounds 2 ?_
  rw [rounds_succ]
  go_wp2_with (go_at_call 41; refine (seekp_c at_ W w.heap.size _ zs _ (by (repeat (first | (with_reducible exact Blk.new _ _ _) | (with_reducible refine Blk.new_at ?_; simp; done) | (with_reducible refine Blk.grow ?_ _ _) | (with_reducible refine Blk.alloc ?_ _)))) (hx.below (by (repeat (first | (with_reducible exact Below.refl _ _) | (with_reducible assumption) | (with_reducible refine Below.grow ?_ ?_ _ _) | (with_reducible refine Below.drewN' ?_ _) | (with_reducible refine Below.drew ?_) | (with_reducible refine Below.alloc ?_ ?_ _) | (with_reducible refine Below.setCell ?_ ?_ _) | omega | (focus (simp; done)) | (focus (simp; omega)))))) hn).mono ?_; rintro e w2 ⟨rfl, rfl⟩)
  rw [rounds_succ]
  go_wp2_with fail
  go_ret
  exact ⟨rfl, (Below.toGrow (by repeat (first | (with_reducible exact Below.refl _ _) | (with_reducible assumption) | (with_reducible refine Below.grow ?_ ?_ _ _) | (with_reducible refine Below.drewN' ?_ _) | (with_reducible refine Below.drew ?_) | (with_reducible refine Below.alloc ?_ ?_ _) | (with_reducible refine Below.setCell ?_ ?_ _) | omega | (focus (simp; done)) | (focus (simp; omega)))))⟩
theorem OwnI.mono {w : World} {base base' e : Nat} {v : Value} {zs : List Int} (h : OwnI w base e v zs) (hb : base' ≤ base) : OwnI w base' e v zs := by
  unfold OwnI World.ownsRow at *
  obtain ⟨hl, h | ⟨g, cap, cur, rfl, hb', hg, r⟩⟩ := h
  · exact ⟨hl, .inl h⟩
  · exact ⟨hl, .inr ⟨g, cap, cur, rfl, Nat.le_trans hb hb', hg, r⟩⟩
theorem lt_c (z n : Int) (g : Nat) (w : World) (hg : w.cell? ⟨g, 0, none⟩ = some (.int .i64 n)) : Calls Try.prog 30 #[.int .i64 z, .pointer (some ⟨g, 0, none⟩)] w fun e w' => e = .returned (.bool (decide (z < n))) ∧ w = w' := by
  go_enter Try.func30, Try.ntmps30
  go_wp2_with fail
  go_ret
  exact ⟨rfl, rfl⟩
def ChosenF (n : Int) (zs : List Int) (w : World) (e : Ending) (w' : World) : Prop := ∃ v, e = .returned v ∧ Below w.heap.size w w' ∧ OwnI w' (w.heap.size + 1) 3 v (zs.filter (fun z => decide (z < n)))
theorem filter_take (p : Int → Bool) {zs : List Int} {j : Nat} (hj : j < zs.length) : (zs.take (j + 1)).filter p = (zs.take j).filter p ++ (if p zs[j] = true then [zs[j]] else []) := by
  rw [List.take_succ_eq_append_getElem hj, List.filter_append]
  congr 1
  simp [List.filter_cons]
set_option maxRecDepth 100000 in
set_option maxHeartbeats 2000000 in
theorem chosen_c (x : Value) (W n : Int) (zs : List Int) (g : Nat) (w : World) (hx : RdI w x zs) (hn : zs.length ≤ 60000) (hg : Blk w g 3 #[.int .i64 n]) :
    Calls Try.prog 29 #[.agg #[x, .int .i64 W], .func (.func 30) #[] #[.pointer (some ⟨g, 0, none⟩)]] w (ChosenF n zs w) := by
  obtain ⟨i3, hi3, hz3, hs3, hb3⟩ := info_parts int_info
  have HI3 := Lib.hid hi3
  have HZ3 := Lib.hid hz3
  have HS3 := Lib.hid hs3
  have HB3 := Lib.hid hb3
  clear hi3 hz3 hs3 hb3
  obtain ⟨A, c, rfl, hx⟩ := hx
  go_enter Try.func29, Try.ntmps29
  go_upto_region 3 with fail
  generalize hw0 : World.alloc _ _ = w0
  have hb0 : Below w.heap.size w w0 := by rw [← hw0]; (repeat (first | (with_reducible exact Below.refl _ _) | (with_reducible assumption) | (with_reducible refine Below.grow ?_ ?_ _ _) | (with_reducible refine Below.drewN' ?_ _) | (with_reducible refine Below.drew ?_) | (with_reducible refine Below.alloc ?_ ?_ _) | (with_reducible refine Below.setCell ?_ ?_ _) | omega | (focus (simp; done)) | (focus (simp; omega))))
  have hs0 : w0.heap.size = w.heap.size + 1 := by rw [← hw0]; simp
  clear hw0
  go_wp2_with fail
  go_loopw [5, 11] (fun l i wz => ∃ (j : Nat), j ≤ zs.length ∧ i = .int .i64 j ∧ Below w.heap.size w wz ∧ OwnI wz (w.heap.size + 1) 3 l ((zs.take j).filter (fun z => decide (z < n))) ∧ w.heap.size + 1 ≤ wz.heap.size) (fun _ i _ => zs.length - (intOf i).toNat)
  case atStart => exact ⟨0, Nat.zero_le _, rfl, hb0, OwnI.nil _ _ _, by omega⟩
  case round =>
    obtain ⟨j, hj, rfl, hb, hl, hwz⟩ := hrel
    by_cases hlt : j < zs.length
    · have hltI : (j : Int) < zs.length := by omega
      obtain ⟨b, o, rfl, hbl, hc⟩ := hx (by omega)
      have hz := List.getElem?_eq_getElem hlt
      have c0 := (hb.cell (p := ⟨b, o + j, none⟩) hbl).trans (hc j _ hz)
      have HT := Lib.hid (filter_take (fun z => decide (z < n)) hlt)
      have g0 := (hg.below hb hg.lt).cell 0
      simp only [List.getElem?_toArray, List.getElem?_cons_zero] at g0
      have hbs := hb.size
      have hbl2 : b < wr.heap.size := by omega
      have HLA : Hid (((zs.take j).filter (fun z => decide (z < n))).length + [zs[j]].length ≤ 65536) := by
        show _ ≤ _
        have := List.length_filter_le (fun z => decide (z < n)) (zs.take j)
        rw [List.length_take] at this
        simp only [List.length_cons, List.length_nil]
        omega
      generalize zs[j] = z at c0 HT HLA
      have HLE : Hid (w.heap.size + 1 ≤ wr.heap.size) := hwz
      have HLD : Hid (w.heap.size + 1 ≤ (wr.alloc (.cells #[.int .i64 z] 3)).heap.size) := by show _ ≤ _; rw [World.size_alloc]; omega
      clear hc hz
      by_cases hzn : z < n
      · have HT2 := HT.out
        rw [if_pos (decide_eq_true hzn)] at HT2
        have HT3 := Lib.hid HT2
        clear HT2
        go_wp2_with (first | (go_at_call 30; refine (lt_c z n g _ g0).mono ?_; rintro e w2 ⟨rfl, rfl⟩) | (at_builtin; refine wpList_append_ints rfl _ _ _ rfl (w.heap.size + 1) 3 i3 rfl HI3.out HZ3.out HS3.out HB3.out _ _ ((zs.take j).filter (fun z => decide (z < n))) [z] rfl rfl (ownI_alloc hl _) (rdI_one _ _ _ _ (by simp)) HLA.out HLD.out ?_; intro v1 w3 hv1 hgb hor; obtain ⟨hz3, hb3, hk3⟩ := own_push hb (Nat.le_succ _) hl _ hgb HLE.out; clear hgb hor))
        go_roundw
        case rel => exact ⟨j + 1, by omega, by go_num, hb3, by rw [HT3.out]; exact hv1, hz3⟩
        case measure => simp [intOf]; omega
      · have HT2 := HT.out
        rw [if_neg (by simpa using hzn), List.append_nil] at HT2
        have HT3 := Lib.hid HT2
        clear HT2
        go_wp2_with (go_at_call 30; refine (lt_c z n g _ g0).mono ?_; rintro e w2 ⟨rfl, rfl⟩)
        go_roundw
        case rel => exact ⟨j + 1, by omega, by go_num, hb, by rw [HT3.out]; exact hl, hwz⟩
        case measure => simp [intOf]; omega
    · obtain rfl : j = zs.length := by omega
      rw [List.take_length] at hl
      go_wp2_with fail
      go_ret
      exact ⟨_, rfl, hb, hl⟩
end Go.Proofs.Ytpcpgoeahndlfaa.Tab
