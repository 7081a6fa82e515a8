/- Walk of lapwinglaw10.HistoryWindow. -/
import Derived.Test.YtpnadnjcacaibaaHistW
namespace Go.Proofs.Ytpnadnjcacaibaa.Row
open Go.RowKit
attribute [local go_sem] Nat.add_assoc Nat.add_pos_iff_pos_or_pos lt_add_r2 le_add_r2
theorem win_zero (L G : List Rw) : winL L G 0 = G := by
  unfold winL
  rw [Nat.sub_zero, List.drop_left, List.take_length]
theorem win_len (L G : List Rw) (q : Nat) (hq : q ≤ L.length) : (winL L G q).length = G.length := by
  unfold winL
  rw [List.length_take, List.length_drop, List.length_append]
  omega
theorem win_first (L G : List Rw) (b : Nat) (hb : b < L.length) (hg : 1 ≤ G.length) (r : Rw) (hr : L[L.length - 1 - b]? = some r) : (winL L G (b + 1))[0]? = some r := by
  unfold winL
  rw [List.getElem?_take, if_pos (by omega), List.getElem?_drop, Nat.add_zero, List.getElem?_append_left (by omega), show L.length - (b + 1) = L.length - 1 - b by omega]
  exact hr
theorem win_rest (L G : List Rw) (b : Nat) (hb : b < L.length) (hg : 1 ≤ G.length) : (winL L G (b + 1)).drop 1 = (winL L G b).take (G.length - 1) := by
  unfold winL
  rw [List.drop_take, List.drop_drop, List.take_take]
  congr 1
  · omega
  · congr 1
    omega

set_option maxRecDepth 100000 in
set_option maxHeartbeats 2000000 in
theorem win_out (x y : Value) (c k : Int) (L G : List Rw) (w : World) (hx : RdR0 w x L) (hy : RdR0 w y G) (hl : L.length ≤ maxLen) (hm : G.length ≤ maxLen) (h : ¬ (fewB L = true ∧ fewB G = true ∧ hsaneB L c = true ∧ gsaneB G = true)) : Calls Try.prog 8 #[.agg #[x, .int .i64 c], y, .int .i64 k] w fun e w' => e = .returned (.bool true) ∧ Grew w w' := by
  obtain ⟨A, cap, rfl, hc⟩ := hx.1.len
  obtain ⟨A2, cap2, rfl, hc2⟩ := hy.1.len
  have HL := Lib.hid hl
  have HM := Lib.hid hm
  clear hl hm
  cases h1 : fewB L
  · clear h
    generalize L.length = n at hc hx ⊢
    go_enter Try.func8, Try.ntmps8
    go_wp2_with (first | (go_at_call 19; refine (awake10_c _).mono ?_; rintro e w1 ⟨rfl, XA, dA, rfl⟩) | (go_at_call 20; (with_reducible refine (few_c (.slice A n cap) L _ (hx.below (by (repeat (first | (with_reducible exact Below.refl _ _) | (with_reducible assumption) | (with_reducible refine Below.grow ?_ ?_ _ _) | (with_reducible refine Below.drewN' ?_ _) | (with_reducible refine Below.drew ?_) | (with_reducible refine Below.alloc ?_ ?_ _) | (with_reducible refine Below.setCell ?_ ?_ _) | omega | (focus (simp; done)) | (focus (simp; omega)))))) HL.out).mono ?_); rintro e w1 ⟨rfl, rfl⟩))
    go_ret
    exact ⟨rfl, (Below.toGrow (by repeat (first | (with_reducible exact Below.refl _ _) | (with_reducible assumption) | (with_reducible refine Below.grow ?_ ?_ _ _) | (with_reducible refine Below.drewN' ?_ _) | (with_reducible refine Below.drew ?_) | (with_reducible refine Below.alloc ?_ ?_ _) | (with_reducible refine Below.setCell ?_ ?_ _) | omega | (focus (simp; done)) | (focus (simp; omega)))))⟩
  · cases h2 : fewB G
    · clear h
      generalize L.length = n at hc hx ⊢
      generalize G.length = n2 at hc2 hy ⊢
      go_enter Try.func8, Try.ntmps8
      go_wp2_with (first | (go_at_call 19; refine (awake10_c _).mono ?_; rintro e w1 ⟨rfl, XA, dA, rfl⟩) | (go_at_call 20; (with_reducible refine (few_c (.slice A n cap) L _ (hx.below (by (repeat (first | (with_reducible exact Below.refl _ _) | (with_reducible assumption) | (with_reducible refine Below.grow ?_ ?_ _ _) | (with_reducible refine Below.drewN' ?_ _) | (with_reducible refine Below.drew ?_) | (with_reducible refine Below.alloc ?_ ?_ _) | (with_reducible refine Below.setCell ?_ ?_ _) | omega | (focus (simp; done)) | (focus (simp; omega)))))) HL.out).mono ?_); rintro e w1 ⟨rfl, rfl⟩) | (go_at_call 20; (with_reducible refine (few_c (.slice A2 n2 cap2) G _ (hy.below (by (repeat (first | (with_reducible exact Below.refl _ _) | (with_reducible assumption) | (with_reducible refine Below.grow ?_ ?_ _ _) | (with_reducible refine Below.drewN' ?_ _) | (with_reducible refine Below.drew ?_) | (with_reducible refine Below.alloc ?_ ?_ _) | (with_reducible refine Below.setCell ?_ ?_ _) | omega | (focus (simp; done)) | (focus (simp; omega)))))) HM.out).mono ?_); rintro e w1 ⟨rfl, rfl⟩))
      go_ret
      exact ⟨rfl, (Below.toGrow (by repeat (first | (with_reducible exact Below.refl _ _) | (with_reducible assumption) | (with_reducible refine Below.grow ?_ ?_ _ _) | (with_reducible refine Below.drewN' ?_ _) | (with_reducible refine Below.drew ?_) | (with_reducible refine Below.alloc ?_ ?_ _) | (with_reducible refine Below.setCell ?_ ?_ _) | omega | (focus (simp; done)) | (focus (simp; omega)))))⟩
    · have hll := (few_iff.1 h1).1
      have hlm := (few_iff.1 h2).1
      have HLL : Hid (L.length ≤ 5000) := by show _ ≤ _; omega
      have HLM : Hid (G.length ≤ 5000) := by show _ ≤ _; omega
      cases h3 : hsaneB L c
      · clear h
        generalize L.length = n at hc hx hll ⊢
        generalize G.length = n2 at hc2 hy hlm ⊢
        go_enter Try.func8, Try.ntmps8
        go_wp2_with (first | (go_at_call 19; refine (awake10_c _).mono ?_; rintro e w1 ⟨rfl, XA, dA, rfl⟩) | (go_at_call 20; (with_reducible refine (few_c (.slice A n cap) L _ (hx.below (by (repeat (first | (with_reducible exact Below.refl _ _) | (with_reducible assumption) | (with_reducible refine Below.grow ?_ ?_ _ _) | (with_reducible refine Below.drewN' ?_ _) | (with_reducible refine Below.drew ?_) | (with_reducible refine Below.alloc ?_ ?_ _) | (with_reducible refine Below.setCell ?_ ?_ _) | omega | (focus (simp; done)) | (focus (simp; omega)))))) HL.out).mono ?_); rintro e w1 ⟨rfl, rfl⟩) | (go_at_call 20; (with_reducible refine (few_c (.slice A2 n2 cap2) G _ (hy.below (by (repeat (first | (with_reducible exact Below.refl _ _) | (with_reducible assumption) | (with_reducible refine Below.grow ?_ ?_ _ _) | (with_reducible refine Below.drewN' ?_ _) | (with_reducible refine Below.drew ?_) | (with_reducible refine Below.alloc ?_ ?_ _) | (with_reducible refine Below.setCell ?_ ?_ _) | omega | (focus (simp; done)) | (focus (simp; omega)))))) HM.out).mono ?_); rintro e w1 ⟨rfl, rfl⟩) | (go_at_call 22; refine (ours_c _ _ _ _ _).mono ?_; rintro e w1 ⟨rfl, XO, dO, rfl⟩) | (go_at_call 21; refine (hsane_c (.slice A n cap) c L _ ((hx.few h1).below (by (repeat (first | (with_reducible exact Below.refl _ _) | (with_reducible assumption) | (with_reducible refine Below.grow ?_ ?_ _ _) | (with_reducible refine Below.drewN' ?_ _) | (with_reducible refine Below.drew ?_) | (with_reducible refine Below.alloc ?_ ?_ _) | (with_reducible refine Below.setCell ?_ ?_ _) | omega | (focus (simp; done)) | (focus (simp; omega)))))) HLL.out).mono ?_; rintro e w1 ⟨rfl, XS, dS, rfl⟩))
        go_ret
        exact ⟨rfl, (Below.toGrow (by repeat (first | (with_reducible exact Below.refl _ _) | (with_reducible assumption) | (with_reducible refine Below.grow ?_ ?_ _ _) | (with_reducible refine Below.drewN' ?_ _) | (with_reducible refine Below.drew ?_) | (with_reducible refine Below.alloc ?_ ?_ _) | (with_reducible refine Below.setCell ?_ ?_ _) | omega | (focus (simp; done)) | (focus (simp; omega)))))⟩
      · have h4 : gsaneB G = false := by simpa [h1, h2, h3] using h
        clear h
        generalize L.length = n at hc hx hll ⊢
        generalize G.length = n2 at hc2 hy hlm ⊢
        go_enter Try.func8, Try.ntmps8
        go_wp2_with (first | (go_at_call 19; refine (awake10_c _).mono ?_; rintro e w1 ⟨rfl, XA, dA, rfl⟩) | (go_at_call 20; (with_reducible refine (few_c (.slice A n cap) L _ (hx.below (by (repeat (first | (with_reducible exact Below.refl _ _) | (with_reducible assumption) | (with_reducible refine Below.grow ?_ ?_ _ _) | (with_reducible refine Below.drewN' ?_ _) | (with_reducible refine Below.drew ?_) | (with_reducible refine Below.alloc ?_ ?_ _) | (with_reducible refine Below.setCell ?_ ?_ _) | omega | (focus (simp; done)) | (focus (simp; omega)))))) HL.out).mono ?_); rintro e w1 ⟨rfl, rfl⟩) | (go_at_call 20; (with_reducible refine (few_c (.slice A2 n2 cap2) G _ (hy.below (by (repeat (first | (with_reducible exact Below.refl _ _) | (with_reducible assumption) | (with_reducible refine Below.grow ?_ ?_ _ _) | (with_reducible refine Below.drewN' ?_ _) | (with_reducible refine Below.drew ?_) | (with_reducible refine Below.alloc ?_ ?_ _) | (with_reducible refine Below.setCell ?_ ?_ _) | omega | (focus (simp; done)) | (focus (simp; omega)))))) HM.out).mono ?_); rintro e w1 ⟨rfl, rfl⟩) | (go_at_call 22; refine (ours_c _ _ _ _ _).mono ?_; rintro e w1 ⟨rfl, XO, dO, rfl⟩) | (go_at_call 21; refine (hsane_c (.slice A n cap) c L _ ((hx.few h1).below (by (repeat (first | (with_reducible exact Below.refl _ _) | (with_reducible assumption) | (with_reducible refine Below.grow ?_ ?_ _ _) | (with_reducible refine Below.drewN' ?_ _) | (with_reducible refine Below.drew ?_) | (with_reducible refine Below.alloc ?_ ?_ _) | (with_reducible refine Below.setCell ?_ ?_ _) | omega | (focus (simp; done)) | (focus (simp; omega)))))) HLL.out).mono ?_; rintro e w1 ⟨rfl, XS, dS, rfl⟩) | (go_at_call 34; refine (gsane9_c (.slice A2 n2 cap2) G _ ((hy.few h2).below (by (repeat (first | (with_reducible exact Below.refl _ _) | (with_reducible assumption) | (with_reducible refine Below.grow ?_ ?_ _ _) | (with_reducible refine Below.drewN' ?_ _) | (with_reducible refine Below.drew ?_) | (with_reducible refine Below.alloc ?_ ?_ _) | (with_reducible refine Below.setCell ?_ ?_ _) | omega | (focus (simp; done)) | (focus (simp; omega)))))) HLM.out).mono ?_; rintro e w1 ⟨rfl, XG, dG, rfl⟩))
        go_ret
        exact ⟨rfl, (Below.toGrow (by repeat (first | (with_reducible exact Below.refl _ _) | (with_reducible assumption) | (with_reducible refine Below.grow ?_ ?_ _ _) | (with_reducible refine Below.drewN' ?_ _) | (with_reducible refine Below.drew ?_) | (with_reducible refine Below.alloc ?_ ?_ _) | (with_reducible refine Below.setCell ?_ ?_ _) | omega | (focus (simp; done)) | (focus (simp; omega)))))⟩

set_option maxRecDepth 100000 in
set_option maxHeartbeats 4000000 in
theorem win_in (x y : Value) (c k : Int) (L G : List Rw) (w : World) (hx : RdR0 w x L) (hy : RdR0 w y G) (hl : L.length ≤ maxLen) (hm : G.length ≤ maxLen) (h1 : fewB L = true) (h2 : fewB G = true) (h3 : hsaneB L c = true) (h4 : gsaneB G = true) : Calls Try.prog 8 #[.agg #[x, .int .i64 c], y, .int .i64 k] w fun e w' => e = .returned (.bool true) ∧ Grew w w' := by
  obtain ⟨A, cap, rfl, hc⟩ := hx.1.len
  obtain ⟨A2, cap2, rfl, hc2⟩ := hy.1.len
  have HL := Lib.hid hl
  have HM := Lib.hid hm
  have HX := Lib.hid (hx.few h1)
  have HY := Lib.hid (hy.few h2)
  have hll := (few_iff.1 h1).1
  have hlm := (few_iff.1 h2).1
  have HLL : Hid (L.length ≤ 5000) := by show _ ≤ _; omega
  have HLM : Hid (G.length ≤ 5000) := by show _ ≤ _; omega
  have H3 := Lib.hid h3
  have H4 := Lib.hid h4
  have hg1 := (gsane_iff.1 h4).1
  have HW0 := Lib.hid (win_zero L G)
  have HWL : Hid ((winL L G L.length).length ≤ maxLen) := by show _ ≤ _; rw [win_len L G _ (Nat.le_refl _)]; exact hm
  have HWN := Lib.hid (fun q hq => win_len L G q hq)
  have HWF := Lib.hid (fun b hb r hr => win_first L G b hb hg1 r hr)
  have HWR := Lib.hid (fun b hb => win_rest L G b hb hg1)
  generalize hn : L.length = n at hl hc hx HX hll HWL ⊢
  generalize hn2 : G.length = n2 at hm hc2 hy HY hlm hg1 ⊢
  have HN := Lib.hid hn
  have HN2 := Lib.hid hn2
  have hand : bits .and .i64 k 255 = k % 256 := and_mask 8 (by omega) k
  have hand2 : bits .and .i64 k 65535 = k % 65536 := and_mask 16 (by omega) k
  have hp0 : 0 ≤ k % 256 := by omega
  have hp1 : k % 256 < 256 := by omega
  have hp2 : 0 ≤ k % 65536 := by omega
  clear hn hn2 hl hm
  go_enter Try.func8, Try.ntmps8
  go_upto_region 4 with (first | (go_at_call 19; refine (awake10_c _).mono ?_; rintro e w1 ⟨rfl, XA, dA, rfl⟩) | (go_at_call 20; (with_reducible refine (few_c (.slice A n cap) L _ (hx.below (by (repeat (first | (with_reducible exact Below.refl _ _) | (with_reducible assumption) | (with_reducible refine Below.grow ?_ ?_ _ _) | (with_reducible refine Below.drewN' ?_ _) | (with_reducible refine Below.drew ?_) | (with_reducible refine Below.alloc ?_ ?_ _) | (with_reducible refine Below.setCell ?_ ?_ _) | omega | (focus (simp; done)) | (focus (simp; omega)))))) HL.out).mono ?_); rintro e w1 ⟨rfl, rfl⟩) | (go_at_call 20; (with_reducible refine (few_c (.slice A2 n2 cap2) G _ (hy.below (by (repeat (first | (with_reducible exact Below.refl _ _) | (with_reducible assumption) | (with_reducible refine Below.grow ?_ ?_ _ _) | (with_reducible refine Below.drewN' ?_ _) | (with_reducible refine Below.drew ?_) | (with_reducible refine Below.alloc ?_ ?_ _) | (with_reducible refine Below.setCell ?_ ?_ _) | omega | (focus (simp; done)) | (focus (simp; omega)))))) HM.out).mono ?_); rintro e w1 ⟨rfl, rfl⟩) | (go_at_call 22; refine (ours_c _ _ _ _ _).mono ?_; rintro e w1 ⟨rfl, XO, dO, rfl⟩) | (go_at_call 21; refine (hsane_c (.slice A n cap) c L _ ((hx.few h1).below (by (repeat (first | (with_reducible exact Below.refl _ _) | (with_reducible assumption) | (with_reducible refine Below.grow ?_ ?_ _ _) | (with_reducible refine Below.drewN' ?_ _) | (with_reducible refine Below.drew ?_) | (with_reducible refine Below.alloc ?_ ?_ _) | (with_reducible refine Below.setCell ?_ ?_ _) | omega | (focus (simp; done)) | (focus (simp; omega)))))) HLL.out).mono ?_; rintro e w1 ⟨rfl, XS, dS, rfl⟩) | (go_at_call 34; refine (gsane9_c (.slice A2 n2 cap2) G _ ((hy.few h2).below (by (repeat (first | (with_reducible exact Below.refl _ _) | (with_reducible assumption) | (with_reducible refine Below.grow ?_ ?_ _ _) | (with_reducible refine Below.drewN' ?_ _) | (with_reducible refine Below.drew ?_) | (with_reducible refine Below.alloc ?_ ?_ _) | (with_reducible refine Below.setCell ?_ ?_ _) | omega | (focus (simp; done)) | (focus (simp; omega)))))) HLM.out).mono ?_; rintro e w1 ⟨rfl, XG, dG, rfl⟩))
  generalize hw5 : World.grow _ _ _ = w5
  have hb5 : Below w.heap.size w w5 := by rw [← hw5]; (repeat (first | (with_reducible exact Below.refl _ _) | (with_reducible assumption) | (with_reducible refine Below.grow ?_ ?_ _ _) | (with_reducible refine Below.drewN' ?_ _) | (with_reducible refine Below.drew ?_) | (with_reducible refine Below.alloc ?_ ?_ _) | (with_reducible refine Below.setCell ?_ ?_ _) | omega | (focus (simp; done)) | (focus (simp; omega))))
  have hB1 : Blk w5 w.heap.size 38 #[.slice A n cap, .int .i64 c] := by rw [← hw5]; (repeat (first | (with_reducible exact Blk.new _ _ _) | (with_reducible refine Blk.set2 ?_) | (with_reducible refine Blk.drewd ?_) | (with_reducible refine Blk.grow ?_ _ _) | (with_reducible refine Blk.new_at ?_; simp; done) | (with_reducible refine Blk.alloc ?_ _)))
  clear hw5 hx hy
  obtain ⟨r0, r1, rf, rl⟩ := hB1.facts2
  go_upto_region 6 with (first | (go_at_call 22; refine (ours_c _ _ _ _ _).mono ?_; rintro e w1 ⟨rfl, XO, dO, rfl⟩))
  generalize hw6 : World.alloc _ _ = w6
  have hb6 : Below w5.heap.size w5 w6 := by rw [← hw6]; (repeat (first | (with_reducible exact Below.refl _ _) | (with_reducible assumption) | (with_reducible refine Below.grow ?_ ?_ _ _) | (with_reducible refine Below.drewN' ?_ _) | (with_reducible refine Below.drew ?_) | (with_reducible refine Below.alloc ?_ ?_ _) | (with_reducible refine Below.setCell ?_ ?_ _) | omega | (focus (simp; done)) | (focus (simp; omega))))
  have hB8 : Blk w6 (w5.heap.size + XO.size) 41 #[.slice A n cap, .int .i64 c] := by rw [← hw6]; refine Blk.alloc ?_ _; exact Blk.new_at (by simp)
  have hB9 : Blk w6 (w5.heap.size + (XO.size + 1)) 60 #[.slice A2 n2 cap2] := by rw [← hw6]; exact Blk.new_at (by simp; omega)
  clear hw6
  have hB1' := hB1.below hb6 hB1.lt
  have HB1 := Lib.hid hB1'
  have HB8 := Lib.hid hB8
  have HB9 := Lib.hid hB9
  have HB6 := Lib.hid (hb5.trans (hb6.mono hb5.size))
  have HX6 := Lib.hid (HX.out.below HB6.out)
  have HY6 := Lib.hid (HY.out.below HB6.out)
  clear r0 r1 rf rl hB1 hb5 hb6
  generalize w5.heap.size + XO.size = g8 at *
  generalize w5.heap.size + (XO.size + 1) = g9 at *
  obtain ⟨r0, r1, rf, rl⟩ := hB1'.facts2; obtain ⟨p0, p1, pf, pl⟩ := hB8.facts2
  have q0 := hB9.cell 0
  have ql := hB9.lt
  simp only [List.getElem?_toArray, List.getElem?_cons_zero] at q0
  clear hB1' hB8 hB9
  have hs0 := sameL_refl G
  have hs1 := sameL_refl (winL L G n)
  have hw1 : IntKind.i64.wrap ((n : Int) + k % 256) = (n : Int) + k % 256 := IntWalk.i64_in _ (by omega)
  go_wp2_with fail
  refine hr_start (S := (fun w' => w'.cell? ⟨g8, 0, none⟩ = some (.slice A n cap) ∧ w'.cell? ⟨g8, 1, none⟩ = some (.int .i64 c) ∧ w'.cell? ⟨g9, 0, none⟩ = some (.slice A2 n2 cap2) ∧ w'.cell? ⟨w.heap.size, 0, none⟩ = some (.slice A n cap) ∧ w'.cell? ⟨w.heap.size, 1, none⟩ = some (.int .i64 c))) (by kernel_rfl) rfl ?_ (fun hHeld => ?_)
  · ((try dsimp only); go_simp)
  refine hr_take (i := 0) rfl rfl (by kernel_rfl) (by kernel_rfl) (by kernel_rfl) (by kernel_rfl) (fun _ _ _ h => h) (v := ?_) ?_ (by assumption) ?_
  rotate_left
  focus (intro wS hSw; (try dsimp only at hSw); go_simp; (try with_reducible rfl))
  simp only [List.set_cons_zero, List.set_cons_succ]
  refine hr_take (i := 1) rfl rfl (by kernel_rfl) (by kernel_rfl) (by kernel_rfl) (by kernel_rfl) (fun _ _ _ h => h) (v := ?_) ?_ (by assumption) ?_
  rotate_left
  focus (intro wS hSw; (try dsimp only at hSw); go_simp; (try with_reducible rfl))
  simp only [List.set_cons_zero, List.set_cons_succ]
  refine hr_take (i := 3) rfl rfl (by kernel_rfl) (by kernel_rfl) (by kernel_rfl) (by kernel_rfl) (fun _ _ _ h => h) (v := ?_) ?_ (by assumption) ?_
  rotate_left
  focus (intro wS hSw; (try dsimp only at hSw); go_simp; (try with_reducible rfl))
  simp only [List.set_cons_zero, List.set_cons_succ]
  refine hr_op (i := 2) rfl rfl (by kernel_rfl) (by kernel_rfl) (fun K hK => ?_)
  go_simp
  ((with_reducible refine (window_c (.slice A n cap) (.slice A2 n2 cap2) c 0 L G 0 _ (HX6.out.below (by (repeat (first | (with_reducible exact Below.refl _ _) | (with_reducible assumption) | (with_reducible refine Below.grow ?_ ?_ _ _) | (with_reducible refine Below.drewN' ?_ _) | (with_reducible refine Below.drew ?_) | (with_reducible refine Below.alloc ?_ ?_ _) | (with_reducible refine Below.setCell ?_ ?_ _) | omega | (focus (simp; done)) | (focus (simp; omega)))))) (HY6.out.below (by (repeat (first | (with_reducible exact Below.refl _ _) | (with_reducible assumption) | (with_reducible refine Below.grow ?_ ?_ _ _) | (with_reducible refine Below.drewN' ?_ _) | (with_reducible refine Below.drew ?_) | (with_reducible refine Below.alloc ?_ ?_ _) | (with_reducible refine Below.setCell ?_ ?_ _) | omega | (focus (simp; done)) | (focus (simp; omega)))))) HLL.out HLM.out H3.out H4.out (by omega)).mono ?_); rintro e wq ⟨v1, rfl, hg1, hv1⟩; rw [HW0.out] at hv1; obtain ⟨Aw1, cw1, rfl, hcw1⟩ := hv1.1.len; obtain ⟨X1, d1, rfl⟩ := Below.toGrow hg1; (try simp only [World.grow_drew] at hv1); clear hg1)
  (try go_wp2_with fail)
  refine hK.out _ _ ?_ (fun hHeld => ?_)
  · ((try dsimp only); go_simp)
  clear hK K
  simp only [List.set_cons_zero, List.set_cons_succ]
  refine hr_op (i := 4) rfl rfl (by kernel_rfl) (by kernel_rfl) (fun K hK => ?_)
  go_simp
  ((with_reducible refine (sameL_c (.slice Aw1 G.length cw1) (.slice A2 n2 cap2) G G _ (hv1.below (by (repeat (first | (with_reducible exact Below.refl _ _) | (with_reducible assumption) | (with_reducible refine Below.grow ?_ ?_ _ _) | (with_reducible refine Below.drewN' ?_ _) | (with_reducible refine Below.drew ?_) | (with_reducible refine Below.alloc ?_ ?_ _) | (with_reducible refine Below.setCell ?_ ?_ _) | omega | (focus (simp; done)) | (focus (simp; omega)))))) (HY6.out.below (by (repeat (first | (with_reducible exact Below.refl _ _) | (with_reducible assumption) | (with_reducible refine Below.grow ?_ ?_ _ _) | (with_reducible refine Below.drewN' ?_ _) | (with_reducible refine Below.drew ?_) | (with_reducible refine Below.alloc ?_ ?_ _) | (with_reducible refine Below.setCell ?_ ?_ _) | omega | (focus (simp; done)) | (focus (simp; omega)))))) HM.out HM.out).mono ?_); rintro e wq ⟨rfl, X2, d2, rfl⟩)
  (try go_wp2_with fail)
  refine hK.out _ _ ?_ (fun hHeld => ?_)
  · ((try dsimp only); go_simp)
  clear hK K
  simp only [List.set_cons_zero, List.set_cons_succ]
  refine hr_take (i := 5) rfl rfl (by kernel_rfl) (by kernel_rfl) (by kernel_rfl) (by kernel_rfl) (fun _ _ _ h => h) (v := ?_) ?_ (by assumption) ?_
  rotate_left
  focus (intro wS hSw; (try dsimp only at hSw); go_simp; (try with_reducible rfl))
  simp only [List.set_cons_zero, List.set_cons_succ]
  refine hr_take (i := 6) rfl rfl (by kernel_rfl) (by kernel_rfl) (by kernel_rfl) (by kernel_rfl) (fun _ _ _ h => h) (v := ?_) ?_ (by assumption) ?_
  rotate_left
  focus (intro wS hSw; (try dsimp only at hSw); go_simp; (try with_reducible rfl))
  simp only [List.set_cons_zero, List.set_cons_succ]
  refine hr_take (i := 7) rfl rfl (by kernel_rfl) (by kernel_rfl) (by kernel_rfl) (by kernel_rfl) (fun _ _ _ h => h) (v := ?_) ?_ (by assumption) ?_
  rotate_left
  focus (intro wS hSw; (try dsimp only at hSw); go_simp; (try with_reducible rfl))
  simp only [List.set_cons_zero, List.set_cons_succ]
  refine hr_take (i := 8) rfl rfl (by kernel_rfl) (by kernel_rfl) (by kernel_rfl) (by kernel_rfl) (fun _ _ _ h => h) (v := ?_) ?_ (by assumption) ?_
  rotate_left
  focus (intro wS hSw; (try dsimp only at hSw); go_simp; (try with_reducible rfl))
  simp only [List.set_cons_zero, List.set_cons_succ]
  refine hr_take (i := 9) rfl rfl (by kernel_rfl) (by kernel_rfl) (by kernel_rfl) (by kernel_rfl) (fun _ _ _ h => h) (v := ?_) ?_ (by assumption) ?_
  rotate_left
  focus (intro wS hSw; (try dsimp only at hSw); go_simp; (try with_reducible rfl))
  simp only [List.set_cons_zero, List.set_cons_succ]
  refine hr_take (i := 10) rfl rfl (by kernel_rfl) (by kernel_rfl) (by kernel_rfl) (by kernel_rfl) (fun _ _ _ h => h) (v := ?_) ?_ (by assumption) ?_
  rotate_left
  focus (intro wS hSw; (try dsimp only at hSw); go_simp; (try with_reducible rfl))
  simp only [List.set_cons_zero, List.set_cons_succ]
  refine hr_take (i := 11) rfl rfl (by kernel_rfl) (by kernel_rfl) (by kernel_rfl) (by kernel_rfl) (fun _ _ _ h => h) (v := ?_) ?_ (by assumption) ?_
  rotate_left
  focus (intro wS hSw; (try dsimp only at hSw); go_simp; (try with_reducible rfl))
  simp only [List.set_cons_zero, List.set_cons_succ]
  refine hr_take (i := 12) rfl rfl (by kernel_rfl) (by kernel_rfl) (by kernel_rfl) (by kernel_rfl) (fun _ _ _ h => h) (v := ?_) ?_ (by assumption) ?_
  rotate_left
  focus (intro wS hSw; (try dsimp only at hSw); go_simp; (try with_reducible rfl))
  simp only [List.set_cons_zero, List.set_cons_succ]
  refine hr_take (i := 13) rfl rfl (by kernel_rfl) (by kernel_rfl) (by kernel_rfl) (by kernel_rfl) (fun _ _ _ h => h) (v := ?_) ?_ (by assumption) ?_
  rotate_left
  focus (intro wS hSw; (try dsimp only at hSw); go_simp; (try with_reducible rfl))
  simp only [List.set_cons_zero, List.set_cons_succ]
  refine hr_take (i := 14) rfl rfl (by kernel_rfl) (by kernel_rfl) (by kernel_rfl) (by kernel_rfl) (fun _ _ _ h => h) (v := ?_) ?_ (by assumption) ?_
  rotate_left
  focus (intro wS hSw; (try dsimp only at hSw); go_simp; (try with_reducible rfl))
  simp only [List.set_cons_zero, List.set_cons_succ]
  refine hr_take (i := 16) rfl rfl (by kernel_rfl) (by kernel_rfl) (by kernel_rfl) (by kernel_rfl) (fun _ _ _ h => h) (v := ?_) ?_ (by assumption) ?_
  rotate_left
  focus (intro wS hSw; (try dsimp only at hSw); go_simp; (try with_reducible rfl))
  simp only [List.set_cons_zero, List.set_cons_succ]
  refine hr_take (i := 17) rfl rfl (by kernel_rfl) (by kernel_rfl) (by kernel_rfl) (by kernel_rfl) (fun _ _ _ h => h) (v := ?_) ?_ (by assumption) ?_
  rotate_left
  focus (intro wS hSw; (try dsimp only at hSw); go_simp; (try with_reducible rfl))
  simp only [List.set_cons_zero, List.set_cons_succ]
  refine hr_take (i := 18) rfl rfl (by kernel_rfl) (by kernel_rfl) (by kernel_rfl) (by kernel_rfl) (fun _ _ _ h => h) (v := ?_) ?_ (by assumption) ?_
  rotate_left
  focus (intro wS hSw; (try dsimp only at hSw); go_simp; (try with_reducible rfl))
  simp only [List.set_cons_zero, List.set_cons_succ]
  refine hr_take (i := 19) rfl rfl (by kernel_rfl) (by kernel_rfl) (by kernel_rfl) (by kernel_rfl) (fun _ _ _ h => h) (v := ?_) ?_ (by assumption) ?_
  rotate_left
  focus (intro wS hSw; (try dsimp only at hSw); go_simp; (try with_reducible rfl))
  simp only [List.set_cons_zero, List.set_cons_succ]
  refine hr_take (i := 20) rfl rfl (by kernel_rfl) (by kernel_rfl) (by kernel_rfl) (by kernel_rfl) (fun _ _ _ h => h) (v := ?_) ?_ (by assumption) ?_
  rotate_left
  focus (intro wS hSw; (try dsimp only at hSw); go_simp; (try with_reducible rfl))
  simp only [List.set_cons_zero, List.set_cons_succ]
  refine hr_op (i := 15) rfl rfl (by kernel_rfl) (by kernel_rfl) (fun K hK => ?_)
  go_simp
  ((with_reducible refine (window_c (.slice A n cap) (.slice A2 n2 cap2) c _ L G n _ (HX6.out.below (by (repeat (first | (with_reducible exact Below.refl _ _) | (with_reducible assumption) | (with_reducible refine Below.grow ?_ ?_ _ _) | (with_reducible refine Below.drewN' ?_ _) | (with_reducible refine Below.drew ?_) | (with_reducible refine Below.alloc ?_ ?_ _) | (with_reducible refine Below.setCell ?_ ?_ _) | omega | (focus (simp; done)) | (focus (simp; omega)))))) (HY6.out.below (by (repeat (first | (with_reducible exact Below.refl _ _) | (with_reducible assumption) | (with_reducible refine Below.grow ?_ ?_ _ _) | (with_reducible refine Below.drewN' ?_ _) | (with_reducible refine Below.drew ?_) | (with_reducible refine Below.alloc ?_ ?_ _) | (with_reducible refine Below.setCell ?_ ?_ _) | omega | (focus (simp; done)) | (focus (simp; omega)))))) HLL.out HLM.out H3.out H4.out (by rw [HN.out]; omega)).mono ?_); rintro e wq ⟨v2, rfl, hg2, hv2⟩; obtain ⟨X3, d3, rfl⟩ := Below.toGrow hg2; (try simp only [World.grow_grow] at hv2); (try simp only [Array.append_assoc] at hv2); clear hg2)
  (try go_wp2_with fail)
  refine hK.out _ _ ?_ (fun hHeld => ?_)
  · ((try dsimp only); go_simp)
  clear hK K
  simp only [List.set_cons_zero, List.set_cons_succ]
  refine hr_op (i := 21) rfl rfl (by kernel_rfl) (by kernel_rfl) (fun K hK => ?_)
  go_simp
  ((with_reducible refine (window_c (.slice A n cap) (.slice A2 n2 cap2) c _ L G n _ (HX6.out.below (by (repeat (first | (with_reducible exact Below.refl _ _) | (with_reducible assumption) | (with_reducible refine Below.grow ?_ ?_ _ _) | (with_reducible refine Below.drewN' ?_ _) | (with_reducible refine Below.drew ?_) | (with_reducible refine Below.alloc ?_ ?_ _) | (with_reducible refine Below.setCell ?_ ?_ _) | omega | (focus (simp; done)) | (focus (simp; omega)))))) (HY6.out.below (by (repeat (first | (with_reducible exact Below.refl _ _) | (with_reducible assumption) | (with_reducible refine Below.grow ?_ ?_ _ _) | (with_reducible refine Below.drewN' ?_ _) | (with_reducible refine Below.drew ?_) | (with_reducible refine Below.alloc ?_ ?_ _) | (with_reducible refine Below.setCell ?_ ?_ _) | omega | (focus (simp; done)) | (focus (simp; omega)))))) HLL.out HLM.out H3.out H4.out (by rw [HN.out]; omega)).mono ?_); rintro e wq ⟨v3, rfl, hg3, hv3⟩; obtain ⟨X4, d4, rfl⟩ := Below.toGrow hg3; replace hv2 := hv2.below ((Below.refl _ _).grow (Nat.le_refl _) X4 d4); (try simp only [World.grow_grow] at hv2 hv3); (try simp only [Array.append_assoc] at hv2 hv3); clear hg3)
  (try go_wp2_with fail)
  refine hK.out _ _ ?_ (fun hHeld => ?_)
  · ((try dsimp only); go_simp)
  clear hK K
  simp only [List.set_cons_zero, List.set_cons_succ]
  refine hr_op (i := 22) rfl rfl (by kernel_rfl) (by kernel_rfl) (fun K hK => ?_)
  go_simp
  ((with_reducible refine (sameL_c v2 v3 (winL L G n) (winL L G n) _ (hv2.below (by (repeat (first | (with_reducible exact Below.refl _ _) | (with_reducible assumption) | (with_reducible refine Below.grow ?_ ?_ _ _) | (with_reducible refine Below.drewN' ?_ _) | (with_reducible refine Below.drew ?_) | (with_reducible refine Below.alloc ?_ ?_ _) | (with_reducible refine Below.setCell ?_ ?_ _) | omega | (focus (simp; done)) | (focus (simp; omega)))))) (hv3.below (by (repeat (first | (with_reducible exact Below.refl _ _) | (with_reducible assumption) | (with_reducible refine Below.grow ?_ ?_ _ _) | (with_reducible refine Below.drewN' ?_ _) | (with_reducible refine Below.drew ?_) | (with_reducible refine Below.alloc ?_ ?_ _) | (with_reducible refine Below.setCell ?_ ?_ _) | omega | (focus (simp; done)) | (focus (simp; omega)))))) HWL.out HWL.out).mono ?_); rintro e wq ⟨rfl, X5, d5, rfl⟩)
  (try go_wp2_with fail)
  refine hK.out _ _ ?_ (fun hHeld => ?_)
  · ((try dsimp only); go_simp)
  clear hK K
  simp only [List.set_cons_zero, List.set_cons_succ]
  refine hr_take (i := 23) rfl rfl (by kernel_rfl) (by kernel_rfl) (by kernel_rfl) (by kernel_rfl) (fun _ _ _ h => h) (v := ?_) ?_ (by assumption) ?_
  rotate_left
  focus (intro wS hSw; (try dsimp only at hSw); go_simp; (try with_reducible rfl))
  simp only [List.set_cons_zero, List.set_cons_succ]
  refine hr_take (i := 24) rfl rfl (by kernel_rfl) (by kernel_rfl) (by kernel_rfl) (by kernel_rfl) (fun _ _ _ h => h) (v := ?_) ?_ (by assumption) ?_
  rotate_left
  focus (intro wS hSw; (try dsimp only at hSw); go_simp; (try with_reducible rfl))
  simp only [List.set_cons_zero, List.set_cons_succ]
  refine hr_done (by kernel_rfl) ?_
  clear hHeld hv1 hv2 hv3 hs0 hs1 hw1 r0 r1 rf rl p0 p1 pf pl q0 ql hcw1 hand hp0 hp1
  go_upto_region 8 with fail
  generalize hw7 : World.grow _ _ _ = w7
  have hb7 : Below w6.heap.size w6 w7 := by rw [← hw7]; (repeat (first | (with_reducible exact Below.refl _ _) | (with_reducible assumption) | (with_reducible refine Below.grow ?_ ?_ _ _) | (with_reducible refine Below.drewN' ?_ _) | (with_reducible refine Below.drew ?_) | (with_reducible refine Below.alloc ?_ ?_ _) | (with_reducible refine Below.setCell ?_ ?_ _) | omega | (focus (simp; done)) | (focus (simp; omega))))
  clear hw7
  have hB1 := HB1.out.below hb7 HB1.out.lt
  obtain ⟨r0, r1, rf, rl⟩ := hB1.facts2
  by_cases hn0 : n = 0
  · subst hn0
    go_wp2_with fail
    go_ret
    exact ⟨rfl, Below.toGrow (HB6.out.trans (hb7.mono HB6.out.size))⟩
  · have hn0' : ((n : Int) == 0) = false := by simp; omega
    have hn1 : 0 < n := by omega
    have hn1I : (0 : Int) < n := by omega
    obtain ⟨b, hb⟩ : ∃ q : Nat, k % 65536 % (n : Int) = (q : Int) := ⟨(k % 65536 % (n : Int)).toNat, (Int.toNat_of_nonneg (Int.emod_nonneg _ (by omega))).symm⟩
    have hbn : b < n := by
      have := Int.emod_lt_of_pos (k % 65536) hn1I
      omega
    have hbl : b < L.length := by rw [HN.out]; exact hbn
    obtain ⟨r, hr⟩ : ∃ r, L[L.length - 1 - b]? = some r := ⟨_, List.getElem?_eq_getElem (by omega)⟩
    have HR := Lib.hid hr
    have HF := Lib.hid (HWF.out b hbl r hr)
    have HRS := Lib.hid (HWR.out b hbl)
    have HE1 := Lib.hid (HWN.out b (by omega))
    have HE2 := Lib.hid (HWN.out (b + 1) (by omega))
    have hB8 := HB8.out.below hb7 HB8.out.lt
    have hB9 := HB9.out.below hb7 HB9.out.lt
    have HX7 := Lib.hid (HX6.out.below hb7)
    have HY7 := Lib.hid (HY6.out.below hb7)
    have HB7 := Lib.hid (HB6.out.trans (hb7.mono HB6.out.size))
    have HBL := Lib.hid hbl
    clear hn0 hb7 hB1 hr hbl
    go_upto_region 11 with fail
    simp only [hb]
    clear hb hand2 hp2
    obtain ⟨p0, p1, pf, pl⟩ := hB8.facts2
    have q0 := hB9.cell 0
    have ql := hB9.lt
    simp only [List.getElem?_toArray, List.getElem?_cons_zero] at q0
    go_wp2_with fail
    refine (window_c (.slice A n cap) (.slice A2 n2 cap2) c _ L G b _ HX7.out HY7.out HLL.out HLM.out H3.out H4.out (by rw [HN.out]; omega)).mono ?_
    rintro e w8 ⟨v1, rfl, hg1, hv1⟩
    obtain ⟨Aw1, cw1, rfl, hcw1⟩ := hv1.1.len
    rw [HE1.out, HN2.out] at hv1 hcw1 ⊢
    have hB8' := hB8.below hg1 hB8.lt
    have hB9' := hB9.below hg1 hB9.lt
    clear p0 p1 pf pl q0 ql r0 r1 rf rl
    obtain ⟨p0, p1, pf, pl⟩ := hB8'.facts2
    have q0 := hB9'.cell 0
    have ql := hB9'.lt
    simp only [List.getElem?_toArray, List.getElem?_cons_zero] at q0
    go_wp2_with fail
    refine (window_c (.slice A n cap) (.slice A2 n2 cap2) c _ L G (b + 1) _ (HX7.out.below hg1) (HY7.out.below hg1) HLL.out HLM.out H3.out H4.out (by rw [HN.out]; omega)).mono ?_
    rintro e w9 ⟨v2, rfl, hg2, hv2⟩
    obtain ⟨Aw2, cw2, rfl, hcw2⟩ := hv2.1.len
    rw [HE2.out, HN2.out] at hv2 hcw2 ⊢
    have hB8'' := hB8'.below hg2 hB8'.lt
    have hgg := hg1.trans (hg2.mono hg1.size)
    replace hv1 := hv1.below hg2
    clear p0 p1 pf pl q0 ql hB8 hB9 hB8' hB9'
    obtain ⟨p0, p1, pf, pl⟩ := hB8''.facts2
    go_wp2_with fail
    refine (at_yes (.slice A n cap) c L b r _ (HX7.out.below hgg) HLL.out H3.out HBL.out HR.out).mono ?_
    rintro e w10 ⟨rfl, hg⟩
    replace hg := hg.below
    replace hv1 := hv1.below hg
    replace hv2 := hv2.below hg
    have hgh := hgg.trans (hg.mono hgg.size)
    clear p0 p1 pf pl hB8'' hg hg1 hg2 hgg
    go_upto_region 14 with fail
    generalize hw11 : w10.alloc _ = w11
    have hg : Below w10.heap.size w10 w11 := by rw [← hw11]; (repeat (first | (with_reducible exact Below.refl _ _) | (with_reducible assumption) | (with_reducible refine Below.grow ?_ ?_ _ _) | (with_reducible refine Below.drewN' ?_ _) | (with_reducible refine Below.drew ?_) | (with_reducible refine Below.alloc ?_ ?_ _) | (with_reducible refine Below.setCell ?_ ?_ _) | omega | (focus (simp; done)) | (focus (simp; omega))))
    have hB13 : Blk w11 w10.heap.size 24 #[.slice r.A r.n r.cap, .bool r.wb, .int .i64 r.dir, .bool r.ex] := by rw [← hw11]; exact Blk.new _ _ _
    clear hw11
    replace hv1 := hv1.below hg
    replace hv2 := hv2.below hg
    have hgi := hgh.trans (hg.mono hgh.size)
    have HBF := Lib.hid (HB7.out.trans (hgi.mono HB7.out.size))
    have hw0 : 0 < (winL L G (b + 1)).length := by rw [HE2.out, HN2.out]; omega
    obtain ⟨bw, ow, rfl, hbw, hat, hokr⟩ := hv2.at_ hw0
    rw [show (winL L G (b + 1))[0] = r from Option.some.inj ((List.getElem?_eq_getElem hw0).symm.trans HF.out), Nat.zero_mul, Nat.add_zero] at hat
    rw [show (winL L G (b + 1))[0] = r from Option.some.inj ((List.getElem?_eq_getElem hw0).symm.trans HF.out)] at hokr
    obtain ⟨f0, f1, f2, f3⟩ := hat
    obtain ⟨d, hd⟩ : ∃ d, d = n2 - 1 := ⟨_, rfl⟩
    have HD := Lib.hid hd
    obtain ⟨A3, -, hrun1, hcut1⟩ := slice1 (E := encR) (P := Try.prog) 36 24 Try.underlying36 (by kernel_rfl) (some ⟨bw, ow, none⟩) n2 cw2 1 (by omega) hcw2
    obtain ⟨A4, -, hrun2, hcut2⟩ := slice0 (E := encR) (P := Try.prog) 36 24 Try.underlying36 (by kernel_rfl) Aw1 n2 cw1 d (by omega) hcw1
    rw [show ((1 : Nat) : Int) = 1 from rfl] at hrun1
    have hw1 : IntKind.i64.wrap ((n2 : Int) - 1) = (d : Int) := by rw [IntWalk.i64_in _ (by omega)]; omega
    have hpn : 0 < n2 := by omega
    have HV2 : Hid (RdR w11 (.slice A3 (n2 - 1) (cw2 - 1)) ((winL L G (b + 1)).drop 1)) := ⟨hcut1 _ _ hv2.1, fun r hr => hv2.2 r (List.mem_of_mem_drop hr)⟩
    have HV1 : Hid (RdR w11 (.slice A4 d cw1) ((winL L G b).take d)) := ⟨hcut2 _ _ hv1.1, fun r hr => hv1.2 r (List.mem_of_mem_take hr)⟩
    have HEQ : Hid ((winL L G (b + 1)).drop 1 = (winL L G b).take d) := by show _ = _; rw [HRS.out, HN2.out, hd]
    have HLA : Hid (((winL L G b).take d).length ≤ maxLen) := by show _ ≤ _; have := List.length_take_le d (winL L G b); unfold maxLen; omega
    have hs0 := sameRow_refl r
    have hs1 := sameL_refl ((winL L G b).take d)
    have HOK := Lib.hid hokr
    obtain ⟨s0, s1, s2, s3, sf, sl⟩ := hB13.facts4
    generalize w10.heap.size = g13 at *
    clear hv1 hv2 hcut1 hcut2 hd hg hgh hgi hokr hw0 hB13
    go_upto_region 16 with fail
    refine hr_start (S := (fun w' => w'.cell? ⟨bw, ow, none⟩ = some (.slice r.A r.n r.cap) ∧ w'.cell? ⟨bw, ow + 1, none⟩ = some (.bool r.wb) ∧ w'.cell? ⟨bw, ow + 2, none⟩ = some (.int .i64 r.dir) ∧ w'.cell? ⟨bw, ow + 3, none⟩ = some (.bool r.ex) ∧ w'.cell? ⟨g13, 0, none⟩ = some (.slice r.A r.n r.cap) ∧ w'.cell? ⟨g13, 1, none⟩ = some (.bool r.wb) ∧ w'.cell? ⟨g13, 2, none⟩ = some (.int .i64 r.dir) ∧ w'.cell? ⟨g13, 3, none⟩ = some (.bool r.ex))) (by kernel_rfl) rfl ?_ (fun hHeld => ?_)
    · ((try dsimp only); go_simp)
    refine hr_take (i := 0) rfl rfl (by kernel_rfl) (by kernel_rfl) (by kernel_rfl) (by kernel_rfl) (fun _ _ _ h => h) (v := ?_) ?_ (by assumption) ?_
    rotate_left
    focus (intro wS hSw; (try dsimp only at hSw); go_simp; (try with_reducible rfl))
    simp only [List.set_cons_zero, List.set_cons_succ]
    refine hr_take (i := 1) rfl rfl (by kernel_rfl) (by kernel_rfl) (by kernel_rfl) (by kernel_rfl) (fun _ _ _ h => h) (v := ?_) ?_ (by assumption) ?_
    rotate_left
    focus (intro wS hSw; (try dsimp only at hSw); go_simp; (try with_reducible rfl))
    simp only [List.set_cons_zero, List.set_cons_succ]
    refine hr_take (i := 2) rfl rfl (by kernel_rfl) (by kernel_rfl) (by kernel_rfl) (by kernel_rfl) (fun _ _ _ h => h) (v := ?_) ?_ (by assumption) ?_
    rotate_left
    focus (intro wS hSw; (try dsimp only at hSw); go_simp; (try with_reducible rfl))
    simp only [List.set_cons_zero, List.set_cons_succ]
    refine hr_take (i := 3) rfl rfl (by kernel_rfl) (by kernel_rfl) (by kernel_rfl) (by kernel_rfl) (fun _ _ _ h => h) (v := ?_) ?_ (by assumption) ?_
    rotate_left
    focus (intro wS hSw; (try dsimp only at hSw); go_simp; (try with_reducible rfl))
    simp only [List.set_cons_zero, List.set_cons_succ]
    refine hr_take (i := 4) rfl rfl (by kernel_rfl) (by kernel_rfl) (by kernel_rfl) (by kernel_rfl) (fun _ _ _ h => h) (v := ?_) ?_ (by assumption) ?_
    rotate_left
    focus (intro wS hSw; (try dsimp only at hSw); go_simp; (try with_reducible rfl))
    simp only [List.set_cons_zero, List.set_cons_succ]
    refine hr_take (i := 5) rfl rfl (by kernel_rfl) (by kernel_rfl) (by kernel_rfl) (by kernel_rfl) (fun _ _ _ h => h) (v := ?_) ?_ (by assumption) ?_
    rotate_left
    focus (intro wS hSw; (try dsimp only at hSw); go_simp; (try with_reducible rfl))
    simp only [List.set_cons_zero, List.set_cons_succ]
    refine hr_op (i := 6) rfl rfl (by kernel_rfl) (by kernel_rfl) (fun K hK => ?_)
    go_simp
    ((with_reducible refine (samer_c r r _ (HOK.out.below (by (repeat (first | (with_reducible exact Below.refl _ _) | (with_reducible assumption) | (with_reducible refine Below.grow ?_ ?_ _ _) | (with_reducible refine Below.drewN' ?_ _) | (with_reducible refine Below.drew ?_) | (with_reducible refine Below.alloc ?_ ?_ _) | (with_reducible refine Below.setCell ?_ ?_ _) | omega | (focus (simp; done)) | (focus (simp; omega)))))) (HOK.out.below (by (repeat (first | (with_reducible exact Below.refl _ _) | (with_reducible assumption) | (with_reducible refine Below.grow ?_ ?_ _ _) | (with_reducible refine Below.drewN' ?_ _) | (with_reducible refine Below.drew ?_) | (with_reducible refine Below.alloc ?_ ?_ _) | (with_reducible refine Below.setCell ?_ ?_ _) | omega | (focus (simp; done)) | (focus (simp; omega))))))).mono ?_); rintro e wq ⟨rfl, X6, d6, rfl⟩)
    (try go_wp2_with fail)
    refine hK.out _ _ ?_ (fun hHeld => ?_)
    · ((try dsimp only); go_simp)
    clear hK K
    simp only [List.set_cons_zero, List.set_cons_succ]
    refine hr_take (i := 7) rfl rfl (by kernel_rfl) (by kernel_rfl) (by kernel_rfl) (by kernel_rfl) (fun _ _ _ h => h) (v := ?_) ?_ (by assumption) ?_
    rotate_left
    focus (intro wS hSw; (try dsimp only at hSw); go_simp; (try with_reducible rfl))
    simp only [List.set_cons_zero, List.set_cons_succ]
    refine hr_take (i := 8) rfl rfl (by kernel_rfl) (by kernel_rfl) (by kernel_rfl) (by kernel_rfl) (fun _ _ _ h => h) (v := ?_) ?_ (by assumption) ?_
    rotate_left
    focus (intro wS hSw; (try dsimp only at hSw); go_simp; (try with_reducible rfl))
    simp only [List.set_cons_zero, List.set_cons_succ]
    refine hr_take (i := 9) rfl rfl (by kernel_rfl) (by kernel_rfl) (by kernel_rfl) (by kernel_rfl) (fun _ _ _ h => h) (v := ?_) ?_ (by assumption) ?_
    rotate_left
    focus (intro wS hSw; (try dsimp only at hSw); go_simp; (try with_reducible rfl))
    simp only [List.set_cons_zero, List.set_cons_succ]
    refine hr_take (i := 10) rfl rfl (by kernel_rfl) (by kernel_rfl) (by kernel_rfl) (by kernel_rfl) (fun _ _ _ h => h) (v := ?_) ?_ (by assumption) ?_
    rotate_left
    focus (intro wS hSw; (try dsimp only at hSw); go_simp; (try with_reducible rfl))
    simp only [List.set_cons_zero, List.set_cons_succ]
    refine hr_take (i := 11) rfl rfl (by kernel_rfl) (by kernel_rfl) (by kernel_rfl) (by kernel_rfl) (fun _ _ _ h => h) (v := ?_) ?_ (by assumption) ?_
    rotate_left
    focus (intro wS hSw; (try dsimp only at hSw); go_simp; (try with_reducible rfl))
    simp only [List.set_cons_zero, List.set_cons_succ]
    refine hr_take (i := 12) rfl rfl (by kernel_rfl) (by kernel_rfl) (by kernel_rfl) (by kernel_rfl) (fun _ _ _ h => h) (v := ?_) ?_ (by assumption) ?_
    rotate_left
    focus (intro wS hSw; (try dsimp only at hSw); go_simp; (try with_reducible rfl))
    simp only [List.set_cons_zero, List.set_cons_succ]
    refine hr_take (i := 13) rfl rfl (by kernel_rfl) (by kernel_rfl) (by kernel_rfl) (by kernel_rfl) (fun _ _ _ h => h) (v := ?_) ?_ (by assumption) ?_
    rotate_left
    focus (intro wS hSw; (try dsimp only at hSw); go_simp; (try with_reducible rfl))
    simp only [List.set_cons_zero, List.set_cons_succ]
    refine hr_take (i := 14) rfl rfl (by kernel_rfl) (by kernel_rfl) (by kernel_rfl) (by kernel_rfl) (fun _ _ _ h => h) (v := ?_) ?_ (by assumption) ?_
    rotate_left
    focus (intro wS hSw; (try dsimp only at hSw); go_simp; (try with_reducible rfl))
    simp only [List.set_cons_zero, List.set_cons_succ]
    refine hr_take (i := 15) rfl rfl (by kernel_rfl) (by kernel_rfl) (by kernel_rfl) (by kernel_rfl) (fun _ _ _ h => h) (v := ?_) ?_ (by assumption) ?_
    rotate_left
    focus (intro wS hSw; (try dsimp only at hSw); go_simp; (try with_reducible rfl))
    simp only [List.set_cons_zero, List.set_cons_succ]
    refine hr_op (i := 16) rfl rfl (by kernel_rfl) (by kernel_rfl) (fun K hK => ?_)
    go_simp
    ((with_reducible refine (sameL_c (.slice A3 (n2 - 1) (cw2 - 1)) (.slice A4 d cw1) ((winL L G (b + 1)).drop 1) ((winL L G b).take d) _ (HV2.out.below (by (repeat (first | (with_reducible exact Below.refl _ _) | (with_reducible assumption) | (with_reducible refine Below.grow ?_ ?_ _ _) | (with_reducible refine Below.drewN' ?_ _) | (with_reducible refine Below.drew ?_) | (with_reducible refine Below.alloc ?_ ?_ _) | (with_reducible refine Below.setCell ?_ ?_ _) | omega | (focus (simp; done)) | (focus (simp; omega)))))) (HV1.out.below (by (repeat (first | (with_reducible exact Below.refl _ _) | (with_reducible assumption) | (with_reducible refine Below.grow ?_ ?_ _ _) | (with_reducible refine Below.drewN' ?_ _) | (with_reducible refine Below.drew ?_) | (with_reducible refine Below.alloc ?_ ?_ _) | (with_reducible refine Below.setCell ?_ ?_ _) | omega | (focus (simp; done)) | (focus (simp; omega)))))) (by rw [HEQ.out]; exact HLA.out) HLA.out).mono ?_); rintro e wq ⟨rfl, X7, d7, rfl⟩; rw [HEQ.out])
    (try go_wp2_with fail)
    refine hK.out _ _ ?_ (fun hHeld => ?_)
    · ((try dsimp only); go_simp)
    clear hK K
    simp only [List.set_cons_zero, List.set_cons_succ]
    refine hr_take (i := 17) rfl rfl (by kernel_rfl) (by kernel_rfl) (by kernel_rfl) (by kernel_rfl) (fun _ _ _ h => h) (v := ?_) ?_ (by assumption) ?_
    rotate_left
    focus (intro wS hSw; (try dsimp only at hSw); go_simp; (try with_reducible rfl))
    simp only [List.set_cons_zero, List.set_cons_succ]
    refine hr_take (i := 18) rfl rfl (by kernel_rfl) (by kernel_rfl) (by kernel_rfl) (by kernel_rfl) (fun _ _ _ h => h) (v := ?_) ?_ (by assumption) ?_
    rotate_left
    focus (intro wS hSw; (try dsimp only at hSw); go_simp; (try with_reducible rfl))
    simp only [List.set_cons_zero, List.set_cons_succ]
    refine hr_done (by kernel_rfl) ?_
    go_wp2_with fail
    go_ret
    exact ⟨rfl, Below.toGrow (by have hbf := HBF.out; have hbs := hbf.size; (repeat (first | (with_reducible exact Below.refl _ _) | (with_reducible assumption) | (with_reducible refine Below.grow ?_ ?_ _ _) | (with_reducible refine Below.drewN' ?_ _) | (with_reducible refine Below.drew ?_) | (with_reducible refine Below.alloc ?_ ?_ _) | (with_reducible refine Below.setCell ?_ ?_ _) | omega | (focus (simp; done)) | (focus (simp; omega)))))⟩
theorem win_law (x y : Value) (c k : Int) (L G : List Rw) (w : World) (hx : RdR0 w x L) (hy : RdR0 w y G) (hl : L.length ≤ maxLen) (hm : G.length ≤ maxLen) : Calls Try.prog 8 #[.agg #[x, .int .i64 c], y, .int .i64 k] w fun e w' => e = .returned (.bool true) ∧ Grew w w' := by
  by_cases h : fewB L = true ∧ fewB G = true ∧ hsaneB L c = true ∧ gsaneB G = true
  · exact win_in x y c k L G w hx hy hl hm h.1 h.2.1 h.2.2.1 h.2.2.2
  · exact win_out x y c k L G w hx hy hl hm h
end Go.Proofs.Ytpnadnjcacaibaa.Row
