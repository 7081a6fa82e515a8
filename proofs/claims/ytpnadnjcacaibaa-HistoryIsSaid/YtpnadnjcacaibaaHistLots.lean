/- Walk of lapwinglaw10.HistoryLots. -/
import Derived.Test.YtpnadnjcacaibaaHistD
import Derived.Test.YtpnadnjcacaibaaHand2
import Derived.Deep.CutRange
namespace Go.Proofs.Ytpnadnjcacaibaa.Row
open Go.RowKit
attribute [local go_sem] Nat.add_assoc Nat.add_pos_iff_pos_or_pos lt_add_r2 le_add_r2
theorem pushL_len (L : List Rw) (c : Nat) (M : List Rw) : (pushL L c M).length ≤ c := by
  unfold pushL
  rw [List.length_drop]
  omega
theorem pushL_mem {L : List Rw} {c : Nat} {M : List Rw} {r : Rw} (h : r ∈ pushL L c M) : r ∈ L ∨ (r ∈ M ∧ saneRw r = true) := by
  rcases List.mem_append.1 (List.mem_of_mem_drop h) with h | h
  · exact .inl h
  · exact .inr (List.mem_filter.1 h)
theorem drop_drop_append (X Y : List Rw) (c : Nat) : (X.drop (X.length - c) ++ Y).drop ((X.drop (X.length - c) ++ Y).length - c) = (X ++ Y).drop ((X ++ Y).length - c) := by
  have h1 : (X.drop (X.length - c)).length = X.length - (X.length - c) := List.length_drop
  have h2 : X.drop (X.length - c) ++ Y = (X ++ Y).drop (X.length - c) := by
    rw [List.drop_append_of_le_length (by omega)]
  rw [List.length_append, h1, h2, List.drop_drop, List.length_append]
  congr 1
  omega
theorem pushL_lots (L : List Rw) (c : Nat) (M : List Rw) (p : Nat) : pushL (pushL L c (M.take p)) c (M.drop p) = pushL L c M := by
  unfold pushL
  rw [drop_drop_append, List.append_assoc, ← List.filter_append, List.take_append_drop]
theorem pushL_sn {L : List Rw} {c : Int} {M : List Rw} (h : hsaneB L c = true) : hsaneB (pushL L c.toNat M) c = true := by
  obtain ⟨h0, h1, _, h3⟩ := hsane_iff.1 h
  refine hsane_iff.2 ⟨h0, h1, ?_, fun r hr => ?_⟩
  · have := pushL_len L c.toNat M
    omega
  · rcases pushL_mem hr with h | h
    · exact h3 r h
    · exact h.2

theorem Blk.set2 {w : World} {g : Nat} {t : TypeId} {a b u v : Value} (h : Blk w g t #[a, b]) : Blk ((w.setCell ⟨g, 0, none⟩ u).setCell ⟨g, 1, none⟩ v) g t #[u, v] := (h.set_ 0 u).set_ 1 v
theorem Blk.drewd {w : World} {g : Nat} {t : TypeId} {cs : Array Value} (h : Blk w g t cs) : Blk w.drew g t cs := h
theorem RdR.store2 {w : World} {g : Nat} {u v x : Value} {L : List Rw} (h : RdR w x L) (hf : Ft (fun b => b ≠ g) x L) : RdR ((w.setCell ⟨g, 0, none⟩ u).setCell ⟨g, 1, none⟩ v) x L :=
  h.of_ft hf (by simp [World.setCell]) (fun b hb _ => by rw [Below.heap_setCell _ _ _ _ (fun e => hb e), Below.heap_setCell _ _ _ _ (fun e => hb e)])
theorem RdR.other {w : World} {cs cs' : Array Value} {t d : Nat} {X : Array Obj} {x : Value} {L : List Rw} (h : RdR ((w.alloc (.cells cs t)).grow X d) x L) (hf : Ft (fun b => b ≠ w.heap.size) x L) : RdR ((w.alloc (.cells cs' t)).grow X d) x L :=
  h.of_ft hf (by simp) (fun b hb _ => by
    show ((w.heap.push _) ++ X)[b]? = ((w.heap.push _) ++ X)[b]?
    simp [Array.getElem?_append, Array.getElem?_push, hb])
theorem Ft.and {F G : Nat → Prop} {x : Value} {L : List Rw} (h : Ft F x L) (h' : Ft G x L) : Ft (fun b => F b ∧ G b) x L := ⟨fun h0 b o c n e => ⟨h.1 h0 b o c n e, h'.1 h0 b o c n e⟩, fun r hr h0 b o e => ⟨h.2 r hr h0 b o e, h'.2 r hr h0 b o e⟩⟩
theorem RdR.drewd {w : World} {x : Value} {L : List Rw} (h : RdR w x L) : RdR w.drew x L := h.below ⟨rfl, rfl, rfl, Nat.le_refl _, fun _ _ => rfl⟩
set_option maxRecDepth 100000 in
set_option maxHeartbeats 2000000 in
theorem lots_out (x y : Value) (c k : Int) (L M : List Rw) (w : World) (hx : RdR0 w x L) (hy : RdR0 w y M) (hl : L.length ≤ maxLen) (hm : M.length ≤ maxLen) (h : ¬ (fewB L = true ∧ fewB M = true ∧ hsaneB L c = true)) : Calls Try.prog 4 #[.agg #[x, .int .i64 c], y, .int .i64 k] w fun e w' => e = .returned (.bool true) ∧ Grew w w' := by
  obtain ⟨A, cap, rfl, hc⟩ := hx.1.len
  obtain ⟨A2, cap2, rfl, hc2⟩ := hy.1.len
  have HL := Lib.hid hl
  have HM := Lib.hid hm
  clear hl hm
  cases h1 : fewB L
  · clear h
    generalize L.length = n at hc hx ⊢
    go_enter Try.func4, Try.ntmps4
    go_wp2_with (first | (go_at_call 19; refine (awake10_c _).mono ?_; rintro e w1 ⟨rfl, XA, dA, rfl⟩) | (go_at_call 20; (with_reducible refine (few_c (.slice A n cap) L _ (hx.below (by (repeat (first | (with_reducible exact Below.refl _ _) | (with_reducible assumption) | (with_reducible refine Below.grow ?_ ?_ _ _) | (with_reducible refine Below.drewN' ?_ _) | (with_reducible refine Below.drew ?_) | (with_reducible refine Below.alloc ?_ ?_ _) | (with_reducible refine Below.setCell ?_ ?_ _) | omega | (focus (simp; done)) | (focus (simp; omega)))))) HL.out).mono ?_); rintro e w1 ⟨rfl, rfl⟩))
    go_ret
    exact ⟨rfl, (Below.toGrow (by repeat (first | (with_reducible exact Below.refl _ _) | (with_reducible assumption) | (with_reducible refine Below.grow ?_ ?_ _ _) | (with_reducible refine Below.drewN' ?_ _) | (with_reducible refine Below.drew ?_) | (with_reducible refine Below.alloc ?_ ?_ _) | (with_reducible refine Below.setCell ?_ ?_ _) | omega | (focus (simp; done)) | (focus (simp; omega)))))⟩
  · cases h2 : fewB M
    · clear h
      generalize L.length = n at hc hx ⊢
      generalize M.length = n2 at hc2 hy ⊢
      go_enter Try.func4, Try.ntmps4
      go_wp2_with (first | (go_at_call 19; refine (awake10_c _).mono ?_; rintro e w1 ⟨rfl, XA, dA, rfl⟩) | (go_at_call 20; (with_reducible refine (few_c (.slice A n cap) L _ (hx.below (by (repeat (first | (with_reducible exact Below.refl _ _) | (with_reducible assumption) | (with_reducible refine Below.grow ?_ ?_ _ _) | (with_reducible refine Below.drewN' ?_ _) | (with_reducible refine Below.drew ?_) | (with_reducible refine Below.alloc ?_ ?_ _) | (with_reducible refine Below.setCell ?_ ?_ _) | omega | (focus (simp; done)) | (focus (simp; omega)))))) HL.out).mono ?_); rintro e w1 ⟨rfl, rfl⟩) | (go_at_call 20; (with_reducible refine (few_c (.slice A2 n2 cap2) M _ (hy.below (by (repeat (first | (with_reducible exact Below.refl _ _) | (with_reducible assumption) | (with_reducible refine Below.grow ?_ ?_ _ _) | (with_reducible refine Below.drewN' ?_ _) | (with_reducible refine Below.drew ?_) | (with_reducible refine Below.alloc ?_ ?_ _) | (with_reducible refine Below.setCell ?_ ?_ _) | omega | (focus (simp; done)) | (focus (simp; omega)))))) HM.out).mono ?_); rintro e w1 ⟨rfl, rfl⟩))
      go_ret
      exact ⟨rfl, (Below.toGrow (by repeat (first | (with_reducible exact Below.refl _ _) | (with_reducible assumption) | (with_reducible refine Below.grow ?_ ?_ _ _) | (with_reducible refine Below.drewN' ?_ _) | (with_reducible refine Below.drew ?_) | (with_reducible refine Below.alloc ?_ ?_ _) | (with_reducible refine Below.setCell ?_ ?_ _) | omega | (focus (simp; done)) | (focus (simp; omega)))))⟩
    · have h3 : hsaneB L c = false := by simpa [h1, h2] using h
      clear h
      have hll := (few_iff.1 h1).1
      have HLL : Hid (L.length ≤ 5000) := by show _ ≤ _; omega
      generalize L.length = n at hc hx hll ⊢
      generalize M.length = n2 at hc2 hy ⊢
      go_enter Try.func4, Try.ntmps4
      go_wp2_with (first | (go_at_call 19; refine (awake10_c _).mono ?_; rintro e w1 ⟨rfl, XA, dA, rfl⟩) | (go_at_call 20; (with_reducible refine (few_c (.slice A n cap) L _ (hx.below (by (repeat (first | (with_reducible exact Below.refl _ _) | (with_reducible assumption) | (with_reducible refine Below.grow ?_ ?_ _ _) | (with_reducible refine Below.drewN' ?_ _) | (with_reducible refine Below.drew ?_) | (with_reducible refine Below.alloc ?_ ?_ _) | (with_reducible refine Below.setCell ?_ ?_ _) | omega | (focus (simp; done)) | (focus (simp; omega)))))) HL.out).mono ?_); rintro e w1 ⟨rfl, rfl⟩) | (go_at_call 20; (with_reducible refine (few_c (.slice A2 n2 cap2) M _ (hy.below (by (repeat (first | (with_reducible exact Below.refl _ _) | (with_reducible assumption) | (with_reducible refine Below.grow ?_ ?_ _ _) | (with_reducible refine Below.drewN' ?_ _) | (with_reducible refine Below.drew ?_) | (with_reducible refine Below.alloc ?_ ?_ _) | (with_reducible refine Below.setCell ?_ ?_ _) | omega | (focus (simp; done)) | (focus (simp; omega)))))) HM.out).mono ?_); rintro e w1 ⟨rfl, rfl⟩) | (go_at_call 22; refine (ours_c _ _ _ _ _).mono ?_; rintro e w1 ⟨rfl, XO, dO, rfl⟩) | (go_at_call 21; refine (hsane_c (.slice A n cap) c L _ ((hx.few h1).below (by (repeat (first | (with_reducible exact Below.refl _ _) | (with_reducible assumption) | (with_reducible refine Below.grow ?_ ?_ _ _) | (with_reducible refine Below.drewN' ?_ _) | (with_reducible refine Below.drew ?_) | (with_reducible refine Below.alloc ?_ ?_ _) | (with_reducible refine Below.setCell ?_ ?_ _) | omega | (focus (simp; done)) | (focus (simp; omega)))))) HLL.out).mono ?_; rintro e w1 ⟨rfl, XS, dS, rfl⟩))
      go_ret
      exact ⟨rfl, (Below.toGrow (by repeat (first | (with_reducible exact Below.refl _ _) | (with_reducible assumption) | (with_reducible refine Below.grow ?_ ?_ _ _) | (with_reducible refine Below.drewN' ?_ _) | (with_reducible refine Below.drew ?_) | (with_reducible refine Below.alloc ?_ ?_ _) | (with_reducible refine Below.setCell ?_ ?_ _) | omega | (focus (simp; done)) | (focus (simp; omega)))))⟩

set_option maxRecDepth 100000 in
set_option maxHeartbeats 4000000 in
theorem lots_in (x y : Value) (c k : Int) (L M : List Rw) (w : World) (hx : RdR0 w x L) (hy : RdR0 w y M) (hl : L.length ≤ maxLen) (hm : M.length ≤ maxLen) (h1 : fewB L = true) (h2 : fewB M = true) (h3 : hsaneB L c = true) : Calls Try.prog 4 #[.agg #[x, .int .i64 c], y, .int .i64 k] w fun e w' => e = .returned (.bool true) ∧ Grew w w' := by
  obtain ⟨A, cap, rfl, hc⟩ := hx.1.len
  obtain ⟨A2, cap2, rfl, hc2⟩ := hy.1.len
  have HL := Lib.hid hl
  have HM := Lib.hid hm
  have HX := Lib.hid (hx.few h1)
  have HY := Lib.hid (hy.few h2)
  have hll := (few_iff.1 h1).1
  have hlm := (few_iff.1 h2).1
  have HLL : Hid (L.length ≤ 5000) := by show _ ≤ _; omega
  have HLM : Hid (M.length ≤ 5000) := by show _ ≤ _; omega
  have H3 := Lib.hid h3
  have hand : bits .and .i64 k 65535 = k % 65536 := and_mask 16 (by omega) k
  have hp0 : 0 ≤ k % 65536 := by omega
  obtain ⟨p, hp⟩ : ∃ q : Nat, k % 65536 % ((M.length : Int) + 1) = (q : Int) := ⟨(k % 65536 % ((M.length : Int) + 1)).toNat, (Int.toNat_of_nonneg (Int.emod_nonneg _ (by omega))).symm⟩
  have hpm : p ≤ M.length := by
    have := Int.emod_lt_of_pos (k % 65536) (show (0 : Int) < (M.length : Int) + 1 by omega)
    omega
  have HPL := Lib.hid (pushL_lots L c.toNat M p)
  have HPS := Lib.hid (pushL_sn (M := M.take p) h3)
  have HPS2 := Lib.hid (pushL_sn (M := M) h3)
  have HPC := Lib.hid (pushL_len L c.toNat M)
  have HPC1 := Lib.hid (pushL_len L c.toNat (M.take p))
  have HLT : Hid ((M.take p).length ≤ 5000) := by show _ ≤ _; rw [List.length_take]; omega
  have HLD : Hid ((M.drop p).length ≤ 5000) := by show _ ≤ _; rw [List.length_drop]; omega
  obtain ⟨A3, -, hrun1, hcut1⟩ := slice0 (E := encR) (P := Try.prog) 36 24 Try.underlying36 (by kernel_rfl) A2 M.length cap2 p hpm hc2
  obtain ⟨A4, -, hrun2, hcut2⟩ := slice1 (E := encR) (P := Try.prog) 36 24 Try.underlying36 (by kernel_rfl) A2 M.length cap2 p hpm hc2
  have HC1 := Lib.hid hcut1
  have HC2 := Lib.hid hcut2
  clear hcut1 hcut2
  generalize hn : L.length = n at hl hc hx HX hll ⊢
  generalize hn2 : M.length = n2 at hm hc2 hy HY hlm hp hpm hrun1 hrun2 HC1 HC2 ⊢
  have HN := Lib.hid hn
  have HN2 := Lib.hid hn2
  clear hn hn2 hl hm
  have hn2I : (0 : Int) ≤ n2 := by omega
  go_enter Try.func4, Try.ntmps4
  go_upto_region 4 with (first | (go_at_call 19; refine (awake10_c _).mono ?_; rintro e w1 ⟨rfl, XA, dA, rfl⟩) | (go_at_call 20; (with_reducible refine (few_c (.slice A n cap) L _ (hx.below (by (repeat (first | (with_reducible exact Below.refl _ _) | (with_reducible assumption) | (with_reducible refine Below.grow ?_ ?_ _ _) | (with_reducible refine Below.drewN' ?_ _) | (with_reducible refine Below.drew ?_) | (with_reducible refine Below.alloc ?_ ?_ _) | (with_reducible refine Below.setCell ?_ ?_ _) | omega | (focus (simp; done)) | (focus (simp; omega)))))) HL.out).mono ?_); rintro e w1 ⟨rfl, rfl⟩) | (go_at_call 20; (with_reducible refine (few_c (.slice A2 n2 cap2) M _ (hy.below (by (repeat (first | (with_reducible exact Below.refl _ _) | (with_reducible assumption) | (with_reducible refine Below.grow ?_ ?_ _ _) | (with_reducible refine Below.drewN' ?_ _) | (with_reducible refine Below.drew ?_) | (with_reducible refine Below.alloc ?_ ?_ _) | (with_reducible refine Below.setCell ?_ ?_ _) | omega | (focus (simp; done)) | (focus (simp; omega)))))) HM.out).mono ?_); rintro e w1 ⟨rfl, rfl⟩) | (go_at_call 22; refine (ours_c _ _ _ _ _).mono ?_; rintro e w1 ⟨rfl, XO, dO, rfl⟩) | (go_at_call 21; refine (hsane_c (.slice A n cap) c L _ (HX.out.below (by (repeat (first | (with_reducible exact Below.refl _ _) | (with_reducible assumption) | (with_reducible refine Below.grow ?_ ?_ _ _) | (with_reducible refine Below.drewN' ?_ _) | (with_reducible refine Below.drew ?_) | (with_reducible refine Below.alloc ?_ ?_ _) | (with_reducible refine Below.setCell ?_ ?_ _) | omega | (focus (simp; done)) | (focus (simp; omega)))))) HLL.out).mono ?_; rintro e w1 ⟨rfl, XS, dS, rfl⟩))
  go_upto_region 5 with fail
  simp only [hp]
  generalize hw5 : World.grow _ _ _ = w5
  have hb5 : Below w.heap.size w w5 := by rw [← hw5]; (repeat (first | (with_reducible exact Below.refl _ _) | (with_reducible assumption) | (with_reducible refine Below.grow ?_ ?_ _ _) | (with_reducible refine Below.drewN' ?_ _) | (with_reducible refine Below.drew ?_) | (with_reducible refine Below.alloc ?_ ?_ _) | (with_reducible refine Below.setCell ?_ ?_ _) | omega | (focus (simp; done)) | (focus (simp; omega))))
  have hB1 : Blk w5 w.heap.size 38 #[.slice A n cap, .int .i64 c] := by rw [← hw5]; (repeat (first | (with_reducible exact Blk.new _ _ _) | (with_reducible refine Blk.set2 ?_) | (with_reducible refine Blk.drewd ?_) | (with_reducible refine Blk.grow ?_ _ _) | (with_reducible refine Blk.new_at ?_; simp; done) | (with_reducible refine Blk.alloc ?_ _)))
  clear hw5 hand hp hp0 hx hy
  obtain ⟨r0, r1, rf, rl⟩ := hB1.facts2
  go_wp2_with (first | (go_at_call 22; refine (ours_c _ _ _ _ _).mono ?_; rintro e w1 ⟨rfl, XO, dO, rfl⟩))
  refine (push_c (.slice A n cap) (.slice A2 n2 cap2) c L M _ ((HX.out.below hb5).below (by (repeat (first | (with_reducible exact Below.refl _ _) | (with_reducible assumption) | (with_reducible refine Below.grow ?_ ?_ _ _) | (with_reducible refine Below.drewN' ?_ _) | (with_reducible refine Below.drew ?_) | (with_reducible refine Below.alloc ?_ ?_ _) | (with_reducible refine Below.setCell ?_ ?_ _) | omega | (focus (simp; done)) | (focus (simp; omega)))))) ((HY.out.below hb5).below (by (repeat (first | (with_reducible exact Below.refl _ _) | (with_reducible assumption) | (with_reducible refine Below.grow ?_ ?_ _ _) | (with_reducible refine Below.drewN' ?_ _) | (with_reducible refine Below.drew ?_) | (with_reducible refine Below.alloc ?_ ?_ _) | (with_reducible refine Below.setCell ?_ ?_ _) | omega | (focus (simp; done)) | (focus (simp; omega)))))) HLL.out HLM.out H3.out).mono ?_
  rintro e w5b ⟨v1, rfl, hg, hv1, -⟩
  replace hg : Below w5.heap.size w5 w5b := ((Below.refl _ _).grow (Nat.le_refl _) _ _).trans (hg.mono (by simp))
  obtain ⟨A5, c5, rfl, hc5⟩ := hv1.1.len
  have hB1b := hB1.below hg hB1.lt
  clear r0 r1 rf rl
  obtain ⟨r0, r1, rf, rl⟩ := hB1b.facts2
  go_upto_region 6 with fail
  generalize hw6 : w5b.alloc _ = w6
  have hg2 : Below w5b.heap.size w5b w6 := by rw [← hw6]; (repeat (first | (with_reducible exact Below.refl _ _) | (with_reducible assumption) | (with_reducible refine Below.grow ?_ ?_ _ _) | (with_reducible refine Below.drewN' ?_ _) | (with_reducible refine Below.drew ?_) | (with_reducible refine Below.alloc ?_ ?_ _) | (with_reducible refine Below.setCell ?_ ?_ _) | omega | (focus (simp; done)) | (focus (simp; omega))))
  have hB2 : Blk w6 w5b.heap.size 41 #[.slice A5 (pushL L c.toNat M).length c5, .int .i64 c] := by rw [← hw6]; (repeat (first | (with_reducible exact Blk.new _ _ _) | (with_reducible refine Blk.set2 ?_) | (with_reducible refine Blk.drewd ?_) | (with_reducible refine Blk.grow ?_ _ _) | (with_reducible refine Blk.new_at ?_; simp; done) | (with_reducible refine Blk.alloc ?_ _)))
  clear hw6
  have hB1c := hB1b.below hg2 hB1b.lt
  clear r0 r1 rf rl
  obtain ⟨r0, r1, rf, rl⟩ := hB1c.facts2
  have hb6 := hb5.trans ((hg.trans (hg2.mono hg.size)).mono hb5.size)
  replace hv1 := hv1.below hg2
  have HX6 := Lib.hid (HX.out.below hb6)
  have HY6 := HY.out.below hb6
  have HY1 : Hid (RdR w6 (.slice A3 p cap2) (M.take p)) := ⟨HC1.out _ _ HY6.1, fun r hr => HY6.2 r (List.mem_of_mem_take hr)⟩
  have HY2 : Hid (RdR w6 (.slice A4 (n2 - p) (cap2 - p)) (M.drop p)) := ⟨HC2.out _ _ HY6.1, fun r hr => HY6.2 r (List.mem_of_mem_drop hr)⟩
  have HYM := Lib.hid HY6
  have HB2 := Lib.hid hB2
  have HV1 := Lib.hid hv1
  have HB6 := Lib.hid hb6
  have h3c := (hsane_iff.1 H3.out).2.1
  have HP1 : Hid ((pushL L c.toNat (M.take p)).length ≤ 5000) := by
    show _ ≤ _
    have := HPC1.out
    omega
  clear hB1 hB1b hB1c hB2 hv1 hb6 hg hg2 HY6 hb5 h3c
  go_cut [10] from 39 to 48 (fun s wc' => ∃ g v, s = .pointer (some ⟨g, 0, none⟩) ∧ Below w6.heap.size w6 wc' ∧ Blk wc' g 41 #[v, .int .i64 c] ∧ RdR wc' v (pushL L c.toNat M) ∧ w6.heap.size ≤ g)
  case first =>
    refine hr_start (S := (fun w' => w'.cell? ⟨w.heap.size, 0, none⟩ = some (.slice A n cap) ∧ w'.cell? ⟨w.heap.size, 1, none⟩ = some (.int .i64 c))) (by kernel_rfl) rfl ?_ (fun hHeld => ?_)
    · ((try dsimp only); go_simp)
    refine hr_take (i := 0) rfl rfl (by kernel_rfl) (by kernel_rfl) (by kernel_rfl) (by kernel_rfl) (fun _ _ _ h => h) (v := ?_) ?_ (by assumption) ?_
    rotate_left
    focus (intro wS hSw; (try dsimp only at hSw); go_simp; (try with_reducible rfl))
    simp only [List.set_cons_zero, List.set_cons_succ]
    refine hr_take (i := 2) rfl rfl (by kernel_rfl) (by kernel_rfl) (by kernel_rfl) (by kernel_rfl) (fun _ _ _ h => h) (v := ?_) ?_ (by assumption) ?_
    rotate_left
    focus (intro wS hSw; (try dsimp only at hSw); go_simp; (try with_reducible rfl))
    simp only [List.set_cons_zero, List.set_cons_succ]
    refine hr_take (i := 3) rfl rfl (by kernel_rfl) (by kernel_rfl) (by kernel_rfl) (by kernel_rfl) (fun _ _ _ h => h) (v := ?_) ?_ (by assumption) ?_
    rotate_left
    focus (intro wS hSw; (try dsimp only at hSw); go_simp; (try with_reducible rfl))
    simp only [List.set_cons_zero, List.set_cons_succ]
    refine hr_take (i := 4) rfl rfl (by kernel_rfl) (by kernel_rfl) (by kernel_rfl) (by kernel_rfl) (fun _ _ _ h => h) (v := ?_) ?_ (by assumption) ?_
    rotate_left
    focus (intro wS hSw; (try dsimp only at hSw); go_simp; (try with_reducible rfl))
    simp only [List.set_cons_zero, List.set_cons_succ]
    refine hr_take (i := 6) rfl rfl (by kernel_rfl) (by kernel_rfl) (by kernel_rfl) (by kernel_rfl) (fun _ _ _ h => h) (v := ?_) ?_ (by assumption) ?_
    rotate_left
    focus (intro wS hSw; (try dsimp only at hSw); go_simp; (try with_reducible rfl))
    simp only [List.set_cons_zero, List.set_cons_succ]
    refine hr_take (i := 7) rfl rfl (by kernel_rfl) (by kernel_rfl) (by kernel_rfl) (by kernel_rfl) (fun _ _ _ h => h) (v := ?_) ?_ (by assumption) ?_
    rotate_left
    focus (intro wS hSw; (try dsimp only at hSw); go_simp; (try with_reducible rfl))
    simp only [List.set_cons_zero, List.set_cons_succ]
    refine hr_take (i := 8) rfl rfl (by kernel_rfl) (by kernel_rfl) (by kernel_rfl) (by kernel_rfl) (fun _ _ _ h => h) (v := ?_) ?_ (by assumption) ?_
    rotate_left
    focus (intro wS hSw; (try dsimp only at hSw); go_simp; (try with_reducible rfl))
    simp only [List.set_cons_zero, List.set_cons_succ]
    refine hr_two (i := 1) (j := 10) rfl rfl rfl rfl (by kernel_rfl) (by kernel_rfl) (by kernel_rfl) (fun K hK => ?_) (fun K hK => ?_)
    · go_simp
      ((with_reducible refine (ours_c _ _ _ _ _).mono ?_); rintro e wq ⟨rfl, X6, d6, rfl⟩)
      (try go_wp2_with fail)
      refine hK.out _ _ ?_ (fun hHeld => ?_)
      · ((try dsimp only); go_simp)
      clear hK K
      simp only [List.set_cons_zero, List.set_cons_succ]
      refine hr_two (i := 5) (j := 10) rfl rfl rfl rfl (by kernel_rfl) (by kernel_rfl) (by kernel_rfl) (fun K hK => ?_) (fun K hK => ?_)
      · go_simp
        ((with_reducible refine (push_c (.slice A n cap) (.slice A3 p cap2) c L (M.take p) _ (HX6.out.below (by (repeat (first | (with_reducible exact Below.refl _ _) | (with_reducible assumption) | (with_reducible refine Below.grow ?_ ?_ _ _) | (with_reducible refine Below.drewN' ?_ _) | (with_reducible refine Below.drew ?_) | (with_reducible refine Below.alloc ?_ ?_ _) | (with_reducible refine Below.setCell ?_ ?_ _) | omega | (focus (simp; done)) | (focus (simp; omega)))))) (HY1.out.below (by (repeat (first | (with_reducible exact Below.refl _ _) | (with_reducible assumption) | (with_reducible refine Below.grow ?_ ?_ _ _) | (with_reducible refine Below.drewN' ?_ _) | (with_reducible refine Below.drew ?_) | (with_reducible refine Below.alloc ?_ ?_ _) | (with_reducible refine Below.setCell ?_ ?_ _) | omega | (focus (simp; done)) | (focus (simp; omega)))))) HLL.out HLT.out H3.out).mono ?_); rintro e wq ⟨vp, rfl, hg6, hv6, hf6⟩; obtain ⟨X7, d7, rfl⟩ := Below.toGrow hg6; (try simp only [World.grow_grow] at hv6); (try simp only [Array.append_assoc] at hv6); obtain ⟨Ap, cp, rfl, hcp⟩ := hv6.1.len; have hfp := (hf6 (fun b => b < w6.heap.size) HX6.out.ft HY1.out.ft).and hv6.ft; clear hg6 hf6)
        (try go_wp2_with fail)
        refine hK.out _ _ ?_ (fun hHeld => ?_)
        · ((try dsimp only); go_simp)
        clear hK K
        simp only [List.set_cons_zero, List.set_cons_succ]
        refine hr_two (i := 9) (j := 10) rfl rfl rfl rfl (by kernel_rfl) (by kernel_rfl) (by kernel_rfl) (fun K hK => ?_) (fun K hK => ?_)
        · go_simp
          ((with_reducible refine (push_c (.slice Ap (pushL L c.toNat (M.take p)).length cp) (.slice A4 (n2 - p) (cap2 - p)) c (pushL L c.toNat (M.take p)) (M.drop p) _ (hv6.below (by (repeat (first | (with_reducible exact Below.refl _ _) | (with_reducible assumption) | (with_reducible refine Below.grow ?_ ?_ _ _) | (with_reducible refine Below.drewN' ?_ _) | (with_reducible refine Below.drew ?_) | (with_reducible refine Below.alloc ?_ ?_ _) | (with_reducible refine Below.setCell ?_ ?_ _) | omega | (focus (simp; done)) | (focus (simp; omega)))))) (HY2.out.below (by (repeat (first | (with_reducible exact Below.refl _ _) | (with_reducible assumption) | (with_reducible refine Below.grow ?_ ?_ _ _) | (with_reducible refine Below.drewN' ?_ _) | (with_reducible refine Below.drew ?_) | (with_reducible refine Below.alloc ?_ ?_ _) | (with_reducible refine Below.setCell ?_ ?_ _) | omega | (focus (simp; done)) | (focus (simp; omega)))))) HP1.out HLD.out HPS.out).mono ?_); rintro e wq ⟨vq, rfl, hg7, hv7, hf7⟩; obtain ⟨X8, d8, rfl⟩ := Below.toGrow hg7; (try simp only [World.grow_grow] at hv7); (try simp only [Array.append_assoc] at hv7); rw [HPL.out] at hv7 hf7; obtain ⟨Aq, cq, rfl, hcq⟩ := hv7.1.len; have hfq := hf7 _ hfp (HY2.out.ft.mono (fun b hb => ⟨.inl hb, by simp at hb ⊢; omega⟩)); clear hg7 hf7 hfp)
          (try go_wp2_with fail)
          refine hK.out _ _ ?_ (fun hHeld => ?_)
          · ((try dsimp only); go_simp)
          clear hK K
          simp only [List.set_cons_zero, List.set_cons_succ]
          refine hr_op (i := 10) rfl rfl (by kernel_rfl) (by kernel_rfl) (fun K hK => ?_)
          go_simp
          (try go_wp2_with fail)
          refine hK.out _ _ ?_ (fun hHeld => ?_)
          · ((try dsimp only); go_simp)
          clear hK K
          simp only [List.set_cons_zero, List.set_cons_succ]
          refine hr_op0 (i := 11) rfl (by kernel_rfl) (by kernel_rfl) (fun K hK => ?_)
          go_simp
          (try go_wp2_with fail)
          refine hK.out _ ?_ (fun hHeld => ?_)
          · ((try dsimp only); go_simp)
          clear hK K
          refine hr_done (by kernel_rfl) ?_
          (go_wp2_with fail; go_meet; case rel => (refine ⟨_, _, rfl, by (repeat (first | (with_reducible exact Below.refl _ _) | (with_reducible assumption) | (with_reducible refine Below.grow ?_ ?_ _ _) | (with_reducible refine Below.drewN' ?_ _) | (with_reducible refine Below.drew ?_) | (with_reducible refine Below.alloc ?_ ?_ _) | (with_reducible refine Below.setCell ?_ ?_ _) | omega | (focus (simp; done)) | (focus (simp; omega)))), by (repeat (first | (with_reducible exact Blk.new _ _ _) | (with_reducible refine Blk.set2 ?_) | (with_reducible refine Blk.drewd ?_) | (with_reducible refine Blk.grow ?_ _ _) | (with_reducible refine Blk.new_at ?_; simp; done) | (with_reducible refine Blk.alloc ?_ _))), ?_, by simp⟩; first | (with_reducible refine RdR.below hv7 ?_; (repeat (first | (with_reducible exact Below.refl _ _) | (with_reducible assumption) | (with_reducible refine Below.grow ?_ ?_ _ _) | (with_reducible refine Below.drewN' ?_ _) | (with_reducible refine Below.drew ?_) | (with_reducible refine Below.alloc ?_ ?_ _) | (with_reducible refine Below.setCell ?_ ?_ _) | omega | (focus (simp; done)) | (focus (simp; omega)))); done) | (with_reducible refine RdR.other hv7 ?_; refine hfq.mono (fun b hb => ?_); (try simp at hb ⊢); omega)))
        · go_simp
          (try go_wp2_with fail)
          refine hK.out _ _ ?_ (fun hHeld => ?_)
          · ((try dsimp only); go_simp)
          clear hK K
          simp only [List.set_cons_zero, List.set_cons_succ]
          refine hr_op (i := 9) rfl rfl (by kernel_rfl) (by kernel_rfl) (fun K hK => ?_)
          go_simp
          ((with_reducible refine (push_c (.slice Ap (pushL L c.toNat (M.take p)).length cp) (.slice A4 (n2 - p) (cap2 - p)) c (pushL L c.toNat (M.take p)) (M.drop p) _ (hv6.below (by (repeat (first | (with_reducible exact Below.refl _ _) | (with_reducible assumption) | (with_reducible refine Below.grow ?_ ?_ _ _) | (with_reducible refine Below.drewN' ?_ _) | (with_reducible refine Below.drew ?_) | (with_reducible refine Below.alloc ?_ ?_ _) | (with_reducible refine Below.setCell ?_ ?_ _) | omega | (focus (simp; done)) | (focus (simp; omega)))))) (HY2.out.below (by (repeat (first | (with_reducible exact Below.refl _ _) | (with_reducible assumption) | (with_reducible refine Below.grow ?_ ?_ _ _) | (with_reducible refine Below.drewN' ?_ _) | (with_reducible refine Below.drew ?_) | (with_reducible refine Below.alloc ?_ ?_ _) | (with_reducible refine Below.setCell ?_ ?_ _) | omega | (focus (simp; done)) | (focus (simp; omega)))))) HP1.out HLD.out HPS.out).mono ?_); rintro e wq ⟨vq, rfl, hg7, hv7, hf7⟩; obtain ⟨X8, d8, rfl⟩ := Below.toGrow hg7; (try simp only [World.grow_grow] at hv7); (try simp only [Array.append_assoc] at hv7); rw [HPL.out] at hv7 hf7; obtain ⟨Aq, cq, rfl, hcq⟩ := hv7.1.len; have hfq := hf7 _ hfp (HY2.out.ft.mono (fun b hb => ⟨.inl hb, by simp at hb ⊢; omega⟩)); clear hg7 hf7 hfp)
          (try go_wp2_with fail)
          refine hK.out _ _ ?_ (fun hHeld => ?_)
          · ((try dsimp only); go_simp)
          clear hK K
          simp only [List.set_cons_zero, List.set_cons_succ]
          refine hr_op0 (i := 11) rfl (by kernel_rfl) (by kernel_rfl) (fun K hK => ?_)
          go_simp
          (try go_wp2_with fail)
          refine hK.out _ ?_ (fun hHeld => ?_)
          · ((try dsimp only); go_simp)
          clear hK K
          refine hr_done (by kernel_rfl) ?_
          (go_wp2_with fail; go_meet; case rel => (refine ⟨_, _, rfl, by (repeat (first | (with_reducible exact Below.refl _ _) | (with_reducible assumption) | (with_reducible refine Below.grow ?_ ?_ _ _) | (with_reducible refine Below.drewN' ?_ _) | (with_reducible refine Below.drew ?_) | (with_reducible refine Below.alloc ?_ ?_ _) | (with_reducible refine Below.setCell ?_ ?_ _) | omega | (focus (simp; done)) | (focus (simp; omega)))), by (repeat (first | (with_reducible exact Blk.new _ _ _) | (with_reducible refine Blk.set2 ?_) | (with_reducible refine Blk.drewd ?_) | (with_reducible refine Blk.grow ?_ _ _) | (with_reducible refine Blk.new_at ?_; simp; done) | (with_reducible refine Blk.alloc ?_ _))), ?_, by simp⟩; first | (with_reducible refine RdR.below hv7 ?_; (repeat (first | (with_reducible exact Below.refl _ _) | (with_reducible assumption) | (with_reducible refine Below.grow ?_ ?_ _ _) | (with_reducible refine Below.drewN' ?_ _) | (with_reducible refine Below.drew ?_) | (with_reducible refine Below.alloc ?_ ?_ _) | (with_reducible refine Below.setCell ?_ ?_ _) | omega | (focus (simp; done)) | (focus (simp; omega)))); done) | (with_reducible refine RdR.other hv7 ?_; refine hfq.mono (fun b hb => ?_); (try simp at hb ⊢); omega)))
      · go_simp
        (try go_wp2_with fail)
        refine hK.out _ _ ?_ (fun hHeld => ?_)
        · ((try dsimp only); go_simp)
        clear hK K
        simp only [List.set_cons_zero, List.set_cons_succ]
        refine hr_op (i := 5) rfl rfl (by kernel_rfl) (by kernel_rfl) (fun K hK => ?_)
        go_simp
        ((with_reducible refine (push_c (.slice A n cap) (.slice A3 p cap2) c L (M.take p) _ (HX6.out.below (by (repeat (first | (with_reducible exact Below.refl _ _) | (with_reducible assumption) | (with_reducible refine Below.grow ?_ ?_ _ _) | (with_reducible refine Below.drewN' ?_ _) | (with_reducible refine Below.drew ?_) | (with_reducible refine Below.alloc ?_ ?_ _) | (with_reducible refine Below.setCell ?_ ?_ _) | omega | (focus (simp; done)) | (focus (simp; omega)))))) (HY1.out.below (by (repeat (first | (with_reducible exact Below.refl _ _) | (with_reducible assumption) | (with_reducible refine Below.grow ?_ ?_ _ _) | (with_reducible refine Below.drewN' ?_ _) | (with_reducible refine Below.drew ?_) | (with_reducible refine Below.alloc ?_ ?_ _) | (with_reducible refine Below.setCell ?_ ?_ _) | omega | (focus (simp; done)) | (focus (simp; omega)))))) HLL.out HLT.out H3.out).mono ?_); rintro e wq ⟨vp, rfl, hg6, hv6, hf6⟩; obtain ⟨X7, d7, rfl⟩ := Below.toGrow hg6; (try simp only [World.grow_grow] at hv6); (try simp only [Array.append_assoc] at hv6); obtain ⟨Ap, cp, rfl, hcp⟩ := hv6.1.len; have hfp := (hf6 (fun b => b < w6.heap.size) HX6.out.ft HY1.out.ft).and hv6.ft; clear hg6 hf6)
        (try go_wp2_with fail)
        refine hK.out _ _ ?_ (fun hHeld => ?_)
        · ((try dsimp only); go_simp)
        clear hK K
        simp only [List.set_cons_zero, List.set_cons_succ]
        refine hr_op (i := 9) rfl rfl (by kernel_rfl) (by kernel_rfl) (fun K hK => ?_)
        go_simp
        ((with_reducible refine (push_c (.slice Ap (pushL L c.toNat (M.take p)).length cp) (.slice A4 (n2 - p) (cap2 - p)) c (pushL L c.toNat (M.take p)) (M.drop p) _ (hv6.below (by (repeat (first | (with_reducible exact Below.refl _ _) | (with_reducible assumption) | (with_reducible refine Below.grow ?_ ?_ _ _) | (with_reducible refine Below.drewN' ?_ _) | (with_reducible refine Below.drew ?_) | (with_reducible refine Below.alloc ?_ ?_ _) | (with_reducible refine Below.setCell ?_ ?_ _) | omega | (focus (simp; done)) | (focus (simp; omega)))))) (HY2.out.below (by (repeat (first | (with_reducible exact Below.refl _ _) | (with_reducible assumption) | (with_reducible refine Below.grow ?_ ?_ _ _) | (with_reducible refine Below.drewN' ?_ _) | (with_reducible refine Below.drew ?_) | (with_reducible refine Below.alloc ?_ ?_ _) | (with_reducible refine Below.setCell ?_ ?_ _) | omega | (focus (simp; done)) | (focus (simp; omega)))))) HP1.out HLD.out HPS.out).mono ?_); rintro e wq ⟨vq, rfl, hg7, hv7, hf7⟩; obtain ⟨X8, d8, rfl⟩ := Below.toGrow hg7; (try simp only [World.grow_grow] at hv7); (try simp only [Array.append_assoc] at hv7); rw [HPL.out] at hv7 hf7; obtain ⟨Aq, cq, rfl, hcq⟩ := hv7.1.len; have hfq := hf7 _ hfp (HY2.out.ft.mono (fun b hb => ⟨.inl hb, by simp at hb ⊢; omega⟩)); clear hg7 hf7 hfp)
        (try go_wp2_with fail)
        refine hK.out _ _ ?_ (fun hHeld => ?_)
        · ((try dsimp only); go_simp)
        clear hK K
        simp only [List.set_cons_zero, List.set_cons_succ]
        refine hr_op0 (i := 11) rfl (by kernel_rfl) (by kernel_rfl) (fun K hK => ?_)
        go_simp
        (try go_wp2_with fail)
        refine hK.out _ ?_ (fun hHeld => ?_)
        · ((try dsimp only); go_simp)
        clear hK K
        refine hr_done (by kernel_rfl) ?_
        (go_wp2_with fail; go_meet; case rel => (refine ⟨_, _, rfl, by (repeat (first | (with_reducible exact Below.refl _ _) | (with_reducible assumption) | (with_reducible refine Below.grow ?_ ?_ _ _) | (with_reducible refine Below.drewN' ?_ _) | (with_reducible refine Below.drew ?_) | (with_reducible refine Below.alloc ?_ ?_ _) | (with_reducible refine Below.setCell ?_ ?_ _) | omega | (focus (simp; done)) | (focus (simp; omega)))), by (repeat (first | (with_reducible exact Blk.new _ _ _) | (with_reducible refine Blk.set2 ?_) | (with_reducible refine Blk.drewd ?_) | (with_reducible refine Blk.grow ?_ _ _) | (with_reducible refine Blk.new_at ?_; simp; done) | (with_reducible refine Blk.alloc ?_ _))), ?_, by simp⟩; first | (with_reducible refine RdR.below hv7 ?_; (repeat (first | (with_reducible exact Below.refl _ _) | (with_reducible assumption) | (with_reducible refine Below.grow ?_ ?_ _ _) | (with_reducible refine Below.drewN' ?_ _) | (with_reducible refine Below.drew ?_) | (with_reducible refine Below.alloc ?_ ?_ _) | (with_reducible refine Below.setCell ?_ ?_ _) | omega | (focus (simp; done)) | (focus (simp; omega)))); done) | (with_reducible refine RdR.other hv7 ?_; refine hfq.mono (fun b hb => ?_); (try simp at hb ⊢); omega)))
    · go_simp
      (try go_wp2_with fail)
      refine hK.out _ _ ?_ (fun hHeld => ?_)
      · ((try dsimp only); go_simp)
      clear hK K
      simp only [List.set_cons_zero, List.set_cons_succ]
      refine hr_op (i := 1) rfl rfl (by kernel_rfl) (by kernel_rfl) (fun K hK => ?_)
      go_simp
      ((with_reducible refine (ours_c _ _ _ _ _).mono ?_); rintro e wq ⟨rfl, X6, d6, rfl⟩)
      (try go_wp2_with fail)
      refine hK.out _ _ ?_ (fun hHeld => ?_)
      · ((try dsimp only); go_simp)
      clear hK K
      simp only [List.set_cons_zero, List.set_cons_succ]
      refine hr_op (i := 5) rfl rfl (by kernel_rfl) (by kernel_rfl) (fun K hK => ?_)
      go_simp
      ((with_reducible refine (push_c (.slice A n cap) (.slice A3 p cap2) c L (M.take p) _ (HX6.out.below (by (repeat (first | (with_reducible exact Below.refl _ _) | (with_reducible assumption) | (with_reducible refine Below.grow ?_ ?_ _ _) | (with_reducible refine Below.drewN' ?_ _) | (with_reducible refine Below.drew ?_) | (with_reducible refine Below.alloc ?_ ?_ _) | (with_reducible refine Below.setCell ?_ ?_ _) | omega | (focus (simp; done)) | (focus (simp; omega)))))) (HY1.out.below (by (repeat (first | (with_reducible exact Below.refl _ _) | (with_reducible assumption) | (with_reducible refine Below.grow ?_ ?_ _ _) | (with_reducible refine Below.drewN' ?_ _) | (with_reducible refine Below.drew ?_) | (with_reducible refine Below.alloc ?_ ?_ _) | (with_reducible refine Below.setCell ?_ ?_ _) | omega | (focus (simp; done)) | (focus (simp; omega)))))) HLL.out HLT.out H3.out).mono ?_); rintro e wq ⟨vp, rfl, hg6, hv6, hf6⟩; obtain ⟨X7, d7, rfl⟩ := Below.toGrow hg6; (try simp only [World.grow_grow] at hv6); (try simp only [Array.append_assoc] at hv6); obtain ⟨Ap, cp, rfl, hcp⟩ := hv6.1.len; have hfp := (hf6 (fun b => b < w6.heap.size) HX6.out.ft HY1.out.ft).and hv6.ft; clear hg6 hf6)
      (try go_wp2_with fail)
      refine hK.out _ _ ?_ (fun hHeld => ?_)
      · ((try dsimp only); go_simp)
      clear hK K
      simp only [List.set_cons_zero, List.set_cons_succ]
      refine hr_op (i := 9) rfl rfl (by kernel_rfl) (by kernel_rfl) (fun K hK => ?_)
      go_simp
      ((with_reducible refine (push_c (.slice Ap (pushL L c.toNat (M.take p)).length cp) (.slice A4 (n2 - p) (cap2 - p)) c (pushL L c.toNat (M.take p)) (M.drop p) _ (hv6.below (by (repeat (first | (with_reducible exact Below.refl _ _) | (with_reducible assumption) | (with_reducible refine Below.grow ?_ ?_ _ _) | (with_reducible refine Below.drewN' ?_ _) | (with_reducible refine Below.drew ?_) | (with_reducible refine Below.alloc ?_ ?_ _) | (with_reducible refine Below.setCell ?_ ?_ _) | omega | (focus (simp; done)) | (focus (simp; omega)))))) (HY2.out.below (by (repeat (first | (with_reducible exact Below.refl _ _) | (with_reducible assumption) | (with_reducible refine Below.grow ?_ ?_ _ _) | (with_reducible refine Below.drewN' ?_ _) | (with_reducible refine Below.drew ?_) | (with_reducible refine Below.alloc ?_ ?_ _) | (with_reducible refine Below.setCell ?_ ?_ _) | omega | (focus (simp; done)) | (focus (simp; omega)))))) HP1.out HLD.out HPS.out).mono ?_); rintro e wq ⟨vq, rfl, hg7, hv7, hf7⟩; obtain ⟨X8, d8, rfl⟩ := Below.toGrow hg7; (try simp only [World.grow_grow] at hv7); (try simp only [Array.append_assoc] at hv7); rw [HPL.out] at hv7 hf7; obtain ⟨Aq, cq, rfl, hcq⟩ := hv7.1.len; have hfq := hf7 _ hfp (HY2.out.ft.mono (fun b hb => ⟨.inl hb, by simp at hb ⊢; omega⟩)); clear hg7 hf7 hfp)
      (try go_wp2_with fail)
      refine hK.out _ _ ?_ (fun hHeld => ?_)
      · ((try dsimp only); go_simp)
      clear hK K
      simp only [List.set_cons_zero, List.set_cons_succ]
      refine hr_op0 (i := 11) rfl (by kernel_rfl) (by kernel_rfl) (fun K hK => ?_)
      go_simp
      (try go_wp2_with fail)
      refine hK.out _ ?_ (fun hHeld => ?_)
      · ((try dsimp only); go_simp)
      clear hK K
      refine hr_done (by kernel_rfl) ?_
      (go_wp2_with fail; go_meet; case rel => (refine ⟨_, _, rfl, by (repeat (first | (with_reducible exact Below.refl _ _) | (with_reducible assumption) | (with_reducible refine Below.grow ?_ ?_ _ _) | (with_reducible refine Below.drewN' ?_ _) | (with_reducible refine Below.drew ?_) | (with_reducible refine Below.alloc ?_ ?_ _) | (with_reducible refine Below.setCell ?_ ?_ _) | omega | (focus (simp; done)) | (focus (simp; omega)))), by (repeat (first | (with_reducible exact Blk.new _ _ _) | (with_reducible refine Blk.set2 ?_) | (with_reducible refine Blk.drewd ?_) | (with_reducible refine Blk.grow ?_ _ _) | (with_reducible refine Blk.new_at ?_; simp; done) | (with_reducible refine Blk.alloc ?_ _))), ?_, by simp⟩; first | (with_reducible refine RdR.below hv7 ?_; (repeat (first | (with_reducible exact Below.refl _ _) | (with_reducible assumption) | (with_reducible refine Below.grow ?_ ?_ _ _) | (with_reducible refine Below.drewN' ?_ _) | (with_reducible refine Below.drew ?_) | (with_reducible refine Below.alloc ?_ ?_ _) | (with_reducible refine Below.setCell ?_ ?_ _) | omega | (focus (simp; done)) | (focus (simp; omega)))); done) | (with_reducible refine RdR.other hv7 ?_; refine hfq.mono (fun b hb => ?_); (try simp at hb ⊢); omega)))
  case rest =>
    obtain ⟨g2, v2, rfl, hb7, hB3, hv2, hg2⟩ := hcut
    obtain ⟨A6, c6, rfl, hc6⟩ := hv2.1.len
    have HB3 := Lib.hid hB3
    have HV2 := Lib.hid hv2
    have HB7 := Lib.hid hb7
    clear hB3 hv2 hb7
    go_wp2_with fail
    refine (hnew_c 0 _).mono ?_
    rintro e w8 ⟨rfl, hg⟩
    have hb8 := hg.below
    rw [show max 0 (min (0 : Int) 200) = 0 by omega]
    clear hg
    go_wp2_with fail
    refine (push_c (.slice none 0 0) (.slice A2 n2 cap2) 0 [] M _ (RdR.nil _ _ _) ((HYM.out.below HB7.out).below hb8) (by simp) HLM.out (hsane_iff.2 ⟨by decide, by decide, by decide, fun r hr => by cases hr⟩)).mono ?_
    rintro e w9 ⟨v3, rfl, hg, hv3, -⟩
    rw [show pushL [] (Int.toNat 0) M = [] from List.eq_nil_of_length_eq_zero (Nat.le_zero.1 (pushL_len [] 0 M))] at hv3
    obtain ⟨A7, c7, rfl, hc7⟩ := hv3.1.len
    rw [List.length_nil]
    have hb9 := hb8.trans (hg.mono hb8.size)
    clear hg hb8 hv3 hc7
    go_upto_region 8 with fail
    generalize hw10 : w9.alloc _ = w10
    have hg : Below w9.heap.size w9 w10 := by rw [← hw10]; (repeat (first | (with_reducible exact Below.refl _ _) | (with_reducible assumption) | (with_reducible refine Below.grow ?_ ?_ _ _) | (with_reducible refine Below.drewN' ?_ _) | (with_reducible refine Below.drew ?_) | (with_reducible refine Below.alloc ?_ ?_ _) | (with_reducible refine Below.setCell ?_ ?_ _) | omega | (focus (simp; done)) | (focus (simp; omega))))
    have hB4 : Blk w10 w9.heap.size 41 #[.slice A7 0 c7, .int .i64 0] := by rw [← hw10]; (repeat (first | (with_reducible exact Blk.new _ _ _) | (with_reducible refine Blk.set2 ?_) | (with_reducible refine Blk.drewd ?_) | (with_reducible refine Blk.grow ?_ _ _) | (with_reducible refine Blk.new_at ?_; simp; done) | (with_reducible refine Blk.alloc ?_ _)))
    clear hw10
    have hb10 := hb9.trans (hg.mono hb9.size)
    have hB3 := HB3.out.below hb10 HB3.out.lt
    have hB2 := (HB2.out.below HB7.out HB2.out.lt).below hb10 (Nat.lt_of_lt_of_le HB2.out.lt HB7.out.size)
    have HV1' := Lib.hid ((HV1.out.below HB7.out).below hb10)
    have HV2' := Lib.hid (HV2.out.below hb10)
    have HBF := Lib.hid (HB6.out.trans ((HB7.out.trans (hb10.mono HB7.out.size)).mono HB6.out.size))
    clear hb9 hg hb10
    obtain ⟨p0, p1, pf, pl⟩ := hB2.facts2; obtain ⟨q0, q1, qf, ql⟩ := hB3.facts2; obtain ⟨s0, s1, sf, sl⟩ := hB4.facts2
    clear hB2 hB3 hB4
    obtain ⟨c1, c2, c3, -⟩ := hsane_iff.1 HPS2.out
    have hql : (pushL L c.toNat M).length ≤ 5000 := by omega
    have HQL := Lib.hid hql
    have HQM : Hid ((pushL L c.toNat M).length ≤ maxLen) := by show _ ≤ _; unfold maxLen; omega
    have hsl := sameL_refl (pushL L c.toNat M)
    have hge := cellsL_ge (pushL L c.toNat M) fun r hr => by
      have := (hsane_iff.1 HPS2.out).2.2.2 r hr
      exact (sane_iff.1 this).1
    generalize pushL L c.toNat M = PL at *
    generalize w9.heap.size = g3 at *
    generalize w5b.heap.size = g1 at *
    clear c1 c2 hql
    go_wp2_with fail
    refine hr_start (S := (fun w' => w'.cell? ⟨g1, 0, none⟩ = some (.slice A5 PL.length c5) ∧ w'.cell? ⟨g1, 1, none⟩ = some (.int .i64 c) ∧ w'.cell? ⟨g2, 0, none⟩ = some (.slice A6 PL.length c6) ∧ w'.cell? ⟨g2, 1, none⟩ = some (.int .i64 c) ∧ w'.cell? ⟨g3, 0, none⟩ = some (.slice A7 0 c7) ∧ w'.cell? ⟨g3, 1, none⟩ = some (.int .i64 0))) (by kernel_rfl) rfl ?_ (fun hHeld => ?_)
    · ((try dsimp only); go_simp)
    refine hr_take (i := 0) rfl rfl (by kernel_rfl) (by kernel_rfl) (by kernel_rfl) (by kernel_rfl) (fun _ _ _ h => h) (v := ?_) ?_ (by assumption) ?_
    rotate_left
    focus (intro wS hSw; (try dsimp only at hSw); go_simp; (try with_reducible rfl))
    simp only [List.set_cons_zero, List.set_cons_succ]
    refine hr_take (i := 1) rfl rfl (by kernel_rfl) (by kernel_rfl) (by kernel_rfl) (by kernel_rfl) (fun _ _ _ h => h) (v := ?_) ?_ (by assumption) ?_
    rotate_left
    focus (intro wS hSw; (try dsimp only at hSw); go_simp; (try with_reducible rfl))
    simp only [List.set_cons_zero, List.set_cons_succ]
    refine hr_take (i := 2) rfl rfl (by kernel_rfl) (by kernel_rfl) (by kernel_rfl) (by kernel_rfl) (fun _ _ _ h => h) (v := ?_) ?_ (by assumption) ?_
    rotate_left
    focus (intro wS hSw; (try dsimp only at hSw); go_simp; (try with_reducible rfl))
    simp only [List.set_cons_zero, List.set_cons_succ]
    refine hr_take (i := 4) rfl rfl (by kernel_rfl) (by kernel_rfl) (by kernel_rfl) (by kernel_rfl) (fun _ _ _ h => h) (v := ?_) ?_ (by assumption) ?_
    rotate_left
    focus (intro wS hSw; (try dsimp only at hSw); go_simp; (try with_reducible rfl))
    simp only [List.set_cons_zero, List.set_cons_succ]
    refine hr_op (i := 3) rfl rfl (by kernel_rfl) (by kernel_rfl) (fun K hK => ?_)
    go_simp
    ((with_reducible refine (theirs_c _ _ _ _ _).mono ?_); rintro e wq ⟨rfl, X6, d6, rfl⟩)
    (try go_wp2_with fail)
    refine hK.out _ _ ?_ (fun hHeld => ?_)
    · ((try dsimp only); go_simp)
    clear hK K
    simp only [List.set_cons_zero, List.set_cons_succ]
    refine hr_op (i := 5) rfl rfl (by kernel_rfl) (by kernel_rfl) (fun K hK => ?_)
    go_simp
    ((with_reducible refine (theirs_c _ _ _ _ _).mono ?_); rintro e wq ⟨rfl, X6, d6, rfl⟩)
    (try go_wp2_with fail)
    refine hK.out _ _ ?_ (fun hHeld => ?_)
    · ((try dsimp only); go_simp)
    clear hK K
    simp only [List.set_cons_zero, List.set_cons_succ]
    refine hr_op (i := 6) rfl rfl (by kernel_rfl) (by kernel_rfl) (fun K hK => ?_)
    go_simp
    ((with_reducible refine (sameK_c (.slice A5 PL.length c5) (.slice A6 PL.length c6) c c PL PL _ (HV1'.out.below (by (repeat (first | (with_reducible exact Below.refl _ _) | (with_reducible assumption) | (with_reducible refine Below.grow ?_ ?_ _ _) | (with_reducible refine Below.drewN' ?_ _) | (with_reducible refine Below.drew ?_) | (with_reducible refine Below.alloc ?_ ?_ _) | (with_reducible refine Below.setCell ?_ ?_ _) | omega | (focus (simp; done)) | (focus (simp; omega)))))) (HV2'.out.below (by (repeat (first | (with_reducible exact Below.refl _ _) | (with_reducible assumption) | (with_reducible refine Below.grow ?_ ?_ _ _) | (with_reducible refine Below.drewN' ?_ _) | (with_reducible refine Below.drew ?_) | (with_reducible refine Below.alloc ?_ ?_ _) | (with_reducible refine Below.setCell ?_ ?_ _) | omega | (focus (simp; done)) | (focus (simp; omega)))))) HQM.out HQM.out).mono ?_); rintro e wq ⟨rfl, X7, d7, rfl⟩)
    (try go_wp2_with fail)
    refine hK.out _ _ ?_ (fun hHeld => ?_)
    · ((try dsimp only); go_simp)
    clear hK K
    simp only [List.set_cons_zero, List.set_cons_succ]
    refine hr_take (i := 7) rfl rfl (by kernel_rfl) (by kernel_rfl) (by kernel_rfl) (by kernel_rfl) (fun _ _ _ h => h) (v := ?_) ?_ (by assumption) ?_
    rotate_left
    focus (intro wS hSw; (try dsimp only at hSw); go_simp; (try with_reducible rfl))
    simp only [List.set_cons_zero, List.set_cons_succ]
    refine hr_take (i := 8) rfl rfl (by kernel_rfl) (by kernel_rfl) (by kernel_rfl) (by kernel_rfl) (fun _ _ _ h => h) (v := ?_) ?_ (by assumption) ?_
    rotate_left
    focus (intro wS hSw; (try dsimp only at hSw); go_simp; (try with_reducible rfl))
    simp only [List.set_cons_zero, List.set_cons_succ]
    refine hr_take (i := 9) rfl rfl (by kernel_rfl) (by kernel_rfl) (by kernel_rfl) (by kernel_rfl) (fun _ _ _ h => h) (v := ?_) ?_ (by assumption) ?_
    rotate_left
    focus (intro wS hSw; (try dsimp only at hSw); go_simp; (try with_reducible rfl))
    simp only [List.set_cons_zero, List.set_cons_succ]
    refine hr_take (i := 10) rfl rfl (by kernel_rfl) (by kernel_rfl) (by kernel_rfl) (by kernel_rfl) (fun _ _ _ h => h) (v := ?_) ?_ (by assumption) ?_
    rotate_left
    focus (intro wS hSw; (try dsimp only at hSw); go_simp; (try with_reducible rfl))
    simp only [List.set_cons_zero, List.set_cons_succ]
    refine hr_take (i := 11) rfl rfl (by kernel_rfl) (by kernel_rfl) (by kernel_rfl) (by kernel_rfl) (fun _ _ _ h => h) (v := ?_) ?_ (by assumption) ?_
    rotate_left
    focus (intro wS hSw; (try dsimp only at hSw); go_simp; (try with_reducible rfl))
    simp only [List.set_cons_zero, List.set_cons_succ]
    refine hr_take (i := 12) rfl rfl (by kernel_rfl) (by kernel_rfl) (by kernel_rfl) (by kernel_rfl) (fun _ _ _ h => h) (v := ?_) ?_ (by assumption) ?_
    rotate_left
    focus (intro wS hSw; (try dsimp only at hSw); go_simp; (try with_reducible rfl))
    simp only [List.set_cons_zero, List.set_cons_succ]
    refine hr_take (i := 13) rfl rfl (by kernel_rfl) (by kernel_rfl) (by kernel_rfl) (by kernel_rfl) (fun _ _ _ h => h) (v := ?_) ?_ (by assumption) ?_
    rotate_left
    focus (intro wS hSw; (try dsimp only at hSw); go_simp; (try with_reducible rfl))
    simp only [List.set_cons_zero, List.set_cons_succ]
    refine hr_take (i := 14) rfl rfl (by kernel_rfl) (by kernel_rfl) (by kernel_rfl) (by kernel_rfl) (fun _ _ _ h => h) (v := ?_) ?_ (by assumption) ?_
    rotate_left
    focus (intro wS hSw; (try dsimp only at hSw); go_simp; (try with_reducible rfl))
    simp only [List.set_cons_zero, List.set_cons_succ]
    refine hr_take (i := 15) rfl rfl (by kernel_rfl) (by kernel_rfl) (by kernel_rfl) (by kernel_rfl) (fun _ _ _ h => h) (v := ?_) ?_ (by assumption) ?_
    rotate_left
    focus (intro wS hSw; (try dsimp only at hSw); go_simp; (try with_reducible rfl))
    simp only [List.set_cons_zero, List.set_cons_succ]
    refine hr_take (i := 17) rfl rfl (by kernel_rfl) (by kernel_rfl) (by kernel_rfl) (by kernel_rfl) (fun _ _ _ h => h) (v := ?_) ?_ (by assumption) ?_
    rotate_left
    focus (intro wS hSw; (try dsimp only at hSw); go_simp; (try with_reducible rfl))
    simp only [List.set_cons_zero, List.set_cons_succ]
    refine hr_take (i := 18) rfl rfl (by kernel_rfl) (by kernel_rfl) (by kernel_rfl) (by kernel_rfl) (fun _ _ _ h => h) (v := ?_) ?_ (by assumption) ?_
    rotate_left
    focus (intro wS hSw; (try dsimp only at hSw); go_simp; (try with_reducible rfl))
    simp only [List.set_cons_zero, List.set_cons_succ]
    refine hr_take (i := 19) rfl rfl (by kernel_rfl) (by kernel_rfl) (by kernel_rfl) (by kernel_rfl) (fun _ _ _ h => h) (v := ?_) ?_ (by assumption) ?_
    rotate_left
    focus (intro wS hSw; (try dsimp only at hSw); go_simp; (try with_reducible rfl))
    simp only [List.set_cons_zero, List.set_cons_succ]
    refine hr_op (i := 16) rfl rfl (by kernel_rfl) (by kernel_rfl) (fun K hK => ?_)
    go_simp
    ((with_reducible refine (hcells_c (.slice A5 PL.length c5) c PL _ (HV1'.out.below (by (repeat (first | (with_reducible exact Below.refl _ _) | (with_reducible assumption) | (with_reducible refine Below.grow ?_ ?_ _ _) | (with_reducible refine Below.drewN' ?_ _) | (with_reducible refine Below.drew ?_) | (with_reducible refine Below.alloc ?_ ?_ _) | (with_reducible refine Below.setCell ?_ ?_ _) | omega | (focus (simp; done)) | (focus (simp; omega)))))) HQL.out HPS2.out).mono ?_); rintro e wq ⟨rfl, X8, d8, rfl⟩)
    (try go_wp2_with fail)
    refine hK.out _ _ ?_ (fun hHeld => ?_)
    · ((try dsimp only); go_simp)
    clear hK K
    simp only [List.set_cons_zero, List.set_cons_succ]
    refine hr_take (i := 20) rfl rfl (by kernel_rfl) (by kernel_rfl) (by kernel_rfl) (by kernel_rfl) (fun _ _ _ h => h) (v := ?_) ?_ (by assumption) ?_
    rotate_left
    focus (intro wS hSw; (try dsimp only at hSw); go_simp; (try with_reducible rfl))
    simp only [List.set_cons_zero, List.set_cons_succ]
    refine hr_take (i := 21) rfl rfl (by kernel_rfl) (by kernel_rfl) (by kernel_rfl) (by kernel_rfl) (fun _ _ _ h => h) (v := ?_) ?_ (by assumption) ?_
    rotate_left
    focus (intro wS hSw; (try dsimp only at hSw); go_simp; (try with_reducible rfl))
    simp only [List.set_cons_zero, List.set_cons_succ]
    refine hr_take (i := 22) rfl rfl (by kernel_rfl) (by kernel_rfl) (by kernel_rfl) (by kernel_rfl) (fun _ _ _ h => h) (v := ?_) ?_ (by assumption) ?_
    rotate_left
    focus (intro wS hSw; (try dsimp only at hSw); go_simp; (try with_reducible rfl))
    simp only [List.set_cons_zero, List.set_cons_succ]
    refine hr_take (i := 23) rfl rfl (by kernel_rfl) (by kernel_rfl) (by kernel_rfl) (by kernel_rfl) (fun _ _ _ h => h) (v := ?_) ?_ (by assumption) ?_
    rotate_left
    focus (intro wS hSw; (try dsimp only at hSw); go_simp; (try with_reducible rfl))
    simp only [List.set_cons_zero, List.set_cons_succ]
    refine hr_take (i := 24) rfl rfl (by kernel_rfl) (by kernel_rfl) (by kernel_rfl) (by kernel_rfl) (fun _ _ _ h => h) (v := ?_) ?_ (by assumption) ?_
    rotate_left
    focus (intro wS hSw; (try dsimp only at hSw); go_simp; (try with_reducible rfl))
    simp only [List.set_cons_zero, List.set_cons_succ]
    refine hr_take (i := 25) rfl rfl (by kernel_rfl) (by kernel_rfl) (by kernel_rfl) (by kernel_rfl) (fun _ _ _ h => h) (v := ?_) ?_ (by assumption) ?_
    rotate_left
    focus (intro wS hSw; (try dsimp only at hSw); go_simp; (try with_reducible rfl))
    simp only [List.set_cons_zero, List.set_cons_succ]
    refine hr_take (i := 26) rfl rfl (by kernel_rfl) (by kernel_rfl) (by kernel_rfl) (by kernel_rfl) (fun _ _ _ h => h) (v := ?_) ?_ (by assumption) ?_
    rotate_left
    focus (intro wS hSw; (try dsimp only at hSw); go_simp; (try with_reducible rfl))
    simp only [List.set_cons_zero, List.set_cons_succ]
    refine hr_take (i := 27) rfl rfl (by kernel_rfl) (by kernel_rfl) (by kernel_rfl) (by kernel_rfl) (fun _ _ _ h => h) (v := ?_) ?_ (by assumption) ?_
    rotate_left
    focus (intro wS hSw; (try dsimp only at hSw); go_simp; (try with_reducible rfl))
    simp only [List.set_cons_zero, List.set_cons_succ]
    refine hr_take (i := 28) rfl rfl (by kernel_rfl) (by kernel_rfl) (by kernel_rfl) (by kernel_rfl) (fun _ _ _ h => h) (v := ?_) ?_ (by assumption) ?_
    rotate_left
    focus (intro wS hSw; (try dsimp only at hSw); go_simp; (try with_reducible rfl))
    simp only [List.set_cons_zero, List.set_cons_succ]
    refine hr_take (i := 29) rfl rfl (by kernel_rfl) (by kernel_rfl) (by kernel_rfl) (by kernel_rfl) (fun _ _ _ h => h) (v := ?_) ?_ (by assumption) ?_
    rotate_left
    focus (intro wS hSw; (try dsimp only at hSw); go_simp; (try with_reducible rfl))
    simp only [List.set_cons_zero, List.set_cons_succ]
    refine hr_take (i := 30) rfl rfl (by kernel_rfl) (by kernel_rfl) (by kernel_rfl) (by kernel_rfl) (fun _ _ _ h => h) (v := ?_) ?_ (by assumption) ?_
    rotate_left
    focus (intro wS hSw; (try dsimp only at hSw); go_simp; (try with_reducible rfl))
    simp only [List.set_cons_zero, List.set_cons_succ]
    refine hr_done (by kernel_rfl) ?_
    go_wp2_with fail
    go_ret
    exact ⟨rfl, Below.toGrow (by have hbf := HBF.out; (repeat (first | (with_reducible exact Below.refl _ _) | (with_reducible assumption) | (with_reducible refine Below.grow ?_ ?_ _ _) | (with_reducible refine Below.drewN' ?_ _) | (with_reducible refine Below.drew ?_) | (with_reducible refine Below.alloc ?_ ?_ _) | (with_reducible refine Below.setCell ?_ ?_ _) | omega | (focus (simp; done)) | (focus (simp; omega)))))⟩

theorem lots_law (x y : Value) (c k : Int) (L M : List Rw) (w : World) (hx : RdR0 w x L) (hy : RdR0 w y M) (hl : L.length ≤ maxLen) (hm : M.length ≤ maxLen) : Calls Try.prog 4 #[.agg #[x, .int .i64 c], y, .int .i64 k] w fun e w' => e = .returned (.bool true) ∧ Grew w w' := by
  by_cases h : fewB L = true ∧ fewB M = true ∧ hsaneB L c = true
  · exact lots_in x y c k L M w hx hy hl hm h.1 h.2.1 h.2.2
  · exact lots_out x y c k L M w hx hy hl hm h
end Go.Proofs.Ytpnadnjcacaibaa.Row
