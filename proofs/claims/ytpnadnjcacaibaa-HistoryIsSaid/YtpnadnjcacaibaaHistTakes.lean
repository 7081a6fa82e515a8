/- Walk of lapwinglaw10.HistoryTakes. -/
import Derived.Test.YtpnadnjcacaibaaHistLots
import Derived.Test.YtpnadnjcacaibaaHistE
import Derived.Test.YtpnadnjcacaibaaRefC
namespace Go.Proofs.Ytpnadnjcacaibaa.Row
open Go.RowKit
attribute [local go_sem] Nat.add_assoc Nat.add_pos_iff_pos_or_pos lt_add_r2 le_add_r2
theorem saner8_c (r : Rw) (w : World) (hr : r.ok w) : Calls Try.prog 28 #[.agg #[.slice r.A r.n r.cap, .bool r.wb, .int .i64 r.dir, .bool r.ex]] w fun e w' => e = .returned (.bool (saneRw r)) ∧ Grew w w' :=
  sane8_c r.A r.n r.cap r.f r.wb r.dir r.ex w hr.1 hr.2.2 hr.2.1
/-- what is pushed is taken again -/
theorem takes_plain (L M : List Rw) (c nn le : Nat) (hn : nn = min M.length c) (hl : le = min L.length (c - nn)) :
    ((L ++ M).drop ((L ++ M).length - c)).length = nn + le ∧ ((L ++ M).drop ((L ++ M).length - c)).drop le = M.drop (M.length - nn) ∧ ((L ++ M).drop ((L ++ M).length - c)).take le = L.drop (L.length - le) := by
  have e1 : ((L ++ M).drop ((L ++ M).length - c)).length = nn + le := by
    rw [List.length_drop, List.length_append]
    omega
  refine ⟨e1, ?_, ?_⟩
  · rw [List.drop_drop, List.length_append]
    have h : L.length + M.length - c + le = L.length + (M.length - nn) := by omega
    rw [h, ← List.drop_drop, List.drop_left]
  · by_cases h0 : le = 0
    · rw [h0, List.take_zero, Nat.sub_zero, List.drop_length]
    · rw [List.length_append, List.drop_append_of_le_length (by omega), show L.length + M.length - c = L.length - le by omega, List.take_append_of_le_length (by rw [List.length_drop]; omega)]
      exact List.take_of_length_le (by rw [List.length_drop]; omega)

set_option maxRecDepth 100000 in
set_option maxHeartbeats 2000000 in
theorem takes_out (x y : Value) (c : Int) (L M : List Rw) (w : World) (hx : RdR0 w x L) (hy : RdR0 w y M) (hl : L.length ≤ maxLen) (hm : M.length ≤ maxLen) (h : ¬ (fewB L = true ∧ fewB M = true ∧ hsaneB L c = true)) : Calls Try.prog 5 #[.agg #[x, .int .i64 c], y] w fun e w' => e = .returned (.bool true) ∧ Grew w w' := by
  obtain ⟨A, cap, rfl, hc⟩ := hx.1.len
  obtain ⟨A2, cap2, rfl, hc2⟩ := hy.1.len
  have HL := Lib.hid hl
  have HM := Lib.hid hm
  clear hl hm
  cases h1 : fewB L
  · clear h
    generalize L.length = n at hc hx ⊢
    go_enter Try.func5, Try.ntmps5
    go_wp2_with (first | (go_at_call 19; refine (awake10_c _).mono ?_; rintro e w1 ⟨rfl, XA, dA, rfl⟩) | (go_at_call 20; (with_reducible refine (few_c (.slice A n cap) L _ (hx.below (by (repeat (first | (with_reducible exact Below.refl _ _) | (with_reducible assumption) | (with_reducible refine Below.grow ?_ ?_ _ _) | (with_reducible refine Below.drewN' ?_ _) | (with_reducible refine Below.drew ?_) | (with_reducible refine Below.alloc ?_ ?_ _) | (with_reducible refine Below.setCell ?_ ?_ _) | omega | (focus (simp; done)) | (focus (simp; omega)))))) HL.out).mono ?_); rintro e w1 ⟨rfl, rfl⟩))
    go_ret
    exact ⟨rfl, (Below.toGrow (by repeat (first | (with_reducible exact Below.refl _ _) | (with_reducible assumption) | (with_reducible refine Below.grow ?_ ?_ _ _) | (with_reducible refine Below.drewN' ?_ _) | (with_reducible refine Below.drew ?_) | (with_reducible refine Below.alloc ?_ ?_ _) | (with_reducible refine Below.setCell ?_ ?_ _) | omega | (focus (simp; done)) | (focus (simp; omega)))))⟩
  · cases h2 : fewB M
    · clear h
      generalize L.length = n at hc hx ⊢
      generalize M.length = n2 at hc2 hy ⊢
      go_enter Try.func5, Try.ntmps5
      go_wp2_with (first | (go_at_call 19; refine (awake10_c _).mono ?_; rintro e w1 ⟨rfl, XA, dA, rfl⟩) | (go_at_call 20; (with_reducible refine (few_c (.slice A n cap) L _ (hx.below (by (repeat (first | (with_reducible exact Below.refl _ _) | (with_reducible assumption) | (with_reducible refine Below.grow ?_ ?_ _ _) | (with_reducible refine Below.drewN' ?_ _) | (with_reducible refine Below.drew ?_) | (with_reducible refine Below.alloc ?_ ?_ _) | (with_reducible refine Below.setCell ?_ ?_ _) | omega | (focus (simp; done)) | (focus (simp; omega)))))) HL.out).mono ?_); rintro e w1 ⟨rfl, rfl⟩) | (go_at_call 20; (with_reducible refine (few_c (.slice A2 n2 cap2) M _ (hy.below (by (repeat (first | (with_reducible exact Below.refl _ _) | (with_reducible assumption) | (with_reducible refine Below.grow ?_ ?_ _ _) | (with_reducible refine Below.drewN' ?_ _) | (with_reducible refine Below.drew ?_) | (with_reducible refine Below.alloc ?_ ?_ _) | (with_reducible refine Below.setCell ?_ ?_ _) | omega | (focus (simp; done)) | (focus (simp; omega)))))) HM.out).mono ?_); rintro e w1 ⟨rfl, rfl⟩))
      go_ret
      exact ⟨rfl, (Below.toGrow (by repeat (first | (with_reducible exact Below.refl _ _) | (with_reducible assumption) | (with_reducible refine Below.grow ?_ ?_ _ _) | (with_reducible refine Below.drewN' ?_ _) | (with_reducible refine Below.drew ?_) | (with_reducible refine Below.alloc ?_ ?_ _) | (with_reducible refine Below.setCell ?_ ?_ _) | omega | (focus (simp; done)) | (focus (simp; omega)))))⟩
    · have h3 : hsaneB L c = false := by simpa [h1, h2] using h
      clear h
      have hll := (few_iff.1 h1).1
      have HLL : Hid (L.length ≤ 5000) := by show _ ≤ _; omega
      generalize L.length = n at hc hx hll ⊢
      generalize M.length = n2 at hc2 hy ⊢
      go_enter Try.func5, Try.ntmps5
      go_wp2_with (first | (go_at_call 19; refine (awake10_c _).mono ?_; rintro e w1 ⟨rfl, XA, dA, rfl⟩) | (go_at_call 20; (with_reducible refine (few_c (.slice A n cap) L _ (hx.below (by (repeat (first | (with_reducible exact Below.refl _ _) | (with_reducible assumption) | (with_reducible refine Below.grow ?_ ?_ _ _) | (with_reducible refine Below.drewN' ?_ _) | (with_reducible refine Below.drew ?_) | (with_reducible refine Below.alloc ?_ ?_ _) | (with_reducible refine Below.setCell ?_ ?_ _) | omega | (focus (simp; done)) | (focus (simp; omega)))))) HL.out).mono ?_); rintro e w1 ⟨rfl, rfl⟩) | (go_at_call 20; (with_reducible refine (few_c (.slice A2 n2 cap2) M _ (hy.below (by (repeat (first | (with_reducible exact Below.refl _ _) | (with_reducible assumption) | (with_reducible refine Below.grow ?_ ?_ _ _) | (with_reducible refine Below.drewN' ?_ _) | (with_reducible refine Below.drew ?_) | (with_reducible refine Below.alloc ?_ ?_ _) | (with_reducible refine Below.setCell ?_ ?_ _) | omega | (focus (simp; done)) | (focus (simp; omega)))))) HM.out).mono ?_); rintro e w1 ⟨rfl, rfl⟩) | (go_at_call 22; refine (ours_c _ _ _ _ _).mono ?_; rintro e w1 ⟨rfl, XO, dO, rfl⟩) | (go_at_call 21; refine (hsane_c (.slice A n cap) c L _ ((hx.few h1).below (by (repeat (first | (with_reducible exact Below.refl _ _) | (with_reducible assumption) | (with_reducible refine Below.grow ?_ ?_ _ _) | (with_reducible refine Below.drewN' ?_ _) | (with_reducible refine Below.drew ?_) | (with_reducible refine Below.alloc ?_ ?_ _) | (with_reducible refine Below.setCell ?_ ?_ _) | omega | (focus (simp; done)) | (focus (simp; omega)))))) HLL.out).mono ?_; rintro e w1 ⟨rfl, XS, dS, rfl⟩))
      go_ret
      exact ⟨rfl, (Below.toGrow (by repeat (first | (with_reducible exact Below.refl _ _) | (with_reducible assumption) | (with_reducible refine Below.grow ?_ ?_ _ _) | (with_reducible refine Below.drewN' ?_ _) | (with_reducible refine Below.drew ?_) | (with_reducible refine Below.alloc ?_ ?_ _) | (with_reducible refine Below.setCell ?_ ?_ _) | omega | (focus (simp; done)) | (focus (simp; omega)))))⟩

set_option maxRecDepth 100000 in
set_option maxHeartbeats 4000000 in
theorem takes_in (x y : Value) (c : Int) (L M : List Rw) (w : World) (hx : RdR0 w x L) (hy : RdR0 w y M) (hl : L.length ≤ maxLen) (hm : M.length ≤ maxLen) (h1 : fewB L = true) (h2 : fewB M = true) (h3 : hsaneB L c = true) : Calls Try.prog 5 #[.agg #[x, .int .i64 c], y] w fun e w' => e = .returned (.bool true) ∧ Grew w w' := by
  obtain ⟨A, cap, rfl, hc⟩ := hx.1.len
  obtain ⟨A2, cap2, rfl, hc2⟩ := hy.1.len
  have HL := Lib.hid hl
  have HM := Lib.hid hm
  have HX := Lib.hid (hx.few h1)
  have HY := Lib.hid (hy.few h2)
  have hll := (few_iff.1 h1).1
  have hlm := (few_iff.1 h2).1
  have HLL : Hid (L.length ≤ 5000) := by show _ ≤ _; omega
  have HLM : Hid (M.length ≤ 5000) := by show _ ≤ _; omega
  have H3 := Lib.hid h3
  obtain ⟨c1, c2, -, -⟩ := hsane_iff.1 h3
  obtain ⟨cn, rfl⟩ := Int.eq_ofNat_of_zero_le c1
  have HPS2 := Lib.hid (pushL_sn (M := M) h3)
  obtain ⟨nn, hnn⟩ : ∃ q, q = min M.length cn := ⟨_, rfl⟩
  obtain ⟨le, hle⟩ : ∃ q, q = min L.length (cn - nn) := ⟨_, rfl⟩
  obtain ⟨t1, t2, t3⟩ := takes_plain L M cn nn le hnn hle
  have HT1 := Lib.hid t1
  have hnn1 : nn ≤ M.length := by omega
  have hle1 : le ≤ L.length := by omega
  obtain ⟨d1, hd1⟩ : ∃ q, q = M.length - nn := ⟨_, rfl⟩
  obtain ⟨d2, hd2⟩ : ∃ q, q = L.length - le := ⟨_, rfl⟩
  rw [← hd1] at t2
  rw [← hd2] at t3
  have HT2 := Lib.hid t2
  have HT3 := Lib.hid t3
  obtain ⟨A3, -, hrun1, hcut1⟩ := slice1 (E := encR) (P := Try.prog) 36 24 Try.underlying36 (by kernel_rfl) A2 M.length cap2 d1 (by omega) hc2
  obtain ⟨A4, -, hrun2, hcut2⟩ := slice1 (E := encR) (P := Try.prog) 36 24 Try.underlying36 (by kernel_rfl) A L.length cap d2 (by omega) hc
  have HC1 := Lib.hid hcut1
  have HC2 := Lib.hid hcut2
  have HR1 := Lib.hid hrun1
  have HR2 := Lib.hid hrun2
  clear hcut1 hcut2 t1 t2 t3 hrun1 hrun2
  generalize hn : L.length = n at hl hc hx HX hll hle hle1 hd2 HR2 HC2 ⊢
  generalize hn2 : M.length = n2 at hm hc2 hy HY hlm hnn hnn1 hd1 HR1 HC1 ⊢
  have HN := Lib.hid hn
  have HN2 := Lib.hid hn2
  have HNN := Lib.hid hnn
  have HLE := Lib.hid hle
  have HD1 := Lib.hid hd1
  have HD2 := Lib.hid hd2
  clear hn hn2 hl hm hnn hle hd1 hd2
  go_enter Try.func5, Try.ntmps5
  go_upto_region 4 with (first | (go_at_call 19; refine (awake10_c _).mono ?_; rintro e w1 ⟨rfl, XA, dA, rfl⟩) | (go_at_call 20; (with_reducible refine (few_c (.slice A n cap) L _ (hx.below (by (repeat (first | (with_reducible exact Below.refl _ _) | (with_reducible assumption) | (with_reducible refine Below.grow ?_ ?_ _ _) | (with_reducible refine Below.drewN' ?_ _) | (with_reducible refine Below.drew ?_) | (with_reducible refine Below.alloc ?_ ?_ _) | (with_reducible refine Below.setCell ?_ ?_ _) | omega | (focus (simp; done)) | (focus (simp; omega)))))) HL.out).mono ?_); rintro e w1 ⟨rfl, rfl⟩) | (go_at_call 20; (with_reducible refine (few_c (.slice A2 n2 cap2) M _ (hy.below (by (repeat (first | (with_reducible exact Below.refl _ _) | (with_reducible assumption) | (with_reducible refine Below.grow ?_ ?_ _ _) | (with_reducible refine Below.drewN' ?_ _) | (with_reducible refine Below.drew ?_) | (with_reducible refine Below.alloc ?_ ?_ _) | (with_reducible refine Below.setCell ?_ ?_ _) | omega | (focus (simp; done)) | (focus (simp; omega)))))) HM.out).mono ?_); rintro e w1 ⟨rfl, rfl⟩) | (go_at_call 22; refine (ours_c _ _ _ _ _).mono ?_; rintro e w1 ⟨rfl, XO, dO, rfl⟩) | (go_at_call 21; refine (hsane_c (.slice A n cap) cn L _ (HX.out.below (by (repeat (first | (with_reducible exact Below.refl _ _) | (with_reducible assumption) | (with_reducible refine Below.grow ?_ ?_ _ _) | (with_reducible refine Below.drewN' ?_ _) | (with_reducible refine Below.drew ?_) | (with_reducible refine Below.alloc ?_ ?_ _) | (with_reducible refine Below.setCell ?_ ?_ _) | omega | (focus (simp; done)) | (focus (simp; omega)))))) HLL.out).mono ?_; rintro e w1 ⟨rfl, XS, dS, rfl⟩))
  generalize hw5 : World.grow _ _ _ = w5
  have hb5 : Below w.heap.size w w5 := by rw [← hw5]; (repeat (first | (with_reducible exact Below.refl _ _) | (with_reducible assumption) | (with_reducible refine Below.grow ?_ ?_ _ _) | (with_reducible refine Below.drewN' ?_ _) | (with_reducible refine Below.drew ?_) | (with_reducible refine Below.alloc ?_ ?_ _) | (with_reducible refine Below.setCell ?_ ?_ _) | omega | (focus (simp; done)) | (focus (simp; omega))))
  have hB1 : Blk w5 w.heap.size 38 #[.slice A n cap, .int .i64 cn] := by rw [← hw5]; (repeat (first | (with_reducible exact Blk.new _ _ _) | (with_reducible refine Blk.set2 ?_) | (with_reducible refine Blk.drewd ?_) | (with_reducible refine Blk.grow ?_ _ _) | (with_reducible refine Blk.new_at ?_; simp; done) | (with_reducible refine Blk.alloc ?_ _)))
  clear hw5 hx hy
  have HB5 := Lib.hid hb5
  have HB1 := Lib.hid hB1
  clear hb5 hB1
  go_wp2_with fail
  go_loopw [6] (fun i wz => ∃ k : Nat, k ≤ n2 ∧ i = .int .i64 k ∧ Hid (∀ j (h : j < M.length), j < k → saneRw M[j] = true) ∧ Below w5.heap.size w5 wz) (fun i _ => n2 - (intOf i).toNat)
  case atStart => exact ⟨0, Nat.zero_le _, rfl, fun j _ hj => absurd hj (by omega), Below.refl _ _⟩
  case round =>
    obtain ⟨k, hk, rfl, HALL, hb⟩ := hrel
    have hbs := hb.size
    have hbwr := HB5.out.trans (hb.mono HB5.out.size)
    have hws := hbwr.size
    by_cases hlt : k < n2
    · have hkl : k < M.length := by rw [HN2.out]; exact hlt
      obtain ⟨b, o, rfl, hbb, hat, hok⟩ := (HY.out.below hbwr).at_ hkl
      have HE : Hid (saneRw M[k] = true → ∀ j (h : j < M.length), j < k + 1 → saneRw M[j] = true) := fun hs j h hj => by
        by_cases e : j = k
        · subst e; exact hs
        · exact HALL.out j h (by omega)
      generalize M[k] = r at *
      obtain ⟨p0, p1, p2, p3⟩ := hat
      simp only [Nat.add_assoc] at p1 p2 p3
      have hltI : (k : Int) < n2 := by omega
      cases hs : saneRw r
      · go_wp2_with (first | (go_at_call 28; refine (saner8_c r _ hok).mono ?_; rintro e w2 ⟨rfl, X2, d2, rfl⟩))
        go_ret
        exact ⟨rfl, (Below.toGrow (by repeat (first | (with_reducible exact Below.refl _ _) | (with_reducible assumption) | (with_reducible refine Below.grow ?_ ?_ _ _) | (with_reducible refine Below.drewN' ?_ _) | (with_reducible refine Below.drew ?_) | (with_reducible refine Below.alloc ?_ ?_ _) | (with_reducible refine Below.setCell ?_ ?_ _) | omega | (focus (simp; done)) | (focus (simp; omega)))))⟩
      · go_wp2_with (first | (go_at_call 28; refine (saner8_c r _ hok).mono ?_; rintro e w2 ⟨rfl, X2, d2, rfl⟩))
        go_roundw
        case rel => exact ⟨k + 1, by omega, by go_num, HE.out hs, by (repeat (first | (with_reducible exact Below.refl _ _) | (with_reducible assumption) | (with_reducible refine Below.grow ?_ ?_ _ _) | (with_reducible refine Below.drewN' ?_ _) | (with_reducible refine Below.drew ?_) | (with_reducible refine Below.alloc ?_ ?_ _) | (with_reducible refine Below.setCell ?_ ?_ _) | omega | (focus (simp; done)) | (focus (simp; omega))))⟩
        case measure => simp [intOf]; omega
    · obtain rfl : n2 = k := by omega
      have HPE := Lib.hid (pushL_sane (c := cn) (M := M) (fun r hr => by
        obtain ⟨j, hj, rfl⟩ := List.getElem_of_mem hr
        exact HALL.out j hj (by rw [← HN2.out]; exact hj)) L)
      have hB1 := HB1.out.below hb HB1.out.lt
      obtain ⟨r0, r1, rf, rl⟩ := hB1.facts2
      go_wp2_with (first | (go_at_call 22; refine (ours_c _ _ _ _ _).mono ?_; rintro e w1 ⟨rfl, XO, dO, rfl⟩))
      refine (push_c (.slice A n cap) (.slice A2 n2 cap2) cn L M _ ((HX.out.below hbwr).below (by (repeat (first | (with_reducible exact Below.refl _ _) | (with_reducible assumption) | (with_reducible refine Below.grow ?_ ?_ _ _) | (with_reducible refine Below.drewN' ?_ _) | (with_reducible refine Below.drew ?_) | (with_reducible refine Below.alloc ?_ ?_ _) | (with_reducible refine Below.setCell ?_ ?_ _) | omega | (focus (simp; done)) | (focus (simp; omega)))))) ((HY.out.below hbwr).below (by (repeat (first | (with_reducible exact Below.refl _ _) | (with_reducible assumption) | (with_reducible refine Below.grow ?_ ?_ _ _) | (with_reducible refine Below.drewN' ?_ _) | (with_reducible refine Below.drew ?_) | (with_reducible refine Below.alloc ?_ ?_ _) | (with_reducible refine Below.setCell ?_ ?_ _) | omega | (focus (simp; done)) | (focus (simp; omega)))))) HLL.out HLM.out H3.out).mono ?_
      rintro e w7 ⟨v1, rfl, hg, hv1, -⟩
      replace hg : Below wr.heap.size wr w7 := ((Below.refl _ _).grow (Nat.le_refl _) _ _).trans (hg.mono (by simp))
      have hv1' : RdR w7 v1 ((L ++ M).drop ((L ++ M).length - cn)) := by rw [← HPE.out]; exact hv1
      have HPS : Hid (hsaneB ((L ++ M).drop ((L ++ M).length - cn)) cn = true) := by have := HPS2.out; rw [show pushL L (Int.toNat (cn : Int)) M = _ from HPE.out] at this; exact this
      clear hv1 HPE HPS2
      generalize (L ++ M).drop ((L ++ M).length - cn) = PL at *
      obtain ⟨A5, c5, rfl, hc5⟩ := hv1'.1.len
      rw [HT1.out] at hv1' hc5 ⊢
      have HPL : Hid (PL.length ≤ 5000) := by show _ ≤ _; rw [HT1.out]; omega
      have hB1' := hB1.below hg hB1.lt
      clear r0 r1 rf rl
      obtain ⟨r0, r1, rf, rl⟩ := hB1'.facts2
      go_upto_region 10 with fail
      generalize hw8 : w7.alloc _ = w8
      have hg2 : Below w7.heap.size w7 w8 := by rw [← hw8]; (repeat (first | (with_reducible exact Below.refl _ _) | (with_reducible assumption) | (with_reducible refine Below.grow ?_ ?_ _ _) | (with_reducible refine Below.drewN' ?_ _) | (with_reducible refine Below.drew ?_) | (with_reducible refine Below.alloc ?_ ?_ _) | (with_reducible refine Below.setCell ?_ ?_ _) | omega | (focus (simp; done)) | (focus (simp; omega))))
      have hB2 : Blk w8 w7.heap.size 41 #[.slice A5 (nn + le) c5, .int .i64 cn] := by rw [← hw8]; (repeat (first | (with_reducible exact Blk.new _ _ _) | (with_reducible refine Blk.set2 ?_) | (with_reducible refine Blk.drewd ?_) | (with_reducible refine Blk.grow ?_ _ _) | (with_reducible refine Blk.new_at ?_; simp; done) | (with_reducible refine Blk.alloc ?_ _)))
      clear hw8
      have hB1'' := hB1'.below hg2 hB1'.lt
      clear r0 r1 rf rl
      obtain ⟨r0, r1, rf, rl⟩ := hB1''.facts2; obtain ⟨q0, q1, qf, ql⟩ := hB2.facts2
      have hb8 := hbwr.trans ((hg.trans (hg2.mono hg.size)).mono hbwr.size)
      replace hv1' := hv1'.below hg2
      have HB8 := Lib.hid hb8
      have HV1 := Lib.hid hv1'
      have HBL1 := Lib.hid hB1''
      have HBL2 := Lib.hid hB2
      clear hb hB1 hB1' hB1'' hB2 hg hg2 hb8 hv1' hbwr hws hbs
      go_cut [8] from 46 to 50 (fun s wc => w8 = wc ∧ s = .int .i64 (nn : Int))
      case first =>
        go_wp2
        all_goals (go_meet; case rel => exact ⟨rfl, by congr 1; have := HNN.out; omega⟩)
      case rest =>
        obtain ⟨rfl, rfl⟩ := hcut
        go_wp2_with fail
        refine (take_c (.slice A5 (nn + le) c5) cn nn PL le _ HV1.out HPL.out HPS.out (by have := HT1.out; have := HNN.out; have := HLE.out; omega)).mono ?_
        rintro e w9 ⟨v2, v3, rfl, hg, hv2, hv3, -⟩
        rw [HT3.out] at hv2
        rw [HT2.out] at hv3
        obtain ⟨A6, c6, rfl, hc6⟩ := hv2.1.len
        obtain ⟨A7, c7, rfl, hc7⟩ := hv3.1.len
        have e1 : (L.drop d2).length = le := by have := HD2.out; rw [List.length_drop, HN.out]; omega
        have e2 : (M.drop d1).length = nn := by have := HD1.out; rw [List.length_drop, HN2.out]; omega
        rw [e1] at hv2 hc6 ⊢
        rw [e2] at hv3 hc7 ⊢
        have HE1 := Lib.hid e1
        have HE2 := Lib.hid e2
        clear e1 e2 r0 r1 rf rl q0 q1 qf ql
        have hB1 := HBL1.out.below hg HBL1.out.lt
        have hB2 := HBL2.out.below hg HBL2.out.lt
        obtain ⟨r0, r1, rf, rl⟩ := hB1.facts2; obtain ⟨q0, q1, qf, ql⟩ := hB2.facts2
        go_upto_region 12 with fail
        generalize hw10 : w9.alloc _ = w10
        have hg2 : Below w9.heap.size w9 w10 := by rw [← hw10]; (repeat (first | (with_reducible exact Below.refl _ _) | (with_reducible assumption) | (with_reducible refine Below.grow ?_ ?_ _ _) | (with_reducible refine Below.drewN' ?_ _) | (with_reducible refine Below.drew ?_) | (with_reducible refine Below.alloc ?_ ?_ _) | (with_reducible refine Below.setCell ?_ ?_ _) | omega | (focus (simp; done)) | (focus (simp; omega))))
        have hB3 : Blk w10 w9.heap.size 41 #[.slice A6 le c6, .int .i64 cn] := by rw [← hw10]; (repeat (first | (with_reducible exact Blk.new _ _ _) | (with_reducible refine Blk.set2 ?_) | (with_reducible refine Blk.drewd ?_) | (with_reducible refine Blk.grow ?_ _ _) | (with_reducible refine Blk.new_at ?_; simp; done) | (with_reducible refine Blk.alloc ?_ _)))
        clear hw10 r0 r1 rf rl q0 q1 qf ql
        have hB1' := hB1.below hg2 hB1.lt
        have hB2' := hB2.below hg2 hB2.lt
        obtain ⟨r0, r1, rf, rl⟩ := hB1'.facts2; obtain ⟨q0, q1, qf, ql⟩ := hB2'.facts2; obtain ⟨s0, s1, sf, sl⟩ := hB3.facts2
        have hb10 := HB8.out.trans ((hg.trans (hg2.mono hg.size)).mono HB8.out.size)
        have HV1' := Lib.hid (HV1.out.below (hg.trans (hg2.mono hg.size)))
        have HV2 := Lib.hid (hv2.below hg2)
        have HV3 := Lib.hid (hv3.below hg2)
        have HX10 := HX.out.below hb10
        have HY10 := HY.out.below hb10
        have HXC : Hid (RdR w10 (.slice A4 (n - d2) (cap - d2)) (L.drop d2)) := ⟨HC2.out _ _ HX10.1, fun r hr => HX10.2 r (List.mem_of_mem_drop hr)⟩
        have HYC : Hid (RdR w10 (.slice A3 (n2 - d1) (cap2 - d1)) (M.drop d1)) := ⟨HC1.out _ _ HY10.1, fun r hr => HY10.2 r (List.mem_of_mem_drop hr)⟩
        have HB10 := Lib.hid hb10
        clear hB1 hB2 hB1' hB2' hB3 hg hg2 hv2 hv3 HX10 HY10 hb10
        go_cut [11] from 57 to 64 (fun s wc => w10 = wc ∧ s = .int .i64 (le : Int))
        case first =>
          go_wp2
          all_goals (go_meet; case rel => exact ⟨rfl, by congr 1; have := HNN.out; have := HLE.out; omega⟩)
        case rest =>
          obtain ⟨rfl, rfl⟩ := hcut
          have hw1 : IntKind.i64.wrap ((n2 : Int) - (nn : Int)) = (d1 : Int) := by have := HD1.out; rw [IntWalk.i64_in _ (by omega)]; omega
          have hw2 : IntKind.i64.wrap ((n : Int) - (le : Int)) = (d2 : Int) := by have := HD2.out; rw [IntWalk.i64_in _ (by omega)]; omega
          have hw3 : IntKind.i64.wrap ((nn : Int) + (le : Int)) = (nn : Int) + (le : Int) := IntWalk.i64_in _ (by omega)
          have hs1 := sameL_refl (M.drop d1)
          have hs2 := sameL_refl (L.drop d2)
          have hr1 := HR1.out
          have hr2 := HR2.out
          have hsp := HPS.out
          generalize w9.heap.size = g9 at *
          generalize w7.heap.size = g7 at *
          go_wp2_with fail
          refine hr_start (S := (fun w' => w'.cell? ⟨g7, 0, none⟩ = some (.slice A5 (nn + le) c5) ∧ w'.cell? ⟨g7, 1, none⟩ = some (.int .i64 cn) ∧ w'.cell? ⟨g9, 0, none⟩ = some (.slice A6 le c6) ∧ w'.cell? ⟨g9, 1, none⟩ = some (.int .i64 cn) ∧ w'.cell? ⟨w.heap.size, 0, none⟩ = some (.slice A n cap) ∧ w'.cell? ⟨w.heap.size, 1, none⟩ = some (.int .i64 cn))) (by kernel_rfl) rfl ?_ (fun hHeld => ?_)
          · ((try dsimp only); go_simp)
          refine hr_take (i := 0) rfl rfl (by kernel_rfl) (by kernel_rfl) (by kernel_rfl) (by kernel_rfl) (fun _ _ _ h => h) (v := ?_) ?_ (by assumption) ?_
          rotate_left
          focus (intro wS hSw; (try dsimp only at hSw); go_simp; (try with_reducible rfl))
          simp only [List.set_cons_zero, List.set_cons_succ]
          refine hr_take (i := 1) rfl rfl (by kernel_rfl) (by kernel_rfl) (by kernel_rfl) (by kernel_rfl) (fun _ _ _ h => h) (v := ?_) ?_ (by assumption) ?_
          rotate_left
          focus (intro wS hSw; (try dsimp only at hSw); go_simp; (try with_reducible rfl))
          simp only [List.set_cons_zero, List.set_cons_succ]
          refine hr_take (i := 2) rfl rfl (by kernel_rfl) (by kernel_rfl) (by kernel_rfl) (by kernel_rfl) (fun _ _ _ h => h) (v := ?_) ?_ (by assumption) ?_
          rotate_left
          focus (intro wS hSw; (try dsimp only at hSw); go_simp; (try with_reducible rfl))
          simp only [List.set_cons_zero, List.set_cons_succ]
          refine hr_op (i := 3) rfl rfl (by kernel_rfl) (by kernel_rfl) (fun K hK => ?_)
          go_simp
          ((with_reducible refine (hsane_c (.slice A5 (nn + le) c5) cn PL _ (HV1'.out.below (by (repeat (first | (with_reducible exact Below.refl _ _) | (with_reducible assumption) | (with_reducible refine Below.grow ?_ ?_ _ _) | (with_reducible refine Below.drewN' ?_ _) | (with_reducible refine Below.drew ?_) | (with_reducible refine Below.alloc ?_ ?_ _) | (with_reducible refine Below.setCell ?_ ?_ _) | omega | (focus (simp; done)) | (focus (simp; omega)))))) HPL.out).mono ?_); rintro e wq ⟨rfl, X6, d6, rfl⟩)
          (try go_wp2_with fail)
          refine hK.out _ _ ?_ (fun hHeld => ?_)
          · ((try dsimp only); go_simp)
          clear hK K
          simp only [List.set_cons_zero, List.set_cons_succ]
          refine hr_take (i := 4) rfl rfl (by kernel_rfl) (by kernel_rfl) (by kernel_rfl) (by kernel_rfl) (fun _ _ _ h => h) (v := ?_) ?_ (by assumption) ?_
          rotate_left
          focus (intro wS hSw; (try dsimp only at hSw); go_simp; (try with_reducible rfl))
          simp only [List.set_cons_zero, List.set_cons_succ]
          refine hr_take (i := 5) rfl rfl (by kernel_rfl) (by kernel_rfl) (by kernel_rfl) (by kernel_rfl) (fun _ _ _ h => h) (v := ?_) ?_ (by assumption) ?_
          rotate_left
          focus (intro wS hSw; (try dsimp only at hSw); go_simp; (try with_reducible rfl))
          simp only [List.set_cons_zero, List.set_cons_succ]
          refine hr_take (i := 6) rfl rfl (by kernel_rfl) (by kernel_rfl) (by kernel_rfl) (by kernel_rfl) (fun _ _ _ h => h) (v := ?_) ?_ (by assumption) ?_
          rotate_left
          focus (intro wS hSw; (try dsimp only at hSw); go_simp; (try with_reducible rfl))
          simp only [List.set_cons_zero, List.set_cons_succ]
          refine hr_take (i := 7) rfl rfl (by kernel_rfl) (by kernel_rfl) (by kernel_rfl) (by kernel_rfl) (fun _ _ _ h => h) (v := ?_) ?_ (by assumption) ?_
          rotate_left
          focus (intro wS hSw; (try dsimp only at hSw); go_simp; (try with_reducible rfl))
          simp only [List.set_cons_zero, List.set_cons_succ]
          refine hr_take (i := 8) rfl rfl (by kernel_rfl) (by kernel_rfl) (by kernel_rfl) (by kernel_rfl) (fun _ _ _ h => h) (v := ?_) ?_ (by assumption) ?_
          rotate_left
          focus (intro wS hSw; (try dsimp only at hSw); go_simp; (try with_reducible rfl))
          simp only [List.set_cons_zero, List.set_cons_succ]
          refine hr_take (i := 9) rfl rfl (by kernel_rfl) (by kernel_rfl) (by kernel_rfl) (by kernel_rfl) (fun _ _ _ h => h) (v := ?_) ?_ (by assumption) ?_
          rotate_left
          focus (intro wS hSw; (try dsimp only at hSw); go_simp; (try with_reducible rfl))
          simp only [List.set_cons_zero, List.set_cons_succ]
          refine hr_take (i := 10) rfl rfl (by kernel_rfl) (by kernel_rfl) (by kernel_rfl) (by kernel_rfl) (fun _ _ _ h => h) (v := ?_) ?_ (by assumption) ?_
          rotate_left
          focus (intro wS hSw; (try dsimp only at hSw); go_simp; (try with_reducible rfl))
          simp only [List.set_cons_zero, List.set_cons_succ]
          refine hr_take (i := 11) rfl rfl (by kernel_rfl) (by kernel_rfl) (by kernel_rfl) (by kernel_rfl) (fun _ _ _ h => h) (v := ?_) ?_ (by assumption) ?_
          rotate_left
          focus (intro wS hSw; (try dsimp only at hSw); go_simp; (try with_reducible rfl))
          simp only [List.set_cons_zero, List.set_cons_succ]
          refine hr_take (i := 12) rfl rfl (by kernel_rfl) (by kernel_rfl) (by kernel_rfl) (by kernel_rfl) (fun _ _ _ h => h) (v := ?_) ?_ (by assumption) ?_
          rotate_left
          focus (intro wS hSw; (try dsimp only at hSw); go_simp; (try with_reducible rfl))
          simp only [List.set_cons_zero, List.set_cons_succ]
          refine hr_op (i := 13) rfl rfl (by kernel_rfl) (by kernel_rfl) (fun K hK => ?_)
          go_simp
          ((with_reducible refine (sameL_c (.slice A7 nn c7) (.slice A3 (n2 - d1) (cap2 - d1)) (M.drop d1) (M.drop d1) _ (HV3.out.below (by (repeat (first | (with_reducible exact Below.refl _ _) | (with_reducible assumption) | (with_reducible refine Below.grow ?_ ?_ _ _) | (with_reducible refine Below.drewN' ?_ _) | (with_reducible refine Below.drew ?_) | (with_reducible refine Below.alloc ?_ ?_ _) | (with_reducible refine Below.setCell ?_ ?_ _) | omega | (focus (simp; done)) | (focus (simp; omega)))))) (HYC.out.below (by (repeat (first | (with_reducible exact Below.refl _ _) | (with_reducible assumption) | (with_reducible refine Below.grow ?_ ?_ _ _) | (with_reducible refine Below.drewN' ?_ _) | (with_reducible refine Below.drew ?_) | (with_reducible refine Below.alloc ?_ ?_ _) | (with_reducible refine Below.setCell ?_ ?_ _) | omega | (focus (simp; done)) | (focus (simp; omega)))))) (by unfold maxLen; rw [HE2.out]; omega) (by unfold maxLen; rw [HE2.out]; omega)).mono ?_); rintro e wq ⟨rfl, X7, d7, rfl⟩)
          (try go_wp2_with fail)
          refine hK.out _ _ ?_ (fun hHeld => ?_)
          · ((try dsimp only); go_simp)
          clear hK K
          simp only [List.set_cons_zero, List.set_cons_succ]
          refine hr_take (i := 14) rfl rfl (by kernel_rfl) (by kernel_rfl) (by kernel_rfl) (by kernel_rfl) (fun _ _ _ h => h) (v := ?_) ?_ (by assumption) ?_
          rotate_left
          focus (intro wS hSw; (try dsimp only at hSw); go_simp; (try with_reducible rfl))
          simp only [List.set_cons_zero, List.set_cons_succ]
          refine hr_take (i := 15) rfl rfl (by kernel_rfl) (by kernel_rfl) (by kernel_rfl) (by kernel_rfl) (fun _ _ _ h => h) (v := ?_) ?_ (by assumption) ?_
          rotate_left
          focus (intro wS hSw; (try dsimp only at hSw); go_simp; (try with_reducible rfl))
          simp only [List.set_cons_zero, List.set_cons_succ]
          refine hr_take (i := 16) rfl rfl (by kernel_rfl) (by kernel_rfl) (by kernel_rfl) (by kernel_rfl) (fun _ _ _ h => h) (v := ?_) ?_ (by assumption) ?_
          rotate_left
          focus (intro wS hSw; (try dsimp only at hSw); go_simp; (try with_reducible rfl))
          simp only [List.set_cons_zero, List.set_cons_succ]
          refine hr_take (i := 17) rfl rfl (by kernel_rfl) (by kernel_rfl) (by kernel_rfl) (by kernel_rfl) (fun _ _ _ h => h) (v := ?_) ?_ (by assumption) ?_
          rotate_left
          focus (intro wS hSw; (try dsimp only at hSw); go_simp; (try with_reducible rfl))
          simp only [List.set_cons_zero, List.set_cons_succ]
          refine hr_take (i := 18) rfl rfl (by kernel_rfl) (by kernel_rfl) (by kernel_rfl) (by kernel_rfl) (fun _ _ _ h => h) (v := ?_) ?_ (by assumption) ?_
          rotate_left
          focus (intro wS hSw; (try dsimp only at hSw); go_simp; (try with_reducible rfl))
          simp only [List.set_cons_zero, List.set_cons_succ]
          refine hr_take (i := 19) rfl rfl (by kernel_rfl) (by kernel_rfl) (by kernel_rfl) (by kernel_rfl) (fun _ _ _ h => h) (v := ?_) ?_ (by assumption) ?_
          rotate_left
          focus (intro wS hSw; (try dsimp only at hSw); go_simp; (try with_reducible rfl))
          simp only [List.set_cons_zero, List.set_cons_succ]
          refine hr_take (i := 20) rfl rfl (by kernel_rfl) (by kernel_rfl) (by kernel_rfl) (by kernel_rfl) (fun _ _ _ h => h) (v := ?_) ?_ (by assumption) ?_
          rotate_left
          focus (intro wS hSw; (try dsimp only at hSw); go_simp; (try with_reducible rfl))
          simp only [List.set_cons_zero, List.set_cons_succ]
          refine hr_take (i := 21) rfl rfl (by kernel_rfl) (by kernel_rfl) (by kernel_rfl) (by kernel_rfl) (fun _ _ _ h => h) (v := ?_) ?_ (by assumption) ?_
          rotate_left
          focus (intro wS hSw; (try dsimp only at hSw); go_simp; (try with_reducible rfl))
          simp only [List.set_cons_zero, List.set_cons_succ]
          refine hr_take (i := 22) rfl rfl (by kernel_rfl) (by kernel_rfl) (by kernel_rfl) (by kernel_rfl) (fun _ _ _ h => h) (v := ?_) ?_ (by assumption) ?_
          rotate_left
          focus (intro wS hSw; (try dsimp only at hSw); go_simp; (try with_reducible rfl))
          simp only [List.set_cons_zero, List.set_cons_succ]
          refine hr_take (i := 23) rfl rfl (by kernel_rfl) (by kernel_rfl) (by kernel_rfl) (by kernel_rfl) (fun _ _ _ h => h) (v := ?_) ?_ (by assumption) ?_
          rotate_left
          focus (intro wS hSw; (try dsimp only at hSw); go_simp; (try with_reducible rfl))
          simp only [List.set_cons_zero, List.set_cons_succ]
          refine hr_take (i := 24) rfl rfl (by kernel_rfl) (by kernel_rfl) (by kernel_rfl) (by kernel_rfl) (fun _ _ _ h => h) (v := ?_) ?_ (by assumption) ?_
          rotate_left
          focus (intro wS hSw; (try dsimp only at hSw); go_simp; (try with_reducible rfl))
          simp only [List.set_cons_zero, List.set_cons_succ]
          refine hr_take (i := 25) rfl rfl (by kernel_rfl) (by kernel_rfl) (by kernel_rfl) (by kernel_rfl) (fun _ _ _ h => h) (v := ?_) ?_ (by assumption) ?_
          rotate_left
          focus (intro wS hSw; (try dsimp only at hSw); go_simp; (try with_reducible rfl))
          simp only [List.set_cons_zero, List.set_cons_succ]
          refine hr_op (i := 26) rfl rfl (by kernel_rfl) (by kernel_rfl) (fun K hK => ?_)
          go_simp
          ((with_reducible refine (sameL_c (.slice A6 le c6) (.slice A4 (n - d2) (cap - d2)) (L.drop d2) (L.drop d2) _ (HV2.out.below (by (repeat (first | (with_reducible exact Below.refl _ _) | (with_reducible assumption) | (with_reducible refine Below.grow ?_ ?_ _ _) | (with_reducible refine Below.drewN' ?_ _) | (with_reducible refine Below.drew ?_) | (with_reducible refine Below.alloc ?_ ?_ _) | (with_reducible refine Below.setCell ?_ ?_ _) | omega | (focus (simp; done)) | (focus (simp; omega)))))) (HXC.out.below (by (repeat (first | (with_reducible exact Below.refl _ _) | (with_reducible assumption) | (with_reducible refine Below.grow ?_ ?_ _ _) | (with_reducible refine Below.drewN' ?_ _) | (with_reducible refine Below.drew ?_) | (with_reducible refine Below.alloc ?_ ?_ _) | (with_reducible refine Below.setCell ?_ ?_ _) | omega | (focus (simp; done)) | (focus (simp; omega)))))) (by unfold maxLen; rw [HE1.out]; omega) (by unfold maxLen; rw [HE1.out]; omega)).mono ?_); rintro e wq ⟨rfl, X8, d8, rfl⟩)
          (try go_wp2_with fail)
          refine hK.out _ _ ?_ (fun hHeld => ?_)
          · ((try dsimp only); go_simp)
          clear hK K
          simp only [List.set_cons_zero, List.set_cons_succ]
          refine hr_take (i := 27) rfl rfl (by kernel_rfl) (by kernel_rfl) (by kernel_rfl) (by kernel_rfl) (fun _ _ _ h => h) (v := ?_) ?_ (by assumption) ?_
          rotate_left
          focus (intro wS hSw; (try dsimp only at hSw); go_simp; (try with_reducible rfl))
          simp only [List.set_cons_zero, List.set_cons_succ]
          refine hr_take (i := 28) rfl rfl (by kernel_rfl) (by kernel_rfl) (by kernel_rfl) (by kernel_rfl) (fun _ _ _ h => h) (v := ?_) ?_ (by assumption) ?_
          rotate_left
          focus (intro wS hSw; (try dsimp only at hSw); go_simp; (try with_reducible rfl))
          simp only [List.set_cons_zero, List.set_cons_succ]
          refine hr_take (i := 29) rfl rfl (by kernel_rfl) (by kernel_rfl) (by kernel_rfl) (by kernel_rfl) (fun _ _ _ h => h) (v := ?_) ?_ (by assumption) ?_
          rotate_left
          focus (intro wS hSw; (try dsimp only at hSw); go_simp; (try with_reducible rfl))
          simp only [List.set_cons_zero, List.set_cons_succ]
          refine hr_take (i := 30) rfl rfl (by kernel_rfl) (by kernel_rfl) (by kernel_rfl) (by kernel_rfl) (fun _ _ _ h => h) (v := ?_) ?_ (by assumption) ?_
          rotate_left
          focus (intro wS hSw; (try dsimp only at hSw); go_simp; (try with_reducible rfl))
          simp only [List.set_cons_zero, List.set_cons_succ]
          refine hr_take (i := 31) rfl rfl (by kernel_rfl) (by kernel_rfl) (by kernel_rfl) (by kernel_rfl) (fun _ _ _ h => h) (v := ?_) ?_ (by assumption) ?_
          rotate_left
          focus (intro wS hSw; (try dsimp only at hSw); go_simp; (try with_reducible rfl))
          simp only [List.set_cons_zero, List.set_cons_succ]
          refine hr_take (i := 32) rfl rfl (by kernel_rfl) (by kernel_rfl) (by kernel_rfl) (by kernel_rfl) (fun _ _ _ h => h) (v := ?_) ?_ (by assumption) ?_
          rotate_left
          focus (intro wS hSw; (try dsimp only at hSw); go_simp; (try with_reducible rfl))
          simp only [List.set_cons_zero, List.set_cons_succ]
          refine hr_take (i := 33) rfl rfl (by kernel_rfl) (by kernel_rfl) (by kernel_rfl) (by kernel_rfl) (fun _ _ _ h => h) (v := ?_) ?_ (by assumption) ?_
          rotate_left
          focus (intro wS hSw; (try dsimp only at hSw); go_simp; (try with_reducible rfl))
          simp only [List.set_cons_zero, List.set_cons_succ]
          refine hr_take (i := 34) rfl rfl (by kernel_rfl) (by kernel_rfl) (by kernel_rfl) (by kernel_rfl) (fun _ _ _ h => h) (v := ?_) ?_ (by assumption) ?_
          rotate_left
          focus (intro wS hSw; (try dsimp only at hSw); go_simp; (try with_reducible rfl))
          simp only [List.set_cons_zero, List.set_cons_succ]
          refine hr_take (i := 35) rfl rfl (by kernel_rfl) (by kernel_rfl) (by kernel_rfl) (by kernel_rfl) (fun _ _ _ h => h) (v := ?_) ?_ (by assumption) ?_
          rotate_left
          focus (intro wS hSw; (try dsimp only at hSw); go_simp; (try with_reducible rfl))
          simp only [List.set_cons_zero, List.set_cons_succ]
          refine hr_take (i := 36) rfl rfl (by kernel_rfl) (by kernel_rfl) (by kernel_rfl) (by kernel_rfl) (fun _ _ _ h => h) (v := ?_) ?_ (by assumption) ?_
          rotate_left
          focus (intro wS hSw; (try dsimp only at hSw); go_simp; (try with_reducible rfl))
          simp only [List.set_cons_zero, List.set_cons_succ]
          refine hr_take (i := 37) rfl rfl (by kernel_rfl) (by kernel_rfl) (by kernel_rfl) (by kernel_rfl) (fun _ _ _ h => h) (v := ?_) ?_ (by assumption) ?_
          rotate_left
          focus (intro wS hSw; (try dsimp only at hSw); go_simp; (try with_reducible rfl))
          simp only [List.set_cons_zero, List.set_cons_succ]
          refine hr_take (i := 38) rfl rfl (by kernel_rfl) (by kernel_rfl) (by kernel_rfl) (by kernel_rfl) (fun _ _ _ h => h) (v := ?_) ?_ (by assumption) ?_
          rotate_left
          focus (intro wS hSw; (try dsimp only at hSw); go_simp; (try with_reducible rfl))
          simp only [List.set_cons_zero, List.set_cons_succ]
          refine hr_take (i := 39) rfl rfl (by kernel_rfl) (by kernel_rfl) (by kernel_rfl) (by kernel_rfl) (fun _ _ _ h => h) (v := ?_) ?_ (by assumption) ?_
          rotate_left
          focus (intro wS hSw; (try dsimp only at hSw); go_simp; (try with_reducible rfl))
          simp only [List.set_cons_zero, List.set_cons_succ]
          refine hr_take (i := 40) rfl rfl (by kernel_rfl) (by kernel_rfl) (by kernel_rfl) (by kernel_rfl) (fun _ _ _ h => h) (v := ?_) ?_ (by assumption) ?_
          rotate_left
          focus (intro wS hSw; (try dsimp only at hSw); go_simp; (try with_reducible rfl))
          simp only [List.set_cons_zero, List.set_cons_succ]
          refine hr_take (i := 41) rfl rfl (by kernel_rfl) (by kernel_rfl) (by kernel_rfl) (by kernel_rfl) (fun _ _ _ h => h) (v := ?_) ?_ (by assumption) ?_
          rotate_left
          focus (intro wS hSw; (try dsimp only at hSw); go_simp; (try with_reducible rfl))
          simp only [List.set_cons_zero, List.set_cons_succ]
          refine hr_take (i := 42) rfl rfl (by kernel_rfl) (by kernel_rfl) (by kernel_rfl) (by kernel_rfl) (fun _ _ _ h => h) (v := ?_) ?_ (by assumption) ?_
          rotate_left
          focus (intro wS hSw; (try dsimp only at hSw); go_simp; (try with_reducible rfl))
          simp only [List.set_cons_zero, List.set_cons_succ]
          refine hr_take (i := 43) rfl rfl (by kernel_rfl) (by kernel_rfl) (by kernel_rfl) (by kernel_rfl) (fun _ _ _ h => h) (v := ?_) ?_ (by assumption) ?_
          rotate_left
          focus (intro wS hSw; (try dsimp only at hSw); go_simp; (try with_reducible rfl))
          simp only [List.set_cons_zero, List.set_cons_succ]
          refine hr_take (i := 44) rfl rfl (by kernel_rfl) (by kernel_rfl) (by kernel_rfl) (by kernel_rfl) (fun _ _ _ h => h) (v := ?_) ?_ (by assumption) ?_
          rotate_left
          focus (intro wS hSw; (try dsimp only at hSw); go_simp; (try with_reducible rfl))
          simp only [List.set_cons_zero, List.set_cons_succ]
          refine hr_done (by kernel_rfl) ?_
          go_wp2_with fail
          go_ret
          exact ⟨rfl, Below.toGrow (by have hbf := HB10.out; (repeat (first | (with_reducible exact Below.refl _ _) | (with_reducible assumption) | (with_reducible refine Below.grow ?_ ?_ _ _) | (with_reducible refine Below.drewN' ?_ _) | (with_reducible refine Below.drew ?_) | (with_reducible refine Below.alloc ?_ ?_ _) | (with_reducible refine Below.setCell ?_ ?_ _) | omega | (focus (simp; done)) | (focus (simp; omega)))))⟩
theorem takes_law (x y : Value) (c : Int) (L M : List Rw) (w : World) (hx : RdR0 w x L) (hy : RdR0 w y M) (hl : L.length ≤ maxLen) (hm : M.length ≤ maxLen) : Calls Try.prog 5 #[.agg #[x, .int .i64 c], y] w fun e w' => e = .returned (.bool true) ∧ Grew w w' := by
  by_cases h : fewB L = true ∧ fewB M = true ∧ hsaneB L c = true
  · exact takes_in x y c L M w hx hy hl hm h.1 h.2.1 h.2.2
  · exact takes_out x y c L M w hx hy hl hm h
end Go.Proofs.Ytpnadnjcacaibaa.Row
