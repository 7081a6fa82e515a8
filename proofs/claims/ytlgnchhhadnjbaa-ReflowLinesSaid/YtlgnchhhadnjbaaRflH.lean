/- Walk of lapwinglaw11.ReflowBack. -/
import Derived.Test.YtlgnchhhadnjbaaRflG
import Derived.Test.YtlgnchhhadnjbaaRflV
import Derived.Test.YtlgnchhhadnjbaaRflLW
namespace Go.Proofs.Ytlgnchhhadnjbaa.Row
open Go.RowKit
theorem sh_same {r s : Rw} (h : r.sh = s.sh) : sameRw r s = true := by
  have hn : r.n = s.n := by
    have := congrArg (fun t => t.cs.length) h
    simpa [Rw.sh, listF_len] using this
  rw [sameRw_iff]
  refine ⟨hn, fun i hi => ?_, congrArg Sh.wb h, congrArg Sh.dir h, congrArg Sh.ex h⟩
  have := congrArg (fun t => t.cs[i]?) h
  simp only [Rw.sh] at this
  rw [listF_get hi, listF_get (by omega)] at this
  injection this
theorem sh_sameL {R S : List Rw} (h : R.map Rw.sh = S.map Rw.sh) : sameL R S = true := by
  have hl : R.length = S.length := by have := congrArg List.length h; simpa using this
  rw [sameL_iff]
  refine ⟨hl, fun i h1 h2 => sh_same ?_⟩
  have := congrArg (·[i]?) h
  simp only [List.getElem?_map, List.getElem?_eq_getElem h1, List.getElem?_eq_getElem h2, Option.map_some] at this
  injection this
theorem sum_bound {R : List Rw} {q : Nat} (h : ∀ r ∈ R, r.n = q) : ∀ k, sumN R k ≤ k * q
  | 0 => by simp [sumN]
  | k + 1 => by
    have ih := sum_bound h k
    by_cases hk : k < R.length
    · rw [sumN_succ (List.getElem?_eq_getElem hk), h _ (List.getElem_mem hk), Nat.add_mul, Nat.one_mul]
      omega
    · unfold sumN at *
      rw [List.take_of_length_le (by omega)] at *
      rw [Nat.add_mul]
      omega
theorem few_tot {L : List Ln} (h : ∀ l ∈ L, l.cs.length ≤ 200) : tot L ≤ L.length * 201 := by
  unfold tot
  induction L with
  | nil => simp
  | cons l L ih =>
    have h1 := h l (by simp)
    have h2 := ih (fun y hy => h y (List.mem_cons_of_mem _ hy))
    simp only [List.map_cons, List.sum_cons, List.length_cons]
    omega
set_option maxRecDepth 100000 in
set_option maxHeartbeats 4000000 in
theorem reflow_nil (x : Value) (v : Int) (w : World) (hx : RdR w x []) : Calls Try.prog 23 #[x, .int .i64 v, .int .i64 0, .int .i64 0] w fun e w' => e = .returned (.tuple #[x, .int .i64 0, .int .i64 0]) ∧ Grew w w' := by
  obtain ⟨A, cap, rfl, hc⟩ := hx.1.len
  have key := fun wz (hz : RdR wz (.slice A 0 cap) []) => find_HL (.slice A 0 cap) [] 0 0 wz hz (by simp) rfl (by omega) (by simp)
  have HX := Lib.hid hx
  clear hx
  go_enter Try.func23, Try.ntmps23
  go_wp2_with (go_at_call 42; (refine (key _ (HX.out.below (by (repeat (first | (with_reducible exact Below.refl _ _) | (with_reducible assumption) | (with_reducible refine Below.grow ?_ ?_ _ _) | (with_reducible refine Below.drewN' ?_ _) | (with_reducible refine Below.drew ?_) | (with_reducible refine Below.alloc ?_ ?_ _) | (with_reducible refine Below.setCell ?_ ?_ _) | omega | (focus (simp; done)) | (focus (simp; omega))))))).mono ?_); rintro e w1 ⟨he1, X1, d1, rfl⟩; unfold FindP at he1; subst he1)
  (refine bodyPost_ret (v := _) (by (simp [results, Try.results23, go_sem]; exact rfl)) rfl ⟨?_, (Below.toGrow (by repeat (first | (with_reducible exact Below.refl _ _) | (with_reducible assumption) | (with_reducible refine Below.grow ?_ ?_ _ _) | (with_reducible refine Below.drewN' ?_ _) | (with_reducible refine Below.drew ?_) | (with_reducible refine Below.alloc ?_ ?_ _) | (with_reducible refine Below.setCell ?_ ?_ _) | omega | (focus (simp; done)) | (focus (simp; omega)))))⟩; exact rfl)
set_option maxRecDepth 100000 in
set_option maxHeartbeats 4000000 in
theorem back_few (x : Value) (w1 w2 : Int) (L : List Ln) (w : World) (hx : RdL0 w x L) (hl : L.length ≤ maxLen) (h : few11B L = false) : Calls Try.prog 4 #[x, .int .i64 w1, .int .i64 w2] w fun e w' => e = .returned (.bool true) ∧ Grew w w' := by
  obtain ⟨A, cap, rfl, hc⟩ := hx.1.len
  have HLM := Lib.hid hl
  obtain ⟨n, hn⟩ : ∃ n, L.length = n := ⟨_, rfl⟩
  have hx0 := hx
  clear hx
  rw [hn] at hx0 ⊢
  have HX0 : Hid (RdL0 w (.slice A n cap) L) := hx0
  have HN := Lib.hid hn
  have HFB := Lib.hid h
  clear h hx0 hl hn
  go_enter Try.func4, Try.ntmps4
  go_wp2_with (first | (go_at_call 8; (with_reducible refine (awake11_c _).mono ?_); rintro e w1 ⟨rfl, XA, dA, rfl⟩) | (go_at_call 9; (with_reducible refine (few11_c (.slice A n cap) L _ (HX0.out.below (by (repeat (first | (with_reducible exact Below.refl _ _) | (with_reducible assumption) | (with_reducible refine Below.grow ?_ ?_ _ _) | (with_reducible refine Below.drewN' ?_ _) | (with_reducible refine Below.drew ?_) | (with_reducible refine Below.alloc ?_ ?_ _) | (with_reducible refine Below.setCell ?_ ?_ _) | omega | (focus (simp; done)) | (focus (simp; omega)))))) HLM.out).mono ?_); rw [HFB.out]; rintro e w1 ⟨rfl, rfl⟩))
  go_ret
  exact ⟨rfl, (Below.toGrow (by repeat (first | (with_reducible exact Below.refl _ _) | (with_reducible assumption) | (with_reducible refine Below.grow ?_ ?_ _ _) | (with_reducible refine Below.drewN' ?_ _) | (with_reducible refine Below.drew ?_) | (with_reducible refine Below.alloc ?_ ?_ _) | (with_reducible refine Below.setCell ?_ ?_ _) | omega | (focus (simp; done)) | (focus (simp; omega)))))⟩
set_option maxRecDepth 100000 in
set_option maxHeartbeats 4000000 in
theorem back_clean (x : Value) (w1 w2 : Int) (L : List Ln) (w : World) (hx : RdL0 w x L) (hl : L.length ≤ maxLen) (h : few11B L = true) (h2 : cleanB L = false) : Calls Try.prog 4 #[x, .int .i64 w1, .int .i64 w2] w fun e w' => e = .returned (.bool true) ∧ Grew w w' := by
  obtain ⟨A, cap, rfl, hc⟩ := hx.1.len
  have HLM := Lib.hid hl
  obtain ⟨n, hn⟩ : ∃ n, L.length = n := ⟨_, rfl⟩
  have hx0 := hx
  clear hx
  rw [hn] at hx0 ⊢
  have HX0 : Hid (RdL0 w (.slice A n cap) L) := hx0
  have HN := Lib.hid hn
  have HFB := Lib.hid h
  have hfew := few11_iff.1 h
  have HX : Hid (RdL w (.slice A n cap) L) := hx0.few h
  have HL5 : Hid (L.length ≤ 100000) := by show _ ≤ _; omega
  have HCB := Lib.hid h2
  clear h hx0 hl hn h2 hfew
  go_enter Try.func4, Try.ntmps4
  go_wp2_with (first | (go_at_call 8; (with_reducible refine (awake11_c _).mono ?_); rintro e w1 ⟨rfl, XA, dA, rfl⟩) | (go_at_call 9; (with_reducible refine (few11_c (.slice A n cap) L _ (HX0.out.below (by (repeat (first | (with_reducible exact Below.refl _ _) | (with_reducible assumption) | (with_reducible refine Below.grow ?_ ?_ _ _) | (with_reducible refine Below.drewN' ?_ _) | (with_reducible refine Below.drew ?_) | (with_reducible refine Below.alloc ?_ ?_ _) | (with_reducible refine Below.setCell ?_ ?_ _) | omega | (focus (simp; done)) | (focus (simp; omega)))))) HLM.out).mono ?_); rw [HFB.out]; rintro e w1 ⟨rfl, rfl⟩) | (go_at_call 20; (with_reducible refine (clean_c (.slice A n cap) L _ (HX.out.below (by (repeat (first | (with_reducible exact Below.refl _ _) | (with_reducible assumption) | (with_reducible refine Below.grow ?_ ?_ _ _) | (with_reducible refine Below.drewN' ?_ _) | (with_reducible refine Below.drew ?_) | (with_reducible refine Below.alloc ?_ ?_ _) | (with_reducible refine Below.setCell ?_ ?_ _) | omega | (focus (simp; done)) | (focus (simp; omega)))))) HL5.out).mono ?_); rw [HCB.out]; rintro e w1 ⟨rfl, XC, dC, rfl⟩))
  go_ret
  exact ⟨rfl, (Below.toGrow (by repeat (first | (with_reducible exact Below.refl _ _) | (with_reducible assumption) | (with_reducible refine Below.grow ?_ ?_ _ _) | (with_reducible refine Below.drewN' ?_ _) | (with_reducible refine Below.drew ?_) | (with_reducible refine Below.alloc ?_ ?_ _) | (with_reducible refine Below.setCell ?_ ?_ _) | omega | (focus (simp; done)) | (focus (simp; omega)))))⟩
theorem below_more {w v u : World} (h : Below w.heap.size w v) (k : Below v.heap.size v u) : Below w.heap.size w u := h.trans (k.mono h.size)
set_option maxRecDepth 100000 in
set_option maxHeartbeats 4000000 in
theorem back_yes (x : Value) (w1 w2 : Int) (L : List Ln) (w : World) (hx : RdL0 w x L) (hl : L.length ≤ maxLen) (h : few11B L = true) (h2 : cleanB L = true) : Calls Try.prog 4 #[x, .int .i64 w1, .int .i64 w2] w fun e w' => e = .returned (.bool true) ∧ Grew w w' := by
  obtain ⟨A, cap, rfl, hc⟩ := hx.1.len
  have HLM := Lib.hid hl
  obtain ⟨n, hn⟩ : ∃ n, L.length = n := ⟨_, rfl⟩
  have hx0 := hx
  clear hx
  rw [hn] at hx0 ⊢
  have HX0 : Hid (RdL0 w (.slice A n cap) L) := hx0
  have HN := Lib.hid hn
  have HFB := Lib.hid h
  have hfew := few11_iff.1 h
  have HX : Hid (RdL w (.slice A n cap) L) := hx0.few h
  have HL5 : Hid (L.length ≤ 100000) := by show _ ≤ _; omega
  have HCB := Lib.hid h2
  have hcl := clean_iff.1 h2
  have HSX : Hid (∀ x ∈ L.map Ln.ls, sanL x = true ∧ ∀ c ∈ x.cs, c ≠ blank 0 0 0) := fun x hx => by
    obtain ⟨l, hl, rfl⟩ := List.mem_map.1 hx
    exact hcl l hl
  have htot := few_tot hfew.2
  have HTM8 : Hid (tot L ≤ 8040) := by show _ ≤ _; have := hfew.1; omega
  have HTM : Hid (tot L ≤ 10000000) := by show _ ≤ _; have := HTM8.out; omega
  obtain ⟨a, hmask, ha5⟩ := maskT w1
  obtain ⟨b, hmaskb, hb5⟩ := maskT w2
  have hwr : IntKind.i64.wrap (2 + (a : Int)) = 2 + (a : Int) := by rw [IntWalk.i64_left]; exact IntWalk.wrap64_in _ (by omega)
  have hwrb : IntKind.i64.wrap (2 + (b : Int)) = 2 + (b : Int) := by rw [IntWalk.i64_left]; exact IntWalk.wrap64_in _ (by omega)
  have HWN : Hid (wN (2 + (a : Int)) = a + 2) := by show _ = _; unfold wN; omega
  have HWNB : Hid (wN (2 + (b : Int)) = b + 2) := by show _ = _; unfold wN; omega
  clear h hx0 hl h2 hfew hcl htot
  go_enter Try.func4, Try.ntmps4
  go_upto_region 7 with (first | (go_at_call 8; (with_reducible refine (awake11_c _).mono ?_); rintro e w1 ⟨rfl, XA, dA, rfl⟩) | (go_at_call 9; (with_reducible refine (few11_c (.slice A n cap) L _ (HX0.out.below (by (repeat (first | (with_reducible exact Below.refl _ _) | (with_reducible assumption) | (with_reducible refine Below.grow ?_ ?_ _ _) | (with_reducible refine Below.drewN' ?_ _) | (with_reducible refine Below.drew ?_) | (with_reducible refine Below.alloc ?_ ?_ _) | (with_reducible refine Below.setCell ?_ ?_ _) | omega | (focus (simp; done)) | (focus (simp; omega)))))) HLM.out).mono ?_); rw [HFB.out]; rintro e w1 ⟨rfl, rfl⟩) | (go_at_call 20; (with_reducible refine (clean_c (.slice A n cap) L _ (HX.out.below (by (repeat (first | (with_reducible exact Below.refl _ _) | (with_reducible assumption) | (with_reducible refine Below.grow ?_ ?_ _ _) | (with_reducible refine Below.drewN' ?_ _) | (with_reducible refine Below.drew ?_) | (with_reducible refine Below.alloc ?_ ?_ _) | (with_reducible refine Below.setCell ?_ ?_ _) | omega | (focus (simp; done)) | (focus (simp; omega)))))) HL5.out).mono ?_); rw [HCB.out]; rintro e w1 ⟨rfl, XC, dC, rfl⟩) | (go_at_call 10; (with_reducible refine (ours_c (.slice A n cap) L _ (HX.out.below (by (repeat (first | (with_reducible exact Below.refl _ _) | (with_reducible assumption) | (with_reducible refine Below.grow ?_ ?_ _ _) | (with_reducible refine Below.drewN' ?_ _) | (with_reducible refine Below.drew ?_) | (with_reducible refine Below.alloc ?_ ?_ _) | (with_reducible refine Below.setCell ?_ ?_ _) | omega | (focus (simp; done)) | (focus (simp; omega)))))) HL5.out).mono ?_); rintro e w2 ⟨u2, rfl, hb2, hu2⟩; have HU2 := Lib.hid hu2; have HB2 := Lib.hid hb2; clear hb2 hu2) | (go_at_call 14; (with_reducible refine (spread_c u2 L (2 + (a : Int)) _ (HU2.out.below (by (repeat (first | (with_reducible exact Below.refl _ _) | (with_reducible assumption) | (with_reducible refine Below.grow ?_ ?_ _ _) | (with_reducible refine Below.drewN' ?_ _) | (with_reducible refine Below.drew ?_) | (with_reducible refine Below.alloc ?_ ?_ _) | (with_reducible refine Below.setCell ?_ ?_ _) | omega | (focus (simp; done)) | (focus (simp; omega)))))) HL5.out HTM.out).mono ?_); rintro e w4 ⟨u4, R, rfl, hb4, hr4, hs4⟩; have HR4 := Lib.hid hr4.rd; have HS4 := Lib.hid hs4; have HB4 := Lib.hid hb4; clear hb4 hr4 hs4))
  have hbw2 : Below w.heap.size w w2 := by
    have h0 := HB2.out
    refine Below.trans ?_ (h0.mono ?_)
    · (repeat (first | (with_reducible exact Below.refl _ _) | (with_reducible assumption) | (with_reducible refine Below.grow ?_ ?_ _ _) | (with_reducible refine Below.drewN' ?_ _) | (with_reducible refine Below.drew ?_) | (with_reducible refine Below.alloc ?_ ?_ _) | (with_reducible refine Below.setCell ?_ ?_ _) | omega | (focus (simp; done)) | (focus (simp; omega))))
    · first | (simp; done) | (simp; omega)
  have hbw4 : Below w.heap.size w w4 := hbw2.trans (HB4.out.mono hbw2.size)
  have HBW4 := Lib.hid hbw4
  have hsp := spread_sane (v := 2 + (a : Int)) (by rw [HWN.out]; omega) HS4.out (fun x hx => (HSX.out x hx).1)
  have HAR : Hid (areB R = true) := hsp.1
  have HRN : Hid (∀ r ∈ R, r.n = a + 2) := fun r hr => (hsp.2 r hr).trans HWN.out
  have HR1 : Hid (∀ r ∈ R, 1 ≤ r.n) := fun r hr => by have := HRN.out r hr; omega
  obtain ⟨nr, hnr⟩ : ∃ nr, R.length = nr := ⟨_, rfl⟩
  have hnr8 : nr ≤ 8040 := by
    rw [← hnr, sh_len HS4.out]
    exact Nat.le_trans (spread_len (2 + (a : Int)) L) HTM8.out
  have HRL := Lib.hid hnr
  have HRL5 : Hid (R.length ≤ 100000) := by show _ ≤ _; omega
  have HSUM : Hid (sumN R R.length ≤ 9000000) := by
    show _ ≤ _
    have h1 := sum_bound HRN.out R.length
    have h2 : R.length * (a + 2) ≤ 8040 * 257 := Nat.mul_le_mul (by omega) (by omega)
    omega
  have HJX : Hid (joinR R = L.map Ln.ls) := joinR_spread (v := 2 + (a : Int)) (by rw [HWN.out]; omega) HS4.out HR1.out HSX.out
  have HNE : Hid (n ≤ nr) := by
    show _ ≤ _
    rw [← hnr, sh_len HS4.out, ← HN.out]
    have := spread_more (v := 2 + (a : Int)) (M := L.map Ln.ls) (fun x hx => (HSX.out x hx).1)
    rwa [List.length_map] at this
  obtain ⟨A4, c4, hu4, hc4⟩ := HR4.out.1.len
  rw [hnr] at hu4 hc4
  subst hu4
  clear hsp hbw2
  clear hn hnr hbw4
  go_wp2_with fail
  go_loopw [11] (fun i wz => ∃ k : Nat, k ≤ nr ∧ i = .int .i64 k ∧ Below w4.heap.size w4 wz) (fun i _ => nr - (intOf i).toNat)
  case atStart => exact ⟨0, Nat.zero_le _, rfl, Below.refl _ _⟩
  case round =>
    obtain ⟨k, hk, rfl, hbz⟩ := hrel
    have hbzs := hbz.size
    by_cases hlt : k < nr
    · have hltI : (k : Int) < nr := by omega
      have hkl : k < R.length := by rw [HRL.out]; exact hlt
      obtain ⟨b4, o4, rfl, hbl, hat, hok⟩ := (HR4.out.below hbz).at_ hkl
      have HSR : Hid (saneRw R[k] = true) := areB_iff.1 HAR.out _ (List.getElem_mem hkl)
      have HN2 := HRN.out _ (List.getElem_mem hkl)
      generalize R[k] = r at *
      have HOK := Lib.hid hok
      obtain ⟨p0, p1, p2, p3⟩ := hat
      have hbne : ((r.n : Int) != 2 + (a : Int)) = false := by
        have : (r.n : Int) = 2 + (a : Int) := by omega
        rw [this]
        simp
      clear hok HN2
      go_wp2_with (go_at_call 21; (with_reducible refine (saner_c r _ (HOK.out.below (by (repeat (first | (with_reducible exact Below.refl _ _) | (with_reducible assumption) | (with_reducible refine Below.grow ?_ ?_ _ _) | (with_reducible refine Below.drewN' ?_ _) | (with_reducible refine Below.drew ?_) | (with_reducible refine Below.alloc ?_ ?_ _) | (with_reducible refine Below.setCell ?_ ?_ _) | omega | (focus (simp; done)) | (focus (simp; omega))))))).mono ?_); rw [HSR.out]; rintro e w5 ⟨rfl, X5, d5, rfl⟩)
      go_roundw
      case rel => exact ⟨k + 1, by omega, by go_num, by (repeat (first | (with_reducible exact Below.refl _ _) | (with_reducible assumption) | (with_reducible refine Below.grow ?_ ?_ _ _) | (with_reducible refine Below.drewN' ?_ _) | (with_reducible refine Below.drew ?_) | (with_reducible refine Below.alloc ?_ ?_ _) | (with_reducible refine Below.setCell ?_ ?_ _) | omega | (focus (simp; done)) | (focus (simp; omega))))⟩
      case measure => simp [intOf]; omega
    · obtain rfl : nr = k := by omega
      obtain ⟨wo, rfl⟩ : ∃ wo, wo = wr := ⟨_, rfl⟩
      have HBZ := Lib.hid hbz
      have HR4Z : Hid (RdR wo (.slice A4 nr c4) R) := HR4.out.below hbz
      have HBWZ : Hid (Below w.heap.size w wo) := HBW4.out.trans (hbz.mono HBW4.out.size)
      have hwsz := HBWZ.out.size
      clear hbz
      go_upto_region 13 with (go_at_call 22; (with_reducible refine (join_c (.slice A4 nr c4) R _ HR4Z.out HRL5.out HAR.out HSUM.out).mono ?_); rintro e w6 ⟨u6, M, rfl, hb6, hm6, hms, -, hm4⟩; rw [HJX.out] at hms; have HM6 := Lib.hid hm6; have HMS := Lib.hid hms; have HM4 := Lib.hid hm4; have HB6 := Lib.hid hb6; clear hb6 hm6 hms hm4)
      have HBW6 : Hid (Below w.heap.size w w6) := HBWZ.out.trans (HB6.out.mono hwsz)
      have HR46 : Hid (RdR w6 (.slice A4 nr c4) R) := HR4Z.out.below HB6.out
      by_cases h0 : nr = 0
      · have hR0 : R = [] := List.eq_nil_of_length_eq_zero (by rw [HRL.out]; exact h0)
        subst hR0
        have hn0 : n = 0 := by have := HNE.out; omega
        have hkey := fun wz (hz : RdR wz (.slice A4 0 c4) []) => reflow_nil (.slice A4 0 c4) (2 + (b : Int)) wz hz
        subst h0 hn0
        go_wp2_with (go_at_call 23; (refine (hkey _ HR46.out).mono ?_); rintro e w7 ⟨rfl, X7, d7, rfl⟩)
        go_ret
        have h6 := HBW6.out
        have h6s := h6.size
        exact ⟨rfl, (Below.toGrow (by repeat (first | (with_reducible exact Below.refl _ _) | (with_reducible assumption) | (with_reducible refine Below.grow ?_ ?_ _ _) | (with_reducible refine Below.drewN' ?_ _) | (with_reducible refine Below.drew ?_) | (with_reducible refine Below.alloc ?_ ?_ _) | (with_reducible refine Below.setCell ?_ ?_ _) | omega | (focus (simp; done)) | (focus (simp; omega)))))⟩
      · obtain ⟨r0, hr0⟩ : ∃ r0, R[0]? = some r0 := ⟨_, List.getElem?_eq_getElem (by rw [HRL.out]; omega)⟩
        have hkey := fun wz (hz : RdR wz (.slice A4 nr c4) R) => reflow_yes (.slice A4 nr c4) R (2 + (b : Int)) 0 0 r0 wz hz HRL5.out HAR.out HSUM.out hr0 (HR1.out r0 (List.mem_of_getElem? hr0))
        simp only [show ((0 : Nat) : Int) = 0 from rfl] at hkey
        have HKEY := Lib.hid hkey
        have hnz : ¬ (nr : Int) = 0 := by omega
        have hnzb : ((nr : Int) == 0) = false := by simpa using h0
        have hnzb2 : decide ((nr : Int) = 0) = false := by simpa using h0
        have HMR : Hid (M.length ≤ 100000) := Nat.le_trans HM4.out HRL5.out
        clear hkey hr0
        go_upto_region 14 with (go_at_call 23; (refine (HKEY.out _ HR46.out).mono ?_); rintro e w7 ⟨u7, R7, rfl, hb7, hr7, hs7⟩; rw [HJX.out] at hs7; have HR7 := Lib.hid hr7; have HS7 := Lib.hid hs7; have HB7 := Lib.hid hb7; clear hb7 hr7 hs7)
        have HBW7 : Hid (Below w.heap.size w w7) := HBW6.out.trans (HB7.out.mono HBW6.out.size)
        have HM67 : Hid (RdL w7 u6 M) := HM6.out.below HB7.out
        go_upto_region 16 with fail
        go_wp2_with (go_at_call 25; (with_reducible refine (theirs_c u6 M _ HM67.out HMR.out).mono ?_); rintro e w8 ⟨u8, rfl, hb8, hu8⟩; have HU8 := Lib.hid hu8; have HB8 := Lib.hid hb8; have HBW8 : Hid (Below w.heap.size w w8) := (below_more HBW7.out hb8); clear hb8 hu8)
        have hbw8s := HBW8.out.size
        go_wp2_with (go_at_call 24; (with_reducible refine (same11_yes u8 (.slice A n cap) M L _ HU8.out (HX.out.below HBW8.out) HMR.out HMS.out).mono ?_); rintro e w9 ⟨rfl, X9, d9, rfl⟩)
        have HBW9 : Hid (Below w.heap.size w (w8.grow X9 d9)) := below_more HBW8.out (by (repeat (first | (with_reducible exact Below.refl _ _) | (with_reducible assumption) | (with_reducible refine Below.grow ?_ ?_ _ _) | (with_reducible refine Below.drewN' ?_ _) | (with_reducible refine Below.drew ?_) | (with_reducible refine Below.alloc ?_ ?_ _) | (with_reducible refine Below.setCell ?_ ?_ _) | omega | (focus (simp; done)) | (focus (simp; omega)))))
        go_wp2_with (go_at_call 10; (with_reducible refine (ours_c (.slice A n cap) L _ (HX.out.below HBW9.out) HL5.out).mono ?_); rintro e w10 ⟨u10, rfl, hb10, hu10⟩; have HU10 := Lib.hid hu10; have HBW10 : Hid (Below w.heap.size w w10) := (below_more HBW9.out hb10); have HB10 := Lib.hid hb10; clear hb10 hu10)
        go_wp2_with (go_at_call 14; (with_reducible refine (spread_c u10 L (2 + (b : Int)) _ HU10.out HL5.out HTM.out).mono ?_); rintro e w11 ⟨u11, R11, rfl, hb11, hr11, hs11⟩; have HR11 := Lib.hid hr11.rd; have HS11 := Lib.hid hs11; have HB11 := Lib.hid hb11; have HBW11 : Hid (Below w.heap.size w w11) := (below_more HBW10.out hb11); clear hb11 hr11 hs11)
        have HR7Z : Hid (RdR w11 u7 R7) := HR7.out.below ((HB8.out.trans ((by (repeat (first | (with_reducible exact Below.refl _ _) | (with_reducible assumption) | (with_reducible refine Below.grow ?_ ?_ _ _) | (with_reducible refine Below.drewN' ?_ _) | (with_reducible refine Below.drew ?_) | (with_reducible refine Below.alloc ?_ ?_ _) | (with_reducible refine Below.setCell ?_ ?_ _) | omega | (focus (simp; done)) | (focus (simp; omega)))) : Below w8.heap.size w8 (w8.grow X9 d9)).mono HB8.out.size |>.trans (HB10.out.mono (by simp; have := HB8.out.size; omega)) |>.trans (HB11.out.mono (by have := HB10.out.size; have := HB8.out.size; simp at *; omega)))))
        have HLN7 : Hid (R7.length ≤ 10000000) := by
          show _ ≤ _
          rw [sh_len HS7.out]
          exact Nat.le_trans (spread_len (2 + (b : Int)) L) HTM.out
        have HLN11 : Hid (R11.length ≤ 10000000) := by
          show _ ≤ _
          rw [sh_len HS11.out]
          exact Nat.le_trans (spread_len (2 + (b : Int)) L) HTM.out
        have HSM : Hid (sameL R7 R11 = true) := sh_sameL (HS7.out.trans HS11.out.symm)
        go_wp2_with (go_at_call 13; (with_reducible refine (sameL_c u7 u11 R7 R11 _ HR7Z.out HR11.out (Nat.le_trans HLN7.out (by decide)) (Nat.le_trans HLN11.out (by decide))).mono ?_); rw [HSM.out]; rintro e w12 ⟨rfl, X12, d12, rfl⟩)
        go_ret
        have h11 := HBW11.out
        have h11s := h11.size
        exact ⟨rfl, (Below.toGrow (by repeat (first | (with_reducible exact Below.refl _ _) | (with_reducible assumption) | (with_reducible refine Below.grow ?_ ?_ _ _) | (with_reducible refine Below.drewN' ?_ _) | (with_reducible refine Below.drew ?_) | (with_reducible refine Below.alloc ?_ ?_ _) | (with_reducible refine Below.setCell ?_ ?_ _) | omega | (focus (simp; done)) | (focus (simp; omega)))))⟩
theorem back_law (x : Value) (w1 w2 : Int) (L : List Ln) (w : World) (hx : RdL0 w x L) (hl : L.length ≤ maxLen) : Calls Try.prog 4 #[x, .int .i64 w1, .int .i64 w2] w fun e w' => e = .returned (.bool true) ∧ Grew w w' := by
  cases h : few11B L
  · exact back_few x w1 w2 L w hx hl h
  · cases h2 : cleanB L
    · exact back_clean x w1 w2 L w hx hl h h2
    · exact back_yes x w1 w2 L w hx hl h h2
end Go.Proofs.Ytlgnchhhadnjbaa.Row
