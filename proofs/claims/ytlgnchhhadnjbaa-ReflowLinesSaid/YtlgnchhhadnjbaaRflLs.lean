/- Walk of lapwinglaw11.ReflowLines. -/
import Derived.Test.YtlgnchhhadnjbaaRflWb
import Derived.Test.YtlgnchhhadnjbaaRflH
import Derived.Test.YtlgnchhhadnjbaaLinOpen
namespace Go.Proofs.Ytlgnchhhadnjbaa.Row
open Go.RowKit
theorem where_both (L : List Ln) (v pl pa : Int) (hl : L.length ≤ 100000) (ht : tot L ≤ 10000000) (hpa : pa ≤ 9223372036854775807) : ∃ (a b : Int) (ok : Bool),
    (∀ x w, RdL w x L → Calls Try.prog 11 #[x, .int .i64 v, .agg #[.int .i64 pl, .int .i64 pa]] w fun e w' => e = .returned (.tuple #[.int .i64 a, .int .i64 b, .bool ok]) ∧ Grew w w') ∧
    ∀ x w, RdL w x L → Calls Try.prog 12 #[x, .int .i64 v, .agg #[.int .i64 pl, .int .i64 pa]] w fun e w' => e = .returned (.tuple #[.int .i64 a, .int .i64 b, .bool ok]) ∧ Grew w w' := by
  by_cases h : 0 ≤ pl ∧ pl < L.length ∧ 0 ≤ pa ∧ ∀ l ∈ L, sanL l.ls = true
  · obtain ⟨h1, h2, h3, h4⟩ := h
    obtain ⟨pn, rfl⟩ : ∃ pn : Nat, pl = pn := ⟨pl.toNat, by omega⟩
    obtain ⟨an, rfl⟩ : ∃ an : Nat, pa = an := ⟨pa.toNat, by omega⟩
    have hp : L[pn]? = some L[pn] := List.getElem?_eq_getElem (by omega)
    exact ⟨_, _, _, fun x w hx => where_yes x L v pn an _ w hx hl ht h4 hp hpa, fun x w hx => where11_yes x L v pn an _ w hx hl ht h4 hp hpa⟩
  · exact ⟨_, _, _, fun x w hx => where_no x L v pl pa w hx hl h, fun x w hx => where11_no x L v pl pa w hx hl h⟩
set_option maxRecDepth 100000 in
set_option maxHeartbeats 4000000 in
theorem lines_few (x : Value) (v pl pa : Int) (L : List Ln) (w : World) (hx : RdL0 w x L) (hl : L.length ≤ maxLen) (h : few11B L = false) : Calls Try.prog 3 #[x, .int .i64 v, .agg #[.int .i64 pl, .int .i64 pa]] w fun e w' => e = .returned (.bool true) ∧ Grew w w' := by
  obtain ⟨A, cap, rfl, hc⟩ := hx.1.len
  have HLM := Lib.hid hl
  obtain ⟨n, hn⟩ : ∃ n, L.length = n := ⟨_, rfl⟩
  have hx0 := hx
  clear hx
  rw [hn] at hx0 ⊢
  have HX0 : Hid (RdL0 w (.slice A n cap) L) := hx0
  have HN := Lib.hid hn
  have HFB := Lib.hid h
  clear h hx0 hl hn
  go_enter Try.func3, Try.ntmps3
  go_wp2_with (first | (go_at_call 8; (with_reducible refine (awake11_c _).mono ?_); rintro e w1 ⟨rfl, XA, dA, rfl⟩) | (go_at_call 9; (with_reducible refine (few11_c (.slice A n cap) L _ (HX0.out.below (by (repeat (first | (with_reducible exact Below.refl _ _) | (with_reducible assumption) | (with_reducible refine Below.grow ?_ ?_ _ _) | (with_reducible refine Below.drewN' ?_ _) | (with_reducible refine Below.drew ?_) | (with_reducible refine Below.alloc ?_ ?_ _) | (with_reducible refine Below.setCell ?_ ?_ _) | omega | (focus (simp; done)) | (focus (simp; omega)))))) HLM.out).mono ?_); rw [HFB.out]; rintro e w1 ⟨rfl, rfl⟩))
  go_ret
  exact ⟨rfl, (Below.toGrow (by repeat (first | (with_reducible exact Below.refl _ _) | (with_reducible assumption) | (with_reducible refine Below.grow ?_ ?_ _ _) | (with_reducible refine Below.drewN' ?_ _) | (with_reducible refine Below.drew ?_) | (with_reducible refine Below.alloc ?_ ?_ _) | (with_reducible refine Below.setCell ?_ ?_ _) | omega | (focus (simp; done)) | (focus (simp; omega)))))⟩
set_option maxRecDepth 100000 in
set_option maxHeartbeats 4000000 in
theorem lines_wide (x : Value) (v pl pa : Int) (L : List Ln) (w : World) (hx : RdL0 w x L) (hl : L.length ≤ maxLen) (h : few11B L = true) (hv : 300 < v) : Calls Try.prog 3 #[x, .int .i64 v, .agg #[.int .i64 pl, .int .i64 pa]] w fun e w' => e = .returned (.bool true) ∧ Grew w w' := by
  obtain ⟨A, cap, rfl, hc⟩ := hx.1.len
  have HLM := Lib.hid hl
  obtain ⟨n, hn⟩ : ∃ n, L.length = n := ⟨_, rfl⟩
  have hx0 := hx
  clear hx
  rw [hn] at hx0 ⊢
  have HX0 : Hid (RdL0 w (.slice A n cap) L) := hx0
  have HN := Lib.hid hn
  have HFB := Lib.hid h
  have hvb : decide (300 < v) = true := by simpa using hv
  clear h hx0 hl hn
  go_enter Try.func3, Try.ntmps3
  go_wp2_with (first | (go_at_call 8; (with_reducible refine (awake11_c _).mono ?_); rintro e w1 ⟨rfl, XA, dA, rfl⟩) | (go_at_call 9; (with_reducible refine (few11_c (.slice A n cap) L _ (HX0.out.below (by (repeat (first | (with_reducible exact Below.refl _ _) | (with_reducible assumption) | (with_reducible refine Below.grow ?_ ?_ _ _) | (with_reducible refine Below.drewN' ?_ _) | (with_reducible refine Below.drew ?_) | (with_reducible refine Below.alloc ?_ ?_ _) | (with_reducible refine Below.setCell ?_ ?_ _) | omega | (focus (simp; done)) | (focus (simp; omega)))))) HLM.out).mono ?_); rw [HFB.out]; rintro e w1 ⟨rfl, rfl⟩))
  go_ret
  exact ⟨rfl, (Below.toGrow (by repeat (first | (with_reducible exact Below.refl _ _) | (with_reducible assumption) | (with_reducible refine Below.grow ?_ ?_ _ _) | (with_reducible refine Below.drewN' ?_ _) | (with_reducible refine Below.drew ?_) | (with_reducible refine Below.alloc ?_ ?_ _) | (with_reducible refine Below.setCell ?_ ?_ _) | omega | (focus (simp; done)) | (focus (simp; omega)))))⟩
set_option maxRecDepth 100000 in
set_option maxHeartbeats 4000000 in
theorem lines_yes (x : Value) (v pl pa : Int) (L : List Ln) (w : World) (hx : RdL0 w x L) (hl : L.length ≤ maxLen) (h : few11B L = true) (hv : ¬ 300 < v) (hpa : pa ≤ 9223372036854775807) : Calls Try.prog 3 #[x, .int .i64 v, .agg #[.int .i64 pl, .int .i64 pa]] w fun e w' => e = .returned (.bool true) ∧ Grew w w' := by
  obtain ⟨A, cap, rfl, hc⟩ := hx.1.len
  have HLM := Lib.hid hl
  obtain ⟨n, hn⟩ : ∃ n, L.length = n := ⟨_, rfl⟩
  have hx0 := hx
  clear hx
  rw [hn] at hx0 ⊢
  have HX0 : Hid (RdL0 w (.slice A n cap) L) := hx0
  have HN := Lib.hid hn
  have HFB := Lib.hid h
  have hfew := few11_iff.1 h
  have HX : Hid (RdL w (.slice A n cap) L) := hx0.few h
  have HL5 : Hid (L.length ≤ 100000) := by show _ ≤ _; omega
  have htot := few_tot hfew.2
  have HTM : Hid (tot L ≤ 10000000) := by show _ ≤ _; have := hfew.1; omega
  have hvb : decide (300 < v) = false := by simpa using hv
  obtain ⟨a, b, ok, hwh1, hwh2⟩ := where_both L v pl pa HL5.out HTM.out hpa
  have HW1 := Lib.hid hwh1
  have HW2 := Lib.hid hwh2
  have hea : (a != a) = false := by simp
  have heb : (b != b) = false := by simp
  have hek : (ok != ok) = false := by simp
  have hn40 : n ≤ 40 := by rw [← hn]; exact hfew.1
  clear h hx0 hl hn hfew htot hwh1 hwh2 hpa hv
  go_enter Try.func3, Try.ntmps3
  go_upto_region 5 with (first | (go_at_call 8; (with_reducible refine (awake11_c _).mono ?_); rintro e w1 ⟨rfl, XA, dA, rfl⟩) | (go_at_call 9; (with_reducible refine (few11_c (.slice A n cap) L _ (HX0.out.below (by (repeat (first | (with_reducible exact Below.refl _ _) | (with_reducible assumption) | (with_reducible refine Below.grow ?_ ?_ _ _) | (with_reducible refine Below.drewN' ?_ _) | (with_reducible refine Below.drew ?_) | (with_reducible refine Below.alloc ?_ ?_ _) | (with_reducible refine Below.setCell ?_ ?_ _) | omega | (focus (simp; done)) | (focus (simp; omega)))))) HLM.out).mono ?_); rw [HFB.out]; rintro e w1 ⟨rfl, rfl⟩) | (go_at_call 10; (with_reducible refine (ours_c (.slice A n cap) L _ (HX.out.below (by (repeat (first | (with_reducible exact Below.refl _ _) | (with_reducible assumption) | (with_reducible refine Below.grow ?_ ?_ _ _) | (with_reducible refine Below.drewN' ?_ _) | (with_reducible refine Below.drew ?_) | (with_reducible refine Below.alloc ?_ ?_ _) | (with_reducible refine Below.setCell ?_ ?_ _) | omega | (focus (simp; done)) | (focus (simp; omega)))))) HL5.out).mono ?_); rintro e w2 ⟨u2, rfl, hb2, hu2⟩; have HU2 := Lib.hid hu2; have HB2 := Lib.hid hb2; clear hb2 hu2))
  have hbw2 : Below w.heap.size w w2 := by
    have h0 := HB2.out
    refine Below.trans ?_ (h0.mono ?_)
    · (repeat (first | (with_reducible exact Below.refl _ _) | (with_reducible assumption) | (with_reducible refine Below.grow ?_ ?_ _ _) | (with_reducible refine Below.drewN' ?_ _) | (with_reducible refine Below.drew ?_) | (with_reducible refine Below.alloc ?_ ?_ _) | (with_reducible refine Below.setCell ?_ ?_ _) | omega | (focus (simp; done)) | (focus (simp; omega))))
    · first | (simp; done) | (simp; omega)
  have HB5 : Hid (Blk w2 w.heap.size 24 #[.int .i64 pl, .int .i64 pa]) := by
    have h0 := HB2.out
    refine Blk.below ?_ h0 (by simp; omega)
    repeat (first | (with_reducible exact Blk.new _ _ _) | (with_reducible refine Blk.grow ?_ _ _) | (with_reducible refine Blk.alloc ?_ _))
  have HBW2 := Lib.hid hbw2
  have hbw2s := hbw2.size
  obtain ⟨q0, q1, qf, ql⟩ := HB5.out.facts2
  go_upto_region 7 with (first | (go_at_call 11; (refine (HW1.out u2 _ (HU2.out.below (by (repeat (first | (with_reducible exact Below.refl _ _) | (with_reducible assumption) | (with_reducible refine Below.grow ?_ ?_ _ _) | (with_reducible refine Below.drewN' ?_ _) | (with_reducible refine Below.drew ?_) | (with_reducible refine Below.alloc ?_ ?_ _) | (with_reducible refine Below.setCell ?_ ?_ _) | omega | (focus (simp; done)) | (focus (simp; omega))))))).mono ?_); rintro e w3 ⟨rfl, X3, d3, rfl⟩) | (go_at_call 12; (refine (HW2.out (.slice A n cap) _ (HX.out.below (below_more HBW2.out (by (repeat (first | (with_reducible exact Below.refl _ _) | (with_reducible assumption) | (with_reducible refine Below.grow ?_ ?_ _ _) | (with_reducible refine Below.drewN' ?_ _) | (with_reducible refine Below.drew ?_) | (with_reducible refine Below.alloc ?_ ?_ _) | (with_reducible refine Below.setCell ?_ ?_ _) | omega | (focus (simp; done)) | (focus (simp; omega)))))))).mono ?_); rintro e w4 ⟨rfl, X4, d4, rfl⟩))
  generalize hw5 : w2.grow _ _ = w5
  have hb25 : Below w2.heap.size w2 w5 := by rw [← hw5]; exact (Below.refl _ _).grow (Nat.le_refl _) _ _
  have HB25 := Lib.hid hb25
  have HBW5 : Hid (Below w.heap.size w w5) := below_more HBW2.out hb25
  clear hw5 q0 q1 qf ql hb25
  have hbw5s := HBW5.out.size
  obtain ⟨A2, c2, hu2, hc2⟩ := HU2.out.1.len
  rw [HN.out] at hu2 hc2
  subst hu2
  have HU5 : Hid (RdL w5 (.slice A2 n c2) L) := HU2.out.below HB25.out
  go_upto_region 9 with (first
    | (go_at_call 14; (with_reducible refine (spread_c (.slice A2 n c2) L v _ HU5.out HL5.out HTM.out).mono ?_); rintro e w6 ⟨u6, R6, rfl, hb6, hr6, hs6⟩; have HR6 := Lib.hid hr6.rd; have HS6 := Lib.hid hs6; have HBW6 : Hid (Below w.heap.size w w6) := (below_more HBW5.out hb6); have HB6 := Lib.hid hb6; have HL6 : Hid (R6.length ≤ maxLen) := (by show _ ≤ _; rw [sh_len hs6]; exact Nat.le_trans (Nat.le_trans (spread_len v L) HTM.out) (by decide)); clear hb6 hr6 hs6)
    | (go_at_call 15; (with_reducible refine (spread11_c (.slice A n cap) L v _ (HX.out.below HBW6.out) HL5.out HTM.out).mono ?_); rintro e w7 ⟨u7, R7, rfl, hb7, hr7, hs7⟩; have HR7 := Lib.hid hr7.rd; have HS7 := Lib.hid hs7; have HB7 := Lib.hid hb7; have HL7 : Hid (R7.length ≤ maxLen) := (by show _ ≤ _; rw [sh_len hs7]; exact Nat.le_trans (Nat.le_trans (spread_len v L) HTM.out) (by decide)); have HSM : Hid (sameL R6 R7 = true) := sh_sameL (HS6.out.trans hs7.symm); clear hb7 hr7 hs7)
    | (go_at_call 13; (with_reducible refine (sameL_c u6 u7 R6 R7 _ (HR6.out.below HB7.out) HR7.out HL6.out HL7.out).mono ?_); rw [HSM.out]; rintro e w8 ⟨rfl, X8, d8, rfl⟩))
  generalize hw8 : w7.grow _ _ = w8
  have HBW7 : Hid (Below w.heap.size w w7) := below_more HBW6.out HB7.out
  have hb78 : Below w7.heap.size w7 w8 := by rw [← hw8]; exact (Below.refl _ _).grow (Nat.le_refl _) _ _
  have HBW8 : Hid (Below w.heap.size w w8) := below_more HBW7.out hb78
  have HU8 : Hid (RdL w8 (.slice A2 n c2) L) := HU5.out.below (below_more (below_more HB6.out HB7.out) hb78)
  clear hw8 hb78 hea heb hek
  go_wp2_with fail
  go_loopw [15] (fun i wz => ∃ k : Nat, k ≤ n ∧ i = .int .i64 k ∧ Below w8.heap.size w8 wz) (fun i _ => n - (intOf i).toNat)
  case atStart => exact ⟨0, Nat.zero_le _, rfl, Below.refl _ _⟩
  case round =>
    obtain ⟨k, hk, rfl, hbz⟩ := hrel
    have hbzs := hbz.size
    by_cases hlt : k < n
    · have hltI : (k : Int) < n := by omega
      have hkl : k < L.length := by rw [HN.out]; exact hlt
      obtain ⟨b2, o2, rfl, hb2l, -⟩ := atL HU8.out.1 hkl
      obtain ⟨b1, o1, rfl, hb1l, -⟩ := atL (HX.out.1.below HBW8.out) hkl
      have HP : Hid (∀ wz, Below w8.heap.size w8 wz → (wz.cell? ⟨b2, o2 + k * 3, none⟩ = some (.slice L[k].A L[k].cs.length L[k].cap) ∧ wz.cell? ⟨b2, o2 + k * 3 + 1, none⟩ = some (.int .i64 L[k].dir) ∧ wz.cell? ⟨b2, o2 + k * 3 + 2, none⟩ = some (.bool L[k].ex)) ∧ wz.cell? ⟨b1, o1 + k * 3, none⟩ = some (.slice L[k].A L[k].cs.length L[k].cap) ∧ wz.cell? ⟨b1, o1 + k * 3 + 1, none⟩ = some (.int .i64 L[k].dir) ∧ wz.cell? ⟨b1, o1 + k * 3 + 2, none⟩ = some (.bool L[k].ex)) := fun wz hb => by
        obtain ⟨b9, o9, e9, -, h9⟩ := atL (HU8.out.1.below hb) hkl
        injection e9 with e9
        injection e9 with e9 e8
        subst e9 e8
        obtain ⟨b7, o7, e7, -, h7⟩ := atL (HX.out.1.below (below_more HBW8.out hb)) hkl
        injection e7 with e7
        injection e7 with e7 e6
        subst e7 e6
        exact ⟨h9, h7⟩
      have HOK : Hid (L[k].ok w8) := HU8.out.2 _ (List.getElem_mem hkl)
      generalize L[k] = le at *
      obtain ⟨q, hq⟩ : ∃ q, le.cs.length = q := ⟨_, rfl⟩
      rw [hq] at HP
      have HQ : Hid (q = le.cs.length) := hq.symm
      have HQ7 : Hid (q ≤ 10000000) := by show _ ≤ _; rw [← hq]; exact HOK.out.len
      have HRD : Hid (∀ wz, Below w8.heap.size w8 wz → RdX encC wz (.slice le.A q le.cap) le.cs) := fun wz hb => by
        have h := HOK.out.rdB hb
        rw [hq] at h
        exact h
      have HLR : Hid (∀ R : List Rw, R.map Rw.sh = splitG ⟨le.cs, le.dir, le.ex⟩ v → R.length ≤ maxLen) := fun R h => by
        have h1 := split_len ⟨le.cs, le.dir, le.ex⟩ v
        rw [← sh_len h] at h1
        have h2 := HQ7.out
        rw [HQ.out] at h2
        simp only at h1
        unfold maxLen
        omega
      obtain ⟨sb, hsb⟩ : ∃ sb, sanL ⟨le.cs, le.dir, le.ex⟩ = sb := ⟨_, rfl⟩
      have HSB := Lib.hid hsb
      have hsbb : (sb != sb) = false := by simp
      obtain ⟨⟨p0, p1, p2⟩, p3, p4, p5⟩ := HP.out _ hbz
      have hl1 : b1 < wr.heap.size := by omega
      have hl2 : b2 < wr.heap.size := by omega
      clear hq hsb
      go_upto_region 12 with fail
      refine hr_start (S := (fun w' => (w'.cell? ⟨b2, o2 + k * 3, none⟩ = some (.slice le.A q le.cap) ∧ w'.cell? ⟨b2, o2 + k * 3 + 1, none⟩ = some (.int .i64 le.dir) ∧ w'.cell? ⟨b2, o2 + k * 3 + 2, none⟩ = some (.bool le.ex)) ∧ w'.cell? ⟨b1, o1 + k * 3, none⟩ = some (.slice le.A q le.cap) ∧ w'.cell? ⟨b1, o1 + k * 3 + 1, none⟩ = some (.int .i64 le.dir) ∧ w'.cell? ⟨b1, o1 + k * 3 + 2, none⟩ = some (.bool le.ex))) (by kernel_rfl) rfl ?_ (fun hHeld => ?_)
      · ((try dsimp only); go_simp)
      refine hr_take (i := 0) rfl rfl (by kernel_rfl) (by kernel_rfl) (by kernel_rfl) (by kernel_rfl) (fun _ _ _ h => h) (v := ?_) ?_ (by assumption) ?_
      rotate_left
      focus (intro wS hSw; (try dsimp only at hSw); go_simp; (try with_reducible rfl))
      simp only [List.set_cons_zero, List.set_cons_succ]
      refine hr_take (i := 1) rfl rfl (by kernel_rfl) (by kernel_rfl) (by kernel_rfl) (by kernel_rfl) (fun _ _ _ h => h) (v := ?_) ?_ (by assumption) ?_
      rotate_left
      focus (intro wS hSw; (try dsimp only at hSw); go_simp; (try with_reducible rfl))
      simp only [List.set_cons_zero, List.set_cons_succ]
      refine hr_take (i := 2) rfl rfl (by kernel_rfl) (by kernel_rfl) (by kernel_rfl) (by kernel_rfl) (fun _ _ _ h => h) (v := ?_) ?_ (by assumption) ?_
      rotate_left
      focus (intro wS hSw; (try dsimp only at hSw); go_simp; (try with_reducible rfl))
      simp only [List.set_cons_zero, List.set_cons_succ]
      refine hr_take (i := 3) rfl rfl (by kernel_rfl) (by kernel_rfl) (by kernel_rfl) (by kernel_rfl) (fun _ _ _ h => h) (v := ?_) ?_ (by assumption) ?_
      rotate_left
      focus (intro wS hSw; (try dsimp only at hSw); go_simp; (try with_reducible rfl))
      simp only [List.set_cons_zero, List.set_cons_succ]
      refine hr_take (i := 5) rfl rfl (by kernel_rfl) (by kernel_rfl) (by kernel_rfl) (by kernel_rfl) (fun _ _ _ h => h) (v := ?_) ?_ (by assumption) ?_
      rotate_left
      focus (intro wS hSw; (try dsimp only at hSw); go_simp; (try with_reducible rfl))
      simp only [List.set_cons_zero, List.set_cons_succ]
      refine hr_take (i := 6) rfl rfl (by kernel_rfl) (by kernel_rfl) (by kernel_rfl) (by kernel_rfl) (fun _ _ _ h => h) (v := ?_) ?_ (by assumption) ?_
      rotate_left
      focus (intro wS hSw; (try dsimp only at hSw); go_simp; (try with_reducible rfl))
      simp only [List.set_cons_zero, List.set_cons_succ]
      refine hr_take (i := 7) rfl rfl (by kernel_rfl) (by kernel_rfl) (by kernel_rfl) (by kernel_rfl) (fun _ _ _ h => h) (v := ?_) ?_ (by assumption) ?_
      rotate_left
      focus (intro wS hSw; (try dsimp only at hSw); go_simp; (try with_reducible rfl))
      simp only [List.set_cons_zero, List.set_cons_succ]
      refine hr_take (i := 8) rfl rfl (by kernel_rfl) (by kernel_rfl) (by kernel_rfl) (by kernel_rfl) (fun _ _ _ h => h) (v := ?_) ?_ (by assumption) ?_
      rotate_left
      focus (intro wS hSw; (try dsimp only at hSw); go_simp; (try with_reducible rfl))
      simp only [List.set_cons_zero, List.set_cons_succ]
      refine hr_op (i := 4) rfl rfl (by kernel_rfl) (by kernel_rfl) (fun K hK => ?_)
      go_simp
      ((with_reducible refine (saneL_c le.A q le.cap le.cs le.dir le.ex _ (HRD.out _ (by (repeat (first | (with_reducible exact Below.refl _ _) | (with_reducible assumption) | (with_reducible refine Below.grow ?_ ?_ _ _) | (with_reducible refine Below.drewN' ?_ _) | (with_reducible refine Below.drew ?_) | (with_reducible refine Below.alloc ?_ ?_ _) | (with_reducible refine Below.setCell ?_ ?_ _) | omega | (focus (simp; done)) | (focus (simp; omega)))))) HQ.out HQ7.out).mono ?_); rw [HSB.out]; rintro e w9 ⟨rfl, X9, d9, rfl⟩)
      (try go_wp2_with fail)
      refine hK.out _ _ ?_ (fun hHeld => ?_)
      · ((try dsimp only); go_simp)
      clear hK K
      simp only [List.set_cons_zero, List.set_cons_succ]
      refine hr_op (i := 9) rfl rfl (by kernel_rfl) (by kernel_rfl) (fun K hK => ?_)
      go_simp
      ((with_reducible refine (saneL11_c le.A q le.cap le.cs le.dir le.ex _ (HRD.out _ (by (repeat (first | (with_reducible exact Below.refl _ _) | (with_reducible assumption) | (with_reducible refine Below.grow ?_ ?_ _ _) | (with_reducible refine Below.drewN' ?_ _) | (with_reducible refine Below.drew ?_) | (with_reducible refine Below.alloc ?_ ?_ _) | (with_reducible refine Below.setCell ?_ ?_ _) | omega | (focus (simp; done)) | (focus (simp; omega)))))) HQ.out HQ7.out).mono ?_); rw [HSB.out]; rintro e w10 ⟨rfl, X10, d10, rfl⟩)
      (try go_wp2_with fail)
      refine hK.out _ _ ?_ (fun hHeld => ?_)
      · ((try dsimp only); go_simp)
      clear hK K
      simp only [List.set_cons_zero, List.set_cons_succ]
      refine hr_take (i := 10) rfl rfl (by kernel_rfl) (by kernel_rfl) (by kernel_rfl) (by kernel_rfl) (fun _ _ _ h => h) (v := ?_) ?_ (by assumption) ?_
      rotate_left
      focus (intro wS hSw; (try dsimp only at hSw); go_simp; (try with_reducible rfl))
      simp only [List.set_cons_zero, List.set_cons_succ]
      refine hr_take (i := 11) rfl rfl (by kernel_rfl) (by kernel_rfl) (by kernel_rfl) (by kernel_rfl) (fun _ _ _ h => h) (v := ?_) ?_ (by assumption) ?_
      rotate_left
      focus (intro wS hSw; (try dsimp only at hSw); go_simp; (try with_reducible rfl))
      simp only [List.set_cons_zero, List.set_cons_succ]
      refine hr_take (i := 12) rfl rfl (by kernel_rfl) (by kernel_rfl) (by kernel_rfl) (by kernel_rfl) (fun _ _ _ h => h) (v := ?_) ?_ (by assumption) ?_
      rotate_left
      focus (intro wS hSw; (try dsimp only at hSw); go_simp; (try with_reducible rfl))
      simp only [List.set_cons_zero, List.set_cons_succ]
      refine hr_take (i := 13) rfl rfl (by kernel_rfl) (by kernel_rfl) (by kernel_rfl) (by kernel_rfl) (fun _ _ _ h => h) (v := ?_) ?_ (by assumption) ?_
      rotate_left
      focus (intro wS hSw; (try dsimp only at hSw); go_simp; (try with_reducible rfl))
      simp only [List.set_cons_zero, List.set_cons_succ]
      refine hr_take (i := 14) rfl rfl (by kernel_rfl) (by kernel_rfl) (by kernel_rfl) (by kernel_rfl) (fun _ _ _ h => h) (v := ?_) ?_ (by assumption) ?_
      rotate_left
      focus (intro wS hSw; (try dsimp only at hSw); go_simp; (try with_reducible rfl))
      simp only [List.set_cons_zero, List.set_cons_succ]
      refine hr_take (i := 15) rfl rfl (by kernel_rfl) (by kernel_rfl) (by kernel_rfl) (by kernel_rfl) (fun _ _ _ h => h) (v := ?_) ?_ (by assumption) ?_
      rotate_left
      focus (intro wS hSw; (try dsimp only at hSw); go_simp; (try with_reducible rfl))
      simp only [List.set_cons_zero, List.set_cons_succ]
      refine hr_take (i := 16) rfl rfl (by kernel_rfl) (by kernel_rfl) (by kernel_rfl) (by kernel_rfl) (fun _ _ _ h => h) (v := ?_) ?_ (by assumption) ?_
      rotate_left
      focus (intro wS hSw; (try dsimp only at hSw); go_simp; (try with_reducible rfl))
      simp only [List.set_cons_zero, List.set_cons_succ]
      refine hr_take (i := 18) rfl rfl (by kernel_rfl) (by kernel_rfl) (by kernel_rfl) (by kernel_rfl) (fun _ _ _ h => h) (v := ?_) ?_ (by assumption) ?_
      rotate_left
      focus (intro wS hSw; (try dsimp only at hSw); go_simp; (try with_reducible rfl))
      simp only [List.set_cons_zero, List.set_cons_succ]
      refine hr_take (i := 19) rfl rfl (by kernel_rfl) (by kernel_rfl) (by kernel_rfl) (by kernel_rfl) (fun _ _ _ h => h) (v := ?_) ?_ (by assumption) ?_
      rotate_left
      focus (intro wS hSw; (try dsimp only at hSw); go_simp; (try with_reducible rfl))
      simp only [List.set_cons_zero, List.set_cons_succ]
      refine hr_take (i := 20) rfl rfl (by kernel_rfl) (by kernel_rfl) (by kernel_rfl) (by kernel_rfl) (fun _ _ _ h => h) (v := ?_) ?_ (by assumption) ?_
      rotate_left
      focus (intro wS hSw; (try dsimp only at hSw); go_simp; (try with_reducible rfl))
      simp only [List.set_cons_zero, List.set_cons_succ]
      refine hr_take (i := 21) rfl rfl (by kernel_rfl) (by kernel_rfl) (by kernel_rfl) (by kernel_rfl) (fun _ _ _ h => h) (v := ?_) ?_ (by assumption) ?_
      rotate_left
      focus (intro wS hSw; (try dsimp only at hSw); go_simp; (try with_reducible rfl))
      simp only [List.set_cons_zero, List.set_cons_succ]
      refine hr_take (i := 22) rfl rfl (by kernel_rfl) (by kernel_rfl) (by kernel_rfl) (by kernel_rfl) (fun _ _ _ h => h) (v := ?_) ?_ (by assumption) ?_
      rotate_left
      focus (intro wS hSw; (try dsimp only at hSw); go_simp; (try with_reducible rfl))
      simp only [List.set_cons_zero, List.set_cons_succ]
      refine hr_op (i := 17) rfl rfl (by kernel_rfl) (by kernel_rfl) (fun K hK => ?_)
      go_simp
      ((with_reducible refine (split_c le.A q le.cap le.cs le.dir le.ex v _ (HRD.out _ (by (repeat (first | (with_reducible exact Below.refl _ _) | (with_reducible assumption) | (with_reducible refine Below.grow ?_ ?_ _ _) | (with_reducible refine Below.drewN' ?_ _) | (with_reducible refine Below.drew ?_) | (with_reducible refine Below.alloc ?_ ?_ _) | (with_reducible refine Below.setCell ?_ ?_ _) | omega | (focus (simp; done)) | (focus (simp; omega)))))) HQ.out HQ7.out).mono ?_); rintro e w11 ⟨u11, R11, rfl, hb11, hr11, hs11⟩; have HBW11 : Hid (Below w8.heap.size w8 w11) := (below_more (by (repeat (first | (with_reducible exact Below.refl _ _) | (with_reducible assumption) | (with_reducible refine Below.grow ?_ ?_ _ _) | (with_reducible refine Below.drewN' ?_ _) | (with_reducible refine Below.drew ?_) | (with_reducible refine Below.alloc ?_ ?_ _) | (with_reducible refine Below.setCell ?_ ?_ _) | omega | (focus (simp; done)) | (focus (simp; omega))))) hb11); have HR11 := Lib.hid hr11.rd; have HS11 := Lib.hid hs11; have hs11b := HBW11.out.size; obtain ⟨⟨s0, s1, s2⟩, s3, s4, s5⟩ := HP.out w11 HBW11.out; clear hb11 hr11 hs11)
      (try go_wp2_with fail)
      refine hK.out _ _ ?_ (fun hHeld => ?_)
      · ((try dsimp only); go_simp)
      clear hK K
      simp only [List.set_cons_zero, List.set_cons_succ]
      refine hr_op (i := 23) rfl rfl (by kernel_rfl) (by kernel_rfl) (fun K hK => ?_)
      go_simp
      ((with_reducible refine (split11_c le.A q le.cap le.cs le.dir le.ex v _ (HRD.out _ HBW11.out) HQ.out HQ7.out).mono ?_); rintro e w12 ⟨u12, R12, rfl, hb12, hr12, hs12⟩; have HBW12 : Hid (Below w8.heap.size w8 w12) := (below_more HBW11.out hb12); have HB12 := Lib.hid hb12; have HR12 := Lib.hid hr12.rd; have HSS : Hid (sameL R11 R12 = true) := sh_sameL (HS11.out.trans hs12.symm); have HL11 := Lib.hid (HLR.out R11 HS11.out); have HL12 := Lib.hid (HLR.out R12 hs12); have hm1 : b1 < w12.heap.size := (by have := HBW12.out.size; omega); have hm2 : b2 < w12.heap.size := (by have := HBW12.out.size; omega); obtain ⟨⟨t0, t1, t2⟩, t3, t4, t5⟩ := HP.out w12 HBW12.out; clear hb12 hr12 hs12)
      (try go_wp2_with fail)
      refine hK.out _ _ ?_ (fun hHeld => ?_)
      · ((try dsimp only); go_simp)
      clear hK K
      simp only [List.set_cons_zero, List.set_cons_succ]
      refine hr_op (i := 24) rfl rfl (by kernel_rfl) (by kernel_rfl) (fun K hK => ?_)
      go_simp
      ((with_reducible refine (sameL_c u11 u12 R11 R12 _ (HR11.out.below HB12.out) HR12.out HL11.out HL12.out).mono ?_); rw [HSS.out]; rintro e w13 ⟨rfl, X13, d13, rfl⟩)
      (try go_wp2_with fail)
      refine hK.out _ _ ?_ (fun hHeld => ?_)
      · ((try dsimp only); go_simp)
      clear hK K
      simp only [List.set_cons_zero, List.set_cons_succ]
      refine hr_take (i := 25) rfl rfl (by kernel_rfl) (by kernel_rfl) (by kernel_rfl) (by kernel_rfl) (fun _ _ _ h => h) (v := ?_) ?_ (by assumption) ?_
      rotate_left
      focus (intro wS hSw; (try dsimp only at hSw); go_simp; (try with_reducible rfl))
      simp only [List.set_cons_zero, List.set_cons_succ]
      refine hr_take (i := 26) rfl rfl (by kernel_rfl) (by kernel_rfl) (by kernel_rfl) (by kernel_rfl) (fun _ _ _ h => h) (v := ?_) ?_ (by assumption) ?_
      rotate_left
      focus (intro wS hSw; (try dsimp only at hSw); go_simp; (try with_reducible rfl))
      simp only [List.set_cons_zero, List.set_cons_succ]
      refine hr_done (by kernel_rfl) ?_
      have hs12 := HBW12.out.size
      go_wp2_with fail
      go_roundw
      case rel => exact ⟨k + 1, by omega, by go_num, by have := HBW12.out; (repeat (first | (with_reducible exact Below.refl _ _) | (with_reducible assumption) | (with_reducible refine Below.grow ?_ ?_ _ _) | (with_reducible refine Below.drewN' ?_ _) | (with_reducible refine Below.drew ?_) | (with_reducible refine Below.alloc ?_ ?_ _) | (with_reducible refine Below.setCell ?_ ?_ _) | omega | (focus (simp; done)) | (focus (simp; omega))))⟩
      case measure => simp [intOf]; omega
    · obtain rfl : n = k := by omega
      have hbf := below_more HBW8.out hbz
      go_wp2_with fail
      go_ret
      exact ⟨rfl, Below.toGrow hbf⟩
theorem lines_law (x : Value) (v pl pa : Int) (L : List Ln) (w : World) (hx : RdL0 w x L) (hl : L.length ≤ maxLen) (hpa : pa ≤ 9223372036854775807) : Calls Try.prog 3 #[x, .int .i64 v, .agg #[.int .i64 pl, .int .i64 pa]] w fun e w' => e = .returned (.bool true) ∧ Grew w w' := by
  cases h : few11B L
  · exact lines_few x v pl pa L w hx hl h
  · by_cases hv : 300 < v
    · exact lines_wide x v pl pa L w hx hl h hv
    · exact lines_yes x v pl pa L w hx hl h hv hpa
end Go.Proofs.Ytlgnchhhadnjbaa.Row

/- A place of the document that comes in by value. -/
namespace Go.Proofs.Ytlgnchhhadnjbaa.Row
open Go.ChangeShapes Go.WideShapes Go.ChangeAt Go.RowKit
theorem cells_place : Try.prog.cellsOf 24 = 2 := by kernel_rfl
theorem leaves_place : Try.prog.cellTypes Try.prog.depth 24 = some [3, 3] := by kernel_rfl
theorem place_range {n : Int} (h : (Lit.int .i64 n).wf = true) : n ≤ 9223372036854775807 := by
  have h2 : -9223372036854775808 ≤ n ∧ n ≤ 9223372036854775807 := by simpa [Lit.wf, IntKind.min, IntKind.max, IntKind.signed, IntKind.bits] using h
  exact h2.2
theorem place_open {W : World} {base : Nat} {v : Value} (h : Value.okWide Try.prog W .any base 24 v) : ∃ pl pa : Int, v = .agg #[.int .i64 pl, .int .i64 pa] ∧ pa ≤ 9223372036854775807 := by
  obtain ⟨cs, rfl, hlen, hc⟩ := agg_cells Try.underlying24 leaves_place cells_place h
  match cs, hlen with
  | [c0, c1], _ =>
    obtain ⟨pl, rfl, _⟩ := cell_int Try.underlying3 (hc 0 _ _ rfl rfl)
    obtain ⟨pa, rfl, hw⟩ := cell_int Try.underlying3 (hc 1 _ _ rfl rfl)
    exact ⟨pl, pa, rfl, place_range hw⟩
end Go.Proofs.Ytlgnchhhadnjbaa.Row
