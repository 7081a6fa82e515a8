/- reflow: Sane of a line, in both packages; trimmed. -/
import Derived.Test.YtlgnchhhadnjbaaRflP
import Derived.Test.YtlgnchhhadnjbaaRefC
import Derived.Test.YtlgnchhhadnjbaaSlices
namespace Go.Proofs.Ytlgnchhhadnjbaa.Row
open Go.RowKit
theorem whole_le (c : Cl) : (wholeL c).length ≤ 2 := by
  unfold wholeL
  split <;> simp
set_option maxRecDepth 100000 in
set_option maxHeartbeats 4000000 in
theorem saneL_c (A : Option Addr) (n cap : Nat) (cs : List Cl) (dir : Int) (ex : Bool) (w : World) (hx : RdX encC w (.slice A n cap) cs) (hn : n = cs.length) (hl : n ≤ 10000000) :
    Calls Try.prog 16 #[.agg #[.slice A n cap, .int .i64 dir, .bool ex]] w fun e w' => e = .returned (.bool (sanL ⟨cs, dir, ex⟩)) ∧ Grew w w' := by
  have HI := Lib.hid (@sanL_iff ⟨cs, dir, ex⟩)
  have HN : Hid (¬ sanL ⟨cs, dir, ex⟩ = true → sanL ⟨cs, dir, ex⟩ = false) := fun h => by simpa using h
  generalize sanL ⟨cs, dir, ex⟩ = S at *
  have HL := Lib.hid hn
  clear hn
  by_cases hd : 0 ≤ dir ∧ dir ≤ 2
  · obtain ⟨hd0, hd2⟩ := hd
    have HD := Lib.hid hd0
    have HD2 := Lib.hid hd2
    have hd0b : decide (dir < 0) = false := by simp; omega
    have hd2b : decide (2 < dir) = false := by simp; omega
    go_enter Try.func16, Try.ntmps16
    go_wp2_with fail
    clear hd0b hd2b hd0 hd2
    go_loopw [16] (fun i wz => ∃ k : Nat, k ≤ n ∧ i = .int .i64 k ∧ Hid (∀ j (h : j < cs.length), j < k → okC cs[j] = true) ∧ Below w.heap.size w wz) (fun i _ => n - (intOf i).toNat)
    case atStart => exact ⟨0, Nat.zero_le _, rfl, fun j _ hj => absurd hj (by omega), by (repeat (first | (with_reducible exact Below.refl _ _) | (with_reducible assumption) | (with_reducible refine Below.grow ?_ ?_ _ _) | (with_reducible refine Below.drewN' ?_ _) | (with_reducible refine Below.drew ?_) | (with_reducible refine Below.alloc ?_ ?_ _) | (with_reducible refine Below.setCell ?_ ?_ _) | omega | (focus (simp; done)) | (focus (simp; omega))))⟩
    case round =>
      obtain ⟨k, hk, rfl, HALL, hbw⟩ := hrel
      have hws := hbw.size
      by_cases hlt : k < n
      · have hkl : k < cs.length := by rw [← HL.out]; exact hlt
        obtain ⟨b, o, rfl, hbl, hat⟩ := rdC_at (hx.below hbw) (List.getElem?_eq_getElem hkl)
        have HE : Hid (okC cs[k] = true → ∀ j (h : j < cs.length), j < k + 1 → okC cs[j] = true) := fun hs j h hj => by
          by_cases e : j = k
          · subst e; exact hs
          · exact HALL.out j h (by omega)
        have HM : Hid (cs[k] ∈ cs) := List.getElem_mem hkl
        generalize cs[k] = ce at *
        obtain ⟨c0, c1, c2, c3, c4, c5, c6⟩ := hat
        have hltI : (k : Int) < n := by omega
        by_cases h12 : ce.w = 1 ∨ ce.w = 2
        · have HSW := Lib.hid (sane_whole ce h12)
          have H12 := Lib.hid h12
          cases hf : fitsB ce
          · rcases h12 with h12 | h12
            · have hwa : (ce.w != 1) = false := by rw [h12]; rfl
              clear h12
              go_wp2_with (first | (go_at_call 34; (with_reducible refine (whole_c ce _).mono ?_); rintro e w5 ⟨A5, n5, rfl, hn5, hb5, ho5⟩; have HR5 := Lib.hid (rd_ofX ho5.rd hn5 (fun i hi => whole_f ce i (by rw [← hn5]; exact hi))); have HN5 := Lib.hid hn5; have HM5 : Hid (n5 ≤ 9223372036854775806) := (by have := whole_le ce; show _ ≤ _; omega); obtain ⟨X5, d5, rfl⟩ := Below.toGrow hb5; clear hb5 ho5 hn5) | (go_at_call 21; (with_reducible refine (sane_c A5 n5 n5 (wF ce) false 0 false _ HR5.out HM5.out).mono ?_); rw [HN5.out, HSW.out]; rintro e w6 ⟨rfl, X6, d6, rfl⟩))
              go_ret
              refine ⟨ebool (HN.out fun h => ?_).symm, (Below.toGrow (by repeat (first | (with_reducible exact Below.refl _ _) | (with_reducible assumption) | (with_reducible refine Below.grow ?_ ?_ _ _) | (with_reducible refine Below.drewN' ?_ _) | (with_reducible refine Below.drew ?_) | (with_reducible refine Below.alloc ?_ ?_ _) | (with_reducible refine Below.setCell ?_ ?_ _) | omega | (focus (simp; done)) | (focus (simp; omega)))))⟩
              have := (okC_iff.1 ((HI.out.1 h).2.2 ce HM.out)).2
              rw [hf] at this
              cases this
            · have hwa : (ce.w != 1) = true := by rw [h12]; rfl
              have hwb : (ce.w != 2) = false := by rw [h12]; rfl
              clear h12
              go_wp2_with (first | (go_at_call 34; (with_reducible refine (whole_c ce _).mono ?_); rintro e w5 ⟨A5, n5, rfl, hn5, hb5, ho5⟩; have HR5 := Lib.hid (rd_ofX ho5.rd hn5 (fun i hi => whole_f ce i (by rw [← hn5]; exact hi))); have HN5 := Lib.hid hn5; have HM5 : Hid (n5 ≤ 9223372036854775806) := (by have := whole_le ce; show _ ≤ _; omega); obtain ⟨X5, d5, rfl⟩ := Below.toGrow hb5; clear hb5 ho5 hn5) | (go_at_call 21; (with_reducible refine (sane_c A5 n5 n5 (wF ce) false 0 false _ HR5.out HM5.out).mono ?_); rw [HN5.out, HSW.out]; rintro e w6 ⟨rfl, X6, d6, rfl⟩))
              go_ret
              refine ⟨ebool (HN.out fun h => ?_).symm, (Below.toGrow (by repeat (first | (with_reducible exact Below.refl _ _) | (with_reducible assumption) | (with_reducible refine Below.grow ?_ ?_ _ _) | (with_reducible refine Below.drewN' ?_ _) | (with_reducible refine Below.drew ?_) | (with_reducible refine Below.alloc ?_ ?_ _) | (with_reducible refine Below.setCell ?_ ?_ _) | omega | (focus (simp; done)) | (focus (simp; omega)))))⟩
              have := (okC_iff.1 ((HI.out.1 h).2.2 ce HM.out)).2
              rw [hf] at this
              cases this
          · rcases h12 with h12 | h12
            · have hwa : (ce.w != 1) = false := by rw [h12]; rfl
              clear h12
              go_wp2_with (first | (go_at_call 34; (with_reducible refine (whole_c ce _).mono ?_); rintro e w5 ⟨A5, n5, rfl, hn5, hb5, ho5⟩; have HR5 := Lib.hid (rd_ofX ho5.rd hn5 (fun i hi => whole_f ce i (by rw [← hn5]; exact hi))); have HN5 := Lib.hid hn5; have HM5 : Hid (n5 ≤ 9223372036854775806) := (by have := whole_le ce; show _ ≤ _; omega); obtain ⟨X5, d5, rfl⟩ := Below.toGrow hb5; clear hb5 ho5 hn5) | (go_at_call 21; (with_reducible refine (sane_c A5 n5 n5 (wF ce) false 0 false _ HR5.out HM5.out).mono ?_); rw [HN5.out, HSW.out]; rintro e w6 ⟨rfl, X6, d6, rfl⟩))
              go_roundw
              case rel => exact ⟨k + 1, by omega, by go_num, HE.out (okC_iff.2 ⟨H12.out, hf⟩), by (repeat (first | (with_reducible exact Below.refl _ _) | (with_reducible assumption) | (with_reducible refine Below.grow ?_ ?_ _ _) | (with_reducible refine Below.drewN' ?_ _) | (with_reducible refine Below.drew ?_) | (with_reducible refine Below.alloc ?_ ?_ _) | (with_reducible refine Below.setCell ?_ ?_ _) | omega | (focus (simp; done)) | (focus (simp; omega))))⟩
              case measure => simp [intOf]; omega
            · have hwa : (ce.w != 1) = true := by rw [h12]; rfl
              have hwb : (ce.w != 2) = false := by rw [h12]; rfl
              clear h12
              go_wp2_with (first | (go_at_call 34; (with_reducible refine (whole_c ce _).mono ?_); rintro e w5 ⟨A5, n5, rfl, hn5, hb5, ho5⟩; have HR5 := Lib.hid (rd_ofX ho5.rd hn5 (fun i hi => whole_f ce i (by rw [← hn5]; exact hi))); have HN5 := Lib.hid hn5; have HM5 : Hid (n5 ≤ 9223372036854775806) := (by have := whole_le ce; show _ ≤ _; omega); obtain ⟨X5, d5, rfl⟩ := Below.toGrow hb5; clear hb5 ho5 hn5) | (go_at_call 21; (with_reducible refine (sane_c A5 n5 n5 (wF ce) false 0 false _ HR5.out HM5.out).mono ?_); rw [HN5.out, HSW.out]; rintro e w6 ⟨rfl, X6, d6, rfl⟩))
              go_roundw
              case rel => exact ⟨k + 1, by omega, by go_num, HE.out (okC_iff.2 ⟨H12.out, hf⟩), by (repeat (first | (with_reducible exact Below.refl _ _) | (with_reducible assumption) | (with_reducible refine Below.grow ?_ ?_ _ _) | (with_reducible refine Below.drewN' ?_ _) | (with_reducible refine Below.drew ?_) | (with_reducible refine Below.alloc ?_ ?_ _) | (with_reducible refine Below.setCell ?_ ?_ _) | omega | (focus (simp; done)) | (focus (simp; omega))))⟩
              case measure => simp [intOf]; omega
        · have hwa : (ce.w != 1) = true := by simp; omega
          have hwb : (ce.w != 2) = true := by simp; omega
          have H12 := Lib.hid h12
          clear h12
          go_wp2_with fail
          go_ret
          refine ⟨ebool (HN.out fun h => ?_).symm, (Below.toGrow (by repeat (first | (with_reducible exact Below.refl _ _) | (with_reducible assumption) | (with_reducible refine Below.grow ?_ ?_ _ _) | (with_reducible refine Below.drewN' ?_ _) | (with_reducible refine Below.drew ?_) | (with_reducible refine Below.alloc ?_ ?_ _) | (with_reducible refine Below.setCell ?_ ?_ _) | omega | (focus (simp; done)) | (focus (simp; omega)))))⟩
          exact H12.out (okC_iff.1 ((HI.out.1 h).2.2 ce HM.out)).1
      · obtain rfl : n = k := by omega
        go_wp2_with fail
        go_ret
        refine ⟨ebool (HI.out.2 ⟨HD.out, HD2.out, fun r hr => ?_⟩).symm, Below.toGrow hbw⟩
        obtain ⟨j, hj, rfl⟩ := List.getElem_of_mem hr
        exact HALL.out j hj (by rw [HL.out]; exact hj)
  · have HS : Hid (S = false) := HN.out fun h => hd ⟨(HI.out.1 h).1, (HI.out.1 h).2.1⟩
    by_cases h0 : dir < 0
    · have hd0b : decide (dir < 0) = true := by simpa using h0
      go_enter Try.func16, Try.ntmps16
      go_wp2_with fail
      go_ret
      exact ⟨ebool HS.out.symm, (Below.toGrow (by repeat (first | (with_reducible exact Below.refl _ _) | (with_reducible assumption) | (with_reducible refine Below.grow ?_ ?_ _ _) | (with_reducible refine Below.drewN' ?_ _) | (with_reducible refine Below.drew ?_) | (with_reducible refine Below.alloc ?_ ?_ _) | (with_reducible refine Below.setCell ?_ ?_ _) | omega | (focus (simp; done)) | (focus (simp; omega)))))⟩
    · have hd0b : decide (dir < 0) = false := by simpa using h0
      have hd2b : decide (2 < dir) = true := by simp; omega
      go_enter Try.func16, Try.ntmps16
      go_wp2_with fail
      go_ret
      exact ⟨ebool HS.out.symm, (Below.toGrow (by repeat (first | (with_reducible exact Below.refl _ _) | (with_reducible assumption) | (with_reducible refine Below.grow ?_ ?_ _ _) | (with_reducible refine Below.drewN' ?_ _) | (with_reducible refine Below.drew ?_) | (with_reducible refine Below.alloc ?_ ?_ _) | (with_reducible refine Below.setCell ?_ ?_ _) | omega | (focus (simp; done)) | (focus (simp; omega)))))⟩
theorem sane_one (c : Cl) (h2 : c.w ≠ 2) (h0 : c.w ≠ 0) : saneB 1 (wF c) 0 = okC c := by
  rw [Bool.eq_iff_iff, sane_iff, okC_iff]
  constructor
  · rintro ⟨-, -, -, -, h⟩
    have hf := (h 0 (by omega)).1
    refine ⟨?_, hf⟩
    unfold fitsB at hf
    rw [decide_eq_true_eq] at hf
    have : (wF c 0) = c := rfl
    rw [this] at hf
    omega
  · rintro ⟨h, hf⟩
    refine ⟨by omega, by omega, by omega, by omega, fun i hi => ?_⟩
    obtain rfl : i = 0 := by omega
    refine ⟨hf, ?_⟩
    unfold lostB
    have h1 : c.w = 1 := by omega
    simp [wF, h1]
theorem sane_two (c : Cl) (h2 : c.w = 2) : saneB 2 (wF c) 0 = okC c := by
  have := sane_whole c (.inr h2)
  have hl : (wholeL c).length = 2 := by unfold wholeL; rw [if_pos h2]; rfl
  rw [hl] at this
  rw [this]
  unfold okC
  simp [h2]
set_option maxRecDepth 100000 in
set_option maxHeartbeats 4000000 in
theorem saneL11_c (A : Option Addr) (n cap : Nat) (cs : List Cl) (dir : Int) (ex : Bool) (w : World) (hx : RdX encC w (.slice A n cap) cs) (hn : n = cs.length) (hl : n ≤ 10000000) :
    Calls Try.prog 17 #[.agg #[.slice A n cap, .int .i64 dir, .bool ex]] w fun e w' => e = .returned (.bool (sanL ⟨cs, dir, ex⟩)) ∧ Grew w w' := by
  have HI := Lib.hid (@sanL_iff ⟨cs, dir, ex⟩)
  have HN : Hid (¬ sanL ⟨cs, dir, ex⟩ = true → sanL ⟨cs, dir, ex⟩ = false) := fun h => by simpa using h
  generalize sanL ⟨cs, dir, ex⟩ = S at *
  have HL := Lib.hid hn
  clear hn
  obtain ⟨i3, hi3, hz3, hs3, hb3⟩ := cell_parts
  have HI3 := Lib.hid hi3
  have HZ3 := Lib.hid hz3
  have HS3 := Lib.hid hs3
  have HB3 := Lib.hid hb3
  clear hi3 hz3 hs3 hb3
  go_enter Try.func17, Try.ntmps17
  go_wp2_with fail
  generalize hw0 : w.alloc _ = w0
  have hbw0 : Below w.heap.size w w0 := by rw [← hw0]; (repeat (first | (with_reducible exact Below.refl _ _) | (with_reducible assumption) | (with_reducible refine Below.grow ?_ ?_ _ _) | (with_reducible refine Below.drewN' ?_ _) | (with_reducible refine Below.drew ?_) | (with_reducible refine Below.alloc ?_ ?_ _) | (with_reducible refine Below.setCell ?_ ?_ _) | omega | (focus (simp; done)) | (focus (simp; omega))))
  have hB1 : Blk w0 w.heap.size 42 #[.slice A n cap, .int .i64 dir, .bool ex] := by rw [← hw0]; exact Blk.new _ _ _
  clear hw0
  have HB1 := Lib.hid hB1
  have HBW0 := Lib.hid hbw0
  clear hB1 hbw0
  go_loopw [3] (fun i wz => ∃ k : Nat, k ≤ n ∧ i = .int .i64 k ∧ Hid (∀ j (h : j < cs.length), j < k → okC cs[j] = true) ∧ Below w0.heap.size w0 wz) (fun i _ => n - (intOf i).toNat)
  case atStart => exact ⟨0, Nat.zero_le _, rfl, fun j _ hj => absurd hj (by omega), Below.refl _ _⟩
  case round =>
    obtain ⟨k, hk, rfl, HALL, hb⟩ := hrel
    have hbw := HBW0.out.trans (hb.mono HBW0.out.size)
    obtain ⟨r0, r1, r2, rf, rl⟩ := (HB1.out.below hb HB1.out.lt).facts3
    have HB0 := Lib.hid hb
    clear hb
    by_cases hlt : k < n
    · have hkl : k < cs.length := by rw [← HL.out]; exact hlt
      obtain ⟨b, o, rfl, hbl, hat⟩ := rdC_at (hx.below hbw) (List.getElem?_eq_getElem hkl)
      have HE : Hid (okC cs[k] = true → ∀ j (h : j < cs.length), j < k + 1 → okC cs[j] = true) := fun hs j h hj => by
        by_cases e : j = k
        · subst e; exact hs
        · exact HALL.out j h (by omega)
      have HM : Hid (cs[k] ∈ cs) := List.getElem_mem hkl
      generalize cs[k] = ce at *
      obtain ⟨c0, c1, c2, c3, c4, c5, c6⟩ := hat
      have hltI : (k : Int) < n := by omega
      by_cases h2 : ce.w = 2
      · have hwa : (ce.w == 2) = true := by rw [h2]; rfl
        have hwb : (ce.w == 0) = false := by rw [h2]; rfl
        have HST := Lib.hid (sane_two ce h2)
        have HFI : Hid (∀ i, i < 2 → [ce, halfOf ce][i]? = some (wF ce i)) := fun i hi => by
          match i, hi with
          | 0, _ => rfl
          | 1, _ => rfl
        clear h2
        go_upto_region 7 with fail
        generalize hwb : (wr.alloc _).alloc _ = wb
        have HBC : Hid (Blk wb wr.heap.size 59 ce.cells.toArray) := by show Blk _ _ _ _; rw [← hwb]; exact (Blk.new _ _ _).alloc _
        have HV : Hid (OwnX encC wb (wr.heap.size + 1) 59 (.slice (some ⟨wr.heap.size + 1, 0, none⟩) 1 1) [ce]) := by show OwnX _ _ _ _ _ _; rw [← hwb]; exact ownX_one (E := encC) _ _ _ _ ce _ rfl (by simp) (by simp)
        have HBX0 : Hid (Below w0.heap.size w0 wb) := by show Below _ _ _; rw [← hwb]; have := HB0.out; have := HB0.out.size; (repeat (first | (with_reducible exact Below.refl _ _) | (with_reducible assumption) | (with_reducible refine Below.grow ?_ ?_ _ _) | (with_reducible refine Below.drewN' ?_ _) | (with_reducible refine Below.drew ?_) | (with_reducible refine Below.alloc ?_ ?_ _) | (with_reducible refine Below.setCell ?_ ?_ _) | omega | (focus (simp; done)) | (focus (simp; omega))))
        have HWS : Hid (wb.heap.size = wr.heap.size + 2) := by show _ = _; rw [← hwb]; simp
        clear hwb
        generalize Value.slice (some ⟨wr.heap.size + 1, 0, none⟩) 1 1 = sv at *
        obtain ⟨q0, q1, q2, q3, q4, q5, q6, qf, ql⟩ := HBC.out.facts7
        go_upto_region 8 with (at_builtin; go_loud (refine wpList_append_X encC rfl _ _ _ rfl (wr.heap.size + 1) 59 56 i3 _ rfl HI3.out HZ3.out HS3.out HB3.out rfl _ _ [ce] [halfOf ce] rfl rfl (HV.out.alloc _) (rdX_one (E := encC) _ _ (halfOf ce) _ _ rfl rfl) (by unfold maxLen; simp only [List.length_cons, List.length_nil]; omega) (by simp only [List.length_cons, List.length_nil]; omega) (by rw [World.size_alloc]; exact Nat.le_succ_of_le (by rw [HWS.out]; omega)) ?_; intro v4 w4 hv4 hgb hor))
        have hbx : Below (wr.heap.size + 1) wb w4 := below_ownx ((Below.refl _ _).alloc (by rw [HWS.out]; omega) (.cells (halfOf ce).cells.toArray 59)) hgb (fun g hg => (HV.out.lt hg).1) (by simp; rw [HWS.out]; omega)
        have HBX : Hid (Below w0.heap.size w0 w4) := HBX0.out.trans (hbx.mono (by have := HB0.out.size; omega))
        replace HBC : Hid (Blk w4 wr.heap.size 59 ce.cells.toArray) := HBC.out.below hbx (by omega)
        clear hgb hor q0 q1 q2 q3 q4 q5 q6 qf ql
        obtain ⟨q0, q1, q2, q3, q4, q5, q6, qf, ql⟩ := HBC.out.facts7
        obtain ⟨A5, c5, rfl, hc5⟩ := hv4.rd.len
        obtain ⟨n5, hn5⟩ : ∃ n5, n5 = 2 := ⟨_, rfl⟩
        have hlen : ([ce] ++ [halfOf ce]).length = n5 := by rw [hn5]; rfl
        have hrd := hv4.rd
        rw [hlen] at hrd
        have HR5 : Hid (Rd w4 A5 n5 (wF ce)) := rd_ofX hrd (by rw [hn5]; rfl) (fun i hi => HFI.out i (by omega))
        clear hrd
        have HM5 : Hid (n5 ≤ 5000) := by show _ ≤ _; omega
        have HC5 : Hid (n5 ≤ c5) := by show _ ≤ _; rw [hn5]; exact hc5
        rw [hlen]
        rw [← hn5] at HST
        clear hlen hn5 hc5 hv4 hbx
        cases hok : okC ce
        · rw [hok] at HST
          go_wp2_with ((go_at_call 35; (with_reducible refine (sane8_c A5 n5 c5 (wF ce) false 0 false _ HR5.out HM5.out HC5.out).mono ?_); rintro e w6 ⟨rfl, X6, d6, rfl⟩); rw [HST.out])
          go_ret
          refine ⟨ebool (HN.out fun h => ?_).symm, Below.toGrow (by have := HBW0.out.trans (HBX.out.mono HBW0.out.size); have := this.size; (repeat (first | (with_reducible exact Below.refl _ _) | (with_reducible assumption) | (with_reducible refine Below.grow ?_ ?_ _ _) | (with_reducible refine Below.drewN' ?_ _) | (with_reducible refine Below.drew ?_) | (with_reducible refine Below.alloc ?_ ?_ _) | (with_reducible refine Below.setCell ?_ ?_ _) | omega | (focus (simp; done)) | (focus (simp; omega)))))⟩
          have := (HI.out.1 h).2.2 ce HM.out
          rw [hok] at this
          cases this
        · rw [hok] at HST
          go_wp2_with ((go_at_call 35; (with_reducible refine (sane8_c A5 n5 c5 (wF ce) false 0 false _ HR5.out HM5.out HC5.out).mono ?_); rintro e w6 ⟨rfl, X6, d6, rfl⟩); rw [HST.out])
          go_roundw
          case rel => exact ⟨k + 1, by omega, by go_num, HE.out hok, by have := HBX.out; have := this.size; (repeat (first | (with_reducible exact Below.refl _ _) | (with_reducible assumption) | (with_reducible refine Below.grow ?_ ?_ _ _) | (with_reducible refine Below.drewN' ?_ _) | (with_reducible refine Below.drew ?_) | (with_reducible refine Below.alloc ?_ ?_ _) | (with_reducible refine Below.setCell ?_ ?_ _) | omega | (focus (simp; done)) | (focus (simp; omega))))⟩
          case measure => simp [intOf]; omega
      · cases h0 : ce.w == 0
        · have hwa : (ce.w == 2) = false := by simpa using h2
          have HST := Lib.hid (sane_one ce h2 (by simpa using h0))
          clear h2
          go_upto_region 8 with fail
          generalize hwb : (wr.alloc _).alloc _ = wb
          have hB2 : Blk wb wr.heap.size 59 ce.cells.toArray := by rw [← hwb]; exact (Blk.new _ _ _).alloc _
          have hV : OwnX encC wb (wr.heap.size + 1) 59 (.slice (some ⟨wr.heap.size + 1, 0, none⟩) 1 1) [ce] := by rw [← hwb]; exact ownX_one (E := encC) _ _ _ _ ce _ rfl (by simp) (by simp)
          have HBX : Hid (Below w0.heap.size w0 wb) := by show Below _ _ _; rw [← hwb]; have := HB0.out; have := HB0.out.size; (repeat (first | (with_reducible exact Below.refl _ _) | (with_reducible assumption) | (with_reducible refine Below.grow ?_ ?_ _ _) | (with_reducible refine Below.drewN' ?_ _) | (with_reducible refine Below.drew ?_) | (with_reducible refine Below.alloc ?_ ?_ _) | (with_reducible refine Below.setCell ?_ ?_ _) | omega | (focus (simp; done)) | (focus (simp; omega))))
          clear hwb
          obtain ⟨q0, q1, q2, q3, q4, q5, q6, qf, ql⟩ := hB2.facts7
          obtain ⟨A5, n5, c5, hn5, hc5, hsv⟩ : ∃ A5 n5 c5, n5 = 1 ∧ n5 ≤ c5 ∧ Value.slice (some ⟨wr.heap.size + 1, 0, none⟩) 1 1 = .slice A5 n5 c5 := ⟨_, _, _, rfl, by omega, rfl⟩
          rw [hsv] at hV
          rw [hsv]
          have HR5 : Hid (Rd wb A5 n5 (wF ce)) := rd_ofX hV.rd hn5 (fun i hi => by
            obtain rfl : i = 0 := by omega
            rfl)
          have HM5 : Hid (n5 ≤ 5000) := by show _ ≤ _; omega
          have HC5 := Lib.hid hc5
          rw [← hn5] at HST
          clear hsv hV hn5 hc5 hB2
          cases hok : okC ce
          · rw [hok] at HST
            go_wp2_with ((go_at_call 35; (with_reducible refine (sane8_c A5 n5 c5 (wF ce) false 0 false _ HR5.out HM5.out HC5.out).mono ?_); rintro e w6 ⟨rfl, X6, d6, rfl⟩); rw [HST.out])
            go_ret
            refine ⟨ebool (HN.out fun h => ?_).symm, Below.toGrow (by have := HBW0.out.trans (HBX.out.mono HBW0.out.size); have := this.size; (repeat (first | (with_reducible exact Below.refl _ _) | (with_reducible assumption) | (with_reducible refine Below.grow ?_ ?_ _ _) | (with_reducible refine Below.drewN' ?_ _) | (with_reducible refine Below.drew ?_) | (with_reducible refine Below.alloc ?_ ?_ _) | (with_reducible refine Below.setCell ?_ ?_ _) | omega | (focus (simp; done)) | (focus (simp; omega)))))⟩
            have := (HI.out.1 h).2.2 ce HM.out
            rw [hok] at this
            cases this
          · rw [hok] at HST
            go_wp2_with ((go_at_call 35; (with_reducible refine (sane8_c A5 n5 c5 (wF ce) false 0 false _ HR5.out HM5.out HC5.out).mono ?_); rintro e w6 ⟨rfl, X6, d6, rfl⟩); rw [HST.out])
            go_roundw
            case rel => exact ⟨k + 1, by omega, by go_num, HE.out hok, by have := HBX.out; have := this.size; (repeat (first | (with_reducible exact Below.refl _ _) | (with_reducible assumption) | (with_reducible refine Below.grow ?_ ?_ _ _) | (with_reducible refine Below.drewN' ?_ _) | (with_reducible refine Below.drew ?_) | (with_reducible refine Below.alloc ?_ ?_ _) | (with_reducible refine Below.setCell ?_ ?_ _) | omega | (focus (simp; done)) | (focus (simp; omega))))⟩
            case measure => simp [intOf]; omega
        · have hz : ce.w = 0 := by simpa using h0
          have hwa : (ce.w == 2) = false := by rw [hz]; rfl
          have HNO : Hid (okC ce = false) := by show _ = _; unfold okC; simp [hz]
          clear hz h2
          go_wp2_with fail
          go_ret
          refine ⟨ebool (HN.out fun h => ?_).symm, (Below.toGrow (by repeat (first | (with_reducible exact Below.refl _ _) | (with_reducible assumption) | (with_reducible refine Below.grow ?_ ?_ _ _) | (with_reducible refine Below.drewN' ?_ _) | (with_reducible refine Below.drew ?_) | (with_reducible refine Below.alloc ?_ ?_ _) | (with_reducible refine Below.setCell ?_ ?_ _) | omega | (focus (simp; done)) | (focus (simp; omega)))))⟩
          have := (HI.out.1 h).2.2 ce HM.out
          rw [HNO.out] at this
          cases this
    · obtain rfl : n = k := by omega
      by_cases hd0 : 0 ≤ dir
      · have hd0b : decide (0 ≤ dir) = true := by simpa using hd0
        have HD := Lib.hid hd0
        clear hd0
        cases hd2 : decide (dir ≤ 2)
        · go_wp2_with fail
          go_ret
          exact ⟨ebool (HN.out fun h => by have := (HI.out.1 h).2.1; simp at hd2; omega).symm, Below.toGrow hbw⟩
        · go_wp2_with fail
          go_ret
          refine ⟨ebool (HI.out.2 ⟨HD.out, of_decide_eq_true hd2, fun r hr => ?_⟩).symm, Below.toGrow hbw⟩
          obtain ⟨j, hj, rfl⟩ := List.getElem_of_mem hr
          exact HALL.out j hj (by rw [HL.out]; exact hj)
      · have hd0b : decide (0 ≤ dir) = false := by simpa using hd0
        have HD := Lib.hid hd0
        clear hd0
        go_wp2_with fail
        go_ret
        exact ⟨ebool (HN.out fun h => by have h1 := (HI.out.1 h).1; have h2 := HD.out; exact absurd h1 (by first | exact h2 | exact Int.not_le.2 h2)).symm, Below.toGrow hbw⟩
end Go.Proofs.Ytlgnchhhadnjbaa.Row
