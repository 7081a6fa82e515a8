/- Walk of lapwinglaw11.ReflowLetters. -/
import Derived.Test.YtlgnchhhadnjbaaRflL
import Derived.Test.YtlgnchhhadnjbaaRowJ
import Derived.Test.YtlgnchhhadnjbaaGridA
namespace Go.Proofs.Ytlgnchhhadnjbaa.Row
open Go.RowKit
theorem int_parts : ∃ i, Try.prog.info? 3 = some i ∧ i.zero = some (.int .i64 0) ∧ i.size = 1 ∧ i.bytes = 8 := by
  obtain ⟨i, hi, hzz⟩ := Option.map_eq_some_iff.1 int_info
  simp only [Prod.mk.injEq] at hzz
  exact ⟨i, hi, hzz⟩
theorem maskT (w : Int) : ∃ a : Nat, bits .and .i64 w 255 = (a : Int) ∧ a ≤ 255 := by
  have h := and_mask 8 (by omega) w
  refine ⟨(w % 256).toNat, ?_, by omega⟩
  have e : bits .and .i64 w 255 = w % 256 := h
  rw [e]
  omega
set_option maxRecDepth 100000 in
set_option maxHeartbeats 4000000 in
theorem let_few (x : Value) (v : Int) (L : List Rw) (w : World) (hx : RdR0 w x L) (hl : L.length ≤ maxLen) (h : fewB L = false) : Calls Try.prog 6 #[x, .int .i64 v] w fun e w' => e = .returned (.bool true) ∧ Grew w w' := by
  obtain ⟨A, cap, rfl, hc⟩ := hx.1.len
  have HLM := Lib.hid hl
  obtain ⟨n, hn⟩ : ∃ n, L.length = n := ⟨_, rfl⟩
  have hx0 := hx
  clear hx
  rw [hn] at hx0 ⊢
  have HX0 : Hid (RdR0 w (.slice A n cap) L) := hx0
  have HN := Lib.hid hn
  have HFB := Lib.hid h
  clear h hx0 hl hn
  go_enter Try.func6, Try.ntmps6
  go_wp2_with (first | (go_at_call 8; (with_reducible refine (awake11_c _).mono ?_); rintro e w1 ⟨rfl, XA, dA, rfl⟩) | (go_at_call 26; (with_reducible refine (few_c (.slice A n cap) L _ (HX0.out.below (by (repeat (first | (with_reducible exact Below.refl _ _) | (with_reducible assumption) | (with_reducible refine Below.grow ?_ ?_ _ _) | (with_reducible refine Below.drewN' ?_ _) | (with_reducible refine Below.drew ?_) | (with_reducible refine Below.alloc ?_ ?_ _) | (with_reducible refine Below.setCell ?_ ?_ _) | omega | (focus (simp; done)) | (focus (simp; omega)))))) HLM.out).mono ?_); rw [HFB.out]; rintro e w1 ⟨rfl, rfl⟩))
  go_ret
  exact ⟨rfl, (Below.toGrow (by repeat (first | (with_reducible exact Below.refl _ _) | (with_reducible assumption) | (with_reducible refine Below.grow ?_ ?_ _ _) | (with_reducible refine Below.drewN' ?_ _) | (with_reducible refine Below.drew ?_) | (with_reducible refine Below.alloc ?_ ?_ _) | (with_reducible refine Below.setCell ?_ ?_ _) | omega | (focus (simp; done)) | (focus (simp; omega)))))⟩
set_option maxRecDepth 100000 in
set_option maxHeartbeats 4000000 in
theorem let_sane (x : Value) (v : Int) (L : List Rw) (w : World) (hx : RdR0 w x L) (hl : L.length ≤ maxLen) (h : fewB L = true) (h2 : gsaneB L = false) : Calls Try.prog 6 #[x, .int .i64 v] w fun e w' => e = .returned (.bool true) ∧ Grew w w' := by
  obtain ⟨A, cap, rfl, hc⟩ := hx.1.len
  have HLM := Lib.hid hl
  obtain ⟨n, hn⟩ : ∃ n, L.length = n := ⟨_, rfl⟩
  have hx0 := hx
  clear hx
  rw [hn] at hx0 ⊢
  have HX0 : Hid (RdR0 w (.slice A n cap) L) := hx0
  have HN := Lib.hid hn
  have HFB := Lib.hid h
  have hfew := few_iff.1 h
  have HX : Hid (RdR w (.slice A n cap) L) := hx0.few h
  have HL5 : Hid (L.length ≤ 5000) := by show _ ≤ _; omega
  have HGS := Lib.hid h2
  clear h hx0 hl hn h2 hfew
  go_enter Try.func6, Try.ntmps6
  go_wp2_with (first | (go_at_call 8; (with_reducible refine (awake11_c _).mono ?_); rintro e w1 ⟨rfl, XA, dA, rfl⟩) | (go_at_call 26; (with_reducible refine (few_c (.slice A n cap) L _ (HX0.out.below (by (repeat (first | (with_reducible exact Below.refl _ _) | (with_reducible assumption) | (with_reducible refine Below.grow ?_ ?_ _ _) | (with_reducible refine Below.drewN' ?_ _) | (with_reducible refine Below.drew ?_) | (with_reducible refine Below.alloc ?_ ?_ _) | (with_reducible refine Below.setCell ?_ ?_ _) | omega | (focus (simp; done)) | (focus (simp; omega)))))) HLM.out).mono ?_); rw [HFB.out]; rintro e w1 ⟨rfl, rfl⟩) | (go_at_call 27; (with_reducible refine (gsane9_c (.slice A n cap) L _ (HX.out.below (by (repeat (first | (with_reducible exact Below.refl _ _) | (with_reducible assumption) | (with_reducible refine Below.grow ?_ ?_ _ _) | (with_reducible refine Below.drewN' ?_ _) | (with_reducible refine Below.drew ?_) | (with_reducible refine Below.alloc ?_ ?_ _) | (with_reducible refine Below.setCell ?_ ?_ _) | omega | (focus (simp; done)) | (focus (simp; omega)))))) HL5.out).mono ?_); rw [HGS.out]; rintro e w1 ⟨rfl, XS, dS, rfl⟩))
  go_ret
  exact ⟨rfl, (Below.toGrow (by repeat (first | (with_reducible exact Below.refl _ _) | (with_reducible assumption) | (with_reducible refine Below.grow ?_ ?_ _ _) | (with_reducible refine Below.drewN' ?_ _) | (with_reducible refine Below.drew ?_) | (with_reducible refine Below.alloc ?_ ?_ _) | (with_reducible refine Below.setCell ?_ ?_ _) | omega | (focus (simp; done)) | (focus (simp; omega)))))⟩
set_option maxRecDepth 100000 in
set_option maxHeartbeats 4000000 in
theorem let_yes (x : Value) (v : Int) (L : List Rw) (w : World) (hx : RdR0 w x L) (hl : L.length ≤ maxLen) (h : fewB L = true) (h2 : gsaneB L = true) : Calls Try.prog 6 #[x, .int .i64 v] w fun e w' => e = .returned (.bool true) ∧ Grew w w' := by
  obtain ⟨A, cap, rfl, hc⟩ := hx.1.len
  have HLM := Lib.hid hl
  obtain ⟨n, hn⟩ : ∃ n, L.length = n := ⟨_, rfl⟩
  have hx0 := hx
  clear hx
  rw [hn] at hx0 ⊢
  have HX0 : Hid (RdR0 w (.slice A n cap) L) := hx0
  have HN := Lib.hid hn
  have HFB := Lib.hid h
  have hfew := few_iff.1 h
  have HX : Hid (RdR w (.slice A n cap) L) := hx0.few h
  have HL5 : Hid (L.length ≤ 5000) := by show _ ≤ _; omega
  have HGS := Lib.hid h2
  obtain ⟨hg1, hg2, hg3⟩ := gsane_iff.1 h2
  have HA : Hid (areB L = true) := areB_iff.2 fun r hr => (hg3 r hr).2
  have HL1 : Hid (L.length ≤ 100000) := by show _ ≤ _; omega
  have hsum := few_sum hfew.2 L.length
  have HT : Hid (sumN L L.length ≤ 9000000) := by show _ ≤ _; omega
  have HSJ := Lib.hid (joinR_sane HA.out)
  have htj := joinR_tot L
  have HJ1 : Hid (1 ≤ (joinR L).length) := by have := find_lt (L := L) (y := 0) (by omega); show _ ≤ _; omega
  have HJT : Hid (totC (joinR L) ≤ 6000) := by show _ ≤ _; omega
  obtain ⟨a, hmask, ha5⟩ := maskT v
  have hwr : IntKind.i64.wrap (2 + (a : Int)) = 2 + (a : Int) := by rw [IntWalk.i64_left]; exact IntWalk.wrap64_in _ (by omega)
  have HWN : Hid (2 ≤ wN (2 + (a : Int))) := by show _ ≤ _; unfold wN; omega
  obtain ⟨i3, hi3, hz3, hs3, hb3⟩ := int_parts
  have HI3 := Lib.hid hi3
  have HZ3 := Lib.hid hz3
  have HS3 := Lib.hid hs3
  have HB3 := Lib.hid hb3
  have HL60 : Hid (L.length ≤ 60) := hfew.1
  clear hi3 hz3 hs3 hb3 h hx0 hl h2 hfew hg1 hg2 hg3 hsum htj hn
  go_enter Try.func6, Try.ntmps6
  go_wp2_with (first | (go_at_call 8; (with_reducible refine (awake11_c _).mono ?_); rintro e w1 ⟨rfl, XA, dA, rfl⟩) | (go_at_call 26; (with_reducible refine (few_c (.slice A n cap) L _ (HX0.out.below (by (repeat (first | (with_reducible exact Below.refl _ _) | (with_reducible assumption) | (with_reducible refine Below.grow ?_ ?_ _ _) | (with_reducible refine Below.drewN' ?_ _) | (with_reducible refine Below.drew ?_) | (with_reducible refine Below.alloc ?_ ?_ _) | (with_reducible refine Below.setCell ?_ ?_ _) | omega | (focus (simp; done)) | (focus (simp; omega)))))) HLM.out).mono ?_); rw [HFB.out]; rintro e w1 ⟨rfl, rfl⟩) | (go_at_call 27; (with_reducible refine (gsane9_c (.slice A n cap) L _ (HX.out.below (by (repeat (first | (with_reducible exact Below.refl _ _) | (with_reducible assumption) | (with_reducible refine Below.grow ?_ ?_ _ _) | (with_reducible refine Below.drewN' ?_ _) | (with_reducible refine Below.drew ?_) | (with_reducible refine Below.alloc ?_ ?_ _) | (with_reducible refine Below.setCell ?_ ?_ _) | omega | (focus (simp; done)) | (focus (simp; omega)))))) HL5.out).mono ?_); rw [HGS.out]; rintro e w1 ⟨rfl, XS, dS, rfl⟩) | (go_at_call 22; (with_reducible refine (join_c (.slice A n cap) L _ (HX.out.below (by (repeat (first | (with_reducible exact Below.refl _ _) | (with_reducible assumption) | (with_reducible refine Below.grow ?_ ?_ _ _) | (with_reducible refine Below.drewN' ?_ _) | (with_reducible refine Below.drew ?_) | (with_reducible refine Below.alloc ?_ ?_ _) | (with_reducible refine Below.setCell ?_ ?_ _) | omega | (focus (simp; done)) | (focus (simp; omega)))))) HL1.out HA.out HT.out).mono ?_); rintro e w2 ⟨u2, M, rfl, hb2, hm2, hms, hm3, hm4⟩; have HM := Lib.hid hm2; have HMS := Lib.hid hms; have HM4 := Lib.hid hm4; have HB2 := Lib.hid hb2; clear hb2 hm2 hms hm3 hm4))
  have hbw2 : Below w.heap.size w w2 := by
    have h0 := HB2.out
    refine Below.trans ?_ (h0.mono ?_)
    · (repeat (first | (with_reducible exact Below.refl _ _) | (with_reducible assumption) | (with_reducible refine Below.grow ?_ ?_ _ _) | (with_reducible refine Below.drewN' ?_ _) | (with_reducible refine Below.drew ?_) | (with_reducible refine Below.alloc ?_ ?_ _) | (with_reducible refine Below.setCell ?_ ?_ _) | omega | (focus (simp; done)) | (focus (simp; omega))))
    · first | (simp; done) | (simp; omega)
  have HBW2 := Lib.hid hbw2
  obtain ⟨A2, c2, hu2, hc2⟩ := HM.out.1.len
  subst hu2
  obtain ⟨m, hm⟩ : ∃ m, M.length = m := ⟨_, rfl⟩
  have HML := Lib.hid hm
  have hm60 : m ≤ 60 := by have := HM4.out; have := HL60.out; omega
  have HM5 : Hid (M.length ≤ 100000) := by show _ ≤ _; omega
  have HTM : Hid (tot M ≤ 10000000) := by show _ ≤ _; rw [tot_eq, HMS.out]; have := HJT.out; omega
  have HMX := HM.out
  rw [hm] at HMX hc2 ⊢
  replace HM : Hid (RdL w2 (.slice A2 m c2) M) := HMX
  have HLET : Hid ((letM (M.map Ln.cs)).length ≤ 6000) := by
    show _ ≤ _
    have h := letM_len (M.map Ln.ls)
    rw [List.map_map, HMS.out] at h
    exact Nat.le_trans h HJT.out
  clear hm HMX hbw2
  go_loopw [8, 9] (fun v i wz => ∃ k : Nat, k ≤ m ∧ i = .int .i64 k ∧ Hid (OwnI wz w2.heap.size 3 v (letM ((M.map Ln.cs).take k))) ∧ Below w2.heap.size w2 wz) (fun _ i _ => m - (intOf i).toNat)
  case atStart => exact ⟨0, Nat.zero_le _, rfl, OwnI.nil _ _ _, Below.refl _ _⟩
  case round =>
    obtain ⟨k, hk, rfl, HV, hbz⟩ := hrel
    by_cases hlt : k < m
    · have hltI : (k : Int) < m := by omega
      have hkl : k < M.length := by rw [HML.out]; exact hlt
      have HCC : Hid ((M.map Ln.cs)[k]? = some M[k].cs) := by show _ = _; rw [List.getElem?_map, List.getElem?_eq_getElem hkl]; rfl
      obtain ⟨b, o, rfl, hbl, hat, hok⟩ := (HM.out.below hbz).at_ hkl
      have HOK : Hid (M[k].ok w2) := HM.out.2 _ (List.getElem_mem hkl)
      have HAT : Hid (∀ wz, Below w2.heap.size w2 wz → wz.cell? ⟨b, o + k * 3, none⟩ = some (.slice M[k].A M[k].cs.length M[k].cap)) := fun wz hb => by
        obtain ⟨b9, o9, e9, -, hat9, -⟩ := (HM.out.below hb).at_ hkl
        injection e9 with e9
        injection e9 with e9 e8
        subst e9 e8
        exact hat9.1
      obtain ⟨q, hq⟩ : ∃ q, M[k].cs.length = q := ⟨_, rfl⟩
      rw [hq] at HAT
      have HQL := Lib.hid hq
      generalize M[k] = le at *
      have HQ0 : Hid (le.cs.length = q) := HQL.out
      have HRDC : Hid (∀ wz, Below w2.heap.size w2 wz → ∀ (j : Nat) (ce : Cl), le.cs[j]? = some ce → ∃ bc oc, le.A = some ⟨bc, oc, none⟩ ∧ bc < wz.heap.size ∧ CellAt wz bc (oc + j * 7) ce) := fun wz hb j ce h => rdC_at (HOK.out.rd.below hb) h
      obtain ⟨p0, p1, p2⟩ := hat
      rw [hq] at p0
      have hq7 : q ≤ 10000000 := by rw [← hq]; exact HOK.out.len
      clear hq hok
      obtain ⟨CC, hCC⟩ : ∃ CC, (M.map Ln.cs)[k]? = some CC := ⟨_, HCC.out⟩
      have hTK : (M.map Ln.cs).take (k + 1) = (M.map Ln.cs).take k ++ [CC] := by rw [List.take_add_one, hCC]; rfl
      have hTL := letM_take (M.map Ln.cs) (k + 1)
      rw [hTK, letM_app, letM_one, List.length_append] at hTL
      have hTT := HLET.out
      have HTL : Hid ((letM ((M.map Ln.cs).take k)).length + (letC CC).length ≤ 6000) := by show _ ≤ _; omega
      have HTK : Hid (letM ((M.map Ln.cs).take (k + 1)) = letM ((M.map Ln.cs).take k) ++ letC CC) := by show _ = _; rw [hTK, letM_app, letM_one]
      have HCE : Hid (CC = le.cs) := by have := HCC.out; rw [hCC] at this; injection this
      have HQ : Hid (CC.length = q) := by show _ = _; rw [HCE.out]; exact HQ0.out
      rw [← HCE.out] at HRDC
      clear hTK hTL hTT hCC
      obtain ⟨zs, hzs⟩ : ∃ zs, letM ((M.map Ln.cs).take k) = zs := ⟨_, rfl⟩
      rw [hzs] at HV HTK HTL
      obtain ⟨wo, rfl⟩ : ∃ wo, wo = wr := ⟨_, rfl⟩
      have HBZ := Lib.hid hbz
      clear hzs hbz p0 p1 p2
      go_wp2_with fail
      go_loopw [8, 10] (fun v i wz => ∃ j : Nat, j ≤ q ∧ i = .int .i64 j ∧ Hid (OwnI wz w2.heap.size 3 v (zs ++ letC (CC.take j))) ∧ Below w2.heap.size w2 wz) (fun _ i _ => q - (intOf i).toNat)
      case atStart => exact ⟨0, Nat.zero_le _, rfl, by show OwnI _ _ _ _ _; rw [List.take_zero, show letC [] = [] from rfl, List.append_nil]; exact HV.out, HBZ.out⟩
      case round =>
        obtain ⟨j, hj, rfl, HW, hbz⟩ := hrel
        have hbzs := hbz.size
        have p0 := HAT.out _ hbz
        by_cases hjq : j < q
        · have hjI : (j : Int) < q := by omega
          obtain ⟨ce, hce⟩ : ∃ ce, CC[j]? = some ce := ⟨_, List.getElem?_eq_getElem (by rw [HQ.out]; exact hjq)⟩
          have HTJ : Hid (CC.take (j + 1) = CC.take j ++ [ce]) := by show _ = _; rw [List.take_add_one, hce]; rfl
          obtain ⟨bc, oc, hA, -, hat2⟩ := HRDC.out wr hbz j ce hce
          rw [hA] at p0
          obtain ⟨c0, c1, c2, c3, c4, c5, c6⟩ := hat2
          have HLE : Hid ((zs ++ letC (CC.take j)).length + [ce.r].length ≤ 65536) := by
            show _ ≤ _
            have h1 := letC_len (CC.take j)
            have h2 := HTL.out
            have h3 : (letC (CC.take j)).length ≤ (letC CC).length := by
              have h := letC_app (CC.take j) (CC.drop j)
              rw [List.take_append_drop] at h
              rw [h, List.length_append]
              omega
            rw [List.length_append, List.length_singleton]
            omega
          by_cases hr0 : ce.r = 0
          · have hrb : (ce.r != 0) = false := by rw [hr0]; rfl
            have HLS : Hid (letC (CC.take (j + 1)) = letC (CC.take j)) := by show _ = _; rw [HTJ.out, letC_app, letC_one, if_pos hr0, List.append_nil]
            clear hr0
            go_wp2_with fail
            go_roundw
            case rel => exact ⟨j + 1, by omega, by go_num, by show OwnI _ _ _ _ _; rw [HLS.out]; exact HW.out, hbz⟩
            case measure => simp [intOf]; omega
          · have hrb : (ce.r != 0) = true := by simpa using hr0
            have HLS : Hid (zs ++ letC (CC.take (j + 1)) = (zs ++ letC (CC.take j)) ++ [ce.r]) := by show _ = _; rw [HTJ.out, letC_app, letC_one, if_neg hr0, List.append_assoc]
            have HBB := Lib.hid hbz
            clear hr0
            go_wp2_with (at_builtin; go_loud (refine wpList_append_ints rfl _ _ _ rfl w2.heap.size 3 i3 rfl HI3.out HZ3.out HS3.out HB3.out _ _ (zs ++ letC (CC.take j)) [ce.r] rfl rfl (ownI_alloc HW.out _) (rdI_one _ _ _ _ rfl) HLE.out (Nat.le_trans HBB.out.size (by simp)) ?_; intro v6 w6 hv6 hgb6 hor6))
            replace hgb6 : World.grownBy _ w6 u8.ownBlock := hgb6
            have hb6 : Below w2.heap.size w2 w6 := below_own (hbz.alloc hbzs _) hgb6 (fun g hg => (HW.out.lt hg).1) (Nat.le_trans hbzs (by simp))
            go_roundw
            case rel => exact ⟨j + 1, by omega, by go_num, by show OwnI _ _ _ _ _; rw [HLS.out]; exact hv6, hb6⟩
            case measure => simp [intOf]; omega
        · obtain rfl : q = j := by omega
          have HLL : Hid (CC.take q = CC) := List.take_of_length_le (by rw [HQ.out]; exact Nat.le_refl _)
          go_wp2_with fail
          go_roundw
          case rel => exact ⟨k + 1, by omega, by go_num, by show OwnI _ _ _ _ _; have h := HW.out; rw [HLL.out] at h; rw [HTK.out]; exact h, hbz⟩
          case measure => simp [intOf]; omega
    · obtain rfl : m = k := by omega
      have HLA : Hid (letM ((M.map Ln.cs).take m) = letM (M.map Ln.cs)) := by show _ = _; rw [List.take_of_length_le (by rw [List.length_map, HML.out]; exact Nat.le_refl _)]
      obtain ⟨LA, hLA⟩ : ∃ LA, letM (M.map Ln.cs) = LA := ⟨_, rfl⟩
      rw [HLA.out, hLA] at HV
      have HLAE := Lib.hid hLA
      have HBA := Lib.hid hbz
      have HA6 : Hid (LA.length ≤ 9223372036854775806) := by show _ ≤ _; rw [← hLA]; have := HLET.out; omega
      obtain ⟨wa, rfl⟩ : ∃ wa, wa = wr := ⟨_, rfl⟩
      obtain ⟨va, rfl⟩ : ∃ va, va = u8 := ⟨_, rfl⟩
      clear hLA
      go_wp2_with (go_at_call 14; (with_reducible refine (spread_c (.slice A2 m c2) M (2 + (a : Int)) _ (HM.out.below HBA.out) HM5.out HTM.out).mono ?_); rintro e w4 ⟨u4, R4, rfl, hb4, hr4, hs4⟩; rw [HMS.out] at hs4; have HR4 := Lib.hid hr4.rd; have HS4 := Lib.hid hs4; have HB4 := Lib.hid hb4; clear hb4 hr4 hs4)
      obtain ⟨A4, c4, hu4, hc4⟩ := HR4.out.1.len
      subst hu4
      obtain ⟨nr, hnr⟩ : ∃ nr, R4.length = nr := ⟨_, rfl⟩
      have HRL := Lib.hid hnr
      have HRX := HR4.out
      rw [hnr] at HRX hc4 ⊢
      replace HR4 : Hid (RdR w4 (.slice A4 nr c4) R4) := HRX
      have HRM : Hid (m ≤ nr) := by
        show _ ≤ _
        rw [← hnr, sh_len HS4.out]
        have h1 := spread_more (v := 2 + (a : Int)) HSJ.out
        have h2 : (joinR L).length = m := by rw [← HMS.out, List.length_map]; exact HML.out
        omega
      have HMLB : Hid (letM (R4.map (fun r => listF r.n r.f)) = LA) := by
        show _ = _
        have h := spread_letters (v := 2 + (a : Int)) HSJ.out HWN.out
        rw [← HS4.out, List.map_map, ← HMS.out, List.map_map] at h
        rw [← HLAE.out]
        exact h
      replace HLET : Hid ((letM (R4.map (fun r => listF r.n r.f))).length ≤ 6000) := by show _ ≤ _; rw [HMLB.out, ← HLAE.out]; exact HLET.out
      have HVA : Hid (OwnI w4 w2.heap.size 3 va LA) := HV.out.below HB4.out (Nat.le_refl _)
      have hm1 : 1 ≤ m := by have := HJ1.out; have h2 : (joinR L).length = m := by rw [← HMS.out, List.length_map]; exact HML.out
                             omega
      have hnr5 : nr ≤ 20000000 := by
        rw [← hnr, sh_len HS4.out, ← HMS.out]
        have := spread_len (2 + (a : Int)) M
        have := HTM.out
        omega
      clear hnr HRX HLA
      go_wp2_with fail
      go_loopw [11, 13] (fun v i wz => ∃ k : Nat, k ≤ nr ∧ i = .int .i64 k ∧ Hid (OwnI wz w4.heap.size 3 v (letM ((R4.map (fun r => listF r.n r.f)).take k))) ∧ Below w4.heap.size w4 wz) (fun _ i _ => nr - (intOf i).toNat)
      case atStart => exact ⟨0, Nat.zero_le _, rfl, OwnI.nil _ _ _, Below.refl _ _⟩
      case round =>
        obtain ⟨k, hk, rfl, HV, hbz⟩ := hrel
        by_cases hlt : k < nr
        · have hltI : (k : Int) < nr := by omega
          have hkl : k < R4.length := by rw [HRL.out]; exact hlt
          have HCC : Hid ((R4.map (fun r => listF r.n r.f))[k]? = some (listF R4[k].n R4[k].f)) := by show _ = _; rw [List.getElem?_map, List.getElem?_eq_getElem hkl]; rfl
          obtain ⟨b, o, rfl, hbl, hat, hok⟩ := (HR4.out.below hbz).at_ hkl
          have HOK : Hid (R4[k].ok w4) := HR4.out.2 _ (List.getElem_mem hkl)
          have HAT : Hid (∀ wz, Below w4.heap.size w4 wz → wz.cell? ⟨b, o + k * 4, none⟩ = some (.slice R4[k].A R4[k].n R4[k].cap)) := fun wz hb => by
            obtain ⟨b9, o9, e9, -, hat9, -⟩ := (HR4.out.below hb).at_ hkl
            injection e9 with e9
            injection e9 with e9 e8
            subst e9 e8
            exact hat9.1
          generalize R4[k] = r at *
          obtain ⟨q, hq⟩ : ∃ q, r.n = q := ⟨_, rfl⟩
          rw [hq] at HAT
          have HQ0 : Hid ((listF r.n r.f).length = q) := by show _ = _; rw [listF_len]; exact hq
          have HRDC : Hid (∀ wz, Below w4.heap.size w4 wz → ∀ (j : Nat) (ce : Cl), (listF r.n r.f)[j]? = some ce → ∃ bc oc, r.A = some ⟨bc, oc, none⟩ ∧ bc < wz.heap.size ∧ CellAt wz bc (oc + j * 7) ce) := fun wz hb j ce h => rdC_at ((rd_toX HOK.out.1 HOK.out.2.1).below hb) h
          obtain ⟨p0, p1, p2, p3⟩ := hat
          rw [hq] at p0
          have hq7 : q ≤ 10000000 := by have := hok.2.2; omega
          clear hq hok
          obtain ⟨CC, hCC⟩ : ∃ CC, (R4.map (fun r => listF r.n r.f))[k]? = some CC := ⟨_, HCC.out⟩
          have hTK : (R4.map (fun r => listF r.n r.f)).take (k + 1) = (R4.map (fun r => listF r.n r.f)).take k ++ [CC] := by rw [List.take_add_one, hCC]; rfl
          have hTL := letM_take (R4.map (fun r => listF r.n r.f)) (k + 1)
          rw [hTK, letM_app, letM_one, List.length_append] at hTL
          have hTT := HLET.out
          have HTL : Hid ((letM ((R4.map (fun r => listF r.n r.f)).take k)).length + (letC CC).length ≤ 6000) := by show _ ≤ _; omega
          have HTK : Hid (letM ((R4.map (fun r => listF r.n r.f)).take (k + 1)) = letM ((R4.map (fun r => listF r.n r.f)).take k) ++ letC CC) := by show _ = _; rw [hTK, letM_app, letM_one]
          have HCE : Hid (CC = listF r.n r.f) := by have := HCC.out; rw [hCC] at this; injection this
          have HQ : Hid (CC.length = q) := by show _ = _; rw [HCE.out]; exact HQ0.out
          rw [← HCE.out] at HRDC
          clear hTK hTL hTT hCC
          obtain ⟨zs, hzs⟩ : ∃ zs, letM ((R4.map (fun r => listF r.n r.f)).take k) = zs := ⟨_, rfl⟩
          rw [hzs] at HV HTK HTL
          obtain ⟨wo, rfl⟩ : ∃ wo, wo = wr := ⟨_, rfl⟩
          have HBZ := Lib.hid hbz
          clear hzs hbz p0 p1 p2 p3
          go_wp2_with fail
          go_loopw [11, 14] (fun v i wz => ∃ j : Nat, j ≤ q ∧ i = .int .i64 j ∧ Hid (OwnI wz w4.heap.size 3 v (zs ++ letC (CC.take j))) ∧ Below w4.heap.size w4 wz) (fun _ i _ => q - (intOf i).toNat)
          case atStart => exact ⟨0, Nat.zero_le _, rfl, by show OwnI _ _ _ _ _; rw [List.take_zero, show letC [] = [] from rfl, List.append_nil]; exact HV.out, HBZ.out⟩
          case round =>
            obtain ⟨j, hj, rfl, HW, hbz⟩ := hrel
            have hbzs := hbz.size
            have p0 := HAT.out _ hbz
            by_cases hjq : j < q
            · have hjI : (j : Int) < q := by omega
              obtain ⟨ce, hce⟩ : ∃ ce, CC[j]? = some ce := ⟨_, List.getElem?_eq_getElem (by rw [HQ.out]; exact hjq)⟩
              have HTJ : Hid (CC.take (j + 1) = CC.take j ++ [ce]) := by show _ = _; rw [List.take_add_one, hce]; rfl
              obtain ⟨bc, oc, hA, -, hat2⟩ := HRDC.out wr hbz j ce hce
              rw [hA] at p0
              obtain ⟨c0, c1, c2, c3, c4, c5, c6⟩ := hat2
              have HLE : Hid ((zs ++ letC (CC.take j)).length + [ce.r].length ≤ 65536) := by
                show _ ≤ _
                have h1 := letC_len (CC.take j)
                have h2 := HTL.out
                have h3 : (letC (CC.take j)).length ≤ (letC CC).length := by
                  have h := letC_app (CC.take j) (CC.drop j)
                  rw [List.take_append_drop] at h
                  rw [h, List.length_append]
                  omega
                rw [List.length_append, List.length_singleton]
                omega
              by_cases hr0 : ce.r = 0
              · have hrb : (ce.r != 0) = false := by rw [hr0]; rfl
                have HLS : Hid (letC (CC.take (j + 1)) = letC (CC.take j)) := by show _ = _; rw [HTJ.out, letC_app, letC_one, if_pos hr0, List.append_nil]
                clear hr0
                go_wp2_with fail
                go_roundw
                case rel => exact ⟨j + 1, by omega, by go_num, by show OwnI _ _ _ _ _; rw [HLS.out]; exact HW.out, hbz⟩
                case measure => simp [intOf]; omega
              · have hrb : (ce.r != 0) = true := by simpa using hr0
                have HLS : Hid (zs ++ letC (CC.take (j + 1)) = (zs ++ letC (CC.take j)) ++ [ce.r]) := by show _ = _; rw [HTJ.out, letC_app, letC_one, if_neg hr0, List.append_assoc]
                have HBB := Lib.hid hbz
                clear hr0
                go_wp2_with (at_builtin; go_loud (refine wpList_append_ints rfl _ _ _ rfl w4.heap.size 3 i3 rfl HI3.out HZ3.out HS3.out HB3.out _ _ (zs ++ letC (CC.take j)) [ce.r] rfl rfl (ownI_alloc HW.out _) (rdI_one _ _ _ _ rfl) HLE.out (Nat.le_trans HBB.out.size (by simp)) ?_; intro v6 w6 hv6 hgb6 hor6))
                replace hgb6 : World.grownBy _ w6 u11.ownBlock := hgb6
                have hb6 : Below w4.heap.size w4 w6 := below_own (hbz.alloc hbzs _) hgb6 (fun g hg => (HW.out.lt hg).1) (Nat.le_trans hbzs (by simp))
                go_roundw
                case rel => exact ⟨j + 1, by omega, by go_num, by show OwnI _ _ _ _ _; rw [HLS.out]; exact hv6, hb6⟩
                case measure => simp [intOf]; omega
            · obtain rfl : q = j := by omega
              have HLL : Hid (CC.take q = CC) := List.take_of_length_le (by rw [HQ.out]; exact Nat.le_refl _)
              go_wp2_with fail
              go_roundw
              case rel => exact ⟨k + 1, by omega, by go_num, by show OwnI _ _ _ _ _; have h := HW.out; rw [HLL.out] at h; rw [HTK.out]; exact h, hbz⟩
              case measure => simp [intOf]; omega
        · obtain rfl : nr = k := by omega
          have HLB : Hid (letM ((R4.map (fun r => listF r.n r.f)).take nr) = LA) := by show _ = _; rw [List.take_of_length_le (by rw [List.length_map, HRL.out]; exact Nat.le_refl _)]; exact HMLB.out
          rw [HLB.out] at HV
          have HBB := Lib.hid hbz
          have hmr : m ≤ nr := HRM.out
          have hmI : (m : Int) ≤ nr := by omega
          have hmI1 : (1 : Int) ≤ m := by omega
          have HVAZ : Hid (OwnI wr w2.heap.size 3 va LA) := HVA.out.below hbz (Nat.le_refl _)
          have hbws : Below w.heap.size w wr := HBW2.out.trans ((HBA.out.trans ((HB4.out.trans (hbz.mono HB4.out.size)).mono HBA.out.size)).mono HBW2.out.size)
          go_wp2_with (go_at_call 28; go_loud ((with_reducible refine (ints_c va u11 LA LA _ HVAZ.out.rd HV.out.rd HA6.out HA6.out).mono ?_); rw [decide_eq_true (rfl : LA = LA)]; rintro e w6 ⟨rfl, d6, rfl⟩))
          go_ret
          exact ⟨rfl, (Below.toGrow (by repeat (first | (with_reducible exact Below.refl _ _) | (with_reducible assumption) | (with_reducible refine Below.grow ?_ ?_ _ _) | (with_reducible refine Below.drewN' ?_ _) | (with_reducible refine Below.drew ?_) | (with_reducible refine Below.alloc ?_ ?_ _) | (with_reducible refine Below.setCell ?_ ?_ _) | omega | (focus (simp; done)) | (focus (simp; omega)))))⟩
theorem let_law (x : Value) (v : Int) (L : List Rw) (w : World) (hx : RdR0 w x L) (hl : L.length ≤ maxLen) : Calls Try.prog 6 #[x, .int .i64 v] w fun e w' => e = .returned (.bool true) ∧ Grew w w' := by
  cases h : fewB L
  · exact let_few x v L w hx hl h
  · cases h2 : gsaneB L
    · exact let_sane x v L w hx hl h h2
    · exact let_yes x v L w hx hl h h2
end Go.Proofs.Ytlgnchhhadnjbaa.Row
