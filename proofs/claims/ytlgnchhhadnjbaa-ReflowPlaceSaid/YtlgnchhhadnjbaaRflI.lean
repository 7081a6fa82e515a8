/- Walk of lapwinglaw11.ReflowPlace. -/
import Derived.Test.YtlgnchhhadnjbaaRflH
namespace Go.Proofs.Ytlgnchhhadnjbaa.Row
open Go.RowKit
theorem maskP (w : Int) : ∃ a : Nat, bits .and .i64 w 65535 = (a : Int) ∧ a ≤ 65535 := by
  have h := and_mask 16 (by omega) w
  refine ⟨(w % 65536).toNat, ?_, by omega⟩
  have e : bits .and .i64 w 65535 = w % 65536 := h
  rw [e]
  omega
set_option maxRecDepth 100000 in
set_option maxHeartbeats 4000000 in
theorem place_few (x : Value) (w1 w2 y p : Int) (L : List Ln) (w : World) (hx : RdL0 w x L) (hl : L.length ≤ maxLen) (h : few11B L = false) : Calls Try.prog 5 #[x, .int .i64 w1, .int .i64 w2, .int .i64 y, .int .i64 p] w fun e w' => e = .returned (.bool true) ∧ Grew w w' := by
  obtain ⟨A, cap, rfl, hc⟩ := hx.1.len
  have HLM := Lib.hid hl
  obtain ⟨n, hn⟩ : ∃ n, L.length = n := ⟨_, rfl⟩
  have hx0 := hx
  clear hx
  rw [hn] at hx0 ⊢
  have HX0 : Hid (RdL0 w (.slice A n cap) L) := hx0
  have HN := Lib.hid hn
  have HFB := Lib.hid h
  clear h hx0 hl hn
  go_enter Try.func5, Try.ntmps5
  go_wp2_with (first | (go_at_call 8; (with_reducible refine (awake11_c _).mono ?_); rintro e w1 ⟨rfl, XA, dA, rfl⟩) | (go_at_call 9; (with_reducible refine (few11_c (.slice A n cap) L _ (HX0.out.below (by (repeat (first | (with_reducible exact Below.refl _ _) | (with_reducible assumption) | (with_reducible refine Below.grow ?_ ?_ _ _) | (with_reducible refine Below.drewN' ?_ _) | (with_reducible refine Below.drew ?_) | (with_reducible refine Below.alloc ?_ ?_ _) | (with_reducible refine Below.setCell ?_ ?_ _) | omega | (focus (simp; done)) | (focus (simp; omega)))))) HLM.out).mono ?_); rw [HFB.out]; rintro e w1 ⟨rfl, rfl⟩))
  go_ret
  exact ⟨rfl, (Below.toGrow (by repeat (first | (with_reducible exact Below.refl _ _) | (with_reducible assumption) | (with_reducible refine Below.grow ?_ ?_ _ _) | (with_reducible refine Below.drewN' ?_ _) | (with_reducible refine Below.drew ?_) | (with_reducible refine Below.alloc ?_ ?_ _) | (with_reducible refine Below.setCell ?_ ?_ _) | omega | (focus (simp; done)) | (focus (simp; omega)))))⟩
set_option maxRecDepth 100000 in
set_option maxHeartbeats 4000000 in
theorem place_clean (x : Value) (w1 w2 y p : Int) (L : List Ln) (w : World) (hx : RdL0 w x L) (hl : L.length ≤ maxLen) (h : few11B L = true) (h2 : cleanB L = false) : Calls Try.prog 5 #[x, .int .i64 w1, .int .i64 w2, .int .i64 y, .int .i64 p] w fun e w' => e = .returned (.bool true) ∧ Grew w w' := by
  obtain ⟨A, cap, rfl, hc⟩ := hx.1.len
  have HLM := Lib.hid hl
  obtain ⟨n, hn⟩ : ∃ n, L.length = n := ⟨_, rfl⟩
  have hx0 := hx
  clear hx
  rw [hn] at hx0 ⊢
  have HX0 : Hid (RdL0 w (.slice A n cap) L) := hx0
  have HN := Lib.hid hn
  have HFB := Lib.hid h
  have hfew := few11_iff.1 h
  have HX : Hid (RdL w (.slice A n cap) L) := hx0.few h
  have HL5 : Hid (L.length ≤ 100000) := by show _ ≤ _; omega
  have HCB := Lib.hid h2
  clear h hx0 hl hn h2 hfew
  go_enter Try.func5, Try.ntmps5
  go_wp2_with (first | (go_at_call 8; (with_reducible refine (awake11_c _).mono ?_); rintro e w1 ⟨rfl, XA, dA, rfl⟩) | (go_at_call 9; (with_reducible refine (few11_c (.slice A n cap) L _ (HX0.out.below (by (repeat (first | (with_reducible exact Below.refl _ _) | (with_reducible assumption) | (with_reducible refine Below.grow ?_ ?_ _ _) | (with_reducible refine Below.drewN' ?_ _) | (with_reducible refine Below.drew ?_) | (with_reducible refine Below.alloc ?_ ?_ _) | (with_reducible refine Below.setCell ?_ ?_ _) | omega | (focus (simp; done)) | (focus (simp; omega)))))) HLM.out).mono ?_); rw [HFB.out]; rintro e w1 ⟨rfl, rfl⟩) | (go_at_call 20; (with_reducible refine (clean_c (.slice A n cap) L _ (HX.out.below (by (repeat (first | (with_reducible exact Below.refl _ _) | (with_reducible assumption) | (with_reducible refine Below.grow ?_ ?_ _ _) | (with_reducible refine Below.drewN' ?_ _) | (with_reducible refine Below.drew ?_) | (with_reducible refine Below.alloc ?_ ?_ _) | (with_reducible refine Below.setCell ?_ ?_ _) | omega | (focus (simp; done)) | (focus (simp; omega)))))) HL5.out).mono ?_); rw [HCB.out]; rintro e w1 ⟨rfl, XC, dC, rfl⟩))
  go_ret
  exact ⟨rfl, (Below.toGrow (by repeat (first | (with_reducible exact Below.refl _ _) | (with_reducible assumption) | (with_reducible refine Below.grow ?_ ?_ _ _) | (with_reducible refine Below.drewN' ?_ _) | (with_reducible refine Below.drew ?_) | (with_reducible refine Below.alloc ?_ ?_ _) | (with_reducible refine Below.setCell ?_ ?_ _) | omega | (focus (simp; done)) | (focus (simp; omega)))))⟩
set_option maxRecDepth 100000 in
set_option maxHeartbeats 4000000 in
theorem place_yes (x : Value) (w1 w2 y p : Int) (L : List Ln) (w : World) (hx : RdL0 w x L) (hl : L.length ≤ maxLen) (h : few11B L = true) (h2 : cleanB L = true) : Calls Try.prog 5 #[x, .int .i64 w1, .int .i64 w2, .int .i64 y, .int .i64 p] w fun e w' => e = .returned (.bool true) ∧ Grew w w' := by
  obtain ⟨A, cap, rfl, hc⟩ := hx.1.len
  have HLM := Lib.hid hl
  obtain ⟨n, hn⟩ : ∃ n, L.length = n := ⟨_, rfl⟩
  have hx0 := hx
  clear hx
  rw [hn] at hx0 ⊢
  have HX0 : Hid (RdL0 w (.slice A n cap) L) := hx0
  have HN := Lib.hid hn
  have HFB := Lib.hid h
  have hfew := few11_iff.1 h
  have HX : Hid (RdL w (.slice A n cap) L) := hx0.few h
  have HL5 : Hid (L.length ≤ 100000) := by show _ ≤ _; omega
  have HCB := Lib.hid h2
  have hcl := clean_iff.1 h2
  have HSX : Hid (∀ x ∈ L.map Ln.ls, sanL x = true ∧ ∀ c ∈ x.cs, c ≠ blank 0 0 0) := fun x hx => by
    obtain ⟨l, hl, rfl⟩ := List.mem_map.1 hx
    exact hcl l hl
  have htot := few_tot hfew.2
  have HTM8 : Hid (tot L ≤ 8040) := by show _ ≤ _; have := hfew.1; omega
  have HTM : Hid (tot L ≤ 10000000) := by show _ ≤ _; have := HTM8.out; omega
  obtain ⟨a, hmask, ha5⟩ := maskT w1
  obtain ⟨b, hmaskb, hb5⟩ := maskT w2
  have hwr : IntKind.i64.wrap (2 + (a : Int)) = 2 + (a : Int) := by rw [IntWalk.i64_left]; exact IntWalk.wrap64_in _ (by omega)
  have hwrb : IntKind.i64.wrap (2 + (b : Int)) = 2 + (b : Int) := by rw [IntWalk.i64_left]; exact IntWalk.wrap64_in _ (by omega)
  have HWN : Hid (wN (2 + (a : Int)) = a + 2) := by show _ = _; unfold wN; omega
  have HWNB : Hid (wN (2 + (b : Int)) = b + 2) := by show _ = _; unfold wN; omega
  clear h hx0 hl h2 hfew hcl htot
  go_enter Try.func5, Try.ntmps5
  go_upto_region 7 with (first | (go_at_call 8; (with_reducible refine (awake11_c _).mono ?_); rintro e w1 ⟨rfl, XA, dA, rfl⟩) | (go_at_call 9; (with_reducible refine (few11_c (.slice A n cap) L _ (HX0.out.below (by (repeat (first | (with_reducible exact Below.refl _ _) | (with_reducible assumption) | (with_reducible refine Below.grow ?_ ?_ _ _) | (with_reducible refine Below.drewN' ?_ _) | (with_reducible refine Below.drew ?_) | (with_reducible refine Below.alloc ?_ ?_ _) | (with_reducible refine Below.setCell ?_ ?_ _) | omega | (focus (simp; done)) | (focus (simp; omega)))))) HLM.out).mono ?_); rw [HFB.out]; rintro e w1 ⟨rfl, rfl⟩) | (go_at_call 20; (with_reducible refine (clean_c (.slice A n cap) L _ (HX.out.below (by (repeat (first | (with_reducible exact Below.refl _ _) | (with_reducible assumption) | (with_reducible refine Below.grow ?_ ?_ _ _) | (with_reducible refine Below.drewN' ?_ _) | (with_reducible refine Below.drew ?_) | (with_reducible refine Below.alloc ?_ ?_ _) | (with_reducible refine Below.setCell ?_ ?_ _) | omega | (focus (simp; done)) | (focus (simp; omega)))))) HL5.out).mono ?_); rw [HCB.out]; rintro e w1 ⟨rfl, XC, dC, rfl⟩) | (go_at_call 10; (with_reducible refine (ours_c (.slice A n cap) L _ (HX.out.below (by (repeat (first | (with_reducible exact Below.refl _ _) | (with_reducible assumption) | (with_reducible refine Below.grow ?_ ?_ _ _) | (with_reducible refine Below.drewN' ?_ _) | (with_reducible refine Below.drew ?_) | (with_reducible refine Below.alloc ?_ ?_ _) | (with_reducible refine Below.setCell ?_ ?_ _) | omega | (focus (simp; done)) | (focus (simp; omega)))))) HL5.out).mono ?_); rintro e w2 ⟨u2, rfl, hb2, hu2⟩; have HU2 := Lib.hid hu2; have HB2 := Lib.hid hb2; clear hb2 hu2) | (go_at_call 14; (with_reducible refine (spread_c u2 L (2 + (a : Int)) _ (HU2.out.below (by (repeat (first | (with_reducible exact Below.refl _ _) | (with_reducible assumption) | (with_reducible refine Below.grow ?_ ?_ _ _) | (with_reducible refine Below.drewN' ?_ _) | (with_reducible refine Below.drew ?_) | (with_reducible refine Below.alloc ?_ ?_ _) | (with_reducible refine Below.setCell ?_ ?_ _) | omega | (focus (simp; done)) | (focus (simp; omega)))))) HL5.out HTM.out).mono ?_); rintro e w4 ⟨u4, R, rfl, hb4, hr4, hs4⟩; have HR4 := Lib.hid hr4.rd; have HS4 := Lib.hid hs4; have HB4 := Lib.hid hb4; clear hb4 hr4 hs4))
  have hbw2 : Below w.heap.size w w2 := by
    have h0 := HB2.out
    refine Below.trans ?_ (h0.mono ?_)
    · (repeat (first | (with_reducible exact Below.refl _ _) | (with_reducible assumption) | (with_reducible refine Below.grow ?_ ?_ _ _) | (with_reducible refine Below.drewN' ?_ _) | (with_reducible refine Below.drew ?_) | (with_reducible refine Below.alloc ?_ ?_ _) | (with_reducible refine Below.setCell ?_ ?_ _) | omega | (focus (simp; done)) | (focus (simp; omega))))
    · first | (simp; done) | (simp; omega)
  have hbw4 : Below w.heap.size w w4 := hbw2.trans (HB4.out.mono hbw2.size)
  have HBW4 := Lib.hid hbw4
  have hsp := spread_sane (v := 2 + (a : Int)) (by rw [HWN.out]; omega) HS4.out (fun x hx => (HSX.out x hx).1)
  have HAR : Hid (areB R = true) := hsp.1
  have HRN : Hid (∀ r ∈ R, r.n = a + 2) := fun r hr => (hsp.2 r hr).trans HWN.out
  have HR1 : Hid (∀ r ∈ R, 1 ≤ r.n) := fun r hr => by have := HRN.out r hr; omega
  obtain ⟨nr, hnr⟩ : ∃ nr, R.length = nr := ⟨_, rfl⟩
  have hnr8 : nr ≤ 8040 := by
    rw [← hnr, sh_len HS4.out]
    exact Nat.le_trans (spread_len (2 + (a : Int)) L) HTM8.out
  have HRL := Lib.hid hnr
  have HRL5 : Hid (R.length ≤ 100000) := by show _ ≤ _; omega
  have HSUM : Hid (sumN R R.length ≤ 9000000) := by
    show _ ≤ _
    have h1 := sum_bound HRN.out R.length
    have h2 : R.length * (a + 2) ≤ 8040 * 257 := Nat.mul_le_mul (by omega) (by omega)
    omega
  have HJX : Hid (joinR R = L.map Ln.ls) := joinR_spread (v := 2 + (a : Int)) (by rw [HWN.out]; omega) HS4.out HR1.out HSX.out
  have HNE : Hid (n ≤ nr) := by
    show _ ≤ _
    rw [← hnr, sh_len HS4.out, ← HN.out]
    have := spread_more (v := 2 + (a : Int)) (M := L.map Ln.ls) (fun x hx => (HSX.out x hx).1)
    rwa [List.length_map] at this
  obtain ⟨A4, c4, hu4, hc4⟩ := HR4.out.1.len
  rw [hnr] at hu4 hc4
  subst hu4
  clear hsp hbw2
  clear hn hnr hbw4
  by_cases h0 : nr = 0
  · have hn0 : n = 0 := by have := HNE.out; omega
    subst h0 hn0
    go_wp2_with fail
    go_ret
    have h4 := HBW4.out
    have h4s := h4.size
    exact ⟨rfl, (Below.toGrow (by repeat (first | (with_reducible exact Below.refl _ _) | (with_reducible assumption) | (with_reducible refine Below.grow ?_ ?_ _ _) | (with_reducible refine Below.drewN' ?_ _) | (with_reducible refine Below.drew ?_) | (with_reducible refine Below.alloc ?_ ?_ _) | (with_reducible refine Below.setCell ?_ ?_ _) | omega | (focus (simp; done)) | (focus (simp; omega)))))⟩
  · obtain ⟨my, hmy, hmy5⟩ := maskP y
    obtain ⟨mp, hmp, hmp5⟩ := maskP p
    have hnz : ¬ (nr : Int) = 0 := by omega
    have hnzb : ((nr : Int) == 0) = false := by simpa using h0
    have haz : ¬ 2 + (a : Int) = 0 := by omega
    obtain ⟨kn, hkn, hkn2⟩ : ∃ kn : Nat, (my : Int) % (nr : Int) = (kn : Int) ∧ kn < nr := ⟨my % nr, by omega, Nat.mod_lt _ (by omega)⟩
    obtain ⟨jn, hjn, hjn2⟩ : ∃ jn : Nat, (mp : Int) % (2 + (a : Int)) = (jn : Int) ∧ jn < a + 2 := ⟨mp % (2 + a), by rw [show (2 + (a : Int)) = ((2 + a : Nat) : Int) by omega]; exact (Int.natCast_emod _ _).symm, by have h := Nat.mod_lt mp (show 0 < 2 + a by omega); rw [Nat.add_comm a 2]; exact h⟩
    go_upto_region 11 with fail
    rw [hkn, hjn]
    have hkl : kn < R.length := by rw [HRL.out]; exact hkn2
    have hkI : (kn : Int) < nr := by omega
    obtain ⟨b4, o4, rfl, hbl, hat, hok⟩ := HR4.out.at_ hkl
    have HRK : Hid (R[kn]? = some R[kn]) := List.getElem?_eq_getElem hkl
    have HNK : Hid (R[kn].n = a + 2) := HRN.out _ (List.getElem_mem hkl)
    have HPS := Lib.hid (place_stays (v := 2 + (a : Int)) (u := 2 + (b : Int)) (k := kn) (j := jn) (by rw [HWN.out]; omega) (by rw [HWNB.out]; omega) HS4.out HR1.out HSX.out hkl)
    have HSK : Hid ((spreadS (L.map Ln.ls) (2 + (a : Int)))[kn]? = some R[kn].sh) := by
      show _ = _
      rw [← sh_get HS4.out, HRK.out]
      rfl
    generalize R[kn] = r at *
    have hrn := HNK.out
    obtain ⟨bc, oc, hA, hbcl, hcc⟩ := hok.1 (by omega)
    have hat2 := hcc jn (by omega)
    have HCJ : Hid (r.sh.cs[jn]? = some (r.f jn)) := listF_get (by omega)
    obtain ⟨p0, p1, p2, p3⟩ := hat
    rw [hA] at p0
    generalize r.f jn = ce at *
    obtain ⟨c0, c1, c2, c3, c4', c5, c6⟩ := hat2
    have hjI : (jn : Int) < r.n := by omega
    obtain ⟨g, hg⟩ : ∃ g, w4.heap.size = g := ⟨_, rfl⟩
    clear hmy hmp hkn hjn hcc hok
    go_upto_region 12 with fail
    generalize hw5 : w4.alloc _ = w5
    have hb5 : Below w4.heap.size w4 w5 := by rw [← hw5]; exact (Below.refl _ _).alloc (Nat.le_refl _) _
    have HB17 : Hid (Blk w5 g 59 ce.cells.toArray) := by show Blk _ _ _ _; rw [← hw5, ← hg]; exact Blk.new _ _ _
    have HR45 : Hid (RdR w5 (.slice (some ⟨b4, o4, none⟩) nr c4) R) := HR4.out.below hb5
    have HBW5 : Hid (Below w.heap.size w w5) := HBW4.out.trans (hb5.mono HBW4.out.size)
    have HJP : Hid (jn < r.n) := by show _ < _; rw [hrn]; exact hjn2
    clear hw5 c0 c1 c2 c3 c4' c5 c6 p0 p1 p2 p3 hb5 hg
    go_upto_region 13 with (go_at_call 23; (with_reducible refine (reflow_yes (.slice (some ⟨b4, o4, none⟩) nr c4) R (2 + (b : Int)) kn jn r _ HR45.out HRL5.out HAR.out HSUM.out HRK.out HJP.out).mono ?_); rintro e w7 ⟨u7, R7, rfl, hb7, hr7, hs7⟩; rw [HJX.out] at hs7 ⊢; have HR7 := Lib.hid hr7; have HS7 := Lib.hid hs7; have HB7 := Lib.hid hb7; clear hb7 hr7 hs7)
    obtain ⟨T, hT⟩ : ∃ T, whereR (L.map Ln.ls) (2 + (b : Int)) (findN R kn).1 ((findN R kn).2 + jn) = T := ⟨_, rfl⟩
    rw [hT] at HPS ⊢
    obtain ⟨T1, T2⟩ := T
    simp only at HPS ⊢
    have hps1 := HPS.out.1
    have hps2 := HPS.out.2.1
    rw [HWNB.out] at hps2
    rw [← sh_len HS7.out] at hps1
    obtain ⟨A7, c7, hu7, hc7⟩ := HR7.out.1.len
    subst hu7
    obtain ⟨n7, hn7⟩ : ∃ n7, R7.length = n7 := ⟨_, rfl⟩
    have HN7 := Lib.hid hn7
    have HR7' : Hid (RdR w7 (.slice A7 n7 c7) R7) := by show RdR _ _ _; rw [← hn7]; exact HR7.out
    rw [hn7] at hps1 ⊢
    have HBW7 : Hid (Below w.heap.size w w7) := HBW5.out.trans (HB7.out.mono HBW5.out.size)
    have hi1 : decide ((T1 : Int) < 0) = false := by simp
    have hi2 : decide ((n7 : Int) ≤ T1) = false := by simp; omega
    have hi3 : decide (n7 ≤ T1) = false := by simp; omega
    have hi4 : decide ((T2 : Int) < 0) = false := by simp
    have hi5 : decide (2 + (b : Int) ≤ T2) = false := by simp; omega
    obtain ⟨e0, e1, e2, e3, e4, e5, e6, ef, el⟩ := (HB17.out.below HB7.out HB17.out.lt).facts7
    clear hn7 hT
    by_cases hr0 : ce.r = 0
    · have hrb : (ce.r == 0) = true := by rw [hr0]; rfl
      have hrb2 : decide (ce.r = 0) = true := by simpa using hr0
      clear hr0
      go_wp2_with fail
      go_ret
      have h7 := HBW7.out
      have h7s := h7.size
      exact ⟨rfl, (Below.toGrow (by repeat (first | (with_reducible exact Below.refl _ _) | (with_reducible assumption) | (with_reducible refine Below.grow ?_ ?_ _ _) | (with_reducible refine Below.drewN' ?_ _) | (with_reducible refine Below.drew ?_) | (with_reducible refine Below.alloc ?_ ?_ _) | (with_reducible refine Below.setCell ?_ ?_ _) | omega | (focus (simp; done)) | (focus (simp; omega)))))⟩
    · have hrb : (ce.r == 0) = false := by simpa using hr0
      have hrb2 : decide (ce.r = 0) = false := by simpa using hr0
      obtain ⟨t, ht1, ht2⟩ := HPS.out.2.2 _ _ HSK.out HCJ.out hr0
      rw [← sh_get HS7.out] at ht1
      have h7l : T1 < R7.length := by rw [HN7.out]; exact hps1
      rw [List.getElem?_eq_getElem h7l, Option.map_some] at ht1
      injection ht1 with ht1
      obtain ⟨b7, o7, rfl, hb7l, hat7, hok7⟩ := HR7'.out.at_ h7l
      rw [← ht1] at ht2
      generalize R7[T1] = r7 at *
      have h2n : T2 < r7.n := by have := (List.getElem?_eq_some_iff.1 ht2).1; rwa [show r7.sh.cs = listF r7.n r7.f from rfl, listF_len] at this
      have hf7 : r7.f T2 = ce := by
        have h : (listF r7.n r7.f)[T2]? = some ce := ht2
        rw [listF_get h2n] at h
        injection h
      obtain ⟨bd, od, hA7, hbdl, hcd⟩ := hok7.1 (by omega)
      have hat8 := hcd T2 h2n
      rw [hf7] at hat8
      obtain ⟨c0, c1, c2, c3, c4', c5, c6⟩ := hat8
      obtain ⟨p0, p1, p2, p3⟩ := hat7
      rw [hA7] at p0
      have hTI1 : (T1 : Int) < n7 := by omega
      have hTI2 : (T2 : Int) < r7.n := by omega
      have he : ∀ w, (binOp .eql 59 (.agg #[.int .i64 ce.r, .int .i64 ce.m0, .int .i64 ce.m1, .int .i64 ce.w, .int .i64 ce.fg, .int .i64 ce.bg, .int .i64 ce.fl]) (.agg #[.int .i64 ce.r, .int .i64 ce.m0, .int .i64 ce.m1, .int .i64 ce.w, .int .i64 ce.fg, .int .i64 ce.bg, .int .i64 ce.fl])).run Try.prog w = .ok (.bool true) w := fun w => by rw [eql_cell]; simp
      clear hr0 ht1 ht2 hf7 hcd hok7
      go_upto_region 17 with fail
      refine hr_start (S := (fun w' => w'.cell? ⟨b7, o7 + T1 * 4, none⟩ = some (.slice (some ⟨bd, od, none⟩) r7.n r7.cap) ∧ w'.cell? ⟨bd, od + T2 * 7, none⟩ = some (.int .i64 ce.r) ∧ w'.cell? ⟨bd, od + T2 * 7 + 1, none⟩ = some (.int .i64 ce.m0) ∧ w'.cell? ⟨bd, od + T2 * 7 + 2, none⟩ = some (.int .i64 ce.m1) ∧ w'.cell? ⟨bd, od + T2 * 7 + 3, none⟩ = some (.int .i64 ce.w) ∧ w'.cell? ⟨bd, od + T2 * 7 + 4, none⟩ = some (.int .i64 ce.fg) ∧ w'.cell? ⟨bd, od + T2 * 7 + 5, none⟩ = some (.int .i64 ce.bg) ∧ w'.cell? ⟨bd, od + T2 * 7 + 6, none⟩ = some (.int .i64 ce.fl) ∧ w'.cell? ⟨g, 0, none⟩ = some (.int .i64 ce.r) ∧ w'.cell? ⟨g, 1, none⟩ = some (.int .i64 ce.m0) ∧ w'.cell? ⟨g, 2, none⟩ = some (.int .i64 ce.m1) ∧ w'.cell? ⟨g, 3, none⟩ = some (.int .i64 ce.w) ∧ w'.cell? ⟨g, 4, none⟩ = some (.int .i64 ce.fg) ∧ w'.cell? ⟨g, 5, none⟩ = some (.int .i64 ce.bg) ∧ w'.cell? ⟨g, 6, none⟩ = some (.int .i64 ce.fl))) (by kernel_rfl) rfl ?_ (fun hHeld => ?_)
      · ((try dsimp only); go_simp)
      refine hr_take (i := 0) rfl rfl (by kernel_rfl) (by kernel_rfl) (by kernel_rfl) (by kernel_rfl) (fun _ _ _ h => h) (v := ?_) ?_ (by assumption) ?_
      rotate_left
      focus (intro wS hSw; (try dsimp only at hSw); go_simp; (try with_reducible rfl))
      simp only [List.set_cons_zero, List.set_cons_succ]
      refine hr_take (i := 1) rfl rfl (by kernel_rfl) (by kernel_rfl) (by kernel_rfl) (by kernel_rfl) (fun _ _ _ h => h) (v := ?_) ?_ (by assumption) ?_
      rotate_left
      focus (intro wS hSw; (try dsimp only at hSw); go_simp; (try with_reducible rfl))
      simp only [List.set_cons_zero, List.set_cons_succ]
      refine hr_take (i := 2) rfl rfl (by kernel_rfl) (by kernel_rfl) (by kernel_rfl) (by kernel_rfl) (fun _ _ _ h => h) (v := ?_) ?_ (by assumption) ?_
      rotate_left
      focus (intro wS hSw; (try dsimp only at hSw); go_simp; (try with_reducible rfl))
      simp only [List.set_cons_zero, List.set_cons_succ]
      refine hr_take (i := 3) rfl rfl (by kernel_rfl) (by kernel_rfl) (by kernel_rfl) (by kernel_rfl) (fun _ _ _ h => h) (v := ?_) ?_ (by assumption) ?_
      rotate_left
      focus (intro wS hSw; (try dsimp only at hSw); go_simp; (try with_reducible rfl))
      simp only [List.set_cons_zero, List.set_cons_succ]
      refine hr_take (i := 4) rfl rfl (by kernel_rfl) (by kernel_rfl) (by kernel_rfl) (by kernel_rfl) (fun _ _ _ h => h) (v := ?_) ?_ (by assumption) ?_
      rotate_left
      focus (intro wS hSw; (try dsimp only at hSw); go_simp; (try with_reducible rfl))
      simp only [List.set_cons_zero, List.set_cons_succ]
      refine hr_take (i := 5) rfl rfl (by kernel_rfl) (by kernel_rfl) (by kernel_rfl) (by kernel_rfl) (fun _ _ _ h => h) (v := ?_) ?_ (by assumption) ?_
      rotate_left
      focus (intro wS hSw; (try dsimp only at hSw); go_simp; (try with_reducible rfl))
      simp only [List.set_cons_zero, List.set_cons_succ]
      refine hr_take (i := 6) rfl rfl (by kernel_rfl) (by kernel_rfl) (by kernel_rfl) (by kernel_rfl) (fun _ _ _ h => h) (v := ?_) ?_ (by assumption) ?_
      rotate_left
      focus (intro wS hSw; (try dsimp only at hSw); go_simp; (try with_reducible rfl))
      simp only [List.set_cons_zero, List.set_cons_succ]
      refine hr_take (i := 7) rfl rfl (by kernel_rfl) (by kernel_rfl) (by kernel_rfl) (by kernel_rfl) (fun _ _ _ h => h) (v := ?_) ?_ (by assumption) ?_
      rotate_left
      focus (intro wS hSw; (try dsimp only at hSw); go_simp; (try with_reducible rfl))
      simp only [List.set_cons_zero, List.set_cons_succ]
      refine hr_take (i := 8) rfl rfl (by kernel_rfl) (by kernel_rfl) (by kernel_rfl) (by kernel_rfl) (fun _ _ _ h => h) (v := ?_) ?_ (by assumption) ?_
      rotate_left
      focus (intro wS hSw; (try dsimp only at hSw); go_simp; (try with_reducible rfl))
      simp only [List.set_cons_zero, List.set_cons_succ]
      refine hr_take (i := 9) rfl rfl (by kernel_rfl) (by kernel_rfl) (by kernel_rfl) (by kernel_rfl) (fun _ _ _ h => h) (v := ?_) ?_ (by assumption) ?_
      rotate_left
      focus (intro wS hSw; (try dsimp only at hSw); go_simp; (try with_reducible rfl))
      simp only [List.set_cons_zero, List.set_cons_succ]
      refine hr_take (i := 10) rfl rfl (by kernel_rfl) (by kernel_rfl) (by kernel_rfl) (by kernel_rfl) (fun _ _ _ h => h) (v := ?_) ?_ (by assumption) ?_
      rotate_left
      focus (intro wS hSw; (try dsimp only at hSw); go_simp; (try with_reducible rfl))
      simp only [List.set_cons_zero, List.set_cons_succ]
      refine hr_take (i := 11) rfl rfl (by kernel_rfl) (by kernel_rfl) (by kernel_rfl) (by kernel_rfl) (fun _ _ _ h => h) (v := ?_) ?_ (by assumption) ?_
      rotate_left
      focus (intro wS hSw; (try dsimp only at hSw); go_simp; (try with_reducible rfl))
      simp only [List.set_cons_zero, List.set_cons_succ]
      refine hr_take (i := 12) rfl rfl (by kernel_rfl) (by kernel_rfl) (by kernel_rfl) (by kernel_rfl) (fun _ _ _ h => h) (v := ?_) ?_ (by assumption) ?_
      rotate_left
      focus (intro wS hSw; (try dsimp only at hSw); go_simp; (try with_reducible rfl))
      simp only [List.set_cons_zero, List.set_cons_succ]
      refine hr_take (i := 13) rfl rfl (by kernel_rfl) (by kernel_rfl) (by kernel_rfl) (by kernel_rfl) (fun _ _ _ h => h) (v := ?_) ?_ (by assumption) ?_
      rotate_left
      focus (intro wS hSw; (try dsimp only at hSw); go_simp; (try with_reducible rfl))
      simp only [List.set_cons_zero, List.set_cons_succ]
      refine hr_done (by kernel_rfl) ?_
      go_wp2_with fail
      go_ret
      have h7 := HBW7.out
      have h7s := h7.size
      exact ⟨rfl, (Below.toGrow (by repeat (first | (with_reducible exact Below.refl _ _) | (with_reducible assumption) | (with_reducible refine Below.grow ?_ ?_ _ _) | (with_reducible refine Below.drewN' ?_ _) | (with_reducible refine Below.drew ?_) | (with_reducible refine Below.alloc ?_ ?_ _) | (with_reducible refine Below.setCell ?_ ?_ _) | omega | (focus (simp; done)) | (focus (simp; omega)))))⟩
theorem place_law (x : Value) (w1 w2 y p : Int) (L : List Ln) (w : World) (hx : RdL0 w x L) (hl : L.length ≤ maxLen) : Calls Try.prog 5 #[x, .int .i64 w1, .int .i64 w2, .int .i64 y, .int .i64 p] w fun e w' => e = .returned (.bool true) ∧ Grew w w' := by
  cases h : few11B L
  · exact place_few x w1 w2 y p L w hx hl h
  · cases h2 : cleanB L
    · exact place_clean x w1 w2 y p L w hx hl h h2
    · exact place_yes x w1 w2 y p L w hx hl h h2
end Go.Proofs.Ytlgnchhhadnjbaa.Row
