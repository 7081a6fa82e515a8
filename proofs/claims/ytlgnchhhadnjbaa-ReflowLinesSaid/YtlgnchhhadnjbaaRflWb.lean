/- lapwingref11.Where; both where they tell nothing. -/
import Derived.Test.YtlgnchhhadnjbaaRflFus
import Derived.Test.YtlgnchhhadnjbaaRflW
namespace Go.Proofs.Ytlgnchhhadnjbaa.Row
open Go.RowKit
set_option maxRecDepth 100000 in
set_option maxHeartbeats 4000000 in
theorem where11_yes (x : Value) (L : List Ln) (v : Int) (pl pa : Nat) (lp : Ln) (w : World) (hx : RdL w x L) (hl : L.length ≤ 100000) (ht : tot L ≤ 10000000) (hs : ∀ l ∈ L, sanL l.ls = true) (hp : L[pl]? = some lp) (hpa : (pa : Int) ≤ 9223372036854775807) :
    Calls Try.prog 12 #[x, .int .i64 v, .agg #[.int .i64 pl, .int .i64 pa]] w fun e w' => e = .returned (.tuple #[.int .i64 ((spreadS ((L.take pl).map Ln.ls) v).length + (whereN (splitG lp.ls v) pa).1), .int .i64 (whereN (splitG lp.ls v) pa).2, .bool true]) ∧ Grew w w' := by
  obtain ⟨A, cap, rfl, hc⟩ := hx.1.len
  have hpl := (List.getElem?_eq_some_iff.1 hp).1
  obtain ⟨Y, hY⟩ : ∃ Y, Y = (spreadS ((L.take pl).map Ln.ls) v).length := ⟨_, rfl⟩
  have hYt : Y ≤ 10000000 := by
    rw [hY]
    have := spread_len v (L.take pl)
    have := tot_take L pl
    omega
  rw [← hY]
  have HY := Lib.hid hY
  obtain ⟨T1, T2, hT⟩ : ∃ T1 T2, whereN (splitG lp.ls v) pa = (T1, T2) := ⟨_, _, rfl⟩
  have HT := Lib.hid hT
  simp only [hT]
  clear hT
  obtain ⟨n, hn⟩ : ∃ n, L.length = n := ⟨_, rfl⟩
  have hx0 := hx
  clear hx hY
  rw [hn] at hl hc hx0 hpl ⊢
  have HX : Hid (RdL w (.slice A n cap) L) := hx0
  have HN := Lib.hid hn
  have HSA := Lib.hid hs
  have HSP := Lib.hid (hs lp (List.mem_of_getElem? hp))
  have HP := Lib.hid hp
  obtain ⟨A9, -, hrun, hcut⟩ := slice0 (E := encL) (P := Try.prog) 22 42 Try.underlying22 (by kernel_rfl) A n cap pl (by omega) hc
  have HX9 : Hid (RdL w (.slice A9 pl cap) (L.take pl)) := ⟨hcut w L hx0.1, fun l hl => hx0.2 l (List.mem_of_mem_take hl)⟩
  have HL9 : Hid ((L.take pl).length ≤ 100000) := by show _ ≤ _; rw [List.length_take]; omega
  have HT9 : Hid (tot (L.take pl) ≤ 10000000) := Nat.le_trans (tot_take L pl) ht
  have hpl1 : decide ((pl : Int) < 0) = false := by simp
  have hpl2 : decide ((n : Int) ≤ pl) = false := by simp; omega
  have hpl3 : decide (n ≤ pl) = false := by simp; omega
  have hpa1 : decide ((pa : Int) < 0) = false := by simp
  have hplI : (pl : Int) < n := by omega
  have hnr : ∀ r : List Rw, r.map Rw.sh = splitG lp.ls v → 0 < r.length ∧ r.length ≤ 10000001 := fun r h => by
    have h1 := splitG_ne (v := v) (hs lp (List.mem_of_getElem? hp))
    have h2 := split_len lp.ls v
    have h3 : lp.ls.cs.length ≤ 10000000 := (hx0.2 lp (List.mem_of_getElem? hp)).2
    rw [← h, List.length_map] at h1 h2
    omega
  have HNR := Lib.hid hnr
  have HOKP := Lib.hid (hx0.2 lp (List.mem_of_getElem? hp))
  clear hs hp hcut ht hn hnr
  go_enter Try.func12, Try.ntmps12
  go_wp2_with fail
  go_loopw [9] (fun i wz => ∃ k : Nat, k ≤ n ∧ i = .int .i64 k ∧ Below w.heap.size w wz ∧ Hid (Blk wz w.heap.size 24 #[.int .i64 pl, .int .i64 pa])) (fun i _ => n - (intOf i).toNat)
  case atStart => exact ⟨0, Nat.zero_le _, rfl, by (repeat (first | (with_reducible exact Below.refl _ _) | (with_reducible assumption) | (with_reducible refine Below.grow ?_ ?_ _ _) | (with_reducible refine Below.drewN' ?_ _) | (with_reducible refine Below.drew ?_) | (with_reducible refine Below.alloc ?_ ?_ _) | (with_reducible refine Below.setCell ?_ ?_ _) | omega | (focus (simp; done)) | (focus (simp; omega)))), Blk.new _ _ _⟩
  case round =>
    obtain ⟨k, hk, rfl, hbw, HBP⟩ := hrel
    have hws := hbw.size
    by_cases hlt : k < n
    · have hltI : (k : Int) < n := by omega
      have hkl : k < L.length := by rw [HN.out]; exact hlt
      obtain ⟨b, o, rfl, hbl, hat, hok⟩ := (HX.out.below hbw).at_ hkl
      have HSL : Hid (sanL ⟨L[k].cs, L[k].dir, L[k].ex⟩ = true) := HSA.out _ (List.getElem_mem hkl)
      generalize L[k] = le at *
      have HOK := Lib.hid hok
      obtain ⟨p0, p1, p2⟩ := hat
      clear hok
      go_wp2_with (go_at_call 17; (with_reducible refine (saneL11_c le.A le.cs.length le.cap le.cs le.dir le.ex _ (HOK.out.rdB (by (repeat (first | (with_reducible exact Below.refl _ _) | (with_reducible assumption) | (with_reducible refine Below.grow ?_ ?_ _ _) | (with_reducible refine Below.drewN' ?_ _) | (with_reducible refine Below.drew ?_) | (with_reducible refine Below.alloc ?_ ?_ _) | (with_reducible refine Below.setCell ?_ ?_ _) | omega | (focus (simp; done)) | (focus (simp; omega)))))) rfl HOK.out.len).mono ?_); rw [HSL.out]; rintro e w2 ⟨rfl, X2, d2, rfl⟩)
      go_roundw
      case rel => exact ⟨k + 1, by omega, by go_num, by (repeat (first | (with_reducible exact Below.refl _ _) | (with_reducible assumption) | (with_reducible refine Below.grow ?_ ?_ _ _) | (with_reducible refine Below.drewN' ?_ _) | (with_reducible refine Below.drew ?_) | (with_reducible refine Below.alloc ?_ ?_ _) | (with_reducible refine Below.setCell ?_ ?_ _) | omega | (focus (simp; done)) | (focus (simp; omega)))), by have := HBP.out; show Blk _ _ _ _; (repeat (first | (with_reducible assumption) | (with_reducible refine Blk.grow ?_ _ _) | (with_reducible refine Blk.alloc ?_ _)))⟩
      case measure => simp [intOf]; omega
    · obtain rfl : n = k := by omega
      obtain ⟨b, o, rfl, hbl, hat, hok⟩ := (HX.out.below hbw).at_ (k := pl) (by rw [HN.out]; omega)
      obtain ⟨hpl', hpe⟩ := List.getElem?_eq_some_iff.1 HP.out
      rw [hpe] at hat hok
      obtain ⟨p0, p1, p2⟩ := hat
      obtain ⟨q0, q1, qf, ql⟩ := HBP.out.facts2
      clear hpe hok
      go_upto_region 10 with (first | (go_at_call 15; (with_reducible refine (spread11_c (.slice A9 pl cap) (L.take pl) v _ (HX9.out.below (by (repeat (first | (with_reducible exact Below.refl _ _) | (with_reducible assumption) | (with_reducible refine Below.grow ?_ ?_ _ _) | (with_reducible refine Below.drewN' ?_ _) | (with_reducible refine Below.drew ?_) | (with_reducible refine Below.alloc ?_ ?_ _) | (with_reducible refine Below.setCell ?_ ?_ _) | omega | (focus (simp; done)) | (focus (simp; omega)))))) HL9.out HT9.out).mono ?_); rintro e w3 ⟨u3, R3, rfl, hb3, hr3, hs3⟩; have HLN3 : Hid (R3.length = Y) := (by show _ = _; rw [HY.out, ← hs3, List.length_map]); obtain ⟨A3, c3, hu3, -⟩ := hr3.1.rd.len; subst hu3; rw [HLN3.out]; obtain ⟨X3, d3, rfl⟩ := Below.toGrow hb3; clear hb3 hr3 hs3) | (go_at_call 19; (with_reducible refine (split11_c lp.A lp.cs.length lp.cap lp.cs lp.dir lp.ex v _ (HOKP.out.rdB (by (repeat (first | (with_reducible exact Below.refl _ _) | (with_reducible assumption) | (with_reducible refine Below.grow ?_ ?_ _ _) | (with_reducible refine Below.drewN' ?_ _) | (with_reducible refine Below.drew ?_) | (with_reducible refine Below.alloc ?_ ?_ _) | (with_reducible refine Below.setCell ?_ ?_ _) | omega | (focus (simp; done)) | (focus (simp; omega)))))) rfl HOKP.out.len).mono ?_); rintro e w4 ⟨u4, R4, rfl, hb4, hr4, hs4⟩; have HR4 := Lib.hid hr4.rd; have HS4 : Hid (R4.map Rw.sh = splitG lp.ls v) := hs4; have HB4 := Lib.hid hb4; clear hr4 hs4))
      obtain ⟨A4, c4, hu4, hc4⟩ := HR4.out.1.len
      obtain ⟨hr41, hr42⟩ := HNR.out R4 HS4.out
      have HWD := Lib.hid (sh_n HS4.out (split_wd (v := v)))
      have HG4 : Hid (∀ r ∈ R4, 1 ≤ r.n) := fun r hr => by rw [HWD.out r hr]; exact (wN_le v).1
      obtain ⟨nr, hnr⟩ : ∃ nr, R4.length = nr := ⟨_, rfl⟩
      rw [hnr] at hu4 hc4 hr41 hr42
      subst hu4
      have HRLN := Lib.hid hnr
      have HRL : Hid (R4.length ≤ 20000000) := by show _ ≤ _; rw [hnr]; omega
      obtain ⟨m, hmr⟩ : ∃ m, nr = m + 1 := ⟨nr - 1, by omega⟩
      have hm1 : (nr : Int) - 1 = (m : Int) := by omega
      have hmI : (m : Int) < nr := by omega
      have hmN : m < nr := by omega
      have HMR := Lib.hid hmr
      clear hmr
      have hbw4 : Below w.heap.size w w4 := by have := HB4.out; have h2 := (hbw.grow hws X3 d3).trans (this.mono (by simp; omega)); exact h2
      have HBP4 : Hid (Blk w4 w.heap.size 24 #[.int .i64 pl, .int .i64 pa]) := (HBP.out.grow X3 d3).below HB4.out (HBP.out.grow X3 d3).lt
      clear q0 q1 qf ql p0 p1 p2 hnr
      obtain ⟨q0, q1, qf, ql⟩ := HBP4.out.facts2
      go_wp2_with fail
      go_loopw [12, 13] (fun l i wz => ∃ (j left : Nat), j ≤ m ∧ i = .int .i64 j ∧ l = .int .i64 left ∧ left ≤ pa ∧ Below w4.heap.size w4 wz ∧ Hid (((whereN ((splitG lp.ls v).drop j) left).1 + j, (whereN ((splitG lp.ls v).drop j) left).2) = (T1, T2))) (fun _ i _ => m - (intOf i).toNat)
      case atStart => exact ⟨0, pa, Nat.zero_le _, rfl, rfl, Nat.le_refl _, Below.refl _ _, HT.out⟩
      case round =>
        obtain ⟨i, left, hi, rfl, rfl, hlp, hbz, HTI⟩ := hrel
        have hil : i < R4.length := by rw [HRLN.out]; omega
        obtain ⟨b4, o4, rfl, hb4l, hat, hok⟩ := (HR4.out.below hbz).at_ hil
        have HN4 : Hid (R4[i]? = some R4[i]) := List.getElem?_eq_getElem hil
        have HSI : Hid ((splitG lp.ls v)[i]? = some R4[i].sh) := by
          show _ = _
          rw [← sh_get HS4.out, HN4.out]
          rfl
        have hbzs := hbz.size
        have hw4s := hbw4.size
        have hbwr : Below w.heap.size w wr := hbw4.trans (hbz.mono hw4s)
        have hwrs := hbwr.size
        by_cases him : i < m
        · have himI : (i : Int) < m := by omega
          have hil2 : i + 1 < R4.length := by rw [HRLN.out]; omega
          have h5 : R4[i + 1]? = some R4[i + 1] := List.getElem?_eq_getElem hil2
          have HSI2 : Hid ((splitG lp.ls v)[i + 1]? = some R4[i + 1].sh) := by
            show _ = _
            rw [← sh_get HS4.out, h5]
            rfl
          have HWS := Lib.hid (whereN_step (left := left) HSI.out HSI2.out)
          have hrmE := rmN_sh (r := R4[i]) (o := R4[i + 1]?) (HG4.out _ (List.getElem_mem hil)) (fun s hs => by rw [h5] at hs; injection hs with hs; rw [← hs]; exact HG4.out _ (List.getElem_mem hil2))
          rw [h5, Option.map_some] at hrmE
          rw [← hrmE] at HWS
          have hrl := rmN_le R4[i] R4[i + 1]?
          rw [h5] at hrl
          obtain ⟨rm, hrm⟩ : ∃ rm, rmN R4[i] (some R4[i + 1]) = rm := ⟨_, rfl⟩
          rw [hrm] at HWS hrl
          have HRM : Hid (rmN R4[i] R4[i + 1]? = rm) := by show _ = _; rw [h5]; exact hrm
          have hr5 := hok.2.2
          generalize R4[i] = r4 at *
          clear h5 hrmE hrm hok hat
          by_cases hlr : left < rm
          · have hb5 : decide ((left : Int) < rm) = true := by simpa using hlr
            have hb6 : decide (left < rm) = true := by simpa using hlr
            have HTE : Hid ((i, left) = (T1, T2)) := by
              show _ = _
              rw [← HTI.out, HWS.out, if_pos hlr]
              simp
            obtain ⟨rfl, rfl⟩ : i = T1 ∧ left = T2 := by have := HTE.out; injection this with h1 h2; exact ⟨h1, h2⟩
            go_wp2_with (go_at_call 32; go_loud ((with_reducible refine (room11_c (.slice (some ⟨b4, o4, none⟩) nr c4) R4 i r4 _ (HR4.out.below (by (repeat (first | (with_reducible exact Below.refl _ _) | (with_reducible assumption) | (with_reducible refine Below.grow ?_ ?_ _ _) | (with_reducible refine Below.drewN' ?_ _) | (with_reducible refine Below.drew ?_) | (with_reducible refine Below.alloc ?_ ?_ _) | (with_reducible refine Below.setCell ?_ ?_ _) | omega | (focus (simp; done)) | (focus (simp; omega)))))) HRL.out HN4.out HG4.out).mono ?_); rw [HRM.out]; rintro e w6 ⟨rfl, X6, d6, rfl⟩))
            (refine bodyPost_ret (v := _) (by (simp [results, Try.results12, go_sem]; exact rfl)) rfl ⟨?_, (Below.toGrow (by repeat (first | (with_reducible exact Below.refl _ _) | (with_reducible assumption) | (with_reducible refine Below.grow ?_ ?_ _ _) | (with_reducible refine Below.drewN' ?_ _) | (with_reducible refine Below.drew ?_) | (with_reducible refine Below.alloc ?_ ?_ _) | (with_reducible refine Below.setCell ?_ ?_ _) | omega | (focus (simp; done)) | (focus (simp; omega)))))⟩; exact rfl)
          · have hb5 : decide ((left : Int) < rm) = false := by simpa using hlr
            have hb6 : decide (left < rm) = false := by simpa using hlr
            have hsub : (left : Int) - (rm : Int) = ((left - rm : Nat) : Int) := by omega
            have hrpa : left - rm ≤ pa := by omega
            have HTE : Hid (((whereN ((splitG lp.ls v).drop (i + 1)) (left - rm)).1 + (i + 1), (whereN ((splitG lp.ls v).drop (i + 1)) (left - rm)).2) = (T1, T2)) := by
              show _ = _
              rw [← HTI.out, HWS.out, if_neg hlr]
              simp only
              rw [Nat.add_right_comm]
              rfl
            obtain ⟨lf2, hlf2⟩ : ∃ lf2, left - rm = lf2 := ⟨_, rfl⟩
            rw [hlf2] at hsub hrpa HTE
            clear hlf2 HWS
            go_wp2_with (go_at_call 32; go_loud ((with_reducible refine (room11_c (.slice (some ⟨b4, o4, none⟩) nr c4) R4 i r4 _ (HR4.out.below (by (repeat (first | (with_reducible exact Below.refl _ _) | (with_reducible assumption) | (with_reducible refine Below.grow ?_ ?_ _ _) | (with_reducible refine Below.drewN' ?_ _) | (with_reducible refine Below.drew ?_) | (with_reducible refine Below.alloc ?_ ?_ _) | (with_reducible refine Below.setCell ?_ ?_ _) | omega | (focus (simp; done)) | (focus (simp; omega)))))) HRL.out HN4.out HG4.out).mono ?_); rw [HRM.out]; rintro e w6 ⟨rfl, X6, d6, rfl⟩))
            go_roundw
            case rel => exact ⟨i + 1, lf2, by omega, by go_num, rfl, hrpa, by (repeat (first | (with_reducible exact Below.refl _ _) | (with_reducible assumption) | (with_reducible refine Below.grow ?_ ?_ _ _) | (with_reducible refine Below.drewN' ?_ _) | (with_reducible refine Below.drew ?_) | (with_reducible refine Below.alloc ?_ ?_ _) | (with_reducible refine Below.setCell ?_ ?_ _) | omega | (focus (simp; done)) | (focus (simp; omega)))), HTE.out⟩
            case measure => simp [intOf]; omega
        · obtain rfl : m = i := by omega
          have hwl := whereN_last (left := left) HSI.out (by rw [← sh_len HS4.out, HRLN.out, HMR.out])
          have hrn : (R4[m].sh.cs.length) = R4[m].n := listF_len _ _
          rw [hrn, HWD.out _ (List.getElem_mem hil)] at hwl
          have HTE : Hid ((m, min left (wN v - 1)) = (T1, T2)) := by
            show _ = _
            rw [← HTI.out, hwl]
            simp
          have hil0 : 0 < R4.length := by omega
          obtain ⟨b5, o5, e5, -, hat0, hok0⟩ := (HR4.out.below hbz).at_ hil0
          injection e5 with e5
          injection e5 with e5 e6
          subst e5 e6
          have hr1 := HG4.out _ (List.getElem_mem hil0)
          have hrw := HWD.out _ (List.getElem_mem hil0)
          have hr5 := hok0.2.2
          generalize R4[0] = r4 at *
          obtain ⟨p0, p1, p2, p3⟩ := hat0
          rw [Nat.zero_mul, Nat.add_zero] at p0
          obtain ⟨q2, hq2⟩ : ∃ q2, wN v - 1 = q2 := ⟨_, rfl⟩
          have hn2 : (r4.n : Int) - 1 = (q2 : Int) := by omega
          clear hrw
          rw [hq2] at HTE
          obtain ⟨hT1, hT2⟩ : m = T1 ∧ min left q2 = T2 := by have := HTE.out; injection this with h1 h2; exact ⟨h1, h2⟩
          subst hT1
          have hyn : (Y : Int) + (nr : Int) - 1 = (Y : Int) + (m : Int) := by omega
          have hwr3 : IntKind.i64.wrap ((Y : Int) + (nr : Int)) = (Y : Int) + (nr : Int) := by rw [IntWalk.i64_left]; exact IntWalk.wrap64_in _ (by omega)
          have hnr0 : (0 : Int) < nr := by omega
          have hnr0N : 0 < nr := by omega
          have hbl4 := hb4l
          clear hwl hrn hq2 hok0 hok hat
          skip
          have hwr1 : IntKind.i64.wrap ((Y : Int) + (m : Int)) = (Y : Int) + (m : Int) := by rw [IntWalk.i64_left]; exact IntWalk.wrap64_in _ (by omega)
          have hwr2 : IntKind.i64.wrap (q2 : Int) = (q2 : Int) := by rw [IntWalk.i64_left]; exact IntWalk.wrap64_in _ (by omega)
          by_cases hlq : q2 < left
          · have hmin : min left q2 = q2 := by omega
            rw [hmin] at hT2
            subst hT2
            have hlqI : (q2 : Int) < left := by omega
            go_wp2_with fail
            refine hr_start (S := (fun w' => w'.cell? ⟨b4, o4, none⟩ = some (.slice r4.A r4.n r4.cap))) (by kernel_rfl) rfl ?_ (fun hHeld => ?_)
            · ((try dsimp only); go_simp)
            refine hr_take (i := 0) rfl rfl (by kernel_rfl) (by kernel_rfl) (by kernel_rfl) (by kernel_rfl) (fun _ _ _ h => h) (v := ?_) ?_ (by assumption) ?_
            rotate_left
            focus (intro wS hSw; (try dsimp only at hSw); go_simp; (try with_reducible rfl))
            simp only [List.set_cons_zero, List.set_cons_succ]
            refine hr_take (i := 1) rfl rfl (by kernel_rfl) (by kernel_rfl) (by kernel_rfl) (by kernel_rfl) (fun _ _ _ h => h) (v := ?_) ?_ (by assumption) ?_
            rotate_left
            focus (intro wS hSw; (try dsimp only at hSw); go_simp; (try with_reducible rfl))
            simp only [List.set_cons_zero, List.set_cons_succ]
            refine hr_take (i := 2) rfl rfl (by kernel_rfl) (by kernel_rfl) (by kernel_rfl) (by kernel_rfl) (fun _ _ _ h => h) (v := ?_) ?_ (by assumption) ?_
            rotate_left
            focus (intro wS hSw; (try dsimp only at hSw); go_simp; (try with_reducible rfl))
            simp only [List.set_cons_zero, List.set_cons_succ]
            refine hr_take (i := 3) rfl rfl (by kernel_rfl) (by kernel_rfl) (by kernel_rfl) (by kernel_rfl) (fun _ _ _ h => h) (v := ?_) ?_ (by assumption) ?_
            rotate_left
            focus (intro wS hSw; (try dsimp only at hSw); go_simp; (try with_reducible rfl))
            simp only [List.set_cons_zero, List.set_cons_succ]
            refine hr_take (i := 4) rfl rfl (by kernel_rfl) (by kernel_rfl) (by kernel_rfl) (by kernel_rfl) (fun _ _ _ h => h) (v := ?_) ?_ (by assumption) ?_
            rotate_left
            focus (intro wS hSw; (try dsimp only at hSw); go_simp; (try with_reducible rfl))
            simp only [List.set_cons_zero, List.set_cons_succ]
            refine hr_take (i := 5) rfl rfl (by kernel_rfl) (by kernel_rfl) (by kernel_rfl) (by kernel_rfl) (fun _ _ _ h => h) (v := ?_) ?_ (by assumption) ?_
            rotate_left
            focus (intro wS hSw; (try dsimp only at hSw); go_simp; (try with_reducible rfl))
            simp only [List.set_cons_zero, List.set_cons_succ]
            refine hr_take (i := 6) rfl rfl (by kernel_rfl) (by kernel_rfl) (by kernel_rfl) (by kernel_rfl) (fun _ _ _ h => h) (v := ?_) ?_ (by assumption) ?_
            rotate_left
            focus (intro wS hSw; (try dsimp only at hSw); go_simp; (try with_reducible rfl))
            simp only [List.set_cons_zero, List.set_cons_succ]
            refine hr_take (i := 7) rfl rfl (by kernel_rfl) (by kernel_rfl) (by kernel_rfl) (by kernel_rfl) (fun _ _ _ h => h) (v := ?_) ?_ (by assumption) ?_
            rotate_left
            focus (intro wS hSw; (try dsimp only at hSw); go_simp; (try with_reducible rfl))
            simp only [List.set_cons_zero, List.set_cons_succ]
            refine hr_take (i := 8) rfl rfl (by kernel_rfl) (by kernel_rfl) (by kernel_rfl) (by kernel_rfl) (fun _ _ _ h => h) (v := ?_) ?_ (by assumption) ?_
            rotate_left
            focus (intro wS hSw; (try dsimp only at hSw); go_simp; (try with_reducible rfl))
            simp only [List.set_cons_zero, List.set_cons_succ]
            refine hr_take (i := 9) rfl rfl (by kernel_rfl) (by kernel_rfl) (by kernel_rfl) (by kernel_rfl) (fun _ _ _ h => h) (v := ?_) ?_ (by assumption) ?_
            rotate_left
            focus (intro wS hSw; (try dsimp only at hSw); go_simp; (try with_reducible rfl))
            simp only [List.set_cons_zero, List.set_cons_succ]
            refine hr_take (i := 10) rfl rfl (by kernel_rfl) (by kernel_rfl) (by kernel_rfl) (by kernel_rfl) (fun _ _ _ h => h) (v := ?_) ?_ (by assumption) ?_
            rotate_left
            focus (intro wS hSw; (try dsimp only at hSw); go_simp; (try with_reducible rfl))
            simp only [List.set_cons_zero, List.set_cons_succ]
            refine hr_take (i := 11) rfl rfl (by kernel_rfl) (by kernel_rfl) (by kernel_rfl) (by kernel_rfl) (fun _ _ _ h => h) (v := ?_) ?_ (by assumption) ?_
            rotate_left
            focus (intro wS hSw; (try dsimp only at hSw); go_simp; (try with_reducible rfl))
            simp only [List.set_cons_zero, List.set_cons_succ]
            refine hr_take (i := 12) rfl rfl (by kernel_rfl) (by kernel_rfl) (by kernel_rfl) (by kernel_rfl) (fun _ _ _ h => h) (v := ?_) ?_ (by assumption) ?_
            rotate_left
            focus (intro wS hSw; (try dsimp only at hSw); go_simp; (try with_reducible rfl))
            simp only [List.set_cons_zero, List.set_cons_succ]
            refine hr_take (i := 13) rfl rfl (by kernel_rfl) (by kernel_rfl) (by kernel_rfl) (by kernel_rfl) (fun _ _ _ h => h) (v := ?_) ?_ (by assumption) ?_
            rotate_left
            focus (intro wS hSw; (try dsimp only at hSw); go_simp; (try with_reducible rfl))
            simp only [List.set_cons_zero, List.set_cons_succ]
            refine hr_take (i := 14) rfl rfl (by kernel_rfl) (by kernel_rfl) (by kernel_rfl) (by kernel_rfl) (fun _ _ _ h => h) (v := ?_) ?_ (by assumption) ?_
            rotate_left
            focus (intro wS hSw; (try dsimp only at hSw); go_simp; (try with_reducible rfl))
            simp only [List.set_cons_zero, List.set_cons_succ]
            refine hr_take (i := 15) rfl rfl (by kernel_rfl) (by kernel_rfl) (by kernel_rfl) (by kernel_rfl) (fun _ _ _ h => h) (v := ?_) ?_ (by assumption) ?_
            rotate_left
            focus (intro wS hSw; (try dsimp only at hSw); go_simp; (try with_reducible rfl))
            simp only [List.set_cons_zero, List.set_cons_succ]
            refine hr_done (by kernel_rfl) ?_
            go_wp2_with fail
            (refine bodyPost_ret (v := _) (by (simp [results, Try.results12, go_sem]; exact rfl)) rfl ⟨?_, (Below.toGrow (by repeat (first | (with_reducible exact Below.refl _ _) | (with_reducible assumption) | (with_reducible refine Below.grow ?_ ?_ _ _) | (with_reducible refine Below.drewN' ?_ _) | (with_reducible refine Below.drew ?_) | (with_reducible refine Below.alloc ?_ ?_ _) | (with_reducible refine Below.setCell ?_ ?_ _) | omega | (focus (simp; done)) | (focus (simp; omega)))))⟩; exact rfl)
          · have hmin : min left q2 = left := by omega
            rw [hmin] at hT2
            subst hT2
            have hlqI : ¬ (q2 : Int) < left := by omega
            go_wp2_with fail
            refine hr_start (S := (fun w' => w'.cell? ⟨b4, o4, none⟩ = some (.slice r4.A r4.n r4.cap))) (by kernel_rfl) rfl ?_ (fun hHeld => ?_)
            · ((try dsimp only); go_simp)
            refine hr_take (i := 0) rfl rfl (by kernel_rfl) (by kernel_rfl) (by kernel_rfl) (by kernel_rfl) (fun _ _ _ h => h) (v := ?_) ?_ (by assumption) ?_
            rotate_left
            focus (intro wS hSw; (try dsimp only at hSw); go_simp; (try with_reducible rfl))
            simp only [List.set_cons_zero, List.set_cons_succ]
            refine hr_take (i := 1) rfl rfl (by kernel_rfl) (by kernel_rfl) (by kernel_rfl) (by kernel_rfl) (fun _ _ _ h => h) (v := ?_) ?_ (by assumption) ?_
            rotate_left
            focus (intro wS hSw; (try dsimp only at hSw); go_simp; (try with_reducible rfl))
            simp only [List.set_cons_zero, List.set_cons_succ]
            refine hr_take (i := 2) rfl rfl (by kernel_rfl) (by kernel_rfl) (by kernel_rfl) (by kernel_rfl) (fun _ _ _ h => h) (v := ?_) ?_ (by assumption) ?_
            rotate_left
            focus (intro wS hSw; (try dsimp only at hSw); go_simp; (try with_reducible rfl))
            simp only [List.set_cons_zero, List.set_cons_succ]
            refine hr_take (i := 3) rfl rfl (by kernel_rfl) (by kernel_rfl) (by kernel_rfl) (by kernel_rfl) (fun _ _ _ h => h) (v := ?_) ?_ (by assumption) ?_
            rotate_left
            focus (intro wS hSw; (try dsimp only at hSw); go_simp; (try with_reducible rfl))
            simp only [List.set_cons_zero, List.set_cons_succ]
            refine hr_take (i := 4) rfl rfl (by kernel_rfl) (by kernel_rfl) (by kernel_rfl) (by kernel_rfl) (fun _ _ _ h => h) (v := ?_) ?_ (by assumption) ?_
            rotate_left
            focus (intro wS hSw; (try dsimp only at hSw); go_simp; (try with_reducible rfl))
            simp only [List.set_cons_zero, List.set_cons_succ]
            refine hr_take (i := 5) rfl rfl (by kernel_rfl) (by kernel_rfl) (by kernel_rfl) (by kernel_rfl) (fun _ _ _ h => h) (v := ?_) ?_ (by assumption) ?_
            rotate_left
            focus (intro wS hSw; (try dsimp only at hSw); go_simp; (try with_reducible rfl))
            simp only [List.set_cons_zero, List.set_cons_succ]
            refine hr_take (i := 6) rfl rfl (by kernel_rfl) (by kernel_rfl) (by kernel_rfl) (by kernel_rfl) (fun _ _ _ h => h) (v := ?_) ?_ (by assumption) ?_
            rotate_left
            focus (intro wS hSw; (try dsimp only at hSw); go_simp; (try with_reducible rfl))
            simp only [List.set_cons_zero, List.set_cons_succ]
            refine hr_take (i := 7) rfl rfl (by kernel_rfl) (by kernel_rfl) (by kernel_rfl) (by kernel_rfl) (fun _ _ _ h => h) (v := ?_) ?_ (by assumption) ?_
            rotate_left
            focus (intro wS hSw; (try dsimp only at hSw); go_simp; (try with_reducible rfl))
            simp only [List.set_cons_zero, List.set_cons_succ]
            refine hr_take (i := 8) rfl rfl (by kernel_rfl) (by kernel_rfl) (by kernel_rfl) (by kernel_rfl) (fun _ _ _ h => h) (v := ?_) ?_ (by assumption) ?_
            rotate_left
            focus (intro wS hSw; (try dsimp only at hSw); go_simp; (try with_reducible rfl))
            simp only [List.set_cons_zero, List.set_cons_succ]
            refine hr_take (i := 9) rfl rfl (by kernel_rfl) (by kernel_rfl) (by kernel_rfl) (by kernel_rfl) (fun _ _ _ h => h) (v := ?_) ?_ (by assumption) ?_
            rotate_left
            focus (intro wS hSw; (try dsimp only at hSw); go_simp; (try with_reducible rfl))
            simp only [List.set_cons_zero, List.set_cons_succ]
            refine hr_take (i := 10) rfl rfl (by kernel_rfl) (by kernel_rfl) (by kernel_rfl) (by kernel_rfl) (fun _ _ _ h => h) (v := ?_) ?_ (by assumption) ?_
            rotate_left
            focus (intro wS hSw; (try dsimp only at hSw); go_simp; (try with_reducible rfl))
            simp only [List.set_cons_zero, List.set_cons_succ]
            refine hr_take (i := 11) rfl rfl (by kernel_rfl) (by kernel_rfl) (by kernel_rfl) (by kernel_rfl) (fun _ _ _ h => h) (v := ?_) ?_ (by assumption) ?_
            rotate_left
            focus (intro wS hSw; (try dsimp only at hSw); go_simp; (try with_reducible rfl))
            simp only [List.set_cons_zero, List.set_cons_succ]
            refine hr_take (i := 12) rfl rfl (by kernel_rfl) (by kernel_rfl) (by kernel_rfl) (by kernel_rfl) (fun _ _ _ h => h) (v := ?_) ?_ (by assumption) ?_
            rotate_left
            focus (intro wS hSw; (try dsimp only at hSw); go_simp; (try with_reducible rfl))
            simp only [List.set_cons_zero, List.set_cons_succ]
            refine hr_take (i := 13) rfl rfl (by kernel_rfl) (by kernel_rfl) (by kernel_rfl) (by kernel_rfl) (fun _ _ _ h => h) (v := ?_) ?_ (by assumption) ?_
            rotate_left
            focus (intro wS hSw; (try dsimp only at hSw); go_simp; (try with_reducible rfl))
            simp only [List.set_cons_zero, List.set_cons_succ]
            refine hr_take (i := 14) rfl rfl (by kernel_rfl) (by kernel_rfl) (by kernel_rfl) (by kernel_rfl) (fun _ _ _ h => h) (v := ?_) ?_ (by assumption) ?_
            rotate_left
            focus (intro wS hSw; (try dsimp only at hSw); go_simp; (try with_reducible rfl))
            simp only [List.set_cons_zero, List.set_cons_succ]
            refine hr_take (i := 15) rfl rfl (by kernel_rfl) (by kernel_rfl) (by kernel_rfl) (by kernel_rfl) (fun _ _ _ h => h) (v := ?_) ?_ (by assumption) ?_
            rotate_left
            focus (intro wS hSw; (try dsimp only at hSw); go_simp; (try with_reducible rfl))
            simp only [List.set_cons_zero, List.set_cons_succ]
            refine hr_done (by kernel_rfl) ?_
            go_wp2_with fail
            (refine bodyPost_ret (v := _) (by (simp [results, Try.results12, go_sem]; exact rfl)) rfl ⟨?_, (Below.toGrow (by repeat (first | (with_reducible exact Below.refl _ _) | (with_reducible assumption) | (with_reducible refine Below.grow ?_ ?_ _ _) | (with_reducible refine Below.drewN' ?_ _) | (with_reducible refine Below.drew ?_) | (with_reducible refine Below.alloc ?_ ?_ _) | (with_reducible refine Below.setCell ?_ ?_ _) | omega | (focus (simp; done)) | (focus (simp; omega)))))⟩; exact rfl)
set_option maxRecDepth 100000 in
set_option maxHeartbeats 4000000 in
theorem where_no (x : Value) (L : List Ln) (v pl pa : Int) (w : World) (hx : RdL w x L) (hl : L.length ≤ 100000) (hno : ¬ (0 ≤ pl ∧ pl < L.length ∧ 0 ≤ pa ∧ ∀ l ∈ L, sanL l.ls = true)) :
    Calls Try.prog 11 #[x, .int .i64 v, .agg #[.int .i64 pl, .int .i64 pa]] w fun e w' => e = .returned (.tuple #[.int .i64 0, .int .i64 0, .bool false]) ∧ Grew w w' := by
  obtain ⟨A, cap, rfl, hc⟩ := hx.1.len
  obtain ⟨n, hn⟩ : ∃ n, L.length = n := ⟨_, rfl⟩
  have hx0 := hx
  clear hx
  rw [hn] at hl hc hx0 hno ⊢
  have HX : Hid (RdL w (.slice A n cap) L) := hx0
  have HN := Lib.hid hn
  have HNO := Lib.hid hno
  clear hn hx0 hno
  by_cases h1 : pl < 0
  · have hb1 : decide (pl < 0) = true := by simpa using h1
    clear h1
    go_enter Try.func11, Try.ntmps11
    go_wp2_with fail
    (refine bodyPost_ret (v := _) (by (simp [results, Try.results11, go_sem]; exact rfl)) rfl ⟨?_, (Below.toGrow (by repeat (first | (with_reducible exact Below.refl _ _) | (with_reducible assumption) | (with_reducible refine Below.grow ?_ ?_ _ _) | (with_reducible refine Below.drewN' ?_ _) | (with_reducible refine Below.drew ?_) | (with_reducible refine Below.alloc ?_ ?_ _) | (with_reducible refine Below.setCell ?_ ?_ _) | omega | (focus (simp; done)) | (focus (simp; omega)))))⟩; exact rfl)
  · have hb1 : decide (pl < 0) = false := by simpa using h1
    by_cases h2 : (n : Int) ≤ pl
    · have hb2 : decide ((n : Int) ≤ pl) = true := by simpa using h2
      clear h1 h2
      go_enter Try.func11, Try.ntmps11
      go_wp2_with fail
      (refine bodyPost_ret (v := _) (by (simp [results, Try.results11, go_sem]; exact rfl)) rfl ⟨?_, (Below.toGrow (by repeat (first | (with_reducible exact Below.refl _ _) | (with_reducible assumption) | (with_reducible refine Below.grow ?_ ?_ _ _) | (with_reducible refine Below.drewN' ?_ _) | (with_reducible refine Below.drew ?_) | (with_reducible refine Below.alloc ?_ ?_ _) | (with_reducible refine Below.setCell ?_ ?_ _) | omega | (focus (simp; done)) | (focus (simp; omega)))))⟩; exact rfl)
    · have hb2 : decide ((n : Int) ≤ pl) = false := by simpa using h2
      by_cases h3 : pa < 0
      · have hb3 : decide (pa < 0) = true := by simpa using h3
        clear h1 h2 h3
        go_enter Try.func11, Try.ntmps11
        go_wp2_with fail
        (refine bodyPost_ret (v := _) (by (simp [results, Try.results11, go_sem]; exact rfl)) rfl ⟨?_, (Below.toGrow (by repeat (first | (with_reducible exact Below.refl _ _) | (with_reducible assumption) | (with_reducible refine Below.grow ?_ ?_ _ _) | (with_reducible refine Below.drewN' ?_ _) | (with_reducible refine Below.drew ?_) | (with_reducible refine Below.alloc ?_ ?_ _) | (with_reducible refine Below.setCell ?_ ?_ _) | omega | (focus (simp; done)) | (focus (simp; omega)))))⟩; exact rfl)
      · have hb3 : decide (pa < 0) = false := by simpa using h3
        have H1 := Lib.hid h1
        have H2 := Lib.hid h2
        have H3 := Lib.hid h3
        clear h1 h2 h3
        go_enter Try.func11, Try.ntmps11
        go_wp2_with fail
        go_loopw [34] (fun i wz => ∃ k : Nat, k ≤ n ∧ i = .int .i64 k ∧ Hid (∀ j (h : j < L.length), j < k → sanL L[j].ls = true) ∧ Below w.heap.size w wz ∧ Hid (Blk wz w.heap.size 31 #[.int .i64 pl, .int .i64 pa])) (fun i _ => n - (intOf i).toNat)
        case atStart => exact ⟨0, Nat.zero_le _, rfl, fun j _ hj => absurd hj (by omega), by (repeat (first | (with_reducible exact Below.refl _ _) | (with_reducible assumption) | (with_reducible refine Below.grow ?_ ?_ _ _) | (with_reducible refine Below.drewN' ?_ _) | (with_reducible refine Below.drew ?_) | (with_reducible refine Below.alloc ?_ ?_ _) | (with_reducible refine Below.setCell ?_ ?_ _) | omega | (focus (simp; done)) | (focus (simp; omega)))), Blk.new _ _ _⟩
        case round =>
          obtain ⟨k, hk, rfl, HALL, hbw, HBP⟩ := hrel
          have hws := hbw.size
          by_cases hlt : k < n
          · have hltI : (k : Int) < n := by omega
            have hkl : k < L.length := by rw [HN.out]; exact hlt
            obtain ⟨b, o, rfl, hbl, hat, hok⟩ := (HX.out.below hbw).at_ hkl
            have HE : Hid (sanL L[k].ls = true → ∀ j (h : j < L.length), j < k + 1 → sanL L[j].ls = true) := fun hs j h hj => by
              by_cases e : j = k
              · subst e; exact hs
              · exact HALL.out j h (by omega)
            generalize L[k] = le at *
            have HOK := Lib.hid hok
            obtain ⟨p0, p1, p2⟩ := hat
            clear hok
            cases hsl : sanL ⟨le.cs, le.dir, le.ex⟩
            · have HSL := Lib.hid hsl
              clear hsl
              go_wp2_with (go_at_call 16; (with_reducible refine (saneL_c le.A le.cs.length le.cap le.cs le.dir le.ex _ (HOK.out.rdB (by (repeat (first | (with_reducible exact Below.refl _ _) | (with_reducible assumption) | (with_reducible refine Below.grow ?_ ?_ _ _) | (with_reducible refine Below.drewN' ?_ _) | (with_reducible refine Below.drew ?_) | (with_reducible refine Below.alloc ?_ ?_ _) | (with_reducible refine Below.setCell ?_ ?_ _) | omega | (focus (simp; done)) | (focus (simp; omega)))))) rfl HOK.out.len).mono ?_); rw [HSL.out]; rintro e w2 ⟨rfl, X2, d2, rfl⟩)
              (refine bodyPost_ret (v := _) (by (simp [results, Try.results11, go_sem]; exact rfl)) rfl ⟨?_, (Below.toGrow (by repeat (first | (with_reducible exact Below.refl _ _) | (with_reducible assumption) | (with_reducible refine Below.grow ?_ ?_ _ _) | (with_reducible refine Below.drewN' ?_ _) | (with_reducible refine Below.drew ?_) | (with_reducible refine Below.alloc ?_ ?_ _) | (with_reducible refine Below.setCell ?_ ?_ _) | omega | (focus (simp; done)) | (focus (simp; omega)))))⟩; exact rfl)
            · have HSL := Lib.hid hsl
              clear hsl
              go_wp2_with (go_at_call 16; (with_reducible refine (saneL_c le.A le.cs.length le.cap le.cs le.dir le.ex _ (HOK.out.rdB (by (repeat (first | (with_reducible exact Below.refl _ _) | (with_reducible assumption) | (with_reducible refine Below.grow ?_ ?_ _ _) | (with_reducible refine Below.drewN' ?_ _) | (with_reducible refine Below.drew ?_) | (with_reducible refine Below.alloc ?_ ?_ _) | (with_reducible refine Below.setCell ?_ ?_ _) | omega | (focus (simp; done)) | (focus (simp; omega)))))) rfl HOK.out.len).mono ?_); rw [HSL.out]; rintro e w2 ⟨rfl, X2, d2, rfl⟩)
              go_roundw
              case rel => exact ⟨k + 1, by omega, by go_num, HE.out HSL.out, by (repeat (first | (with_reducible exact Below.refl _ _) | (with_reducible assumption) | (with_reducible refine Below.grow ?_ ?_ _ _) | (with_reducible refine Below.drewN' ?_ _) | (with_reducible refine Below.drew ?_) | (with_reducible refine Below.alloc ?_ ?_ _) | (with_reducible refine Below.setCell ?_ ?_ _) | omega | (focus (simp; done)) | (focus (simp; omega)))), by have := HBP.out; show Blk _ _ _ _; (repeat (first | (with_reducible assumption) | (with_reducible refine Blk.grow ?_ _ _) | (with_reducible refine Blk.alloc ?_ _)))⟩
              case measure => simp [intOf]; omega
          · obtain rfl : n = k := by omega
            have HS : Hid (∀ l ∈ L, sanL l.ls = true) := fun l hl => by
              obtain ⟨j, hj, rfl⟩ := List.getElem_of_mem hl
              exact HALL.out j hj (by rw [← HN.out]; exact hj)
            exact absurd ⟨by have := H1.out; omega, by have := H2.out; omega, by have := H3.out; omega, HS.out⟩ HNO.out
set_option maxRecDepth 100000 in
set_option maxHeartbeats 4000000 in
theorem where11_no (x : Value) (L : List Ln) (v pl pa : Int) (w : World) (hx : RdL w x L) (hl : L.length ≤ 100000) (hno : ¬ (0 ≤ pl ∧ pl < L.length ∧ 0 ≤ pa ∧ ∀ l ∈ L, sanL l.ls = true)) :
    Calls Try.prog 12 #[x, .int .i64 v, .agg #[.int .i64 pl, .int .i64 pa]] w fun e w' => e = .returned (.tuple #[.int .i64 0, .int .i64 0, .bool false]) ∧ Grew w w' := by
  obtain ⟨A, cap, rfl, hc⟩ := hx.1.len
  obtain ⟨n, hn⟩ : ∃ n, L.length = n := ⟨_, rfl⟩
  have hx0 := hx
  clear hx
  rw [hn] at hl hc hx0 hno ⊢
  have HX : Hid (RdL w (.slice A n cap) L) := hx0
  have HN := Lib.hid hn
  have HNO := Lib.hid hno
  clear hn hx0 hno
  go_enter Try.func12, Try.ntmps12
  go_wp2_with fail
  go_loopw [9] (fun i wz => ∃ k : Nat, k ≤ n ∧ i = .int .i64 k ∧ Hid (∀ j (h : j < L.length), j < k → sanL L[j].ls = true) ∧ Below w.heap.size w wz ∧ Hid (Blk wz w.heap.size 24 #[.int .i64 pl, .int .i64 pa])) (fun i _ => n - (intOf i).toNat)
  case atStart => exact ⟨0, Nat.zero_le _, rfl, fun j _ hj => absurd hj (by omega), by (repeat (first | (with_reducible exact Below.refl _ _) | (with_reducible assumption) | (with_reducible refine Below.grow ?_ ?_ _ _) | (with_reducible refine Below.drewN' ?_ _) | (with_reducible refine Below.drew ?_) | (with_reducible refine Below.alloc ?_ ?_ _) | (with_reducible refine Below.setCell ?_ ?_ _) | omega | (focus (simp; done)) | (focus (simp; omega)))), Blk.new _ _ _⟩
  case round =>
    obtain ⟨k, hk, rfl, HALL, hbw, HBP⟩ := hrel
    have hws := hbw.size
    by_cases hlt : k < n
    · have hltI : (k : Int) < n := by omega
      have hkl : k < L.length := by rw [HN.out]; exact hlt
      obtain ⟨b, o, rfl, hbl, hat, hok⟩ := (HX.out.below hbw).at_ hkl
      have HE : Hid (sanL L[k].ls = true → ∀ j (h : j < L.length), j < k + 1 → sanL L[j].ls = true) := fun hs j h hj => by
        by_cases e : j = k
        · subst e; exact hs
        · exact HALL.out j h (by omega)
      generalize L[k] = le at *
      have HOK := Lib.hid hok
      obtain ⟨p0, p1, p2⟩ := hat
      clear hok
      cases hsl : sanL ⟨le.cs, le.dir, le.ex⟩
      · have HSL := Lib.hid hsl
        clear hsl
        go_wp2_with (go_at_call 17; (with_reducible refine (saneL11_c le.A le.cs.length le.cap le.cs le.dir le.ex _ (HOK.out.rdB (by (repeat (first | (with_reducible exact Below.refl _ _) | (with_reducible assumption) | (with_reducible refine Below.grow ?_ ?_ _ _) | (with_reducible refine Below.drewN' ?_ _) | (with_reducible refine Below.drew ?_) | (with_reducible refine Below.alloc ?_ ?_ _) | (with_reducible refine Below.setCell ?_ ?_ _) | omega | (focus (simp; done)) | (focus (simp; omega)))))) rfl HOK.out.len).mono ?_); rw [HSL.out]; rintro e w2 ⟨rfl, X2, d2, rfl⟩)
        (refine bodyPost_ret (v := _) (by (simp [results, Try.results12, go_sem]; exact rfl)) rfl ⟨?_, (Below.toGrow (by repeat (first | (with_reducible exact Below.refl _ _) | (with_reducible assumption) | (with_reducible refine Below.grow ?_ ?_ _ _) | (with_reducible refine Below.drewN' ?_ _) | (with_reducible refine Below.drew ?_) | (with_reducible refine Below.alloc ?_ ?_ _) | (with_reducible refine Below.setCell ?_ ?_ _) | omega | (focus (simp; done)) | (focus (simp; omega)))))⟩; exact rfl)
      · have HSL := Lib.hid hsl
        clear hsl
        go_wp2_with (go_at_call 17; (with_reducible refine (saneL11_c le.A le.cs.length le.cap le.cs le.dir le.ex _ (HOK.out.rdB (by (repeat (first | (with_reducible exact Below.refl _ _) | (with_reducible assumption) | (with_reducible refine Below.grow ?_ ?_ _ _) | (with_reducible refine Below.drewN' ?_ _) | (with_reducible refine Below.drew ?_) | (with_reducible refine Below.alloc ?_ ?_ _) | (with_reducible refine Below.setCell ?_ ?_ _) | omega | (focus (simp; done)) | (focus (simp; omega)))))) rfl HOK.out.len).mono ?_); rw [HSL.out]; rintro e w2 ⟨rfl, X2, d2, rfl⟩)
        go_roundw
        case rel => exact ⟨k + 1, by omega, by go_num, HE.out HSL.out, by (repeat (first | (with_reducible exact Below.refl _ _) | (with_reducible assumption) | (with_reducible refine Below.grow ?_ ?_ _ _) | (with_reducible refine Below.drewN' ?_ _) | (with_reducible refine Below.drew ?_) | (with_reducible refine Below.alloc ?_ ?_ _) | (with_reducible refine Below.setCell ?_ ?_ _) | omega | (focus (simp; done)) | (focus (simp; omega)))), by have := HBP.out; show Blk _ _ _ _; (repeat (first | (with_reducible assumption) | (with_reducible refine Blk.grow ?_ _ _) | (with_reducible refine Blk.alloc ?_ _)))⟩
        case measure => simp [intOf]; omega
    · obtain rfl : n = k := by omega
      have HS : Hid (∀ l ∈ L, sanL l.ls = true) := fun l hl => by
        obtain ⟨j, hj, rfl⟩ := List.getElem_of_mem hl
        exact HALL.out j hj (by rw [← HN.out]; exact hj)
      obtain ⟨q0, q1, qf, ql⟩ := HBP.out.facts2
      by_cases h1 : pl < 0
      · have hb1 : decide (pl < 0) = true := by simpa using h1
        clear h1
        go_wp2_with fail
        (refine bodyPost_ret (v := _) (by (simp [results, Try.results12, go_sem]; exact rfl)) rfl ⟨?_, (Below.toGrow (by repeat (first | (with_reducible exact Below.refl _ _) | (with_reducible assumption) | (with_reducible refine Below.grow ?_ ?_ _ _) | (with_reducible refine Below.drewN' ?_ _) | (with_reducible refine Below.drew ?_) | (with_reducible refine Below.alloc ?_ ?_ _) | (with_reducible refine Below.setCell ?_ ?_ _) | omega | (focus (simp; done)) | (focus (simp; omega)))))⟩; exact rfl)
      · have hb1 : decide (pl < 0) = false := by simpa using h1
        by_cases h2 : (n : Int) ≤ pl
        · have hb2 : decide ((n : Int) ≤ pl) = true := by simpa using h2
          clear h1 h2
          go_wp2_with fail
          (refine bodyPost_ret (v := _) (by (simp [results, Try.results12, go_sem]; exact rfl)) rfl ⟨?_, (Below.toGrow (by repeat (first | (with_reducible exact Below.refl _ _) | (with_reducible assumption) | (with_reducible refine Below.grow ?_ ?_ _ _) | (with_reducible refine Below.drewN' ?_ _) | (with_reducible refine Below.drew ?_) | (with_reducible refine Below.alloc ?_ ?_ _) | (with_reducible refine Below.setCell ?_ ?_ _) | omega | (focus (simp; done)) | (focus (simp; omega)))))⟩; exact rfl)
        · have hb2 : decide ((n : Int) ≤ pl) = false := by simpa using h2
          by_cases h3 : pa < 0
          · have hb3 : decide (pa < 0) = true := by simpa using h3
            clear h1 h2 h3
            go_wp2_with fail
            (refine bodyPost_ret (v := _) (by (simp [results, Try.results12, go_sem]; exact rfl)) rfl ⟨?_, (Below.toGrow (by repeat (first | (with_reducible exact Below.refl _ _) | (with_reducible assumption) | (with_reducible refine Below.grow ?_ ?_ _ _) | (with_reducible refine Below.drewN' ?_ _) | (with_reducible refine Below.drew ?_) | (with_reducible refine Below.alloc ?_ ?_ _) | (with_reducible refine Below.setCell ?_ ?_ _) | omega | (focus (simp; done)) | (focus (simp; omega)))))⟩; exact rfl)
          · exact absurd ⟨by omega, by omega, by omega, HS.out⟩ HNO.out
end Go.Proofs.Ytlgnchhhadnjbaa.Row
