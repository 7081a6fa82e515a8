/- reflow.Where. -/
import Derived.Test.YtlgnchhhadnjbaaRflD
import Derived.Test.YtlgnchhhadnjbaaRflE
namespace Go.Proofs.Ytlgnchhhadnjbaa.Row
open Go.RowKit
def rmS (r : Sh) (o : Option Sh) : Nat :=
  if (r.wb && (match o with | some s => decide (r.cs[r.cs.length - 1]? = some (blank 0 0 0)) && decide ((s.cs[0]?).map Cl.w = some 2) | none => false)) = true then r.cs.length - 1 else r.cs.length
theorem rmN_sh {r : Rw} {o : Option Rw} (h1 : 1 ≤ r.n) (h2 : ∀ s, o = some s → 1 ≤ s.n) : rmN r o = rmS r.sh (o.map Rw.sh) := by
  unfold rmN rmS rmB Rw.sh
  simp only [listF_len]
  cases o with
  | none => simp
  | some s =>
    have h3 := h2 s rfl
    have e1 : (listF r.n r.f)[r.n - 1]? = some (r.f (r.n - 1)) := listF_get (by omega)
    have e2 : (listF s.n s.f)[0]? = some (s.f 0) := listF_get (by omega)
    simp [e1, e2]
/-- where a line's place lies in its rows -/
def whereN : List Sh → Nat → Nat × Nat
  | [], left => (0, left)
  | [r], left => (0, min left (r.cs.length - 1))
  | r :: s :: rest, left => if left < rmS r (some s) then (0, left) else ((whereN (s :: rest) (left - rmS r (some s))).1 + 1, (whereN (s :: rest) (left - rmS r (some s))).2)
theorem splitG_ne {x : Ls} {v : Int} (h : sanL x = true) : 0 < (splitG x v).length := by
  unfold splitG
  rw [if_pos h]
  unfold splitS finS
  simp
theorem split_wd {x : Ls} {v : Int} : ∀ s ∈ splitG x v, s.cs.length = wN v := by
  intro s hs
  unfold splitG at hs
  split at hs
  · unfold splitS finS at hs
    rcases List.mem_append.1 hs with h | h
    · obtain ⟨l, _, rfl⟩ := List.mem_map.1 h
      exact listF_len _ _
    · obtain rfl := List.mem_singleton.1 h
      exact listF_len _ _
  · cases hs
theorem sh_len {R : List Rw} {S : List Sh} (h : R.map Rw.sh = S) : R.length = S.length := by rw [← h, List.length_map]
theorem sh_get {R : List Rw} {S : List Sh} (h : R.map Rw.sh = S) (i : Nat) : (R[i]?).map Rw.sh = S[i]? := by rw [← h, List.getElem?_map]
theorem sh_n {R : List Rw} {S : List Sh} {q : Nat} (h : R.map Rw.sh = S) (hq : ∀ s ∈ S, s.cs.length = q) : ∀ r ∈ R, r.n = q := fun r hr => by
  have := hq r.sh (by rw [← h]; exact List.mem_map_of_mem hr)
  rw [← this]
  exact (listF_len _ _).symm
/-- a step on -/
theorem whereN_step {S : List Sh} {i left : Nat} {r s : Sh} (h1 : S[i]? = some r) (h2 : S[i + 1]? = some s) : whereN (S.drop i) left = if left < rmS r (some s) then (0, left) else ((whereN (S.drop (i + 1)) (left - rmS r (some s))).1 + 1, (whereN (S.drop (i + 1)) (left - rmS r (some s))).2) := by
  obtain ⟨hi, rfl⟩ := List.getElem?_eq_some_iff.1 h1
  obtain ⟨hj, rfl⟩ := List.getElem?_eq_some_iff.1 h2
  rw [List.drop_eq_getElem_cons hi, List.drop_eq_getElem_cons hj]
  rfl
theorem whereN_last {S : List Sh} {i left : Nat} {r : Sh} (h1 : S[i]? = some r) (h2 : i + 1 = S.length) : whereN (S.drop i) left = (0, min left (r.cs.length - 1)) := by
  obtain ⟨hi, rfl⟩ := List.getElem?_eq_some_iff.1 h1
  rw [List.drop_eq_getElem_cons hi, List.drop_eq_nil_of_le (by omega)]
  rfl
set_option maxRecDepth 100000 in
set_option maxHeartbeats 4000000 in
theorem where_yes (x : Value) (L : List Ln) (v : Int) (pl pa : Nat) (lp : Ln) (w : World) (hx : RdL w x L) (hl : L.length ≤ 100000) (ht : tot L ≤ 10000000) (hs : ∀ l ∈ L, sanL l.ls = true) (hp : L[pl]? = some lp) (hpa : (pa : Int) ≤ 9223372036854775807) :
    Calls Try.prog 11 #[x, .int .i64 v, .agg #[.int .i64 pl, .int .i64 pa]] w fun e w' => e = .returned (.tuple #[.int .i64 ((spreadS ((L.take pl).map Ln.ls) v).length + (whereN (splitG lp.ls v) pa).1), .int .i64 (whereN (splitG lp.ls v) pa).2, .bool true]) ∧ Grew w w' := by
  obtain ⟨A, cap, rfl, hc⟩ := hx.1.len
  have hpl := (List.getElem?_eq_some_iff.1 hp).1
  obtain ⟨Y, hY⟩ : ∃ Y, Y = (spreadS ((L.take pl).map Ln.ls) v).length := ⟨_, rfl⟩
  have hYt : Y ≤ 10000000 := by
    rw [hY]
    have := spread_len v (L.take pl)
    have := tot_take L pl
    omega
  rw [← hY]
  have HY := Lib.hid hY
  obtain ⟨T1, T2, hT⟩ : ∃ T1 T2, whereN (splitG lp.ls v) pa = (T1, T2) := ⟨_, _, rfl⟩
  have HT := Lib.hid hT
  simp only [hT]
  clear hT
  obtain ⟨n, hn⟩ : ∃ n, L.length = n := ⟨_, rfl⟩
  have hx0 := hx
  clear hx hY
  rw [hn] at hl hc hx0 hpl ⊢
  have HX : Hid (RdL w (.slice A n cap) L) := hx0
  have HN := Lib.hid hn
  have HSA := Lib.hid hs
  have HSP := Lib.hid (hs lp (List.mem_of_getElem? hp))
  have HP := Lib.hid hp
  obtain ⟨A9, -, hrun, hcut⟩ := slice0 (E := encL) (P := Try.prog) 27 40 Try.underlying27 (by kernel_rfl) A n cap pl (by omega) hc
  have HX9 : Hid (RdL w (.slice A9 pl cap) (L.take pl)) := ⟨hcut w L hx0.1, fun l hl => hx0.2 l (List.mem_of_mem_take hl)⟩
  have HL9 : Hid ((L.take pl).length ≤ 100000) := by show _ ≤ _; rw [List.length_take]; omega
  have HT9 : Hid (tot (L.take pl) ≤ 10000000) := Nat.le_trans (tot_take L pl) ht
  have hpl1 : decide ((pl : Int) < 0) = false := by simp
  have hpl2 : decide ((n : Int) ≤ pl) = false := by simp; omega
  have hpl3 : decide (n ≤ pl) = false := by simp; omega
  have hpa1 : decide ((pa : Int) < 0) = false := by simp
  have hplI : (pl : Int) < n := by omega
  have hnr : ∀ r : List Rw, r.map Rw.sh = splitG lp.ls v → 0 < r.length ∧ r.length ≤ 10000001 := fun r h => by
    have h1 := splitG_ne (v := v) (hs lp (List.mem_of_getElem? hp))
    have h2 := split_len lp.ls v
    have h3 : lp.ls.cs.length ≤ 10000000 := (hx0.2 lp (List.mem_of_getElem? hp)).2
    rw [← h, List.length_map] at h1 h2
    omega
  have HNR := Lib.hid hnr
  have HOKP := Lib.hid (hx0.2 lp (List.mem_of_getElem? hp))
  clear hs hp hcut ht hn hnr
  go_enter Try.func11, Try.ntmps11
  go_wp2_with fail
  go_loopw [34] (fun i wz => ∃ k : Nat, k ≤ n ∧ i = .int .i64 k ∧ Below w.heap.size w wz ∧ Hid (Blk wz w.heap.size 31 #[.int .i64 pl, .int .i64 pa])) (fun i _ => n - (intOf i).toNat)
  case atStart => exact ⟨0, Nat.zero_le _, rfl, by (repeat (first | (with_reducible exact Below.refl _ _) | (with_reducible assumption) | (with_reducible refine Below.grow ?_ ?_ _ _) | (with_reducible refine Below.drewN' ?_ _) | (with_reducible refine Below.drew ?_) | (with_reducible refine Below.alloc ?_ ?_ _) | (with_reducible refine Below.setCell ?_ ?_ _) | omega | (focus (simp; done)) | (focus (simp; omega)))), Blk.new _ _ _⟩
  case round =>
    obtain ⟨k, hk, rfl, hbw, HBP⟩ := hrel
    have hws := hbw.size
    by_cases hlt : k < n
    · have hltI : (k : Int) < n := by omega
      have hkl : k < L.length := by rw [HN.out]; exact hlt
      obtain ⟨b, o, rfl, hbl, hat, hok⟩ := (HX.out.below hbw).at_ hkl
      have HSL : Hid (sanL ⟨L[k].cs, L[k].dir, L[k].ex⟩ = true) := HSA.out _ (List.getElem_mem hkl)
      generalize L[k] = le at *
      have HOK := Lib.hid hok
      obtain ⟨p0, p1, p2⟩ := hat
      clear hok
      go_wp2_with (go_at_call 16; (with_reducible refine (saneL_c le.A le.cs.length le.cap le.cs le.dir le.ex _ (HOK.out.rdB (by (repeat (first | (with_reducible exact Below.refl _ _) | (with_reducible assumption) | (with_reducible refine Below.grow ?_ ?_ _ _) | (with_reducible refine Below.drewN' ?_ _) | (with_reducible refine Below.drew ?_) | (with_reducible refine Below.alloc ?_ ?_ _) | (with_reducible refine Below.setCell ?_ ?_ _) | omega | (focus (simp; done)) | (focus (simp; omega)))))) rfl HOK.out.len).mono ?_); rw [HSL.out]; rintro e w2 ⟨rfl, X2, d2, rfl⟩)
      go_roundw
      case rel => exact ⟨k + 1, by omega, by go_num, by (repeat (first | (with_reducible exact Below.refl _ _) | (with_reducible assumption) | (with_reducible refine Below.grow ?_ ?_ _ _) | (with_reducible refine Below.drewN' ?_ _) | (with_reducible refine Below.drew ?_) | (with_reducible refine Below.alloc ?_ ?_ _) | (with_reducible refine Below.setCell ?_ ?_ _) | omega | (focus (simp; done)) | (focus (simp; omega)))), by have := HBP.out; show Blk _ _ _ _; (repeat (first | (with_reducible assumption) | (with_reducible refine Blk.grow ?_ _ _) | (with_reducible refine Blk.alloc ?_ _)))⟩
      case measure => simp [intOf]; omega
    · obtain rfl : n = k := by omega
      obtain ⟨b, o, rfl, hbl, hat, hok⟩ := (HX.out.below hbw).at_ (k := pl) (by rw [HN.out]; omega)
      obtain ⟨hpl', hpe⟩ := List.getElem?_eq_some_iff.1 HP.out
      rw [hpe] at hat hok
      obtain ⟨p0, p1, p2⟩ := hat
      obtain ⟨q0, q1, qf, ql⟩ := HBP.out.facts2
      clear hpe hok
      go_upto_region 11 with (first | (go_at_call 14; (with_reducible refine (spread_c (.slice A9 pl cap) (L.take pl) v _ (HX9.out.below (by (repeat (first | (with_reducible exact Below.refl _ _) | (with_reducible assumption) | (with_reducible refine Below.grow ?_ ?_ _ _) | (with_reducible refine Below.drewN' ?_ _) | (with_reducible refine Below.drew ?_) | (with_reducible refine Below.alloc ?_ ?_ _) | (with_reducible refine Below.setCell ?_ ?_ _) | omega | (focus (simp; done)) | (focus (simp; omega)))))) HL9.out HT9.out).mono ?_); rintro e w3 ⟨u3, R3, rfl, hb3, hr3, hs3⟩; have HLN3 : Hid (R3.length = Y) := (by show _ = _; rw [HY.out, ← hs3, List.length_map]); obtain ⟨A3, c3, hu3, -⟩ := hr3.1.rd.len; subst hu3; rw [HLN3.out]; obtain ⟨X3, d3, rfl⟩ := Below.toGrow hb3; clear hb3 hr3 hs3) | (go_at_call 18; (with_reducible refine (split_c lp.A lp.cs.length lp.cap lp.cs lp.dir lp.ex v _ (HOKP.out.rdB (by (repeat (first | (with_reducible exact Below.refl _ _) | (with_reducible assumption) | (with_reducible refine Below.grow ?_ ?_ _ _) | (with_reducible refine Below.drewN' ?_ _) | (with_reducible refine Below.drew ?_) | (with_reducible refine Below.alloc ?_ ?_ _) | (with_reducible refine Below.setCell ?_ ?_ _) | omega | (focus (simp; done)) | (focus (simp; omega)))))) rfl HOKP.out.len).mono ?_); rintro e w4 ⟨u4, R4, rfl, hb4, hr4, hs4⟩; have HR4 := Lib.hid hr4.rd; have HS4 : Hid (R4.map Rw.sh = splitG lp.ls v) := hs4; have HB4 := Lib.hid hb4; clear hr4 hs4))
      obtain ⟨A4, c4, hu4, hc4⟩ := HR4.out.1.len
      obtain ⟨hr41, hr42⟩ := HNR.out R4 HS4.out
      have HWD := Lib.hid (sh_n HS4.out (split_wd (v := v)))
      have HG4 : Hid (∀ r ∈ R4, 1 ≤ r.n) := fun r hr => by rw [HWD.out r hr]; exact (wN_le v).1
      obtain ⟨nr, hnr⟩ : ∃ nr, R4.length = nr := ⟨_, rfl⟩
      rw [hnr] at hu4 hc4 hr41 hr42
      subst hu4
      have HRLN := Lib.hid hnr
      have HRL : Hid (R4.length ≤ 20000000) := by show _ ≤ _; rw [hnr]; omega
      obtain ⟨m, hmr⟩ : ∃ m, nr = m + 1 := ⟨nr - 1, by omega⟩
      have hm1 : (nr : Int) - 1 = (m : Int) := by omega
      have hmI : (m : Int) < nr := by omega
      have hmN : m < nr := by omega
      have HMR := Lib.hid hmr
      clear hmr
      have hbw4 : Below w.heap.size w w4 := by have := HB4.out; have h2 := (hbw.grow hws X3 d3).trans (this.mono (by simp; omega)); exact h2
      have HBP4 : Hid (Blk w4 w.heap.size 31 #[.int .i64 pl, .int .i64 pa]) := (HBP.out.grow X3 d3).below HB4.out (HBP.out.grow X3 d3).lt
      clear q0 q1 qf ql p0 p1 p2 hnr
      obtain ⟨q0, q1, qf, ql⟩ := HBP4.out.facts2
      go_wp2_with fail
      go_loopw [13, 62] (fun l i wz => ∃ (j left : Nat), j ≤ m ∧ i = .int .i64 j ∧ l = .int .i64 left ∧ left ≤ pa ∧ Below w4.heap.size w4 wz ∧ Hid (((whereN ((splitG lp.ls v).drop j) left).1 + j, (whereN ((splitG lp.ls v).drop j) left).2) = (T1, T2))) (fun _ i _ => m - (intOf i).toNat)
      case atStart => exact ⟨0, pa, Nat.zero_le _, rfl, rfl, Nat.le_refl _, Below.refl _ _, HT.out⟩
      case round =>
        obtain ⟨i, left, hi, rfl, rfl, hlp, hbz, HTI⟩ := hrel
        have hil : i < R4.length := by rw [HRLN.out]; omega
        obtain ⟨b4, o4, rfl, hb4l, hat, hok⟩ := (HR4.out.below hbz).at_ hil
        have HN4 : Hid (R4[i]? = some R4[i]) := List.getElem?_eq_getElem hil
        have HSI : Hid ((splitG lp.ls v)[i]? = some R4[i].sh) := by
          show _ = _
          rw [← sh_get HS4.out, HN4.out]
          rfl
        have hbzs := hbz.size
        have hw4s := hbw4.size
        have hbwr : Below w.heap.size w wr := hbw4.trans (hbz.mono hw4s)
        have hwrs := hbwr.size
        by_cases him : i < m
        · have himI : (i : Int) < m := by omega
          have hil2 : i + 1 < R4.length := by rw [HRLN.out]; omega
          have h5 : R4[i + 1]? = some R4[i + 1] := List.getElem?_eq_getElem hil2
          have HSI2 : Hid ((splitG lp.ls v)[i + 1]? = some R4[i + 1].sh) := by
            show _ = _
            rw [← sh_get HS4.out, h5]
            rfl
          have HWS := Lib.hid (whereN_step (left := left) HSI.out HSI2.out)
          have hrmE := rmN_sh (r := R4[i]) (o := R4[i + 1]?) (HG4.out _ (List.getElem_mem hil)) (fun s hs => by rw [h5] at hs; injection hs with hs; rw [← hs]; exact HG4.out _ (List.getElem_mem hil2))
          rw [h5, Option.map_some] at hrmE
          rw [← hrmE] at HWS
          have hrl := rmN_le R4[i] R4[i + 1]?
          rw [h5] at hrl
          obtain ⟨rm, hrm⟩ : ∃ rm, rmN R4[i] (some R4[i + 1]) = rm := ⟨_, rfl⟩
          rw [hrm] at HWS hrl
          have HRM : Hid (rmN R4[i] R4[i + 1]? = rm) := by show _ = _; rw [h5]; exact hrm
          have hr5 := hok.2.2
          generalize R4[i] = r4 at *
          clear h5 hrmE hrm hok hat
          by_cases hlr : left < rm
          · have hb5 : decide ((left : Int) < rm) = true := by simpa using hlr
            have hb6 : decide (left < rm) = true := by simpa using hlr
            have HTE : Hid ((i, left) = (T1, T2)) := by
              show _ = _
              rw [← HTI.out, HWS.out, if_pos hlr]
              simp
            obtain ⟨rfl, rfl⟩ : i = T1 ∧ left = T2 := by have := HTE.out; injection this with h1 h2; exact ⟨h1, h2⟩
            go_wp2_with (go_at_call 31; go_loud ((with_reducible refine (room_c (.slice (some ⟨b4, o4, none⟩) nr c4) R4 i r4 _ (HR4.out.below (by (repeat (first | (with_reducible exact Below.refl _ _) | (with_reducible assumption) | (with_reducible refine Below.grow ?_ ?_ _ _) | (with_reducible refine Below.drewN' ?_ _) | (with_reducible refine Below.drew ?_) | (with_reducible refine Below.alloc ?_ ?_ _) | (with_reducible refine Below.setCell ?_ ?_ _) | omega | (focus (simp; done)) | (focus (simp; omega)))))) HRL.out HN4.out HG4.out).mono ?_); rw [HRM.out]; rintro e w6 ⟨rfl, X6, d6, rfl⟩))
            (refine bodyPost_ret (v := _) (by (simp [results, Try.results11, go_sem]; exact rfl)) rfl ⟨?_, (Below.toGrow (by repeat (first | (with_reducible exact Below.refl _ _) | (with_reducible assumption) | (with_reducible refine Below.grow ?_ ?_ _ _) | (with_reducible refine Below.drewN' ?_ _) | (with_reducible refine Below.drew ?_) | (with_reducible refine Below.alloc ?_ ?_ _) | (with_reducible refine Below.setCell ?_ ?_ _) | omega | (focus (simp; done)) | (focus (simp; omega)))))⟩; exact rfl)
          · have hb5 : decide ((left : Int) < rm) = false := by simpa using hlr
            have hb6 : decide (left < rm) = false := by simpa using hlr
            have hsub : (left : Int) - (rm : Int) = ((left - rm : Nat) : Int) := by omega
            have hrpa : left - rm ≤ pa := by omega
            have HTE : Hid (((whereN ((splitG lp.ls v).drop (i + 1)) (left - rm)).1 + (i + 1), (whereN ((splitG lp.ls v).drop (i + 1)) (left - rm)).2) = (T1, T2)) := by
              show _ = _
              rw [← HTI.out, HWS.out, if_neg hlr]
              simp only
              rw [Nat.add_right_comm]
              rfl
            obtain ⟨lf2, hlf2⟩ : ∃ lf2, left - rm = lf2 := ⟨_, rfl⟩
            rw [hlf2] at hsub hrpa HTE
            clear hlf2 HWS
            go_wp2_with (go_at_call 31; go_loud ((with_reducible refine (room_c (.slice (some ⟨b4, o4, none⟩) nr c4) R4 i r4 _ (HR4.out.below (by (repeat (first | (with_reducible exact Below.refl _ _) | (with_reducible assumption) | (with_reducible refine Below.grow ?_ ?_ _ _) | (with_reducible refine Below.drewN' ?_ _) | (with_reducible refine Below.drew ?_) | (with_reducible refine Below.alloc ?_ ?_ _) | (with_reducible refine Below.setCell ?_ ?_ _) | omega | (focus (simp; done)) | (focus (simp; omega)))))) HRL.out HN4.out HG4.out).mono ?_); rw [HRM.out]; rintro e w6 ⟨rfl, X6, d6, rfl⟩))
            go_roundw
            case rel => exact ⟨i + 1, lf2, by omega, by go_num, rfl, hrpa, by (repeat (first | (with_reducible exact Below.refl _ _) | (with_reducible assumption) | (with_reducible refine Below.grow ?_ ?_ _ _) | (with_reducible refine Below.drewN' ?_ _) | (with_reducible refine Below.drew ?_) | (with_reducible refine Below.alloc ?_ ?_ _) | (with_reducible refine Below.setCell ?_ ?_ _) | omega | (focus (simp; done)) | (focus (simp; omega)))), HTE.out⟩
            case measure => simp [intOf]; omega
        · obtain rfl : m = i := by omega
          have hwl := whereN_last (left := left) HSI.out (by rw [← sh_len HS4.out, HRLN.out, HMR.out])
          have hrn : (R4[m].sh.cs.length) = R4[m].n := listF_len _ _
          rw [hrn] at hwl
          have HTE : Hid ((m, min left (R4[m].n - 1)) = (T1, T2)) := by
            show _ = _
            rw [← HTI.out, hwl]
            simp
          have hr1 := HG4.out _ (List.getElem_mem hil)
          have hr5 := hok.2.2
          generalize R4[m] = r4 at *
          obtain ⟨p0, p1, p2, p3⟩ := hat
          obtain ⟨q2, hq2⟩ : ∃ q2, r4.n - 1 = q2 := ⟨_, rfl⟩
          have hn2 : (r4.n : Int) - 1 = (q2 : Int) := by omega
          rw [hq2] at HTE
          obtain ⟨hT1, hT2⟩ : m = T1 ∧ min left q2 = T2 := by have := HTE.out; injection this with h1 h2; exact ⟨h1, h2⟩
          subst hT1
          clear hwl hrn hq2 hok
          skip
          have hwr1 : IntKind.i64.wrap ((Y : Int) + (m : Int)) = (Y : Int) + (m : Int) := by rw [IntWalk.i64_left]; exact IntWalk.wrap64_in _ (by omega)
          have hwr2 : IntKind.i64.wrap (q2 : Int) = (q2 : Int) := by rw [IntWalk.i64_left]; exact IntWalk.wrap64_in _ (by omega)
          by_cases hlq : q2 < left
          · have hmin : min left q2 = q2 := by omega
            rw [hmin] at hT2
            subst hT2
            have hlqI : (q2 : Int) < left := by omega
            go_wp2_with fail
            refine hr_start (S := (fun w' => w'.cell? ⟨b4, o4 + m * 4, none⟩ = some (.slice r4.A r4.n r4.cap))) (by kernel_rfl) rfl ?_ (fun hHeld => ?_)
            · ((try dsimp only); go_simp)
            refine hr_take (i := 0) rfl rfl (by kernel_rfl) (by kernel_rfl) (by kernel_rfl) (by kernel_rfl) (fun _ _ _ h => h) (v := ?_) ?_ (by assumption) ?_
            rotate_left
            focus (intro wS hSw; (try dsimp only at hSw); go_simp; (try with_reducible rfl))
            simp only [List.set_cons_zero, List.set_cons_succ]
            refine hr_take (i := 1) rfl rfl (by kernel_rfl) (by kernel_rfl) (by kernel_rfl) (by kernel_rfl) (fun _ _ _ h => h) (v := ?_) ?_ (by assumption) ?_
            rotate_left
            focus (intro wS hSw; (try dsimp only at hSw); go_simp; (try with_reducible rfl))
            simp only [List.set_cons_zero, List.set_cons_succ]
            refine hr_take (i := 2) rfl rfl (by kernel_rfl) (by kernel_rfl) (by kernel_rfl) (by kernel_rfl) (fun _ _ _ h => h) (v := ?_) ?_ (by assumption) ?_
            rotate_left
            focus (intro wS hSw; (try dsimp only at hSw); go_simp; (try with_reducible rfl))
            simp only [List.set_cons_zero, List.set_cons_succ]
            refine hr_take (i := 3) rfl rfl (by kernel_rfl) (by kernel_rfl) (by kernel_rfl) (by kernel_rfl) (fun _ _ _ h => h) (v := ?_) ?_ (by assumption) ?_
            rotate_left
            focus (intro wS hSw; (try dsimp only at hSw); go_simp; (try with_reducible rfl))
            simp only [List.set_cons_zero, List.set_cons_succ]
            refine hr_take (i := 4) rfl rfl (by kernel_rfl) (by kernel_rfl) (by kernel_rfl) (by kernel_rfl) (fun _ _ _ h => h) (v := ?_) ?_ (by assumption) ?_
            rotate_left
            focus (intro wS hSw; (try dsimp only at hSw); go_simp; (try with_reducible rfl))
            simp only [List.set_cons_zero, List.set_cons_succ]
            refine hr_take (i := 5) rfl rfl (by kernel_rfl) (by kernel_rfl) (by kernel_rfl) (by kernel_rfl) (fun _ _ _ h => h) (v := ?_) ?_ (by assumption) ?_
            rotate_left
            focus (intro wS hSw; (try dsimp only at hSw); go_simp; (try with_reducible rfl))
            simp only [List.set_cons_zero, List.set_cons_succ]
            refine hr_take (i := 6) rfl rfl (by kernel_rfl) (by kernel_rfl) (by kernel_rfl) (by kernel_rfl) (fun _ _ _ h => h) (v := ?_) ?_ (by assumption) ?_
            rotate_left
            focus (intro wS hSw; (try dsimp only at hSw); go_simp; (try with_reducible rfl))
            simp only [List.set_cons_zero, List.set_cons_succ]
            refine hr_take (i := 7) rfl rfl (by kernel_rfl) (by kernel_rfl) (by kernel_rfl) (by kernel_rfl) (fun _ _ _ h => h) (v := ?_) ?_ (by assumption) ?_
            rotate_left
            focus (intro wS hSw; (try dsimp only at hSw); go_simp; (try with_reducible rfl))
            simp only [List.set_cons_zero, List.set_cons_succ]
            refine hr_take (i := 8) rfl rfl (by kernel_rfl) (by kernel_rfl) (by kernel_rfl) (by kernel_rfl) (fun _ _ _ h => h) (v := ?_) ?_ (by assumption) ?_
            rotate_left
            focus (intro wS hSw; (try dsimp only at hSw); go_simp; (try with_reducible rfl))
            simp only [List.set_cons_zero, List.set_cons_succ]
            refine hr_take (i := 9) rfl rfl (by kernel_rfl) (by kernel_rfl) (by kernel_rfl) (by kernel_rfl) (fun _ _ _ h => h) (v := ?_) ?_ (by assumption) ?_
            rotate_left
            focus (intro wS hSw; (try dsimp only at hSw); go_simp; (try with_reducible rfl))
            simp only [List.set_cons_zero, List.set_cons_succ]
            refine hr_take (i := 10) rfl rfl (by kernel_rfl) (by kernel_rfl) (by kernel_rfl) (by kernel_rfl) (fun _ _ _ h => h) (v := ?_) ?_ (by assumption) ?_
            rotate_left
            focus (intro wS hSw; (try dsimp only at hSw); go_simp; (try with_reducible rfl))
            simp only [List.set_cons_zero, List.set_cons_succ]
            refine hr_take (i := 11) rfl rfl (by kernel_rfl) (by kernel_rfl) (by kernel_rfl) (by kernel_rfl) (fun _ _ _ h => h) (v := ?_) ?_ (by assumption) ?_
            rotate_left
            focus (intro wS hSw; (try dsimp only at hSw); go_simp; (try with_reducible rfl))
            simp only [List.set_cons_zero, List.set_cons_succ]
            refine hr_take (i := 12) rfl rfl (by kernel_rfl) (by kernel_rfl) (by kernel_rfl) (by kernel_rfl) (fun _ _ _ h => h) (v := ?_) ?_ (by assumption) ?_
            rotate_left
            focus (intro wS hSw; (try dsimp only at hSw); go_simp; (try with_reducible rfl))
            simp only [List.set_cons_zero, List.set_cons_succ]
            refine hr_take (i := 13) rfl rfl (by kernel_rfl) (by kernel_rfl) (by kernel_rfl) (by kernel_rfl) (fun _ _ _ h => h) (v := ?_) ?_ (by assumption) ?_
            rotate_left
            focus (intro wS hSw; (try dsimp only at hSw); go_simp; (try with_reducible rfl))
            simp only [List.set_cons_zero, List.set_cons_succ]
            refine hr_take (i := 14) rfl rfl (by kernel_rfl) (by kernel_rfl) (by kernel_rfl) (by kernel_rfl) (fun _ _ _ h => h) (v := ?_) ?_ (by assumption) ?_
            rotate_left
            focus (intro wS hSw; (try dsimp only at hSw); go_simp; (try with_reducible rfl))
            simp only [List.set_cons_zero, List.set_cons_succ]
            refine hr_done (by kernel_rfl) ?_
            go_wp2_with fail
            (refine bodyPost_ret (v := _) (by (simp [results, Try.results11, go_sem]; exact rfl)) rfl ⟨?_, (Below.toGrow (by repeat (first | (with_reducible exact Below.refl _ _) | (with_reducible assumption) | (with_reducible refine Below.grow ?_ ?_ _ _) | (with_reducible refine Below.drewN' ?_ _) | (with_reducible refine Below.drew ?_) | (with_reducible refine Below.alloc ?_ ?_ _) | (with_reducible refine Below.setCell ?_ ?_ _) | omega | (focus (simp; done)) | (focus (simp; omega)))))⟩; exact rfl)
          · have hmin : min left q2 = left := by omega
            rw [hmin] at hT2
            subst hT2
            have hlqI : ¬ (q2 : Int) < left := by omega
            go_wp2_with fail
            refine hr_start (S := (fun w' => w'.cell? ⟨b4, o4 + m * 4, none⟩ = some (.slice r4.A r4.n r4.cap))) (by kernel_rfl) rfl ?_ (fun hHeld => ?_)
            · ((try dsimp only); go_simp)
            refine hr_take (i := 0) rfl rfl (by kernel_rfl) (by kernel_rfl) (by kernel_rfl) (by kernel_rfl) (fun _ _ _ h => h) (v := ?_) ?_ (by assumption) ?_
            rotate_left
            focus (intro wS hSw; (try dsimp only at hSw); go_simp; (try with_reducible rfl))
            simp only [List.set_cons_zero, List.set_cons_succ]
            refine hr_take (i := 1) rfl rfl (by kernel_rfl) (by kernel_rfl) (by kernel_rfl) (by kernel_rfl) (fun _ _ _ h => h) (v := ?_) ?_ (by assumption) ?_
            rotate_left
            focus (intro wS hSw; (try dsimp only at hSw); go_simp; (try with_reducible rfl))
            simp only [List.set_cons_zero, List.set_cons_succ]
            refine hr_take (i := 2) rfl rfl (by kernel_rfl) (by kernel_rfl) (by kernel_rfl) (by kernel_rfl) (fun _ _ _ h => h) (v := ?_) ?_ (by assumption) ?_
            rotate_left
            focus (intro wS hSw; (try dsimp only at hSw); go_simp; (try with_reducible rfl))
            simp only [List.set_cons_zero, List.set_cons_succ]
            refine hr_take (i := 3) rfl rfl (by kernel_rfl) (by kernel_rfl) (by kernel_rfl) (by kernel_rfl) (fun _ _ _ h => h) (v := ?_) ?_ (by assumption) ?_
            rotate_left
            focus (intro wS hSw; (try dsimp only at hSw); go_simp; (try with_reducible rfl))
            simp only [List.set_cons_zero, List.set_cons_succ]
            refine hr_take (i := 4) rfl rfl (by kernel_rfl) (by kernel_rfl) (by kernel_rfl) (by kernel_rfl) (fun _ _ _ h => h) (v := ?_) ?_ (by assumption) ?_
            rotate_left
            focus (intro wS hSw; (try dsimp only at hSw); go_simp; (try with_reducible rfl))
            simp only [List.set_cons_zero, List.set_cons_succ]
            refine hr_take (i := 5) rfl rfl (by kernel_rfl) (by kernel_rfl) (by kernel_rfl) (by kernel_rfl) (fun _ _ _ h => h) (v := ?_) ?_ (by assumption) ?_
            rotate_left
            focus (intro wS hSw; (try dsimp only at hSw); go_simp; (try with_reducible rfl))
            simp only [List.set_cons_zero, List.set_cons_succ]
            refine hr_take (i := 6) rfl rfl (by kernel_rfl) (by kernel_rfl) (by kernel_rfl) (by kernel_rfl) (fun _ _ _ h => h) (v := ?_) ?_ (by assumption) ?_
            rotate_left
            focus (intro wS hSw; (try dsimp only at hSw); go_simp; (try with_reducible rfl))
            simp only [List.set_cons_zero, List.set_cons_succ]
            refine hr_take (i := 7) rfl rfl (by kernel_rfl) (by kernel_rfl) (by kernel_rfl) (by kernel_rfl) (fun _ _ _ h => h) (v := ?_) ?_ (by assumption) ?_
            rotate_left
            focus (intro wS hSw; (try dsimp only at hSw); go_simp; (try with_reducible rfl))
            simp only [List.set_cons_zero, List.set_cons_succ]
            refine hr_take (i := 8) rfl rfl (by kernel_rfl) (by kernel_rfl) (by kernel_rfl) (by kernel_rfl) (fun _ _ _ h => h) (v := ?_) ?_ (by assumption) ?_
            rotate_left
            focus (intro wS hSw; (try dsimp only at hSw); go_simp; (try with_reducible rfl))
            simp only [List.set_cons_zero, List.set_cons_succ]
            refine hr_take (i := 9) rfl rfl (by kernel_rfl) (by kernel_rfl) (by kernel_rfl) (by kernel_rfl) (fun _ _ _ h => h) (v := ?_) ?_ (by assumption) ?_
            rotate_left
            focus (intro wS hSw; (try dsimp only at hSw); go_simp; (try with_reducible rfl))
            simp only [List.set_cons_zero, List.set_cons_succ]
            refine hr_take (i := 10) rfl rfl (by kernel_rfl) (by kernel_rfl) (by kernel_rfl) (by kernel_rfl) (fun _ _ _ h => h) (v := ?_) ?_ (by assumption) ?_
            rotate_left
            focus (intro wS hSw; (try dsimp only at hSw); go_simp; (try with_reducible rfl))
            simp only [List.set_cons_zero, List.set_cons_succ]
            refine hr_take (i := 11) rfl rfl (by kernel_rfl) (by kernel_rfl) (by kernel_rfl) (by kernel_rfl) (fun _ _ _ h => h) (v := ?_) ?_ (by assumption) ?_
            rotate_left
            focus (intro wS hSw; (try dsimp only at hSw); go_simp; (try with_reducible rfl))
            simp only [List.set_cons_zero, List.set_cons_succ]
            refine hr_take (i := 12) rfl rfl (by kernel_rfl) (by kernel_rfl) (by kernel_rfl) (by kernel_rfl) (fun _ _ _ h => h) (v := ?_) ?_ (by assumption) ?_
            rotate_left
            focus (intro wS hSw; (try dsimp only at hSw); go_simp; (try with_reducible rfl))
            simp only [List.set_cons_zero, List.set_cons_succ]
            refine hr_take (i := 13) rfl rfl (by kernel_rfl) (by kernel_rfl) (by kernel_rfl) (by kernel_rfl) (fun _ _ _ h => h) (v := ?_) ?_ (by assumption) ?_
            rotate_left
            focus (intro wS hSw; (try dsimp only at hSw); go_simp; (try with_reducible rfl))
            simp only [List.set_cons_zero, List.set_cons_succ]
            refine hr_take (i := 14) rfl rfl (by kernel_rfl) (by kernel_rfl) (by kernel_rfl) (by kernel_rfl) (fun _ _ _ h => h) (v := ?_) ?_ (by assumption) ?_
            rotate_left
            focus (intro wS hSw; (try dsimp only at hSw); go_simp; (try with_reducible rfl))
            simp only [List.set_cons_zero, List.set_cons_succ]
            refine hr_done (by kernel_rfl) ?_
            go_wp2_with fail
            (refine bodyPost_ret (v := _) (by (simp [results, Try.results11, go_sem]; exact rfl)) rfl ⟨?_, (Below.toGrow (by repeat (first | (with_reducible exact Below.refl _ _) | (with_reducible assumption) | (with_reducible refine Below.grow ?_ ?_ _ _) | (with_reducible refine Below.drewN' ?_ _) | (with_reducible refine Below.drew ?_) | (with_reducible refine Below.alloc ?_ ?_ _) | (with_reducible refine Below.setCell ?_ ?_ _) | omega | (focus (simp; done)) | (focus (simp; omega)))))⟩; exact rfl)
end Go.Proofs.Ytlgnchhhadnjbaa.Row
