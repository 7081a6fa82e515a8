/- The walk of reflow.Join. -/
import Derived.Test.YtlgnchhhadnjbaaRflK
namespace Go.Proofs.Ytlgnchhhadnjbaa.Row
open Go.RowKit
def sumN (L : List Rw) (k : Nat) : Nat := ((L.take k).map Rw.n).sum
theorem sumN_succ {L : List Rw} {k : Nat} {r : Rw} (h : L[k]? = some r) : sumN L (k + 1) = sumN L k + r.n := by
  obtain ⟨hk, rfl⟩ := List.getElem?_eq_some_iff.1 h
  unfold sumN
  rw [List.take_add_one, List.getElem?_eq_getElem hk, List.map_append, List.sum_append]
  simp [Option.toList]
theorem sumN_le (L : List Rw) : ∀ k, sumN L k ≤ sumN L L.length := by
  intro k
  unfold sumN
  rw [List.take_of_length_le (Nat.le_refl _)]
  have h : (L.map Rw.n).sum = ((L.take k).map Rw.n).sum + ((L.drop k).map Rw.n).sum := by rw [← List.sum_append, ← List.map_append, List.take_append_drop]
  omega
theorem keptC_len (l : List Cl) : (keptC l).length ≤ l.length := List.length_filter_le _ _
/-- what a call of Join gives -/
def JoinF (L : List Rw) (w : World) (e : Ending) (w' : World) : Prop := ∃ u M, e = .returned u ∧ Below w.heap.size w w' ∧ RdL w' u M ∧ M.map Ln.ls = joinR L ∧ (∀ l ∈ M, l.cs.length ≤ sumN L L.length) ∧ M.length ≤ L.length
/-- a line without the blank cells at its end -/
def trimLn (l : Ln) : Ln := ⟨l.A, l.cap, trimL l.cs, l.dir, l.ex⟩
def trimTo (Ms : List Ln) (q : Nat) : List Ln := (Ms.take q).map trimLn ++ Ms.drop q
theorem trimTo_len (Ms : List Ln) (q : Nat) : (trimTo Ms q).length = Ms.length := by
  unfold trimTo
  rw [List.length_append, List.length_map, ← List.length_append, List.take_append_drop]
theorem trimTo_get {Ms : List Ln} {q : Nat} (h : q < Ms.length) : (trimTo Ms q)[q]? = some Ms[q] := by
  unfold trimTo
  have hl : ((Ms.take q).map trimLn).length = q := by rw [List.length_map, List.length_take]; omega
  rw [List.getElem?_append_right (by omega), hl, Nat.sub_self, List.getElem?_drop, Nat.add_zero, List.getElem?_eq_getElem h]
theorem trimTo_succ {Ms : List Ln} {q : Nat} (h : q < Ms.length) : trimTo Ms (q + 1) = (trimTo Ms q).set q (trimLn Ms[q]) := by
  unfold trimTo
  have hl : ((Ms.take q).map trimLn).length = q := by rw [List.length_map, List.length_take]; omega
  rw [List.set_append_right _ _ (by omega), hl, Nat.sub_self, take_next h, List.map_append, List.append_assoc, List.drop_eq_getElem_cons h]
  rfl
theorem trimL_len (l : List Cl) : (trimL l).length = trimN l l.length := by
  unfold trimL
  have := trimN_le l l.length
  rw [List.length_take]
  omega
set_option maxRecDepth 100000 in
set_option maxHeartbeats 4000000 in
theorem join_c (x : Value) (L : List Rw) (w : World) (hx : RdR w x L) (hl : L.length ≤ 100000) (ha : areB L = true) (ht : sumN L L.length ≤ 9000000) :
    Calls Try.prog 22 #[x] w (JoinF L w) := by
  obtain ⟨A, cap, rfl, hc⟩ := hx.1.len
  have HLL := Lib.hid hl
  have HTT := Lib.hid ht
  have hx0 := hx
  clear hx ht
  obtain ⟨n, hn⟩ : ∃ n, L.length = n := ⟨_, rfl⟩
  rw [hn] at hl hc hx0 ⊢
  have HX : Hid (RdR w (.slice A n cap) L) := hx0
  have HN := Lib.hid hn
  have HAR := Lib.hid ha
  have HS := Lib.hid (sane_n ha)
  clear hn ha hx0
  obtain ⟨i3, hi3, hz3, hs3, hb3⟩ := cell_parts
  have HI3 := Lib.hid hi3
  have HZ3 := Lib.hid hz3
  have HS3 := Lib.hid hs3
  have HB3 := Lib.hid hb3
  clear hi3 hz3 hs3 hb3
  obtain ⟨i4, hi4, hz4, hs4, hb4⟩ := line_parts
  have HI4 := Lib.hid hi4
  have HZ4 := Lib.hid hz4
  have HS4 := Lib.hid hs4
  have HB4 := Lib.hid hb4
  clear hi4 hz4 hs4 hb4
  go_enter Try.func22, Try.ntmps22
  go_wp2_with (go_at_call 40; go_loud ((with_reducible refine (areSane_c (.slice A n cap) L _ (HX.out.below (by (repeat (first | (with_reducible exact Below.refl _ _) | (with_reducible assumption) | (with_reducible refine Below.grow ?_ ?_ _ _) | (with_reducible refine Below.drewN' ?_ _) | (with_reducible refine Below.drew ?_) | (with_reducible refine Below.alloc ?_ ?_ _) | (with_reducible refine Below.setCell ?_ ?_ _) | omega | (focus (simp; done)) | (focus (simp; omega)))))) HLL.out).mono ?_); rw [HAR.out]; rintro e w1 ⟨rfl, X1, d1, rfl⟩))
  go_loopw [3, 4, 16] (fun v s i wz => ∃ (k : Nat) (Ms : List Ln), k ≤ n ∧ i = .int .i64 k ∧ s = .bool (joinN L k).2 ∧ Hid (JJ wz w.heap.size v Ms) ∧ Below w.heap.size w wz ∧ Hid (Ms.map Ln.ls = (joinN L k).1) ∧ Ms.length ≤ k ∧ Hid (∀ l ∈ Ms, l.cs.length ≤ sumN L k) ∧ Hid ((joinN L k).2 = true → Ms ≠ [])) (fun _ _ i _ => n - (intOf i).toNat)
  case atStart => exact ⟨0, [], Nat.zero_le _, rfl, rfl, .inl ⟨rfl, rfl⟩, by (repeat (first | (with_reducible exact Below.refl _ _) | (with_reducible assumption) | (with_reducible refine Below.grow ?_ ?_ _ _) | (with_reducible refine Below.drewN' ?_ _) | (with_reducible refine Below.drew ?_) | (with_reducible refine Below.alloc ?_ ?_ _) | (with_reducible refine Below.setCell ?_ ?_ _) | omega | (focus (simp; done)) | (focus (simp; omega)))), rfl, Nat.zero_le _, (fun l hl => by cases hl), (fun h => by cases h)⟩
  case round =>
    obtain ⟨k, Ms, hk, rfl, rfl, HJ, hbw, HMS, hmk, HCS, HGO⟩ := hrel
    have hws := hbw.size
    by_cases hlt : k < n
    · have hltI : (k : Int) < n := by omega
      have hkl : k < L.length := by rw [HN.out]; exact hlt
      obtain ⟨b, o, rfl, hbl, hat, hok⟩ := (HX.out.below hbw).at_ hkl
      have hr : L[k]? = some L[k] := List.getElem?_eq_getElem hkl
      have HJN : Hid (joinN L (k + 1) = (addL (if (joinN L k).2 = true then (joinN L k).1 else (joinN L k).1 ++ [⟨[], L[k].dir, L[k].ex⟩]) (keptC ((listF L[k].n L[k].f).take (rmN L[k] L[k + 1]?))), L[k].wb)) := by
        show (match L[k]? with | some r => _ | none => _) = _
        rw [hr]
      have HSU := Lib.hid (sumN_succ hr)
      have HSL := Lib.hid (sumN_le L (k + 1))
      have HR := Lib.hid hr
      have hrm := rmN_le L[k] L[k + 1]?
      have HOK := Lib.hid (show L[k].ok w from HX.out.2 _ (List.getElem_mem hkl))
      generalize L[k] = r at *
      obtain ⟨rm, hrmE⟩ : ∃ rm, rmN r L[k + 1]? = rm := ⟨_, rfl⟩
      rw [hrmE] at hrm HJN
      have HRM := Lib.hid hrmE
      obtain ⟨p0, p1, p2, p3⟩ := hat
      have hrn := hok.2.1
      have hrc := hok.2.2
      clear hr hrmE hok
      go_upto_if 22 with fail
      generalize hw5 : wr.alloc _ = w5
      have hbw5 : Below w.heap.size w w5 := by rw [← hw5]; (repeat (first | (with_reducible exact Below.refl _ _) | (with_reducible assumption) | (with_reducible refine Below.grow ?_ ?_ _ _) | (with_reducible refine Below.drewN' ?_ _) | (with_reducible refine Below.drew ?_) | (with_reducible refine Below.alloc ?_ ?_ _) | (with_reducible refine Below.setCell ?_ ?_ _) | omega | (focus (simp; done)) | (focus (simp; omega))))
      have HJ5 : Hid (JJ w5 w.heap.size u3 Ms) := by show JJ _ _ _ _; rw [← hw5]; exact HJ.out.grown ((Below.refl _ _).alloc (Nat.le_refl _) _)
      obtain ⟨g6, hg6⟩ : ∃ g6, wr.heap.size = g6 := ⟨_, rfl⟩
      have HB6 : Hid (Blk w5 g6 48 #[.slice r.A r.n r.cap, .bool r.wb, .int .i64 r.dir, .bool r.ex]) := by show Blk _ _ _ _; rw [← hw5, ← hg6]; exact Blk.new _ _ _
      have hw5s : w.heap.size ≤ g6 := by omega
      rw [hg6]
      have HM63 : Hid (Ms.length + 1 ≤ maxLen) := by show _ ≤ _; unfold maxLen; omega
      have HM47 : Hid ((Ms.length + 1) * 40 ≤ 140737488355328) := by show _ ≤ _; omega
      have HSZ : Hid (w.heap.size ≤ w5.heap.size) := hbw5.size
      clear hw5 hg6
      go_cut [3, 4] from 21 to 30 (fun v _ wc => ∃ g cv M0 B l, Hid (JL wc w.heap.size v g cv M0 B l) ∧ Hid ((M0 ++ [l]).map Ln.ls = if (joinN L k).2 = true then (joinN L k).1 else (joinN L k).1 ++ [⟨[], r.dir, r.ex⟩]) ∧ Below w.heap.size w wc ∧ Hid (Blk wc g6 48 #[.slice r.A r.n r.cap, .bool r.wb, .int .i64 r.dir, .bool r.ex]) ∧ M0.length ≤ k ∧ Hid (∀ l' ∈ M0 ++ [l], l'.cs.length ≤ sumN L k))
      case first =>
        cases hg : (joinN L k).2
        · obtain ⟨y0, y1, y2, y3, yf, yl⟩ := HB6.out.facts4
          have HG := Lib.hid hg
          go_wp2_with (at_builtin; go_loud (refine wpList_append_X encL rfl _ _ _ rfl w.heap.size 40 40 i4 _ rfl HI4.out HZ4.out HS4.out HB4.out rfl _ _ Ms [⟨none, 0, [], r.dir, r.ex⟩] rfl rfl ((HJ5.out.own).alloc _) (rdX_one (E := encL) _ _ ⟨none, 0, [], r.dir, r.ex⟩ _ _ rfl rfl) (by rw [List.length_singleton]; exact HM63.out) (by rw [List.length_singleton]; exact HM47.out) (Nat.le_trans HSZ.out (by simp)) ?_; intro v6 w6 hv6 hgb6 hor6))
          replace hgb6 : World.grownBy _ w6 u3.ownBlock := hgb6
          replace hor6 : v6.ownBlock = u3.ownBlock ∨ v6.ownBlock = _ := hor6
          go_meet
          case rel =>
            obtain ⟨g, cv, B, hJL⟩ := JJ.new HJ5.out hv6 hgb6 hor6 hbw5.size
            refine ⟨g, cv, Ms, B, _, hJL, ?_, below_ownx (hbw5.alloc hbw5.size _) hgb6 (fun g hg => (HJ5.out.own.lt hg).1) (Nat.le_trans hbw5.size (by simp)), (HB6.out.alloc _).gb hgb6 (HJ5.out.own.ne_ HB6.out (by decide)), hmk, fun l' hl' => ?_⟩
            · show _ = _
              rw [if_neg (by rw [HG.out]; simp), List.map_append, HMS.out]
              rfl
            · rcases List.mem_append.1 hl' with h | h
              · exact HCS.out l' h
              · obtain rfl := List.mem_singleton.1 h
                exact Nat.zero_le _
        · have HG := Lib.hid hg
          go_wp2_with fail
          go_meet
          case rel =>
            rcases HJ5.out with ⟨-, h0⟩ | ⟨g, cv, M0, B, l, rfl, hJL⟩
            · exact absurd h0 (HGO.out HG.out)
            · exact ⟨g, cv, M0, B, l, hJL, by show _ = _; rw [if_pos HG.out]; exact HMS.out, hbw5, HB6.out, by have := hmk; simp at this; omega, HCS.out⟩
      obtain ⟨g, cv, M0, B, l, HL, HMP, hbc, HB6c, hm0, HCL⟩ := hcut
      obtain ⟨m, hm⟩ : ∃ m, M0.length = m := ⟨_, rfl⟩
      obtain ⟨n1, hn1⟩ : ∃ n1, m + 1 = n1 := ⟨_, rfl⟩
      have hv := HL.out.hv
      rw [hm, hn1] at hv
      subst hv
      have hn1I : (n1 : Int) - 1 = (m : Int) := by omega
      have hmn : m < n1 := by omega
      have hmI : (m : Int) < (n1 : Int) := by omega
      have hm0I : (0 : Int) ≤ (m : Int) := by omega
      have hn15 : n1 ≤ 200000 := by omega
      have HM := Lib.hid hm
      obtain ⟨A2, -, hrun, hcut2⟩ := slice0 (E := encC) (P := Try.prog) 38 59 Try.underlying38 (by kernel_rfl) r.A r.n r.cap rm hrm hrn
      have HC2 := Lib.hid (hcut2 w (listF r.n r.f) (rd_toX HOK.out.1 hrn))
      obtain ⟨y0, y1, y2, y3, yf, yl⟩ := HB6c.out.facts4
      clear hcut2 hm hn1
      go_upto_region 11 with fail
      refine hr_start (S := (fun w' => w'.cell? ⟨g6, 0, none⟩ = some (.slice r.A r.n r.cap))) (by kernel_rfl) rfl ?_ (fun hHeld => ?_)
      · ((try dsimp only); go_simp)
      refine hr_take (i := 0) rfl rfl (by kernel_rfl) (by kernel_rfl) (by kernel_rfl) (by kernel_rfl) (fun _ _ _ h => h) (v := ?_) ?_ (by assumption) ?_
      rotate_left
      focus (intro wS hSw; (try dsimp only at hSw); go_simp; (try with_reducible rfl))
      simp only [List.set_cons_zero, List.set_cons_succ]
      refine hr_take (i := 1) rfl rfl (by kernel_rfl) (by kernel_rfl) (by kernel_rfl) (by kernel_rfl) (fun _ _ _ h => h) (v := ?_) ?_ (by assumption) ?_
      rotate_left
      focus (intro wS hSw; (try dsimp only at hSw); go_simp; (try with_reducible rfl))
      simp only [List.set_cons_zero, List.set_cons_succ]
      refine hr_take (i := 2) rfl rfl (by kernel_rfl) (by kernel_rfl) (by kernel_rfl) (by kernel_rfl) (fun _ _ _ h => h) (v := ?_) ?_ (by assumption) ?_
      rotate_left
      focus (intro wS hSw; (try dsimp only at hSw); go_simp; (try with_reducible rfl))
      simp only [List.set_cons_zero, List.set_cons_succ]
      refine hr_take (i := 3) rfl rfl (by kernel_rfl) (by kernel_rfl) (by kernel_rfl) (by kernel_rfl) (fun _ _ _ h => h) (v := ?_) ?_ (by assumption) ?_
      rotate_left
      focus (intro wS hSw; (try dsimp only at hSw); go_simp; (try with_reducible rfl))
      simp only [List.set_cons_zero, List.set_cons_succ]
      refine hr_take (i := 7) rfl rfl (by kernel_rfl) (by kernel_rfl) (by kernel_rfl) (by kernel_rfl) (fun _ _ _ h => h) (v := ?_) ?_ (by assumption) ?_
      rotate_left
      focus (intro wS hSw; (try dsimp only at hSw); go_simp; (try with_reducible rfl))
      simp only [List.set_cons_zero, List.set_cons_succ]
      refine hr_op (i := 4) rfl rfl (by kernel_rfl) (by kernel_rfl) (fun K hK => ?_)
      go_simp
      ((with_reducible refine (room_c (.slice (some ⟨b, o, none⟩) n cap) L k r _ (HX.out.below (by (repeat (first | (with_reducible exact Below.refl _ _) | (with_reducible assumption) | (with_reducible refine Below.grow ?_ ?_ _ _) | (with_reducible refine Below.drewN' ?_ _) | (with_reducible refine Below.drew ?_) | (with_reducible refine Below.alloc ?_ ?_ _) | (with_reducible refine Below.setCell ?_ ?_ _) | omega | (focus (simp; done)) | (focus (simp; omega)))))) (Nat.le_trans HLL.out (by decide)) HR.out HS.out).mono ?_); rw [HRM.out]; rintro e w7 ⟨rfl, X7, d7, rfl⟩)
      (try go_wp2_with fail)
      refine hK.out _ _ ?_ (fun hHeld => ?_)
      · ((try dsimp only); go_simp)
      clear hK K
      simp only [List.set_cons_zero, List.set_cons_succ]
      refine hr_take (i := 5) rfl rfl (by kernel_rfl) (by kernel_rfl) (by kernel_rfl) (by kernel_rfl) (fun _ _ _ h => h) (v := ?_) ?_ (by assumption) ?_
      rotate_left
      focus (intro wS hSw; (try dsimp only at hSw); go_simp; (try with_reducible rfl))
      simp only [List.set_cons_zero, List.set_cons_succ]
      refine hr_take (i := 6) rfl rfl (by kernel_rfl) (by kernel_rfl) (by kernel_rfl) (by kernel_rfl) (fun _ _ _ h => h) (v := ?_) ?_ (by assumption) ?_
      rotate_left
      focus (intro wS hSw; (try dsimp only at hSw); go_simp; (try with_reducible rfl))
      simp only [List.set_cons_zero, List.set_cons_succ]
      refine hr_done (by kernel_rfl) ?_
      go_wp2_with fail
      generalize hw8 : wc.grow X7 d7 = w8
      have HL8 : Hid (JL w8 w.heap.size (.slice (some ⟨g, 0, none⟩) n1 cv) g cv M0 B l) := by show JL _ _ _ _ _ _ _ _; rw [← hw8]; exact HL.out.grown ((Below.refl _ _).grow (Nat.le_refl _) _ _)
      have hb8 : Below w.heap.size w w8 := by rw [← hw8]; (repeat (first | (with_reducible exact Below.refl _ _) | (with_reducible assumption) | (with_reducible refine Below.grow ?_ ?_ _ _) | (with_reducible refine Below.drewN' ?_ _) | (with_reducible refine Below.drew ?_) | (with_reducible refine Below.alloc ?_ ?_ _) | (with_reducible refine Below.setCell ?_ ?_ _) | omega | (focus (simp; done)) | (focus (simp; omega))))
      have HB68 : Hid (Blk w8 g6 48 #[.slice r.A r.n r.cap, .bool r.wb, .int .i64 r.dir, .bool r.ex]) := by show Blk _ _ _ _; rw [← hw8]; exact HB6c.out.grow _ _
      clear hw8 y0 y1 y2 y3 yf yl hHeld hrun
      go_loopw [43] (fun i wz => ∃ (j : Nat) (lA : Option Addr) (lc : Nat), j ≤ rm ∧ i = .int .i64 j ∧ Hid (JL wz w.heap.size (.slice (some ⟨g, 0, none⟩) n1 cv) g cv M0 B ⟨lA, lc, l.cs ++ keptC ((listF r.n r.f).take j), l.dir, l.ex⟩) ∧ Below w.heap.size w wz ∧ Hid (Blk wz g6 48 #[.slice r.A r.n r.cap, .bool r.wb, .int .i64 r.dir, .bool r.ex])) (fun i _ => rm - (intOf i).toNat)
      case atStart => exact ⟨0, l.A, l.cap, Nat.zero_le _, rfl, by show JL _ _ _ _ _ _ _ _; rw [List.take_zero, show keptC [] = [] from rfl, List.append_nil]; exact HL8.out, hb8, HB68.out⟩
      case round =>
        obtain ⟨j, lA, lc, hj, rfl, HLZ, hbz, HB6Z⟩ := hrel
        have hbzs := hbz.size
        by_cases hjt : j < rm
        · have hjI : (j : Int) < rm := by omega
          have hcj : ((listF r.n r.f).take rm)[j]? = some (r.f j) := by rw [List.getElem?_take, if_pos hjt, listF_get (by omega)]
          obtain ⟨bc, oc, rfl, hbcl, hat⟩ := rdC_at (HC2.out.below hbz) hcj
          have HTJ : Hid (keptC ((listF r.n r.f).take (j + 1)) = keptC ((listF r.n r.f).take j) ++ keptC [r.f j]) := by
            show _ = _
            rw [← keptC_app, List.take_add_one, listF_get (by omega)]
            rfl
          have hkl2 := Nat.le_trans (keptC_len ((listF r.n r.f).take j)) (List.length_take_le _ _)
          have hcl := HCL.out l (by simp)
          have hsl := HSL.out
          have htt := HTT.out
          have hsu := HSU.out
          generalize r.f j = ce at *
          obtain ⟨lcs, hlcs⟩ : ∃ lcs, l.cs ++ keptC ((listF r.n r.f).take j) = lcs := ⟨_, rfl⟩
          have hln : lcs.length ≤ 9100000 := by rw [← hlcs, List.length_append]; omega
          rw [hlcs] at HLZ
          have HLC := Lib.hid hlcs
          obtain ⟨c0, c1, c2, c3, c4, c5, c6⟩ := hat
          clear hcj hkl2 hcl hsl htt hsu hlcs
          by_cases hw0 : ce.w = 0
          · have hwb : (ce.w != 0) = false := by rw [hw0]; rfl
            have HKP : Hid (l.cs ++ keptC ((listF r.n r.f).take (j + 1)) = lcs) := by
              show _ = _
              rw [HTJ.out, ← HLC.out]
              simp [keptC, hw0]
            clear hw0
            go_wp2_with fail
            go_roundw
            case rel => exact ⟨j + 1, lA, lc, by omega, by go_num, by show JL _ _ _ _ _ _ _ _; rw [HKP.out]; exact HLZ.out.grown ((Below.refl _ _).alloc (Nat.le_refl _) _), by (repeat (first | (with_reducible exact Below.refl _ _) | (with_reducible assumption) | (with_reducible refine Below.grow ?_ ?_ _ _) | (with_reducible refine Below.drewN' ?_ _) | (with_reducible refine Below.drew ?_) | (with_reducible refine Below.alloc ?_ ?_ _) | (with_reducible refine Below.setCell ?_ ?_ _) | omega | (focus (simp; done)) | (focus (simp; omega)))), HB6Z.out.alloc _⟩
            case measure => simp [intOf]; omega
          · have hwb : (ce.w != 0) = true := by simpa using hw0
            have HKP : Hid (l.cs ++ keptC ((listF r.n r.f).take (j + 1)) = lcs ++ [ce]) := by
              show _ = _
              rw [HTJ.out, ← HLC.out]
              simp [keptC, hw0]
            clear hw0
            obtain ⟨g9, hg9⟩ : ∃ g9, wr.heap.size = g9 := ⟨_, rfl⟩
            go_upto_region 15 with fail
            generalize hw9 : wr.alloc _ = w9
            have HLO : Hid (JL w9 w.heap.size (.slice (some ⟨g, 0, none⟩) n1 cv) g cv M0 B ⟨lA, lc, lcs, l.dir, l.ex⟩) := by show JL _ _ _ _ _ _ _ _; rw [← hw9]; exact HLZ.out.grown ((Below.refl _ _).alloc (Nat.le_refl _) _)
            have HB9 : Hid (Blk w9 g9 59 ce.cells.toArray) := by show Blk _ _ _ _; rw [← hw9, ← hg9]; exact Blk.new _ _ _
            have HBW9 : Hid (Below w.heap.size w w9) := by show Below _ _ _; rw [← hw9]; (repeat (first | (with_reducible exact Below.refl _ _) | (with_reducible assumption) | (with_reducible refine Below.grow ?_ ?_ _ _) | (with_reducible refine Below.drewN' ?_ _) | (with_reducible refine Below.drew ?_) | (with_reducible refine Below.alloc ?_ ?_ _) | (with_reducible refine Below.setCell ?_ ?_ _) | omega | (focus (simp; done)) | (focus (simp; omega))))
            have HB69 : Hid (Blk w9 g6 48 #[.slice r.A r.n r.cap, .bool r.wb, .int .i64 r.dir, .bool r.ex]) := by show Blk _ _ _ _; rw [← hw9]; exact HB6Z.out.alloc _
            have HSZ9 : Hid (B ≤ w9.heap.size) := HLO.out.h2
            have HNE9 : Hid (some g9 ≠ (Value.slice lA lcs.length lc).ownBlock) := fun e => by have := (HLZ.out.last.lt e.symm).2; omega
            have HNE6 : Hid (some g6 ≠ (Value.slice lA lcs.length lc).ownBlock) := HLO.out.last.ne_ HB69.out (by decide)
            have HNEG : Hid (some g ≠ (Value.slice lA lcs.length lc).ownBlock) := fun e => by have := (HLZ.out.last.lt e.symm).1; have := HLZ.out.h3; omega
            have HGL : Hid (g < w9.heap.size) := (HLO.out.own.lt rfl).2
            have HGW : Hid (w.heap.size ≤ g) := (HLO.out.own.lt rfl).1
            have HG6 : Hid (g6 ≠ g) := fun e => HLO.out.own.ne_ HB69.out (by decide) (by rw [e]; rfl)
            have HM63 : Hid (lcs.length + 1 ≤ maxLen) := by show _ ≤ _; unfold maxLen; omega
            have HM47 : Hid ((lcs.length + 1) * 56 ≤ 140737488355328) := by show _ ≤ _; omega
            have HCE : Hid (w9.cell? ⟨g, m * 3, none⟩ = some (.slice lA lcs.length lc)) := ownL_cell HLO.out.own (l := ⟨lA, lc, lcs, l.dir, l.ex⟩) (by rw [List.getElem?_append_right (by rw [HM.out]; exact Nat.le_refl _), HM.out, Nat.sub_self]; rfl)
            have HFZ : Hid (∀ i, w9.frozen? ⟨g, i, none⟩ = false) := fun i => ownX_frz HLO.out.own i
            have hgl := HGL.out
            have hce := HCE.out
            have hg9g : g ≠ g9 := by have := (HLZ.out.own.lt (g := g) rfl).2; omega
            have hg9g' : g9 ≠ g := fun e => hg9g e.symm
            obtain ⟨e0, e1, e2, e3, e4, e5, e6, ef, el⟩ := HB9.out.facts7
            clear hw9 c0 c1 c2 c3 c4 c5 c6
            refine hr_start (S := (fun w' => w'.cell? ⟨g9, 0, none⟩ = some (.int .i64 ce.r) ∧ w'.cell? ⟨g9, 1, none⟩ = some (.int .i64 ce.m0) ∧ w'.cell? ⟨g9, 2, none⟩ = some (.int .i64 ce.m1) ∧ w'.cell? ⟨g9, 3, none⟩ = some (.int .i64 ce.w) ∧ w'.cell? ⟨g9, 4, none⟩ = some (.int .i64 ce.fg) ∧ w'.cell? ⟨g9, 5, none⟩ = some (.int .i64 ce.bg) ∧ w'.cell? ⟨g9, 6, none⟩ = some (.int .i64 ce.fl))) (by kernel_rfl) rfl ?_ (fun hHeld => ?_)
            · ((try dsimp only); go_simp)
            refine hr_take (i := 0) rfl rfl (by kernel_rfl) (by kernel_rfl) (by kernel_rfl) (by kernel_rfl) (fun _ _ _ h => h) (v := ?_) ?_ (by assumption) ?_
            rotate_left
            focus (intro wS hSw; (try dsimp only at hSw); go_simp; (try with_reducible rfl))
            simp only [List.set_cons_zero, List.set_cons_succ]
            refine hr_take (i := 1) rfl rfl (by kernel_rfl) (by kernel_rfl) (by kernel_rfl) (by kernel_rfl) (fun _ _ _ h => h) (v := ?_) ?_ (by assumption) ?_
            rotate_left
            focus (intro wS hSw; (try dsimp only at hSw); go_simp; (try with_reducible rfl))
            simp only [List.set_cons_zero, List.set_cons_succ]
            refine hr_take (i := 2) rfl rfl (by kernel_rfl) (by kernel_rfl) (by kernel_rfl) (by kernel_rfl) (fun _ _ _ h => h) (v := ?_) ?_ (by assumption) ?_
            rotate_left
            focus (intro wS hSw; (try dsimp only at hSw); go_simp; (try with_reducible rfl))
            simp only [List.set_cons_zero, List.set_cons_succ]
            refine hr_take (i := 3) rfl rfl (by kernel_rfl) (by kernel_rfl) (by kernel_rfl) (by kernel_rfl) (fun _ _ _ h => h) (v := ?_) ?_ (by assumption) ?_
            rotate_left
            focus (intro wS hSw; (try dsimp only at hSw); go_simp; (try with_reducible rfl))
            simp only [List.set_cons_zero, List.set_cons_succ]
            refine hr_take (i := 5) rfl rfl (by kernel_rfl) (by kernel_rfl) (by kernel_rfl) (by kernel_rfl) (fun _ _ _ h => h) (v := ?_) ?_ (by assumption) ?_
            rotate_left
            focus (intro wS hSw; (try dsimp only at hSw); go_simp; (try with_reducible rfl))
            simp only [List.set_cons_zero, List.set_cons_succ]
            refine hr_two (i := 4) (j := 6) rfl rfl rfl rfl (by kernel_rfl) (by kernel_rfl) (by kernel_rfl) (fun K hK => ?_) (fun K hK => ?_)
            · go_simp
              (try go_wp2_with fail)
              refine hK.out (.slice lA lcs.length lc) _ ?_ (fun hHeld => ?_)
              · ((try dsimp only); go_simp)
              clear hK K
              simp only [List.set_cons_zero, List.set_cons_succ]
              refine hr_op (i := 6) rfl rfl (by kernel_rfl) (by kernel_rfl) (fun K hK => ?_)
              go_simp
              (try go_wp2_with fail)
              refine hK.out _ _ ?_ (fun hHeld => ?_)
              · ((try dsimp only); go_simp)
              clear hK K
              simp only [List.set_cons_zero, List.set_cons_succ]
              refine hr_op (i := 7) rfl rfl (by kernel_rfl) (by kernel_rfl) (fun K hK => ?_)
              (refine wp_append_X encC (.tmp 54) (.tmp 56) _ rfl B 59 56 i3 _ rfl HI3.out HZ3.out HS3.out HB3.out rfl _ _ lcs [ce] (by rfl) (by rfl) (OwnX.drew (HLO.out.last.alloc _)) (rdX_one_drew (E := encC) _ _ ce _ _ rfl rfl) (by rw [List.length_singleton]; exact HM63.out) (by rw [List.length_singleton]; exact HM47.out) (Nat.le_trans HSZ9.out (by simp)) ?_; intro v8 w8 hv8 hgb8 hor8; replace hgb8 : World.grownBy _ w8 (Value.slice lA lcs.length lc).ownBlock := hgb8; obtain ⟨gv, cvv, hv8e, -, -, -⟩ := ownX_slice hv8 (by simp); obtain ⟨n8, hn8⟩ : ∃ n8, n8 = (lcs ++ [ce]).length := ⟨_, rfl⟩; rw [← hn8] at hv8e; subst hv8e; have HN8 := Lib.hid hn8; clear hn8; obtain ⟨e0, e1, e2, e3, e4, e5, e6, ef, el⟩ := (Blk.gb (blk_alloc_drew HB9.out _) hgb8 HNE9.out).facts7; have zg8 := (hgb8.block g (by simp; have := HGL.out; omega) HNEG.out).trans (Below.heap_alloc _ _ _ HGL.out); have zc := (World.cell?_of_block (a := ⟨g, m * 3, none⟩) zg8).trans HCE.out; have zf := fun i => (World.frozen?_of_block (a := ⟨g, i, none⟩) zg8).trans (HFZ.out i))
              refine hK.out _ _ ?_ (fun hHeld => ?_)
              · ((try dsimp only); go_simp)
              clear hK K
              simp only [List.set_cons_zero, List.set_cons_succ]
              refine hr_take (i := 8) rfl rfl (by kernel_rfl) (by kernel_rfl) (by kernel_rfl) (by kernel_rfl) (fun _ _ _ h => h) (v := ?_) ?_ (by assumption) ?_
              rotate_left
              focus (intro wS hSw; (try dsimp only at hSw); go_simp; (try with_reducible rfl))
              simp only [List.set_cons_zero, List.set_cons_succ]
              refine hr_take (i := 9) rfl rfl (by kernel_rfl) (by kernel_rfl) (by kernel_rfl) (by kernel_rfl) (fun _ _ _ h => h) (v := ?_) ?_ (by assumption) ?_
              rotate_left
              focus (intro wS hSw; (try dsimp only at hSw); go_simp; (try with_reducible rfl))
              simp only [List.set_cons_zero, List.set_cons_succ]
              refine hr_op0 (i := 10) rfl (by kernel_rfl) (by kernel_rfl) (fun K hK => ?_)
              go_simp
              (try go_wp2_with fail)
              refine hK.out _ ?_ (fun hHeld => ?_)
              · ((try dsimp only); go_simp)
              clear hK K
              refine hr_done (by kernel_rfl) ?_
              (go_wp2_with fail; go_roundw; (case rel => (refine ⟨j + 1, some ⟨gv, 0, none⟩, cvv, by omega, by go_num, ?_, ?_, ?_⟩; (focus (show JL _ _ _ _ _ _ _ _; rw [HKP.out]; exact JL.step HLO.out (by (repeat (first | (with_reducible exact Below.refl _ _) | (with_reducible assumption) | (with_reducible refine Below.grow ?_ ?_ _ _) | (with_reducible refine Below.drewN' ?_ _) | (with_reducible refine Below.drew ?_) | (with_reducible refine Below.alloc ?_ ?_ _) | (with_reducible refine Below.setCell ?_ ?_ _) | omega | (focus (simp; done)) | (focus (simp; omega))))) HN8.out hv8 hgb8 (by rw [HM.out]))); (focus (exact (below_ownx (by have := HBW9.out; have := HBW9.out.size; (repeat (first | (with_reducible exact Below.refl _ _) | (with_reducible assumption) | (with_reducible refine Below.grow ?_ ?_ _ _) | (with_reducible refine Below.drewN' ?_ _) | (with_reducible refine Below.drew ?_) | (with_reducible refine Below.alloc ?_ ?_ _) | (with_reducible refine Below.setCell ?_ ?_ _) | omega | (focus (simp; done)) | (focus (simp; omega))))) hgb8 (fun g hg => Nat.le_trans HLO.out.h1 (HLO.out.last.lt hg).1) (Nat.le_trans HBW9.out.size (by simp))).setCell HGW.out _)); (focus (exact (Blk.gb (blk_alloc_drew HB69.out _) hgb8 HNE6.out).of (Below.heap_setCell _ _ _ _ HG6.out))))); (case measure => (simp [intOf]; omega)))
            · go_simp
              (try go_wp2_with fail)
              refine hK.out _ _ ?_ (fun hHeld => ?_)
              · ((try dsimp only); go_simp)
              clear hK K
              simp only [List.set_cons_zero, List.set_cons_succ]
              refine hr_op (i := 4) rfl rfl (by kernel_rfl) (by kernel_rfl) (fun K hK => ?_)
              go_simp
              (try go_wp2_with fail)
              refine hK.out (.slice lA lcs.length lc) _ ?_ (fun hHeld => ?_)
              · ((try dsimp only); go_simp)
              clear hK K
              simp only [List.set_cons_zero, List.set_cons_succ]
              refine hr_op (i := 7) rfl rfl (by kernel_rfl) (by kernel_rfl) (fun K hK => ?_)
              (refine wp_append_X encC (.tmp 54) (.tmp 56) _ rfl B 59 56 i3 _ rfl HI3.out HZ3.out HS3.out HB3.out rfl _ _ lcs [ce] (by rfl) (by rfl) (OwnX.drew (HLO.out.last.alloc _)) (rdX_one_drew (E := encC) _ _ ce _ _ rfl rfl) (by rw [List.length_singleton]; exact HM63.out) (by rw [List.length_singleton]; exact HM47.out) (Nat.le_trans HSZ9.out (by simp)) ?_; intro v8 w8 hv8 hgb8 hor8; replace hgb8 : World.grownBy _ w8 (Value.slice lA lcs.length lc).ownBlock := hgb8; obtain ⟨gv, cvv, hv8e, -, -, -⟩ := ownX_slice hv8 (by simp); obtain ⟨n8, hn8⟩ : ∃ n8, n8 = (lcs ++ [ce]).length := ⟨_, rfl⟩; rw [← hn8] at hv8e; subst hv8e; have HN8 := Lib.hid hn8; clear hn8; obtain ⟨e0, e1, e2, e3, e4, e5, e6, ef, el⟩ := (Blk.gb (blk_alloc_drew HB9.out _) hgb8 HNE9.out).facts7; have zg8 := (hgb8.block g (by simp; have := HGL.out; omega) HNEG.out).trans (Below.heap_alloc _ _ _ HGL.out); have zc := (World.cell?_of_block (a := ⟨g, m * 3, none⟩) zg8).trans HCE.out; have zf := fun i => (World.frozen?_of_block (a := ⟨g, i, none⟩) zg8).trans (HFZ.out i))
              refine hK.out _ _ ?_ (fun hHeld => ?_)
              · ((try dsimp only); go_simp)
              clear hK K
              simp only [List.set_cons_zero, List.set_cons_succ]
              refine hr_take (i := 8) rfl rfl (by kernel_rfl) (by kernel_rfl) (by kernel_rfl) (by kernel_rfl) (fun _ _ _ h => h) (v := ?_) ?_ (by assumption) ?_
              rotate_left
              focus (intro wS hSw; (try dsimp only at hSw); go_simp; (try with_reducible rfl))
              simp only [List.set_cons_zero, List.set_cons_succ]
              refine hr_take (i := 9) rfl rfl (by kernel_rfl) (by kernel_rfl) (by kernel_rfl) (by kernel_rfl) (fun _ _ _ h => h) (v := ?_) ?_ (by assumption) ?_
              rotate_left
              focus (intro wS hSw; (try dsimp only at hSw); go_simp; (try with_reducible rfl))
              simp only [List.set_cons_zero, List.set_cons_succ]
              refine hr_op0 (i := 10) rfl (by kernel_rfl) (by kernel_rfl) (fun K hK => ?_)
              go_simp
              (try go_wp2_with fail)
              refine hK.out _ ?_ (fun hHeld => ?_)
              · ((try dsimp only); go_simp)
              clear hK K
              refine hr_done (by kernel_rfl) ?_
              (go_wp2_with fail; go_roundw; (case rel => (refine ⟨j + 1, some ⟨gv, 0, none⟩, cvv, by omega, by go_num, ?_, ?_, ?_⟩; (focus (show JL _ _ _ _ _ _ _ _; rw [HKP.out]; exact JL.step HLO.out (by (repeat (first | (with_reducible exact Below.refl _ _) | (with_reducible assumption) | (with_reducible refine Below.grow ?_ ?_ _ _) | (with_reducible refine Below.drewN' ?_ _) | (with_reducible refine Below.drew ?_) | (with_reducible refine Below.alloc ?_ ?_ _) | (with_reducible refine Below.setCell ?_ ?_ _) | omega | (focus (simp; done)) | (focus (simp; omega))))) HN8.out hv8 hgb8 (by rw [HM.out]))); (focus (exact (below_ownx (by have := HBW9.out; have := HBW9.out.size; (repeat (first | (with_reducible exact Below.refl _ _) | (with_reducible assumption) | (with_reducible refine Below.grow ?_ ?_ _ _) | (with_reducible refine Below.drewN' ?_ _) | (with_reducible refine Below.drew ?_) | (with_reducible refine Below.alloc ?_ ?_ _) | (with_reducible refine Below.setCell ?_ ?_ _) | omega | (focus (simp; done)) | (focus (simp; omega))))) hgb8 (fun g hg => Nat.le_trans HLO.out.h1 (HLO.out.last.lt hg).1) (Nat.le_trans HBW9.out.size (by simp))).setCell HGW.out _)); (focus (exact (Blk.gb (blk_alloc_drew HB69.out _) hgb8 HNE6.out).of (Below.heap_setCell _ _ _ _ HG6.out))))); (case measure => (simp [intOf]; omega)))
        · obtain rfl : rm = j := by omega
          obtain ⟨y0, y1, y2, y3, yf, yl⟩ := HB6Z.out.facts4
          go_wp2_with fail
          go_roundw
          case rel =>
            refine ⟨k + 1, M0 ++ [⟨lA, lc, l.cs ++ keptC ((listF r.n r.f).take rm), l.dir, l.ex⟩], by omega, by go_num, by rw [HJN.out], .inr ⟨g, cv, M0, B, _, rfl, HLZ.out⟩, hbz, ?_, by rw [List.length_append]; simp; omega, fun l' hl' => ?_, fun _ => by simp⟩
            · show _ = _
              rw [HJN.out]
              simp only
              rw [← HMP.out, List.map_append, List.map_append, List.map_singleton, List.map_singleton, addL_app]
              rfl
            · rcases List.mem_append.1 hl' with h | h
              · have := HCL.out l' (List.mem_append_left _ h)
                have := HSU.out
                omega
              · obtain rfl := List.mem_singleton.1 h
                have := HCL.out l (by simp)
                have h2 := HSU.out
                have h3 := Nat.le_trans (keptC_len ((listF r.n r.f).take rm)) (List.length_take_le _ _)
                show (l.cs ++ keptC ((listF r.n r.f).take rm)).length ≤ _
                rw [List.length_append]
                omega
          case measure => simp [intOf]; omega
    · obtain rfl : n = k := by omega
      have HLEN : Hid (∀ l ∈ Ms, l.cs.length ≤ sumN L L.length) := by rw [HN.out]; exact HCS.out
      have HMN : Hid (Ms.map Ln.ls = (joinN L L.length).1) := by rw [HN.out]; exact HMS.out
      have HML : Hid (Ms.length ≤ L.length) := by rw [HN.out]; exact hmk
      obtain ⟨A3, c3, hv3, hc3⟩ := HJ.out.own.rd.len
      have HV3 := Lib.hid hv3
      obtain ⟨nl, hnl⟩ : ∃ nl, Ms.length = nl := ⟨_, rfl⟩
      rw [hnl] at hv3 hc3 hmk
      subst hv3
      have HNL := Lib.hid hnl
      have hown := HJ.out.own
      have HALL := Lib.hid HJ.out.all
      obtain ⟨wo, rfl⟩ : ∃ wo, wo = wr := ⟨_, rfl⟩
      clear HMS HCS HGO HJ hnl HV3
      go_wp2_with fail
      go_loopw [66] (fun i wz => ∃ q : Nat, q ≤ nl ∧ i = .int .i64 q ∧ Hid (OwnX encL wz w.heap.size 40 (.slice A3 nl c3) (trimTo Ms q)) ∧ wo.grownBy wz (Value.slice A3 nl c3).ownBlock) (fun i _ => nl - (intOf i).toNat)
      case atStart => exact ⟨0, Nat.zero_le _, rfl, hown, World.grownBy.refl _ _⟩
      case round =>
        obtain ⟨q, hq, rfl, HOW, hgz⟩ := hrel
        have hbz : Below w.heap.size w wr := below_ownx hbw hgz (fun g hg => (hown.lt hg).1) hws
        by_cases hlt2 : q < nl
        · have hqI : (q : Int) < nl := by omega
          have hql : q < Ms.length := by rw [HNL.out]; exact hlt2
          obtain ⟨g, cv, e3, hg1, hg2, -⟩ := ownX_slice HOW.out (by rw [trimTo_len]; omega)
          injection e3 with e3 e4 e5
          subst e3 e5
          clear e4
          have HTQ : Hid ((trimTo Ms q)[q]? = some Ms[q]) := trimTo_get hql
          have HTS : Hid (trimTo Ms (q + 1) = (trimTo Ms q).set q (trimLn Ms[q])) := trimTo_succ hql
          have HF := HALL.out Ms[q] (List.getElem_mem hql)
          have HL9 := HLEN.out Ms[q] (List.getElem_mem hql)
          generalize Ms[q] = le at *
          have hl9 : le.cs.length ≤ 10000000 := by have := HTT.out; omega
          have hgs := hgz.size
          have hrd : RdX encC wr (.slice le.A le.cs.length le.cap) le.cs := (HF.of (w' := wr) hgs (fun b _ hlt hne _ => hgz.block b hlt hne)).1
          have HRD := Lib.hid hrd
          have hce := ownL_cell HOW.out HTQ.out
          have hfz := fun i => ownX_frz HOW.out i
          obtain ⟨ln, hln⟩ : ∃ ln, le.cs.length = ln := ⟨_, rfl⟩
          have HLN := Lib.hid hln
          rw [hln] at hce
          clear hln HL9 hrd
          go_wp2_with (go_at_call 41; (with_reducible refine (trimmed_c le.A ln le.cap le.cs _ (by rw [← HLN.out]; exact HRD.out.below (by (repeat (first | (with_reducible exact Below.refl _ _) | (with_reducible assumption) | (with_reducible refine Below.grow ?_ ?_ _ _) | (with_reducible refine Below.drewN' ?_ _) | (with_reducible refine Below.drew ?_) | (with_reducible refine Below.alloc ?_ ?_ _) | (with_reducible refine Below.setCell ?_ ?_ _) | omega | (focus (simp; done)) | (focus (simp; omega)))))) HLN.out.symm (by rw [← HLN.out]; exact hl9)).mono ?_); rintro e w5 ⟨rfl, X5, d5, rfl⟩)
          go_roundw
          case rel =>
            refine ⟨q + 1, by omega, by go_num, ?_, by (repeat (first | (with_reducible exact World.grownBy.refl _ _) | (with_reducible assumption) | (with_reducible refine gb_grow ?_ _ _) | (with_reducible refine gb_drewN ?_ _) | (with_reducible refine gb_drew ?_) | (with_reducible refine gb_alloc ?_ _) | (with_reducible refine gb_setCell ?_ ?_ _) | (focus (left; rfl)) | (focus (right; simp; done)) | (focus (right; simp; omega)) | (focus (right; omega))))⟩
            show OwnX _ _ _ _ _ _
            rw [HTS.out]
            have hcc : encL.cells (trimLn le) = (encL.cells le).set 0 (.slice le.A (trimN le.cs ln) le.cap) := by
              show [Value.slice le.A (trimL le.cs).length le.cap, _, _] = _
              rw [trimL_len, HLN.out]
              rfl
            first | exact (ownX_set HOW.out HTQ.out (by show 0 < 3; omega) hcc rfl).below ((Below.refl _ _).grow (Nat.le_refl _) _ _) (Nat.le_refl _) | exact ownX_set (HOW.out.below ((Below.refl _ _).grow (Nat.le_refl _) _ _) (Nat.le_refl _)) HTQ.out (by show 0 < 3; omega) hcc rfl
          case measure => simp [intOf]; omega
        · obtain rfl : nl = q := by omega
          go_wp2_with fail
          go_ret
          have hT : trimTo Ms nl = Ms.map trimLn := by
            unfold trimTo
            rw [List.take_of_length_le (by rw [HNL.out]; exact Nat.le_refl _), List.drop_eq_nil_of_le (by rw [HNL.out]; exact Nat.le_refl _), List.append_nil]
          have hrdL := HOW.out.rd
          rw [hT] at hrdL
          have htl : ∀ l : Ln, (trimLn l).cs.length ≤ l.cs.length := fun l => by
            show (trimL l.cs).length ≤ _
            rw [trimL_len]
            exact trimN_le _ _
          refine ⟨_, Ms.map trimLn, rfl, hbz, ⟨hrdL, fun l hl => ?_⟩, ?_, fun l hl => ?_, by rw [List.length_map]; exact HML.out⟩
          · obtain ⟨l0, h0, rfl⟩ := List.mem_map.1 hl
            have hrd : RdX encC wr (.slice l0.A l0.cs.length l0.cap) l0.cs := ((HALL.out l0 h0).of (w' := wr) hgz.size (fun b _ hlt hne _ => hgz.block b hlt hne)).1
            exact ⟨rdX_take hrd (trimN_le _ _) (trimL_len _), by have := htl l0; have := HLEN.out l0 h0; have := HTT.out; omega⟩
          · rw [List.map_map]
            unfold joinR
            rw [← HMN.out, List.map_map]
            rfl
          · obtain ⟨l0, h0, rfl⟩ := List.mem_map.1 hl
            exact Nat.le_trans (htl l0) (HLEN.out l0 h0)
end Go.Proofs.Ytlgnchhhadnjbaa.Row
