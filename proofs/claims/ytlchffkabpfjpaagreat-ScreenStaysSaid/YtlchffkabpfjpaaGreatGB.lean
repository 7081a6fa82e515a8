/- Joined: HistC HistD Hand2 HistLots GridA GridB RowD RowN GridC. -/
import Derived.Test.YtlchffkabpfjpaaGreatGA
import Derived.Deep.CutRange
section
/- Walk of history.Push. -/
namespace Go.Proofs.YtlchffkabpfjpaaGreat.Row
open Go.RowKit
/-- what Push keeps -/
def pushL (L : List Rw) (cn : Nat) (M : List Rw) : List Rw := (L ++ M.filter saneRw).drop ((L ++ M.filter saneRw).length - cn)
theorem filter_snoc (M : List Rw) (k : Nat) (h : k < M.length) : (M.take (k + 1)).filter saneRw = (M.take k).filter saneRw ++ if saneRw M[k] = true then [M[k]] else [] := by
  rw [List.take_succ_eq_append_getElem h, List.filter_append]
  congr 1
  by_cases e : saneRw M[k] = true
  · rw [if_pos e]; simp [e]
  · rw [if_neg e]; simp [e]
set_option maxRecDepth 100000 in
set_option maxHeartbeats 2000000 in
theorem push_cL (x y : Value) (c : Int) (L M : List Rw) (w : World) (hx : RdR w x L) (hy : RdR w y M) (hl : L.length ≤ 5000) (hm : M.length ≤ 100000) (hs : hsaneB L c = true) :
    Calls Tryz.prog 95 #[.agg #[x, .int .i64 c], y] w fun e w' => ∃ v, e = .returned (.agg #[v, .int .i64 c]) ∧ Below w.heap.size w w' ∧ RdR w' v (pushL L c.toNat M) ∧ ∀ F, Ft F x L → Ft F y M → Ft (fun b => F b ∨ w.heap.size ≤ b) v (pushL L c.toNat M) := by
  obtain ⟨A, cap, rfl, hc⟩ := hx.1.len
  obtain ⟨A', cap', rfl, hc'⟩ := hy.1.len
  obtain ⟨i3, hi3, hz3, hs3, hb3⟩ := row_parts
  have HI3 := Lib.hid hi3
  have HZ3 := Lib.hid hz3
  have HS3 := Lib.hid hs3
  have HB3 := Lib.hid hb3
  have HLL := Lib.hid hl
  have HLM := Lib.hid hm
  have HY := Lib.hid hy
  have HX := Lib.hid hx
  obtain ⟨c1, c2, c3, _⟩ := hsane_iff.1 hs
  obtain ⟨cn, rfl⟩ := Int.eq_ofNat_of_zero_le c1
  generalize hn : L.length = n at hl c3 hc hx HX ⊢
  generalize hm' : M.length = m at hm hc' hy HY ⊢
  have HN := Lib.hid hn
  have HM := Lib.hid hm'
  clear hn hm' hi3 hz3 hs3 hb3 hx hy
  go_enter Tryz.func95, Tryz.ntmps95
  go_wp2_with fail
  generalize hw0 : (w.alloc _).alloc _ = w0
  have hbw : Below w.heap.size w w0 := by rw [← hw0]; exact bcAll
  have hB1 : Blk w0 w.heap.size 52 #[.slice A n cap, .int .i64 cn] := by rw [← hw0]; exact (Blk.new _ _ _).alloc _
  have hB2 : Blk w0 (w.heap.size + 1) 52 #[.slice none 0 0, .int .i64 0] := by rw [← hw0]; exact Blk.new_at (by simp)
  clear hw0
  have HBW := Lib.hid hbw
  have HB1 := Lib.hid hB1
  have HB2 := Lib.hid hB2
  obtain ⟨r0, r1, rf, rl⟩ := hB1.facts2
  clear hB1 hB2
  refine (hsane_c (.slice A n cap) cn L _ (HX.out.below hbw) HLL.out).mono ?_
  rintro e w1 ⟨rfl, hg⟩
  have hb := hg.below
  have HSZ := Lib.hid hb.size
  have HX1 := Lib.hid (HX.out.below (hbw.trans (hb.mono hbw.size)))
  clear hbw hg r0 r1 rf rl
  obtain ⟨r0, r1, rf, rl⟩ := (HB1.out.below hb HB1.out.lt).facts2
  go_wp2_with (at_builtin; refine wpList_append_X encR rfl _ _ _ rfl w0.heap.size 64 48 i3 _ rfl HI3.out HZ3.out HS3.out HB3.out rfl _ _ [] L rfl rfl (OwnX.nil _ _ _) HX1.out.1 (by unfold maxLen; simp only [List.length_nil]; rw [HN.out]; omega) (by simp only [List.length_nil]; rw [HN.out]; omega) HSZ.out ?_; intro v1 w2 hv hgb hor)
  have hb2 := below_ownx hb hgb (fun g hg => by cases hg) HSZ.out
  rw [List.nil_append] at hv
  clear hb hgb hor HX1 HSZ r0 r1 rf rl
  go_loopw [5, 18] (fun v i wz => ∃ k : Nat, k ≤ m ∧ i = .int .i64 k ∧ OwnX encR wz w0.heap.size 64 v (L ++ (M.take k).filter saneRw) ∧ Below w0.heap.size w0 wz) (fun _ i _ => m - (intOf i).toNat)
  case atStart => exact ⟨0, Nat.zero_le _, rfl, by simpa using hv, hb2⟩
  case round =>
    clear hb2 hv
    obtain ⟨k, hk, rfl, hv, hb⟩ := hrel
    have hws := hb.size
    by_cases hlt : k < m
    · have hkl : k < M.length := by rw [HM.out]; exact hlt
      obtain ⟨b, o, rfl, hb', hat, hok⟩ := (HY.out.below (HBW.out.trans (hb.mono HBW.out.size))).at_ hkl
      have HF := Lib.hid (filter_snoc M k hkl)
      have hle : (L ++ (M.take k).filter saneRw).length ≤ 110000 := by
        have h1 := List.length_filter_le saneRw (M.take k)
        rw [List.length_append, HN.out]
        rw [List.length_take] at h1
        omega
      generalize (M.take k).filter saneRw = F at *
      generalize M[k] = r at *
      obtain ⟨p0, p1, p2, p3⟩ := hat
      have hltI : (k : Int) < m := by omega
      go_wp2_with fail
      generalize hwb : wr.alloc _ = wb
      have hbb : Below w0.heap.size w0 wb := by rw [← hwb]; exact bcAll
      have hvb : OwnX encR wb w0.heap.size 64 u5 (L ++ F) := by rw [← hwb]; exact hv.alloc _
      have hB9 : Blk wb wr.heap.size 64 #[.slice r.A r.n r.cap, .bool r.wb, .int .i64 r.dir, .bool r.ex] := by rw [← hwb]; exact Blk.new _ _ _
      have hokb : r.ok wb := hok.below (by rw [← hwb]; exact bcAll)
      clear hwb hv hok hb p0 p1 p2 p3 hws
      refine (saner_c r _ hokb).mono ?_
      rintro e w3 ⟨rfl, hg⟩
      replace hg := hg.below
      have hvc := hvb.below hg (Nat.le_refl _)
      have hb3 := hbb.trans (hg.mono hbb.size)
      obtain ⟨q0, q1, q2, q3, qf, ql⟩ := (hB9.below hg hB9.lt).facts4
      clear hvb hbb hB9 hokb hg
      cases hs : saneRw r
      · go_wp2_with fail
        go_roundw
        case rel => exact ⟨k + 1, by omega, by go_num, by rw [HF.out, hs]; simpa using hvc, hb3⟩
        case measure => simp [intOf]; omega
      · have HV := Lib.hid hvc
        have HB := Lib.hid hb3
        have HLE := Lib.hid hle
        clear hvc hb3 hle
        go_wp2_with (at_builtin; refine wpList_append_X encR rfl _ _ _ rfl w0.heap.size 64 48 i3 _ rfl HI3.out HZ3.out HS3.out HB3.out rfl _ _ (L ++ F) [r] rfl rfl (HV.out.alloc _) (rdX_one (E := encR) _ _ r _ _ rfl (by simp)) (by unfold maxLen; have := HLE.out; simp only [List.length_cons, List.length_nil]; omega) (by have := HLE.out; simp only [List.length_cons, List.length_nil]; omega) (by rw [World.size_alloc]; exact Nat.le_succ_of_le HB.out.size) ?_; intro v4 w4 hv4 hgb hor)
        have hb4 := below_ownx (HB.out.alloc HB.out.size (.cells #[.slice r.A r.n r.cap, .bool r.wb, .int .i64 r.dir, .bool r.ex] 64)) hgb (fun g hg => (HV.out.lt hg).1) (by rw [World.size_alloc]; exact Nat.le_succ_of_le HB.out.size)
        clear hgb hor
        go_roundw
        case rel => exact ⟨k + 1, by omega, by go_num, by rw [HF.out, hs]; simpa using hv4, hb4⟩
        case measure => simp [intOf]; omega
    · obtain rfl : k = m := by omega
      rw [← HM.out, List.take_length] at hv
      have hok : ∀ r ∈ L ++ M.filter saneRw, r.ok w := fun r hr => by
        rcases List.mem_append.1 hr with h | h
        · exact HX.out.2 r h
        · exact HY.out.2 r (List.mem_filter.1 h).1
      have hle : (L ++ M.filter saneRw).length ≤ 110000 := by
        have h1 := List.length_filter_le saneRw M
        have h2 := HM.out
        rw [List.length_append, HN.out]
        omega
      have HP : Hid (pushL L cn M = (L ++ M.filter saneRw).drop ((L ++ M.filter saneRw).length - cn)) := rfl
      have HFT : Hid (∀ F : Nat → Prop, (∀ r ∈ L, 0 < r.n → ∀ b o, r.A = some ⟨b, o, none⟩ → F b) → (∀ r ∈ M, 0 < r.n → ∀ b o, r.A = some ⟨b, o, none⟩ → F b) → ∀ r ∈ L ++ M.filter saneRw, 0 < r.n → ∀ b o, r.A = some ⟨b, o, none⟩ → F b) := fun F h1 h2 r hr => by
        rcases List.mem_append.1 hr with h | h
        · exact h1 r h
        · exact h2 r (List.mem_filter.1 h).1
      generalize L ++ M.filter saneRw = ALL at *
      obtain ⟨A5, c5, rfl, hc5⟩ := hv.rd.len
      have HOK := Lib.hid hok
      obtain ⟨N, hN⟩ : ∃ N, N = ALL.length := ⟨_, rfl⟩
      rw [← hN] at hle hc5 hv HP ⊢
      have HNA := Lib.hid hN
      have HV := Lib.hid hv
      clear hN hok hv
      obtain ⟨r0, r1, rf, rl⟩ := (HB1.out.below hb HB1.out.lt).facts2
      have hBz := HB2.out.below hb HB2.out.lt
      obtain ⟨z0, z1, zf, zl⟩ := hBz.facts2
      have HBZ := Lib.hid hBz
      have hnB : w.heap.size + 1 < wr.heap.size := zl
      have hw0s : w.heap.size + 1 < w0.heap.size := HB2.out.lt
      have HBR := Lib.hid (HBW.out.trans (hb.mono HBW.out.size))
      clear hb hBz
      by_cases hlo : cn < N
      · obtain ⟨lo, hlo'⟩ : ∃ lo, lo = N - cn := ⟨_, rfl⟩
        rw [← hlo'] at HP
        have hw1 : IntKind.i64.wrap ((N : Int) - (cn : Int)) = (lo : Int) := by rw [IntWalk.i64_in _ (by omega)]; omega
        have l1 : 0 < lo := by omega
        have l2 : lo ≤ N := by omega
        obtain ⟨A6, hA6, hrun, hcut⟩ := slice3 (E := encR) (P := Tryz.prog) 22 64 Tryz.underlying22 (by kernel_rfl) A5 N c5 lo N l2 (Nat.le_refl N) hc5
        have HC := Lib.hid hcut
        have HA6 := Lib.hid hA6
        clear hA6 hcut hlo hlo'
        go_wp2_with fail
        refine hr_start (S := (fun w' => w'.cell? ⟨w.heap.size, 0, none⟩ = some (.slice A n cap) ∧ w'.cell? ⟨w.heap.size, 1, none⟩ = some (.int .i64 cn))) (by kernel_rfl) rfl ?_ (fun hHeld => ?_)
        · ((try dsimp only); go_simp)
        refine hr_q 0 ?_
        simp only [st0, st1]
        refine hr_q 1 ?_
        simp only [st0, st1]
        refine hr_q 2 ?_
        simp only [st0, st1]
        refine hr_q 3 ?_
        simp only [st0, st1]
        refine hr_q 4 ?_
        simp only [st0, st1]
        refine hr_q 5 ?_
        simp only [st0, st1]
        refine hr_q 6 ?_
        simp only [st0, st1]
        refine hr_q 7 ?_
        simp only [st0, st1]
        refine hr_q 8 ?_
        simp only [st0, st1]
        refine hr_q 9 ?_
        simp only [st0, st1]
        refine hr_q 10 ?_
        simp only [st0, st1]
        refine hr_q 11 ?_
        simp only [st0, st1]
        refine hr_op0 (i := 12) rfl (by kernel_rfl) (by kernel_rfl) (fun K hK => ?_)
        go_simp
        (try go_wp2_with fail)
        refine hK.out _ ?_ (fun hHeld => ?_)
        · ((try dsimp only); go_simp)
        clear hK K
        refine hr_done (by kernel_rfl) ?_
        go_wp2_with fail
        generalize hwf : World.drew (World.setCell (World.setCell wr _ _) _ _) = wf
        have hbf : Below w.heap.size w wf := by rw [← hwf]; have hbr := HBR.out; exact bcAll
        have hvf : OwnX encR wf w0.heap.size 64 (.slice A5 N c5) ALL := by
          rw [← hwf]
          exact HV.out.gb (row := some (w.heap.size + 1)) (by (exact gbAll)) (fun g hg e => by injection e with e; have := (HV.out.lt hg).1; omega)
        have hz : Blk wf (w.heap.size + 1) 52 #[.slice A6 (N - lo) (N - lo), .int .i64 cn] := by rw [← hwf]; exact (Blk.set_ (Blk.set_ HBZ.out 0 _) 1 _)
        clear hwf hHeld
        obtain ⟨z0', z1', zf', zl'⟩ := hz.facts2
        refine bodyPost_ret (v := _) (by simp [results, Tryz.results95, go_sem, *]; try exact rfl) rfl ⟨.slice A6 (N - lo) (N - lo), rfl, hbf, ⟨?_, fun r hr => ?_⟩, fun F hF1 hF2 => ⟨fun _ b o c n e => .inr ?_, fun r hr h0 b o e => .inl ?_⟩⟩
        · have h := HC.out _ _ hvf.rd
          rw [show pushL L (Int.toNat (cn : Int)) M = ALL.drop lo from HP.out]
          rwa [List.take_of_length_le (by rw [List.length_drop, ← HNA.out]; exact Nat.le_refl _)] at h
        · rw [show pushL L (Int.toNat (cn : Int)) M = ALL.drop lo from HP.out] at hr
          exact (HOK.out r (List.mem_of_mem_drop hr)).below hbf
        · injection e with e1 _ _
          obtain ⟨s, o2, e2⟩ := HA6.out b o e1
          have := (HV.out.lt (g := b) (by rw [e2]; rfl)).1
          omega
        · rw [show pushL L (Int.toNat (cn : Int)) M = ALL.drop lo from HP.out] at hr
          exact HFT.out F hF1.2 hF2.2 r (List.mem_of_mem_drop hr) h0 b o e
      · have HPE : Hid (ALL.drop (N - cn) = ALL.drop 0) := by show _ = _; rw [show N - cn = 0 by omega]
        have hw1 : IntKind.i64.wrap ((N : Int) - (cn : Int)) = (N : Int) - (cn : Int) := IntWalk.i64_in _ (by omega)
        have l1 : ¬ cn < N := hlo
        have l2 : ¬ (cn : Int) < (N : Int) := by omega
        have l3 : (if (0 : Int) < (N : Int) - (cn : Int) then (N : Int) - (cn : Int) else 0) = 0 := by rw [if_neg (by omega)]
        have l4 : (0 : Int) ≤ N := by omega
        obtain ⟨A6, hA6, hrun, hcut⟩ := slice3 (E := encR) (P := Tryz.prog) 22 64 Tryz.underlying22 (by kernel_rfl) A5 N c5 0 N (Nat.zero_le N) (Nat.le_refl N) hc5
        rw [show ((0 : Nat) : Int) = 0 from rfl] at hrun
        have HC := Lib.hid hcut
        have HA6 := Lib.hid hA6
        clear hA6 hcut hlo
        go_wp2_with fail
        refine hr_start (S := (fun w' => w'.cell? ⟨w.heap.size, 0, none⟩ = some (.slice A n cap) ∧ w'.cell? ⟨w.heap.size, 1, none⟩ = some (.int .i64 cn))) (by kernel_rfl) rfl ?_ (fun hHeld => ?_)
        · ((try dsimp only); go_simp)
        refine hr_q 0 ?_
        simp only [st0, st1]
        refine hr_q 1 ?_
        simp only [st0, st1]
        refine hr_q 2 ?_
        simp only [st0, st1]
        refine hr_q 3 ?_
        simp only [st0, st1]
        refine hr_q 4 ?_
        simp only [st0, st1]
        refine hr_q 5 ?_
        simp only [st0, st1]
        refine hr_q 6 ?_
        simp only [st0, st1]
        refine hr_q 7 ?_
        simp only [st0, st1]
        refine hr_q 8 ?_
        simp only [st0, st1]
        refine hr_q 9 ?_
        simp only [st0, st1]
        refine hr_q 10 ?_
        simp only [st0, st1]
        refine hr_q 11 ?_
        simp only [st0, st1]
        refine hr_op0 (i := 12) rfl (by kernel_rfl) (by kernel_rfl) (fun K hK => ?_)
        go_simp
        (try go_wp2_with fail)
        refine hK.out _ ?_ (fun hHeld => ?_)
        · ((try dsimp only); go_simp)
        clear hK K
        refine hr_done (by kernel_rfl) ?_
        go_wp2_with fail
        generalize hwf : World.drew (World.setCell (World.setCell wr _ _) _ _) = wf
        have hbf : Below w.heap.size w wf := by rw [← hwf]; have hbr := HBR.out; exact bcAll
        have hvf : OwnX encR wf w0.heap.size 64 (.slice A5 N c5) ALL := by
          rw [← hwf]
          exact HV.out.gb (row := some (w.heap.size + 1)) (by (exact gbAll)) (fun g hg e => by injection e with e; have := (HV.out.lt hg).1; omega)
        have hz : Blk wf (w.heap.size + 1) 52 #[.slice A6 (N - 0) (N - 0), .int .i64 cn] := by rw [← hwf]; exact (Blk.set_ (Blk.set_ HBZ.out 0 _) 1 _)
        clear hwf hHeld
        obtain ⟨z0', z1', zf', zl'⟩ := hz.facts2
        refine bodyPost_ret (v := _) (by simp [results, Tryz.results95, go_sem, *]; try exact rfl) rfl ⟨.slice A6 (N - 0) (N - 0), rfl, hbf, ⟨?_, fun r hr => ?_⟩, fun F hF1 hF2 => ⟨fun _ b o c n e => .inr ?_, fun r hr h0 b o e => .inl ?_⟩⟩
        · have h := HC.out _ _ hvf.rd
          rw [show pushL L (Int.toNat (cn : Int)) M = ALL.drop (N - cn) from HP.out, HPE.out]
          rwa [List.take_of_length_le (by rw [List.length_drop, ← HNA.out]; exact Nat.le_refl _)] at h
        · rw [show pushL L (Int.toNat (cn : Int)) M = ALL.drop (N - cn) from HP.out] at hr
          exact (HOK.out r (List.mem_of_mem_drop hr)).below hbf
        · injection e with e1 _ _
          obtain ⟨s, o2, e2⟩ := HA6.out b o e1
          have := (HV.out.lt (g := b) (by rw [e2]; rfl)).1
          omega
        · rw [show pushL L (Int.toNat (cn : Int)) M = ALL.drop (N - cn) from HP.out] at hr
          exact HFT.out F hF1.2 hF2.2 r (List.mem_of_mem_drop hr) h0 b o e
theorem push_c (x y : Value) (c : Int) (L M : List Rw) (w : World) (hx : RdR w x L) (hy : RdR w y M) (hl : L.length ≤ 5000) (hm : M.length ≤ 5000) (hs : hsaneB L c = true) :
    Calls Tryz.prog 95 #[.agg #[x, .int .i64 c], y] w fun e w' => ∃ v, e = .returned (.agg #[v, .int .i64 c]) ∧ Below w.heap.size w w' ∧ RdR w' v (pushL L c.toNat M) ∧ ∀ F, Ft F x L → Ft F y M → Ft (fun b => F b ∨ w.heap.size ≤ b) v (pushL L c.toNat M) :=
  push_cL x y c L M w hx hy hl (Nat.le_trans hm (by decide)) hs
end Go.Proofs.YtlchffkabpfjpaaGreat.Row
end
section
/- Walks of history.At, lapwinglaw10.line, awake. -/
namespace Go.Proofs.YtlchffkabpfjpaaGreat.Row
open Go.RowKit
theorem lt_add_r2 (a b x : Nat) (h : a < b) : (a < b + x) = True := by simp; omega
theorem le_add_r2 (a b x : Nat) (h : a ≤ b) : (a ≤ b + x) = True := by simp; omega
attribute [local go_sem] Nat.add_pos_iff_pos_or_pos lt_add_r2 le_add_r2
def lineCl (x : Int) : Nat → Cl := fun _ => ⟨x, 0, 0, 1, 0, 0, 0⟩
def lineRw (A : Option Addr) (x : Int) : Rw := ⟨A, 1, 1, lineCl x, false, 0, false⟩
end Go.Proofs.YtlchffkabpfjpaaGreat.Row
end
section
/- A drawn region walked by hand where two operations may come up: both ways. -/
namespace Go
section
variable {P : Program} {l : List Oper} {Q : Exit → Act → World → Prop} {md : Region.Mode} {S : World → Prop}
theorem hr_two {i j d e : Nat} {oi oj : Oper} {fuel : Nat} {listed : Array Bool} {t : List Value} {ds : List Deferred} {w : World} (hi : l[i]? = some oi) (hj : l[j]? = some oj) (_hd : oi.dst = some d) (_he : oj.dst = some e) (hr : Region.ready md l.toArray listed = [i, j])
    (hwi : Region.wanted oi (yielded l.toArray t.toArray) = true) (hwj : Region.wanted oj (yielded l.toArray t.toArray) = true)
    (h : ∀ K : Act → World → Prop, Shut (∀ v w, S w → (S w → wpAnyH P md l.toArray Q S fuel (listed.setIfInBounds i true) ⟨(t.set d v).toArray, ds⟩ w) → K (Act.put ⟨t.toArray, ds⟩ (some d) v) w) → Oper.wp P oi ⟨t.toArray, ds⟩ w K Q)
    (h' : ∀ K : Act → World → Prop, Shut (∀ v w, S w → (S w → wpAnyH P md l.toArray Q S fuel (listed.setIfInBounds j true) ⟨(t.set e v).toArray, ds⟩ w) → K (Act.put ⟨t.toArray, ds⟩ (some e) v) w) → Oper.wp P oj ⟨t.toArray, ds⟩ w K Q) :
    wpAnyH P md l.toArray Q S (fuel + 1) listed ⟨t.toArray, ds⟩ w := by
  refine wpAnyH_ready hr (by simp) (AllReadyH.cons (o := oi) (by simpa using hi) (fun K hK => ?_) (AllReadyH.cons (o := oj) (by simpa using hj) (fun K hK => ?_) AllReadyH.nil))
  · rw [if_pos hwi]
    refine h K fun v w hS hW => hK.out _ _ hS fun hS' => ?_
    simpa [Act.put] using hW hS'
  · rw [if_pos hwj]
    refine h' K fun v w hS hW => hK.out _ _ hS fun hS' => ?_
    simpa [Act.put] using hW hS'
end
end Go
end
section
/- Walk of lapwinglaw10.HistoryLots. -/
namespace Go.Proofs.YtlchffkabpfjpaaGreat.Row
open Go.RowKit
attribute [local go_sem] Nat.add_assoc Nat.add_pos_iff_pos_or_pos lt_add_r2 le_add_r2
theorem drop_drop_append (X Y : List Rw) (c : Nat) : (X.drop (X.length - c) ++ Y).drop ((X.drop (X.length - c) ++ Y).length - c) = (X ++ Y).drop ((X ++ Y).length - c) := by
  have h1 : (X.drop (X.length - c)).length = X.length - (X.length - c) := List.length_drop
  have h2 : X.drop (X.length - c) ++ Y = (X ++ Y).drop (X.length - c) := by
    rw [List.drop_append_of_le_length (by omega)]
  rw [List.length_append, h1, h2, List.drop_drop, List.length_append]
  congr 1
  omega
theorem Ft.and {F G : Nat → Prop} {x : Value} {L : List Rw} (h : Ft F x L) (h' : Ft G x L) : Ft (fun b => F b ∧ G b) x L := ⟨fun h0 b o c n e => ⟨h.1 h0 b o c n e, h'.1 h0 b o c n e⟩, fun r hr h0 b o e => ⟨h.2 r hr h0 b o e, h'.2 r hr h0 b o e⟩⟩
end Go.Proofs.YtlchffkabpfjpaaGreat.Row
end
section
/- Walks of grid.Sane and lapwingref09.Sane. -/
namespace Go.Proofs.YtlchffkabpfjpaaGreat.Row
open Go.RowKit
/-- how wide the first row is -/
def wd : List Rw → Nat
  | [] => 0
  | r :: _ => r.n
theorem wd_get {L : List Rw} (h : 0 < L.length) : L[0].n = wd L := by
  cases L with
  | nil => simp at h
  | cons a l => rfl
def gsaneB (L : List Rw) : Bool := decide (1 ≤ L.length ∧ L.length ≤ 1000 ∧ ∀ r ∈ L, r.n = wd L ∧ saneRw r = true)
theorem gsane_iff {L : List Rw} : gsaneB L = true ↔ 1 ≤ L.length ∧ L.length ≤ 1000 ∧ ∀ r ∈ L, r.n = wd L ∧ saneRw r = true := by unfold gsaneB; simp only [decide_eq_true_eq]
set_option maxRecDepth 100000 in
set_option maxHeartbeats 4000000 in
theorem gsane_c (x : Value) (L : List Rw) (w : World) (hx : RdR w x L) (hl : L.length ≤ 5000) :
    Calls Tryz.prog 44 #[.agg #[x]] w fun e w' => e = .returned (.bool (gsaneB L)) ∧ Grew w w' := by
  obtain ⟨A, cap, rfl, hc⟩ := hx.1.len
  have HI := Lib.hid (@gsane_iff L)
  have HN : Hid (¬ gsaneB L = true → gsaneB L = false) := fun h => by simpa using h
  have HX := Lib.hid hx
  have HWD := Lib.hid (@wd_get L)
  generalize gsaneB L = S at *
  generalize wd L = m at *
  generalize hn : L.length = n at hl hc HX ⊢
  have HL := Lib.hid hn
  clear hn hx
  by_cases h0 : 1 ≤ n ∧ n ≤ 1000
  · obtain ⟨h1, h2⟩ := h0
    have h1I : ¬ (n : Int) < 1 := by omega
    have h2I : ¬ (1000 : Int) < n := by omega
    have hpos : 0 < n := by omega
    go_enter Tryz.func44, Tryz.ntmps44
    go_upto_region 3 with fail
    generalize hw0 : w.alloc _ = w0
    have hbw : Below w.heap.size w w0 := by rw [← hw0]; exact bcAll
    have hB1 : Blk w0 w.heap.size 46 #[.slice A n cap] := by rw [← hw0]; exact Blk.new _ _ _
    clear hw0
    have HBW := Lib.hid hbw
    have HB1 := Lib.hid hB1
    have r0 := hB1.cell 0
    have rf := hB1.frozen
    have rl := hB1.lt
    simp only [List.getElem?_toArray, List.getElem?_cons_zero] at r0
    clear hB1 hbw
    go_wp2_with fail
    clear r0 rf rl
    go_loopw [18] (fun i wz => ∃ k : Nat, k ≤ n ∧ i = .int .i64 k ∧ Hid (∀ j (h : j < L.length), j < k → L[j].n = m ∧ saneRw L[j] = true) ∧ Below w0.heap.size w0 wz) (fun i _ => n - (intOf i).toNat)
    case atStart => exact ⟨0, Nat.zero_le _, rfl, fun j _ hj => absurd hj (by omega), Below.refl _ _⟩
    case round =>
      obtain ⟨k, hk, rfl, HALL, hb⟩ := hrel
      have hbs := hb.size
      have hbwr := HBW.out.trans (hb.mono HBW.out.size)
      by_cases hlt : k < n
      · have hkl : k < L.length := by rw [HL.out]; exact hlt
        have h0l : 0 < L.length := by rw [HL.out]; omega
        obtain ⟨b, o, rfl, hbb, hat, hok⟩ := (HX.out.below hbwr).at_ hkl
        obtain ⟨_, _, e, _, hat0, _⟩ := (HX.out.below hbwr).at_ h0l
        injection e with e
        injection e with e1 e2
        subst e1 e2
        obtain ⟨z0, -, -, -⟩ := hat0
        rw [HWD.out h0l, Nat.zero_mul, Nat.add_zero] at z0
        generalize L[0].A = A0 at z0
        generalize L[0].cap = cap0 at z0
        have HE : Hid (L[k].n = m ∧ saneRw L[k] = true → ∀ j (h : j < L.length), j < k + 1 → L[j].n = m ∧ saneRw L[j] = true) := fun hs j h hj => by
          by_cases e : j = k
          · subst e; exact hs
          · exact HALL.out j h (by omega)
        have HM : Hid (L[k] ∈ L) := List.getElem_mem hkl
        generalize L[k] = r at *
        obtain ⟨p0, p1, p2, p3⟩ := hat
        have hltI : (k : Int) < n := by omega
        have hB1 := HB1.out.below hb HB1.out.lt
        go_upto_region 6 with fail
        generalize hwb : wr.alloc _ = wb
        have hbb' : Below wr.heap.size wr wb := by rw [← hwb]; exact bcAll
        have hB9 : Blk wb wr.heap.size 64 #[.slice r.A r.n r.cap, .bool r.wb, .int .i64 r.dir, .bool r.ex] := by rw [← hwb]; exact Blk.new _ _ _
        clear hwb
        have hokb : r.ok wb := hok.below hbb'
        have z0' : wb.cell? ⟨b, o, none⟩ = some (.slice A0 m cap0) := (hbb'.cell (p := ⟨b, o, none⟩) hbb).trans z0
        have hB1' := hB1.below hbb' hB1.lt
        have r0 := hB1'.cell 0
        have rl := hB1'.lt
        simp only [List.getElem?_toArray, List.getElem?_cons_zero] at r0
        obtain ⟨q0, q1, q2, q3, qf, ql⟩ := hB9.facts4
        have hblt : b < wb.heap.size := Nat.lt_of_lt_of_le hbb hbb'.size
        have hbf := hbwr.trans (hbb'.mono hbwr.size)
        have hb2 := hb.trans (hbb'.mono hb.size)
        have hbfs := hbf.size
        have hb2s := hb2.size
        clear hb hbb' hB1 hB1' hB9 hok p0 p1 p2 p3 z0 hbwr hbb hbs
        by_cases hrn : r.n = m
        · have hne : ((r.n : Int) != (m : Int)) = false := by simp; omega
          have HRN := Lib.hid hrn
          clear hrn
          cases hs : saneRw r
          · go_wp2_with fail
            refine hr_start (S := (fun w' => w'.cell? ⟨w.heap.size, 0, none⟩ = some (.slice (some ⟨b, o, none⟩) n cap) ∧ w'.cell? ⟨wr.heap.size, 0, none⟩ = some (.slice r.A r.n r.cap) ∧ w'.cell? ⟨wr.heap.size, 1, none⟩ = some (.bool r.wb) ∧ w'.cell? ⟨wr.heap.size, 2, none⟩ = some (.int .i64 r.dir) ∧ w'.cell? ⟨wr.heap.size, 3, none⟩ = some (.bool r.ex) ∧ w'.cell? ⟨b, o, none⟩ = some (.slice A0 m cap0))) (by kernel_rfl) rfl ?_ (fun hHeld => ?_)
            · ((try dsimp only); go_simp)
            refine hr_q 0 ?_
            simp only [st0, st1]
            refine hr_q 1 ?_
            simp only [st0, st1]
            refine hr_q 2 ?_
            simp only [st0, st1]
            refine hr_q 3 ?_
            simp only [st0, st1]
            refine hr_q 4 ?_
            simp only [st0, st1]
            refine hr_q 5 ?_
            simp only [st0, st1]
            refine hr_q 6 ?_
            simp only [st0, st1]
            refine hr_q 7 ?_
            simp only [st0, st1]
            refine hr_q 8 ?_
            simp only [st0, st1]
            refine hr_q 9 ?_
            simp only [st0, st1]
            refine hr_q 10 ?_
            simp only [st0, st1]
            refine hr_q 11 ?_
            simp only [st0, st1]
            refine hr_o 12 (fun K hK => ?_)
            (try go_simp)
            ((with_reducible refine (saner_c r _ (hokb.below (by exact bcAll))).mono ?_); rintro e w2 ⟨rfl, X2, d2, rfl⟩)
            (try go_wp2_with fail)
            refine hK.out _ _ ?_ (fun hHeld => ?_)
            · ((try dsimp only); go_simp)
            clear hK K
            simp only [st0, st1]
            refine hr_q 13 ?_
            simp only [st0, st1]
            refine hr_q 14 ?_
            simp only [st0, st1]
            refine hr_done (by kernel_rfl) ?_
            go_wp2_with fail
            go_ret
            refine ⟨ebool (HN.out fun h => ?_).symm, (Below.toGrow (by exact bcAll))⟩
            have := ((HI.out.1 h).2.2 r HM.out).2
            rw [hs] at this
            cases this
          · go_wp2_with fail
            refine hr_start (S := (fun w' => w'.cell? ⟨w.heap.size, 0, none⟩ = some (.slice (some ⟨b, o, none⟩) n cap) ∧ w'.cell? ⟨wr.heap.size, 0, none⟩ = some (.slice r.A r.n r.cap) ∧ w'.cell? ⟨wr.heap.size, 1, none⟩ = some (.bool r.wb) ∧ w'.cell? ⟨wr.heap.size, 2, none⟩ = some (.int .i64 r.dir) ∧ w'.cell? ⟨wr.heap.size, 3, none⟩ = some (.bool r.ex) ∧ w'.cell? ⟨b, o, none⟩ = some (.slice A0 m cap0))) (by kernel_rfl) rfl ?_ (fun hHeld => ?_)
            · ((try dsimp only); go_simp)
            refine hr_q 0 ?_
            simp only [st0, st1]
            refine hr_q 1 ?_
            simp only [st0, st1]
            refine hr_q 2 ?_
            simp only [st0, st1]
            refine hr_q 3 ?_
            simp only [st0, st1]
            refine hr_q 4 ?_
            simp only [st0, st1]
            refine hr_q 5 ?_
            simp only [st0, st1]
            refine hr_q 6 ?_
            simp only [st0, st1]
            refine hr_q 7 ?_
            simp only [st0, st1]
            refine hr_q 8 ?_
            simp only [st0, st1]
            refine hr_q 9 ?_
            simp only [st0, st1]
            refine hr_q 10 ?_
            simp only [st0, st1]
            refine hr_q 11 ?_
            simp only [st0, st1]
            refine hr_o 12 (fun K hK => ?_)
            (try go_simp)
            ((with_reducible refine (saner_c r _ (hokb.below (by exact bcAll))).mono ?_); rintro e w2 ⟨rfl, X2, d2, rfl⟩)
            (try go_wp2_with fail)
            refine hK.out _ _ ?_ (fun hHeld => ?_)
            · ((try dsimp only); go_simp)
            clear hK K
            simp only [st0, st1]
            refine hr_q 13 ?_
            simp only [st0, st1]
            refine hr_q 14 ?_
            simp only [st0, st1]
            refine hr_done (by kernel_rfl) ?_
            go_wp2_with fail
            go_roundw
            case rel => exact ⟨k + 1, by omega, by go_num, HE.out ⟨HRN.out, hs⟩, by exact bcAll⟩
            case measure => simp [intOf]; omega
        · have hne : ((r.n : Int) != (m : Int)) = true := by simp; omega
          have HRN := Lib.hid hrn
          clear hrn
          go_wp2_with fail
          refine hr_start (S := (fun w' => w'.cell? ⟨w.heap.size, 0, none⟩ = some (.slice (some ⟨b, o, none⟩) n cap) ∧ w'.cell? ⟨wr.heap.size, 0, none⟩ = some (.slice r.A r.n r.cap) ∧ w'.cell? ⟨wr.heap.size, 1, none⟩ = some (.bool r.wb) ∧ w'.cell? ⟨wr.heap.size, 2, none⟩ = some (.int .i64 r.dir) ∧ w'.cell? ⟨wr.heap.size, 3, none⟩ = some (.bool r.ex) ∧ w'.cell? ⟨b, o, none⟩ = some (.slice A0 m cap0))) (by kernel_rfl) rfl ?_ (fun hHeld => ?_)
          · ((try dsimp only); go_simp)
          refine hr_q 0 ?_
          simp only [st0, st1]
          refine hr_q 1 ?_
          simp only [st0, st1]
          refine hr_q 2 ?_
          simp only [st0, st1]
          refine hr_q 3 ?_
          simp only [st0, st1]
          refine hr_q 4 ?_
          simp only [st0, st1]
          refine hr_q 5 ?_
          simp only [st0, st1]
          refine hr_q 6 ?_
          simp only [st0, st1]
          refine hr_q 7 ?_
          simp only [st0, st1]
          refine hr_q 8 ?_
          simp only [st0, st1]
          refine hr_q 9 ?_
          simp only [st0, st1]
          refine hr_q 10 ?_
          simp only [st0, st1]
          refine hr_s 11 ?_
          simp only [st0, st1]
          refine hr_s 12 ?_
          simp only [st0, st1]
          refine hr_s 13 ?_
          simp only [st0, st1]
          refine hr_q 14 ?_
          simp only [st0, st1]
          refine hr_done (by kernel_rfl) ?_
          go_wp2_with fail
          go_ret
          exact ⟨ebool (HN.out fun h => HRN.out ((HI.out.1 h).2.2 r HM.out).1).symm, (Below.toGrow (by exact bcAll))⟩
      · obtain rfl : n = k := by omega
        have hws := hbwr.size
        go_wp2
        go_ret
        refine ⟨ebool (HI.out.2 ⟨by rw [HL.out]; exact h1, by rw [HL.out]; exact h2, fun r hr => ?_⟩).symm, Below.toGrow hbwr⟩
        obtain ⟨j, hj, rfl⟩ := List.getElem_of_mem hr
        exact HALL.out j hj (by rw [← HL.out]; exact hj)
  · have HF : Hid (S = false) := HN.out fun h => h0 (by have := HI.out.1 h; rw [HL.out] at this; exact ⟨this.1, this.2.1⟩)
    go_enter Tryz.func44, Tryz.ntmps44
    go_wp2
    all_goals first | (exfalso; omega) | (go_ret; exact ⟨ebool HF.out.symm, (Below.toGrow (by exact bcAll))⟩)

end Go.Proofs.YtlchffkabpfjpaaGreat.Row
end
section
/- Rows of the call's own that are stored into; grid.rows, usable, moves, lay. -/
namespace Go.Proofs.YtlchffkabpfjpaaGreat.Row
open Go.RowKit
def Rw.val (r : Rw) : Nat → Value
  | 0 => .slice r.A r.n r.cap
  | 1 => .bool r.wb
  | 2 => .int .i64 r.dir
  | _ => .bool r.ex
def rwF (F : Nat → Rw) (j : Nat) : Value := (F (j / 4)).val (j % 4)
/-- n rows by a function, as a list -/
def listG (n : Nat) (F : Nat → Rw) : List Rw := (List.range n).map F
theorem listG_len (n : Nat) (F : Nat → Rw) : (listG n F).length = n := by simp [listG]
theorem listG_get {n : Nat} {F : Nat → Rw} {i : Nat} (hi : i < n) : (listG n F)[i]? = some (F i) := by simp [listG, List.getElem?_range hi]
theorem listG_at {n : Nat} {F : Nat → Rw} {i : Nat} (hi : i < (listG n F).length) : (listG n F)[i] = F i := by
  have h := List.getElem?_eq_getElem hi
  rw [listG_get (by rwa [listG_len] at hi)] at h
  exact (Option.some.inj h).symm
theorem listG_mem {n : Nat} {F : Nat → Rw} {r : Rw} : r ∈ listG n F ↔ ∃ i, i < n ∧ F i = r := by simp [listG]
/-- block b begins with n rows that read as F, and all of it is known -/
def OwnG (w : World) (b n : Nat) (F : Nat → Rw) : Prop := ∃ (N : Nat) (tail : Nat → Value), n * 4 ≤ N ∧ w.rowIs b 64 N (fun j => if j < n * 4 then rwF F j else tail j)
section
variable {w w' : World} {b n : Nat} {F G : Nat → Rw}
theorem OwnG.lt (h : OwnG w b n F) : b < w.heap.size := by
  obtain ⟨N, tail, _, h⟩ := h
  exact World.rowIs.lt h
theorem rwF_at (F : Nat → Rw) (i j : Nat) (hj : j < 4) : rwF F (i * 4 + j) = (F i).val j := by
  unfold rwF
  have e1 : (i * 4 + j) / 4 = i := by omega
  have e2 : (i * 4 + j) % 4 = j := by omega
  rw [e1, e2]
theorem OwnG.at_ (h : OwnG w b n F) {i : Nat} (hi : i < n) : RowAt w b (i * 4) (F i) := by
  obtain ⟨N, tail, hN, h⟩ := h
  have hc : ∀ j, j < 4 → w.cell? ⟨b, i * 4 + j, none⟩ = some ((F i).val j) := fun j hj => (World.rowIs.cell h (by omega)).trans (by rw [if_pos (by omega), rwF_at F i j hj])
  exact ⟨hc 0 (by omega), hc 1 (by omega), hc 2 (by omega), hc 3 (by omega)⟩
theorem OwnG.frozen (h : OwnG w b n F) (i : Nat) : w.frozen? ⟨b, i, none⟩ = false := by
  obtain ⟨N, tail, _, h⟩ := h
  exact World.rowIs.frozen h i
theorem OwnG.congr (h : OwnG w b n F) (e : ∀ i, i < n → F i = G i) : OwnG w b n G := by
  obtain ⟨N, tail, hN, h⟩ := h
  refine ⟨N, tail, hN, World.rowIs.congr h fun i hi => ?_⟩
  by_cases hi' : i < n * 4
  · rw [if_pos hi', if_pos hi']
    unfold rwF
    rw [e (i / 4) (by omega)]
  · rw [if_neg hi', if_neg hi']
theorem OwnG.gb {row : Option Nat} (h : OwnG w b n F) (hg : w.grownBy w' row) (hne : some b ≠ row) : OwnG w' b n F := by
  obtain ⟨N, tail, hN, h⟩ := h
  exact ⟨N, tail, hN, rowIs_gb h hg hne⟩
theorem OwnG.below {B : Nat} (h : OwnG w b n F) (hg : Below B w w') (hb : b < B) : OwnG w' b n F := by
  obtain ⟨N, tail, hN, h⟩ := h
  exact ⟨N, tail, hN, rowIs_below h hg hb⟩
theorem OwnG.grow (h : OwnG w b n F) (X : Array Obj) (d : Nat) : OwnG (w.grow X d) b n F := by
  obtain ⟨N, tail, hN, h⟩ := h
  exact ⟨N, tail, hN, rowIs_grow h X d⟩
def updG (F : Nat → Rw) (k : Nat) (r : Rw) (i : Nat) : Rw := if i = k then r else F i
theorem OwnG.store (h : OwnG w b n F) (k : Nat) (hk : k < n) (r : Rw) {p : Nat} (hp : p = k * 4) :
    OwnG ((((w.setCell ⟨b, p, none⟩ (.slice r.A r.n r.cap)).setCell ⟨b, p + 1, none⟩ (.bool r.wb)).setCell ⟨b, p + 2, none⟩ (.int .i64 r.dir)).setCell ⟨b, p + 3, none⟩ (.bool r.ex)) b n (updG F k r) := by
  subst hp
  obtain ⟨N, tail, hN, h⟩ := h
  refine ⟨N, tail, hN, World.rowIs.congr ((((World.rowIs.set h _ _).set _ _).set _ _).set _ _) fun i _ => ?_⟩
  by_cases hi : i < n * 4
  · rw [if_pos hi, if_pos hi]
    unfold rwF updG
    by_cases hk : i / 4 = k
    · subst hk
      rw [if_pos rfl]
      have hj : i % 4 < 4 := Nat.mod_lt _ (by omega)
      generalize hm : i % 4 = j at hj
      have hi : i = i / 4 * 4 + j := by omega
      match j, hj with
      | 0, _ => rw [if_neg (by omega), if_neg (by omega), if_neg (by omega), if_pos (by omega)]; rfl
      | 1, _ => rw [if_neg (by omega), if_neg (by omega), if_pos (by omega)]; rfl
      | 2, _ => rw [if_neg (by omega), if_pos (by omega)]; rfl
      | 3, _ => rw [if_pos (by omega)]; rfl
    · rw [if_neg hk, if_neg (by omega), if_neg (by omega), if_neg (by omega), if_neg (by omega)]
  · rw [if_neg hi, if_neg hi, if_neg (by omega), if_neg (by omega), if_neg (by omega), if_neg (by omega)]
theorem OwnG.rdX (h : OwnG w b n F) {c : Nat} (hc : n ≤ c) : RdX encR w (.slice (some ⟨b, 0, none⟩) n c) (listG n F) := by
  refine ⟨_, c, by rw [listG_len], by rw [listG_len]; exact hc, fun _ => ⟨b, 0, rfl, h.lt, fun j a ha => ?_⟩⟩
  have hj : j < n := by have := (List.getElem?_eq_some_iff.1 ha).1; rwa [listG_len] at this
  rw [listG_get hj] at ha
  obtain rfl := Option.some.inj ha
  rw [Nat.zero_add]
  exact rowAt_to (h.at_ hj)
end
theorem ownG_of {w : World} {base g n c : Nat} {F : Nat → Rw} (h : OwnX encR w base 64 (.slice (some ⟨g, 0, none⟩) n c) (listG n F)) : OwnG w g n F := by
  have h' := h
  unfold OwnX World.ownsRow at h'
  obtain ⟨_, ⟨e, _⟩ | ⟨g', cap, cur, e, _, hg, r1, _, r3, _⟩⟩ := h'
  · cases e
  · injection e with e1 _ e3
    injection e1 with e1
    injection e1 with e1
    subst e1
    rw [listG_len] at r1
    have hcs : cur.size = cap * 4 := r3
    refine ⟨cap * 4, fun j => cur.getD j undef, by omega, cur, hg, hcs, fun i hi => ?_⟩
    dsimp only
    by_cases hi' : i < n * 4
    · rw [if_pos hi']
      have hat := rowAt_of (h.rd.at' (listG_get (n := n) (F := F) (i := i / 4) (by omega)))
      have h1 : w.cell? ⟨g, 0 + i / 4 * encR.size + i % 4, none⟩ = some ((F (i / 4)).val (i % 4)) := by
        obtain ⟨h0, h1, h2, h3⟩ := hat
        have hj : i % 4 < 4 := Nat.mod_lt _ (by omega)
        generalize i % 4 = j at hj
        match j, hj with
        | 0, _ => exact h0
        | 1, _ => exact h1
        | 2, _ => exact h2
        | 3, _ => exact h3
      have e : 0 + i / 4 * encR.size + i % 4 = i := by show 0 + i / 4 * 4 + i % 4 = i; omega
      rw [e] at h1
      unfold World.cell? at h1
      rw [hg] at h1
      exact h1
    · rw [if_neg hi']
      simp [Array.getD, show i < cur.size by omega]

set_option maxRecDepth 100000 in
set_option maxHeartbeats 2000000 in
theorem rows_c (x : Value) (n : Nat) (F : Nat → Rw) (w : World) (hx : RdR w x (listG n F)) (h1 : 1 ≤ n) (hn : n ≤ 5000) :
    Calls Tryz.prog 83 #[.agg #[x]] w fun e w' => ∃ g c, e = .returned (.slice (some ⟨g, 0, none⟩) n c) ∧ n ≤ c ∧ w.heap.size ≤ g ∧ Below w.heap.size w w' ∧ OwnG w' g n F := by
  obtain ⟨A, cap, rfl, hc⟩ := hx.1.len
  rw [listG_len] at hc hx ⊢
  obtain ⟨i3, hi3, hz3, hs3, hb3⟩ := row_parts
  have HI3 := Lib.hid hi3
  have HZ3 := Lib.hid hz3
  have HS3 := Lib.hid hs3
  have HB3 := Lib.hid hb3
  have HX := Lib.hid (hx.1.below ((Below.refl w.heap.size w).alloc (Nat.le_refl _) (.cells #[.slice A n cap] 46)))
  clear hi3 hz3 hs3 hb3 hx
  go_enter Tryz.func83, Tryz.ntmps83
  go_wp2_with (at_builtin; refine wpList_append_X encR rfl _ _ _ rfl (w.heap.size + 1) 64 48 i3 _ rfl HI3.out HZ3.out HS3.out HB3.out rfl _ _ [] (listG n F) rfl rfl (OwnX.nil _ _ _) HX.out (by unfold maxLen; rw [listG_len, List.length_nil]; omega) (by rw [listG_len, List.length_nil]; omega) (by simp) ?_; intro v1 w2 hv hgb hor)
  rw [List.nil_append] at hv
  go_ret
  obtain ⟨g, c5, rfl, hc5⟩ : ∃ g c5, v1 = .slice (some ⟨g, 0, none⟩) n c5 ∧ n ≤ c5 := by
    have hv' := hv
    unfold OwnX World.ownsRow at hv'
    obtain ⟨_, ⟨e, h0⟩ | ⟨g', cap', cur, e, _, _, hh, _⟩⟩ := hv'
    · rw [listG_len] at h0
      omega
    · rw [listG_len] at e hh
      exact ⟨g', cap', e, hh⟩
  have hgl := (hv.lt (g := g) rfl).1
  exact ⟨g, c5, rfl, hc5, by omega, below_ownx ((Below.refl _ _).alloc (Nat.le_refl _) _) hgb (fun g hg => by cases hg) (by simp), ownG_of hv⟩
end Go.Proofs.YtlchffkabpfjpaaGreat.Row
end
section
/- Walk of row.Put. -/
namespace Go.Proofs.YtlchffkabpfjpaaGreat.Row
open Go.RowKit

theorem sane_len {n : Nat} {f : Nat → Cl} {dir : Int} (h : saneB n f dir = true) : 1 ≤ n ∧ n ≤ 4096 := by
  unfold saneB at h
  have := of_decide_eq_true h
  exact ⟨this.1, this.2.1⟩
set_option maxRecDepth 100000 in
set_option maxHeartbeats 1000000 in
theorem put_yes (A : Option Addr) (n cap : Nat) (f : Nat → Cl) (wb : Bool) (dir : Int) (ex : Bool) (k : Nat) (c : Cl) (w : World) (hr : Rd w A n f) (hs : saneB n f dir = true) (hf : fitsB c = true) (hw : c.w = 1 ∨ c.w = 2) (hk : (k : Int) + c.w ≤ n) :
    Calls Tryz.prog 38 #[.agg #[.slice A n cap, .bool wb, .int .i64 dir, .bool ex], .int .i64 k, .agg #[.int .i64 c.r, .int .i64 c.m0, .int .i64 c.m1, .int .i64 c.w, .int .i64 c.fg, .int .i64 c.bg, .int .i64 c.fl]] w fun e w' => ∃ b, e = .returned (.agg #[.slice (some ⟨b, 0, none⟩) n n, .bool wb, .int .i64 dir, .bool ex]) ∧ w.heap.size ≤ b ∧ Below w.heap.size w w' ∧ Own w' b n (mend n (putF f k c)) := by
  obtain ⟨hn1, hn2⟩ := sane_len hs
  obtain ⟨r, m0, m1, W, fg, bg, fl⟩ := c
  simp only at hw hk
  rcases hw with rfl | rfl
  · go_enter Tryz.func38, Tryz.ntmps38
    go_wp2_with fail
    generalize hw0 : ((w.alloc _).alloc _).alloc _ = w0
    have hbw : Below w.heap.size w w0 := by rw [← hw0]; exact bcAll
    have hB1 : Blk w0 w.heap.size 64 #[.slice A n cap, .bool wb, .int .i64 dir, .bool ex] := by rw [← hw0]; exact ((Blk.new _ _ _).alloc _).alloc _
    have hB2 : Blk w0 (w.heap.size + 1) 67 #[.int .i64 r, .int .i64 m0, .int .i64 m1, .int .i64 1, .int .i64 fg, .int .i64 bg, .int .i64 fl] := by rw [← hw0]; exact (Blk.new_at (by simp)).alloc _
    have hB3 : Blk w0 (w.heap.size + 2) 64 #[.slice none 0 0, .bool false, .int .i64 0, .bool false] := by rw [← hw0]; exact Blk.new_at (by simp)
    clear hw0
    obtain ⟨r0, r1, r2, r3, rf, rl⟩ := hB1.facts4; obtain ⟨c0, c1, c2, c3, c4, c5, c6, cf, cl⟩ := hB2.facts7; obtain ⟨z0, z1, z2, z3, zf, zl⟩ := hB3.facts4
    go_wp2_with fail
    refine (sane_c A n cap f wb dir ex _ (hr.below hbw) (by omega)).mono ?_
    rintro e w1 ⟨rfl, hg⟩
    replace hg := hg.below
    replace hbw := hbw.trans (hg.mono hbw.size); replace hB1 := hB1.below hg hB1.lt; clear r0 r1 r2 r3 rf rl; obtain ⟨r0, r1, r2, r3, rf, rl⟩ := hB1.facts4; replace hB2 := hB2.below hg hB2.lt; clear c0 c1 c2 c3 c4 c5 c6 cf cl; obtain ⟨c0, c1, c2, c3, c4, c5, c6, cf, cl⟩ := hB2.facts7; replace hB3 := hB3.below hg hB3.lt; clear z0 z1 z2 z3 zf zl; obtain ⟨z0, z1, z2, z3, zf, zl⟩ := hB3.facts4; clear hg
    go_wp2_with fail
    refine (fits_c ⟨r, m0, m1, 1, fg, bg, fl⟩ _).mono ?_
    rintro e w2 ⟨rfl, hg⟩
    replace hg := hg.below
    replace hbw := hbw.trans (hg.mono hbw.size); replace hB1 := hB1.below hg hB1.lt; clear r0 r1 r2 r3 rf rl; obtain ⟨r0, r1, r2, r3, rf, rl⟩ := hB1.facts4; replace hB2 := hB2.below hg hB2.lt; clear c0 c1 c2 c3 c4 c5 c6 cf cl; obtain ⟨c0, c1, c2, c3, c4, c5, c6, cf, cl⟩ := hB2.facts7; replace hB3 := hB3.below hg hB3.lt; clear z0 z1 z2 z3 zf zl; obtain ⟨z0, z1, z2, z3, zf, zl⟩ := hB3.facts4; clear hg
    go_wp2_with fail
    refine (cells_c A n cap f wb dir ex _ (hr.below hbw) (by omega) (by omega)).mono ?_
    rintro e w3 ⟨b, rfl, hbb, hg, hob⟩
    have hbn : w.heap.size + 2 < b := by omega
    replace hbw := hbw.trans (hg.mono hbw.size); replace hB1 := hB1.below hg hB1.lt; clear r0 r1 r2 r3 rf rl; obtain ⟨r0, r1, r2, r3, rf, rl⟩ := hB1.facts4; replace hB2 := hB2.below hg hB2.lt; clear c0 c1 c2 c3 c4 c5 c6 cf cl; obtain ⟨c0, c1, c2, c3, c4, c5, c6, cf, cl⟩ := hB2.facts7; replace hB3 := hB3.below hg hB3.lt; clear z0 z1 z2 z3 zf zl; obtain ⟨z0, z1, z2, z3, zf, zl⟩ := hB3.facts4; clear hg
    have hlb := hob.lt
    have hfb := hob.frozen
    obtain ⟨o0, o1, o2, o3, o4, o5, o6⟩ := hob.at_ (i := k) (by omega)
    go_wp2_with fail
    (with_reducible refine (mended_c b n n _ A n cap wb dir ex _ (hob.store k ⟨r, m0, m1, 1, fg, bg, fl⟩) (by omega)).mono ?_)
    rintro e w4 ⟨rfl, hg4, hob4⟩
    have hg := gb_trans (a := w3) (by (exact gbAll)) hg4
    replace hB1 := hB1.gb hg (by intro e; injection e; omega); clear r0 r1 r2 r3 rf rl; obtain ⟨r0, r1, r2, r3, rf, rl⟩ := hB1.facts4; replace hB2 := hB2.gb hg (by intro e; injection e; omega); clear c0 c1 c2 c3 c4 c5 c6 cf cl; obtain ⟨c0, c1, c2, c3, c4, c5, c6, cf, cl⟩ := hB2.facts7; replace hB3 := hB3.gb hg (by intro e; injection e; omega); clear z0 z1 z2 z3 zf zl; obtain ⟨z0, z1, z2, z3, zf, zl⟩ := hB3.facts4
    have hob5 : Own w4 b n (mend n (putF f k ⟨r, m0, m1, 1, fg, bg, fl⟩)) := by
      unfold putF
      rw [if_neg (by show ¬ ((1 : Int) = 2); omega)]
      exact hob4
    clear hob4
    go_wp2
    refine bodyPost_ret (v := _) (by simp [results, Tryz.results38, go_sem, *]; try exact rfl) rfl ⟨b, rfl, by have := hbw.size; omega, ?_, ?_⟩
    · have := below_gb (a := w) hbw hg (by have := hbw.size; omega) hbw.size
      exact bcAll
    · (exact ownAll)
  · go_enter Tryz.func38, Tryz.ntmps38
    go_wp2_with fail
    generalize hw0 : ((w.alloc _).alloc _).alloc _ = w0
    have hbw : Below w.heap.size w w0 := by rw [← hw0]; exact bcAll
    have hB1 : Blk w0 w.heap.size 64 #[.slice A n cap, .bool wb, .int .i64 dir, .bool ex] := by rw [← hw0]; exact ((Blk.new _ _ _).alloc _).alloc _
    have hB2 : Blk w0 (w.heap.size + 1) 67 #[.int .i64 r, .int .i64 m0, .int .i64 m1, .int .i64 2, .int .i64 fg, .int .i64 bg, .int .i64 fl] := by rw [← hw0]; exact (Blk.new_at (by simp)).alloc _
    have hB3 : Blk w0 (w.heap.size + 2) 64 #[.slice none 0 0, .bool false, .int .i64 0, .bool false] := by rw [← hw0]; exact Blk.new_at (by simp)
    clear hw0
    obtain ⟨r0, r1, r2, r3, rf, rl⟩ := hB1.facts4; obtain ⟨c0, c1, c2, c3, c4, c5, c6, cf, cl⟩ := hB2.facts7; obtain ⟨z0, z1, z2, z3, zf, zl⟩ := hB3.facts4
    go_wp2_with fail
    refine (sane_c A n cap f wb dir ex _ (hr.below hbw) (by omega)).mono ?_
    rintro e w1 ⟨rfl, hg⟩
    replace hg := hg.below
    replace hbw := hbw.trans (hg.mono hbw.size); replace hB1 := hB1.below hg hB1.lt; clear r0 r1 r2 r3 rf rl; obtain ⟨r0, r1, r2, r3, rf, rl⟩ := hB1.facts4; replace hB2 := hB2.below hg hB2.lt; clear c0 c1 c2 c3 c4 c5 c6 cf cl; obtain ⟨c0, c1, c2, c3, c4, c5, c6, cf, cl⟩ := hB2.facts7; replace hB3 := hB3.below hg hB3.lt; clear z0 z1 z2 z3 zf zl; obtain ⟨z0, z1, z2, z3, zf, zl⟩ := hB3.facts4; clear hg
    go_wp2_with fail
    refine (fits_c ⟨r, m0, m1, 2, fg, bg, fl⟩ _).mono ?_
    rintro e w2 ⟨rfl, hg⟩
    replace hg := hg.below
    replace hbw := hbw.trans (hg.mono hbw.size); replace hB1 := hB1.below hg hB1.lt; clear r0 r1 r2 r3 rf rl; obtain ⟨r0, r1, r2, r3, rf, rl⟩ := hB1.facts4; replace hB2 := hB2.below hg hB2.lt; clear c0 c1 c2 c3 c4 c5 c6 cf cl; obtain ⟨c0, c1, c2, c3, c4, c5, c6, cf, cl⟩ := hB2.facts7; replace hB3 := hB3.below hg hB3.lt; clear z0 z1 z2 z3 zf zl; obtain ⟨z0, z1, z2, z3, zf, zl⟩ := hB3.facts4; clear hg
    go_wp2_with fail
    refine (cells_c A n cap f wb dir ex _ (hr.below hbw) (by omega) (by omega)).mono ?_
    rintro e w3 ⟨b, rfl, hbb, hg, hob⟩
    have hbn : w.heap.size + 2 < b := by omega
    replace hbw := hbw.trans (hg.mono hbw.size); replace hB1 := hB1.below hg hB1.lt; clear r0 r1 r2 r3 rf rl; obtain ⟨r0, r1, r2, r3, rf, rl⟩ := hB1.facts4; replace hB2 := hB2.below hg hB2.lt; clear c0 c1 c2 c3 c4 c5 c6 cf cl; obtain ⟨c0, c1, c2, c3, c4, c5, c6, cf, cl⟩ := hB2.facts7; replace hB3 := hB3.below hg hB3.lt; clear z0 z1 z2 z3 zf zl; obtain ⟨z0, z1, z2, z3, zf, zl⟩ := hB3.facts4; clear hg
    have hlb := hob.lt
    have hfb := hob.frozen
    obtain ⟨o0, o1, o2, o3, o4, o5, o6⟩ := hob.at_ (i := k) (by omega)
    obtain ⟨q0, q1, q2, q3, q4, q5, q6⟩ := hob.at_p (i := k + 1) (p := (k + 1) * 7) (by omega) rfl
    go_wp2_with fail
    (with_reducible refine (mended_c b n n _ A n cap wb dir ex _ ((hob.store k ⟨r, m0, m1, 2, fg, bg, fl⟩).store (k + 1) ⟨0, 0, 0, 0, fg, bg, fl⟩) (by omega)).mono ?_)
    rintro e w4 ⟨rfl, hg4, hob4⟩
    have hg := gb_trans (a := w3) (by (exact gbAll)) hg4
    replace hB1 := hB1.gb hg (by intro e; injection e; omega); clear r0 r1 r2 r3 rf rl; obtain ⟨r0, r1, r2, r3, rf, rl⟩ := hB1.facts4; replace hB2 := hB2.gb hg (by intro e; injection e; omega); clear c0 c1 c2 c3 c4 c5 c6 cf cl; obtain ⟨c0, c1, c2, c3, c4, c5, c6, cf, cl⟩ := hB2.facts7; replace hB3 := hB3.gb hg (by intro e; injection e; omega); clear z0 z1 z2 z3 zf zl; obtain ⟨z0, z1, z2, z3, zf, zl⟩ := hB3.facts4
    have hob5 : Own w4 b n (mend n (putF f k ⟨r, m0, m1, 2, fg, bg, fl⟩)) := by
      unfold putF
      rw [if_pos rfl]
      exact hob4
    clear hob4
    go_wp2
    refine bodyPost_ret (v := _) (by simp [results, Tryz.results38, go_sem, *]; try exact rfl) rfl ⟨b, rfl, by have := hbw.size; omega, ?_, ?_⟩
    · have := below_gb (a := w) hbw hg (by have := hbw.size; omega) hbw.size
      exact bcAll
    · (exact ownAll)
end Go.Proofs.YtlchffkabpfjpaaGreat.Row
end
section
/- Walk of row.New. -/
namespace Go.Proofs.YtlchffkabpfjpaaGreat.Row
open Go.RowKit
set_option maxRecDepth 100000 in
set_option maxHeartbeats 2000000 in
theorem new_c (v : Int) (n : Nat) (fg bg fl : Int) (w : World) (hv : max 1 (min v 4096) = (n : Int)) :
    Calls Tryz.prog 96 #[.int .i64 v, .agg #[.int .i64 fg, .int .i64 bg, .int .i64 fl]] w fun e w' => ∃ b, e = .returned (.agg #[.slice (some ⟨b, 0, none⟩) n n, .bool false, .int .i64 0, .bool false]) ∧ w.heap.size ≤ b ∧ Below w.heap.size w w' ∧ Own w' b n (fun _ => blank fg bg fl) := by
  have HV := Lib.hid hv
  have hn : n ≤ 4096 := by omega
  clear hv
  obtain ⟨C, hC, hCc, hmk⟩ := run_make_rows (P := Tryz.prog) 62 67 _ 7 56 Tryz.underlying62 cellInfo rfl (by omega) n (by omega) (by omega)
  have HCs := Lib.hid hC
  have HCc := Lib.hid hCc
  clear hC hCc
  go_enter Tryz.func96, Tryz.ntmps96
  go_wp2_with fail
  refine (width_n v n _ HV.out).mono ?_
  rintro e w1 ⟨rfl, rfl⟩
  go_wp2_with fail
  generalize hw0 : ((w.alloc _).alloc _).alloc _ = w0
  have hbw : Below w.heap.size w w0 := by rw [← hw0]; exact bcAll
  have hB1 : Blk w0 w.heap.size 26 #[.int .i64 fg, .int .i64 bg, .int .i64 fl] := by rw [← hw0]; exact ((Blk.new _ _ _).alloc _).alloc _
  have hB2 : Blk w0 (w.heap.size + 1) 64 #[.slice none 0 0, .bool false, .int .i64 0, .bool false] := by rw [← hw0]; exact (Blk.new_at (by simp)).alloc _
  have hob : Own w0 (w.heap.size + 2) n (fun _ => ⟨0, 0, 0, 0, 0, 0, 0⟩) := by
    rw [← hw0]
    have h := World.rowIs_alloc ((w.alloc (.cells #[.int .i64 fg, .int .i64 bg, .int .i64 fl] 26)).alloc (.cells #[.slice none 0 0, .bool false, .int .i64 0, .bool false] 64)) C 67 (valF (fun _ => ⟨0, 0, 0, 0, 0, 0, 0⟩)) (fun i hi => by
      rw [HCs.out] at hi
      rw [HCc.out i hi]
      unfold valF
      have hm : i % 7 < 7 := Nat.mod_lt _ (by omega)
      generalize i % 7 = j at hm
      match j, hm with
      | 0, _ => rfl
      | 1, _ => rfl
      | 2, _ => rfl
      | 3, _ => rfl
      | 4, _ => rfl
      | 5, _ => rfl
      | 6, _ => rfl)
    rw [HCs.out] at h
    simp only [World.size_alloc] at h
    exact h
  clear hw0
  obtain ⟨r0, r1, r2, rf, rl⟩ := hB1.facts3; obtain ⟨z0, z1, z2, z3, zf, zl⟩ := hB2.facts4
  go_wp2_with fail
  refine (lay_c (w.heap.size + 2) 0 n 0 n n _ fg bg fl _ hob (by omega) (by omega) hn).mono ?_
  rintro e w1 ⟨rfl, hg, ho1⟩
  have hbw1 := below_gb hbw hg (by omega) hbw.size
  replace hB2 := hB2.gb hg (by intro e; injection e; omega)
  clear z0 z1 z2 z3 zf zl r0 r1 r2 rf rl hB1
  obtain ⟨z0, z1, z2, z3, zf, zl⟩ := hB2.facts4
  have ho2 : Own w1 (w.heap.size + 2) n (fun _ => blank fg bg fl) := ho1.congr fun i hi => by unfold laid; rw [if_pos (by omega)]
  go_wp2
  refine bodyPost_ret (v := _) (by simp [results, Tryz.results96, go_sem, *]; try exact rfl) rfl ⟨w.heap.size + 2, rfl, by omega, by exact bcAll, by (exact ownAll)⟩
end Go.Proofs.YtlchffkabpfjpaaGreat.Row
end
section
/- Walks of grid.lay, usable, moves. -/
namespace Go.Proofs.YtlchffkabpfjpaaGreat.Row
open Go.RowKit
/-- a new row of q cells that are blank by a pen -/
def newRw (b q : Nat) (fg bg fl : Int) : Rw := ⟨some ⟨b, 0, none⟩, q, q, fun _ => blank fg bg fl, false, 0, false⟩
def layG (F : Nat → Rw) (k m : Nat) (B : Nat → Nat) (q : Nat) (fg bg fl : Int) (i : Nat) : Rw := if k ≤ i ∧ i < k + m then newRw (B (i - k)) q fg bg fl else F i
theorem Rd.gb {w w' : World} {b o n g : Nat} {f : Nat → Cl} (h : Rd w (some ⟨b, o, none⟩) n f) (hg : w.grownBy w' (some g)) (hne : b ≠ g) : Rd w' (some ⟨b, o, none⟩) n f := fun hn => by
  obtain ⟨b', o', e, hb, hc⟩ := h hn
  injection e with e
  injection e with e1 e2
  subst e1 e2
  refine ⟨b, o, rfl, Nat.lt_of_lt_of_le hb hg.size, fun i hi => ?_⟩
  have hcell : ∀ j, w'.cell? ⟨b, j, none⟩ = w.cell? ⟨b, j, none⟩ := fun j => by
    unfold World.cell?
    rw [hg.block b hb (by intro e; injection e with e; exact hne e)]
  obtain ⟨h0, h1, h2, h3, h4, h5, h6⟩ := hc i hi
  exact ⟨(hcell _).trans h0, (hcell _).trans h1, (hcell _).trans h2, (hcell _).trans h3, (hcell _).trans h4, (hcell _).trans h5, (hcell _).trans h6⟩

set_option maxRecDepth 100000 in
set_option maxHeartbeats 2000000 in
theorem layg_c (g k m cap n o : Nat) (F : Nat → Rw) (v : Int) (q : Nat) (fg bg fl : Int) (w : World) (ho : OwnG w g n F) (hk : o = k * 4) (hkm : k + m ≤ n) (hn : n ≤ 5000) (hv : max 1 (min v 4096) = (q : Int)) :
    Calls Tryz.prog 66 #[.slice (some ⟨g, o, none⟩) m cap, .int .i64 v, .agg #[.int .i64 fg, .int .i64 bg, .int .i64 fl]] w fun e w' => e = .returned (.tuple #[]) ∧ w.grownBy w' (some g) ∧
      ∃ B : Nat → Nat, OwnG w' g n (layG F k m B q fg bg fl) ∧ ∀ t, t < m → w.heap.size ≤ B t ∧ Rd w' (some ⟨B t, 0, none⟩) q (fun _ => blank fg bg fl) := by
  have hgw := ho.lt
  have HK := Lib.hid hk
  have HV := Lib.hid hv
  clear hk hv
  go_enter Tryz.func66, Tryz.ntmps66
  go_wp2_with fail
  go_loopw [9] (fun i wz => ∃ j : Nat, j ≤ m ∧ i = .int .i64 j ∧ w.grownBy wz (some g) ∧ (∃ B : Nat → Nat, OwnG wz g n (layG F k j B q fg bg fl) ∧ ∀ t, t < j → w.heap.size ≤ B t ∧ Rd wz (some ⟨B t, 0, none⟩) q (fun _ => blank fg bg fl)) ∧ Blk wz w.heap.size 26 #[.int .i64 fg, .int .i64 bg, .int .i64 fl]) (fun i _ => m - (intOf i).toNat)
  case atStart => exact ⟨0, Nat.zero_le _, rfl, by (exact gbAll), ⟨fun _ => 0, (OwnG.below ho ((Below.refl w.heap.size w).alloc (Nat.le_refl _) _) hgw).congr fun i _ => by unfold layG; rw [if_neg (by omega)], fun t ht => absurd ht (by omega)⟩, Blk.new _ _ _⟩
  case round =>
    obtain ⟨j, hj, rfl, hg, ⟨B, hoz, hB⟩, hBp⟩ := hrel
    have HB := Lib.hid hB
    have hgz := hoz.lt
    clear hB
    by_cases hlt : j < m
    · obtain ⟨r0, r1, r2, rf, rl⟩ := hBp.facts3
      have hjI : (j : Int) < m := by omega
      go_wp2_with fail
      refine (new_c v q fg bg fl _ HV.out).mono ?_
      rintro e w1 ⟨b, rfl, hbb, hg1, hob⟩
      have hoz1 := hoz.below hg1 hgz
      obtain ⟨c0, c1, c2, c3⟩ := hoz1.at_ (i := k + j) (by omega)
      rw [show (k + j) * 4 = o + j * 4 by have := HK.out; omega] at c0 c1 c2 c3
      have hfz := hoz1.frozen
      have hBp1 := hBp.below hg1 hBp.lt
      have hgg : w.grownBy w1 (some g) := gb_trans hg (gb_below hg1 _)
      have hgz1 := hoz1.lt
      clear r0 r1 r2 rf rl
      go_wp2_with fail
      have HST := Lib.hid (fun w2 (hw : w2 = ((((w1.setCell ⟨g, o + j * 4, none⟩ (.slice (some ⟨b, 0, none⟩) q q)).setCell ⟨g, o + j * 4 + 1, none⟩ (.bool false)).setCell ⟨g, o + j * 4 + 2, none⟩ (.int .i64 0)).setCell ⟨g, o + j * 4 + 3, none⟩ (.bool false))) => (show OwnG w2 g n (updG (layG F k j B q fg bg fl) (k + j) (newRw b q fg bg fl)) by rw [hw]; exact hoz1.store (k + j) (by omega) (newRw b q fg bg fl) (p := o + j * 4) (by have := HK.out; omega)))
      generalize hw2 : World.setCell _ _ _ = w2
      have hg2 : w1.grownBy w2 (some g) := by rw [← hw2]; (exact gbAll)
      have ho2 := HST.out w2 hw2.symm
      clear hw2 HST
      go_roundw
      case rel => exact ⟨j + 1, by omega, by go_num, gb_trans hgg hg2, ⟨fun t => if t = j then b else B t, ho2.congr fun i _ => by
          unfold updG layG
          by_cases h1 : i = k + j
          · subst h1
            dsimp only
            rw [if_pos rfl, if_pos ⟨by omega, by omega⟩, if_pos (by omega)]
          · rw [if_neg h1]
            by_cases h2 : k ≤ i ∧ i < k + j
            · dsimp only
              rw [if_pos h2, if_pos ⟨by omega, by omega⟩, if_neg (by omega)]
            · rw [if_neg h2, if_neg (by omega)], fun t ht => by
          by_cases h1 : t = j
          · subst h1
            dsimp only
            rw [if_pos rfl]
            have := hg.size
            exact ⟨by omega, (hob.rd).gb hg2 (by omega)⟩
          · dsimp only
            rw [if_neg h1]
            obtain ⟨hb1, hb2⟩ := HB.out t (by omega)
            exact ⟨hb1, (hb2.below hg1).gb hg2 (by omega)⟩⟩, hBp1.gb hg2 (by intro e; injection e; omega)⟩
      case measure => simp [intOf]; omega
    · obtain rfl : m = j := by omega
      go_wp2
      go_end0
      exact ⟨rfl, hg, B, hoz, HB.out⟩
theorem layg0_c (A : Option Addr) (cap : Nat) (v : Int) (fg bg fl : Int) (w : World) :
    Calls Tryz.prog 66 #[.slice A 0 cap, .int .i64 v, .agg #[.int .i64 fg, .int .i64 bg, .int .i64 fl]] w fun e w' => e = .returned (.tuple #[]) ∧ Grew w w' := by
  go_enter Tryz.func66, Tryz.ntmps66
  go_wp2
  refine wp_loop_rounds 1 ?_
  rw [rounds_succ]
  go_wp2
  go_end0
  exact ⟨rfl, (Below.toGrow (by exact bcAll))⟩
theorem sane_new (fg bg fl : Int) : saneB 1 (fun _ => blank fg bg fl) 0 = penB fg bg fl := by
  cases hp : penB fg bg fl
  · cases h : saneB 1 (fun _ => blank fg bg fl) 0
    · rfl
    · have := fits_pen (fits_of_sane h (i := 0) (by omega))
      rw [show (blank fg bg fl).fg = fg from rfl, show (blank fg bg fl).bg = bg from rfl, show (blank fg bg fl).fl = fl from rfl, hp] at this
      exact this.symm
  · rw [sane_iff]
    refine ⟨by omega, by omega, by omega, by omega, fun i hi => ⟨fits_blank hp, ?_⟩⟩
    rw [lost_not]
    simp [blank]
set_option maxRecDepth 100000 in
set_option maxHeartbeats 2000000 in
theorem usable_c (x : Value) (L : List Rw) (fg bg fl : Int) (w : World) (hx : RdR w x L) (hl : L.length ≤ 5000) :
    Calls Tryz.prog 84 #[.agg #[x], .agg #[.int .i64 fg, .int .i64 bg, .int .i64 fl]] w fun e w' => e = .returned (.bool (gsaneB L && penB fg bg fl)) ∧ Grew w w' := by
  obtain ⟨A, cap, rfl, hc⟩ := hx.1.len
  have HLL := Lib.hid hl
  generalize L.length = n at hl hc hx ⊢
  have HX := Lib.hid hx
  clear hx
  go_enter Tryz.func84, Tryz.ntmps84
  go_wp2_with fail
  generalize hw0 : (w.alloc _).alloc _ = w0
  have hbw : Below w.heap.size w w0 := by rw [← hw0]; exact bcAll
  have hB2 : Blk w0 (w.heap.size + 1) 26 #[.int .i64 fg, .int .i64 bg, .int .i64 fl] := by rw [← hw0]; exact Blk.new_at (by simp)
  clear hw0
  refine (gsane_c (.slice A n cap) L _ (HX.out.below hbw) HLL.out).mono ?_
  rintro e w1 ⟨rfl, hg⟩
  replace hg := hg.below
  replace hbw := hbw.trans (hg.mono hbw.size)
  have hB2' := hB2.below hg hB2.lt
  obtain ⟨r0, r1, r2, rf, rl⟩ := hB2'.facts3
  cases hs : gsaneB L
  · go_wp2_with fail
    go_ret
    exact ⟨ebool (by simp [hs]), Below.toGrow hbw⟩
  · go_wp2_with fail
    refine (new_c 1 1 fg bg fl _ (by omega)).mono ?_
    rintro e w2 ⟨b, rfl, hbb, hg2, hob⟩
    have hbw2 := hbw.trans (hg2.mono hbw.size)
    go_wp2_with fail
    refine (sane_c (some ⟨b, 0, none⟩) 1 1 (fun _ => blank fg bg fl) false 0 false _ hob.rd (by omega)).mono ?_
    rintro e w3 ⟨rfl, hg3⟩
    have hbw3 := hbw2.trans (hg3.below.mono hbw2.size)
    rw [sane_new]
    go_wp2_with fail
    go_ret
    exact ⟨ebool (by simp [hs]), Below.toGrow hbw3⟩
def movesB (L : List Rw) (t b fg bg fl : Int) : Bool := (gsaneB L && penB fg bg fl) && (decide (0 ≤ t) && (decide (t < b) && decide (b ≤ (L.length : Int))))
set_option maxRecDepth 100000 in
set_option maxHeartbeats 2000000 in
theorem movesg_c (x : Value) (L : List Rw) (t b fg bg fl : Int) (w : World) (hx : RdR w x L) (hl : L.length ≤ 5000) :
    Calls Tryz.prog 82 #[.agg #[x], .int .i64 t, .int .i64 b, .agg #[.int .i64 fg, .int .i64 bg, .int .i64 fl]] w fun e w' => e = .returned (.bool (movesB L t b fg bg fl)) ∧ Grew w w' := by
  obtain ⟨A, cap, rfl, hc⟩ := hx.1.len
  have HLL := Lib.hid hl
  have HP : Hid (movesB L t b fg bg fl = ((gsaneB L && penB fg bg fl) && (decide (0 ≤ t) && (decide (t < b) && decide (b ≤ (L.length : Int)))))) := rfl
  generalize movesB L t b fg bg fl = S at *
  generalize L.length = n at hl hc hx HP ⊢
  have HX := Lib.hid hx
  clear hx
  go_enter Tryz.func82, Tryz.ntmps82
  go_wp2_with fail
  generalize hw0 : (w.alloc _).alloc _ = w0
  have hbw : Below w.heap.size w w0 := by rw [← hw0]; exact bcAll
  have hB1 : Blk w0 w.heap.size 46 #[.slice A n cap] := by rw [← hw0]; exact (Blk.new _ _ _).alloc _
  clear hw0
  refine (usable_c (.slice A n cap) L fg bg fl _ (HX.out.below hbw) HLL.out).mono ?_
  rintro e w1 ⟨rfl, hg⟩
  replace hg := hg.below
  replace hbw := hbw.trans (hg.mono hbw.size)
  have hB1' := hB1.below hg hB1.lt
  have q0 := hB1'.cell 0
  have ql := hB1'.lt
  simp only [List.getElem?_toArray, List.getElem?_cons_zero] at q0
  generalize (gsaneB L && penB fg bg fl) = U at *
  cases U
  · go_wp2_with fail
    go_ret
    exact ⟨ebool (by rw [HP.out]; rfl), Below.toGrow hbw⟩
  · go_wp2_with fail
    all_goals (go_ret; refine ⟨ebool ?_, Below.toGrow hbw⟩; rw [HP.out]; clear HP; grind)
end Go.Proofs.YtlchffkabpfjpaaGreat.Row
end
