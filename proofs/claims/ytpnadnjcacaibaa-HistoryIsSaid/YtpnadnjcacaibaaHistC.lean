/- Walk of history.Push. -/
import Derived.Test.YtpnadnjcacaibaaHistB
import Derived.Test.YtpnadnjcacaibaaSlices
namespace Go.Proofs.Ytpnadnjcacaibaa.Row
open Go.RowKit
/-- what Push keeps -/
def pushL (L : List Rw) (cn : Nat) (M : List Rw) : List Rw := (L ++ M.filter saneRw).drop ((L ++ M.filter saneRw).length - cn)
theorem filter_snoc (M : List Rw) (k : Nat) (h : k < M.length) : (M.take (k + 1)).filter saneRw = (M.take k).filter saneRw ++ if saneRw M[k] = true then [M[k]] else [] := by
  rw [List.take_succ_eq_append_getElem h, List.filter_append]
  congr 1
  by_cases e : saneRw M[k] = true
  · rw [if_pos e]; simp [e]
  · rw [if_neg e]; simp [e]
theorem RdR.of_own {w : World} {base : Nat} {v : Value} {L : List Rw} (h : OwnX encR w base 24 v L) (hk : ∀ r ∈ L, r.ok w) : RdR w v L := ⟨h.rd, hk⟩

set_option maxRecDepth 100000 in
set_option maxHeartbeats 2000000 in
theorem push_c (x y : Value) (c : Int) (L M : List Rw) (w : World) (hx : RdR w x L) (hy : RdR w y M) (hl : L.length ≤ 5000) (hm : M.length ≤ 5000) (hs : hsaneB L c = true) :
    Calls Try.prog 23 #[.agg #[x, .int .i64 c], y] w fun e w' => ∃ v, e = .returned (.agg #[v, .int .i64 c]) ∧ Below w.heap.size w w' ∧ RdR w' v (pushL L c.toNat M) ∧ ∀ F, Ft F x L → Ft F y M → Ft (fun b => F b ∨ w.heap.size ≤ b) v (pushL L c.toNat M) := by
  obtain ⟨A, cap, rfl, hc⟩ := hx.1.len
  obtain ⟨A', cap', rfl, hc'⟩ := hy.1.len
  obtain ⟨i3, hi3, hz3, hs3, hb3⟩ := row_parts
  have HI3 := Lib.hid hi3
  have HZ3 := Lib.hid hz3
  have HS3 := Lib.hid hs3
  have HB3 := Lib.hid hb3
  have HLL := Lib.hid hl
  have HLM := Lib.hid hm
  have HY := Lib.hid hy
  have HX := Lib.hid hx
  obtain ⟨c1, c2, c3, _⟩ := hsane_iff.1 hs
  obtain ⟨cn, rfl⟩ := Int.eq_ofNat_of_zero_le c1
  generalize hn : L.length = n at hl c3 hc hx HX ⊢
  generalize hm' : M.length = m at hm hc' hy HY ⊢
  have HN := Lib.hid hn
  have HM := Lib.hid hm'
  clear hn hm' hi3 hz3 hs3 hb3 hx hy
  go_enter Try.func23, Try.ntmps23
  go_wp2_with fail
  generalize hw0 : (w.alloc _).alloc _ = w0
  have hbw : Below w.heap.size w w0 := by rw [← hw0]; (repeat (first | (with_reducible exact Below.refl _ _) | (with_reducible assumption) | (with_reducible refine Below.grow ?_ ?_ _ _) | (with_reducible refine Below.drewN' ?_ _) | (with_reducible refine Below.drew ?_) | (with_reducible refine Below.alloc ?_ ?_ _) | (with_reducible refine Below.setCell ?_ ?_ _) | omega | (focus (simp; done)) | (focus (simp; omega))))
  have hB1 : Blk w0 w.heap.size 41 #[.slice A n cap, .int .i64 cn] := by rw [← hw0]; exact (Blk.new _ _ _).alloc _
  have hB2 : Blk w0 (w.heap.size + 1) 41 #[.slice none 0 0, .int .i64 0] := by rw [← hw0]; exact Blk.new_at (by simp)
  clear hw0
  have HBW := Lib.hid hbw
  have HB1 := Lib.hid hB1
  have HB2 := Lib.hid hB2
  obtain ⟨r0, r1, rf, rl⟩ := hB1.facts2
  clear hB1 hB2
  refine (hsane_c (.slice A n cap) cn L _ (HX.out.below hbw) HLL.out).mono ?_
  rintro e w1 ⟨rfl, hg⟩
  have hb := hg.below
  have HSZ := Lib.hid hb.size
  have HX1 := Lib.hid (HX.out.below (hbw.trans (hb.mono hbw.size)))
  clear hbw hg r0 r1 rf rl
  obtain ⟨r0, r1, rf, rl⟩ := (HB1.out.below hb HB1.out.lt).facts2
  go_wp2_with (at_builtin; refine wpList_append_X encR rfl _ _ _ rfl w0.heap.size 24 48 i3 _ rfl HI3.out HZ3.out HS3.out HB3.out rfl _ _ [] L rfl rfl (OwnX.nil _ _ _) HX1.out.1 (by unfold maxLen; simp only [List.length_nil]; rw [HN.out]; omega) (by simp only [List.length_nil]; rw [HN.out]; omega) HSZ.out ?_; intro v1 w2 hv hgb hor)
  have hb2 := below_ownx hb hgb (fun g hg => by cases hg) HSZ.out
  rw [List.nil_append] at hv
  clear hb hgb hor HX1 HSZ r0 r1 rf rl
  go_loopw [5, 18] (fun v i wz => ∃ k : Nat, k ≤ m ∧ i = .int .i64 k ∧ OwnX encR wz w0.heap.size 24 v (L ++ (M.take k).filter saneRw) ∧ Below w0.heap.size w0 wz) (fun _ i _ => m - (intOf i).toNat)
  case atStart => exact ⟨0, Nat.zero_le _, rfl, by simpa using hv, hb2⟩
  case round =>
    clear hb2 hv
    obtain ⟨k, hk, rfl, hv, hb⟩ := hrel
    have hws := hb.size
    by_cases hlt : k < m
    · have hkl : k < M.length := by rw [HM.out]; exact hlt
      obtain ⟨b, o, rfl, hb', hat, hok⟩ := (HY.out.below (HBW.out.trans (hb.mono HBW.out.size))).at_ hkl
      have HF := Lib.hid (filter_snoc M k hkl)
      have hle : (L ++ (M.take k).filter saneRw).length ≤ 10000 := by
        have h1 := List.length_filter_le saneRw (M.take k)
        rw [List.length_append, HN.out]
        rw [List.length_take] at h1
        omega
      generalize (M.take k).filter saneRw = F at *
      generalize M[k] = r at *
      obtain ⟨p0, p1, p2, p3⟩ := hat
      have hltI : (k : Int) < m := by omega
      go_wp2_with fail
      generalize hwb : wr.alloc _ = wb
      have hbb : Below w0.heap.size w0 wb := by rw [← hwb]; (repeat (first | (with_reducible exact Below.refl _ _) | (with_reducible assumption) | (with_reducible refine Below.grow ?_ ?_ _ _) | (with_reducible refine Below.drewN' ?_ _) | (with_reducible refine Below.drew ?_) | (with_reducible refine Below.alloc ?_ ?_ _) | (with_reducible refine Below.setCell ?_ ?_ _) | omega | (focus (simp; done)) | (focus (simp; omega))))
      have hvb : OwnX encR wb w0.heap.size 24 u5 (L ++ F) := by rw [← hwb]; exact hv.alloc _
      have hB9 : Blk wb wr.heap.size 24 #[.slice r.A r.n r.cap, .bool r.wb, .int .i64 r.dir, .bool r.ex] := by rw [← hwb]; exact Blk.new _ _ _
      have hokb : r.ok wb := hok.below (by rw [← hwb]; (repeat (first | (with_reducible exact Below.refl _ _) | (with_reducible assumption) | (with_reducible refine Below.grow ?_ ?_ _ _) | (with_reducible refine Below.drewN' ?_ _) | (with_reducible refine Below.drew ?_) | (with_reducible refine Below.alloc ?_ ?_ _) | (with_reducible refine Below.setCell ?_ ?_ _) | omega | (focus (simp; done)) | (focus (simp; omega)))))
      clear hwb hv hok hb p0 p1 p2 p3 hws
      refine (saner_c r _ hokb).mono ?_
      rintro e w3 ⟨rfl, hg⟩
      replace hg := hg.below
      have hvc := hvb.below hg (Nat.le_refl _)
      have hb3 := hbb.trans (hg.mono hbb.size)
      obtain ⟨q0, q1, q2, q3, qf, ql⟩ := (hB9.below hg hB9.lt).facts4
      clear hvb hbb hB9 hokb hg
      cases hs : saneRw r
      · go_wp2_with fail
        go_roundw
        case rel => exact ⟨k + 1, by omega, by go_num, by rw [HF.out, hs]; simpa using hvc, hb3⟩
        case measure => simp [intOf]; omega
      · have HV := Lib.hid hvc
        have HB := Lib.hid hb3
        have HLE := Lib.hid hle
        clear hvc hb3 hle
        go_wp2_with (at_builtin; refine wpList_append_X encR rfl _ _ _ rfl w0.heap.size 24 48 i3 _ rfl HI3.out HZ3.out HS3.out HB3.out rfl _ _ (L ++ F) [r] rfl rfl (HV.out.alloc _) (rdX_one (E := encR) _ _ r _ _ rfl (by simp)) (by unfold maxLen; have := HLE.out; simp only [List.length_cons, List.length_nil]; omega) (by have := HLE.out; simp only [List.length_cons, List.length_nil]; omega) (by rw [World.size_alloc]; exact Nat.le_succ_of_le HB.out.size) ?_; intro v4 w4 hv4 hgb hor)
        have hb4 := below_ownx (HB.out.alloc HB.out.size (.cells #[.slice r.A r.n r.cap, .bool r.wb, .int .i64 r.dir, .bool r.ex] 24)) hgb (fun g hg => (HV.out.lt hg).1) (by rw [World.size_alloc]; exact Nat.le_succ_of_le HB.out.size)
        clear hgb hor
        go_roundw
        case rel => exact ⟨k + 1, by omega, by go_num, by rw [HF.out, hs]; simpa using hv4, hb4⟩
        case measure => simp [intOf]; omega
    · obtain rfl : k = m := by omega
      rw [← HM.out, List.take_length] at hv
      have hok : ∀ r ∈ L ++ M.filter saneRw, r.ok w := fun r hr => by
        rcases List.mem_append.1 hr with h | h
        · exact HX.out.2 r h
        · exact HY.out.2 r (List.mem_filter.1 h).1
      have hle : (L ++ M.filter saneRw).length ≤ 10000 := by
        have h1 := List.length_filter_le saneRw M
        have h2 := HM.out
        rw [List.length_append, HN.out]
        omega
      have HP : Hid (pushL L cn M = (L ++ M.filter saneRw).drop ((L ++ M.filter saneRw).length - cn)) := rfl
      have HFT : Hid (∀ F : Nat → Prop, (∀ r ∈ L, 0 < r.n → ∀ b o, r.A = some ⟨b, o, none⟩ → F b) → (∀ r ∈ M, 0 < r.n → ∀ b o, r.A = some ⟨b, o, none⟩ → F b) → ∀ r ∈ L ++ M.filter saneRw, 0 < r.n → ∀ b o, r.A = some ⟨b, o, none⟩ → F b) := fun F h1 h2 r hr => by
        rcases List.mem_append.1 hr with h | h
        · exact h1 r h
        · exact h2 r (List.mem_filter.1 h).1
      generalize L ++ M.filter saneRw = ALL at *
      obtain ⟨A5, c5, rfl, hc5⟩ := hv.rd.len
      have HOK := Lib.hid hok
      obtain ⟨N, hN⟩ : ∃ N, N = ALL.length := ⟨_, rfl⟩
      rw [← hN] at hle hc5 hv HP ⊢
      have HNA := Lib.hid hN
      have HV := Lib.hid hv
      clear hN hok hv
      obtain ⟨r0, r1, rf, rl⟩ := (HB1.out.below hb HB1.out.lt).facts2
      have hBz := HB2.out.below hb HB2.out.lt
      obtain ⟨z0, z1, zf, zl⟩ := hBz.facts2
      have HBZ := Lib.hid hBz
      have hnB : w.heap.size + 1 < wr.heap.size := zl
      have hw0s : w.heap.size + 1 < w0.heap.size := HB2.out.lt
      have HBR := Lib.hid (HBW.out.trans (hb.mono HBW.out.size))
      clear hb hBz
      by_cases hlo : cn < N
      · obtain ⟨lo, hlo'⟩ : ∃ lo, lo = N - cn := ⟨_, rfl⟩
        rw [← hlo'] at HP
        have hw1 : IntKind.i64.wrap ((N : Int) - (cn : Int)) = (lo : Int) := by rw [IntWalk.i64_in _ (by omega)]; omega
        have l1 : 0 < lo := by omega
        have l2 : lo ≤ N := by omega
        obtain ⟨A6, hA6, hrun, hcut⟩ := slice3 (E := encR) (P := Try.prog) 36 24 Try.underlying36 (by kernel_rfl) A5 N c5 lo N l2 (Nat.le_refl N) hc5
        have HC := Lib.hid hcut
        have HA6 := Lib.hid hA6
        clear hA6 hcut hlo hlo'
        go_wp2_with fail
        refine hr_start (S := (fun w' => w'.cell? ⟨w.heap.size, 0, none⟩ = some (.slice A n cap) ∧ w'.cell? ⟨w.heap.size, 1, none⟩ = some (.int .i64 cn))) (by kernel_rfl) rfl ?_ (fun hHeld => ?_)
        · ((try dsimp only); go_simp)
        refine hr_take (i := 0) rfl rfl (by kernel_rfl) (by kernel_rfl) (by kernel_rfl) (by kernel_rfl) (fun _ _ _ h => h) (v := ?_) ?_ (by assumption) ?_
        rotate_left
        focus (intro wS hSw; (try dsimp only at hSw); go_simp; (try with_reducible rfl))
        simp only [List.set_cons_zero, List.set_cons_succ]
        refine hr_take (i := 1) rfl rfl (by kernel_rfl) (by kernel_rfl) (by kernel_rfl) (by kernel_rfl) (fun _ _ _ h => h) (v := ?_) ?_ (by assumption) ?_
        rotate_left
        focus (intro wS hSw; (try dsimp only at hSw); go_simp; (try with_reducible rfl))
        simp only [List.set_cons_zero, List.set_cons_succ]
        refine hr_take (i := 2) rfl rfl (by kernel_rfl) (by kernel_rfl) (by kernel_rfl) (by kernel_rfl) (fun _ _ _ h => h) (v := ?_) ?_ (by assumption) ?_
        rotate_left
        focus (intro wS hSw; (try dsimp only at hSw); go_simp; (try with_reducible rfl))
        simp only [List.set_cons_zero, List.set_cons_succ]
        refine hr_take (i := 3) rfl rfl (by kernel_rfl) (by kernel_rfl) (by kernel_rfl) (by kernel_rfl) (fun _ _ _ h => h) (v := ?_) ?_ (by assumption) ?_
        rotate_left
        focus (intro wS hSw; (try dsimp only at hSw); go_simp; (try with_reducible rfl))
        simp only [List.set_cons_zero, List.set_cons_succ]
        refine hr_take (i := 4) rfl rfl (by kernel_rfl) (by kernel_rfl) (by kernel_rfl) (by kernel_rfl) (fun _ _ _ h => h) (v := ?_) ?_ (by assumption) ?_
        rotate_left
        focus (intro wS hSw; (try dsimp only at hSw); go_simp; (try with_reducible rfl))
        simp only [List.set_cons_zero, List.set_cons_succ]
        refine hr_take (i := 5) rfl rfl (by kernel_rfl) (by kernel_rfl) (by kernel_rfl) (by kernel_rfl) (fun _ _ _ h => h) (v := ?_) ?_ (by assumption) ?_
        rotate_left
        focus (intro wS hSw; (try dsimp only at hSw); go_simp; (try with_reducible rfl))
        simp only [List.set_cons_zero, List.set_cons_succ]
        refine hr_take (i := 6) rfl rfl (by kernel_rfl) (by kernel_rfl) (by kernel_rfl) (by kernel_rfl) (fun _ _ _ h => h) (v := ?_) ?_ (by assumption) ?_
        rotate_left
        focus (intro wS hSw; (try dsimp only at hSw); go_simp; (try with_reducible rfl))
        simp only [List.set_cons_zero, List.set_cons_succ]
        refine hr_take (i := 7) rfl rfl (by kernel_rfl) (by kernel_rfl) (by kernel_rfl) (by kernel_rfl) (fun _ _ _ h => h) (v := ?_) ?_ (by assumption) ?_
        rotate_left
        focus (intro wS hSw; (try dsimp only at hSw); go_simp; (try with_reducible rfl))
        simp only [List.set_cons_zero, List.set_cons_succ]
        refine hr_take (i := 8) rfl rfl (by kernel_rfl) (by kernel_rfl) (by kernel_rfl) (by kernel_rfl) (fun _ _ _ h => h) (v := ?_) ?_ (by assumption) ?_
        rotate_left
        focus (intro wS hSw; (try dsimp only at hSw); go_simp; (try with_reducible rfl))
        simp only [List.set_cons_zero, List.set_cons_succ]
        refine hr_take (i := 9) rfl rfl (by kernel_rfl) (by kernel_rfl) (by kernel_rfl) (by kernel_rfl) (fun _ _ _ h => h) (v := ?_) ?_ (by assumption) ?_
        rotate_left
        focus (intro wS hSw; (try dsimp only at hSw); go_simp; (try with_reducible rfl))
        simp only [List.set_cons_zero, List.set_cons_succ]
        refine hr_take (i := 10) rfl rfl (by kernel_rfl) (by kernel_rfl) (by kernel_rfl) (by kernel_rfl) (fun _ _ _ h => h) (v := ?_) ?_ (by assumption) ?_
        rotate_left
        focus (intro wS hSw; (try dsimp only at hSw); go_simp; (try with_reducible rfl))
        simp only [List.set_cons_zero, List.set_cons_succ]
        refine hr_take (i := 11) rfl rfl (by kernel_rfl) (by kernel_rfl) (by kernel_rfl) (by kernel_rfl) (fun _ _ _ h => h) (v := ?_) ?_ (by assumption) ?_
        rotate_left
        focus (intro wS hSw; (try dsimp only at hSw); go_simp; (try with_reducible rfl))
        simp only [List.set_cons_zero, List.set_cons_succ]
        refine hr_op0 (i := 12) rfl (by kernel_rfl) (by kernel_rfl) (fun K hK => ?_)
        go_simp
        (try go_wp2_with fail)
        refine hK.out _ ?_ (fun hHeld => ?_)
        · ((try dsimp only); go_simp)
        clear hK K
        refine hr_done (by kernel_rfl) ?_
        go_wp2_with fail
        generalize hwf : World.drew (World.setCell (World.setCell wr _ _) _ _) = wf
        have hbf : Below w.heap.size w wf := by rw [← hwf]; have hbr := HBR.out; (repeat (first | (with_reducible exact Below.refl _ _) | (with_reducible assumption) | (with_reducible refine Below.grow ?_ ?_ _ _) | (with_reducible refine Below.drewN' ?_ _) | (with_reducible refine Below.drew ?_) | (with_reducible refine Below.alloc ?_ ?_ _) | (with_reducible refine Below.setCell ?_ ?_ _) | omega | (focus (simp; done)) | (focus (simp; omega))))
        have hvf : OwnX encR wf w0.heap.size 24 (.slice A5 N c5) ALL := by
          rw [← hwf]
          exact HV.out.gb (row := some (w.heap.size + 1)) (by (repeat (first | (with_reducible exact World.grownBy.refl _ _) | (with_reducible assumption) | (with_reducible refine gb_grow ?_ _ _) | (with_reducible refine gb_drewN ?_ _) | (with_reducible refine gb_drew ?_) | (with_reducible refine gb_alloc ?_ _) | (with_reducible refine gb_setCell ?_ ?_ _) | (focus (left; rfl)) | (focus (right; simp; done)) | (focus (right; simp; omega)) | (focus (right; omega))))) (fun g hg e => by injection e with e; have := (HV.out.lt hg).1; omega)
        have hz : Blk wf (w.heap.size + 1) 41 #[.slice A6 (N - lo) (N - lo), .int .i64 cn] := by rw [← hwf]; exact (Blk.set_ (Blk.set_ HBZ.out 0 _) 1 _)
        clear hwf hHeld
        obtain ⟨z0', z1', zf', zl'⟩ := hz.facts2
        refine bodyPost_ret (v := _) (by simp [results, Try.results23, go_sem, *]; try exact rfl) rfl ⟨.slice A6 (N - lo) (N - lo), rfl, hbf, ⟨?_, fun r hr => ?_⟩, fun F hF1 hF2 => ⟨fun _ b o c n e => .inr ?_, fun r hr h0 b o e => .inl ?_⟩⟩
        · have h := HC.out _ _ hvf.rd
          rw [show pushL L (Int.toNat (cn : Int)) M = ALL.drop lo from HP.out]
          rwa [List.take_of_length_le (by rw [List.length_drop, ← HNA.out]; exact Nat.le_refl _)] at h
        · rw [show pushL L (Int.toNat (cn : Int)) M = ALL.drop lo from HP.out] at hr
          exact (HOK.out r (List.mem_of_mem_drop hr)).below hbf
        · injection e with e1 _ _
          obtain ⟨s, o2, e2⟩ := HA6.out b o e1
          have := (HV.out.lt (g := b) (by rw [e2]; rfl)).1
          omega
        · rw [show pushL L (Int.toNat (cn : Int)) M = ALL.drop lo from HP.out] at hr
          exact HFT.out F hF1.2 hF2.2 r (List.mem_of_mem_drop hr) h0 b o e
      · have HPE : Hid (ALL.drop (N - cn) = ALL.drop 0) := by show _ = _; rw [show N - cn = 0 by omega]
        have hw1 : IntKind.i64.wrap ((N : Int) - (cn : Int)) = (N : Int) - (cn : Int) := IntWalk.i64_in _ (by omega)
        have l1 : ¬ cn < N := hlo
        have l2 : ¬ (cn : Int) < (N : Int) := by omega
        have l3 : (if (0 : Int) < (N : Int) - (cn : Int) then (N : Int) - (cn : Int) else 0) = 0 := by rw [if_neg (by omega)]
        have l4 : (0 : Int) ≤ N := by omega
        obtain ⟨A6, hA6, hrun, hcut⟩ := slice3 (E := encR) (P := Try.prog) 36 24 Try.underlying36 (by kernel_rfl) A5 N c5 0 N (Nat.zero_le N) (Nat.le_refl N) hc5
        rw [show ((0 : Nat) : Int) = 0 from rfl] at hrun
        have HC := Lib.hid hcut
        have HA6 := Lib.hid hA6
        clear hA6 hcut hlo
        go_wp2_with fail
        refine hr_start (S := (fun w' => w'.cell? ⟨w.heap.size, 0, none⟩ = some (.slice A n cap) ∧ w'.cell? ⟨w.heap.size, 1, none⟩ = some (.int .i64 cn))) (by kernel_rfl) rfl ?_ (fun hHeld => ?_)
        · ((try dsimp only); go_simp)
        refine hr_take (i := 0) rfl rfl (by kernel_rfl) (by kernel_rfl) (by kernel_rfl) (by kernel_rfl) (fun _ _ _ h => h) (v := ?_) ?_ (by assumption) ?_
        rotate_left
        focus (intro wS hSw; (try dsimp only at hSw); go_simp; (try with_reducible rfl))
        simp only [List.set_cons_zero, List.set_cons_succ]
        refine hr_take (i := 1) rfl rfl (by kernel_rfl) (by kernel_rfl) (by kernel_rfl) (by kernel_rfl) (fun _ _ _ h => h) (v := ?_) ?_ (by assumption) ?_
        rotate_left
        focus (intro wS hSw; (try dsimp only at hSw); go_simp; (try with_reducible rfl))
        simp only [List.set_cons_zero, List.set_cons_succ]
        refine hr_take (i := 2) rfl rfl (by kernel_rfl) (by kernel_rfl) (by kernel_rfl) (by kernel_rfl) (fun _ _ _ h => h) (v := ?_) ?_ (by assumption) ?_
        rotate_left
        focus (intro wS hSw; (try dsimp only at hSw); go_simp; (try with_reducible rfl))
        simp only [List.set_cons_zero, List.set_cons_succ]
        refine hr_take (i := 3) rfl rfl (by kernel_rfl) (by kernel_rfl) (by kernel_rfl) (by kernel_rfl) (fun _ _ _ h => h) (v := ?_) ?_ (by assumption) ?_
        rotate_left
        focus (intro wS hSw; (try dsimp only at hSw); go_simp; (try with_reducible rfl))
        simp only [List.set_cons_zero, List.set_cons_succ]
        refine hr_take (i := 4) rfl rfl (by kernel_rfl) (by kernel_rfl) (by kernel_rfl) (by kernel_rfl) (fun _ _ _ h => h) (v := ?_) ?_ (by assumption) ?_
        rotate_left
        focus (intro wS hSw; (try dsimp only at hSw); go_simp; (try with_reducible rfl))
        simp only [List.set_cons_zero, List.set_cons_succ]
        refine hr_take (i := 5) rfl rfl (by kernel_rfl) (by kernel_rfl) (by kernel_rfl) (by kernel_rfl) (fun _ _ _ h => h) (v := ?_) ?_ (by assumption) ?_
        rotate_left
        focus (intro wS hSw; (try dsimp only at hSw); go_simp; (try with_reducible rfl))
        simp only [List.set_cons_zero, List.set_cons_succ]
        refine hr_take (i := 6) rfl rfl (by kernel_rfl) (by kernel_rfl) (by kernel_rfl) (by kernel_rfl) (fun _ _ _ h => h) (v := ?_) ?_ (by assumption) ?_
        rotate_left
        focus (intro wS hSw; (try dsimp only at hSw); go_simp; (try with_reducible rfl))
        simp only [List.set_cons_zero, List.set_cons_succ]
        refine hr_take (i := 7) rfl rfl (by kernel_rfl) (by kernel_rfl) (by kernel_rfl) (by kernel_rfl) (fun _ _ _ h => h) (v := ?_) ?_ (by assumption) ?_
        rotate_left
        focus (intro wS hSw; (try dsimp only at hSw); go_simp; (try with_reducible rfl))
        simp only [List.set_cons_zero, List.set_cons_succ]
        refine hr_take (i := 8) rfl rfl (by kernel_rfl) (by kernel_rfl) (by kernel_rfl) (by kernel_rfl) (fun _ _ _ h => h) (v := ?_) ?_ (by assumption) ?_
        rotate_left
        focus (intro wS hSw; (try dsimp only at hSw); go_simp; (try with_reducible rfl))
        simp only [List.set_cons_zero, List.set_cons_succ]
        refine hr_take (i := 9) rfl rfl (by kernel_rfl) (by kernel_rfl) (by kernel_rfl) (by kernel_rfl) (fun _ _ _ h => h) (v := ?_) ?_ (by assumption) ?_
        rotate_left
        focus (intro wS hSw; (try dsimp only at hSw); go_simp; (try with_reducible rfl))
        simp only [List.set_cons_zero, List.set_cons_succ]
        refine hr_take (i := 10) rfl rfl (by kernel_rfl) (by kernel_rfl) (by kernel_rfl) (by kernel_rfl) (fun _ _ _ h => h) (v := ?_) ?_ (by assumption) ?_
        rotate_left
        focus (intro wS hSw; (try dsimp only at hSw); go_simp; (try with_reducible rfl))
        simp only [List.set_cons_zero, List.set_cons_succ]
        refine hr_take (i := 11) rfl rfl (by kernel_rfl) (by kernel_rfl) (by kernel_rfl) (by kernel_rfl) (fun _ _ _ h => h) (v := ?_) ?_ (by assumption) ?_
        rotate_left
        focus (intro wS hSw; (try dsimp only at hSw); go_simp; (try with_reducible rfl))
        simp only [List.set_cons_zero, List.set_cons_succ]
        refine hr_op0 (i := 12) rfl (by kernel_rfl) (by kernel_rfl) (fun K hK => ?_)
        go_simp
        (try go_wp2_with fail)
        refine hK.out _ ?_ (fun hHeld => ?_)
        · ((try dsimp only); go_simp)
        clear hK K
        refine hr_done (by kernel_rfl) ?_
        go_wp2_with fail
        generalize hwf : World.drew (World.setCell (World.setCell wr _ _) _ _) = wf
        have hbf : Below w.heap.size w wf := by rw [← hwf]; have hbr := HBR.out; (repeat (first | (with_reducible exact Below.refl _ _) | (with_reducible assumption) | (with_reducible refine Below.grow ?_ ?_ _ _) | (with_reducible refine Below.drewN' ?_ _) | (with_reducible refine Below.drew ?_) | (with_reducible refine Below.alloc ?_ ?_ _) | (with_reducible refine Below.setCell ?_ ?_ _) | omega | (focus (simp; done)) | (focus (simp; omega))))
        have hvf : OwnX encR wf w0.heap.size 24 (.slice A5 N c5) ALL := by
          rw [← hwf]
          exact HV.out.gb (row := some (w.heap.size + 1)) (by (repeat (first | (with_reducible exact World.grownBy.refl _ _) | (with_reducible assumption) | (with_reducible refine gb_grow ?_ _ _) | (with_reducible refine gb_drewN ?_ _) | (with_reducible refine gb_drew ?_) | (with_reducible refine gb_alloc ?_ _) | (with_reducible refine gb_setCell ?_ ?_ _) | (focus (left; rfl)) | (focus (right; simp; done)) | (focus (right; simp; omega)) | (focus (right; omega))))) (fun g hg e => by injection e with e; have := (HV.out.lt hg).1; omega)
        have hz : Blk wf (w.heap.size + 1) 41 #[.slice A6 (N - 0) (N - 0), .int .i64 cn] := by rw [← hwf]; exact (Blk.set_ (Blk.set_ HBZ.out 0 _) 1 _)
        clear hwf hHeld
        obtain ⟨z0', z1', zf', zl'⟩ := hz.facts2
        refine bodyPost_ret (v := _) (by simp [results, Try.results23, go_sem, *]; try exact rfl) rfl ⟨.slice A6 (N - 0) (N - 0), rfl, hbf, ⟨?_, fun r hr => ?_⟩, fun F hF1 hF2 => ⟨fun _ b o c n e => .inr ?_, fun r hr h0 b o e => .inl ?_⟩⟩
        · have h := HC.out _ _ hvf.rd
          rw [show pushL L (Int.toNat (cn : Int)) M = ALL.drop (N - cn) from HP.out, HPE.out]
          rwa [List.take_of_length_le (by rw [List.length_drop, ← HNA.out]; exact Nat.le_refl _)] at h
        · rw [show pushL L (Int.toNat (cn : Int)) M = ALL.drop (N - cn) from HP.out] at hr
          exact (HOK.out r (List.mem_of_mem_drop hr)).below hbf
        · injection e with e1 _ _
          obtain ⟨s, o2, e2⟩ := HA6.out b o e1
          have := (HV.out.lt (g := b) (by rw [e2]; rfl)).1
          omega
        · rw [show pushL L (Int.toNat (cn : Int)) M = ALL.drop (N - cn) from HP.out] at hr
          exact HFT.out F hF1.2 hF2.2 r (List.mem_of_mem_drop hr) h0 b o e
end Go.Proofs.Ytpnadnjcacaibaa.Row
