/- Walk of history.Take. -/
import Derived.Test.YtpnadnjcacaibaaHistD
namespace Go.Proofs.Ytpnadnjcacaibaa.Row
open Go.RowKit
theorem e2val {a b a' b' : Value} (h : a = a') (h' : b = b') : Ending.returned (.tuple #[a, b]) = .returned (.tuple #[a', b']) := by rw [h, h']
set_option maxRecDepth 100000 in
set_option maxHeartbeats 2000000 in
theorem take_c (x : Value) (c k : Int) (L : List Rw) (st : Nat) (w : World) (hx : RdR w x L) (hl : L.length ≤ 5000) (hs : hsaneB L c = true) (hst : (st : Int) = (L.length : Int) - max 0 (min k L.length)) :
    Calls Try.prog 29 #[.agg #[x, .int .i64 c], .int .i64 k] w fun e w' => ∃ v1 v2, e = .returned (.tuple #[.agg #[v1, .int .i64 c], v2]) ∧ Below w.heap.size w w' ∧ RdR w' v1 (L.take st) ∧ RdR w' v2 (L.drop st) ∧
      ∀ F, Ft F x L → Ft (fun b => F b ∨ w.heap.size ≤ b) v1 (L.take st) ∧ Ft (fun b => F b ∨ w.heap.size ≤ b) v2 (L.drop st) := by
  obtain ⟨A, cap, rfl, hc⟩ := hx.1.len
  obtain ⟨i3, hi3, hz3, hs3, hb3⟩ := row_parts
  have HI3 := Lib.hid hi3
  have HZ3 := Lib.hid hz3
  have HS3 := Lib.hid hs3
  have HB3 := Lib.hid hb3
  have HLL := Lib.hid hl
  have HX := Lib.hid hx
  generalize hn : L.length = n at hl hc hx HX hst ⊢
  have HN := Lib.hid hn
  have hstn : st ≤ n := by omega
  have hsub : (n : Int) - max 0 (min k n) = (st : Int) := hst.symm
  have hb0 : (0 : Int) ≤ max 0 (min k n) ∧ max 0 (min k (n : Int)) ≤ n := by omega
  generalize hq : max 0 (min k (n : Int)) = q at hsub hb0
  have HQ := Lib.hid hq
  obtain ⟨hb01, hb02⟩ := hb0
  have hw1 : IntKind.i64.wrap ((n : Int) - q) = (st : Int) := by rw [IntWalk.i64_in _ (by omega)]; exact hsub
  clear hn hi3 hz3 hs3 hb3 hx hst hq
  go_enter Try.func29, Try.ntmps29
  go_wp2_with fail
  generalize hw0 : (w.alloc _).alloc _ = w0
  have hbw : Below w.heap.size w w0 := by rw [← hw0]; (repeat (first | (with_reducible exact Below.refl _ _) | (with_reducible assumption) | (with_reducible refine Below.grow ?_ ?_ _ _) | (with_reducible refine Below.drewN' ?_ _) | (with_reducible refine Below.drew ?_) | (with_reducible refine Below.alloc ?_ ?_ _) | (with_reducible refine Below.setCell ?_ ?_ _) | omega | (focus (simp; done)) | (focus (simp; omega))))
  have hB1 : Blk w0 w.heap.size 41 #[.slice A n cap, .int .i64 c] := by rw [← hw0]; exact (Blk.new _ _ _).alloc _
  have hB2 : Blk w0 (w.heap.size + 1) 41 #[.slice none 0 0, .int .i64 0] := by rw [← hw0]; exact Blk.new_at (by simp)
  clear hw0
  have HBW := Lib.hid hbw
  have HB1 := Lib.hid hB1
  have HB2 := Lib.hid hB2
  obtain ⟨r0, r1, rf, rl⟩ := hB1.facts2
  clear hB1 hB2
  refine (hsane_c (.slice A n cap) c L _ (HX.out.below hbw) HLL.out).mono ?_
  rintro e w1 ⟨rfl, hg⟩
  have hb := hg.below
  have HSZ := Lib.hid hb.size
  have HX1 := Lib.hid (HX.out.below (hbw.trans (hb.mono hbw.size)))
  clear hbw hg r0 r1 rf rl
  obtain ⟨r0, r1, rf, rl⟩ := (HB1.out.below hb HB1.out.lt).facts2
  go_wp2_with (at_builtin; refine wpList_append_X encR rfl _ _ _ rfl w0.heap.size 24 48 i3 _ rfl HI3.out HZ3.out HS3.out HB3.out rfl _ _ [] L rfl rfl (OwnX.nil _ _ _) HX1.out.1 (by unfold maxLen; simp only [List.length_nil]; rw [HN.out]; omega) (by simp only [List.length_nil]; rw [HN.out]; omega) HSZ.out ?_; intro v1 w2 hv hgb hor; rw [List.nil_append] at hv; obtain ⟨A5, c5, rfl, hc5⟩ := hv.rd.len; rw [HN.out] at hc5 hv ⊢)
  have hb2 := below_ownx hb hgb (fun g hg => by cases hg) HSZ.out
  have hB1 := HB1.out.below hb2 HB1.out.lt
  have hB2 := HB2.out.below hb2 HB2.out.lt
  clear r0 r1 rf rl
  obtain ⟨r0, r1, rf, rl⟩ := hB1.facts2; obtain ⟨z0, z1, zf, zl⟩ := hB2.facts2
  have HV := Lib.hid hv
  have HBZ := Lib.hid hB2
  have HBR := Lib.hid (HBW.out.trans (hb2.mono HBW.out.size))
  have hw0s : w.heap.size + 1 < w0.heap.size := HB2.out.lt
  clear hb hgb hor HX1 HSZ hv hB1 hB2 hb2
  refine (bounded_c k n _).mono ?_
  rintro e w3 ⟨rfl, rfl⟩
  rw [HQ.out]
  obtain ⟨A6, hA6, hrun6, hcut6⟩ := slice3 (E := encR) (P := Try.prog) 36 24 Try.underlying36 (by kernel_rfl) A5 n c5 0 st (Nat.zero_le _) hstn hc5
  obtain ⟨A7, hA7, hrun7, hcut7⟩ := slice3 (E := encR) (P := Try.prog) 36 24 Try.underlying36 (by kernel_rfl) A5 n c5 st n hstn (Nat.le_refl n) hc5
  rw [show ((0 : Nat) : Int) = 0 from rfl, Nat.sub_zero] at hrun6
  rw [Nat.sub_zero] at hcut6
  have HC6 := Lib.hid hcut6
  have HC7 := Lib.hid hcut7
  have HA6 := Lib.hid hA6
  have HA7 := Lib.hid hA7
  clear hcut6 hcut7 hA6 hA7
  have l1 : (0 : Int) ≤ n := by omega
  go_wp2_with fail
  refine hr_start (S := (fun w' => w'.cell? ⟨w.heap.size, 0, none⟩ = some (.slice A n cap) ∧ w'.cell? ⟨w.heap.size, 1, none⟩ = some (.int .i64 c))) (by kernel_rfl) rfl ?_ (fun hHeld => ?_)
  · ((try dsimp only); go_simp)
  refine hr_take (i := 0) rfl rfl (by kernel_rfl) (by kernel_rfl) (by kernel_rfl) (by kernel_rfl) (fun _ _ _ h => h) (v := ?_) ?_ (by assumption) ?_
  rotate_left
  focus (intro wS hSw; (try dsimp only at hSw); go_simp; (try with_reducible rfl))
  simp only [List.set_cons_zero, List.set_cons_succ]
  refine hr_take (i := 1) rfl rfl (by kernel_rfl) (by kernel_rfl) (by kernel_rfl) (by kernel_rfl) (fun _ _ _ h => h) (v := ?_) ?_ (by assumption) ?_
  rotate_left
  focus (intro wS hSw; (try dsimp only at hSw); go_simp; (try with_reducible rfl))
  simp only [List.set_cons_zero, List.set_cons_succ]
  refine hr_take (i := 2) rfl rfl (by kernel_rfl) (by kernel_rfl) (by kernel_rfl) (by kernel_rfl) (fun _ _ _ h => h) (v := ?_) ?_ (by assumption) ?_
  rotate_left
  focus (intro wS hSw; (try dsimp only at hSw); go_simp; (try with_reducible rfl))
  simp only [List.set_cons_zero, List.set_cons_succ]
  refine hr_take (i := 3) rfl rfl (by kernel_rfl) (by kernel_rfl) (by kernel_rfl) (by kernel_rfl) (fun _ _ _ h => h) (v := ?_) ?_ (by assumption) ?_
  rotate_left
  focus (intro wS hSw; (try dsimp only at hSw); go_simp; (try with_reducible rfl))
  simp only [List.set_cons_zero, List.set_cons_succ]
  refine hr_take (i := 4) rfl rfl (by kernel_rfl) (by kernel_rfl) (by kernel_rfl) (by kernel_rfl) (fun _ _ _ h => h) (v := ?_) ?_ (by assumption) ?_
  rotate_left
  focus (intro wS hSw; (try dsimp only at hSw); go_simp; (try with_reducible rfl))
  simp only [List.set_cons_zero, List.set_cons_succ]
  refine hr_take (i := 5) rfl rfl (by kernel_rfl) (by kernel_rfl) (by kernel_rfl) (by kernel_rfl) (fun _ _ _ h => h) (v := ?_) ?_ (by assumption) ?_
  rotate_left
  focus (intro wS hSw; (try dsimp only at hSw); go_simp; (try with_reducible rfl))
  simp only [List.set_cons_zero, List.set_cons_succ]
  refine hr_take (i := 6) rfl rfl (by kernel_rfl) (by kernel_rfl) (by kernel_rfl) (by kernel_rfl) (fun _ _ _ h => h) (v := ?_) ?_ (by assumption) ?_
  rotate_left
  focus (intro wS hSw; (try dsimp only at hSw); go_simp; (try with_reducible rfl))
  simp only [List.set_cons_zero, List.set_cons_succ]
  refine hr_take (i := 7) rfl rfl (by kernel_rfl) (by kernel_rfl) (by kernel_rfl) (by kernel_rfl) (fun _ _ _ h => h) (v := ?_) ?_ (by assumption) ?_
  rotate_left
  focus (intro wS hSw; (try dsimp only at hSw); go_simp; (try with_reducible rfl))
  simp only [List.set_cons_zero, List.set_cons_succ]
  refine hr_take (i := 8) rfl rfl (by kernel_rfl) (by kernel_rfl) (by kernel_rfl) (by kernel_rfl) (fun _ _ _ h => h) (v := ?_) ?_ (by assumption) ?_
  rotate_left
  focus (intro wS hSw; (try dsimp only at hSw); go_simp; (try with_reducible rfl))
  simp only [List.set_cons_zero, List.set_cons_succ]
  refine hr_take (i := 9) rfl rfl (by kernel_rfl) (by kernel_rfl) (by kernel_rfl) (by kernel_rfl) (fun _ _ _ h => h) (v := ?_) ?_ (by assumption) ?_
  rotate_left
  focus (intro wS hSw; (try dsimp only at hSw); go_simp; (try with_reducible rfl))
  simp only [List.set_cons_zero, List.set_cons_succ]
  refine hr_take (i := 10) rfl rfl (by kernel_rfl) (by kernel_rfl) (by kernel_rfl) (by kernel_rfl) (fun _ _ _ h => h) (v := ?_) ?_ (by assumption) ?_
  rotate_left
  focus (intro wS hSw; (try dsimp only at hSw); go_simp; (try with_reducible rfl))
  simp only [List.set_cons_zero, List.set_cons_succ]
  refine hr_take (i := 11) rfl rfl (by kernel_rfl) (by kernel_rfl) (by kernel_rfl) (by kernel_rfl) (fun _ _ _ h => h) (v := ?_) ?_ (by assumption) ?_
  rotate_left
  focus (intro wS hSw; (try dsimp only at hSw); go_simp; (try with_reducible rfl))
  simp only [List.set_cons_zero, List.set_cons_succ]
  refine hr_take (i := 12) rfl rfl (by kernel_rfl) (by kernel_rfl) (by kernel_rfl) (by kernel_rfl) (fun _ _ _ h => h) (v := ?_) ?_ (by assumption) ?_
  rotate_left
  focus (intro wS hSw; (try dsimp only at hSw); go_simp; (try with_reducible rfl))
  simp only [List.set_cons_zero, List.set_cons_succ]
  refine hr_take (i := 13) rfl rfl (by kernel_rfl) (by kernel_rfl) (by kernel_rfl) (by kernel_rfl) (fun _ _ _ h => h) (v := ?_) ?_ (by assumption) ?_
  rotate_left
  focus (intro wS hSw; (try dsimp only at hSw); go_simp; (try with_reducible rfl))
  simp only [List.set_cons_zero, List.set_cons_succ]
  refine hr_op0 (i := 14) rfl (by kernel_rfl) (by kernel_rfl) (fun K hK => ?_)
  go_simp
  (try go_wp2_with fail)
  refine hK.out _ ?_ (fun hHeld => ?_)
  · ((try dsimp only); go_simp)
  clear hK K
  refine hr_take (i := 15) rfl rfl (by kernel_rfl) (by kernel_rfl) (by kernel_rfl) (by kernel_rfl) (fun _ _ _ h => h) (v := ?_) ?_ (by assumption) ?_
  rotate_left
  focus (intro wS hSw; (try dsimp only at hSw); go_simp; (try with_reducible rfl))
  simp only [List.set_cons_zero, List.set_cons_succ]
  refine hr_done (by kernel_rfl) ?_
  go_wp2_with fail
  generalize hwf : World.drew (World.setCell (World.setCell w2 _ _) _ _) = wf
  have hbf : Below w.heap.size w wf := by rw [← hwf]; have hbr := HBR.out; (repeat (first | (with_reducible exact Below.refl _ _) | (with_reducible assumption) | (with_reducible refine Below.grow ?_ ?_ _ _) | (with_reducible refine Below.drewN' ?_ _) | (with_reducible refine Below.drew ?_) | (with_reducible refine Below.alloc ?_ ?_ _) | (with_reducible refine Below.setCell ?_ ?_ _) | omega | (focus (simp; done)) | (focus (simp; omega))))
  have hvf : OwnX encR wf w0.heap.size 24 (.slice A5 n c5) L := by
    rw [← hwf]
    exact HV.out.gb (row := some (w.heap.size + 1)) (by (repeat (first | (with_reducible exact World.grownBy.refl _ _) | (with_reducible assumption) | (with_reducible refine gb_grow ?_ _ _) | (with_reducible refine gb_drewN ?_ _) | (with_reducible refine gb_drew ?_) | (with_reducible refine gb_alloc ?_ _) | (with_reducible refine gb_setCell ?_ ?_ _) | (focus (left; rfl)) | (focus (right; simp; done)) | (focus (right; simp; omega)) | (focus (right; omega))))) (fun g hg e => by injection e with e; have := (HV.out.lt hg).1; omega)
  have hz : Blk wf (w.heap.size + 1) 41 #[.slice A6 st st, .int .i64 c] := by rw [← hwf]; exact (Blk.set_ (Blk.set_ HBZ.out 0 _) 1 _)
  clear hwf hHeld
  obtain ⟨z0', z1', zf', zl'⟩ := hz.facts2
  refine bodyPost_ret (v := _) (by simp [results, Try.results29, go_sem, *]; try exact rfl) rfl ⟨.slice A6 st st, .slice A7 (n - st) (n - st), rfl, hbf, ⟨?_, fun r hr => (HX.out.below hbf).2 r (List.mem_of_mem_take hr)⟩, ⟨?_, fun r hr => (HX.out.below hbf).2 r (List.mem_of_mem_drop hr)⟩, fun F hF => ⟨⟨fun _ b o c n e => .inr ?_, fun r hr h0 b o e => .inl (hF.2 r (List.mem_of_mem_take hr) h0 b o e)⟩, ⟨fun _ b o c n e => .inr ?_, fun r hr h0 b o e => .inl (hF.2 r (List.mem_of_mem_drop hr) h0 b o e)⟩⟩⟩
  · have h := HC6.out _ _ hvf.rd
    rwa [List.drop_zero] at h
  · have h := HC7.out _ _ hvf.rd
    rwa [List.take_of_length_le (by rw [List.length_drop, HN.out]; exact Nat.le_refl _)] at h
  · injection e with e1 _ _
    obtain ⟨s, o2, e2⟩ := HA6.out b o e1
    have := (HV.out.lt (g := b) (by rw [e2]; rfl)).1
    omega
  · injection e with e1 _ _
    obtain ⟨s, o2, e2⟩ := HA7.out b o e1
    have := (HV.out.lt (g := b) (by rw [e2]; rfl)).1
    omega
end Go.Proofs.Ytpnadnjcacaibaa.Row
