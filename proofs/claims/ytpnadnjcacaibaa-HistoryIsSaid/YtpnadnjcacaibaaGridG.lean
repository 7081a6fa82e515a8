/- Walk of grid.Clear. -/
import Derived.Test.YtpnadnjcacaibaaGridE
namespace Go.Proofs.Ytpnadnjcacaibaa.Row
open Go.RowKit
def ClearPost (n : Nat) (F : Nat → Rw) (t q : Nat) (fg bg fl : Int) (w : World) (e : Ending) (w' : World) : Prop :=
  ∃ g c B, e = .returned (.agg #[.slice (some ⟨g, 0, none⟩) n c]) ∧ Below w.heap.size w w' ∧ n ≤ c ∧ w.heap.size ≤ g ∧
      RdR w' (.slice (some ⟨g, 0, none⟩) n c) (listG n (layG F t q B (F 0).n fg bg fl)) ∧ (∀ j, j < q → w.heap.size ≤ B j)
set_option maxRecDepth 100000 in
set_option maxHeartbeats 4000000 in
theorem clear_c (x : Value) (n : Nat) (F : Nat → Rw) (t q tz : Nat) (from_ to_ fg bg fl : Int) (w : World) (hx : RdR w x (listG n F)) (hs : gsaneB (listG n F) = true) (hp : penB fg bg fl = true) (hF : max 0 (min from_ n) = (t : Int)) (hT : max 0 (min to_ n) = (tz : Int)) (hq : t + q = max t tz) :
    Calls Try.prog 52 #[.agg #[x], .int .i64 from_, .int .i64 to_, .agg #[.int .i64 fg, .int .i64 bg, .int .i64 fl]] w (ClearPost n F t q fg bg fl w) := by
  obtain ⟨A, cap, rfl, hc⟩ := hx.1.len
  obtain ⟨hn1, hn2, hrows⟩ := gsane_wd hs
  have HRO := Lib.hid hrows
  obtain ⟨i3, hi3, hz3, hs3, hb3⟩ := row_parts
  have HI3 := Lib.hid hi3
  have HZ3 := Lib.hid hz3
  have HS3 := Lib.hid hs3
  have HB3_ := Lib.hid hb3
  have HLL : Hid ((listG n F).length ≤ 5000) := by show _ ≤ _; rw [listG_len]; omega
  rw [listG_len] at hc hx ⊢
  have HX := Lib.hid hx
  have HF := Lib.hid hF
  have HT := Lib.hid hT
  have htn : t ≤ n := by omega
  have htzn : tz ≤ n := by omega
  have hqb : t + q ≤ n := by omega
  have HQ := Lib.hid hq
  clear hi3 hz3 hs3 hb3 hx hq hrows hF hT
  go_enter Try.func52, Try.ntmps52
  go_wp2_with fail
  generalize hw0 : ((w.alloc _).alloc _).alloc _ = w0
  have hbw : Below w.heap.size w w0 := by rw [← hw0]; (repeat (first | (with_reducible exact Below.refl _ _) | (with_reducible assumption) | (with_reducible refine Below.grow ?_ ?_ _ _) | (with_reducible refine Below.drewN' ?_ _) | (with_reducible refine Below.drew ?_) | (with_reducible refine Below.alloc ?_ ?_ _) | (with_reducible refine Below.setCell ?_ ?_ _) | omega | (focus (simp; done)) | (focus (simp; omega))))
  have hB1 : Blk w0 w.heap.size 60 #[.slice A n cap] := by rw [← hw0]; exact ((Blk.new _ _ _).alloc _).alloc _
  have hB2 : Blk w0 (w.heap.size + 1) 27 #[.int .i64 fg, .int .i64 bg, .int .i64 fl] := by rw [← hw0]; exact (Blk.new_at (by simp)).alloc _
  have hB3 : Blk w0 (w.heap.size + 2) 60 #[.slice none 0 0] := by rw [← hw0]; exact Blk.new_at (by simp)
  clear hw0
  have HBW := Lib.hid hbw
  have HB1 := Lib.hid hB1
  have HB2 := Lib.hid hB2
  have HBZ := Lib.hid hB3
  have hw0s : w.heap.size + 2 < w0.heap.size := hB3.lt
  clear hB1 hB2 hB3
  refine (usable_c (.slice A n cap) (listG n F) fg bg fl _ (HX.out.below hbw) HLL.out).mono ?_
  rintro e w1 ⟨rfl, hg⟩
  have hb1 := hg.below
  clear hg hbw
  have HBB := Lib.hid hb1
  have hB1 := HB1.out.below hb1 HB1.out.lt
  have r0 := hB1.cell 0
  have rl := hB1.lt
  simp only [List.getElem?_toArray, List.getElem?_cons_zero] at r0
  clear hb1 hB1
  go_upto_region 4 with fail
  go_cut [1, 2] from 19 to 26 (fun s1 s2 wc => w1 = wc ∧ s1 = .int .i64 (t : Int) ∧ s2 = .int .i64 (tz : Int))
  case first =>
    go_wp2
    all_goals (go_meet; case rel => exact ⟨rfl, by congr 1; have := HF.out; omega, by congr 1; have := HT.out; omega⟩)
  case rest =>
    obtain ⟨rfl, rfl, rfl⟩ := hcut
    go_wp2_with fail
    refine (rows_c (.slice A n cap) n F _ (HX.out.below (HBW.out.trans (HBB.out.mono HBW.out.size))) hn1 (by omega)).mono ?_
    rintro e w3 ⟨g, c5, rfl, hc5, hgg, hg3, hog⟩
    have hb3 := HBB.out.trans (hg3.mono HBB.out.size)
    have hbw3 := HBW.out.trans (hb3.mono HBW.out.size)
    have hg0 : w0.heap.size ≤ g := Nat.le_trans HBB.out.size hgg
    have hg3l := hog.lt
    have HB3 := Lib.hid hb3
    have HBW3 := Lib.hid hbw3
    have HOG := Lib.hid hog
    clear r0 rl hb3 hbw3 hg3 hog hgg
    have hbz := HBW3.out
    have hws := hbz.size
    have hwr0 : w.heap.size + 2 < w3.heap.size := by have := HB3.out.size; omega
    have hB1 := HB1.out.below HB3.out HB1.out.lt
    have hB2 := HB2.out.below HB3.out HB2.out.lt
    have hB3 := HBZ.out.below HB3.out HBZ.out.lt
    have hoz := HOG.out
    have hgl := hoz.lt
    have r0 := hB1.cell 0
    have rl := hB1.lt
    simp only [List.getElem?_toArray, List.getElem?_cons_zero] at r0
    have h0l : 0 < (listG n F).length := by rw [listG_len]; omega
    obtain ⟨bx, ox, rfl, hbxz, hat, -⟩ := (HX.out.below hbz).at_ h0l
    rw [listG_at, Nat.zero_mul, Nat.add_zero] at hat
    obtain ⟨z0, -, -, -⟩ := hat
    have hm1 := (sane_iff.1 (HRO.out 0 (by omega)).2)
    obtain ⟨hm0, hm1, -⟩ := hm1
    have HMW : Hid (max 1 (min ((F 0).n : Int) 4096) = ((F 0).n : Int)) := by show _ = _; omega
    have hbxw : bx ≠ g := by
      have := HX.out.ft.1 (by rw [listG_len]; omega) bx ox cap n rfl
      omega
    have HBG := Lib.hid hB1
    have HBP := Lib.hid hB2
    have HBZ2 := Lib.hid hB3
    have HBZ5 := Lib.hid hbz
    have HOGE := Lib.hid hoz
    obtain ⟨s0, s1, s2, sf, sl⟩ := hB2.facts3
    have y9 := hB3.cell 0
    have yf9 := hB3.frozen
    simp only [List.getElem?_toArray, List.getElem?_cons_zero] at y9
    obtain ⟨hz_, hhi⟩ : ∃ hz_, hz_ = t + q := ⟨_, rfl⟩
    have hpos : 0 < n := by omega
    have HHI := Lib.hid hhi
    have hlo1 : t ≤ hz_ := by omega
    have hlo3 : hz_ ≤ n := by omega
    clear hhi
    obtain ⟨m, hm⟩ : ∃ m, m = (F 0).n := ⟨_, rfl⟩
    rw [← hm] at z0 HMW hm0 hm1
    have HMN := Lib.hid hm
    generalize (F 0).A = A0 at z0
    generalize (F 0).cap = cap0 at z0
    clear hm
    clear hB1 hB2 hB3 hoz
    have hqq := HQ.out
    by_cases hq0 : q = 0
    · obtain ⟨A7, -, hrun, -⟩ := slice2 (E := encR) (P := Try.prog) 36 24 Try.underlying36 (by kernel_rfl) (some ⟨g, 0, none⟩) n c5 t t (Nat.le_refl t) htn hc5
      have hbl : t - t = 0 := by omega
      have hno : ¬ t < tz := by omega
      have hnoI : ¬ (t : Int) < (tz : Int) := by omega
      rw [hbl] at hrun
      have HQ0 := Lib.hid hq0
      have l2 : (0 : Int) ≤ t := by omega
      clear hq0 hqq
      go_wp2_with fail
      refine hr_start (S := (fun w' => w'.cell? ⟨w.heap.size, 0, none⟩ = some (.slice (some ⟨bx, ox, none⟩) n cap) ∧ w'.cell? ⟨w.heap.size + 1, 0, none⟩ = some (.int .i64 fg) ∧ w'.cell? ⟨w.heap.size + 1, 1, none⟩ = some (.int .i64 bg) ∧ w'.cell? ⟨w.heap.size + 1, 2, none⟩ = some (.int .i64 fl) ∧ w'.cell? ⟨bx, ox, none⟩ = some (.slice A0 m cap0))) (by kernel_rfl) rfl ?_ (fun hHeld => ?_)
      · ((try dsimp only); go_simp)
      refine hr_take (i := 0) rfl rfl (by kernel_rfl) (by kernel_rfl) (by kernel_rfl) (by kernel_rfl) (fun _ _ _ h => h) (v := ?_) ?_ (by assumption) ?_
      rotate_left
      focus (intro wS hSw; (try dsimp only at hSw); go_simp; (try with_reducible rfl))
      simp only [List.set_cons_zero, List.set_cons_succ]
      refine hr_take (i := 1) rfl rfl (by kernel_rfl) (by kernel_rfl) (by kernel_rfl) (by kernel_rfl) (fun _ _ _ h => h) (v := ?_) ?_ (by assumption) ?_
      rotate_left
      focus (intro wS hSw; (try dsimp only at hSw); go_simp; (try with_reducible rfl))
      simp only [List.set_cons_zero, List.set_cons_succ]
      refine hr_take (i := 2) rfl rfl (by kernel_rfl) (by kernel_rfl) (by kernel_rfl) (by kernel_rfl) (fun _ _ _ h => h) (v := ?_) ?_ (by assumption) ?_
      rotate_left
      focus (intro wS hSw; (try dsimp only at hSw); go_simp; (try with_reducible rfl))
      simp only [List.set_cons_zero, List.set_cons_succ]
      refine hr_take (i := 3) rfl rfl (by kernel_rfl) (by kernel_rfl) (by kernel_rfl) (by kernel_rfl) (fun _ _ _ h => h) (v := ?_) ?_ (by assumption) ?_
      rotate_left
      focus (intro wS hSw; (try dsimp only at hSw); go_simp; (try with_reducible rfl))
      simp only [List.set_cons_zero, List.set_cons_succ]
      refine hr_take (i := 4) rfl rfl (by kernel_rfl) (by kernel_rfl) (by kernel_rfl) (by kernel_rfl) (fun _ _ _ h => h) (v := ?_) ?_ (by assumption) ?_
      rotate_left
      focus (intro wS hSw; (try dsimp only at hSw); go_simp; (try with_reducible rfl))
      simp only [List.set_cons_zero, List.set_cons_succ]
      refine hr_take (i := 5) rfl rfl (by kernel_rfl) (by kernel_rfl) (by kernel_rfl) (by kernel_rfl) (fun _ _ _ h => h) (v := ?_) ?_ (by assumption) ?_
      rotate_left
      focus (intro wS hSw; (try dsimp only at hSw); go_simp; (try with_reducible rfl))
      simp only [List.set_cons_zero, List.set_cons_succ]
      refine hr_take (i := 6) rfl rfl (by kernel_rfl) (by kernel_rfl) (by kernel_rfl) (by kernel_rfl) (fun _ _ _ h => h) (v := ?_) ?_ (by assumption) ?_
      rotate_left
      focus (intro wS hSw; (try dsimp only at hSw); go_simp; (try with_reducible rfl))
      simp only [List.set_cons_zero, List.set_cons_succ]
      refine hr_take (i := 7) rfl rfl (by kernel_rfl) (by kernel_rfl) (by kernel_rfl) (by kernel_rfl) (fun _ _ _ h => h) (v := ?_) ?_ (by assumption) ?_
      rotate_left
      focus (intro wS hSw; (try dsimp only at hSw); go_simp; (try with_reducible rfl))
      simp only [List.set_cons_zero, List.set_cons_succ]
      refine hr_take (i := 8) rfl rfl (by kernel_rfl) (by kernel_rfl) (by kernel_rfl) (by kernel_rfl) (fun _ _ _ h => h) (v := ?_) ?_ (by assumption) ?_
      rotate_left
      focus (intro wS hSw; (try dsimp only at hSw); go_simp; (try with_reducible rfl))
      simp only [List.set_cons_zero, List.set_cons_succ]
      refine hr_take (i := 9) rfl rfl (by kernel_rfl) (by kernel_rfl) (by kernel_rfl) (by kernel_rfl) (fun _ _ _ h => h) (v := ?_) ?_ (by assumption) ?_
      rotate_left
      focus (intro wS hSw; (try dsimp only at hSw); go_simp; (try with_reducible rfl))
      simp only [List.set_cons_zero, List.set_cons_succ]
      refine hr_take (i := 10) rfl rfl (by kernel_rfl) (by kernel_rfl) (by kernel_rfl) (by kernel_rfl) (fun _ _ _ h => h) (v := ?_) ?_ (by assumption) ?_
      rotate_left
      focus (intro wS hSw; (try dsimp only at hSw); go_simp; (try with_reducible rfl))
      simp only [List.set_cons_zero, List.set_cons_succ]
      refine hr_take (i := 11) rfl rfl (by kernel_rfl) (by kernel_rfl) (by kernel_rfl) (by kernel_rfl) (fun _ _ _ h => h) (v := ?_) ?_ (by assumption) ?_
      rotate_left
      focus (intro wS hSw; (try dsimp only at hSw); go_simp; (try with_reducible rfl))
      simp only [List.set_cons_zero, List.set_cons_succ]
      refine hr_take (i := 12) rfl rfl (by kernel_rfl) (by kernel_rfl) (by kernel_rfl) (by kernel_rfl) (fun _ _ _ h => h) (v := ?_) ?_ (by assumption) ?_
      rotate_left
      focus (intro wS hSw; (try dsimp only at hSw); go_simp; (try with_reducible rfl))
      simp only [List.set_cons_zero, List.set_cons_succ]
      refine hr_op (i := 13) rfl rfl (by kernel_rfl) (by kernel_rfl) (fun K hK => ?_)
      go_simp
      ((with_reducible refine (layg0_c _ _ _ fg bg fl _).mono ?_); rintro e w6 ⟨rfl, X6, d6, rfl⟩)
      (try go_wp2_with fail)
      refine hK.out _ _ ?_ (fun hHeld => ?_)
      · ((try dsimp only); go_simp)
      clear hK K
      simp only [List.set_cons_zero, List.set_cons_succ]
      refine hr_done (by kernel_rfl) ?_
      generalize hw6 : World.grow _ _ _ = w6
      have hq0 := HQ0.out
      have hb6 : Below w3.heap.size w3 w6 := by rw [← hw6]; (repeat (first | (with_reducible exact Below.refl _ _) | (with_reducible assumption) | (with_reducible refine Below.grow ?_ ?_ _ _) | (with_reducible refine Below.drewN' ?_ _) | (with_reducible refine Below.drew ?_) | (with_reducible refine Below.alloc ?_ ?_ _) | (with_reducible refine Below.setCell ?_ ?_ _) | omega | (focus (simp; done)) | (focus (simp; omega))))
      clear hw6
      have HMQ := HMN.out
      have hZ6 := HBZ2.out.below hb6 HBZ2.out.lt
      have HO6 : Hid (OwnG w6 g n (layG F t q (fun _ => 0) (F 0).n fg bg fl)) := (HOGE.out.below hb6 HOGE.out.lt).congr fun i _ => by unfold layG; rw [if_neg (by omega)]
      have HB6 : Hid (Below w.heap.size w w6) := HBZ5.out.trans (hb6.mono HBZ5.out.size)
      have HBQ : Hid (∀ j, j < q → w.heap.size + 2 < (fun _ : Nat => 0) j ∧ Rd w6 (some ⟨(fun _ : Nat => 0) j, 0, none⟩) (F 0).n (fun _ => blank fg bg fl)) := fun j hj => absurd hj (by omega)
      clear hq0 hb6 HMQ hHeld z0 s0 s1 s2 sf sl y9 yf9 r0 rl
      have HZ6 := Lib.hid hZ6
      have y9' := hZ6.cell 0
      have yf9' := hZ6.frozen
      have yl9' := hZ6.lt
      simp only [List.getElem?_toArray, List.getElem?_cons_zero] at y9'
      clear hZ6
      go_wp2_with fail
      generalize hwf : World.setCell w6 _ _ = wf
      have hg7 : w6.grownBy wf (some (w.heap.size + 2)) := by rw [← hwf]; (repeat (first | (with_reducible exact World.grownBy.refl _ _) | (with_reducible assumption) | (with_reducible refine gb_grow ?_ _ _) | (with_reducible refine gb_drewN ?_ _) | (with_reducible refine gb_drew ?_) | (with_reducible refine gb_alloc ?_ _) | (with_reducible refine gb_setCell ?_ ?_ _) | (focus (left; rfl)) | (focus (right; simp; done)) | (focus (right; simp; omega)) | (focus (right; omega))))
      have hz : Blk wf (w.heap.size + 2) 60 #[.slice (some ⟨g, 0, none⟩) n c5] := by rw [← hwf]; exact Blk.set_ HZ6.out 0 _
      clear hwf
      have hogf : OwnG wf g n (layG F t q (fun _ => 0) (F 0).n fg bg fl) := OwnG.gb (row := some (w.heap.size + 2)) HO6.out hg7 (by intro e; injection e; omega)
      have hbf : Below w.heap.size w wf := below_gb HB6.out hg7 (by omega) HB6.out.size
      have hxf := HX.out.below hbf
      have zz := hz.cell 0
      have zf := hz.frozen
      simp only [List.getElem?_toArray, List.getElem?_cons_zero] at zz
      refine bodyPost_ret (v := _) (by simp [results, Try.results52, go_sem, *]; try exact rfl) rfl ⟨g, c5, (fun _ => 0), rfl, hbf, hc5, by omega, ⟨hogf.rdX hc5, fun r hr => ?_⟩, fun j hj => ?_⟩
      · obtain ⟨i, hi, rfl⟩ := listG_mem.1 hr
        unfold layG
        by_cases h1 : t ≤ i ∧ i < t + q
        · rw [if_pos h1]
          obtain ⟨hb1, hb2⟩ := HBQ.out (i - t) (by omega)
          exact ⟨hb2.gb hg7 (by omega), Nat.le_refl _, by show (F 0).n ≤ 5000; have := HMN.out; omega⟩
        · rw [if_neg h1]
          exact hxf.2 _ (listG_mem.2 ⟨i, hi, rfl⟩)
      · have := (HBQ.out j hj).1
        omega
    · obtain rfl : hz_ = tz := by have := HHI.out; omega
      have hyes : t < hz_ := by have := HHI.out; omega
      have hyesI : (t : Int) < (hz_ : Int) := by omega
      have hrun := slice2_at (P := Try.prog) 36 24 4 Try.underlying36 (by kernel_rfl) g 0 n c5 t hz_ q hlo1 (by omega) (by omega) (by have := HHI.out; omega)
      have l1 : ¬ c5 = t := by omega
      have l2 : (0 : Int) ≤ t := by omega
      have l4 : hz_ ≤ c5 := by omega
      clear hqq
      go_wp2_with fail
      refine hr_start (S := (fun w' => w'.cell? ⟨w.heap.size, 0, none⟩ = some (.slice (some ⟨bx, ox, none⟩) n cap) ∧ w'.cell? ⟨w.heap.size + 1, 0, none⟩ = some (.int .i64 fg) ∧ w'.cell? ⟨w.heap.size + 1, 1, none⟩ = some (.int .i64 bg) ∧ w'.cell? ⟨w.heap.size + 1, 2, none⟩ = some (.int .i64 fl) ∧ w'.cell? ⟨bx, ox, none⟩ = some (.slice A0 m cap0))) (by kernel_rfl) rfl ?_ (fun hHeld => ?_)
      · ((try dsimp only); go_simp)
      refine hr_take (i := 0) rfl rfl (by kernel_rfl) (by kernel_rfl) (by kernel_rfl) (by kernel_rfl) (fun _ _ _ h => h) (v := ?_) ?_ (by assumption) ?_
      rotate_left
      focus (intro wS hSw; (try dsimp only at hSw); go_simp; (try with_reducible rfl))
      simp only [List.set_cons_zero, List.set_cons_succ]
      refine hr_take (i := 1) rfl rfl (by kernel_rfl) (by kernel_rfl) (by kernel_rfl) (by kernel_rfl) (fun _ _ _ h => h) (v := ?_) ?_ (by assumption) ?_
      rotate_left
      focus (intro wS hSw; (try dsimp only at hSw); go_simp; (try with_reducible rfl))
      simp only [List.set_cons_zero, List.set_cons_succ]
      refine hr_take (i := 2) rfl rfl (by kernel_rfl) (by kernel_rfl) (by kernel_rfl) (by kernel_rfl) (fun _ _ _ h => h) (v := ?_) ?_ (by assumption) ?_
      rotate_left
      focus (intro wS hSw; (try dsimp only at hSw); go_simp; (try with_reducible rfl))
      simp only [List.set_cons_zero, List.set_cons_succ]
      refine hr_take (i := 3) rfl rfl (by kernel_rfl) (by kernel_rfl) (by kernel_rfl) (by kernel_rfl) (fun _ _ _ h => h) (v := ?_) ?_ (by assumption) ?_
      rotate_left
      focus (intro wS hSw; (try dsimp only at hSw); go_simp; (try with_reducible rfl))
      simp only [List.set_cons_zero, List.set_cons_succ]
      refine hr_take (i := 4) rfl rfl (by kernel_rfl) (by kernel_rfl) (by kernel_rfl) (by kernel_rfl) (fun _ _ _ h => h) (v := ?_) ?_ (by assumption) ?_
      rotate_left
      focus (intro wS hSw; (try dsimp only at hSw); go_simp; (try with_reducible rfl))
      simp only [List.set_cons_zero, List.set_cons_succ]
      refine hr_take (i := 5) rfl rfl (by kernel_rfl) (by kernel_rfl) (by kernel_rfl) (by kernel_rfl) (fun _ _ _ h => h) (v := ?_) ?_ (by assumption) ?_
      rotate_left
      focus (intro wS hSw; (try dsimp only at hSw); go_simp; (try with_reducible rfl))
      simp only [List.set_cons_zero, List.set_cons_succ]
      refine hr_take (i := 6) rfl rfl (by kernel_rfl) (by kernel_rfl) (by kernel_rfl) (by kernel_rfl) (fun _ _ _ h => h) (v := ?_) ?_ (by assumption) ?_
      rotate_left
      focus (intro wS hSw; (try dsimp only at hSw); go_simp; (try with_reducible rfl))
      simp only [List.set_cons_zero, List.set_cons_succ]
      refine hr_take (i := 7) rfl rfl (by kernel_rfl) (by kernel_rfl) (by kernel_rfl) (by kernel_rfl) (fun _ _ _ h => h) (v := ?_) ?_ (by assumption) ?_
      rotate_left
      focus (intro wS hSw; (try dsimp only at hSw); go_simp; (try with_reducible rfl))
      simp only [List.set_cons_zero, List.set_cons_succ]
      refine hr_take (i := 8) rfl rfl (by kernel_rfl) (by kernel_rfl) (by kernel_rfl) (by kernel_rfl) (fun _ _ _ h => h) (v := ?_) ?_ (by assumption) ?_
      rotate_left
      focus (intro wS hSw; (try dsimp only at hSw); go_simp; (try with_reducible rfl))
      simp only [List.set_cons_zero, List.set_cons_succ]
      refine hr_take (i := 9) rfl rfl (by kernel_rfl) (by kernel_rfl) (by kernel_rfl) (by kernel_rfl) (fun _ _ _ h => h) (v := ?_) ?_ (by assumption) ?_
      rotate_left
      focus (intro wS hSw; (try dsimp only at hSw); go_simp; (try with_reducible rfl))
      simp only [List.set_cons_zero, List.set_cons_succ]
      refine hr_take (i := 10) rfl rfl (by kernel_rfl) (by kernel_rfl) (by kernel_rfl) (by kernel_rfl) (fun _ _ _ h => h) (v := ?_) ?_ (by assumption) ?_
      rotate_left
      focus (intro wS hSw; (try dsimp only at hSw); go_simp; (try with_reducible rfl))
      simp only [List.set_cons_zero, List.set_cons_succ]
      refine hr_take (i := 11) rfl rfl (by kernel_rfl) (by kernel_rfl) (by kernel_rfl) (by kernel_rfl) (fun _ _ _ h => h) (v := ?_) ?_ (by assumption) ?_
      rotate_left
      focus (intro wS hSw; (try dsimp only at hSw); go_simp; (try with_reducible rfl))
      simp only [List.set_cons_zero, List.set_cons_succ]
      refine hr_take (i := 12) rfl rfl (by kernel_rfl) (by kernel_rfl) (by kernel_rfl) (by kernel_rfl) (fun _ _ _ h => h) (v := ?_) ?_ (by assumption) ?_
      rotate_left
      focus (intro wS hSw; (try dsimp only at hSw); go_simp; (try with_reducible rfl))
      simp only [List.set_cons_zero, List.set_cons_succ]
      refine hr_op (i := 13) rfl rfl (by kernel_rfl) (by kernel_rfl) (fun K hK => ?_)
      go_simp
      ((with_reducible refine (layg_c g t q _ n (t * 4) F _ m fg bg fl _ HOGE.out.drewd rfl (by omega) (by omega) HMW.out).mono ?_); rintro e w6 ⟨rfl, hg6, B, hog6, hB6⟩; have y0 := (Blk.gb (show Blk w3.drew w.heap.size _ _ from HBG.out) hg6 (by intro e; injection e; omega)).cell 0; obtain ⟨y1, y2, y3, -, -⟩ := (Blk.gb (show Blk w3.drew (w.heap.size + 1) _ _ from HBP.out) hg6 (by intro e; injection e; omega)).facts3; have y4 : w6.cell? ⟨bx, ox, none⟩ = some (.slice A0 m cap0) := (cell_gb hg6 hbxz (by omega)).trans z0; simp only [List.getElem?_toArray, List.getElem?_cons_zero] at y0)
      (try go_wp2_with fail)
      refine hK.out _ _ ?_ (fun hHeld => ?_)
      · ((try dsimp only); go_simp)
      clear hK K
      simp only [List.set_cons_zero, List.set_cons_succ]
      refine hr_done (by kernel_rfl) ?_
      have HMQ := HMN.out
      have hg6' : w3.grownBy w6 (some g) := gb_trans (gb_drew (World.grownBy.refl _ _)) hg6
      have hZ6 := HBZ2.out.gb hg6' (by intro e; injection e; omega)
      have HO6 : Hid (OwnG w6 g n (layG F t q B (F 0).n fg bg fl)) := by rw [← HMQ]; exact hog6
      have HB6 : Hid (Below w.heap.size w w6) := below_gb HBZ5.out hg6' (by omega) HBZ5.out.size
      have HBQ : Hid (∀ j, j < q → w.heap.size + 2 < B j ∧ Rd w6 (some ⟨B j, 0, none⟩) (F 0).n (fun _ => blank fg bg fl)) := fun j hj => by
        obtain ⟨h1, h2⟩ := hB6 j hj
        rw [← HMQ]
        have h1 : w3.heap.size ≤ B j := h1
        exact ⟨by omega, h2⟩
      have HG6 := Lib.hid hg6
      clear hg6 hg6' hog6 hB6 HMQ hHeld y0 y1 y2 y3 y4 z0 s0 s1 s2 sf sl y9 yf9 r0 rl
      have HZ6 := Lib.hid hZ6
      have y9' := hZ6.cell 0
      have yf9' := hZ6.frozen
      have yl9' := hZ6.lt
      simp only [List.getElem?_toArray, List.getElem?_cons_zero] at y9'
      clear hZ6
      go_wp2_with fail
      generalize hwf : World.setCell w6 _ _ = wf
      have hg7 : w6.grownBy wf (some (w.heap.size + 2)) := by rw [← hwf]; (repeat (first | (with_reducible exact World.grownBy.refl _ _) | (with_reducible assumption) | (with_reducible refine gb_grow ?_ _ _) | (with_reducible refine gb_drewN ?_ _) | (with_reducible refine gb_drew ?_) | (with_reducible refine gb_alloc ?_ _) | (with_reducible refine gb_setCell ?_ ?_ _) | (focus (left; rfl)) | (focus (right; simp; done)) | (focus (right; simp; omega)) | (focus (right; omega))))
      have hz : Blk wf (w.heap.size + 2) 60 #[.slice (some ⟨g, 0, none⟩) n c5] := by rw [← hwf]; exact Blk.set_ HZ6.out 0 _
      clear hwf
      have hogf : OwnG wf g n (layG F t q B (F 0).n fg bg fl) := OwnG.gb (row := some (w.heap.size + 2)) HO6.out hg7 (by intro e; injection e; omega)
      have hbf : Below w.heap.size w wf := below_gb HB6.out hg7 (by omega) HB6.out.size
      have hxf := HX.out.below hbf
      have zz := hz.cell 0
      have zf := hz.frozen
      simp only [List.getElem?_toArray, List.getElem?_cons_zero] at zz
      refine bodyPost_ret (v := _) (by simp [results, Try.results52, go_sem, *]; try exact rfl) rfl ⟨g, c5, B, rfl, hbf, hc5, by omega, ⟨hogf.rdX hc5, fun r hr => ?_⟩, fun j hj => ?_⟩
      · obtain ⟨i, hi, rfl⟩ := listG_mem.1 hr
        unfold layG
        by_cases h1 : t ≤ i ∧ i < t + q
        · rw [if_pos h1]
          obtain ⟨hb1, hb2⟩ := HBQ.out (i - t) (by omega)
          exact ⟨hb2.gb hg7 (by omega), Nat.le_refl _, by show (F 0).n ≤ 5000; have := HMN.out; omega⟩
        · rw [if_neg h1]
          exact hxf.2 _ (listG_mem.2 ⟨i, hi, rfl⟩)
      · have := (HBQ.out j hj).1
        omega
end Go.Proofs.Ytpnadnjcacaibaa.Row
