/- Joined: GridF GridJ GridK HistE RefC HistTakes GridL. -/
import Derived.Test.YtlchffkabpfjpaaGreatGC
import Derived.Test.YtlchffkabpfjpaaGreatGD
import Derived.Test.YtlchffkabpfjpaaGreatGB
section
/- Walk of grid.Set. -/
namespace Go.Proofs.YtlchffkabpfjpaaGreat.Row
open Go.RowKit
set_option maxRecDepth 100000 in
set_option maxHeartbeats 4000000 in
theorem set_yes (x : Value) (n : Nat) (F : Nat → Rw) (y : Nat) (r : Rw) (w : World) (hx : RdR w x (listG n F)) (hok : r.ok w) (hs : gsaneB (listG n F) = true) (hy : y < n) (hrn : r.n = (F 0).n) (hsr : saneRw r = true) :
    Calls Tryz.prog 75 #[.agg #[x], .int .i64 y, .agg #[.slice r.A r.n r.cap, .bool r.wb, .int .i64 r.dir, .bool r.ex]] w fun e w' => ∃ g c, e = .returned (.agg #[.slice (some ⟨g, 0, none⟩) n c]) ∧ Below w.heap.size w w' ∧ n ≤ c ∧ w.heap.size ≤ g ∧ RdR w' (.slice (some ⟨g, 0, none⟩) n c) (listG n (updG F y r)) := by
  have HRN := Lib.hid hrn
  clear hrn
  obtain ⟨A, cap, rfl, hc⟩ := hx.1.len
  obtain ⟨hn1, hn2, hrows⟩ := gsane_wd hs
  have HRO := Lib.hid hrows
  have HLL : Hid ((listG n F).length ≤ 5000) := by show _ ≤ _; rw [listG_len]; omega
  rw [listG_len] at hc hx ⊢
  have HX := Lib.hid hx
  have HOK := Lib.hid hok
  have hpos : 0 < n := by omega
  have hyI : ¬ (n : Int) ≤ (y : Int) := by omega
  have hyI2 : (y : Int) < (n : Int) := by omega
  have hyN : ¬ n ≤ y := by omega
  clear hx hok hrows
  go_enter Tryz.func75, Tryz.ntmps75
  go_upto_region 1 with fail
  generalize hw0 : ((w.alloc _).alloc _).alloc _ = w0
  have hbw : Below w.heap.size w w0 := by rw [← hw0]; exact bcAll
  have hB1 : Blk w0 w.heap.size 46 #[.slice A n cap] := by rw [← hw0]; exact ((Blk.new _ _ _).alloc _).alloc _
  have hB2 : Blk w0 (w.heap.size + 1) 64 #[.slice r.A r.n r.cap, .bool r.wb, .int .i64 r.dir, .bool r.ex] := by rw [← hw0]; exact (Blk.new_at (by simp)).alloc _
  have hB3 : Blk w0 (w.heap.size + 2) 46 #[.slice none 0 0] := by rw [← hw0]; exact Blk.new_at (by simp)
  clear hw0
  have HBW := Lib.hid hbw
  have HB1 := Lib.hid hB1
  have HB2 := Lib.hid hB2
  have HBZ := Lib.hid hB3
  have hw0s : w.heap.size + 2 < w0.heap.size := hB3.lt
  have HX0 := Lib.hid (HX.out.below hbw)
  have HOK0 := Lib.hid (HOK.out.below hbw)
  have h0l : 0 < (listG n F).length := by rw [listG_len]; omega
  obtain ⟨bx, ox, rfl, hbxz, hat, -⟩ := HX0.out.at_ h0l
  rw [listG_at, Nat.zero_mul, Nat.add_zero] at hat
  obtain ⟨z0, -, -, -⟩ := hat
  obtain ⟨m, hm⟩ : ∃ m, m = (F 0).n := ⟨_, rfl⟩
  rw [← hm] at z0
  have HMN := Lib.hid hm
  generalize (F 0).A = A0 at z0
  generalize (F 0).cap = cap0 at z0
  have r0 := hB1.cell 0
  have rl := hB1.lt
  simp only [List.getElem?_toArray, List.getElem?_cons_zero] at r0
  obtain ⟨q0, q1, q2, q3, qf, ql⟩ := hB2.facts4
  have v0 := hB3.cell 0
  have vf := hB3.frozen
  simp only [List.getElem?_toArray, List.getElem?_cons_zero] at v0
  clear hB1 hB2 hB3 hm h0l
  have hne : ((r.n : Int) != (m : Int)) = false := by have := HMN.out; have := HRN.out; simp; omega
  refine hr_start (S := (fun w' => w'.cell? ⟨w.heap.size, 0, none⟩ = some (.slice (some ⟨bx, ox, none⟩) n cap) ∧ w'.cell? ⟨w.heap.size + 1, 0, none⟩ = some (.slice r.A r.n r.cap) ∧ w'.cell? ⟨w.heap.size + 1, 1, none⟩ = some (.bool r.wb) ∧ w'.cell? ⟨w.heap.size + 1, 2, none⟩ = some (.int .i64 r.dir) ∧ w'.cell? ⟨w.heap.size + 1, 3, none⟩ = some (.bool r.ex) ∧ w'.cell? ⟨bx, ox, none⟩ = some (.slice A0 m cap0))) (by kernel_rfl) rfl ?_ (fun hHeld => ?_)
  · ((try dsimp only); go_simp)
  refine hr_q 0 ?_
  simp only [st0, st1]
  refine hr_o 1 (fun K hK => ?_)
  (try go_simp)
  ((with_reducible refine (gsane_c (.slice (some ⟨bx, ox, none⟩) n cap) (listG n F) _ (HX0.out.below (by exact bcAll)) HLL.out).mono ?_); rintro e wq ⟨rfl, X1, d1, rfl⟩)
  (try go_wp2_with fail)
  refine hK.out _ _ ?_ (fun hHeld => ?_)
  · ((try dsimp only); go_simp)
  clear hK K
  simp only [st0, st1]
  refine hr_q 2 ?_
  simp only [st0, st1]
  refine hr_q 3 ?_
  simp only [st0, st1]
  refine hr_q 4 ?_
  simp only [st0, st1]
  refine hr_q 5 ?_
  simp only [st0, st1]
  refine hr_q 6 ?_
  simp only [st0, st1]
  refine hr_q 7 ?_
  simp only [st0, st1]
  refine hr_q 8 ?_
  simp only [st0, st1]
  refine hr_q 9 ?_
  simp only [st0, st1]
  refine hr_q 10 ?_
  simp only [st0, st1]
  refine hr_q 11 ?_
  simp only [st0, st1]
  refine hr_q 12 ?_
  simp only [st0, st1]
  refine hr_q 13 ?_
  simp only [st0, st1]
  refine hr_q 14 ?_
  simp only [st0, st1]
  refine hr_q 15 ?_
  simp only [st0, st1]
  refine hr_q 16 ?_
  simp only [st0, st1]
  refine hr_q 17 ?_
  simp only [st0, st1]
  refine hr_q 18 ?_
  simp only [st0, st1]
  refine hr_q 19 ?_
  simp only [st0, st1]
  refine hr_q 20 ?_
  simp only [st0, st1]
  refine hr_q 21 ?_
  simp only [st0, st1]
  refine hr_q 22 ?_
  simp only [st0, st1]
  refine hr_q 23 ?_
  simp only [st0, st1]
  refine hr_q 24 ?_
  simp only [st0, st1]
  refine hr_q 25 ?_
  simp only [st0, st1]
  refine hr_q 26 ?_
  simp only [st0, st1]
  refine hr_q 27 ?_
  simp only [st0, st1]
  refine hr_o 28 (fun K hK => ?_)
  (try go_simp)
  ((with_reducible refine (saner_c r _ (HOK0.out.below (by exact bcAll))).mono ?_); rintro e wq ⟨rfl, X2, d2, rfl⟩)
  (try go_wp2_with fail)
  refine hK.out _ _ ?_ (fun hHeld => ?_)
  · ((try dsimp only); go_simp)
  clear hK K
  simp only [st0, st1]
  refine hr_q 29 ?_
  simp only [st0, st1]
  refine hr_q 30 ?_
  simp only [st0, st1]
  refine hr_done (by kernel_rfl) ?_
  clear hHeld
  go_upto_region 3 with fail
  generalize hw1 : World.grow _ _ _ = w1
  have hb1 : Below w0.heap.size w0 w1 := by rw [← hw1]; exact bcAll
  clear hw1
  have HBB := Lib.hid hb1
  clear r0 rl q0 q1 q2 q3 qf ql z0 hne v0 vf hbw
  have hB1 := HB1.out.below hb1 HB1.out.lt
  have r0 := hB1.cell 0
  have rl := hB1.lt
  simp only [List.getElem?_toArray, List.getElem?_cons_zero] at r0
  clear hB1 hb1
  go_wp2_with fail
  refine (rows_c (.slice (some ⟨bx, ox, none⟩) n cap) n F _ (HX0.out.below HBB.out) hn1 (by omega)).mono ?_
  rintro e w3 ⟨g, c5, rfl, hc5, hgg, hg3, hog⟩
  have hb3 := HBB.out.trans (hg3.mono HBB.out.size)
  have hg0 : w0.heap.size ≤ g := Nat.le_trans HBB.out.size hgg
  obtain ⟨c0, c1, c2, c3⟩ := hog.at_ hy
  have hfz := hog.frozen
  have hgl := hog.lt
  have hB2 := HB2.out.below hb3 HB2.out.lt
  have hB3 := HBZ.out.below hb3 HBZ.out.lt
  clear r0 rl
  obtain ⟨q0, q1, q2, q3, qf, ql⟩ := hB2.facts4
  have HST := Lib.hid (fun w2 (hw : w2 = ((((w3.setCell ⟨g, y * 4, none⟩ (.slice r.A r.n r.cap)).setCell ⟨g, y * 4 + 1, none⟩ (.bool r.wb)).setCell ⟨g, y * 4 + 2, none⟩ (.int .i64 r.dir)).setCell ⟨g, y * 4 + 3, none⟩ (.bool r.ex))) => (show OwnG w2 g n (updG F y r) by rw [hw]; exact hog.store y hy r rfl))
  have HB3 := Lib.hid hb3
  have HBZ3 := Lib.hid hB3
  clear hb3 hg3 hB2 hB3
  go_upto_region 5 with fail
  generalize hw2 : World.setCell _ _ _ = w2
  have hg2 : w3.grownBy w2 (some g) := by rw [← hw2]; (exact gbAll)
  have ho2 := HST.out w2 hw2.symm
  clear hw2 HST q0 q1 q2 q3 qf ql c0 c1 c2 c3 hfz hog
  have hZ := HBZ3.out.gb hg2 (by intro e; injection e; omega)
  have y0 := hZ.cell 0
  have yf := hZ.frozen
  have yl := hZ.lt
  simp only [List.getElem?_toArray, List.getElem?_cons_zero] at y0
  have HZ := Lib.hid hZ
  have HO2 := Lib.hid ho2
  have hgl2 := ho2.lt
  have hbw3 := HBW.out.trans (HB3.out.mono HBW.out.size)
  have HB2_ : Hid (Below w.heap.size w w2) := below_gb hbw3 hg2 (by omega) hbw3.size
  clear hZ ho2 hg2 hbw3
  go_wp2_with fail
  generalize hwf : World.setCell w2 _ _ = wf
  have hg7 : w2.grownBy wf (some (w.heap.size + 2)) := by rw [← hwf]; (exact gbAll)
  have hz : Blk wf (w.heap.size + 2) 46 #[.slice (some ⟨g, 0, none⟩) n c5] := by rw [← hwf]; exact Blk.set_ HZ.out 0 _
  clear hwf
  have hogf : OwnG wf g n (updG F y r) := OwnG.gb (row := some (w.heap.size + 2)) HO2.out hg7 (by intro e; injection e; omega)
  have hbf : Below w.heap.size w wf := below_gb HB2_.out hg7 (by omega) HB2_.out.size
  have zz := hz.cell 0
  have zf := hz.frozen
  simp only [List.getElem?_toArray, List.getElem?_cons_zero] at zz
  refine bodyPost_ret (v := _) (by simp [results, Tryz.results75, go_sem, *]; try exact rfl) rfl ⟨g, c5, rfl, hbf, hc5, by omega, hogf.rdX hc5, fun r' hr' => ?_⟩
  obtain ⟨i, hi, rfl⟩ := listG_mem.1 hr'
  unfold updG
  split
  · exact HOK.out.below hbf
  · exact (HX.out.below hbf).2 _ (listG_mem.2 ⟨i, hi, rfl⟩)
end Go.Proofs.YtlchffkabpfjpaaGreat.Row
end
section
/- Contracts of grid's functions with their footprints; lapwinglaw09.awake. -/
namespace Go.Proofs.YtlchffkabpfjpaaGreat.Row
open Go.RowKit
/-- P, or made since -/
def since (P : Nat → Prop) (s : Nat) (b : Nat) : Prop := P b ∨ s ≤ b
theorem ft_mk {P : Nat → Prop} {x : Value} {n m g c : Nat} {F H : Nat → Rw} {s : Nat} (h : Ft P x (listG m F)) (hg : s ≤ g) (hH : ∀ i, i < n → (∃ j, j < m ∧ H i = F j) ∨ ∃ B, s ≤ B ∧ (H i).A = some ⟨B, 0, none⟩) : Ft (since P s) (.slice (some ⟨g, 0, none⟩) n c) (listG n H) := by
  refine ⟨fun _ b o c n e => ?_, fun r hr h0 b o e => ?_⟩
  · injection e with e
    injection e with e
    injection e with e
    exact .inr (e ▸ hg)
  · obtain ⟨i, hi, rfl⟩ := listG_mem.1 hr
    rcases hH i hi with ⟨j, hj, ej⟩ | ⟨B, hB, eB⟩
    · exact .inl (h.2 _ (listG_mem.2 ⟨j, hj, rfl⟩) (by rw [← ej]; exact h0) b o (by rw [← ej]; exact e))
    · rw [eB] at e
      injection e with e
      injection e with e
      exact .inr (e ▸ hB)
def UpF (x : Value) (n : Nat) (F : Nat → Rw) (t b q : Nat) (fg bg fl : Int) (w : World) (e : Ending) (w' : World) : Prop :=
  ∃ (g c : Nat) (v2 : Value) (B : Nat → Nat), e = .returned (.tuple #[.agg #[.slice (some ⟨g, 0, none⟩) n c], v2]) ∧ Below w.heap.size w w' ∧ n ≤ c ∧
      RdR w' (.slice (some ⟨g, 0, none⟩) n c) (listG n (layG (mvG F t q (b - t - q)) (b - q) q B (F 0).n fg bg fl)) ∧ RdR w' v2 (listG q (fun i => F (t + i))) ∧
      ∀ P, Ft P x (listG n F) → Ft (since P w.heap.size) (.slice (some ⟨g, 0, none⟩) n c) (listG n (layG (mvG F t q (b - t - q)) (b - q) q B (F 0).n fg bg fl)) ∧ Ft (since P w.heap.size) v2 (listG q (fun i => F (t + i)))
theorem up_f (x : Value) (n : Nat) (F : Nat → Rw) (t b q : Nat) (k fg bg fl : Int) (w : World) (hx : RdR w x (listG n F)) (hs : gsaneB (listG n F) = true) (hp : penB fg bg fl = true) (htb : t < b) (hbn : b ≤ n) (hq : (q : Int) = max 0 (min k ((b : Int) - t))) :
    Calls Tryz.prog 90 #[.agg #[x], .int .i64 t, .int .i64 b, .int .i64 k, .agg #[.int .i64 fg, .int .i64 bg, .int .i64 fl]] w (UpF x n F t b q fg bg fl w) := by
  refine (up_c x n F t b q k fg bg fl w hx hs hp htb hbn hq).mono ?_
  rintro e w' ⟨g, c, v2, B, rfl, h1, h2, h3, h4, h5, h6, h7⟩
  have hqb : t + q ≤ b := by omega
  refine ⟨g, c, v2, B, rfl, h1, h2, h4, h6, fun P hP => ⟨ft_mk hP h3 fun i hi => ?_, ⟨fun _ b o c n e => .inr (h7 b o n c e), fun r hr h0 b' o e => ?_⟩⟩⟩
  · unfold layG
    split
    · rename_i h
      exact .inr ⟨_, h5 _ (by omega), rfl⟩
    · left
      unfold mvG
      split
      · rename_i h
        exact ⟨_, by omega, rfl⟩
      · exact ⟨i, hi, rfl⟩
  · obtain ⟨i, hi, rfl⟩ := listG_mem.1 hr
    exact .inl (hP.2 _ (listG_mem.2 ⟨t + i, by omega, rfl⟩) h0 b' o e)
def DownF (x : Value) (n : Nat) (F : Nat → Rw) (t b q : Nat) (fg bg fl : Int) (w : World) (e : Ending) (w' : World) : Prop :=
  ∃ (g c : Nat) (B : Nat → Nat), e = .returned (.agg #[.slice (some ⟨g, 0, none⟩) n c]) ∧ Below w.heap.size w w' ∧ n ≤ c ∧
      RdR w' (.slice (some ⟨g, 0, none⟩) n c) (listG n (layG (mdG F t q (b - t - q)) t q B (F 0).n fg bg fl)) ∧
      ∀ P, Ft P x (listG n F) → Ft (since P w.heap.size) (.slice (some ⟨g, 0, none⟩) n c) (listG n (layG (mdG F t q (b - t - q)) t q B (F 0).n fg bg fl))
theorem down_f (x : Value) (n : Nat) (F : Nat → Rw) (t b q : Nat) (k fg bg fl : Int) (w : World) (hx : RdR w x (listG n F)) (hs : gsaneB (listG n F) = true) (hp : penB fg bg fl = true) (htb : t < b) (hbn : b ≤ n) (hq : (q : Int) = max 0 (min k ((b : Int) - t))) :
    Calls Tryz.prog 49 #[.agg #[x], .int .i64 t, .int .i64 b, .int .i64 k, .agg #[.int .i64 fg, .int .i64 bg, .int .i64 fl]] w (DownF x n F t b q fg bg fl w) := by
  refine (down_c x n F t b q k fg bg fl w hx hs hp htb hbn hq).mono ?_
  rintro e w' ⟨g, c, B, rfl, h1, h2, h3, h4, h5⟩
  have hqb : t + q ≤ b := by omega
  refine ⟨g, c, B, rfl, h1, h2, h4, fun P hP => ft_mk hP h3 fun i hi => ?_⟩
  unfold layG
  split
  · rename_i h
    exact .inr ⟨_, h5 _ (by omega), rfl⟩
  · left
    unfold mdG
    split
    · rename_i h
      exact ⟨_, by omega, rfl⟩
    · exact ⟨i, hi, rfl⟩
def ClearF (x : Value) (n : Nat) (F : Nat → Rw) (t q : Nat) (fg bg fl : Int) (w : World) (e : Ending) (w' : World) : Prop :=
  ∃ (g c : Nat) (B : Nat → Nat), e = .returned (.agg #[.slice (some ⟨g, 0, none⟩) n c]) ∧ Below w.heap.size w w' ∧ n ≤ c ∧
      RdR w' (.slice (some ⟨g, 0, none⟩) n c) (listG n (layG F t q B (F 0).n fg bg fl)) ∧
      ∀ P, Ft P x (listG n F) → Ft (since P w.heap.size) (.slice (some ⟨g, 0, none⟩) n c) (listG n (layG F t q B (F 0).n fg bg fl))
theorem clear_f (x : Value) (n : Nat) (F : Nat → Rw) (t q tz : Nat) (from_ to_ fg bg fl : Int) (w : World) (hx : RdR w x (listG n F)) (hs : gsaneB (listG n F) = true) (hp : penB fg bg fl = true) (hF : max 0 (min from_ n) = (t : Int)) (hT : max 0 (min to_ n) = (tz : Int)) (hq : t + q = max t tz) :
    Calls Tryz.prog 51 #[.agg #[x], .int .i64 from_, .int .i64 to_, .agg #[.int .i64 fg, .int .i64 bg, .int .i64 fl]] w (ClearF x n F t q fg bg fl w) := by
  refine (clear_c x n F t q tz from_ to_ fg bg fl w hx hs hp hF hT hq).mono ?_
  rintro e w' ⟨g, c, B, rfl, h1, h2, h3, h4, h5⟩
  refine ⟨g, c, B, rfl, h1, h2, h4, fun P hP => ft_mk hP h3 fun i hi => ?_⟩
  unfold layG
  split
  · rename_i h
    exact .inr ⟨_, h5 _ (by omega), rfl⟩
  · exact .inl ⟨i, hi, rfl⟩
def SetF (x : Value) (n : Nat) (F : Nat → Rw) (y : Nat) (r : Rw) (w : World) (e : Ending) (w' : World) : Prop :=
  ∃ (g c : Nat), e = .returned (.agg #[.slice (some ⟨g, 0, none⟩) n c]) ∧ Below w.heap.size w w' ∧ n ≤ c ∧ RdR w' (.slice (some ⟨g, 0, none⟩) n c) (listG n (updG F y r)) ∧
    ∀ P : Nat → Prop, Ft P x (listG n F) → (0 < r.n → ∀ b o, r.A = some ⟨b, o, none⟩ → P b) → Ft (since P w.heap.size) (.slice (some ⟨g, 0, none⟩) n c) (listG n (updG F y r))
theorem set_f (x : Value) (n : Nat) (F : Nat → Rw) (y : Nat) (r : Rw) (w : World) (hx : RdR w x (listG n F)) (hok : r.ok w) (hs : gsaneB (listG n F) = true) (hy : y < n) (hrn : r.n = (F 0).n) (hsr : saneRw r = true) :
    Calls Tryz.prog 75 #[.agg #[x], .int .i64 y, .agg #[.slice r.A r.n r.cap, .bool r.wb, .int .i64 r.dir, .bool r.ex]] w (SetF x n F y r w) := by
  refine (set_yes x n F y r w hx hok hs hy hrn hsr).mono ?_
  rintro e w' ⟨g, c, rfl, h1, h2, h3, h4⟩
  refine ⟨g, c, rfl, h1, h2, h4, fun P hP hr => ⟨fun _ b o c n e => ?_, fun s hs h0 b o e => ?_⟩⟩
  · injection e with e
    injection e with e
    injection e with e
    exact .inr (e ▸ h3)
  · obtain ⟨i, hi, rfl⟩ := listG_mem.1 hs
    left
    unfold updG at h0 e
    split at e
    · rename_i h
      rw [if_pos h] at h0
      exact hr h0 b o e
    · rename_i h
      rw [if_neg h] at h0
      exact hP.2 _ (listG_mem.2 ⟨i, hi, rfl⟩) h0 b o e
def GNewF (n q : Nat) (fg bg fl : Int) (w : World) (e : Ending) (w' : World) : Prop :=
  ∃ (g : Nat) (B : Nat → Nat), e = .returned (.agg #[.slice (some ⟨g, 0, none⟩) n n]) ∧ Below w.heap.size w w' ∧ RdR w' (.slice (some ⟨g, 0, none⟩) n n) (listG n (fun i => newRw (B i) q fg bg fl)) ∧ Ft (since (fun _ => False) w.heap.size) (.slice (some ⟨g, 0, none⟩) n n) (listG n (fun i => newRw (B i) q fg bg fl))
theorem gnew_f (h v : Int) (n q : Nat) (fg bg fl : Int) (w : World) (hn : max 1 (min h 1000) = (n : Int)) (hv : max 1 (min v 4096) = (q : Int)) :
    Calls Tryz.prog 31 #[.int .i64 h, .int .i64 v, .agg #[.int .i64 fg, .int .i64 bg, .int .i64 fl]] w (GNewF n q fg bg fl w) := by
  refine (gnew_c h v n q fg bg fl w hn hv).mono ?_
  rintro e w' ⟨g, B, rfl, h1, h3, h4, h5⟩
  exact ⟨g, B, rfl, h1, h4, ft_mk (P := fun _ => False) (x := .slice none 0 0) (m := 0) (F := fun i => newRw (B i) q fg bg fl) ⟨fun h => absurd h (by simp [listG_len]), fun r hr => absurd hr (by simp [listG])⟩ h3 fun i hi => .inr ⟨_, h5 i hi, rfl⟩⟩
end Go.Proofs.YtlchffkabpfjpaaGreat.Row
end
section
/- lapwinglaw09.awake. -/
namespace Go.Proofs.YtlchffkabpfjpaaGreat.Row
open Go.RowKit
def exF : Nat → Cl := fun i => if i = 0 then ⟨65, 0, 0, 1, 0, 0, 0⟩ else ⟨0, 0, 0, 1, 0, 0, 0⟩
def exRw (A : Option Addr) : Rw := ⟨A, 2, 2, exF, false, 0, false⟩
theorem new_saneRw (b q : Nat) (fg bg fl : Int) (h1 : 1 ≤ q) (h2 : q ≤ 4096) (hp : penB fg bg fl = true) : saneRw (newRw b q fg bg fl) = true := by
  show saneB q (fun _ => blank fg bg fl) 0 = true
  rw [sane_iff]
  refine ⟨h1, h2, by omega, by omega, fun i hi => ⟨fits_blank hp, ?_⟩⟩
  rw [lost_not]
  unfold blank
  simp
theorem gsane_of {n : Nat} {F : Nat → Rw} (m : Nat) (h1 : 1 ≤ n) (h2 : n ≤ 1000) (h : ∀ i, i < n → (F i).n = m ∧ saneRw (F i) = true) : gsaneB (listG n F) = true := by
  rw [gsane_iff, listG_len]
  have hw : wd (listG n F) = m := by
    rw [← wd_get (by rw [listG_len]; omega), listG_at]
    exact (h 0 (by omega)).1
  refine ⟨h1, h2, fun r hr => ?_⟩
  obtain ⟨i, hi, rfl⟩ := listG_mem.1 hr
  rw [hw]
  exact h i hi
end Go.Proofs.YtlchffkabpfjpaaGreat.Row
end
section
/- Walk of history.Take. -/
namespace Go.Proofs.YtlchffkabpfjpaaGreat.Row
open Go.RowKit
end Go.Proofs.YtlchffkabpfjpaaGreat.Row
end
section
/- Walk of lapwingref08.Sane. -/
namespace Go.Proofs.YtlchffkabpfjpaaGreat.Row
open Go.RowKit
end Go.Proofs.YtlchffkabpfjpaaGreat.Row
end
section
/- Walk of lapwinglaw10.HistoryTakes. -/
namespace Go.Proofs.YtlchffkabpfjpaaGreat.Row
open Go.RowKit
attribute [local go_sem] Nat.add_assoc Nat.add_pos_iff_pos_or_pos lt_add_r2 le_add_r2
end Go.Proofs.YtlchffkabpfjpaaGreat.Row
end
section
/- GridSets where it has nothing to say; grid.Set whatever the row. -/
namespace Go.Proofs.YtlchffkabpfjpaaGreat.Row
open Go.RowKit
def setG (F : Nat → Rw) (k : Nat) (r : Rw) : Nat → Rw := if r.n = (F 0).n ∧ saneRw r = true then updG F k r else F
def SetAny (n : Nat) (F : Nat → Rw) (y : Nat) (r : Rw) (w : World) (e : Ending) (w' : World) : Prop :=
  ∃ (A : Option Addr) (c : Nat), e = .returned (.agg #[.slice A n c]) ∧ Below w.heap.size w w' ∧ n ≤ c ∧ RdR w' (.slice A n c) (listG n (setG F y r))
attribute [local go_sem] Nat.add_assoc Nat.add_pos_iff_pos_or_pos lt_add_r2 le_add_r2
end Go.Proofs.YtlchffkabpfjpaaGreat.Row
end
