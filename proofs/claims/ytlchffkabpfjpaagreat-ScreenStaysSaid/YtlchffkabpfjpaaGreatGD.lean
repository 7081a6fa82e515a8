/- Joined: GridH RefA RefB GridI. -/
import Derived.Test.YtlchffkabpfjpaaGreatGC
import Derived.Test.YtlchffkabpfjpaaGreatGA
import Derived.Deep.CutRange
section
/- Walks of grid.New, Size; lapwingref08.blanks, New. -/
namespace Go.Proofs.YtlchffkabpfjpaaGreat.Row
open Go.RowKit
def zeroRw : Rw := ⟨none, 0, 0, fun _ => ⟨0, 0, 0, 0, 0, 0, 0⟩, false, 0, false⟩
theorem ownG_zero (w : World) (n : Nat) (C : Array Value) (hC : C.size = n * 4) (hCc : ∀ j, j < n * 4 → C[j]? = (Value.agg #[.slice none 0 0, .bool false, .int .i64 0, .bool false]).cells[j % 4]?) : OwnG (w.alloc (.cells C 64)) w.heap.size n (fun _ => zeroRw) := by
  refine ⟨n * 4, fun _ => undef, Nat.le_refl _, ?_⟩
  have h := World.rowIs_alloc w C 64 (rwF (fun _ => zeroRw)) (fun i hi => by
    rw [hC] at hi
    rw [hCc i hi]
    unfold rwF
    have hm : i % 4 < 4 := Nat.mod_lt _ (by omega)
    generalize i % 4 = j at hm
    match j, hm with
    | 0, _ => rfl
    | 1, _ => rfl
    | 2, _ => rfl
    | 3, _ => rfl)
  rw [hC] at h
  exact World.rowIs.congr h fun i hi => by rw [if_pos hi]
def GNewPost (n q : Nat) (fg bg fl : Int) (w : World) (e : Ending) (w' : World) : Prop :=
  ∃ (g : Nat) (B : Nat → Nat), e = .returned (.agg #[.slice (some ⟨g, 0, none⟩) n n]) ∧ Below w.heap.size w w' ∧ w.heap.size ≤ g ∧ RdR w' (.slice (some ⟨g, 0, none⟩) n n) (listG n (fun i => newRw (B i) q fg bg fl)) ∧ ∀ j, j < n → w.heap.size ≤ B j
set_option maxRecDepth 100000 in
set_option maxHeartbeats 4000000 in
theorem gnew_c1 (h v : Int) (n q : Nat) (fg bg fl : Int) (w : World) (hn : max 1 (min h 1000) = (n : Int)) (hv : max 1 (min v 4096) = (q : Int)) (hh : h ≤ 1) :
    Calls Tryz.prog 31 #[.int .i64 h, .int .i64 v, .agg #[.int .i64 fg, .int .i64 bg, .int .i64 fl]] w (GNewPost n q fg bg fl w) := by
  have hn1 : 1 ≤ n ∧ n ≤ 1000 := by omega
  have hq1 : 1 ≤ q ∧ q ≤ 4096 := by omega
  have HQ1 := Lib.hid hq1
  have HV := Lib.hid hv
  obtain ⟨C, hC, hCc, hmk⟩ := run_make_rows (P := Tryz.prog) 22 64 _ 4 48 Tryz.underlying22 rowInfo rfl (by omega) n (by omega) (by omega)
  have HCs := Lib.hid hC
  have HCc := Lib.hid hCc
  have key : ∀ wz, OwnG wz (w.heap.size + 1 + 1) n (fun _ => zeroRw) → _ := fun wz ho => layg_c (w.heap.size + 1 + 1) 0 n n n 0 (fun _ => zeroRw) v q fg bg fl wz ho rfl (by omega) (by omega) HV.out
  clear hC hCc hv hq1
  obtain rfl : n = 1 := by omega
  have h2 : ¬ 1 < h := by omega
  have h3 : ¬ 1000 < h := by omega
  clear hn hn1
  simp only [show ((1 : Nat) : Int) = 1 from rfl] at hmk key
  · skip
    go_enter Tryz.func31, Tryz.ntmps31
    go_wp2_with fail
    generalize hw0 : ((w.alloc _).alloc _).alloc _ = w0
    have hbw : Below w.heap.size w w0 := by rw [← hw0]; exact bcAll
    have hB1 : Blk w0 w.heap.size 26 #[.int .i64 fg, .int .i64 bg, .int .i64 fl] := by rw [← hw0]; exact ((Blk.new _ _ _).alloc _).alloc _
    have hB2 : Blk w0 (w.heap.size + 1) 46 #[.slice none 0 0] := by rw [← hw0]; exact (Blk.new_at (by simp)).alloc _
    have hog : OwnG w0 (w.heap.size + 1 + 1) 1 (fun _ => zeroRw) := by
      rw [← hw0]
      have := ownG_zero ((w.alloc (.cells #[.int .i64 fg, .int .i64 bg, .int .i64 fl] 26)).alloc (.cells #[.slice none 0 0] 46)) 1 C HCs.out HCc.out
      exact Eq.mp (congrArg (fun b => OwnG _ b _ _) (by simp)) this
    clear hw0
    have hl2 := hB2.lt
    refine (key w0 hog).mono ?_
    rintro e w6 ⟨rfl, hg6, B, hog6, hB6⟩
    have hZ6 := hB2.gb hg6 (by intro e; injection e; omega)
    have hb6 := below_gb hbw hg6 (by omega) hbw.size
    have HB6 := Lib.hid hb6
    have HO6 := Lib.hid hog6
    have HBQ : Hid (∀ j, j < 1 → w.heap.size + 1 < B j ∧ Rd w6 (some ⟨B j, 0, none⟩) q (fun _ => blank fg bg fl)) := fun j hj => by
      obtain ⟨h1, h2⟩ := hB6 j hj
      have h1 : w0.heap.size ≤ B j := h1
      exact ⟨by omega, h2⟩
    have HG6 := Lib.hid hg6
    clear hg6 hog6 hB6 hbw hB1 hB2 hog hb6
    have HZ6 := Lib.hid hZ6
    have y9' := hZ6.cell 0
    have yf9' := hZ6.frozen
    have yl9' := hZ6.lt
    simp only [List.getElem?_toArray, List.getElem?_cons_zero] at y9'
    clear hZ6
    go_wp2_with fail
    generalize hwf : World.setCell w6 _ _ = wf
    have hg7 : w6.grownBy wf (some (w.heap.size + 1)) := by rw [← hwf]; (exact gbAll)
    have hz : Blk wf (w.heap.size + 1) 46 #[.slice (some ⟨w.heap.size + 1 + 1, 0, none⟩) 1 1] := by rw [← hwf]; exact Blk.set_ HZ6.out 0 _
    clear hwf
    have hogf : OwnG wf (w.heap.size + 1 + 1) 1 (layG (fun _ => zeroRw) 0 1 B q fg bg fl) := OwnG.gb (row := some (w.heap.size + 1)) HO6.out hg7 (by intro e; injection e; omega)
    have hbf : Below w.heap.size w wf := below_gb HB6.out hg7 (by omega) HB6.out.size
    have zz := hz.cell 0
    have zf := hz.frozen
    simp only [List.getElem?_toArray, List.getElem?_cons_zero] at zz
    refine bodyPost_ret (v := _) (by simp [results, Tryz.results31, go_sem, *]; try exact rfl) rfl ⟨w.heap.size + 1 + 1, B, rfl, hbf, by omega, ⟨(hogf.congr fun i hi => by unfold layG; rw [if_pos (by omega), Nat.sub_zero]).rdX (Nat.le_refl _), fun r hr => ?_⟩, fun j hj => ?_⟩
    · obtain ⟨i, hi, rfl⟩ := listG_mem.1 hr
      obtain ⟨hb1, hb2⟩ := HBQ.out i hi
      exact ⟨hb2.gb hg7 (by omega), Nat.le_refl _, by show q ≤ 5000; have := HQ1.out; omega⟩
    · have := (HBQ.out j hj).1
      omega

set_option maxRecDepth 100000 in
set_option maxHeartbeats 4000000 in
theorem gnew_c2 (h v : Int) (n q : Nat) (fg bg fl : Int) (w : World) (hn : max 1 (min h 1000) = (n : Int)) (hv : max 1 (min v 4096) = (q : Int)) (hh : 1 < h) (hh2 : h ≤ 1000) :
    Calls Tryz.prog 31 #[.int .i64 h, .int .i64 v, .agg #[.int .i64 fg, .int .i64 bg, .int .i64 fl]] w (GNewPost n q fg bg fl w) := by
  have hn1 : 1 ≤ n ∧ n ≤ 1000 := by omega
  have hq1 : 1 ≤ q ∧ q ≤ 4096 := by omega
  have HQ1 := Lib.hid hq1
  have HV := Lib.hid hv
  obtain ⟨C, hC, hCc, hmk⟩ := run_make_rows (P := Tryz.prog) 22 64 _ 4 48 Tryz.underlying22 rowInfo rfl (by omega) n (by omega) (by omega)
  have HCs := Lib.hid hC
  have HCc := Lib.hid hCc
  have key : ∀ wz, OwnG wz (w.heap.size + 1 + 1) n (fun _ => zeroRw) → _ := fun wz ho => layg_c (w.heap.size + 1 + 1) 0 n n n 0 (fun _ => zeroRw) v q fg bg fl wz ho rfl (by omega) (by omega) HV.out
  clear hC hCc hv hq1
  obtain rfl : h = (n : Int) := by omega
  have h3 : ¬ 1000 < n := by omega
  have h4 : 1 < n := by omega
  clear hn hn1 hh hh2
  · skip
    go_enter Tryz.func31, Tryz.ntmps31
    go_wp2_with fail
    generalize hw0 : ((w.alloc _).alloc _).alloc _ = w0
    have hbw : Below w.heap.size w w0 := by rw [← hw0]; exact bcAll
    have hB1 : Blk w0 w.heap.size 26 #[.int .i64 fg, .int .i64 bg, .int .i64 fl] := by rw [← hw0]; exact ((Blk.new _ _ _).alloc _).alloc _
    have hB2 : Blk w0 (w.heap.size + 1) 46 #[.slice none 0 0] := by rw [← hw0]; exact (Blk.new_at (by simp)).alloc _
    have hog : OwnG w0 (w.heap.size + 1 + 1) n (fun _ => zeroRw) := by
      rw [← hw0]
      have := ownG_zero ((w.alloc (.cells #[.int .i64 fg, .int .i64 bg, .int .i64 fl] 26)).alloc (.cells #[.slice none 0 0] 46)) n C HCs.out HCc.out
      exact Eq.mp (congrArg (fun b => OwnG _ b _ _) (by simp)) this
    clear hw0
    have hl2 := hB2.lt
    refine (key w0 hog).mono ?_
    rintro e w6 ⟨rfl, hg6, B, hog6, hB6⟩
    have hZ6 := hB2.gb hg6 (by intro e; injection e; omega)
    have hb6 := below_gb hbw hg6 (by omega) hbw.size
    have HB6 := Lib.hid hb6
    have HO6 := Lib.hid hog6
    have HBQ : Hid (∀ j, j < n → w.heap.size + 1 < B j ∧ Rd w6 (some ⟨B j, 0, none⟩) q (fun _ => blank fg bg fl)) := fun j hj => by
      obtain ⟨h1, h2⟩ := hB6 j hj
      have h1 : w0.heap.size ≤ B j := h1
      exact ⟨by omega, h2⟩
    have HG6 := Lib.hid hg6
    clear hg6 hog6 hB6 hbw hB1 hB2 hog hb6
    have HZ6 := Lib.hid hZ6
    have y9' := hZ6.cell 0
    have yf9' := hZ6.frozen
    have yl9' := hZ6.lt
    simp only [List.getElem?_toArray, List.getElem?_cons_zero] at y9'
    clear hZ6
    go_wp2_with fail
    generalize hwf : World.setCell w6 _ _ = wf
    have hg7 : w6.grownBy wf (some (w.heap.size + 1)) := by rw [← hwf]; (exact gbAll)
    have hz : Blk wf (w.heap.size + 1) 46 #[.slice (some ⟨w.heap.size + 1 + 1, 0, none⟩) n n] := by rw [← hwf]; exact Blk.set_ HZ6.out 0 _
    clear hwf
    have hogf : OwnG wf (w.heap.size + 1 + 1) n (layG (fun _ => zeroRw) 0 n B q fg bg fl) := OwnG.gb (row := some (w.heap.size + 1)) HO6.out hg7 (by intro e; injection e; omega)
    have hbf : Below w.heap.size w wf := below_gb HB6.out hg7 (by omega) HB6.out.size
    have zz := hz.cell 0
    have zf := hz.frozen
    simp only [List.getElem?_toArray, List.getElem?_cons_zero] at zz
    refine bodyPost_ret (v := _) (by simp [results, Tryz.results31, go_sem, *]; try exact rfl) rfl ⟨w.heap.size + 1 + 1, B, rfl, hbf, by omega, ⟨(hogf.congr fun i hi => by unfold layG; rw [if_pos (by omega), Nat.sub_zero]).rdX (Nat.le_refl _), fun r hr => ?_⟩, fun j hj => ?_⟩
    · obtain ⟨i, hi, rfl⟩ := listG_mem.1 hr
      obtain ⟨hb1, hb2⟩ := HBQ.out i hi
      exact ⟨hb2.gb hg7 (by omega), Nat.le_refl _, by show q ≤ 5000; have := HQ1.out; omega⟩
    · have := (HBQ.out j hj).1
      omega

set_option maxRecDepth 100000 in
set_option maxHeartbeats 4000000 in
theorem gnew_c3 (h v : Int) (n q : Nat) (fg bg fl : Int) (w : World) (hn : max 1 (min h 1000) = (n : Int)) (hv : max 1 (min v 4096) = (q : Int)) (hh : 1000 < h) :
    Calls Tryz.prog 31 #[.int .i64 h, .int .i64 v, .agg #[.int .i64 fg, .int .i64 bg, .int .i64 fl]] w (GNewPost n q fg bg fl w) := by
  have hn1 : 1 ≤ n ∧ n ≤ 1000 := by omega
  have hq1 : 1 ≤ q ∧ q ≤ 4096 := by omega
  have HQ1 := Lib.hid hq1
  have HV := Lib.hid hv
  obtain ⟨C, hC, hCc, hmk⟩ := run_make_rows (P := Tryz.prog) 22 64 _ 4 48 Tryz.underlying22 rowInfo rfl (by omega) n (by omega) (by omega)
  have HCs := Lib.hid hC
  have HCc := Lib.hid hCc
  have key : ∀ wz, OwnG wz (w.heap.size + 1 + 1) n (fun _ => zeroRw) → _ := fun wz ho => layg_c (w.heap.size + 1 + 1) 0 n n n 0 (fun _ => zeroRw) v q fg bg fl wz ho rfl (by omega) (by omega) HV.out
  clear hC hCc hv hq1
  obtain rfl : n = 1000 := by omega
  have h2 : ¬ h < 1000 := by omega
  clear hn hn1
  simp only [show ((1000 : Nat) : Int) = 1000 from rfl] at hmk key
  · skip
    go_enter Tryz.func31, Tryz.ntmps31
    go_wp2_with fail
    generalize hw0 : ((w.alloc _).alloc _).alloc _ = w0
    have hbw : Below w.heap.size w w0 := by rw [← hw0]; exact bcAll
    have hB1 : Blk w0 w.heap.size 26 #[.int .i64 fg, .int .i64 bg, .int .i64 fl] := by rw [← hw0]; exact ((Blk.new _ _ _).alloc _).alloc _
    have hB2 : Blk w0 (w.heap.size + 1) 46 #[.slice none 0 0] := by rw [← hw0]; exact (Blk.new_at (by simp)).alloc _
    have hog : OwnG w0 (w.heap.size + 1 + 1) 1000 (fun _ => zeroRw) := by
      rw [← hw0]
      have := ownG_zero ((w.alloc (.cells #[.int .i64 fg, .int .i64 bg, .int .i64 fl] 26)).alloc (.cells #[.slice none 0 0] 46)) 1000 C HCs.out HCc.out
      exact Eq.mp (congrArg (fun b => OwnG _ b _ _) (by simp)) this
    clear hw0
    have hl2 := hB2.lt
    refine (key w0 hog).mono ?_
    rintro e w6 ⟨rfl, hg6, B, hog6, hB6⟩
    have hZ6 := hB2.gb hg6 (by intro e; injection e; omega)
    have hb6 := below_gb hbw hg6 (by omega) hbw.size
    have HB6 := Lib.hid hb6
    have HO6 := Lib.hid hog6
    have HBQ : Hid (∀ j, j < 1000 → w.heap.size + 1 < B j ∧ Rd w6 (some ⟨B j, 0, none⟩) q (fun _ => blank fg bg fl)) := fun j hj => by
      obtain ⟨h1, h2⟩ := hB6 j hj
      have h1 : w0.heap.size ≤ B j := h1
      exact ⟨by omega, h2⟩
    have HG6 := Lib.hid hg6
    clear hg6 hog6 hB6 hbw hB1 hB2 hog hb6
    have HZ6 := Lib.hid hZ6
    have y9' := hZ6.cell 0
    have yf9' := hZ6.frozen
    have yl9' := hZ6.lt
    simp only [List.getElem?_toArray, List.getElem?_cons_zero] at y9'
    clear hZ6
    go_wp2_with fail
    generalize hwf : World.setCell w6 _ _ = wf
    have hg7 : w6.grownBy wf (some (w.heap.size + 1)) := by rw [← hwf]; (exact gbAll)
    have hz : Blk wf (w.heap.size + 1) 46 #[.slice (some ⟨w.heap.size + 1 + 1, 0, none⟩) 1000 1000] := by rw [← hwf]; exact Blk.set_ HZ6.out 0 _
    clear hwf
    have hogf : OwnG wf (w.heap.size + 1 + 1) 1000 (layG (fun _ => zeroRw) 0 1000 B q fg bg fl) := OwnG.gb (row := some (w.heap.size + 1)) HO6.out hg7 (by intro e; injection e; omega)
    have hbf : Below w.heap.size w wf := below_gb HB6.out hg7 (by omega) HB6.out.size
    have zz := hz.cell 0
    have zf := hz.frozen
    simp only [List.getElem?_toArray, List.getElem?_cons_zero] at zz
    refine bodyPost_ret (v := _) (by simp [results, Tryz.results31, go_sem, *]; try exact rfl) rfl ⟨w.heap.size + 1 + 1, B, rfl, hbf, by omega, ⟨(hogf.congr fun i hi => by unfold layG; rw [if_pos (by omega), Nat.sub_zero]).rdX (Nat.le_refl _), fun r hr => ?_⟩, fun j hj => ?_⟩
    · obtain ⟨i, hi, rfl⟩ := listG_mem.1 hr
      obtain ⟨hb1, hb2⟩ := HBQ.out i hi
      exact ⟨hb2.gb hg7 (by omega), Nat.le_refl _, by show q ≤ 5000; have := HQ1.out; omega⟩
    · have := (HBQ.out j hj).1
      omega

theorem gnew_c (h v : Int) (n q : Nat) (fg bg fl : Int) (w : World) (hn : max 1 (min h 1000) = (n : Int)) (hv : max 1 (min v 4096) = (q : Int)) :
    Calls Tryz.prog 31 #[.int .i64 h, .int .i64 v, .agg #[.int .i64 fg, .int .i64 bg, .int .i64 fl]] w (GNewPost n q fg bg fl w) := by
  by_cases h1 : h ≤ 1
  · exact gnew_c1 h v n q fg bg fl w hn hv h1
  · by_cases h2 : h ≤ 1000
    · exact gnew_c2 h v n q fg bg fl w hn hv (by omega) h2
    · exact gnew_c3 h v n q fg bg fl w hn hv (by omega)
set_option maxRecDepth 100000 in
set_option maxHeartbeats 2000000 in
theorem size_c (x : Value) (n : Nat) (F : Nat → Rw) (w : World) (hx : RdR w x (listG n F)) (hs : gsaneB (listG n F) = true) :
    Calls Tryz.prog 16 #[.agg #[x]] w fun e w' => e = .returned (.tuple #[.int .i64 n, .int .i64 (F 0).n]) ∧ Grew w w' := by
  obtain ⟨A, cap, rfl, hc⟩ := hx.1.len
  obtain ⟨hn1, hn2, hrows⟩ := gsane_wd hs
  have HLL : Hid ((listG n F).length ≤ 5000) := by show _ ≤ _; rw [listG_len]; omega
  rw [listG_len] at hc hx ⊢
  have HX := Lib.hid hx
  have hpos : 0 < n := by omega
  clear hx hrows
  go_enter Tryz.func16, Tryz.ntmps16
  go_wp2_with fail
  generalize hw0 : w.alloc _ = w0
  have hbw : Below w.heap.size w w0 := by rw [← hw0]; exact bcAll
  have hB1 : Blk w0 w.heap.size 46 #[.slice A n cap] := by rw [← hw0]; exact Blk.new _ _ _
  clear hw0
  refine (gsane_c (.slice A n cap) (listG n F) _ (HX.out.below hbw) HLL.out).mono ?_
  rintro e w1 ⟨rfl, hg⟩
  replace hg := hg.below
  replace hbw := hbw.trans (hg.mono hbw.size)
  have hB1' := hB1.below hg hB1.lt
  have r0 := hB1'.cell 0
  have rl := hB1'.lt
  simp only [List.getElem?_toArray, List.getElem?_cons_zero] at r0
  have h0l : 0 < (listG n F).length := by rw [listG_len]; omega
  obtain ⟨bx, ox, rfl, hbxz, hat, -⟩ := (HX.out.below hbw).at_ h0l
  rw [listG_at, Nat.zero_mul, Nat.add_zero] at hat
  obtain ⟨z0, -, -, -⟩ := hat
  clear hB1 hB1' h0l hg
  go_wp2_with fail
  go_quiet (fail)
  go_wp2_with fail
  go_ret2
  exact ⟨rfl, (Below.toGrow (by exact bcAll))⟩
end Go.Proofs.YtlchffkabpfjpaaGreat.Row
end
section
/- Walks of the document's small functions for a pen and a cell: lapwingref07.Parts, Sane; lapwingref08.letter, one, Blank, with. -/
namespace Go.Proofs.YtlchffkabpfjpaaGreat.Row
open Go.RowKit
def PartsYes (w : World) (e : Ending) (w' : World) : Prop := ∃ p a b d : Int, e = .returned (.tuple #[.int .i64 p, .int .i64 a, .int .i64 b, .int .i64 d]) ∧ (p != 3) = true ∧ w = w'
end Go.Proofs.YtlchffkabpfjpaaGreat.Row
end
section
/- Walks of lapwingref08.Mend, Sane. -/
namespace Go.Proofs.YtlchffkabpfjpaaGreat.Row
open Go.RowKit
/-- a cell as an element of a list -/
def Cl.cells (c : Cl) : List Value := [.int .i64 c.r, .int .i64 c.m0, .int .i64 c.m1, .int .i64 c.w, .int .i64 c.fg, .int .i64 c.bg, .int .i64 c.fl]
def encC : Enc Cl := ⟨7, Cl.cells, fun _ => rfl, by decide, fun a u hu => by
  simp [Cl.cells] at hu
  rcases hu with rfl | rfl | rfl | rfl | rfl | rfl | rfl <;> rfl⟩
theorem cellAt_ofX {w : World} {b o : Nat} {c : Cl} (h : AtX encC w b o c) : CellAt w b o c := ⟨h 0 _ rfl, h 1 _ rfl, h 2 _ rfl, h 3 _ rfl, h 4 _ rfl, h 5 _ rfl, h 6 _ rfl⟩
theorem cellAt_toX {w : World} {b o : Nat} {c : Cl} (h : CellAt w b o c) : AtX encC w b o c := by
  obtain ⟨h0, h1, h2, h3, h4, h5, h6⟩ := h
  intro i u hi
  match i, hi with
  | 0, hi => obtain rfl := Option.some.inj hi; exact h0
  | 1, hi => obtain rfl := Option.some.inj hi; exact h1
  | 2, hi => obtain rfl := Option.some.inj hi; exact h2
  | 3, hi => obtain rfl := Option.some.inj hi; exact h3
  | 4, hi => obtain rfl := Option.some.inj hi; exact h4
  | 5, hi => obtain rfl := Option.some.inj hi; exact h5
  | 6, hi => obtain rfl := Option.some.inj hi; exact h6
/-- n cells by a function, as a list -/
def listF (n : Nat) (f : Nat → Cl) : List Cl := (List.range n).map f
theorem listF_len (n : Nat) (f : Nat → Cl) : (listF n f).length = n := by simp [listF]
theorem listF_get {n : Nat} {f : Nat → Cl} {i : Nat} (hi : i < n) : (listF n f)[i]? = some (f i) := by simp [listF, List.getElem?_range hi]
theorem rd_toX {w : World} {A : Option Addr} {n c : Nat} {f : Nat → Cl} (h : Rd w A n f) (hc : n ≤ c) : RdX encC w (.slice A n c) (listF n f) := by
  refine ⟨A, c, by rw [listF_len], by rw [listF_len]; exact hc, fun hn => ?_⟩
  rw [listF_len] at hn
  obtain ⟨b, o, rfl, hb, hat⟩ := h hn
  refine ⟨b, o, rfl, hb, fun j a ha => ?_⟩
  have hj : j < n := by have := (List.getElem?_eq_some_iff.1 ha).1; rwa [listF_len] at this
  rw [listF_get hj] at ha
  obtain rfl := Option.some.inj ha
  exact cellAt_toX (hat j hj)
theorem rd_ofX {w : World} {A : Option Addr} {n c : Nat} {L : List Cl} {f : Nat → Cl} (h : RdX encC w (.slice A n c) L) (hn : n = L.length) (hf : ∀ i, i < n → L[i]? = some (f i)) : Rd w A n f := fun h0 => by
  subst hn
  obtain ⟨b, o, rfl, hb, _⟩ := h.at_ (hf 0 h0)
  exact ⟨b, o, rfl, hb, fun i hi => cellAt_ofX (h.at' (hf i hi))⟩
theorem cell_parts : ∃ i, Tryz.prog.info? 67 = some i ∧ i.zero = some (.agg #[.int .i64 0, .int .i64 0, .int .i64 0, .int .i64 0, .int .i64 0, .int .i64 0, .int .i64 0]) ∧ i.size = 7 ∧ i.bytes = 56 := by
  have h : (Tryz.prog.info? 67).map (fun i => (i.zero, i.size, i.bytes)) = some (some (.agg #[.int .i64 0, .int .i64 0, .int .i64 0, .int .i64 0, .int .i64 0, .int .i64 0, .int .i64 0]), 7, 56) := by kernel_rfl
  obtain ⟨i, hi, hzz⟩ := Option.map_eq_some_iff.1 h
  simp only [Prod.mk.injEq] at hzz
  exact ⟨i, hi, hzz⟩

/-- block b begins with n cells that read as f, and all of it is known -/
def OwnS (w : World) (b n : Nat) (f : Nat → Cl) : Prop := ∃ (N : Nat) (tail : Nat → Value), n * 7 ≤ N ∧ w.rowIs b 67 N (fun j => if j < n * 7 then valF f j else tail j)
section
variable {w w' : World} {b n : Nat} {f g : Nat → Cl}
theorem OwnS.lt (h : OwnS w b n f) : b < w.heap.size := by
  obtain ⟨N, tail, _, h⟩ := h
  exact World.rowIs.lt h
theorem OwnS.at_ (h : OwnS w b n f) {i : Nat} (hi : i < n) : CellAt w b (i * 7) (f i) := by
  obtain ⟨N, tail, hN, h⟩ := h
  exact cellAt_of fun j hj => (World.rowIs.cell h (by omega)).trans (by rw [if_pos (by omega), valF_at f i j hj])
theorem OwnS.frozen (h : OwnS w b n f) (i : Nat) : w.frozen? ⟨b, i, none⟩ = false := by
  obtain ⟨N, tail, _, h⟩ := h
  exact World.rowIs.frozen h i
theorem OwnS.congr (h : OwnS w b n f) (e : ∀ i, i < n → f i = g i) : OwnS w b n g := by
  obtain ⟨N, tail, hN, h⟩ := h
  refine ⟨N, tail, hN, World.rowIs.congr h fun i hi => ?_⟩
  by_cases hi' : i < n * 7
  · rw [if_pos hi', if_pos hi']
    unfold valF
    rw [e (i / 7) (by omega)]
  · rw [if_neg hi', if_neg hi']
theorem OwnS.grow (h : OwnS w b n f) (X : Array Obj) (d : Nat) : OwnS (w.grow X d) b n f := by
  obtain ⟨N, tail, hN, h⟩ := h
  exact ⟨N, tail, hN, rowIs_grow h X d⟩
end
end Go.Proofs.YtlchffkabpfjpaaGreat.Row
end
section
/- Walks of lapwingref08.blanks, New. -/
namespace Go.Proofs.YtlchffkabpfjpaaGreat.Row
open Go.RowKit
theorem blk_set4 {w : World} {g : Nat} {t : TypeId} {a b c d u v x y : Value} (h : Blk w g t #[a, b, c, d]) : Blk ((((w.setCell ⟨g, 0, none⟩ u).setCell ⟨g, 1, none⟩ v).setCell ⟨g, 2, none⟩ x).setCell ⟨g, 3, none⟩ y) g t #[u, v, x, y] := (((h.set_ 0 u).set_ 1 v).set_ 2 x).set_ 3 y
end Go.Proofs.YtlchffkabpfjpaaGreat.Row
end
