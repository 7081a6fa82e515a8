/- lapwinglaw09.awake. -/
import Derived.Test.YtpnadnjcacaibaaGridJ
namespace Go.Proofs.Ytpnadnjcacaibaa.Row
open Go.RowKit
def exF : Nat → Cl := fun i => if i = 0 then ⟨65, 0, 0, 1, 0, 0, 0⟩ else ⟨0, 0, 0, 1, 0, 0, 0⟩
def exRw (A : Option Addr) : Rw := ⟨A, 2, 2, exF, false, 0, false⟩
theorem new_saneRw (b q : Nat) (fg bg fl : Int) (h1 : 1 ≤ q) (h2 : q ≤ 4096) (hp : penB fg bg fl = true) : saneRw (newRw b q fg bg fl) = true := by
  show saneB q (fun _ => blank fg bg fl) 0 = true
  rw [sane_iff]
  refine ⟨h1, h2, by omega, by omega, fun i hi => ⟨fits_blank hp, ?_⟩⟩
  rw [lost_not]
  unfold blank
  simp
theorem ex_sane (A : Option Addr) : saneRw (exRw A) = true := by
  show saneB 2 exF 0 = true
  rw [sane_iff]
  refine ⟨by omega, by omega, by omega, by omega, fun i hi => ?_⟩
  have h : i = 0 ∨ i = 1 := by omega
  rcases h with rfl | rfl <;> (rw [fits_iff, lost_not]; simp [exF]; try decide)
theorem gsane_of {n : Nat} {F : Nat → Rw} (m : Nat) (h1 : 1 ≤ n) (h2 : n ≤ 1000) (h : ∀ i, i < n → (F i).n = m ∧ saneRw (F i) = true) : gsaneB (listG n F) = true := by
  rw [gsane_iff, listG_len]
  have hw : wd (listG n F) = m := by
    rw [← wd_get (by rw [listG_len]; omega), listG_at]
    exact (h 0 (by omega)).1
  refine ⟨h1, h2, fun r hr => ?_⟩
  obtain ⟨i, hi, rfl⟩ := listG_mem.1 hr
  rw [hw]
  exact h i hi
theorem new_gsane (n q : Nat) (fg bg fl : Int) (B : Nat → Nat) (h1 : 1 ≤ n) (h2 : n ≤ 1000) (h3 : 1 ≤ q) (h4 : q ≤ 4096) (hp : penB fg bg fl = true) : gsaneB (listG n (fun i => newRw (B i) q fg bg fl)) = true :=
  gsane_of q h1 h2 fun _ _ => ⟨rfl, new_saneRw _ _ _ _ _ h3 h4 hp⟩
theorem up_gsane {n : Nat} {F : Nat → Rw} {t b q : Nat} {fg bg fl : Int} {B : Nat → Nat} (h : gsaneB (listG n F) = true) (hqb : t + q ≤ b) (hbn : b ≤ n) (hp : penB fg bg fl = true) : gsaneB (listG n (layG (mvG F t q (b - t - q)) (b - q) q B (F 0).n fg bg fl)) = true := by
  obtain ⟨h1, h2, h3⟩ := gsane_wd h
  obtain ⟨z1, z2, -⟩ := sane_iff.1 (h3 0 (by omega)).2
  refine gsane_of (F 0).n h1 h2 fun i hi => ?_
  unfold layG
  split
  · exact ⟨rfl, new_saneRw _ _ _ _ _ z1 z2 hp⟩
  · unfold mvG
    split
    · exact h3 _ (by omega)
    · exact h3 _ hi
set_option maxRecDepth 100000 in
set_option maxHeartbeats 4000000 in
theorem awake9_c (w : World) : Calls Try.prog 37 #[] w fun e w' => e = .returned (.bool true) ∧ Grew w w' := by
  go_enter Try.func37, Try.ntmps37
  go_wp2_with fail
  refine (gnew_f 3 2 3 2 0 0 0 _ (by decide) (by decide)).mono ?_
  rintro e w1 ⟨g1, B1, rfl, hg1, hr1, -⟩
  go_upto_region 2 with fail
  generalize hw2 : w1.alloc _ = w2
  have hg2 : Below w1.heap.size w1 w2 := by rw [← hw2]; (repeat (first | (with_reducible exact Below.refl _ _) | (with_reducible assumption) | (with_reducible refine Below.grow ?_ ?_ _ _) | (with_reducible refine Below.drewN' ?_ _) | (with_reducible refine Below.drew ?_) | (with_reducible refine Below.alloc ?_ ?_ _) | (with_reducible refine Below.setCell ?_ ?_ _) | omega | (focus (simp; done)) | (focus (simp; omega))))
  have hB2 : Blk w2 w1.heap.size 60 #[.slice (some ⟨g1, 0, none⟩) 3 3] := by rw [← hw2]; exact Blk.new _ _ _
  clear hw2
  have hb2 := hg1.trans (hg2.mono hg1.size)
  have HB2 := Lib.hid hB2
  have HR2 := Lib.hid (hr1.below hg2)
  have hl2 := hB2.lt
  clear hg1 hg2 hr1 hB2
  go_upto_region 3 with fail
  generalize hw3 : (w2.alloc _).alloc _ = w3
  have hg3 : Below w2.heap.size w2 w3 := by rw [← hw3]; (repeat (first | (with_reducible exact Below.refl _ _) | (with_reducible assumption) | (with_reducible refine Below.grow ?_ ?_ _ _) | (with_reducible refine Below.drewN' ?_ _) | (with_reducible refine Below.drew ?_) | (with_reducible refine Below.alloc ?_ ?_ _) | (with_reducible refine Below.setCell ?_ ?_ _) | omega | (focus (simp; done)) | (focus (simp; omega))))
  have hB3 : Blk w3 (w2.heap.size + 1) 24 #[.slice (some ⟨w2.heap.size, 0, none⟩) 2 2, .bool false, .int .i64 0, .bool false] := by rw [← hw3]; exact Blk.new_at (by simp)
  have hr3 : Rd w3 (some ⟨w2.heap.size, 0, none⟩) 2 exF := fun _ => ⟨w2.heap.size, 0, rfl, by rw [← hw3]; simp; omega, fun i hi => by
    have h : i = 0 ∨ i = 1 := by omega
    rw [← hw3]
    rcases h with rfl | rfl
    · refine ⟨?_, ?_, ?_, ?_, ?_, ?_, ?_⟩ <;> simp [go_sem, exF]
    · refine ⟨?_, ?_, ?_, ?_, ?_, ?_, ?_⟩ <;> simp [go_sem, exF]⟩
  clear hw3
  have hB2 := HB2.out.below hg3 HB2.out.lt
  have hb3 := hb2.trans (hg3.mono hb2.size)
  have HR3 := Lib.hid (HR2.out.below hg3)
  have r0 := hB2.cell 0
  have rl := hB2.lt
  simp only [List.getElem?_toArray, List.getElem?_cons_zero] at r0
  obtain ⟨q0, q1, q2, q3, qf, ql⟩ := hB3.facts4
  have HRR := Lib.hid hr3
  clear hB2 hB3 hb2 hg3 hr3
  go_wp2_with fail
  refine (set_f (.slice (some ⟨g1, 0, none⟩) 3 3) 3 _ 0 (exRw (some ⟨w2.heap.size, 0, none⟩)) _ HR3.out ⟨HRR.out, Nat.le_refl _, show (2 : Nat) ≤ 5000 by decide⟩ (new_gsane 3 2 0 0 0 B1 (by decide) (by decide) (by decide) (by decide) (by decide)) (by decide) rfl (ex_sane _)).mono ?_
  rintro e w4 ⟨g4, c4, rfl, hg4, hc4, hr4, -⟩
  have hb4 := hb3.trans (hg4.mono hb3.size)
  clear r0 rl q0 q1 q2 q3 qf ql hb3 hg4
  have hs4 : gsaneB (listG 3 (updG (fun i => newRw (B1 i) 2 0 0 0) 0 (exRw (some ⟨w2.heap.size, 0, none⟩)))) = true := gsane_of 2 (by decide) (by decide) fun i _ => by
    unfold updG
    split
    · exact ⟨rfl, ex_sane _⟩
    · exact ⟨rfl, new_saneRw _ _ _ _ _ (by decide) (by decide) (by decide)⟩
  have h40 : updG (fun i => newRw (B1 i) 2 0 0 0) 0 (exRw (some ⟨w2.heap.size, 0, none⟩)) 0 = exRw (some ⟨w2.heap.size, 0, none⟩) := rfl
  have HS4 := Lib.hid hs4
  have H40 := Lib.hid h40
  have HR4 := Lib.hid hr4
  clear hs4 h40 hr4 HR2 HR3 HB2 hl2
  generalize updG (fun i => newRw (B1 i) 2 0 0 0) 0 (exRw (some ⟨w2.heap.size, 0, none⟩)) = F4 at *
  go_wp2_with fail
  refine (up_f (.slice (some ⟨g4, 0, none⟩) 3 c4) 3 F4 0 3 1 1 0 2 0 _ HR4.out HS4.out (by decide) (by decide) (by decide) (by decide)).mono ?_
  rintro e w5 ⟨g5, c5, v5, B5, rfl, hg5, hc5, hr5, hv5, -⟩
  have hb5 := hb4.trans (hg5.mono hb4.size)
  have hs5 : gsaneB (listG 3 (layG (mvG F4 0 1 (3 - 0 - 1)) (3 - 1) 1 B5 (F4 0).n 0 2 0)) = true := up_gsane HS4.out (by decide) (by decide) (by decide)
  have h52 : layG (mvG F4 0 1 (3 - 0 - 1)) (3 - 1) 1 B5 (F4 0).n 0 2 0 2 = newRw (B5 0) 2 0 2 0 := by
    rw [H40.out]
    rfl
  have h50 : (layG (mvG F4 0 1 (3 - 0 - 1)) (3 - 1) 1 B5 (F4 0).n 0 2 0 0).n = 2 := by
    have := ((gsane_wd HS4.out).2.2 1 (by decide)).1
    rw [H40.out] at this
    exact this
  obtain ⟨A5, c6, rfl, -⟩ := hv5.1.len
  rw [listG_len] at hv5 ⊢
  have HS5 := Lib.hid hs5
  have H52 := Lib.hid h52
  have H50 := Lib.hid h50
  have HR5 := Lib.hid hr5
  have HV5 := Lib.hid hv5
  clear hs5 h52 h50 hr5 hv5 hg5 hb4
  generalize layG (mvG F4 0 1 (3 - 0 - 1)) (3 - 1) 1 B5 (F4 0).n 0 2 0 = F5 at *
  go_upto_region 4 with fail
  generalize hw6 : w5.alloc _ = w6
  have hg6 : Below w5.heap.size w5 w6 := by rw [← hw6]; (repeat (first | (with_reducible exact Below.refl _ _) | (with_reducible assumption) | (with_reducible refine Below.grow ?_ ?_ _ _) | (with_reducible refine Below.drewN' ?_ _) | (with_reducible refine Below.drew ?_) | (with_reducible refine Below.alloc ?_ ?_ _) | (with_reducible refine Below.setCell ?_ ?_ _) | omega | (focus (simp; done)) | (focus (simp; omega))))
  have hB6 : Blk w6 w5.heap.size 60 #[.slice (some ⟨g5, 0, none⟩) 3 c5] := by rw [← hw6]; exact Blk.new _ _ _
  clear hw6
  have hb6 := hb5.trans (hg6.mono hb5.size)
  have HB6 := Lib.hid hB6
  have HR6 := Lib.hid (HR5.out.below hg6)
  have HV6 := Lib.hid (HV5.out.below hg6)
  have r0 := hB6.cell 0
  have rl := hB6.lt
  simp only [List.getElem?_toArray, List.getElem?_cons_zero] at r0
  clear hg6 hB6 hb5 HR5 HV5 HR4
  go_wp2_with fail
  refine (size_c (.slice (some ⟨g5, 0, none⟩) 3 c5) 3 F5 _ HR6.out HS5.out).mono ?_
  rintro e w7 ⟨rfl, hg7⟩
  replace hg7 := hg7.below
  have hb7 := hb6.trans (hg7.mono hb6.size)
  rw [H50.out]
  have HB7 := Lib.hid (HB6.out.below hg7 HB6.out.lt)
  have HR7 := Lib.hid (HR6.out.below hg7)
  have HV7 := Lib.hid (HV6.out.below hg7)
  clear r0 rl hg7 hb6 HB6 HR6 HV6
  have r0 := HB7.out.cell 0
  have rl := HB7.out.lt
  simp only [List.getElem?_toArray, List.getElem?_cons_zero] at r0
  obtain ⟨bx, ox, rfl, hbxl, hatx, hokx⟩ := HV7.out.at_ (k := 0) (by rw [listG_len]; decide)
  rw [listG_at] at hatx hokx
  rw [show F4 (0 + 0) = exRw (some ⟨w2.heap.size, 0, none⟩) from H40.out] at hatx hokx
  obtain ⟨x0, -, -, -⟩ := hatx
  obtain ⟨x1, -⟩ := hokx
  obtain ⟨bx2, ox2, ex2, hbx2l, hx2⟩ := x1 (show 0 < 2 by decide)
  injection ex2 with ex2
  injection ex2 with ex2 ex3
  subst ex2 ex3
  obtain ⟨y0, -, -, -, -, -, -⟩ := hx2 0 (show 0 < 2 by decide)
  obtain ⟨bz, oz, ez, hbzl, hatz, hokz⟩ := HR7.out.at_ (k := 2) (by rw [listG_len]; decide)
  injection ez with ez
  injection ez with ez1 ez2
  subst ez1 ez2
  rw [listG_at] at hatz hokz
  rw [H52.out] at hatz hokz
  obtain ⟨z0, -, -, -⟩ := hatz
  obtain ⟨z1, -⟩ := hokz
  obtain ⟨bz2, oz2, ez2, hbz2l, hz2⟩ := z1 (show 0 < 2 by decide)
  injection ez2 with ez2
  injection ez2 with ez2 ez3
  subst ez2 ez3
  obtain ⟨-, -, -, -, -, u5, -⟩ := hz2 0 (show 0 < 2 by decide)
  simp only [Nat.zero_mul, Nat.zero_add, Nat.add_zero, exRw, newRw, exF, blank] at x0 y0 z0 u5
  clear hbxl hbx2l hbz2l hbzl x1 z1 hx2 hz2
  go_wp2_with fail
  refine (gsane_c (.slice (some ⟨g5, 0, none⟩) 3 c5) (listG 3 F5) _ HR7.out (by rw [listG_len]; decide)).mono ?_
  rintro e w8 ⟨rfl, hg8⟩
  replace hg8 := hg8.below
  have hb8 := hb7.trans (hg8.mono hb7.size)
  rw [HS5.out]
  clear hg8 hb7
  go_wp2_with fail
  go_ret
  exact ⟨rfl, Below.toGrow hb8⟩
end Go.Proofs.Ytpnadnjcacaibaa.Row
