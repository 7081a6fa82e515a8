/- Walks of lapwingref08.blanks, New. -/
import Derived.Test.YtpnadnjcacaibaaGridH
import Derived.Test.YtpnadnjcacaibaaRefB
namespace Go.Proofs.Ytpnadnjcacaibaa.Row
open Go.RowKit
theorem listF_succ (n : Nat) (f : Nat → Cl) : listF (n + 1) f = listF n f ++ [f n] := by
  unfold listF
  rw [List.range_succ, List.map_append]
  rfl
theorem blk_set4 {w : World} {g : Nat} {t : TypeId} {a b c d u v x y : Value} (h : Blk w g t #[a, b, c, d]) : Blk ((((w.setCell ⟨g, 0, none⟩ u).setCell ⟨g, 1, none⟩ v).setCell ⟨g, 2, none⟩ x).setCell ⟨g, 3, none⟩ y) g t #[u, v, x, y] := (((h.set_ 0 u).set_ 1 v).set_ 2 x).set_ 3 y
set_option maxRecDepth 100000 in
set_option maxHeartbeats 4000000 in
theorem blanks_c (n : Nat) (fg bg fl : Int) (w : World) (h1 : 1 ≤ n) (h2 : n ≤ 4096) :
    Calls Try.prog 73 #[.int .i64 n, .agg #[.int .i64 fg, .int .i64 bg, .int .i64 fl]] w fun e w' => ∃ (g c : Nat), e = .returned (.slice (some ⟨g, 0, none⟩) n c) ∧ n ≤ c ∧ w.heap.size ≤ g ∧ Below w.heap.size w w' ∧ Rd w' (some ⟨g, 0, none⟩) n (fun _ => blank fg bg fl) := by
  obtain ⟨i3, hi3, hz3, hs3, hb3⟩ := cell_parts
  have HI3 := Lib.hid hi3
  have HZ3 := Lib.hid hz3
  have HS3 := Lib.hid hs3
  have HB3 := Lib.hid hb3
  clear hi3 hz3 hs3 hb3
  go_enter Try.func73, Try.ntmps73
  go_wp2_with fail
  generalize hw0 : w.alloc _ = w0
  have hbw : Below w.heap.size w w0 := by rw [← hw0]; (repeat (first | (with_reducible exact Below.refl _ _) | (with_reducible assumption) | (with_reducible refine Below.grow ?_ ?_ _ _) | (with_reducible refine Below.drewN' ?_ _) | (with_reducible refine Below.drew ?_) | (with_reducible refine Below.alloc ?_ ?_ _) | (with_reducible refine Below.setCell ?_ ?_ _) | omega | (focus (simp; done)) | (focus (simp; omega))))
  have hB1 : Blk w0 w.heap.size 27 #[.int .i64 fg, .int .i64 bg, .int .i64 fl] := by rw [← hw0]; exact Blk.new _ _ _
  clear hw0
  have HB1 := Lib.hid hB1
  have hw0s : w.heap.size < w0.heap.size := hB1.lt
  clear hB1
  go_loopw [5, 6] (fun v i wz => ∃ k : Nat, k ≤ n ∧ i = .int .i64 k ∧ OwnX encC wz w0.heap.size 29 v (listF k (fun _ => blank fg bg fl)) ∧ Below w0.heap.size w0 wz) (fun _ i _ => n - (intOf i).toNat)
  case atStart => exact ⟨0, Nat.zero_le _, rfl, OwnX.nil _ _ _, Below.refl _ _⟩
  case round =>
    obtain ⟨k, hk, rfl, hv, hb⟩ := hrel
    by_cases hlt : k < n
    · have hltI : (k : Int) < n := by omega
      have HV := Lib.hid hv
      have HB := Lib.hid hb
      obtain ⟨r0, r1, r2, rf, rl⟩ := (HB1.out.below hb HB1.out.lt).facts3
      clear hv hb
      go_wp2_with (first
        | (go_at_call 78; refine (blank8_c _ _ _ _).mono ?_; rintro e w1 ⟨rfl, X1, d1, rfl⟩)
        | (at_builtin; go_loud (refine wpList_append_X encC rfl _ _ _ rfl w0.heap.size 29 56 i3 _ rfl HI3.out HZ3.out HS3.out HB3.out rfl _ _ (listF k (fun _ => blank fg bg fl)) [blank fg bg fl] rfl rfl ((HV.out.below ((Below.refl wr.heap.size wr).grow (Nat.le_refl _) X1 d1) (Nat.le_refl _)).alloc _) (rdX_one (E := encC) _ _ _ _ _ rfl (by simp)) (by unfold maxLen; rw [listF_len]; simp only [List.length_cons, List.length_nil]; omega) (by rw [listF_len]; simp only [List.length_cons, List.length_nil]; omega) (by rw [World.size_alloc]; exact Nat.le_succ_of_le (HB.out.grow HB.out.size X1 d1).size) ?_; intro v4 w4 hv4 hgb hor)))
      have hbx := HB.out.grow HB.out.size X1 d1
      have hb4 := below_ownx (hbx.alloc hbx.size (.cells (blank fg bg fl).cells.toArray 29)) hgb (fun g hg => (HV.out.lt hg).1) (by rw [World.size_alloc]; exact Nat.le_succ_of_le hbx.size)
      clear hgb hor hbx
      go_roundw
      case rel => exact ⟨k + 1, by omega, by go_num, by rw [listF_succ]; exact hv4, hb4⟩
      case measure => simp [intOf]; omega
    · obtain rfl : k = n := by omega
      have HB := Lib.hid hb
      obtain ⟨g, c5, rfl⟩ : ∃ g c5, u5 = .slice (some ⟨g, 0, none⟩) k c5 := by
        have hv' := hv
        unfold OwnX World.ownsRow at hv'
        obtain ⟨_, ⟨e, h0⟩ | ⟨g', cap', cur, e, _⟩⟩ := hv'
        · rw [listF_len] at h0
          omega
        · rw [listF_len] at e
          exact ⟨g', cap', e⟩
      have HC5 : Hid (k ≤ c5) := by
        obtain ⟨_, _, e, hc⟩ := hv.rd.len
        injection e with _ e1 e2
        rw [listF_len] at hc
        show _ ≤ _
        omega
      have hgl := (hv.lt (g := g) rfl).1
      have HV := Lib.hid hv
      clear hv hb
      go_wp2_with fail
      go_ret
      exact ⟨g, c5, rfl, HC5.out, by omega, hbw.trans (HB.out.mono hbw.size), rd_ofX HV.out.rd (by rw [listF_len]) (fun i hi => listF_get hi)⟩
set_option maxRecDepth 100000 in
set_option maxHeartbeats 4000000 in
theorem new8_c (v : Int) (q : Nat) (fg bg fl : Int) (w : World) (hv : max 1 (min v 4096) = (q : Int)) :
    Calls Try.prog 40 #[.int .i64 v, .agg #[.int .i64 fg, .int .i64 bg, .int .i64 fl]] w fun e w' => ∃ r : Rw, e = .returned (.agg #[.slice r.A r.n r.cap, .bool r.wb, .int .i64 r.dir, .bool r.ex]) ∧ Below w.heap.size w w' ∧ r.ok w' ∧ r.n = q ∧ r.f = (fun _ => blank fg bg fl) ∧ r.wb = false ∧ r.dir = 0 ∧ r.ex = false := by
  have hq1 : 1 ≤ q ∧ q ≤ 4096 := by omega
  have key := fun wz => blanks_c q fg bg fl wz hq1.1 hq1.2
  have hcases : (v ≤ 1 ∧ q = 1) ∨ (1 < v ∧ v ≤ 4096 ∧ v = (q : Int)) ∨ (4096 < v ∧ q = 4096) := by omega
  clear hv hq1
  rcases hcases with ⟨h1, rfl⟩ | ⟨h1, h2, rfl⟩ | ⟨h1, rfl⟩
  · have h2 : ¬ 1 < v := by omega
    have h3 : ¬ 4096 < v := by omega
    simp only [show ((1 : Nat) : Int) = 1 from rfl] at key
    go_enter Try.func40, Try.ntmps40
    go_wp2_with fail
    generalize hw0 : (w.alloc _).alloc _ = w0
    have hbw : Below w.heap.size w w0 := by rw [← hw0]; (repeat (first | (with_reducible exact Below.refl _ _) | (with_reducible assumption) | (with_reducible refine Below.grow ?_ ?_ _ _) | (with_reducible refine Below.drewN' ?_ _) | (with_reducible refine Below.drew ?_) | (with_reducible refine Below.alloc ?_ ?_ _) | (with_reducible refine Below.setCell ?_ ?_ _) | omega | (focus (simp; done)) | (focus (simp; omega))))
    have hB2 : Blk w0 (w.heap.size + 1) 24 #[.slice none 0 0, .bool false, .int .i64 0, .bool false] := by rw [← hw0]; exact Blk.new_at (by simp)
    clear hw0
    refine (key w0).mono ?_
    rintro e w6 ⟨g, c, rfl, hc, hg0, hb, hrd⟩
    have HZ6 := Lib.hid (hB2.below hb hB2.lt)
    have hl2 := hB2.lt
    have HBW := Lib.hid (hbw.trans (hb.mono hbw.size))
    have HRD := Lib.hid hrd
    obtain ⟨z0, z1, z2, z3, zf, zl⟩ := HZ6.out.facts4
    clear hbw hB2 hb hrd
    go_wp2_with fail
    generalize hwf : World.setCell (World.setCell (World.setCell (World.setCell w6 _ _) _ _) _ _) _ _ = wf
    have hg7 : w6.grownBy wf (some (w.heap.size + 1)) := by rw [← hwf]; (repeat (first | (with_reducible exact World.grownBy.refl _ _) | (with_reducible assumption) | (with_reducible refine gb_grow ?_ _ _) | (with_reducible refine gb_drewN ?_ _) | (with_reducible refine gb_drew ?_) | (with_reducible refine gb_alloc ?_ _) | (with_reducible refine gb_setCell ?_ ?_ _) | (focus (left; rfl)) | (focus (right; simp; done)) | (focus (right; simp; omega)) | (focus (right; omega))))
    have hz : Blk wf (w.heap.size + 1) 24 #[.slice (some ⟨g, 0, none⟩) 1 c, .bool false, .int .i64 0, .bool false] := by rw [← hwf]; exact blk_set4 HZ6.out
    clear hwf
    obtain ⟨y0, y1, y2, y3, yf, yl⟩ := hz.facts4
    refine bodyPost_ret (v := _) (by simp [results, Try.results40, go_sem, *]; try exact rfl) rfl ⟨⟨some ⟨g, 0, none⟩, 1, c, fun _ => blank fg bg fl, false, 0, false⟩, rfl, below_gb HBW.out hg7 (by omega) HBW.out.size, ⟨HRD.out.gb hg7 (by omega), hc, by show 1 ≤ 5000; omega⟩, rfl, rfl, rfl, rfl, rfl⟩
  · have h3 : ¬ 4096 < q := by omega
    have h4 : 1 < q := by omega
    go_enter Try.func40, Try.ntmps40
    go_wp2_with fail
    generalize hw0 : (w.alloc _).alloc _ = w0
    have hbw : Below w.heap.size w w0 := by rw [← hw0]; (repeat (first | (with_reducible exact Below.refl _ _) | (with_reducible assumption) | (with_reducible refine Below.grow ?_ ?_ _ _) | (with_reducible refine Below.drewN' ?_ _) | (with_reducible refine Below.drew ?_) | (with_reducible refine Below.alloc ?_ ?_ _) | (with_reducible refine Below.setCell ?_ ?_ _) | omega | (focus (simp; done)) | (focus (simp; omega))))
    have hB2 : Blk w0 (w.heap.size + 1) 24 #[.slice none 0 0, .bool false, .int .i64 0, .bool false] := by rw [← hw0]; exact Blk.new_at (by simp)
    clear hw0
    refine (key w0).mono ?_
    rintro e w6 ⟨g, c, rfl, hc, hg0, hb, hrd⟩
    have HZ6 := Lib.hid (hB2.below hb hB2.lt)
    have hl2 := hB2.lt
    have HBW := Lib.hid (hbw.trans (hb.mono hbw.size))
    have HRD := Lib.hid hrd
    obtain ⟨z0, z1, z2, z3, zf, zl⟩ := HZ6.out.facts4
    clear hbw hB2 hb hrd
    go_wp2_with fail
    generalize hwf : World.setCell (World.setCell (World.setCell (World.setCell w6 _ _) _ _) _ _) _ _ = wf
    have hg7 : w6.grownBy wf (some (w.heap.size + 1)) := by rw [← hwf]; (repeat (first | (with_reducible exact World.grownBy.refl _ _) | (with_reducible assumption) | (with_reducible refine gb_grow ?_ _ _) | (with_reducible refine gb_drewN ?_ _) | (with_reducible refine gb_drew ?_) | (with_reducible refine gb_alloc ?_ _) | (with_reducible refine gb_setCell ?_ ?_ _) | (focus (left; rfl)) | (focus (right; simp; done)) | (focus (right; simp; omega)) | (focus (right; omega))))
    have hz : Blk wf (w.heap.size + 1) 24 #[.slice (some ⟨g, 0, none⟩) q c, .bool false, .int .i64 0, .bool false] := by rw [← hwf]; exact blk_set4 HZ6.out
    clear hwf
    obtain ⟨y0, y1, y2, y3, yf, yl⟩ := hz.facts4
    refine bodyPost_ret (v := _) (by simp [results, Try.results40, go_sem, *]; try exact rfl) rfl ⟨⟨some ⟨g, 0, none⟩, q, c, fun _ => blank fg bg fl, false, 0, false⟩, rfl, below_gb HBW.out hg7 (by omega) HBW.out.size, ⟨HRD.out.gb hg7 (by omega), hc, by show q ≤ 5000; omega⟩, rfl, rfl, rfl, rfl, rfl⟩
  · have h2 : ¬ v < 4096 := by omega
    simp only [show ((4096 : Nat) : Int) = 4096 from rfl] at key
    go_enter Try.func40, Try.ntmps40
    go_wp2_with fail
    generalize hw0 : (w.alloc _).alloc _ = w0
    have hbw : Below w.heap.size w w0 := by rw [← hw0]; (repeat (first | (with_reducible exact Below.refl _ _) | (with_reducible assumption) | (with_reducible refine Below.grow ?_ ?_ _ _) | (with_reducible refine Below.drewN' ?_ _) | (with_reducible refine Below.drew ?_) | (with_reducible refine Below.alloc ?_ ?_ _) | (with_reducible refine Below.setCell ?_ ?_ _) | omega | (focus (simp; done)) | (focus (simp; omega))))
    have hB2 : Blk w0 (w.heap.size + 1) 24 #[.slice none 0 0, .bool false, .int .i64 0, .bool false] := by rw [← hw0]; exact Blk.new_at (by simp)
    clear hw0
    refine (key w0).mono ?_
    rintro e w6 ⟨g, c, rfl, hc, hg0, hb, hrd⟩
    have HZ6 := Lib.hid (hB2.below hb hB2.lt)
    have hl2 := hB2.lt
    have HBW := Lib.hid (hbw.trans (hb.mono hbw.size))
    have HRD := Lib.hid hrd
    obtain ⟨z0, z1, z2, z3, zf, zl⟩ := HZ6.out.facts4
    clear hbw hB2 hb hrd
    go_wp2_with fail
    generalize hwf : World.setCell (World.setCell (World.setCell (World.setCell w6 _ _) _ _) _ _) _ _ = wf
    have hg7 : w6.grownBy wf (some (w.heap.size + 1)) := by rw [← hwf]; (repeat (first | (with_reducible exact World.grownBy.refl _ _) | (with_reducible assumption) | (with_reducible refine gb_grow ?_ _ _) | (with_reducible refine gb_drewN ?_ _) | (with_reducible refine gb_drew ?_) | (with_reducible refine gb_alloc ?_ _) | (with_reducible refine gb_setCell ?_ ?_ _) | (focus (left; rfl)) | (focus (right; simp; done)) | (focus (right; simp; omega)) | (focus (right; omega))))
    have hz : Blk wf (w.heap.size + 1) 24 #[.slice (some ⟨g, 0, none⟩) 4096 c, .bool false, .int .i64 0, .bool false] := by rw [← hwf]; exact blk_set4 HZ6.out
    clear hwf
    obtain ⟨y0, y1, y2, y3, yf, yl⟩ := hz.facts4
    refine bodyPost_ret (v := _) (by simp [results, Try.results40, go_sem, *]; try exact rfl) rfl ⟨⟨some ⟨g, 0, none⟩, 4096, c, fun _ => blank fg bg fl, false, 0, false⟩, rfl, below_gb HBW.out hg7 (by omega) HBW.out.size, ⟨HRD.out.gb hg7 (by omega), hc, by show 4096 ≤ 5000; omega⟩, rfl, rfl, rfl, rfl, rfl⟩
end Go.Proofs.Ytpnadnjcacaibaa.Row
