/- Joined: GridD GridE GridG. -/
import Derived.Test.YtlchffkabpfjpaaGreatGB
import Derived.Deep.CutRange
section
/- Walk of grid.Up. -/
namespace Go.Proofs.YtlchffkabpfjpaaGreat.Row
open Go.RowKit
/-- j rows from t on are those q further -/
def mvG (F : Nat → Rw) (t q j i : Nat) : Rw := if t ≤ i ∧ i < t + j then F (i + q) else F i
theorem gsane_wd {n : Nat} {F : Nat → Rw} (h : gsaneB (listG n F) = true) : 1 ≤ n ∧ n ≤ 1000 ∧ ∀ i, i < n → (F i).n = (F 0).n ∧ saneRw (F i) = true := by
  obtain ⟨h1, h2, h3⟩ := gsane_iff.1 h
  rw [listG_len] at h1 h2
  refine ⟨h1, h2, fun i hi => ?_⟩
  have hw : wd (listG n F) = (F 0).n := by
    rw [← wd_get (by rw [listG_len]; omega), listG_at]
  have := h3 (F i) (listG_mem.2 ⟨i, hi, rfl⟩)
  rw [hw] at this
  exact this
theorem listG_snoc (j : Nat) (F : Nat → Rw) : listG (j + 1) F = listG j F ++ [F j] := by
  unfold listG
  rw [List.range_succ, List.map_append]
  rfl
theorem slice2_at {P : Program} (ty e size : TypeId) (hu : P.underlying ty = some (.slice e)) (hsz : (P.info? e).map (·.size) = some size) (g o N c lo hi m : Nat) (h1 : lo ≤ hi) (h2 : hi ≤ c) (h3 : lo < c) (hm : m = hi - lo) (w : World) :
    (Instr.slice ty (.slice (some ⟨g, o, none⟩) N c) (some (.int .i64 (lo : Int))) (some (.int .i64 (hi : Int))) none).run P w = .ok (.slice (some ⟨g, o + lo * size, none⟩) m (c - lo)) w := by
  subst hm
  obtain ⟨i, hi', hs⟩ := Option.map_eq_some_iff.1 hsz
  have l1 : (0 : Int) ≤ (hi : Int) ∧ (hi : Int) ≤ (c : Int) := by omega
  have l2 : (0 : Int) ≤ (lo : Int) ∧ (lo : Int) ≤ (hi : Int) := by omega
  have l3 : ¬ c = lo := by omega
  simp [Instr.slice, run_underlying hu, Instr.sliceBounds, Instr.sliceBound, asIntOf, l1, l2, l3, sizeOf, typeInfo, hi', hs, h1, h2, addr_add]
theorem OwnG.drewd {w : World} {b n : Nat} {F : Nat → Rw} (h : OwnG w b n F) : OwnG w.drew b n F := h
theorem cell_gb {w w' : World} {g b i : Nat} (hg : w.grownBy w' (some g)) (hb : b < w.heap.size) (hne : b ≠ g) : w'.cell? ⟨b, i, none⟩ = w.cell? ⟨b, i, none⟩ := by
  unfold World.cell?
  rw [hg.block b hb (by intro e; injection e with e; exact hne e)]
def UpPost (n : Nat) (F : Nat → Rw) (t b q : Nat) (fg bg fl : Int) (w : World) (e : Ending) (w' : World) : Prop :=
  ∃ g c v2 B, e = .returned (.tuple #[.agg #[.slice (some ⟨g, 0, none⟩) n c], v2]) ∧ Below w.heap.size w w' ∧ n ≤ c ∧ w.heap.size ≤ g ∧
      RdR w' (.slice (some ⟨g, 0, none⟩) n c) (listG n (layG (mvG F t q (b - t - q)) (b - q) q B (F 0).n fg bg fl)) ∧ (∀ j, j < q → w.heap.size ≤ B j) ∧ RdR w' v2 (listG q (fun i => F (t + i))) ∧ (∀ b o n c, v2 = .slice (some ⟨b, o, none⟩) n c → w.heap.size ≤ b)
set_option maxRecDepth 100000 in
set_option maxHeartbeats 4000000 in
theorem up_c (x : Value) (n : Nat) (F : Nat → Rw) (t b q : Nat) (k fg bg fl : Int) (w : World) (hx : RdR w x (listG n F)) (hs : gsaneB (listG n F) = true) (hp : penB fg bg fl = true) (htb : t < b) (hbn : b ≤ n) (hq : (q : Int) = max 0 (min k ((b : Int) - t))) :
    Calls Tryz.prog 90 #[.agg #[x], .int .i64 t, .int .i64 b, .int .i64 k, .agg #[.int .i64 fg, .int .i64 bg, .int .i64 fl]] w (UpPost n F t b q fg bg fl w) := by
  obtain ⟨A, cap, rfl, hc⟩ := hx.1.len
  obtain ⟨hn1, hn2, hrows⟩ := gsane_wd hs
  have HRO := Lib.hid hrows
  obtain ⟨i3, hi3, hz3, hs3, hb3⟩ := row_parts
  have HI3 := Lib.hid hi3
  have HZ3 := Lib.hid hz3
  have HS3 := Lib.hid hs3
  have HB3_ := Lib.hid hb3
  have HLL : Hid ((listG n F).length ≤ 5000) := by show _ ≤ _; rw [listG_len]; omega
  have hmv : movesB (listG n F) t b fg bg fl = true := by
    unfold movesB
    rw [hs, hp, listG_len]
    simp
    omega
  rw [listG_len] at hc hx ⊢
  have HX := Lib.hid hx
  have HQ := Lib.hid hq
  have hqb : t + q ≤ b := by omega
  clear hi3 hz3 hs3 hb3 hx hq hrows
  go_enter Tryz.func90, Tryz.ntmps90
  go_wp2_with fail
  generalize hw0 : ((w.alloc _).alloc _).alloc _ = w0
  have hbw : Below w.heap.size w w0 := by rw [← hw0]; exact bcAll
  have hB1 : Blk w0 w.heap.size 46 #[.slice A n cap] := by rw [← hw0]; exact ((Blk.new _ _ _).alloc _).alloc _
  have hB2 : Blk w0 (w.heap.size + 1) 26 #[.int .i64 fg, .int .i64 bg, .int .i64 fl] := by rw [← hw0]; exact (Blk.new_at (by simp)).alloc _
  have hB3 : Blk w0 (w.heap.size + 2) 46 #[.slice none 0 0] := by rw [← hw0]; exact Blk.new_at (by simp)
  clear hw0
  have HBW := Lib.hid hbw
  have HB1 := Lib.hid hB1
  have HB2 := Lib.hid hB2
  have HBZ := Lib.hid hB3
  have hw0s : w.heap.size + 2 < w0.heap.size := hB3.lt
  clear hB1 hB2 hB3
  refine (movesg_c (.slice A n cap) (listG n F) t b fg bg fl _ (HX.out.below hbw) HLL.out).mono ?_
  rintro e w1 ⟨rfl, hg⟩
  have hb1 := hg.below
  clear hg hbw
  have HBB := Lib.hid hb1
  have hB1 := HB1.out.below hb1 HB1.out.lt
  have r0 := hB1.cell 0
  have rl := hB1.lt
  simp only [List.getElem?_toArray, List.getElem?_cons_zero] at r0
  clear hb1 hB1
  go_upto_region 3 with fail
  go_cut [3] from 23 to 28 (fun s wc => w1 = wc ∧ s = .int .i64 (q : Int))
  case first =>
    go_wp2
    all_goals (go_meet; case rel => exact ⟨rfl, by congr 1; have := HQ.out; omega⟩)
  case rest =>
    obtain ⟨rfl, rfl⟩ := hcut
    go_wp2_with fail
    refine (rows_c (.slice A n cap) n F _ (HX.out.below (HBW.out.trans (HBB.out.mono HBW.out.size))) hn1 (by omega)).mono ?_
    rintro e w3 ⟨g, c5, rfl, hc5, hgg, hg3, hog⟩
    have hb3 := HBB.out.trans (hg3.mono HBB.out.size)
    have hbw3 := HBW.out.trans (hb3.mono HBW.out.size)
    have hg0 : w0.heap.size ≤ g := Nat.le_trans HBB.out.size hgg
    have hg3l := hog.lt
    have HB3 := Lib.hid hb3
    have HBW3 := Lib.hid hbw3
    have HOG := Lib.hid hog
    clear r0 rl hb3 hbw3 hg3 hog hgg
    go_wp2_with fail
    go_loopw [13, 32] (fun v i wz => ∃ j : Nat, j ≤ q ∧ i = .int .i64 j ∧ OwnX encR wz w3.heap.size 64 v (listG j (fun i => F (t + i))) ∧ Below w3.heap.size w3 wz) (fun _ i _ => q - (intOf i).toNat)
    case atStart => exact ⟨0, Nat.zero_le _, rfl, OwnX.nil _ _ _, Below.refl _ _⟩
    case round =>
      obtain ⟨j, hj, rfl, hv, hb⟩ := hrel
      have hbs := hb.size
      have hbz := HBW3.out.trans (hb.mono HBW3.out.size)
      by_cases hlt : j < q
      · have hjl : t + j < (listG n F).length := by rw [listG_len]; omega
        obtain ⟨bx, ox, rfl, hbx, hat, hok⟩ := (HX.out.below hbz).at_ hjl
        rw [listG_at] at hat
        have HSN := Lib.hid (listG_snoc j (fun i => F (t + i)))
        have HLJ : Hid ((listG j (fun i => F (t + i))).length = j) := listG_len _ _
        generalize listG j (fun i => F (t + i)) = Lj at *
        generalize F (t + j) = r at *
        obtain ⟨p0, p1, p2, p3⟩ := hat
        have hjI : (j : Int) < q := by omega
        have hB1 := (HB1.out.below HB3.out HB1.out.lt).below hb (Nat.lt_of_lt_of_le HB1.out.lt HB3.out.size)
        have r0 := hB1.cell 0
        have rl := hB1.lt
        simp only [List.getElem?_toArray, List.getElem?_cons_zero] at r0
        have HV := Lib.hid hv
        have HB := Lib.hid hb
        clear hv hb hB1 hok hbz
        go_wp2_with (at_builtin; refine wpList_append_X encR rfl _ _ _ rfl w3.heap.size 64 48 i3 _ rfl HI3.out HZ3.out HS3.out HB3_.out rfl _ _ Lj [r] rfl rfl (HV.out.alloc _) (rdX_one (E := encR) _ _ r _ _ rfl (by simp)) (by unfold maxLen; have := HLJ.out; simp only [List.length_cons, List.length_nil]; omega) (by have := HLJ.out; simp only [List.length_cons, List.length_nil]; omega) (by rw [World.size_alloc]; exact Nat.le_succ_of_le HB.out.size) ?_; intro v4 w4 hv4 hgb hor)
        have hb4 := below_ownx (HB.out.alloc HB.out.size (.cells #[.slice r.A r.n r.cap, .bool r.wb, .int .i64 r.dir, .bool r.ex] 64)) hgb (fun g hg => (HV.out.lt hg).1) (by rw [World.size_alloc]; exact Nat.le_succ_of_le HB.out.size)
        clear hgb hor
        go_roundw
        case rel => exact ⟨j + 1, by omega, by go_num, by rw [HSN.out]; exact hv4, hb4⟩
        case measure => simp [intOf]; omega
      · obtain rfl : q = j := by omega
        have HV := Lib.hid hv
        have HB := Lib.hid hb
        have hog := HOG.out.below hb hg3l
        have hB1 := (HB1.out.below HB3.out HB1.out.lt).below hb (Nat.lt_of_lt_of_le HB1.out.lt HB3.out.size)
        have hb' := hb
        clear hv hb hbz
        have hbwr := HBW3.out.trans (HB.out.mono HBW3.out.size)
        have HBWR := Lib.hid hbwr
        have hws := hbwr.size
        have hgr := hog.lt
        have hwr0 : w.heap.size + 2 < wr.heap.size := by have := HB3.out.size; omega
        have HBX1 := Lib.hid hB1
        have HBP1 := Lib.hid ((HB2.out.below HB3.out HB2.out.lt).below hb' (Nat.lt_of_lt_of_le HB2.out.lt HB3.out.size))
        have HBZ1 := Lib.hid ((HBZ.out.below HB3.out HBZ.out.lt).below hb' (Nat.lt_of_lt_of_le HBZ.out.lt HB3.out.size))
        clear hbwr hb' hB1
        go_upto_region 11 with fail
        go_wp2_with fail
        obtain ⟨wo, rfl⟩ : ∃ wo : World, wo = wr := ⟨_, rfl⟩
        go_loopw [51] (fun i wz => ∃ j : Nat, j ≤ b - t - q ∧ i = .int .i64 j ∧ OwnG wz g n (mvG F t q j) ∧ wo.grownBy wz (some g)) (fun i _ => b - t - q - (intOf i).toNat)
        case atStart => exact ⟨0, Nat.zero_le _, rfl, hog.congr fun i _ => by unfold mvG; rw [if_neg (by omega)], World.grownBy.refl _ _⟩
        case round =>
          clear hog
          obtain ⟨wz, rfl⟩ : ∃ wz : World, wz = wr := ⟨_, rfl⟩
          obtain ⟨j, hj, rfl, hoz, hgz⟩ := hrel
          have hbz : Below w.heap.size w wz := below_gb HBWR.out hgz (by omega) hws
          have hgl := hoz.lt
          have hwzs := hgz.size
          have hB1 := HBX1.out.gb hgz (by intro e; injection e; omega)
          have r0 := hB1.cell 0
          have rl := hB1.lt
          simp only [List.getElem?_toArray, List.getElem?_cons_zero] at r0
          by_cases hlt : j < b - t - q
          · have hjl : t + q + j < (listG n F).length := by rw [listG_len]; omega
            obtain ⟨bx, ox, rfl, hbx, hat, hok⟩ := (HX.out.below hbz).at_ hjl
            rw [listG_at] at hat
            obtain ⟨p0, p1, p2, p3⟩ := hat
            obtain ⟨c0, c1, c2, c3⟩ := hoz.at_ (i := t + j) (by omega)
            have hfz := hoz.frozen
            have HST := Lib.hid (fun w2 (hw : w2 = ((((wz.setCell ⟨g, (t + j) * 4, none⟩ (.slice (F (t + q + j)).A (F (t + q + j)).n (F (t + q + j)).cap)).setCell ⟨g, (t + j) * 4 + 1, none⟩ (.bool (F (t + q + j)).wb)).setCell ⟨g, (t + j) * 4 + 2, none⟩ (.int .i64 (F (t + q + j)).dir)).setCell ⟨g, (t + j) * 4 + 3, none⟩ (.bool (F (t + q + j)).ex))) => (show OwnG w2 g n (updG (mvG F t q j) (t + j) (F (t + q + j))) by rw [hw]; exact hoz.store (t + j) (by omega) (F (t + q + j)) rfl))
            have hjI : (j : Int) < (b : Int) - t - q := by omega
            clear hok
            go_wp2_with fail
            generalize hw2 : World.setCell _ _ _ = w2
            have hg2 : wz.grownBy w2 (some g) := by rw [← hw2]; (exact gbAll)
            have ho2 := HST.out w2 hw2.symm
            clear hw2 HST
            go_roundw
            case rel => exact ⟨j + 1, by omega, by go_num, ho2.congr fun i _ => by
              unfold updG mvG
              by_cases h1 : i = t + j
              · subst h1
                rw [if_pos rfl, if_pos ⟨by omega, by omega⟩, show t + j + q = t + q + j by omega]
              · rw [if_neg h1]
                by_cases h2 : t ≤ i ∧ i < t + j
                · rw [if_pos h2, if_pos ⟨by omega, by omega⟩]
                · rw [if_neg h2, if_neg (by omega)], gb_trans hgz hg2⟩
            case measure => simp [intOf]; omega
          · obtain rfl : j = b - t - q := by omega
            have hjI : ¬ ((b - t - q : Nat) : Int) < (b : Int) - t - q := by omega
            have h0l : 0 < (listG n F).length := by rw [listG_len]; omega
            obtain ⟨bx, ox, rfl, hbxz, hat, -⟩ := (HX.out.below hbz).at_ h0l
            rw [listG_at, Nat.zero_mul, Nat.add_zero] at hat
            obtain ⟨z0, -, -, -⟩ := hat
            have hm1 := (sane_iff.1 (HRO.out 0 (by omega)).2)
            obtain ⟨hm0, hm1, -⟩ := hm1
            have HMW : Hid (max 1 (min ((F 0).n : Int) 4096) = ((F 0).n : Int)) := by show _ = _; omega
            have hbxw : bx ≠ g := by
              have := HX.out.ft.1 (by rw [listG_len]; omega) bx ox cap n rfl
              omega
            have hgz' := hgz
            have HBG := Lib.hid hB1
            have hB2 := HBP1.out.gb hgz (by intro e; injection e; omega)
            have hB3 := HBZ1.out.gb hgz (by intro e; injection e; omega)
            have HBP := Lib.hid hB2
            have HBZ2 := Lib.hid hB3
            have HV5 : Hid (OwnX encR wz w3.heap.size 64 u13 (listG q (fun i => F (t + i)))) := HV.out.gb hgz (fun g' hg' e => by injection e with e; have := (HV.out.lt hg').1; omega)
            have HBZ5 := Lib.hid hbz
            have HOGE := Lib.hid hoz
            obtain ⟨s0, s1, s2, sf, sl⟩ := hB2.facts3
            have y9 := hB3.cell 0
            have yf9 := hB3.frozen
            simp only [List.getElem?_toArray, List.getElem?_cons_zero] at y9
            obtain ⟨lo, hlo⟩ : ∃ lo, lo = b - q := ⟨_, rfl⟩
            have hwlo : IntKind.i64.wrap ((b : Int) - (q : Int)) = (lo : Int) := by rw [IntWalk.i64_in _ (by omega)]; omega
            have hpos : 0 < n := by omega
            have HLO := Lib.hid hlo
            have hlo1 : lo ≤ b := by omega
            have hlo2 : lo + q = b := by omega
            clear hlo
            obtain ⟨m, hm⟩ : ∃ m, m = (F 0).n := ⟨_, rfl⟩
            rw [← hm] at z0 HMW hm0 hm1
            have HMN := Lib.hid hm
            generalize (F 0).A = A0 at z0
            generalize (F 0).cap = cap0 at z0
            clear hm
            clear hB1 hB2 hB3 hoz
            by_cases hq0 : q = 0
            · obtain ⟨A7, -, hrun, -⟩ := slice2 (E := encR) (P := Tryz.prog) 22 64 Tryz.underlying22 (by kernel_rfl) (some ⟨g, 0, none⟩) n c5 lo b hlo1 (by omega) hc5
              have hbl : b - lo = 0 := by omega
              have hlo2' := Lib.hid hlo2
              have HQ0 := Lib.hid hq0
              have l2 : (0 : Int) ≤ lo := by omega
              clear hlo2 hq0
              go_wp2_with fail
              refine hr_start (S := (fun w' => w'.cell? ⟨w.heap.size, 0, none⟩ = some (.slice (some ⟨bx, ox, none⟩) n cap) ∧ w'.cell? ⟨w.heap.size + 1, 0, none⟩ = some (.int .i64 fg) ∧ w'.cell? ⟨w.heap.size + 1, 1, none⟩ = some (.int .i64 bg) ∧ w'.cell? ⟨w.heap.size + 1, 2, none⟩ = some (.int .i64 fl) ∧ w'.cell? ⟨bx, ox, none⟩ = some (.slice A0 m cap0))) (by kernel_rfl) rfl ?_ (fun hHeld => ?_)
              · ((try dsimp only); go_simp)
              refine hr_q 0 ?_
              simp only [st0, st1]
              refine hr_q 1 ?_
              simp only [st0, st1]
              refine hr_q 2 ?_
              simp only [st0, st1]
              refine hr_q 3 ?_
              simp only [st0, st1]
              refine hr_q 4 ?_
              simp only [st0, st1]
              refine hr_q 5 ?_
              simp only [st0, st1]
              refine hr_q 6 ?_
              simp only [st0, st1]
              refine hr_q 7 ?_
              simp only [st0, st1]
              refine hr_q 8 ?_
              simp only [st0, st1]
              refine hr_q 9 ?_
              simp only [st0, st1]
              refine hr_q 10 ?_
              simp only [st0, st1]
              refine hr_q 11 ?_
              simp only [st0, st1]
              refine hr_q 12 ?_
              simp only [st0, st1]
              refine hr_o 13 (fun K hK => ?_)
              (try go_simp)
              ((with_reducible refine (layg0_c _ _ _ fg bg fl _).mono ?_); rintro e w6 ⟨rfl, X6, d6, rfl⟩)
              (try go_wp2_with fail)
              refine hK.out _ _ ?_ (fun hHeld => ?_)
              · ((try dsimp only); go_simp)
              clear hK K
              simp only [st0, st1]
              refine hr_done (by kernel_rfl) ?_
              generalize hw6 : World.grow _ _ _ = w6
              have hq0 := HQ0.out
              have hb6 : Below wz.heap.size wz w6 := by rw [← hw6]; exact bcAll
              clear hw6
              have HMQ := HMN.out
              have hZ6 := HBZ2.out.below hb6 HBZ2.out.lt
              have HO6 : Hid (OwnG w6 g n (layG (mvG F t q (b - t - q)) (b - q) q (fun _ => 0) (F 0).n fg bg fl)) := (HOGE.out.below hb6 HOGE.out.lt).congr fun i _ => by unfold layG; rw [if_neg (by omega)]
              have HV6 : Hid (OwnX encR w6 w3.heap.size 64 u13 (listG q (fun i => F (t + i)))) := HV5.out.below hb6 (Nat.le_refl _)
              have HB6 : Hid (Below w.heap.size w w6) := HBZ5.out.trans (hb6.mono HBZ5.out.size)
              have HBQ : Hid (∀ j, j < q → w.heap.size + 2 < (fun _ : Nat => 0) j ∧ Rd w6 (some ⟨(fun _ : Nat => 0) j, 0, none⟩) (F 0).n (fun _ => blank fg bg fl)) := fun j hj => absurd hj (by omega)
              clear hq0 hb6 HMQ hHeld z0 s0 s1 s2 sf sl y9 yf9 r0 rl
              have HZ6 := Lib.hid hZ6
              have y9' := hZ6.cell 0
              have yf9' := hZ6.frozen
              have yl9' := hZ6.lt
              simp only [List.getElem?_toArray, List.getElem?_cons_zero] at y9'
              clear hZ6
              go_wp2_with fail
              generalize hwf : World.setCell w6 _ _ = wf
              have hg7 : w6.grownBy wf (some (w.heap.size + 2)) := by rw [← hwf]; (exact gbAll)
              have hz : Blk wf (w.heap.size + 2) 46 #[.slice (some ⟨g, 0, none⟩) n c5] := by rw [← hwf]; exact Blk.set_ HZ6.out 0 _
              clear hwf
              have hogf : OwnG wf g n (layG (mvG F t q (b - t - q)) (b - q) q (fun _ => 0) (F 0).n fg bg fl) := OwnG.gb (row := some (w.heap.size + 2)) HO6.out hg7 (by intro e; injection e; omega)
              have hvf : OwnX encR wf w3.heap.size 64 u13 (listG q (fun i => F (t + i))) := HV6.out.gb hg7 (fun g' hg' e => by injection e with e; have := (HV6.out.lt hg').1; omega)
              have hbf : Below w.heap.size w wf := below_gb HB6.out hg7 (by omega) HB6.out.size
              have hxf := HX.out.below hbf
              have zz := hz.cell 0
              have zf := hz.frozen
              simp only [List.getElem?_toArray, List.getElem?_cons_zero] at zz
              have HU : Hid (∀ r ∈ listG q (fun i => F (t + i)), r.ok wf) := fun r hr => by
                obtain ⟨i, hi, rfl⟩ := listG_mem.1 hr
                exact hxf.2 _ (listG_mem.2 ⟨t + i, by omega, rfl⟩)
              refine bodyPost_ret (v := _) (by simp [results, Tryz.results90, go_sem, *]; try exact rfl) rfl ⟨g, c5, u13, (fun _ => 0), rfl, hbf, hc5, by omega, ⟨hogf.rdX hc5, fun r hr => ?_⟩, fun j hj => ?_, ⟨hvf.rd, HU.out⟩, fun b' o' n' c' e => ?_⟩
              · obtain ⟨i, hi, rfl⟩ := listG_mem.1 hr
                unfold layG
                by_cases h1 : b - q ≤ i ∧ i < b - q + q
                · rw [if_pos h1]
                  obtain ⟨hb1, hb2⟩ := HBQ.out (i - (b - q)) (by omega)
                  exact ⟨hb2.gb hg7 (by omega), Nat.le_refl _, by show (F 0).n ≤ 5000; have := HMN.out; omega⟩
                · rw [if_neg h1]
                  unfold mvG
                  split
                  · exact hxf.2 _ (listG_mem.2 ⟨i + q, by omega, rfl⟩)
                  · exact hxf.2 _ (listG_mem.2 ⟨i, hi, rfl⟩)
              · have := (HBQ.out j hj).1
                omega
              · subst e
                have := (HV6.out.lt (g := b') rfl).1
                omega
            · have hlo2' := Lib.hid hlo2
              have hrun := slice2_at (P := Tryz.prog) 22 64 4 Tryz.underlying22 (by kernel_rfl) g 0 n c5 lo b q (by omega) (by omega) (by omega) (by omega)
              have l1 : ¬ c5 = lo := by omega
              have l2 : (0 : Int) ≤ lo := by omega
              have l4 : b ≤ c5 := by omega
              clear hlo2
              go_wp2_with fail
              refine hr_start (S := (fun w' => w'.cell? ⟨w.heap.size, 0, none⟩ = some (.slice (some ⟨bx, ox, none⟩) n cap) ∧ w'.cell? ⟨w.heap.size + 1, 0, none⟩ = some (.int .i64 fg) ∧ w'.cell? ⟨w.heap.size + 1, 1, none⟩ = some (.int .i64 bg) ∧ w'.cell? ⟨w.heap.size + 1, 2, none⟩ = some (.int .i64 fl) ∧ w'.cell? ⟨bx, ox, none⟩ = some (.slice A0 m cap0))) (by kernel_rfl) rfl ?_ (fun hHeld => ?_)
              · ((try dsimp only); go_simp)
              refine hr_q 0 ?_
              simp only [st0, st1]
              refine hr_q 1 ?_
              simp only [st0, st1]
              refine hr_q 2 ?_
              simp only [st0, st1]
              refine hr_q 3 ?_
              simp only [st0, st1]
              refine hr_q 4 ?_
              simp only [st0, st1]
              refine hr_q 5 ?_
              simp only [st0, st1]
              refine hr_q 6 ?_
              simp only [st0, st1]
              refine hr_q 7 ?_
              simp only [st0, st1]
              refine hr_q 8 ?_
              simp only [st0, st1]
              refine hr_q 9 ?_
              simp only [st0, st1]
              refine hr_q 10 ?_
              simp only [st0, st1]
              refine hr_q 11 ?_
              simp only [st0, st1]
              refine hr_q 12 ?_
              simp only [st0, st1]
              refine hr_o 13 (fun K hK => ?_)
              (try go_simp)
              ((with_reducible refine (layg_c g lo q _ n (lo * 4) (mvG F t q (b - t - q)) _ m fg bg fl _ HOGE.out.drewd rfl (by have := hlo2'.out; omega) (by omega) HMW.out).mono ?_); rintro e w6 ⟨rfl, hg6, B, hog6, hB6⟩; have y0 := (Blk.gb (show Blk wz.drew w.heap.size _ _ from HBG.out) hg6 (by intro e; injection e; omega)).cell 0; obtain ⟨y1, y2, y3, -, -⟩ := (Blk.gb (show Blk wz.drew (w.heap.size + 1) _ _ from HBP.out) hg6 (by intro e; injection e; omega)).facts3; have y4 : w6.cell? ⟨bx, ox, none⟩ = some (.slice A0 m cap0) := (cell_gb hg6 hbxz (by omega)).trans z0; simp only [List.getElem?_toArray, List.getElem?_cons_zero] at y0)
              (try go_wp2_with fail)
              refine hK.out _ _ ?_ (fun hHeld => ?_)
              · ((try dsimp only); go_simp)
              clear hK K
              simp only [st0, st1]
              refine hr_done (by kernel_rfl) ?_
              have HMQ := HMN.out
              have hg6' : wz.grownBy w6 (some g) := gb_trans (gb_drew (World.grownBy.refl _ _)) hg6
              have hZ6 := HBZ2.out.gb hg6' (by intro e; injection e; omega)
              have HO6 : Hid (OwnG w6 g n (layG (mvG F t q (b - t - q)) (b - q) q B (F 0).n fg bg fl)) := by rw [← HLO.out, ← HMQ]; exact hog6
              have HV6 : Hid (OwnX encR w6 w3.heap.size 64 u13 (listG q (fun i => F (t + i)))) := HV5.out.gb hg6' (fun g' hg' e => by injection e with e; have := (HV5.out.lt hg').1; omega)
              have HB6 : Hid (Below w.heap.size w w6) := below_gb HBZ5.out hg6' (by omega) HBZ5.out.size
              have HBQ : Hid (∀ j, j < q → w.heap.size + 2 < B j ∧ Rd w6 (some ⟨B j, 0, none⟩) (F 0).n (fun _ => blank fg bg fl)) := fun j hj => by
                obtain ⟨h1, h2⟩ := hB6 j hj
                rw [← HMQ]
                have h1 : wz.heap.size ≤ B j := h1
                exact ⟨by omega, h2⟩
              have HG6 := Lib.hid hg6
              clear hg6 hg6' hog6 hB6 HMQ hHeld y0 y1 y2 y3 y4 z0 s0 s1 s2 sf sl y9 yf9 r0 rl
              have HZ6 := Lib.hid hZ6
              have y9' := hZ6.cell 0
              have yf9' := hZ6.frozen
              have yl9' := hZ6.lt
              simp only [List.getElem?_toArray, List.getElem?_cons_zero] at y9'
              clear hZ6
              go_wp2_with fail
              generalize hwf : World.setCell w6 _ _ = wf
              have hg7 : w6.grownBy wf (some (w.heap.size + 2)) := by rw [← hwf]; (exact gbAll)
              have hz : Blk wf (w.heap.size + 2) 46 #[.slice (some ⟨g, 0, none⟩) n c5] := by rw [← hwf]; exact Blk.set_ HZ6.out 0 _
              clear hwf
              have hogf : OwnG wf g n (layG (mvG F t q (b - t - q)) (b - q) q B (F 0).n fg bg fl) := OwnG.gb (row := some (w.heap.size + 2)) HO6.out hg7 (by intro e; injection e; omega)
              have hvf : OwnX encR wf w3.heap.size 64 u13 (listG q (fun i => F (t + i))) := HV6.out.gb hg7 (fun g' hg' e => by injection e with e; have := (HV6.out.lt hg').1; omega)
              have hbf : Below w.heap.size w wf := below_gb HB6.out hg7 (by omega) HB6.out.size
              have hxf := HX.out.below hbf
              have zz := hz.cell 0
              have zf := hz.frozen
              simp only [List.getElem?_toArray, List.getElem?_cons_zero] at zz
              have HU : Hid (∀ r ∈ listG q (fun i => F (t + i)), r.ok wf) := fun r hr => by
                obtain ⟨i, hi, rfl⟩ := listG_mem.1 hr
                exact hxf.2 _ (listG_mem.2 ⟨t + i, by omega, rfl⟩)
              refine bodyPost_ret (v := _) (by simp [results, Tryz.results90, go_sem, *]; try exact rfl) rfl ⟨g, c5, u13, B, rfl, hbf, hc5, by omega, ⟨hogf.rdX hc5, fun r hr => ?_⟩, fun j hj => ?_, ⟨hvf.rd, HU.out⟩, fun b' o' n' c' e => ?_⟩
              · obtain ⟨i, hi, rfl⟩ := listG_mem.1 hr
                unfold layG
                by_cases h1 : b - q ≤ i ∧ i < b - q + q
                · rw [if_pos h1]
                  obtain ⟨hb1, hb2⟩ := HBQ.out (i - (b - q)) (by omega)
                  exact ⟨hb2.gb hg7 (by omega), Nat.le_refl _, by show (F 0).n ≤ 5000; have := HMN.out; omega⟩
                · rw [if_neg h1]
                  unfold mvG
                  split
                  · exact hxf.2 _ (listG_mem.2 ⟨i + q, by omega, rfl⟩)
                  · exact hxf.2 _ (listG_mem.2 ⟨i, hi, rfl⟩)
              · have := (HBQ.out j hj).1
                omega
              · subst e
                have := (HV6.out.lt (g := b') rfl).1
                omega
end Go.Proofs.YtlchffkabpfjpaaGreat.Row
end
section
/- Walk of grid.Down. -/
namespace Go.Proofs.YtlchffkabpfjpaaGreat.Row
open Go.RowKit
/-- j rows from t + q on are those q ahead -/
def mdG (F : Nat → Rw) (t q j i : Nat) : Rw := if t + q ≤ i ∧ i < t + q + j then F (i - q) else F i
def DownPost (n : Nat) (F : Nat → Rw) (t b q : Nat) (fg bg fl : Int) (w : World) (e : Ending) (w' : World) : Prop :=
  ∃ g c B, e = .returned (.agg #[.slice (some ⟨g, 0, none⟩) n c]) ∧ Below w.heap.size w w' ∧ n ≤ c ∧ w.heap.size ≤ g ∧
      RdR w' (.slice (some ⟨g, 0, none⟩) n c) (listG n (layG (mdG F t q (b - t - q)) t q B (F 0).n fg bg fl)) ∧ (∀ j, j < q → w.heap.size ≤ B j)
set_option maxRecDepth 100000 in
set_option maxHeartbeats 4000000 in
theorem down_c (x : Value) (n : Nat) (F : Nat → Rw) (t b q : Nat) (k fg bg fl : Int) (w : World) (hx : RdR w x (listG n F)) (hs : gsaneB (listG n F) = true) (hp : penB fg bg fl = true) (htb : t < b) (hbn : b ≤ n) (hq : (q : Int) = max 0 (min k ((b : Int) - t))) :
    Calls Tryz.prog 49 #[.agg #[x], .int .i64 t, .int .i64 b, .int .i64 k, .agg #[.int .i64 fg, .int .i64 bg, .int .i64 fl]] w (DownPost n F t b q fg bg fl w) := by
  obtain ⟨A, cap, rfl, hc⟩ := hx.1.len
  obtain ⟨hn1, hn2, hrows⟩ := gsane_wd hs
  have HRO := Lib.hid hrows
  obtain ⟨i3, hi3, hz3, hs3, hb3⟩ := row_parts
  have HI3 := Lib.hid hi3
  have HZ3 := Lib.hid hz3
  have HS3 := Lib.hid hs3
  have HB3_ := Lib.hid hb3
  have HLL : Hid ((listG n F).length ≤ 5000) := by show _ ≤ _; rw [listG_len]; omega
  have hmv : movesB (listG n F) t b fg bg fl = true := by
    unfold movesB
    rw [hs, hp, listG_len]
    simp
    omega
  rw [listG_len] at hc hx ⊢
  have HX := Lib.hid hx
  have HQ := Lib.hid hq
  have hqb : t + q ≤ b := by omega
  clear hi3 hz3 hs3 hb3 hx hq hrows
  go_enter Tryz.func49, Tryz.ntmps49
  go_wp2_with fail
  generalize hw0 : ((w.alloc _).alloc _).alloc _ = w0
  have hbw : Below w.heap.size w w0 := by rw [← hw0]; exact bcAll
  have hB1 : Blk w0 w.heap.size 46 #[.slice A n cap] := by rw [← hw0]; exact ((Blk.new _ _ _).alloc _).alloc _
  have hB2 : Blk w0 (w.heap.size + 1) 26 #[.int .i64 fg, .int .i64 bg, .int .i64 fl] := by rw [← hw0]; exact (Blk.new_at (by simp)).alloc _
  have hB3 : Blk w0 (w.heap.size + 2) 46 #[.slice none 0 0] := by rw [← hw0]; exact Blk.new_at (by simp)
  clear hw0
  have HBW := Lib.hid hbw
  have HB1 := Lib.hid hB1
  have HB2 := Lib.hid hB2
  have HBZ := Lib.hid hB3
  have hw0s : w.heap.size + 2 < w0.heap.size := hB3.lt
  clear hB1 hB2 hB3
  refine (movesg_c (.slice A n cap) (listG n F) t b fg bg fl _ (HX.out.below hbw) HLL.out).mono ?_
  rintro e w1 ⟨rfl, hg⟩
  have hb1 := hg.below
  clear hg hbw
  have HBB := Lib.hid hb1
  have hB1 := HB1.out.below hb1 HB1.out.lt
  have r0 := hB1.cell 0
  have rl := hB1.lt
  simp only [List.getElem?_toArray, List.getElem?_cons_zero] at r0
  clear hb1 hB1
  go_upto_region 3 with fail
  go_cut [3] from 20 to 25 (fun s wc => w1 = wc ∧ s = .int .i64 (q : Int))
  case first =>
    go_wp2
    all_goals (go_meet; case rel => exact ⟨rfl, by congr 1; have := HQ.out; omega⟩)
  case rest =>
    obtain ⟨rfl, rfl⟩ := hcut
    go_wp2_with fail
    refine (rows_c (.slice A n cap) n F _ (HX.out.below (HBW.out.trans (HBB.out.mono HBW.out.size))) hn1 (by omega)).mono ?_
    rintro e w3 ⟨g, c5, rfl, hc5, hgg, hg3, hog⟩
    have hb3 := HBB.out.trans (hg3.mono HBB.out.size)
    have hbw3 := HBW.out.trans (hb3.mono HBW.out.size)
    have hg0 : w0.heap.size ≤ g := Nat.le_trans HBB.out.size hgg
    have hg3l := hog.lt
    have HB3 := Lib.hid hb3
    have HBW3 := Lib.hid hbw3
    have HOG := Lib.hid hog
    clear r0 rl hb3 hbw3 hg3 hog hgg
    go_wp2_with fail
    have hb : Below w3.heap.size w3 w3 := Below.refl _ _
    have HB := Lib.hid hb
    have hog := HOG.out.below hb hg3l
    have hB1 := (HB1.out.below HB3.out HB1.out.lt).below hb (Nat.lt_of_lt_of_le HB1.out.lt HB3.out.size)
    have hb' := hb
    clear hb
    have hbwr := HBW3.out.trans (HB.out.mono HBW3.out.size)
    have HBWR := Lib.hid hbwr
    have hws := hbwr.size
    have hgr := hog.lt
    have hwr0 : w.heap.size + 2 < w3.heap.size := by have := HB3.out.size; omega
    have HBX1 := Lib.hid hB1
    have HBP1 := Lib.hid ((HB2.out.below HB3.out HB2.out.lt).below hb' (Nat.lt_of_lt_of_le HB2.out.lt HB3.out.size))
    have HBZ1 := Lib.hid ((HBZ.out.below HB3.out HBZ.out.lt).below hb' (Nat.lt_of_lt_of_le HBZ.out.lt HB3.out.size))
    clear hbwr hb' hB1
    obtain ⟨wo, rfl⟩ : ∃ wo : World, wo = w3 := ⟨_, rfl⟩
    go_loopw [33] (fun i wz => ∃ j : Nat, j ≤ b - t - q ∧ i = .int .i64 j ∧ OwnG wz g n (mdG F t q j) ∧ wo.grownBy wz (some g)) (fun i _ => b - t - q - (intOf i).toNat)
    case atStart => exact ⟨0, Nat.zero_le _, rfl, hog.congr fun i _ => by unfold mdG; rw [if_neg (by omega)], World.grownBy.refl _ _⟩
    case round =>
      clear hog
      obtain ⟨wz, rfl⟩ : ∃ wz : World, wz = wr := ⟨_, rfl⟩
      obtain ⟨j, hj, rfl, hoz, hgz⟩ := hrel
      have hbz : Below w.heap.size w wz := below_gb HBWR.out hgz (by omega) hws
      have hgl := hoz.lt
      have hwzs := hgz.size
      have hB1 := HBX1.out.gb hgz (by intro e; injection e; omega)
      have r0 := hB1.cell 0
      have rl := hB1.lt
      simp only [List.getElem?_toArray, List.getElem?_cons_zero] at r0
      by_cases hlt : j < b - t - q
      · have hjl : t + j < (listG n F).length := by rw [listG_len]; omega
        obtain ⟨bx, ox, rfl, hbx, hat, hok⟩ := (HX.out.below hbz).at_ hjl
        rw [listG_at] at hat
        obtain ⟨p0, p1, p2, p3⟩ := hat
        obtain ⟨c0, c1, c2, c3⟩ := hoz.at_ (i := t + q + j) (by omega)
        have hfz := hoz.frozen
        have HST := Lib.hid (fun w2 (hw : w2 = ((((wz.setCell ⟨g, (t + q + j) * 4, none⟩ (.slice (F (t + j)).A (F (t + j)).n (F (t + j)).cap)).setCell ⟨g, (t + q + j) * 4 + 1, none⟩ (.bool (F (t + j)).wb)).setCell ⟨g, (t + q + j) * 4 + 2, none⟩ (.int .i64 (F (t + j)).dir)).setCell ⟨g, (t + q + j) * 4 + 3, none⟩ (.bool (F (t + j)).ex))) => (show OwnG w2 g n (updG (mdG F t q j) (t + q + j) (F (t + j))) by rw [hw]; exact hoz.store (t + q + j) (by omega) (F (t + j)) rfl))
        have hjI : (j : Int) < (b : Int) - t - q := by omega
        clear hok
        go_wp2_with fail
        generalize hw2 : World.setCell _ _ _ = w2
        have hg2 : wz.grownBy w2 (some g) := by rw [← hw2]; (exact gbAll)
        have ho2 := HST.out w2 hw2.symm
        clear hw2 HST
        go_roundw
        case rel => exact ⟨j + 1, by omega, by go_num, ho2.congr fun i _ => by
          unfold updG mdG
          by_cases h1 : i = t + q + j
          · subst h1
            rw [if_pos rfl, if_pos ⟨by omega, by omega⟩, show t + q + j - q = t + j by omega]
          · rw [if_neg h1]
            by_cases h2 : t + q ≤ i ∧ i < t + q + j
            · rw [if_pos h2, if_pos ⟨by omega, by omega⟩]
            · rw [if_neg h2, if_neg (by omega)], gb_trans hgz hg2⟩
        case measure => simp [intOf]; omega
      · obtain rfl : j = b - t - q := by omega
        have hjI : ¬ ((b - t - q : Nat) : Int) < (b : Int) - t - q := by omega
        have h0l : 0 < (listG n F).length := by rw [listG_len]; omega
        obtain ⟨bx, ox, rfl, hbxz, hat, -⟩ := (HX.out.below hbz).at_ h0l
        rw [listG_at, Nat.zero_mul, Nat.add_zero] at hat
        obtain ⟨z0, -, -, -⟩ := hat
        have hm1 := (sane_iff.1 (HRO.out 0 (by omega)).2)
        obtain ⟨hm0, hm1, -⟩ := hm1
        have HMW : Hid (max 1 (min ((F 0).n : Int) 4096) = ((F 0).n : Int)) := by show _ = _; omega
        have hbxw : bx ≠ g := by
          have := HX.out.ft.1 (by rw [listG_len]; omega) bx ox cap n rfl
          omega
        have hgz' := hgz
        have HBG := Lib.hid hB1
        have hB2 := HBP1.out.gb hgz (by intro e; injection e; omega)
        have hB3 := HBZ1.out.gb hgz (by intro e; injection e; omega)
        have HBP := Lib.hid hB2
        have HBZ2 := Lib.hid hB3
        have HBZ5 := Lib.hid hbz
        have HOGE := Lib.hid hoz
        obtain ⟨s0, s1, s2, sf, sl⟩ := hB2.facts3
        have y9 := hB3.cell 0
        have yf9 := hB3.frozen
        simp only [List.getElem?_toArray, List.getElem?_cons_zero] at y9
        obtain ⟨hz_, hhi⟩ : ∃ hz_, hz_ = t + q := ⟨_, rfl⟩
        have hwlo : IntKind.i64.wrap ((t : Int) + (q : Int)) = (hz_ : Int) := by rw [IntWalk.i64_in _ (by omega)]; omega
        have hpos : 0 < n := by omega
        have HHI := Lib.hid hhi
        have hlo1 : t ≤ hz_ := by omega
        have hlo3 : hz_ ≤ n := by omega
        clear hhi
        obtain ⟨m, hm⟩ : ∃ m, m = (F 0).n := ⟨_, rfl⟩
        rw [← hm] at z0 HMW hm0 hm1
        have HMN := Lib.hid hm
        generalize (F 0).A = A0 at z0
        generalize (F 0).cap = cap0 at z0
        clear hm
        clear hB1 hB2 hB3 hoz
        by_cases hq0 : q = 0
        · obtain ⟨A7, -, hrun, -⟩ := slice2 (E := encR) (P := Tryz.prog) 22 64 Tryz.underlying22 (by kernel_rfl) (some ⟨g, 0, none⟩) n c5 t hz_ hlo1 hlo3 hc5
          have hbl : hz_ - t = 0 := by have := HHI.out; omega
          have HQ0 := Lib.hid hq0
          have l2 : (0 : Int) ≤ t := by omega
          clear hq0
          go_wp2_with fail
          refine hr_start (S := (fun w' => w'.cell? ⟨w.heap.size, 0, none⟩ = some (.slice (some ⟨bx, ox, none⟩) n cap) ∧ w'.cell? ⟨w.heap.size + 1, 0, none⟩ = some (.int .i64 fg) ∧ w'.cell? ⟨w.heap.size + 1, 1, none⟩ = some (.int .i64 bg) ∧ w'.cell? ⟨w.heap.size + 1, 2, none⟩ = some (.int .i64 fl) ∧ w'.cell? ⟨bx, ox, none⟩ = some (.slice A0 m cap0))) (by kernel_rfl) rfl ?_ (fun hHeld => ?_)
          · ((try dsimp only); go_simp)
          refine hr_q 0 ?_
          simp only [st0, st1]
          refine hr_q 1 ?_
          simp only [st0, st1]
          refine hr_q 2 ?_
          simp only [st0, st1]
          refine hr_q 3 ?_
          simp only [st0, st1]
          refine hr_q 4 ?_
          simp only [st0, st1]
          refine hr_q 5 ?_
          simp only [st0, st1]
          refine hr_q 6 ?_
          simp only [st0, st1]
          refine hr_q 7 ?_
          simp only [st0, st1]
          refine hr_q 8 ?_
          simp only [st0, st1]
          refine hr_q 9 ?_
          simp only [st0, st1]
          refine hr_q 10 ?_
          simp only [st0, st1]
          refine hr_q 11 ?_
          simp only [st0, st1]
          refine hr_q 12 ?_
          simp only [st0, st1]
          refine hr_o 13 (fun K hK => ?_)
          (try go_simp)
          ((with_reducible refine (layg0_c _ _ _ fg bg fl _).mono ?_); rintro e w6 ⟨rfl, X6, d6, rfl⟩)
          (try go_wp2_with fail)
          refine hK.out _ _ ?_ (fun hHeld => ?_)
          · ((try dsimp only); go_simp)
          clear hK K
          simp only [st0, st1]
          refine hr_done (by kernel_rfl) ?_
          generalize hw6 : World.grow _ _ _ = w6
          have hq0 := HQ0.out
          have hb6 : Below wz.heap.size wz w6 := by rw [← hw6]; exact bcAll
          clear hw6
          have HMQ := HMN.out
          have hZ6 := HBZ2.out.below hb6 HBZ2.out.lt
          have HO6 : Hid (OwnG w6 g n (layG (mdG F t q (b - t - q)) t q (fun _ => 0) (F 0).n fg bg fl)) := (HOGE.out.below hb6 HOGE.out.lt).congr fun i _ => by unfold layG; rw [if_neg (by omega)]
          have HB6 : Hid (Below w.heap.size w w6) := HBZ5.out.trans (hb6.mono HBZ5.out.size)
          have HBQ : Hid (∀ j, j < q → w.heap.size + 2 < (fun _ : Nat => 0) j ∧ Rd w6 (some ⟨(fun _ : Nat => 0) j, 0, none⟩) (F 0).n (fun _ => blank fg bg fl)) := fun j hj => absurd hj (by omega)
          clear hq0 hb6 HMQ hHeld z0 s0 s1 s2 sf sl y9 yf9 r0 rl
          have HZ6 := Lib.hid hZ6
          have y9' := hZ6.cell 0
          have yf9' := hZ6.frozen
          have yl9' := hZ6.lt
          simp only [List.getElem?_toArray, List.getElem?_cons_zero] at y9'
          clear hZ6
          go_wp2_with fail
          generalize hwf : World.setCell w6 _ _ = wf
          have hg7 : w6.grownBy wf (some (w.heap.size + 2)) := by rw [← hwf]; (exact gbAll)
          have hz : Blk wf (w.heap.size + 2) 46 #[.slice (some ⟨g, 0, none⟩) n c5] := by rw [← hwf]; exact Blk.set_ HZ6.out 0 _
          clear hwf
          have hogf : OwnG wf g n (layG (mdG F t q (b - t - q)) t q (fun _ => 0) (F 0).n fg bg fl) := OwnG.gb (row := some (w.heap.size + 2)) HO6.out hg7 (by intro e; injection e; omega)
          have hbf : Below w.heap.size w wf := below_gb HB6.out hg7 (by omega) HB6.out.size
          have hxf := HX.out.below hbf
          have zz := hz.cell 0
          have zf := hz.frozen
          simp only [List.getElem?_toArray, List.getElem?_cons_zero] at zz
          refine bodyPost_ret (v := _) (by simp [results, Tryz.results49, go_sem, *]; try exact rfl) rfl ⟨g, c5, (fun _ => 0), rfl, hbf, hc5, by omega, ⟨hogf.rdX hc5, fun r hr => ?_⟩, fun j hj => ?_⟩
          · obtain ⟨i, hi, rfl⟩ := listG_mem.1 hr
            unfold layG
            by_cases h1 : t ≤ i ∧ i < t + q
            · rw [if_pos h1]
              obtain ⟨hb1, hb2⟩ := HBQ.out (i - t) (by omega)
              exact ⟨hb2.gb hg7 (by omega), Nat.le_refl _, by show (F 0).n ≤ 5000; have := HMN.out; omega⟩
            · rw [if_neg h1]
              unfold mdG
              split
              · exact hxf.2 _ (listG_mem.2 ⟨i - q, by omega, rfl⟩)
              · exact hxf.2 _ (listG_mem.2 ⟨i, hi, rfl⟩)
          · have := (HBQ.out j hj).1
            omega
        · have hrun := slice2_at (P := Tryz.prog) 22 64 4 Tryz.underlying22 (by kernel_rfl) g 0 n c5 t hz_ q hlo1 (by omega) (by omega) (by have := HHI.out; omega)
          have l1 : ¬ c5 = t := by omega
          have l2 : (0 : Int) ≤ t := by omega
          have l4 : hz_ ≤ c5 := by omega
          go_wp2_with fail
          refine hr_start (S := (fun w' => w'.cell? ⟨w.heap.size, 0, none⟩ = some (.slice (some ⟨bx, ox, none⟩) n cap) ∧ w'.cell? ⟨w.heap.size + 1, 0, none⟩ = some (.int .i64 fg) ∧ w'.cell? ⟨w.heap.size + 1, 1, none⟩ = some (.int .i64 bg) ∧ w'.cell? ⟨w.heap.size + 1, 2, none⟩ = some (.int .i64 fl) ∧ w'.cell? ⟨bx, ox, none⟩ = some (.slice A0 m cap0))) (by kernel_rfl) rfl ?_ (fun hHeld => ?_)
          · ((try dsimp only); go_simp)
          refine hr_q 0 ?_
          simp only [st0, st1]
          refine hr_q 1 ?_
          simp only [st0, st1]
          refine hr_q 2 ?_
          simp only [st0, st1]
          refine hr_q 3 ?_
          simp only [st0, st1]
          refine hr_q 4 ?_
          simp only [st0, st1]
          refine hr_q 5 ?_
          simp only [st0, st1]
          refine hr_q 6 ?_
          simp only [st0, st1]
          refine hr_q 7 ?_
          simp only [st0, st1]
          refine hr_q 8 ?_
          simp only [st0, st1]
          refine hr_q 9 ?_
          simp only [st0, st1]
          refine hr_q 10 ?_
          simp only [st0, st1]
          refine hr_q 11 ?_
          simp only [st0, st1]
          refine hr_q 12 ?_
          simp only [st0, st1]
          refine hr_o 13 (fun K hK => ?_)
          (try go_simp)
          ((with_reducible refine (layg_c g t q _ n (t * 4) (mdG F t q (b - t - q)) _ m fg bg fl _ HOGE.out.drewd rfl (by omega) (by omega) HMW.out).mono ?_); rintro e w6 ⟨rfl, hg6, B, hog6, hB6⟩; have y0 := (Blk.gb (show Blk wz.drew w.heap.size _ _ from HBG.out) hg6 (by intro e; injection e; omega)).cell 0; obtain ⟨y1, y2, y3, -, -⟩ := (Blk.gb (show Blk wz.drew (w.heap.size + 1) _ _ from HBP.out) hg6 (by intro e; injection e; omega)).facts3; have y4 : w6.cell? ⟨bx, ox, none⟩ = some (.slice A0 m cap0) := (cell_gb hg6 hbxz (by omega)).trans z0; simp only [List.getElem?_toArray, List.getElem?_cons_zero] at y0)
          (try go_wp2_with fail)
          refine hK.out _ _ ?_ (fun hHeld => ?_)
          · ((try dsimp only); go_simp)
          clear hK K
          simp only [st0, st1]
          refine hr_done (by kernel_rfl) ?_
          have HMQ := HMN.out
          have hg6' : wz.grownBy w6 (some g) := gb_trans (gb_drew (World.grownBy.refl _ _)) hg6
          have hZ6 := HBZ2.out.gb hg6' (by intro e; injection e; omega)
          have HO6 : Hid (OwnG w6 g n (layG (mdG F t q (b - t - q)) t q B (F 0).n fg bg fl)) := by rw [← HMQ]; exact hog6
          have HB6 : Hid (Below w.heap.size w w6) := below_gb HBZ5.out hg6' (by omega) HBZ5.out.size
          have HBQ : Hid (∀ j, j < q → w.heap.size + 2 < B j ∧ Rd w6 (some ⟨B j, 0, none⟩) (F 0).n (fun _ => blank fg bg fl)) := fun j hj => by
            obtain ⟨h1, h2⟩ := hB6 j hj
            rw [← HMQ]
            have h1 : wz.heap.size ≤ B j := h1
            exact ⟨by omega, h2⟩
          have HG6 := Lib.hid hg6
          clear hg6 hg6' hog6 hB6 HMQ hHeld y0 y1 y2 y3 y4 z0 s0 s1 s2 sf sl y9 yf9 r0 rl
          have HZ6 := Lib.hid hZ6
          have y9' := hZ6.cell 0
          have yf9' := hZ6.frozen
          have yl9' := hZ6.lt
          simp only [List.getElem?_toArray, List.getElem?_cons_zero] at y9'
          clear hZ6
          go_wp2_with fail
          generalize hwf : World.setCell w6 _ _ = wf
          have hg7 : w6.grownBy wf (some (w.heap.size + 2)) := by rw [← hwf]; (exact gbAll)
          have hz : Blk wf (w.heap.size + 2) 46 #[.slice (some ⟨g, 0, none⟩) n c5] := by rw [← hwf]; exact Blk.set_ HZ6.out 0 _
          clear hwf
          have hogf : OwnG wf g n (layG (mdG F t q (b - t - q)) t q B (F 0).n fg bg fl) := OwnG.gb (row := some (w.heap.size + 2)) HO6.out hg7 (by intro e; injection e; omega)
          have hbf : Below w.heap.size w wf := below_gb HB6.out hg7 (by omega) HB6.out.size
          have hxf := HX.out.below hbf
          have zz := hz.cell 0
          have zf := hz.frozen
          simp only [List.getElem?_toArray, List.getElem?_cons_zero] at zz
          refine bodyPost_ret (v := _) (by simp [results, Tryz.results49, go_sem, *]; try exact rfl) rfl ⟨g, c5, B, rfl, hbf, hc5, by omega, ⟨hogf.rdX hc5, fun r hr => ?_⟩, fun j hj => ?_⟩
          · obtain ⟨i, hi, rfl⟩ := listG_mem.1 hr
            unfold layG
            by_cases h1 : t ≤ i ∧ i < t + q
            · rw [if_pos h1]
              obtain ⟨hb1, hb2⟩ := HBQ.out (i - t) (by omega)
              exact ⟨hb2.gb hg7 (by omega), Nat.le_refl _, by show (F 0).n ≤ 5000; have := HMN.out; omega⟩
            · rw [if_neg h1]
              unfold mdG
              split
              · exact hxf.2 _ (listG_mem.2 ⟨i - q, by omega, rfl⟩)
              · exact hxf.2 _ (listG_mem.2 ⟨i, hi, rfl⟩)
          · have := (HBQ.out j hj).1
            omega
end Go.Proofs.YtlchffkabpfjpaaGreat.Row
end
section
/- Walk of grid.Clear. -/
namespace Go.Proofs.YtlchffkabpfjpaaGreat.Row
open Go.RowKit
def ClearPost (n : Nat) (F : Nat → Rw) (t q : Nat) (fg bg fl : Int) (w : World) (e : Ending) (w' : World) : Prop :=
  ∃ g c B, e = .returned (.agg #[.slice (some ⟨g, 0, none⟩) n c]) ∧ Below w.heap.size w w' ∧ n ≤ c ∧ w.heap.size ≤ g ∧
      RdR w' (.slice (some ⟨g, 0, none⟩) n c) (listG n (layG F t q B (F 0).n fg bg fl)) ∧ (∀ j, j < q → w.heap.size ≤ B j)
set_option maxRecDepth 100000 in
set_option maxHeartbeats 4000000 in
theorem clear_c (x : Value) (n : Nat) (F : Nat → Rw) (t q tz : Nat) (from_ to_ fg bg fl : Int) (w : World) (hx : RdR w x (listG n F)) (hs : gsaneB (listG n F) = true) (hp : penB fg bg fl = true) (hF : max 0 (min from_ n) = (t : Int)) (hT : max 0 (min to_ n) = (tz : Int)) (hq : t + q = max t tz) :
    Calls Tryz.prog 51 #[.agg #[x], .int .i64 from_, .int .i64 to_, .agg #[.int .i64 fg, .int .i64 bg, .int .i64 fl]] w (ClearPost n F t q fg bg fl w) := by
  obtain ⟨A, cap, rfl, hc⟩ := hx.1.len
  obtain ⟨hn1, hn2, hrows⟩ := gsane_wd hs
  have HRO := Lib.hid hrows
  obtain ⟨i3, hi3, hz3, hs3, hb3⟩ := row_parts
  have HI3 := Lib.hid hi3
  have HZ3 := Lib.hid hz3
  have HS3 := Lib.hid hs3
  have HB3_ := Lib.hid hb3
  have HLL : Hid ((listG n F).length ≤ 5000) := by show _ ≤ _; rw [listG_len]; omega
  rw [listG_len] at hc hx ⊢
  have HX := Lib.hid hx
  have HF := Lib.hid hF
  have HT := Lib.hid hT
  have htn : t ≤ n := by omega
  have htzn : tz ≤ n := by omega
  have hqb : t + q ≤ n := by omega
  have HQ := Lib.hid hq
  clear hi3 hz3 hs3 hb3 hx hq hrows hF hT
  go_enter Tryz.func51, Tryz.ntmps51
  go_wp2_with fail
  generalize hw0 : ((w.alloc _).alloc _).alloc _ = w0
  have hbw : Below w.heap.size w w0 := by rw [← hw0]; exact bcAll
  have hB1 : Blk w0 w.heap.size 46 #[.slice A n cap] := by rw [← hw0]; exact ((Blk.new _ _ _).alloc _).alloc _
  have hB2 : Blk w0 (w.heap.size + 1) 26 #[.int .i64 fg, .int .i64 bg, .int .i64 fl] := by rw [← hw0]; exact (Blk.new_at (by simp)).alloc _
  have hB3 : Blk w0 (w.heap.size + 2) 46 #[.slice none 0 0] := by rw [← hw0]; exact Blk.new_at (by simp)
  clear hw0
  have HBW := Lib.hid hbw
  have HB1 := Lib.hid hB1
  have HB2 := Lib.hid hB2
  have HBZ := Lib.hid hB3
  have hw0s : w.heap.size + 2 < w0.heap.size := hB3.lt
  clear hB1 hB2 hB3
  refine (usable_c (.slice A n cap) (listG n F) fg bg fl _ (HX.out.below hbw) HLL.out).mono ?_
  rintro e w1 ⟨rfl, hg⟩
  have hb1 := hg.below
  clear hg hbw
  have HBB := Lib.hid hb1
  have hB1 := HB1.out.below hb1 HB1.out.lt
  have r0 := hB1.cell 0
  have rl := hB1.lt
  simp only [List.getElem?_toArray, List.getElem?_cons_zero] at r0
  clear hb1 hB1
  go_upto_region 4 with fail
  go_cut [1, 2] from 19 to 26 (fun s1 s2 wc => w1 = wc ∧ s1 = .int .i64 (t : Int) ∧ s2 = .int .i64 (tz : Int))
  case first =>
    go_wp2
    all_goals (go_meet; case rel => exact ⟨rfl, by congr 1; have := HF.out; omega, by congr 1; have := HT.out; omega⟩)
  case rest =>
    obtain ⟨rfl, rfl, rfl⟩ := hcut
    go_wp2_with fail
    refine (rows_c (.slice A n cap) n F _ (HX.out.below (HBW.out.trans (HBB.out.mono HBW.out.size))) hn1 (by omega)).mono ?_
    rintro e w3 ⟨g, c5, rfl, hc5, hgg, hg3, hog⟩
    have hb3 := HBB.out.trans (hg3.mono HBB.out.size)
    have hbw3 := HBW.out.trans (hb3.mono HBW.out.size)
    have hg0 : w0.heap.size ≤ g := Nat.le_trans HBB.out.size hgg
    have hg3l := hog.lt
    have HB3 := Lib.hid hb3
    have HBW3 := Lib.hid hbw3
    have HOG := Lib.hid hog
    clear r0 rl hb3 hbw3 hg3 hog hgg
    have hbz := HBW3.out
    have hws := hbz.size
    have hwr0 : w.heap.size + 2 < w3.heap.size := by have := HB3.out.size; omega
    have hB1 := HB1.out.below HB3.out HB1.out.lt
    have hB2 := HB2.out.below HB3.out HB2.out.lt
    have hB3 := HBZ.out.below HB3.out HBZ.out.lt
    have hoz := HOG.out
    have hgl := hoz.lt
    have r0 := hB1.cell 0
    have rl := hB1.lt
    simp only [List.getElem?_toArray, List.getElem?_cons_zero] at r0
    have h0l : 0 < (listG n F).length := by rw [listG_len]; omega
    obtain ⟨bx, ox, rfl, hbxz, hat, -⟩ := (HX.out.below hbz).at_ h0l
    rw [listG_at, Nat.zero_mul, Nat.add_zero] at hat
    obtain ⟨z0, -, -, -⟩ := hat
    have hm1 := (sane_iff.1 (HRO.out 0 (by omega)).2)
    obtain ⟨hm0, hm1, -⟩ := hm1
    have HMW : Hid (max 1 (min ((F 0).n : Int) 4096) = ((F 0).n : Int)) := by show _ = _; omega
    have hbxw : bx ≠ g := by
      have := HX.out.ft.1 (by rw [listG_len]; omega) bx ox cap n rfl
      omega
    have HBG := Lib.hid hB1
    have HBP := Lib.hid hB2
    have HBZ2 := Lib.hid hB3
    have HBZ5 := Lib.hid hbz
    have HOGE := Lib.hid hoz
    obtain ⟨s0, s1, s2, sf, sl⟩ := hB2.facts3
    have y9 := hB3.cell 0
    have yf9 := hB3.frozen
    simp only [List.getElem?_toArray, List.getElem?_cons_zero] at y9
    obtain ⟨hz_, hhi⟩ : ∃ hz_, hz_ = t + q := ⟨_, rfl⟩
    have hpos : 0 < n := by omega
    have HHI := Lib.hid hhi
    have hlo1 : t ≤ hz_ := by omega
    have hlo3 : hz_ ≤ n := by omega
    clear hhi
    obtain ⟨m, hm⟩ : ∃ m, m = (F 0).n := ⟨_, rfl⟩
    rw [← hm] at z0 HMW hm0 hm1
    have HMN := Lib.hid hm
    generalize (F 0).A = A0 at z0
    generalize (F 0).cap = cap0 at z0
    clear hm
    clear hB1 hB2 hB3 hoz
    have hqq := HQ.out
    by_cases hq0 : q = 0
    · obtain ⟨A7, -, hrun, -⟩ := slice2 (E := encR) (P := Tryz.prog) 22 64 Tryz.underlying22 (by kernel_rfl) (some ⟨g, 0, none⟩) n c5 t t (Nat.le_refl t) htn hc5
      have hbl : t - t = 0 := by omega
      have hno : ¬ t < tz := by omega
      have hnoI : ¬ (t : Int) < (tz : Int) := by omega
      rw [hbl] at hrun
      have HQ0 := Lib.hid hq0
      have l2 : (0 : Int) ≤ t := by omega
      clear hq0 hqq
      go_wp2_with fail
      refine hr_start (S := (fun w' => w'.cell? ⟨w.heap.size, 0, none⟩ = some (.slice (some ⟨bx, ox, none⟩) n cap) ∧ w'.cell? ⟨w.heap.size + 1, 0, none⟩ = some (.int .i64 fg) ∧ w'.cell? ⟨w.heap.size + 1, 1, none⟩ = some (.int .i64 bg) ∧ w'.cell? ⟨w.heap.size + 1, 2, none⟩ = some (.int .i64 fl) ∧ w'.cell? ⟨bx, ox, none⟩ = some (.slice A0 m cap0))) (by kernel_rfl) rfl ?_ (fun hHeld => ?_)
      · ((try dsimp only); go_simp)
      refine hr_q 0 ?_
      simp only [st0, st1]
      refine hr_q 1 ?_
      simp only [st0, st1]
      refine hr_q 2 ?_
      simp only [st0, st1]
      refine hr_q 3 ?_
      simp only [st0, st1]
      refine hr_q 4 ?_
      simp only [st0, st1]
      refine hr_q 5 ?_
      simp only [st0, st1]
      refine hr_q 6 ?_
      simp only [st0, st1]
      refine hr_q 7 ?_
      simp only [st0, st1]
      refine hr_q 8 ?_
      simp only [st0, st1]
      refine hr_q 9 ?_
      simp only [st0, st1]
      refine hr_q 10 ?_
      simp only [st0, st1]
      refine hr_q 11 ?_
      simp only [st0, st1]
      refine hr_q 12 ?_
      simp only [st0, st1]
      refine hr_o 13 (fun K hK => ?_)
      (try go_simp)
      ((with_reducible refine (layg0_c _ _ _ fg bg fl _).mono ?_); rintro e w6 ⟨rfl, X6, d6, rfl⟩)
      (try go_wp2_with fail)
      refine hK.out _ _ ?_ (fun hHeld => ?_)
      · ((try dsimp only); go_simp)
      clear hK K
      simp only [st0, st1]
      refine hr_done (by kernel_rfl) ?_
      generalize hw6 : World.grow _ _ _ = w6
      have hq0 := HQ0.out
      have hb6 : Below w3.heap.size w3 w6 := by rw [← hw6]; exact bcAll
      clear hw6
      have HMQ := HMN.out
      have hZ6 := HBZ2.out.below hb6 HBZ2.out.lt
      have HO6 : Hid (OwnG w6 g n (layG F t q (fun _ => 0) (F 0).n fg bg fl)) := (HOGE.out.below hb6 HOGE.out.lt).congr fun i _ => by unfold layG; rw [if_neg (by omega)]
      have HB6 : Hid (Below w.heap.size w w6) := HBZ5.out.trans (hb6.mono HBZ5.out.size)
      have HBQ : Hid (∀ j, j < q → w.heap.size + 2 < (fun _ : Nat => 0) j ∧ Rd w6 (some ⟨(fun _ : Nat => 0) j, 0, none⟩) (F 0).n (fun _ => blank fg bg fl)) := fun j hj => absurd hj (by omega)
      clear hq0 hb6 HMQ hHeld z0 s0 s1 s2 sf sl y9 yf9 r0 rl
      have HZ6 := Lib.hid hZ6
      have y9' := hZ6.cell 0
      have yf9' := hZ6.frozen
      have yl9' := hZ6.lt
      simp only [List.getElem?_toArray, List.getElem?_cons_zero] at y9'
      clear hZ6
      go_wp2_with fail
      generalize hwf : World.setCell w6 _ _ = wf
      have hg7 : w6.grownBy wf (some (w.heap.size + 2)) := by rw [← hwf]; (exact gbAll)
      have hz : Blk wf (w.heap.size + 2) 46 #[.slice (some ⟨g, 0, none⟩) n c5] := by rw [← hwf]; exact Blk.set_ HZ6.out 0 _
      clear hwf
      have hogf : OwnG wf g n (layG F t q (fun _ => 0) (F 0).n fg bg fl) := OwnG.gb (row := some (w.heap.size + 2)) HO6.out hg7 (by intro e; injection e; omega)
      have hbf : Below w.heap.size w wf := below_gb HB6.out hg7 (by omega) HB6.out.size
      have hxf := HX.out.below hbf
      have zz := hz.cell 0
      have zf := hz.frozen
      simp only [List.getElem?_toArray, List.getElem?_cons_zero] at zz
      refine bodyPost_ret (v := _) (by simp [results, Tryz.results51, go_sem, *]; try exact rfl) rfl ⟨g, c5, (fun _ => 0), rfl, hbf, hc5, by omega, ⟨hogf.rdX hc5, fun r hr => ?_⟩, fun j hj => ?_⟩
      · obtain ⟨i, hi, rfl⟩ := listG_mem.1 hr
        unfold layG
        by_cases h1 : t ≤ i ∧ i < t + q
        · rw [if_pos h1]
          obtain ⟨hb1, hb2⟩ := HBQ.out (i - t) (by omega)
          exact ⟨hb2.gb hg7 (by omega), Nat.le_refl _, by show (F 0).n ≤ 5000; have := HMN.out; omega⟩
        · rw [if_neg h1]
          exact hxf.2 _ (listG_mem.2 ⟨i, hi, rfl⟩)
      · have := (HBQ.out j hj).1
        omega
    · obtain rfl : hz_ = tz := by have := HHI.out; omega
      have hyes : t < hz_ := by have := HHI.out; omega
      have hyesI : (t : Int) < (hz_ : Int) := by omega
      have hrun := slice2_at (P := Tryz.prog) 22 64 4 Tryz.underlying22 (by kernel_rfl) g 0 n c5 t hz_ q hlo1 (by omega) (by omega) (by have := HHI.out; omega)
      have l1 : ¬ c5 = t := by omega
      have l2 : (0 : Int) ≤ t := by omega
      have l4 : hz_ ≤ c5 := by omega
      clear hqq
      go_wp2_with fail
      refine hr_start (S := (fun w' => w'.cell? ⟨w.heap.size, 0, none⟩ = some (.slice (some ⟨bx, ox, none⟩) n cap) ∧ w'.cell? ⟨w.heap.size + 1, 0, none⟩ = some (.int .i64 fg) ∧ w'.cell? ⟨w.heap.size + 1, 1, none⟩ = some (.int .i64 bg) ∧ w'.cell? ⟨w.heap.size + 1, 2, none⟩ = some (.int .i64 fl) ∧ w'.cell? ⟨bx, ox, none⟩ = some (.slice A0 m cap0))) (by kernel_rfl) rfl ?_ (fun hHeld => ?_)
      · ((try dsimp only); go_simp)
      refine hr_q 0 ?_
      simp only [st0, st1]
      refine hr_q 1 ?_
      simp only [st0, st1]
      refine hr_q 2 ?_
      simp only [st0, st1]
      refine hr_q 3 ?_
      simp only [st0, st1]
      refine hr_q 4 ?_
      simp only [st0, st1]
      refine hr_q 5 ?_
      simp only [st0, st1]
      refine hr_q 6 ?_
      simp only [st0, st1]
      refine hr_q 7 ?_
      simp only [st0, st1]
      refine hr_q 8 ?_
      simp only [st0, st1]
      refine hr_q 9 ?_
      simp only [st0, st1]
      refine hr_q 10 ?_
      simp only [st0, st1]
      refine hr_q 11 ?_
      simp only [st0, st1]
      refine hr_q 12 ?_
      simp only [st0, st1]
      refine hr_o 13 (fun K hK => ?_)
      (try go_simp)
      ((with_reducible refine (layg_c g t q _ n (t * 4) F _ m fg bg fl _ HOGE.out.drewd rfl (by omega) (by omega) HMW.out).mono ?_); rintro e w6 ⟨rfl, hg6, B, hog6, hB6⟩; have y0 := (Blk.gb (show Blk w3.drew w.heap.size _ _ from HBG.out) hg6 (by intro e; injection e; omega)).cell 0; obtain ⟨y1, y2, y3, -, -⟩ := (Blk.gb (show Blk w3.drew (w.heap.size + 1) _ _ from HBP.out) hg6 (by intro e; injection e; omega)).facts3; have y4 : w6.cell? ⟨bx, ox, none⟩ = some (.slice A0 m cap0) := (cell_gb hg6 hbxz (by omega)).trans z0; simp only [List.getElem?_toArray, List.getElem?_cons_zero] at y0)
      (try go_wp2_with fail)
      refine hK.out _ _ ?_ (fun hHeld => ?_)
      · ((try dsimp only); go_simp)
      clear hK K
      simp only [st0, st1]
      refine hr_done (by kernel_rfl) ?_
      have HMQ := HMN.out
      have hg6' : w3.grownBy w6 (some g) := gb_trans (gb_drew (World.grownBy.refl _ _)) hg6
      have hZ6 := HBZ2.out.gb hg6' (by intro e; injection e; omega)
      have HO6 : Hid (OwnG w6 g n (layG F t q B (F 0).n fg bg fl)) := by rw [← HMQ]; exact hog6
      have HB6 : Hid (Below w.heap.size w w6) := below_gb HBZ5.out hg6' (by omega) HBZ5.out.size
      have HBQ : Hid (∀ j, j < q → w.heap.size + 2 < B j ∧ Rd w6 (some ⟨B j, 0, none⟩) (F 0).n (fun _ => blank fg bg fl)) := fun j hj => by
        obtain ⟨h1, h2⟩ := hB6 j hj
        rw [← HMQ]
        have h1 : w3.heap.size ≤ B j := h1
        exact ⟨by omega, h2⟩
      have HG6 := Lib.hid hg6
      clear hg6 hg6' hog6 hB6 HMQ hHeld y0 y1 y2 y3 y4 z0 s0 s1 s2 sf sl y9 yf9 r0 rl
      have HZ6 := Lib.hid hZ6
      have y9' := hZ6.cell 0
      have yf9' := hZ6.frozen
      have yl9' := hZ6.lt
      simp only [List.getElem?_toArray, List.getElem?_cons_zero] at y9'
      clear hZ6
      go_wp2_with fail
      generalize hwf : World.setCell w6 _ _ = wf
      have hg7 : w6.grownBy wf (some (w.heap.size + 2)) := by rw [← hwf]; (exact gbAll)
      have hz : Blk wf (w.heap.size + 2) 46 #[.slice (some ⟨g, 0, none⟩) n c5] := by rw [← hwf]; exact Blk.set_ HZ6.out 0 _
      clear hwf
      have hogf : OwnG wf g n (layG F t q B (F 0).n fg bg fl) := OwnG.gb (row := some (w.heap.size + 2)) HO6.out hg7 (by intro e; injection e; omega)
      have hbf : Below w.heap.size w wf := below_gb HB6.out hg7 (by omega) HB6.out.size
      have hxf := HX.out.below hbf
      have zz := hz.cell 0
      have zf := hz.frozen
      simp only [List.getElem?_toArray, List.getElem?_cons_zero] at zz
      refine bodyPost_ret (v := _) (by simp [results, Tryz.results51, go_sem, *]; try exact rfl) rfl ⟨g, c5, B, rfl, hbf, hc5, by omega, ⟨hogf.rdX hc5, fun r hr => ?_⟩, fun j hj => ?_⟩
      · obtain ⟨i, hi, rfl⟩ := listG_mem.1 hr
        unfold layG
        by_cases h1 : t ≤ i ∧ i < t + q
        · rw [if_pos h1]
          obtain ⟨hb1, hb2⟩ := HBQ.out (i - t) (by omega)
          exact ⟨hb2.gb hg7 (by omega), Nat.le_refl _, by show (F 0).n ≤ 5000; have := HMN.out; omega⟩
        · rw [if_neg h1]
          exact hxf.2 _ (listG_mem.2 ⟨i, hi, rfl⟩)
      · have := (HBQ.out j hj).1
        omega
end Go.Proofs.YtlchffkabpfjpaaGreat.Row
end
