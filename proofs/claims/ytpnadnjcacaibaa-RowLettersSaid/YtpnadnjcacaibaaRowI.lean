/- Walk of row.Letters. -/
import Derived.Test.YtpnadnjcacaibaaRowF
import Derived.Test.YtpnadnjcacaibaaInts
import Derived.Deep.Cut
namespace Go.Proofs.Ytpnadnjcacaibaa.Row
open Go.RowKit

/-- a cell's letter and marks -/
def lettersOf (c : Cl) : List Int := if c.w = 0 then [] else [if c.r = 0 then 32 else c.r] ++ ((if c.m0 = 0 then [] else [c.m0]) ++ (if c.m1 = 0 then [] else [c.m1]))
def lettersL (f : Nat → Cl) (a : Nat) : Nat → List Int
  | 0 => []
  | k + 1 => lettersL f a k ++ lettersOf (f (a + k))
theorem lettersOf_le (c : Cl) : (lettersOf c).length ≤ 3 := by
  unfold lettersOf
  split
  · simp
  · split <;> (try split) <;> (try split) <;> simp
theorem lettersL_le (f : Nat → Cl) (a k : Nat) : (lettersL f a k).length ≤ 3 * k := by
  induction k with
  | zero => simp [lettersL]
  | succ k ih =>
    have := lettersOf_le (f (a + k))
    simp only [lettersL, List.length_append]
    omega
theorem ownI_alloc {w : World} {base e : Nat} {v : Value} {zs : List Int} (h : OwnI w base e v zs) (o : Obj) : OwnI (w.alloc o) base e v zs := h.below ((Below.refl w.heap.size w).alloc (Nat.le_refl _) o) (Nat.le_refl _)
theorem rdI_one (w : World) (b : Nat) (z : Int) (t : TypeId) (h : b = w.heap.size) : RdI (w.alloc (.cells #[.int .i64 z] t)) (.slice (some ⟨b, 0, none⟩) 1 1) [z] := by
  subst h
  refine ⟨_, _, rfl, fun _ => ⟨_, _, rfl, by simp, fun j u hu => ?_⟩⟩
  match j, hu with
  | 0, hu => simp at hu; subst hu; exact (Blk.new w t _).cell 0
theorem wp_append_ints {P : Program} {w : World} {o : Oper} {a : Act} {K : Act → World → Prop} {Q : Exit → Act → World → Prop} (s x : Operand) (t : TypeId)
    (ho : o.op = .call { callee := .builtin .append, args := #[s, x], argTypes := #[t, t] })
    (base e : TypeId) (i : TypeInfo) (ht : P.underlying t = some (.slice e)) (hi : P.info? e = some i) (hz : i.zero = some (.int .i64 0)) (hsize : i.size = 1) (hby : i.bytes = 8)
    (v xv : Value) (xs zs : List Int) (hs : a.eval s = v) (hx : a.eval x = xv) (hown : OwnI w base e v xs) (hr : RdI w xv zs) (h63 : xs.length + zs.length ≤ 65536) (hbase : base ≤ w.heap.size)
    (h : ∀ v' w', OwnI w' base e v' (xs ++ zs) → w.grownBy w' v.ownBlock → K (a.put o.dst v') w') : o.wp P a w K Q := by
  obtain ⟨v', w', hrun, h2, h3, h4⟩ := run_append_ints (P := P) w base t o.type e i ht hi hz hsize hby v xv xs zs hown hr h63 hbase
  unfold Oper.wp
  simp [execOp, ho, resolve, invoke, builtin, hs, hx, hrun, Result.andThen]
  exact h v' w' h2 h3
theorem below_drew {B : Nat} {a w : World} (h : Below B a w) : Below B a w.drew := ⟨h.os, h.tape, h.output, h.size, h.block⟩
theorem ownI_drew {w : World} {base e : Nat} {v : Value} {zs : List Int} (h : OwnI w base e v zs) : OwnI w.drew base e v zs := h
theorem blk_drew {w : World} {g : Nat} {t : TypeId} {cs : Array Value} (h : Blk w g t cs) : Blk w.drew g t cs := h
theorem rd_drew {w : World} {A : Option Addr} {n : Nat} {f : Nat → Cl} (h : Rd w A n f) : Rd w.drew A n f := h
theorem int_info : (Try.prog.info? 3).map (fun i => (i.zero, i.size, i.bytes)) = some (some (.int .i64 0), 1, 8) := by kernel_rfl

set_option maxRecDepth 100000 in
set_option maxHeartbeats 4000000 in
theorem letters_c (A : Option Addr) (n cap : Nat) (f : Nat → Cl) (wb : Bool) (dir : Int) (ex : Bool) (x y : Int) (F T : Nat) (w : World) (hr : Rd w A n f) (hs : saneB n f dir = true) (hcap : n ≤ cap)
    (hF : max 0 (min x n) = (F : Int)) (hT : max (F : Int) (max 0 (min y n)) = (T : Int)) (hFT : F < T) (hTn : T ≤ n) :
    Calls Try.prog 48 #[.agg #[.slice A n cap, .bool wb, .int .i64 dir, .bool ex], .int .i64 x, .int .i64 y] w fun e w' => ∃ v, e = .returned v ∧ Below w.heap.size w w' ∧ OwnI w' w.heap.size 3 v (lettersL f F (T - F)) := by
  obtain ⟨hn1, hn2⟩ := sane_len hs
  obtain ⟨i3, hi3, hz3, hs3, hb3⟩ := info_parts int_info
  have HF := Lib.hid hF
  have HT := Lib.hid hT
  clear hF hT
  have HSN := Lib.hid hs
  have HRD := Lib.hid hr
  obtain ⟨bf, of_, rfl, hbf, hcf⟩ := hr (by omega)
  have HI3 := Lib.hid hi3
  have HZ3 := Lib.hid hz3
  have HS3 := Lib.hid hs3
  have HB3 := Lib.hid hb3
  clear hcf hi3 hz3 hs3 hb3
  go_enter Try.func48, Try.ntmps48
  go_wp2_with fail
  generalize hw0 : w.alloc _ = w0
  have hbw : Below w.heap.size w w0 := by rw [← hw0]; (repeat (first | (with_reducible exact Below.refl _ _) | (with_reducible assumption) | (with_reducible refine Below.grow ?_ ?_ _ _) | (with_reducible refine Below.drewN' ?_ _) | (with_reducible refine Below.drew ?_) | (with_reducible refine Below.alloc ?_ ?_ _) | (with_reducible refine Below.setCell ?_ ?_ _) | omega | (focus (simp; done)) | (focus (simp; omega))))
  have hB1 : Blk w0 w.heap.size 24 #[.slice (some ⟨bf, of_, none⟩) n cap, .bool wb, .int .i64 dir, .bool ex] := by rw [← hw0]; exact Blk.new _ _ _
  clear hw0
  obtain ⟨r0, r1, r2, r3, rf, rl⟩ := hB1.facts4
  refine (sane_c (some ⟨bf, of_, none⟩) n cap f wb dir ex _ (hr.below hbw) (by omega)).mono ?_
  rintro e w1 ⟨rfl, hg⟩
  replace hg := hg.below
  replace hbw := hbw.trans (hg.mono hbw.size); replace hB1 := hB1.below hg hB1.lt; clear r0 r1 r2 r3 rf rl; obtain ⟨r0, r1, r2, r3, rf, rl⟩ := hB1.facts4; clear hg
  go_wp2_with fail
  refine (between_c (some ⟨bf, of_, none⟩) n cap wb dir ex x y F T _ (by omega) HF.out HT.out).mono ?_
  rintro e w2 ⟨rfl, hg⟩
  replace hg := hg.below
  replace hbw := hbw.trans (hg.mono hbw.size); replace hB1 := hB1.below hg hB1.lt; clear r0 r1 r2 r3 rf rl; obtain ⟨r0, r1, r2, r3, rf, rl⟩ := hB1.facts4; clear hg
  have l1 : (0 : Int) ≤ F := by omega
  have l2 : (F : Int) ≤ T := by omega
  have l3 : (T : Int) ≤ cap := by omega
  have l4 : ¬ (cap = F) := by omega
  go_wp2_with fail
  have hbw2 : Below w.heap.size w w2 := hbw
  have hr2 := hr.below hbw2
  clear hB1 r0 r1 r2 r3 rf rl hbw hr hs
  go_loopw [7, 28] (fun v i wz => ∃ k : Nat, k ≤ T - F ∧ i = .int .i64 k ∧ OwnI wz w.heap.size 3 v (lettersL f F k) ∧ Below w.heap.size w wz ∧ Rd wz (some ⟨bf, of_, none⟩) n f) (fun _ i _ => (T - F) - (intOf i).toNat)
  case atStart => exact ⟨0, Nat.zero_le _, rfl, OwnI.nil _ _ _, hbw2, hr2⟩
  case round =>
    obtain ⟨k, hk, rfl, hv, hbz, hrz⟩ := hrel
    by_cases hlt : k < T - F
    · obtain ⟨b', o', e1, hbl, hcf⟩ := hrz (by omega)
      injection e1 with e1
      injection e1 with e1 e2
      subst e1 e2
      have hck := hcf (F + k) (by omega)
      have hfz := fits_iff.1 (fits_of_sane HSN.out (i := F + k) (by omega))
      rw [show of_ + (F + k) * 7 = of_ + F * 7 + k * 7 by omega] at hck
      have HLS : Hid (lettersL f F (k + 1) = lettersL f F k ++ lettersOf (f (F + k))) := rfl
      generalize f (F + k) = cl at *
      obtain ⟨R, m0, m1, W, fg, bg, fl⟩ := cl
      obtain ⟨c0, c1, c2, c3, c4, c5, c6⟩ := hck
      simp only at c0 c1 c2 c3 c4 c5 c6 hfz
      clear hcf
      have i0 : ∀ (a b : Int) (w : World), (Instr.index 25 (.agg #[.int .i64 a, .int .i64 b]) (.int .i64 0)).run Try.prog w = .ok (.int .i64 a) w := fun _ _ _ => by kernel_rfl
      have i1 : ∀ (a b : Int) (w : World), (Instr.index 25 (.agg #[.int .i64 a, .int .i64 b]) (.int .i64 1)).run Try.prog w = .ok (.int .i64 b) w := fun _ _ _ => by kernel_rfl
      have m1' : k < T - F := hlt
      have m2 : (k : Int) < ((T - F : Nat) : Int) := by omega
      have hws := hbz.size
      have hle := lettersL_le f F k
      by_cases hW : W = 0
      · --<1
        subst hW
        clear hfz
        go_wp2_with fail
        go_roundw
        case rel => exact ⟨k + 1, by omega, by go_num, by rw [HLS.out]; simpa [lettersOf] using hv.below (B := wr.heap.size) (by (repeat (first | (with_reducible exact Below.refl _ _) | (with_reducible assumption) | (with_reducible refine Below.grow ?_ ?_ _ _) | (with_reducible refine Below.drewN' ?_ _) | (with_reducible refine Below.drew ?_) | (with_reducible refine Below.alloc ?_ ?_ _) | (with_reducible refine Below.setCell ?_ ?_ _) | omega | (focus (simp; done)) | (focus (simp; omega))))) (Nat.le_refl _), by (repeat (first | (with_reducible exact Below.refl _ _) | (with_reducible assumption) | (with_reducible refine Below.grow ?_ ?_ _ _) | (with_reducible refine Below.drewN' ?_ _) | (with_reducible refine Below.drew ?_) | (with_reducible refine Below.alloc ?_ ?_ _) | (with_reducible refine Below.setCell ?_ ?_ _) | omega | (focus (simp; done)) | (focus (simp; omega)))), hrz.below (by (repeat (first | (with_reducible exact Below.refl _ _) | (with_reducible assumption) | (with_reducible refine Below.grow ?_ ?_ _ _) | (with_reducible refine Below.drewN' ?_ _) | (with_reducible refine Below.drew ?_) | (with_reducible refine Below.alloc ?_ ?_ _) | (with_reducible refine Below.setCell ?_ ?_ _) | omega | (focus (simp; done)) | (focus (simp; omega)))))⟩
        case measure => simp [intOf]; omega
        -->1
      · have hW' : (W == 0) = false := by simpa using hW
        have HW := Lib.hid hW
        clear hW
        by_cases hR : R = 0
        · --<2
          subst hR
          obtain rfl : m0 = 0 := by by_cases e : m0 = 0; exact e; exact absurd rfl (hfz.2.2.1 e)
          obtain rfl : m1 = 0 := hfz.2.2.2.2.2.2.2.2.1 rfl
          clear hfz
          go_upto_region 11 with fail
          generalize hwb : wr.alloc _ = wb
          have hvb := ownI_alloc hv (.cells #[.int .i64 (0), .int .i64 (0), .int .i64 (0), .int .i64 W, .int .i64 fg, .int .i64 bg, .int .i64 fl] 29)
          have hbb : Below w.heap.size w wb := by rw [← hwb]; (repeat (first | (with_reducible exact Below.refl _ _) | (with_reducible assumption) | (with_reducible refine Below.grow ?_ ?_ _ _) | (with_reducible refine Below.drewN' ?_ _) | (with_reducible refine Below.drew ?_) | (with_reducible refine Below.alloc ?_ ?_ _) | (with_reducible refine Below.setCell ?_ ?_ _) | omega | (focus (simp; done)) | (focus (simp; omega))))
          have hrw : Rd wb (some ⟨bf, of_, none⟩) n f := hrz.below (by rw [← hwb]; (repeat (first | (with_reducible exact Below.refl _ _) | (with_reducible assumption) | (with_reducible refine Below.grow ?_ ?_ _ _) | (with_reducible refine Below.drewN' ?_ _) | (with_reducible refine Below.drew ?_) | (with_reducible refine Below.alloc ?_ ?_ _) | (with_reducible refine Below.setCell ?_ ?_ _) | omega | (focus (simp; done)) | (focus (simp; omega)))))
          have hBx : Blk wb wr.heap.size 29 #[.int .i64 (0), .int .i64 (0), .int .i64 (0), .int .i64 W, .int .i64 fg, .int .i64 bg, .int .i64 fl] := by rw [← hwb]; exact Blk.new _ _ _
          rw [hwb] at hvb
          clear hwb hv hbz hrz
          obtain ⟨q0, q1, q2, q3, q4, q5, q6, qf, ql⟩ := hBx.facts7
          refine wp_region_lit ?_
          iterate 6 go_step
          refine wpList_append_ints rfl _ _ _ rfl w.heap.size 3 i3 rfl HI3.out HZ3.out HS3.out HB3.out _ _ (lettersL f F k) [32] rfl rfl (ownI_alloc hvb _) (rdI_one _ _ _ _ (by simp)) (by (try simp only [List.length_append]); simp only [List.length_cons, List.length_nil]; omega) (by rw [World.size_alloc]; exact Nat.le_succ_of_le hbb.size) ?_
          intro v1 w3 hv1 hgb hor
          have hb3 : Below w.heap.size w w3 := below_own (hbb.alloc hbb.size _) hgb (fun g hg => (hvb.lt hg).1) (by rw [World.size_alloc]; exact Nat.le_succ_of_le hbb.size)
          have hB3 := (hBx.alloc (.cells #[.int .i64 (32)] 3)).gb hgb ((ownI_alloc hvb _).ne_ (hBx.alloc (.cells #[.int .i64 (32)] 3)) (by decide))
          clear hgb hor
          clear hvb hbb hBx q0 q1 q2 q3 q4 q5 q6 qf ql
          obtain ⟨q0, q1, q2, q3, q4, q5, q6, qf, ql⟩ := hB3.facts7
          go_wp2_with fail
          refine wp_loop_rounds 3 ?_
          iterate 3 (rw [rounds_succ]; go_wp2_with fail)
          go_roundw
          case rel => exact ⟨k + 1, by omega, by go_num, by rw [HLS.out]; simpa [lettersOf, HW.out] using hv1, hb3, HRD.out.below hb3⟩
          case measure => simp [intOf]; omega
          -->2
        · --<3
          have hR' : (R == 0) = false := by simpa using hR
          have HR := Lib.hid hR
          clear hR
          go_upto_region 8 with fail
          generalize hwb : wr.alloc _ = wb
          have hvb := ownI_alloc hv (.cells #[.int .i64 (R), .int .i64 (m0), .int .i64 (m1), .int .i64 W, .int .i64 fg, .int .i64 bg, .int .i64 fl] 29)
          have hbb : Below w.heap.size w wb := by rw [← hwb]; (repeat (first | (with_reducible exact Below.refl _ _) | (with_reducible assumption) | (with_reducible refine Below.grow ?_ ?_ _ _) | (with_reducible refine Below.drewN' ?_ _) | (with_reducible refine Below.drew ?_) | (with_reducible refine Below.alloc ?_ ?_ _) | (with_reducible refine Below.setCell ?_ ?_ _) | omega | (focus (simp; done)) | (focus (simp; omega))))
          have hrw : Rd wb (some ⟨bf, of_, none⟩) n f := hrz.below (by rw [← hwb]; (repeat (first | (with_reducible exact Below.refl _ _) | (with_reducible assumption) | (with_reducible refine Below.grow ?_ ?_ _ _) | (with_reducible refine Below.drewN' ?_ _) | (with_reducible refine Below.drew ?_) | (with_reducible refine Below.alloc ?_ ?_ _) | (with_reducible refine Below.setCell ?_ ?_ _) | omega | (focus (simp; done)) | (focus (simp; omega)))))
          have hBx : Blk wb wr.heap.size 29 #[.int .i64 (R), .int .i64 (m0), .int .i64 (m1), .int .i64 W, .int .i64 fg, .int .i64 bg, .int .i64 fl] := by rw [← hwb]; exact Blk.new _ _ _
          rw [hwb] at hvb
          clear hwb hv hbz hrz
          obtain ⟨q0, q1, q2, q3, q4, q5, q6, qf, ql⟩ := hBx.facts7
          refine wp_region_lit ?_
          iterate 12 go_step
          refine wpList_append_ints rfl _ _ _ rfl w.heap.size 3 i3 rfl HI3.out HZ3.out HS3.out HB3.out _ _ (lettersL f F k) [R] rfl rfl (ownI_alloc hvb _) (rdI_one _ _ _ _ (by simp)) (by (try simp only [List.length_append]); simp only [List.length_cons, List.length_nil]; omega) (by rw [World.size_alloc]; exact Nat.le_succ_of_le hbb.size) ?_
          intro v1 w3 hv1 hgb hor
          have hb3 : Below w.heap.size w w3 := below_own (hbb.alloc hbb.size _) hgb (fun g hg => (hvb.lt hg).1) (by rw [World.size_alloc]; exact Nat.le_succ_of_le hbb.size)
          have hB3 := (hBx.alloc (.cells #[.int .i64 (R)] 3)).gb hgb ((ownI_alloc hvb _).ne_ (hBx.alloc (.cells #[.int .i64 (R)] 3)) (by decide))
          clear hgb hor
          clear hvb hbb hBx q0 q1 q2 q3 q4 q5 q6 qf ql
          obtain ⟨q0, q1, q2, q3, q4, q5, q6, qf, ql⟩ := hB3.facts7
          go_wp2_with fail
          by_cases hm0 : m0 = 0
          · subst hm0
            obtain rfl : m1 = 0 := hfz.2.2.2.2.2.2.2.2.1 rfl
            clear hfz
            refine wp_loop_rounds 3 ?_
            iterate 3 (rw [rounds_succ]; go_wp2_with fail)
            go_roundw
            case rel => exact ⟨k + 1, by omega, by go_num, by rw [HLS.out]; simpa [lettersOf, HW.out, HR.out] using hv1, hb3, HRD.out.below hb3⟩
            case measure => simp [intOf]; omega
          · have hm0' : (m0 != 0) = true := by simpa using hm0
            have HM0 := Lib.hid hm0
            clear hm0
            refine wp_loop_rounds 3 ?_
            rw [rounds_succ]
            go_upto_region 16 with fail
            refine wp_region_lit ?_
            iterate 9 go_step
            refine wpList_append_ints rfl _ _ _ rfl w.heap.size 3 i3 rfl HI3.out HZ3.out HS3.out HB3.out _ _ (lettersL f F k ++ [R]) [m0] rfl rfl (ownI_alloc hv1 _) (rdI_one _ _ _ _ (by simp)) (by (try simp only [List.length_append]); simp only [List.length_cons, List.length_nil]; omega) (by rw [World.size_alloc]; exact Nat.le_succ_of_le hb3.size) ?_
            intro v2 w4 hv2 hgb hor
            have hb4 : Below w.heap.size w w4 := below_own (hb3.alloc hb3.size _) hgb (fun g hg => (hv1.lt hg).1) (by rw [World.size_alloc]; exact Nat.le_succ_of_le hb3.size)
            have hB4 := (hB3.alloc (.cells #[.int .i64 (m0)] 3)).gb hgb ((ownI_alloc hv1 _).ne_ (hB3.alloc (.cells #[.int .i64 (m0)] 3)) (by decide))
            clear hgb hor
            clear hv1 hb3 hB3 q0 q1 q2 q3 q4 q5 q6 qf ql
            obtain ⟨q0, q1, q2, q3, q4, q5, q6, qf, ql⟩ := hB4.facts7
            by_cases hm1 : m1 = 0
            · subst hm1
              clear hfz
              go_wp2_with fail
              iterate 2 (rw [rounds_succ]; go_wp2_with fail)
              go_roundw
              case rel => exact ⟨k + 1, by omega, by go_num, by rw [HLS.out]; simpa [lettersOf, HW.out, HR.out, HM0.out] using hv2, hb4, HRD.out.below hb4⟩
              case measure => simp [intOf]; omega
            · have hm1' : (m1 != 0) = true := by simpa using hm1
              have HM1 := Lib.hid hm1
              clear hm1
              go_wp2_with fail
              rw [rounds_succ]
              go_upto_region 16 with fail
              refine wp_region_lit ?_
              iterate 9 go_step
              refine wpList_append_ints rfl _ _ _ rfl w.heap.size 3 i3 rfl HI3.out HZ3.out HS3.out HB3.out _ _ (lettersL f F k ++ [R] ++ [m0]) [m1] rfl rfl (ownI_alloc hv2 _) (rdI_one _ _ _ _ (by simp)) (by (try simp only [List.length_append]); simp only [List.length_cons, List.length_nil]; omega) (by rw [World.size_alloc]; exact Nat.le_succ_of_le hb4.size) ?_
              intro v3 w5 hv3 hgb hor
              have hb5 : Below w.heap.size w w5 := below_own (hb4.alloc hb4.size _) hgb (fun g hg => (hv2.lt hg).1) (by rw [World.size_alloc]; exact Nat.le_succ_of_le hb4.size)
              have hB5 := (hB4.alloc (.cells #[.int .i64 (m1)] 3)).gb hgb ((ownI_alloc hv2 _).ne_ (hB4.alloc (.cells #[.int .i64 (m1)] 3)) (by decide))
              clear hgb hor
              go_wp2_with fail
              rw [rounds_succ]
              go_wp2_with fail
              go_roundw
              case rel => exact ⟨k + 1, by omega, by go_num, by rw [HLS.out]; simpa [lettersOf, HW.out, HR.out, HM0.out, HM1.out] using hv3, hb5, HRD.out.below hb5⟩
              case measure => simp [intOf]; omega
          -->3
    · obtain rfl : k = T - F := by omega
      go_wp2
      go_ret
      exact ⟨u7, rfl, hbz, hv⟩
end Go.Proofs.Ytpnadnjcacaibaa.Row
