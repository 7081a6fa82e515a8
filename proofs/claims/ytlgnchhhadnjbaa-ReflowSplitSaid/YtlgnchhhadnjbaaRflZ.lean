/- Walk of lapwinglaw11.ReflowSplit. -/
import Derived.Test.YtlgnchhhadnjbaaRflY
import Derived.Test.YtlgnchhhadnjbaaRflV
import Derived.Test.YtlgnchhhadnjbaaRflLW
namespace Go.Proofs.Ytlgnchhhadnjbaa.Row
open Go.RowKit
set_option maxRecDepth 100000 in
set_option maxHeartbeats 4000000 in
theorem split_many (A : Option Addr) (n cap : Nat) (cs : List Cl) (dir : Int) (ex : Bool) (v : Int) (w : World) (_hx : RdX encC w (.slice A n cap) cs) (_hn : n = cs.length) (_hl : n ≤ maxLen) (h : 200 < n) : Calls Try.prog 7 #[.agg #[.slice A n cap, .int .i64 dir, .bool ex], .int .i64 v] w fun e w' => e = .returned (.bool true) ∧ Grew w w' := by
  have hb : decide ((200 : Int) < n) = true := by simp; omega
  have hb2 : decide (200 < n) = true := by simpa using h
  clear h _hl _hn _hx
  go_enter Try.func7, Try.ntmps7
  go_wp2_with (go_at_call 8; (with_reducible refine (awake11_c _).mono ?_); rintro e w1 ⟨rfl, XA, dA, rfl⟩)
  go_ret
  exact ⟨rfl, (Below.toGrow (by repeat (first | (with_reducible exact Below.refl _ _) | (with_reducible assumption) | (with_reducible refine Below.grow ?_ ?_ _ _) | (with_reducible refine Below.drewN' ?_ _) | (with_reducible refine Below.drew ?_) | (with_reducible refine Below.alloc ?_ ?_ _) | (with_reducible refine Below.setCell ?_ ?_ _) | omega | (focus (simp; done)) | (focus (simp; omega)))))⟩
set_option maxRecDepth 100000 in
set_option maxHeartbeats 4000000 in
theorem split_insane (A : Option Addr) (n cap : Nat) (cs : List Cl) (dir : Int) (ex : Bool) (v : Int) (w : World) (hx : RdX encC w (.slice A n cap) cs) (hn : n = cs.length) (_hl : n ≤ maxLen) (h : n ≤ 200) (hs : sanL ⟨cs, dir, ex⟩ = false) : Calls Try.prog 7 #[.agg #[.slice A n cap, .int .i64 dir, .bool ex], .int .i64 v] w fun e w' => e = .returned (.bool true) ∧ Grew w w' := by
  have hb : decide ((200 : Int) < n) = false := by simp; omega
  have hb2 : decide (200 < n) = false := by simp; omega
  have HX := Lib.hid hx
  have HN := Lib.hid hn
  have HN7 : Hid (n ≤ 10000000) := by show _ ≤ _; omega
  have HSL := Lib.hid hs
  clear h _hl hn hx hs
  go_enter Try.func7, Try.ntmps7
  go_wp2_with (first | (go_at_call 8; (with_reducible refine (awake11_c _).mono ?_); rintro e w1 ⟨rfl, XA, dA, rfl⟩) | (go_at_call 17; (with_reducible refine (saneL11_c A n cap cs dir ex _ (HX.out.below (by (repeat (first | (with_reducible exact Below.refl _ _) | (with_reducible assumption) | (with_reducible refine Below.grow ?_ ?_ _ _) | (with_reducible refine Below.drewN' ?_ _) | (with_reducible refine Below.drew ?_) | (with_reducible refine Below.alloc ?_ ?_ _) | (with_reducible refine Below.setCell ?_ ?_ _) | omega | (focus (simp; done)) | (focus (simp; omega)))))) HN.out HN7.out).mono ?_); rw [HSL.out]; rintro e w2 ⟨rfl, X2, d2, rfl⟩))
  go_ret
  exact ⟨rfl, (Below.toGrow (by repeat (first | (with_reducible exact Below.refl _ _) | (with_reducible assumption) | (with_reducible refine Below.grow ?_ ?_ _ _) | (with_reducible refine Below.drewN' ?_ _) | (with_reducible refine Below.drew ?_) | (with_reducible refine Below.alloc ?_ ?_ _) | (with_reducible refine Below.setCell ?_ ?_ _) | omega | (focus (simp; done)) | (focus (simp; omega)))))⟩
theorem below_more {w v u : World} (h : Below w.heap.size w v) (k : Below v.heap.size v u) : Below w.heap.size w u := h.trans (k.mono h.size)
theorem wide_le2 {p : List Cl} (h : ∀ c ∈ p, okC c = true) : p.length ≤ (wide p).length := by
  induction p with
  | nil => exact Nat.zero_le _
  | cons c p ih =>
    have := ih (fun d hd => h d (List.mem_cons_of_mem _ hd))
    have := whole_len2 (h c (by simp))
    rw [wide_cons, List.length_append, List.length_cons]
    omega
set_option maxRecDepth 100000 in
set_option maxHeartbeats 4000000 in
theorem split_good (A : Option Addr) (n cap : Nat) (cs : List Cl) (dir : Int) (ex : Bool) (v : Int) (w : World) (hx : RdX encC w (.slice A n cap) cs) (hn : n = cs.length) (_hl : n ≤ maxLen) (h : n ≤ 200) (hs : sanL ⟨cs, dir, ex⟩ = true) : Calls Try.prog 7 #[.agg #[.slice A n cap, .int .i64 dir, .bool ex], .int .i64 v] w fun e w' => e = .returned (.bool true) ∧ Grew w w' := by
  have hb : decide ((200 : Int) < n) = false := by simp; omega
  have hb2 : decide (200 < n) = false := by simp; omega
  have HX := Lib.hid hx
  have HN := Lib.hid hn
  have HN7 : Hid (n ≤ 10000000) := by show _ ≤ _; omega
  have HSL := Lib.hid hs
  obtain ⟨le, hle⟩ : ∃ le : Ln, le = ⟨A, cap, cs, dir, ex⟩ := ⟨_, rfl⟩
  have HLX := Lib.hid hle
  obtain ⟨a, hmask, ha5⟩ := maskT v
  obtain ⟨q, hq⟩ : ∃ q, a + 2 = q := ⟨_, rfl⟩
  have hwr : IntKind.i64.wrap (2 + (a : Int)) = (q : Int) := by rw [IntWalk.i64_left, IntWalk.wrap64_in _ (by omega)]; omega
  have hq2 : 2 ≤ q := by omega
  have hq5 : q ≤ 257 := by omega
  have HWN : Hid (wN (q : Int) = q) := by show _ = _; unfold wN; omega
  have HOKC : Hid (∀ c ∈ cs, okC c = true) := (sanL_iff.1 hs).2.2
  have HDX : Hid (0 ≤ dir ∧ dir ≤ 2) := ⟨(sanL_iff.1 hs).1, (sanL_iff.1 hs).2.1⟩
  obtain ⟨P, hP⟩ : ∃ P, parts q [] cs = P := ⟨_, rfl⟩
  have HPF : Hid (P.flatten = cs) := by show _ = _; rw [← hP, parts_flat]; rfl
  have HPW : Hid (∀ p ∈ P, (wide p).length ≤ q) := by rw [← hP]; exact parts_fit hq2 cs [] HOKC.out (by simp [wide])
  have HPN : Hid (∀ i p r, P[i]? = some p → P[i + 1]? = some r → ∃ c rest, r = c :: rest ∧ (q : Int) < (wide p).length + c.w) := fun i p r h1 h2 => by rw [← hP] at h1 h2; exact parts_next cs [] i p r (.inl rfl) h1 h2
  have HSP : Hid (splitG ⟨cs, dir, ex⟩ (q : Int) = rowsP ⟨cs, dir, ex⟩ q P) := by
    show _ = _
    rw [split_tl HSL.out (by rw [HWN.out]; exact hq2), HWN.out, ← hP]
    exact tl_parts ⟨cs, dir, ex⟩ q cs []
  have HPC : Hid (∀ p ∈ P, ∀ c ∈ p, okC c = true) := fun p hp c hc => HOKC.out c (by rw [← HPF.out]; exact List.mem_flatten.2 ⟨p, hp, hc⟩)
  have HLE : Hid (∀ wz, Below w.heap.size w wz → RdL (wz.alloc (.cells #[.slice A n cap, .int .i64 dir, .bool ex] 42)) (.slice (some ⟨wz.heap.size, 0, none⟩) 1 1) [le]) := fun wz hb => by
    refine ⟨rdX_one (E := encL) _ _ le _ _ (by rw [HLX.out]; show _ = (Ln.cells _).toArray; simp only [Ln.cells]; rw [← HN.out]) rfl, fun l hl => ?_⟩
    obtain rfl := List.mem_singleton.1 hl
    refine ⟨?_, ?_⟩
    · rw [HLX.out]
      show RdX encC _ (.slice A cs.length cap) cs
      rw [← HN.out]
      exact (HX.out.below hb).below ((Below.refl _ _).alloc (Nat.le_refl _) _)
    · rw [HLX.out]
      show cs.length ≤ _
      rw [← HN.out]
      exact HN7.out
  clear _hl hn hx hs hle hP
  go_enter Try.func7, Try.ntmps7
  go_upto_region 5 with (first | (go_at_call 8; (with_reducible refine (awake11_c _).mono ?_); rintro e w1 ⟨rfl, XA, dA, rfl⟩) | (go_at_call 17; (with_reducible refine (saneL11_c A n cap cs dir ex _ (HX.out.below (by (repeat (first | (with_reducible exact Below.refl _ _) | (with_reducible assumption) | (with_reducible refine Below.grow ?_ ?_ _ _) | (with_reducible refine Below.drewN' ?_ _) | (with_reducible refine Below.drew ?_) | (with_reducible refine Below.alloc ?_ ?_ _) | (with_reducible refine Below.setCell ?_ ?_ _) | omega | (focus (simp; done)) | (focus (simp; omega)))))) HN.out HN7.out).mono ?_); rw [HSL.out]; rintro e w2 ⟨rfl, X2, d2, rfl⟩))
  generalize hwz : World.grow _ _ _ = wz
  have HBZ : Hid (Below w.heap.size w wz) := by show Below _ _ _; rw [← hwz]; (repeat (first | (with_reducible exact Below.refl _ _) | (with_reducible assumption) | (with_reducible refine Below.grow ?_ ?_ _ _) | (with_reducible refine Below.drewN' ?_ _) | (with_reducible refine Below.drew ?_) | (with_reducible refine Below.alloc ?_ ?_ _) | (with_reducible refine Below.setCell ?_ ?_ _) | omega | (focus (simp; done)) | (focus (simp; omega))))
  have hB2z : Blk wz w.heap.size 42 #[.slice A n cap, .int .i64 dir, .bool ex] := by
    rw [← hwz]
    repeat (first | (with_reducible exact Blk.new _ _ _) | (with_reducible refine Blk.grow ?_ _ _) | (with_reducible refine Blk.alloc ?_ _))
  have HB2Z := Lib.hid hB2z
  obtain ⟨y0, y1, y2, yf, yl⟩ := hB2z.facts3
  clear hwz hB2z
  go_upto_region 6 with (go_at_call 10; go_loud ((with_reducible refine (ours_c _ [le] _ (HLE.out wz HBZ.out) (by simp)).mono ?_); rintro e w3 ⟨u3, rfl, hb3, hu3⟩; have HU3 := Lib.hid hu3; have HB3 := Lib.hid hb3; clear hb3 hu3))
  have HBW3 : Hid (Below w.heap.size w w3) := below_more HBZ.out (below_more ((Below.refl _ _).alloc (Nat.le_refl _) _) HB3.out)
  have HB2 : Hid (Blk w3 w.heap.size 42 #[.slice A n cap, .int .i64 dir, .bool ex]) := (HB2Z.out.alloc _).below HB3.out (HB2Z.out.alloc _).lt
  clear y0 y1 y2 yf yl
  obtain ⟨A3, c3, hu3, hc3⟩ := HU3.out.1.len
  have hu3' : u3 = .slice A3 1 c3 := hu3
  subst hu3'
  obtain ⟨b3, o3, rfl, hb3l, g0, g1, g2⟩ := atL HU3.out.1 (k := 0) (by simp)
  have g0' : w3.cell? ⟨b3, o3, none⟩ = some (.slice A n cap) := by
    have h : w3.cell? ⟨b3, o3, none⟩ = some (.slice le.A le.cs.length le.cap) := by simpa using g0
    rw [h, HLX.out]
    show some (Value.slice A cs.length cap) = _
    rw [← HN.out]
  have g1' : w3.cell? ⟨b3, o3 + 1, none⟩ = some (.int .i64 dir) := by
    have h : w3.cell? ⟨b3, o3 + 1, none⟩ = some (.int .i64 le.dir) := by simpa using g1
    rw [h, HLX.out]
  have g2' : w3.cell? ⟨b3, o3 + 2, none⟩ = some (.bool ex) := by
    have h : w3.cell? ⟨b3, o3 + 2, none⟩ = some (.bool le.ex) := by simpa using g2
    rw [h, HLX.out]
  clear g0 g1 g2 hu3 hc3
  go_upto_region 7 with (go_at_call 18; go_loud ((with_reducible refine (split_c A n cap cs dir ex (q : Int) _ (HX.out.below HBW3.out) HN.out HN7.out).mono ?_); rintro e w4 ⟨u4, R, rfl, hb4, hr4, hs4⟩; have HR4 := Lib.hid hr4.rd; have HS4 := Lib.hid hs4; have HB4 := Lib.hid hb4; clear hb4 hr4 hs4))
  have HBW4 : Hid (Below w.heap.size w w4) := below_more HBW3.out HB4.out
  have HB24 : Hid (Blk w4 w.heap.size 42 #[.slice A n cap, .int .i64 dir, .bool ex]) := HB2.out.below HB4.out HB2.out.lt
  have HRP : Hid (R.map Rw.sh = rowsP ⟨cs, dir, ex⟩ q P) := HS4.out.trans HSP.out
  obtain ⟨A4, c4, hu4, hc4⟩ := HR4.out.1.len
  obtain ⟨nr, hnr⟩ : ∃ nr, R.length = nr := ⟨_, rfl⟩
  rw [hnr] at hu4 hc4
  subst hu4
  have HRL := Lib.hid hnr
  have HPL : Hid (P.length = nr) := by show _ = _; rw [← hnr, sh_len HRP.out, rowsP_len]
  have hnr1 : 1 ≤ nr := by
    rw [← hnr, sh_len HS4.out]
    exact splitG_ne HSL.out
  have hnr2 : nr ≤ 201 := by
    have h1 := split_len ⟨cs, dir, ex⟩ (q : Int)
    rw [← sh_len HS4.out, hnr] at h1
    have h2 : n = cs.length := HN.out
    simp only at h1
    omega
  obtain ⟨nl, hnl⟩ : ∃ nl, nl + 1 = nr := ⟨nr - 1, by omega⟩
  have hsub : (nr : Int) - 1 = (nl : Int) := by omega
  have HNL := Lib.hid hnl
  have hnz : ¬ (nr : Int) = 0 := by omega
  have hnzb : ((nr : Int) == 0) = false := by simpa using hnz
  have hnzb2 : decide ((nr : Int) = 0) = false := by simpa using hnz
  clear hnr hnl g0' g1' g2'
  go_wp2_with fail
  clear hnzb hnzb2
  go_loopw [9, 10] (fun kk ii wz => ∃ i : Nat, i ≤ nr ∧ ii = .int .i64 i ∧ kk = .int .i64 ((P.take i).flatten.length : Nat) ∧ Below w4.heap.size w4 wz) (fun _ ii _ => nr - (intOf ii).toNat)
  case atStart => exact ⟨0, Nat.zero_le _, rfl, rfl, Below.refl _ _⟩
  case round =>
    obtain ⟨i, hi, rfl, rfl, hbz⟩ := hrel
    have hbzs := hbz.size
    have hbwz : Below w.heap.size w wr := HBW4.out.trans (hbz.mono HBW4.out.size)
    have hwzs := hbwz.size
    by_cases hlt : i < nr
    · have hltI : (i : Int) < nr := by omega
      have hil : i < R.length := by rw [HRL.out]; exact hlt
      obtain ⟨p, hp⟩ : ∃ p, P[i]? = some p := ⟨_, List.getElem?_eq_getElem (by rw [HPL.out]; exact hlt)⟩
      obtain ⟨b4, o4, rfl, hbl, hat, hok⟩ := (HR4.out.below hbz).at_ hil
      have HP4 : Hid (∀ wy, Below w4.heap.size w4 wy → wy.cell? ⟨b4, o4 + i * 4, none⟩ = some (.slice R[i].A R[i].n R[i].cap)) := fun wy hb => by
        obtain ⟨b9, o9, e9, -, h9, -⟩ := (HR4.out.below hb).at_ hil
        injection e9 with e9
        injection e9 with e9 e8
        subst e9 e8
        exact h9.1
      have HSI : R[i].sh = rowS ⟨cs, dir, ex⟩ q (decide (i + 1 < P.length)) (wide p) := by
        have h1 := sh_get HRP.out i
        rw [List.getElem?_eq_getElem hil, rowsP_get _ _ _ _ _ hp] at h1
        simpa using h1
      have HOKW : Hid (R[i].ok w4) := HR4.out.2 _ (List.getElem_mem hil)
      have hbl4 : b4 < w4.heap.size := by
        obtain ⟨b9, o9, e9, h9, -⟩ := HR4.out.at_ hil
        injection e9 with e9
        injection e9 with e9 e8
        subst e9
        exact h9
      generalize R[i] = r at *
      rw [HPL.out] at HSI
      obtain ⟨lastb, hlb⟩ : ∃ lastb, decide (i = nl) = lastb := ⟨_, rfl⟩
      obtain ⟨lb, hlb2⟩ : ∃ lb, decide (i + 1 < nr) = lb := ⟨_, rfl⟩
      rw [hlb2] at HSI
      have HLB := Lib.hid hlb
      have HLN : Hid (lb = !lastb) := by
        show _ = _
        rw [← hlb, ← hlb2]
        have := HNL.out
        by_cases e : i = nl
        · simp [e]; omega
        · simp [e]; omega
      have hrn : r.n = q := by have := congrArg (fun s => s.cs.length) HSI; simpa [Rw.sh, rowS, listF_len] using this
      have hwb : r.wb = lb := congrArg Sh.wb HSI
      have hdir : r.dir = dir := congrArg Sh.dir HSI
      have hex : r.ex = ex := congrArg Sh.ex HSI
      have HRF : Hid (∀ j, j < q → r.f j = padF (wide p) j) := fun j hj => by
        have := congrArg (fun s => s.cs[j]?) HSI
        simp only [Rw.sh, rowS] at this
        rw [listF_get (by omega), listF_get hj] at this
        injection this
      have HSR : Hid (saneRw r = true) := by
        show saneB r.n r.f r.dir = true
        rw [hrn, hdir, sane_congr (fun j hj => HRF.out j hj)]
        have hpm := List.mem_of_getElem? hp
        refine saneRow (by omega) (by omega) (HPW.out p hpm) ?_ HDX.out
        have hgw : ∀ l : List Cl, (∀ c ∈ l, okC c = true) → Good (wide l) := fun l => by
          induction l with
          | nil => intro _; exact Good.nil
          | cons c l ih =>
            intro h
            rw [wide_cons]
            exact (Good.whole (h c (by simp))).app (ih (fun d hd => h d (List.mem_cons_of_mem _ hd)))
        exact hgw p (HPC.out p hpm)
      obtain ⟨K, hK⟩ : ∃ K, (P.take i).flatten.length = K := ⟨_, rfl⟩
      have HKT : Hid (∀ t c, p[t]? = some c → cs[K + t]? = some c) := by rw [← hK]; exact parts_at HPF.out hp
      have HKN : Hid ((P.take (i + 1)).flatten.length = K + p.length) := by show _ = _; rw [← hK]; exact parts_sum hp
      have hKP : K + p.length ≤ n := by
        rw [← HKN.out, HN.out, ← HPF.out]
        have e : P.flatten = (P.take (i + 1)).flatten ++ (P.drop (i + 1)).flatten := by rw [← List.flatten_append, List.take_append_drop]
        rw [e, List.length_append]
        omega
      have HLAST : Hid (lastb = true → K + p.length = n) := fun h => by
        have hi2 : i = nl := by rw [← HLB.out] at h; exact of_decide_eq_true h
        rw [← HKN.out, HN.out, ← HPF.out, List.take_of_length_le (by rw [HPL.out]; have := HNL.out; omega)]
      have HNEXT : Hid (lastb = false → ∃ c, cs[K + p.length]? = some c ∧ (q : Int) < (wide p).length + c.w) := fun h => by
        have hi2 : ¬ i = nl := by rw [← HLB.out] at h; exact of_decide_eq_false h
        have hj : i + 1 < P.length := by rw [HPL.out]; have := HNL.out; omega
        obtain ⟨c, rest, e, hov⟩ := HPN.out i p P[i + 1] hp (List.getElem?_eq_getElem hj)
        refine ⟨c, ?_, hov⟩
        have h3 := parts_at HPF.out (List.getElem?_eq_getElem hj) 0 c (by rw [e]; rfl)
        rw [Nat.add_zero, HKN.out] at h3
        exact h3
      have HPM : Hid (p ∈ P) := List.mem_of_getElem? hp
      have hwq := HPW.out p HPM.out
      have hwl : (lb == lastb) = false := by rw [HLN.out]; cases lastb <;> rfl
      have hwl2 : decide (lb = lastb) = false := by rw [HLN.out]; cases lastb <;> rfl
      have hlbI : decide ((i : Int) = (nl : Int)) = lastb := by rw [← hlb]; exact decide_eq_decide.2 (by omega)
      have hlbI2 : ((i : Int) == (nl : Int)) = lastb := by
        rw [← hlb]
        by_cases e : i = nl
        · simp [e]
        · have e2 : ¬ (i : Int) = nl := by omega
          simp [e, e2]
      have hqe : ((q : Int) != (q : Int)) = false := by simp
      have hde : (dir != dir) = false := by simp
      have hee : (ex != ex) = false := by simp
      obtain ⟨p0, p1, p2, p3⟩ := hat
      have HOK : Hid (r.ok wr) := hok
      rw [hrn] at p0 HP4
      rw [hwb] at p1
      rw [hdir] at p2
      rw [hex] at p3
      have HSANE : Hid (∀ wz, Below wr.heap.size wr wz → Calls Try.prog 21 #[.agg #[.slice r.A q r.cap, .bool lb, .int .i64 dir, .bool ex]] wz fun e w' => e = .returned (.bool true) ∧ Grew wz w') := fun wz hb => by
        have h := saner_c r wz (HOK.out.below hb)
        rw [hrn, hwb, hdir, hex, HSR.out] at h
        exact h
      have HRN := Lib.hid hrn
      have HWB := Lib.hid hwb
      have HRD := Lib.hid hdir
      have HRE := Lib.hid hex
      obtain ⟨y0, y1, y2, yf, yl⟩ := ((HB24.out.below hbz HB24.out.lt)).facts3
      rw [hK]
      clear hok hK HSI hp hlb2 hrn hwb hdir hex
      go_upto_region 14 with fail
      refine hr_start (S := (fun w' => w'.cell? ⟨w.heap.size, 0, none⟩ = some (.slice A n cap) ∧ w'.cell? ⟨w.heap.size, 1, none⟩ = some (.int .i64 dir) ∧ w'.cell? ⟨w.heap.size, 2, none⟩ = some (.bool ex) ∧ w'.cell? ⟨b4, o4 + i * 4, none⟩ = some (.slice r.A q r.cap) ∧ w'.cell? ⟨b4, o4 + i * 4 + 1, none⟩ = some (.bool lb) ∧ w'.cell? ⟨b4, o4 + i * 4 + 2, none⟩ = some (.int .i64 dir) ∧ w'.cell? ⟨b4, o4 + i * 4 + 3, none⟩ = some (.bool ex))) (by kernel_rfl) rfl ?_ (fun hHeld => ?_)
      · ((try dsimp only); go_simp)
      refine hr_take (i := 0) rfl rfl (by kernel_rfl) (by kernel_rfl) (by kernel_rfl) (by kernel_rfl) (fun _ _ _ h => h) (v := ?_) ?_ (by assumption) ?_
      rotate_left
      focus (intro wS hSw; (try dsimp only at hSw); go_simp; (try with_reducible rfl))
      simp only [List.set_cons_zero, List.set_cons_succ]
      refine hr_take (i := 1) rfl rfl (by kernel_rfl) (by kernel_rfl) (by kernel_rfl) (by kernel_rfl) (fun _ _ _ h => h) (v := ?_) ?_ (by assumption) ?_
      rotate_left
      focus (intro wS hSw; (try dsimp only at hSw); go_simp; (try with_reducible rfl))
      simp only [List.set_cons_zero, List.set_cons_succ]
      refine hr_take (i := 2) rfl rfl (by kernel_rfl) (by kernel_rfl) (by kernel_rfl) (by kernel_rfl) (fun _ _ _ h => h) (v := ?_) ?_ (by assumption) ?_
      rotate_left
      focus (intro wS hSw; (try dsimp only at hSw); go_simp; (try with_reducible rfl))
      simp only [List.set_cons_zero, List.set_cons_succ]
      refine hr_take (i := 3) rfl rfl (by kernel_rfl) (by kernel_rfl) (by kernel_rfl) (by kernel_rfl) (fun _ _ _ h => h) (v := ?_) ?_ (by assumption) ?_
      rotate_left
      focus (intro wS hSw; (try dsimp only at hSw); go_simp; (try with_reducible rfl))
      simp only [List.set_cons_zero, List.set_cons_succ]
      refine hr_op (i := 4) rfl rfl (by kernel_rfl) (by kernel_rfl) (fun K hK => ?_)
      go_simp
      ((with_reducible refine (HSANE.out _ (by (repeat (first | (with_reducible exact Below.refl _ _) | (with_reducible assumption) | (with_reducible refine Below.grow ?_ ?_ _ _) | (with_reducible refine Below.drewN' ?_ _) | (with_reducible refine Below.drew ?_) | (with_reducible refine Below.alloc ?_ ?_ _) | (with_reducible refine Below.setCell ?_ ?_ _) | omega | (focus (simp; done)) | (focus (simp; omega)))))).mono ?_); rintro e w5 ⟨rfl, X5, d5, rfl⟩)
      (try go_wp2_with fail)
      refine hK.out _ _ ?_ (fun hHeld => ?_)
      · ((try dsimp only); go_simp)
      clear hK K
      simp only [List.set_cons_zero, List.set_cons_succ]
      refine hr_take (i := 5) rfl rfl (by kernel_rfl) (by kernel_rfl) (by kernel_rfl) (by kernel_rfl) (fun _ _ _ h => h) (v := ?_) ?_ (by assumption) ?_
      rotate_left
      focus (intro wS hSw; (try dsimp only at hSw); go_simp; (try with_reducible rfl))
      simp only [List.set_cons_zero, List.set_cons_succ]
      refine hr_take (i := 6) rfl rfl (by kernel_rfl) (by kernel_rfl) (by kernel_rfl) (by kernel_rfl) (fun _ _ _ h => h) (v := ?_) ?_ (by assumption) ?_
      rotate_left
      focus (intro wS hSw; (try dsimp only at hSw); go_simp; (try with_reducible rfl))
      simp only [List.set_cons_zero, List.set_cons_succ]
      refine hr_take (i := 7) rfl rfl (by kernel_rfl) (by kernel_rfl) (by kernel_rfl) (by kernel_rfl) (fun _ _ _ h => h) (v := ?_) ?_ (by assumption) ?_
      rotate_left
      focus (intro wS hSw; (try dsimp only at hSw); go_simp; (try with_reducible rfl))
      simp only [List.set_cons_zero, List.set_cons_succ]
      refine hr_take (i := 8) rfl rfl (by kernel_rfl) (by kernel_rfl) (by kernel_rfl) (by kernel_rfl) (fun _ _ _ h => h) (v := ?_) ?_ (by assumption) ?_
      rotate_left
      focus (intro wS hSw; (try dsimp only at hSw); go_simp; (try with_reducible rfl))
      simp only [List.set_cons_zero, List.set_cons_succ]
      refine hr_take (i := 9) rfl rfl (by kernel_rfl) (by kernel_rfl) (by kernel_rfl) (by kernel_rfl) (fun _ _ _ h => h) (v := ?_) ?_ (by assumption) ?_
      rotate_left
      focus (intro wS hSw; (try dsimp only at hSw); go_simp; (try with_reducible rfl))
      simp only [List.set_cons_zero, List.set_cons_succ]
      refine hr_take (i := 10) rfl rfl (by kernel_rfl) (by kernel_rfl) (by kernel_rfl) (by kernel_rfl) (fun _ _ _ h => h) (v := ?_) ?_ (by assumption) ?_
      rotate_left
      focus (intro wS hSw; (try dsimp only at hSw); go_simp; (try with_reducible rfl))
      simp only [List.set_cons_zero, List.set_cons_succ]
      refine hr_take (i := 11) rfl rfl (by kernel_rfl) (by kernel_rfl) (by kernel_rfl) (by kernel_rfl) (fun _ _ _ h => h) (v := ?_) ?_ (by assumption) ?_
      rotate_left
      focus (intro wS hSw; (try dsimp only at hSw); go_simp; (try with_reducible rfl))
      simp only [List.set_cons_zero, List.set_cons_succ]
      refine hr_take (i := 12) rfl rfl (by kernel_rfl) (by kernel_rfl) (by kernel_rfl) (by kernel_rfl) (fun _ _ _ h => h) (v := ?_) ?_ (by assumption) ?_
      rotate_left
      focus (intro wS hSw; (try dsimp only at hSw); go_simp; (try with_reducible rfl))
      simp only [List.set_cons_zero, List.set_cons_succ]
      refine hr_take (i := 13) rfl rfl (by kernel_rfl) (by kernel_rfl) (by kernel_rfl) (by kernel_rfl) (fun _ _ _ h => h) (v := ?_) ?_ (by assumption) ?_
      rotate_left
      focus (intro wS hSw; (try dsimp only at hSw); go_simp; (try with_reducible rfl))
      simp only [List.set_cons_zero, List.set_cons_succ]
      refine hr_take (i := 14) rfl rfl (by kernel_rfl) (by kernel_rfl) (by kernel_rfl) (by kernel_rfl) (fun _ _ _ h => h) (v := ?_) ?_ (by assumption) ?_
      rotate_left
      focus (intro wS hSw; (try dsimp only at hSw); go_simp; (try with_reducible rfl))
      simp only [List.set_cons_zero, List.set_cons_succ]
      refine hr_take (i := 15) rfl rfl (by kernel_rfl) (by kernel_rfl) (by kernel_rfl) (by kernel_rfl) (fun _ _ _ h => h) (v := ?_) ?_ (by assumption) ?_
      rotate_left
      focus (intro wS hSw; (try dsimp only at hSw); go_simp; (try with_reducible rfl))
      simp only [List.set_cons_zero, List.set_cons_succ]
      refine hr_take (i := 16) rfl rfl (by kernel_rfl) (by kernel_rfl) (by kernel_rfl) (by kernel_rfl) (fun _ _ _ h => h) (v := ?_) ?_ (by assumption) ?_
      rotate_left
      focus (intro wS hSw; (try dsimp only at hSw); go_simp; (try with_reducible rfl))
      simp only [List.set_cons_zero, List.set_cons_succ]
      refine hr_take (i := 17) rfl rfl (by kernel_rfl) (by kernel_rfl) (by kernel_rfl) (by kernel_rfl) (fun _ _ _ h => h) (v := ?_) ?_ (by assumption) ?_
      rotate_left
      focus (intro wS hSw; (try dsimp only at hSw); go_simp; (try with_reducible rfl))
      simp only [List.set_cons_zero, List.set_cons_succ]
      refine hr_take (i := 18) rfl rfl (by kernel_rfl) (by kernel_rfl) (by kernel_rfl) (by kernel_rfl) (fun _ _ _ h => h) (v := ?_) ?_ (by assumption) ?_
      rotate_left
      focus (intro wS hSw; (try dsimp only at hSw); go_simp; (try with_reducible rfl))
      simp only [List.set_cons_zero, List.set_cons_succ]
      refine hr_take (i := 19) rfl rfl (by kernel_rfl) (by kernel_rfl) (by kernel_rfl) (by kernel_rfl) (fun _ _ _ h => h) (v := ?_) ?_ (by assumption) ?_
      rotate_left
      focus (intro wS hSw; (try dsimp only at hSw); go_simp; (try with_reducible rfl))
      simp only [List.set_cons_zero, List.set_cons_succ]
      refine hr_take (i := 20) rfl rfl (by kernel_rfl) (by kernel_rfl) (by kernel_rfl) (by kernel_rfl) (fun _ _ _ h => h) (v := ?_) ?_ (by assumption) ?_
      rotate_left
      focus (intro wS hSw; (try dsimp only at hSw); go_simp; (try with_reducible rfl))
      simp only [List.set_cons_zero, List.set_cons_succ]
      refine hr_take (i := 21) rfl rfl (by kernel_rfl) (by kernel_rfl) (by kernel_rfl) (by kernel_rfl) (fun _ _ _ h => h) (v := ?_) ?_ (by assumption) ?_
      rotate_left
      focus (intro wS hSw; (try dsimp only at hSw); go_simp; (try with_reducible rfl))
      simp only [List.set_cons_zero, List.set_cons_succ]
      refine hr_take (i := 22) rfl rfl (by kernel_rfl) (by kernel_rfl) (by kernel_rfl) (by kernel_rfl) (fun _ _ _ h => h) (v := ?_) ?_ (by assumption) ?_
      rotate_left
      focus (intro wS hSw; (try dsimp only at hSw); go_simp; (try with_reducible rfl))
      simp only [List.set_cons_zero, List.set_cons_succ]
      refine hr_take (i := 23) rfl rfl (by kernel_rfl) (by kernel_rfl) (by kernel_rfl) (by kernel_rfl) (fun _ _ _ h => h) (v := ?_) ?_ (by assumption) ?_
      rotate_left
      focus (intro wS hSw; (try dsimp only at hSw); go_simp; (try with_reducible rfl))
      simp only [List.set_cons_zero, List.set_cons_succ]
      refine hr_take (i := 24) rfl rfl (by kernel_rfl) (by kernel_rfl) (by kernel_rfl) (by kernel_rfl) (fun _ _ _ h => h) (v := ?_) ?_ (by assumption) ?_
      rotate_left
      focus (intro wS hSw; (try dsimp only at hSw); go_simp; (try with_reducible rfl))
      simp only [List.set_cons_zero, List.set_cons_succ]
      refine hr_take (i := 25) rfl rfl (by kernel_rfl) (by kernel_rfl) (by kernel_rfl) (by kernel_rfl) (fun _ _ _ h => h) (v := ?_) ?_ (by assumption) ?_
      rotate_left
      focus (intro wS hSw; (try dsimp only at hSw); go_simp; (try with_reducible rfl))
      simp only [List.set_cons_zero, List.set_cons_succ]
      refine hr_take (i := 26) rfl rfl (by kernel_rfl) (by kernel_rfl) (by kernel_rfl) (by kernel_rfl) (fun _ _ _ h => h) (v := ?_) ?_ (by assumption) ?_
      rotate_left
      focus (intro wS hSw; (try dsimp only at hSw); go_simp; (try with_reducible rfl))
      simp only [List.set_cons_zero, List.set_cons_succ]
      refine hr_take (i := 27) rfl rfl (by kernel_rfl) (by kernel_rfl) (by kernel_rfl) (by kernel_rfl) (fun _ _ _ h => h) (v := ?_) ?_ (by assumption) ?_
      rotate_left
      focus (intro wS hSw; (try dsimp only at hSw); go_simp; (try with_reducible rfl))
      simp only [List.set_cons_zero, List.set_cons_succ]
      refine hr_take (i := 28) rfl rfl (by kernel_rfl) (by kernel_rfl) (by kernel_rfl) (by kernel_rfl) (fun _ _ _ h => h) (v := ?_) ?_ (by assumption) ?_
      rotate_left
      focus (intro wS hSw; (try dsimp only at hSw); go_simp; (try with_reducible rfl))
      simp only [List.set_cons_zero, List.set_cons_succ]
      refine hr_take (i := 29) rfl rfl (by kernel_rfl) (by kernel_rfl) (by kernel_rfl) (by kernel_rfl) (fun _ _ _ h => h) (v := ?_) ?_ (by assumption) ?_
      rotate_left
      focus (intro wS hSw; (try dsimp only at hSw); go_simp; (try with_reducible rfl))
      simp only [List.set_cons_zero, List.set_cons_succ]
      refine hr_take (i := 30) rfl rfl (by kernel_rfl) (by kernel_rfl) (by kernel_rfl) (by kernel_rfl) (fun _ _ _ h => h) (v := ?_) ?_ (by assumption) ?_
      rotate_left
      focus (intro wS hSw; (try dsimp only at hSw); go_simp; (try with_reducible rfl))
      simp only [List.set_cons_zero, List.set_cons_succ]
      refine hr_take (i := 31) rfl rfl (by kernel_rfl) (by kernel_rfl) (by kernel_rfl) (by kernel_rfl) (fun _ _ _ h => h) (v := ?_) ?_ (by assumption) ?_
      rotate_left
      focus (intro wS hSw; (try dsimp only at hSw); go_simp; (try with_reducible rfl))
      simp only [List.set_cons_zero, List.set_cons_succ]
      refine hr_take (i := 32) rfl rfl (by kernel_rfl) (by kernel_rfl) (by kernel_rfl) (by kernel_rfl) (fun _ _ _ h => h) (v := ?_) ?_ (by assumption) ?_
      rotate_left
      focus (intro wS hSw; (try dsimp only at hSw); go_simp; (try with_reducible rfl))
      simp only [List.set_cons_zero, List.set_cons_succ]
      refine hr_take (i := 33) rfl rfl (by kernel_rfl) (by kernel_rfl) (by kernel_rfl) (by kernel_rfl) (fun _ _ _ h => h) (v := ?_) ?_ (by assumption) ?_
      rotate_left
      focus (intro wS hSw; (try dsimp only at hSw); go_simp; (try with_reducible rfl))
      simp only [List.set_cons_zero, List.set_cons_succ]
      refine hr_take (i := 34) rfl rfl (by kernel_rfl) (by kernel_rfl) (by kernel_rfl) (by kernel_rfl) (fun _ _ _ h => h) (v := ?_) ?_ (by assumption) ?_
      rotate_left
      focus (intro wS hSw; (try dsimp only at hSw); go_simp; (try with_reducible rfl))
      simp only [List.set_cons_zero, List.set_cons_succ]
      refine hr_take (i := 35) rfl rfl (by kernel_rfl) (by kernel_rfl) (by kernel_rfl) (by kernel_rfl) (fun _ _ _ h => h) (v := ?_) ?_ (by assumption) ?_
      rotate_left
      focus (intro wS hSw; (try dsimp only at hSw); go_simp; (try with_reducible rfl))
      simp only [List.set_cons_zero, List.set_cons_succ]
      refine hr_take (i := 36) rfl rfl (by kernel_rfl) (by kernel_rfl) (by kernel_rfl) (by kernel_rfl) (fun _ _ _ h => h) (v := ?_) ?_ (by assumption) ?_
      rotate_left
      focus (intro wS hSw; (try dsimp only at hSw); go_simp; (try with_reducible rfl))
      simp only [List.set_cons_zero, List.set_cons_succ]
      refine hr_take (i := 37) rfl rfl (by kernel_rfl) (by kernel_rfl) (by kernel_rfl) (by kernel_rfl) (fun _ _ _ h => h) (v := ?_) ?_ (by assumption) ?_
      rotate_left
      focus (intro wS hSw; (try dsimp only at hSw); go_simp; (try with_reducible rfl))
      simp only [List.set_cons_zero, List.set_cons_succ]
      refine hr_take (i := 38) rfl rfl (by kernel_rfl) (by kernel_rfl) (by kernel_rfl) (by kernel_rfl) (fun _ _ _ h => h) (v := ?_) ?_ (by assumption) ?_
      rotate_left
      focus (intro wS hSw; (try dsimp only at hSw); go_simp; (try with_reducible rfl))
      simp only [List.set_cons_zero, List.set_cons_succ]
      refine hr_take (i := 39) rfl rfl (by kernel_rfl) (by kernel_rfl) (by kernel_rfl) (by kernel_rfl) (fun _ _ _ h => h) (v := ?_) ?_ (by assumption) ?_
      rotate_left
      focus (intro wS hSw; (try dsimp only at hSw); go_simp; (try with_reducible rfl))
      simp only [List.set_cons_zero, List.set_cons_succ]
      refine hr_take (i := 40) rfl rfl (by kernel_rfl) (by kernel_rfl) (by kernel_rfl) (by kernel_rfl) (fun _ _ _ h => h) (v := ?_) ?_ (by assumption) ?_
      rotate_left
      focus (intro wS hSw; (try dsimp only at hSw); go_simp; (try with_reducible rfl))
      simp only [List.set_cons_zero, List.set_cons_succ]
      refine hr_take (i := 41) rfl rfl (by kernel_rfl) (by kernel_rfl) (by kernel_rfl) (by kernel_rfl) (fun _ _ _ h => h) (v := ?_) ?_ (by assumption) ?_
      rotate_left
      focus (intro wS hSw; (try dsimp only at hSw); go_simp; (try with_reducible rfl))
      simp only [List.set_cons_zero, List.set_cons_succ]
      refine hr_take (i := 42) rfl rfl (by kernel_rfl) (by kernel_rfl) (by kernel_rfl) (by kernel_rfl) (fun _ _ _ h => h) (v := ?_) ?_ (by assumption) ?_
      rotate_left
      focus (intro wS hSw; (try dsimp only at hSw); go_simp; (try with_reducible rfl))
      simp only [List.set_cons_zero, List.set_cons_succ]
      refine hr_take (i := 43) rfl rfl (by kernel_rfl) (by kernel_rfl) (by kernel_rfl) (by kernel_rfl) (fun _ _ _ h => h) (v := ?_) ?_ (by assumption) ?_
      rotate_left
      focus (intro wS hSw; (try dsimp only at hSw); go_simp; (try with_reducible rfl))
      simp only [List.set_cons_zero, List.set_cons_succ]
      refine hr_take (i := 44) rfl rfl (by kernel_rfl) (by kernel_rfl) (by kernel_rfl) (by kernel_rfl) (fun _ _ _ h => h) (v := ?_) ?_ (by assumption) ?_
      rotate_left
      focus (intro wS hSw; (try dsimp only at hSw); go_simp; (try with_reducible rfl))
      simp only [List.set_cons_zero, List.set_cons_succ]
      refine hr_done (by kernel_rfl) ?_
      obtain ⟨wo, hwo, hbo⟩ : ∃ wo, wo = wr.drew.grow X5 d5 ∧ Below w4.heap.size w4 wo := ⟨_, rfl, by (repeat (first | (with_reducible exact Below.refl _ _) | (with_reducible assumption) | (with_reducible refine Below.grow ?_ ?_ _ _) | (with_reducible refine Below.drewN' ?_ _) | (with_reducible refine Below.drew ?_) | (with_reducible refine Below.alloc ?_ ?_ _) | (with_reducible refine Below.setCell ?_ ?_ _) | omega | (focus (simp; done)) | (focus (simp; omega))))⟩
      clear hHeld y0 y1 y2 yf yl p0 p1 p2 p3 hwl hwl2 hqe hde hee hlbI hlbI2 hlb
      go_wp2_with fail
      have HBO : Hid (Below w4.heap.size w4 (wr.grow X5 d5)) := by show Below _ _ _; (repeat (first | (with_reducible exact Below.refl _ _) | (with_reducible assumption) | (with_reducible refine Below.grow ?_ ?_ _ _) | (with_reducible refine Below.drewN' ?_ _) | (with_reducible refine Below.drew ?_) | (with_reducible refine Below.alloc ?_ ?_ _) | (with_reducible refine Below.setCell ?_ ?_ _) | omega | (focus (simp; done)) | (focus (simp; omega))))
      clear hwo hbo wo
      generalize wr.grow X5 d5 = wo at *
      go_loopw [9, 12] (fun kk s wz => ∃ t : Nat, t ≤ p.length ∧ kk = .int .i64 ((K + t : Nat) : Int) ∧ s = .int .i64 ((wide (p.take t)).length : Nat) ∧ Below w4.heap.size w4 wz) (fun kk _ _ => K + p.length - (intOf kk).toNat)
      case atStart => exact ⟨0, Nat.zero_le _, rfl, rfl, HBO.out⟩
      case round =>
        obtain ⟨t, ht, rfl, rfl, hbt⟩ := hrel
        have hbts := hbt.size
        obtain ⟨k, hk⟩ : ∃ k, K + t = k := ⟨_, rfl⟩
        obtain ⟨at_, hat_⟩ : ∃ at_, (wide (p.take t)).length = at_ := ⟨_, rfl⟩
        have hatq : at_ ≤ q := by rw [← hat_]; exact Nat.le_trans (wide_take_le p t) hwq
        rw [hk, hat_]
        obtain ⟨tb, htb⟩ : ∃ tb, decide (t < p.length) = tb := ⟨_, rfl⟩
        have HTB := Lib.hid htb
        have hkI : (k : Int) ≤ n := by omega
        obtain ⟨y0, y1, y2, yf, yl⟩ := ((HB24.out.below hbt HB24.out.lt)).facts3
        have p0 := HP4.out _ hbt
        have hbl5 : b4 < wr.heap.size := by omega
        have HBT := Lib.hid hbt
        go_upto_region 17 with fail
        go_cut [120] from 95 to 119 (fun s wc => s = .bool tb ∧ Below wr.heap.size wr wc)
        case first =>
          by_cases htp : t < p.length
          · have htb2 : tb = true := by rw [← HTB.out]; simpa using htp
            obtain ⟨ce, hce⟩ : ∃ ce, p[t]? = some ce := ⟨_, List.getElem?_eq_getElem htp⟩
            have hck := HKT.out t ce hce
            rw [hk] at hck
            obtain ⟨hw1, hw2⟩ := wide_at hce
            rw [hat_] at hw1 hw2
            have hwt := wide_take_le p (t + 1)
            have hw3 := whole_len2 (HPC.out p HPM.out ce (List.mem_of_getElem? hce))
            have hatl : at_ < q := by omega
            have hkl : k < n := by omega
            obtain ⟨bx, ox, hAx, hbxl, hx2⟩ := rdC_at (HX.out.below (HBW4.out.trans (HBT.out.mono HBW4.out.size))) hck
            obtain ⟨br, or, hAr, hbrl, hc2⟩ := (HOKW.out.below HBT.out).1 (by rw [HRN.out]; omega)
            have hrow := hc2 at_ (by rw [HRN.out]; exact hatl)
            rw [HRF.out at_ hatl, padF_in hw1] at hrow
            rw [hAx] at y0
            rw [hAr] at p0
            obtain ⟨a0, a1, a2, a3, a4, a5, a6⟩ := hx2
            obtain ⟨b0, b1, b2, b3', b4', b5, b6⟩ := hrow
            have hatI : (at_ : Int) < q := by omega
            have hkI2 : (k : Int) < n := by omega
            have hg1 : decide ((at_ : Int) < q) = true := by simpa using hatl
            have hg2 : decide ((k : Int) < n) = true := by simpa using hkl
            obtain ⟨ca, hca⟩ : ∃ ca, ca = ce := ⟨_, rfl⟩
            have he : ∀ w, (binOp .eql 59 (.agg #[.int .i64 ca.r, .int .i64 ca.m0, .int .i64 ca.m1, .int .i64 ca.w, .int .i64 ca.fg, .int .i64 ca.bg, .int .i64 ca.fl]) (.agg #[.int .i64 ce.r, .int .i64 ce.m0, .int .i64 ce.m1, .int .i64 ce.w, .int .i64 ce.fg, .int .i64 ce.bg, .int .i64 ce.fl])).run Try.prog w = .ok (.bool true) w := fun w => by rw [eql_cell, hca]; simp
            rw [← hca] at b0 b1 b2 b3' b4' b5 b6
            subst htb2
            clear hca hce hck hw1 hw2 hwt hc2 htb htp
            refine hr_start (S := (fun w' => w'.cell? ⟨w.heap.size, 0, none⟩ = some (.slice (some ⟨bx, ox, none⟩) n cap) ∧ w'.cell? ⟨b4, o4 + i * 4, none⟩ = some (.slice (some ⟨br, or, none⟩) q r.cap) ∧ w'.cell? ⟨br, or + at_ * 7, none⟩ = some (.int .i64 ca.r) ∧ w'.cell? ⟨br, or + at_ * 7 + 1, none⟩ = some (.int .i64 ca.m0) ∧ w'.cell? ⟨br, or + at_ * 7 + 2, none⟩ = some (.int .i64 ca.m1) ∧ w'.cell? ⟨br, or + at_ * 7 + 3, none⟩ = some (.int .i64 ca.w) ∧ w'.cell? ⟨br, or + at_ * 7 + 4, none⟩ = some (.int .i64 ca.fg) ∧ w'.cell? ⟨br, or + at_ * 7 + 5, none⟩ = some (.int .i64 ca.bg) ∧ w'.cell? ⟨br, or + at_ * 7 + 6, none⟩ = some (.int .i64 ca.fl) ∧ w'.cell? ⟨bx, ox + k * 7, none⟩ = some (.int .i64 ce.r) ∧ w'.cell? ⟨bx, ox + k * 7 + 1, none⟩ = some (.int .i64 ce.m0) ∧ w'.cell? ⟨bx, ox + k * 7 + 2, none⟩ = some (.int .i64 ce.m1) ∧ w'.cell? ⟨bx, ox + k * 7 + 3, none⟩ = some (.int .i64 ce.w) ∧ w'.cell? ⟨bx, ox + k * 7 + 4, none⟩ = some (.int .i64 ce.fg) ∧ w'.cell? ⟨bx, ox + k * 7 + 5, none⟩ = some (.int .i64 ce.bg) ∧ w'.cell? ⟨bx, ox + k * 7 + 6, none⟩ = some (.int .i64 ce.fl))) (by kernel_rfl) rfl ?_ (fun hHeld => ?_)
            · ((try dsimp only); go_simp)
            refine hr_take (i := 0) rfl rfl (by kernel_rfl) (by kernel_rfl) (by kernel_rfl) (by kernel_rfl) (fun _ _ _ h => h) (v := ?_) ?_ (by assumption) ?_
            rotate_left
            focus (intro wS hSw; (try dsimp only at hSw); go_simp; (try with_reducible rfl))
            simp only [List.set_cons_zero, List.set_cons_succ]
            refine hr_take (i := 1) rfl rfl (by kernel_rfl) (by kernel_rfl) (by kernel_rfl) (by kernel_rfl) (fun _ _ _ h => h) (v := ?_) ?_ (by assumption) ?_
            rotate_left
            focus (intro wS hSw; (try dsimp only at hSw); go_simp; (try with_reducible rfl))
            simp only [List.set_cons_zero, List.set_cons_succ]
            refine hr_take (i := 2) rfl rfl (by kernel_rfl) (by kernel_rfl) (by kernel_rfl) (by kernel_rfl) (fun _ _ _ h => h) (v := ?_) ?_ (by assumption) ?_
            rotate_left
            focus (intro wS hSw; (try dsimp only at hSw); go_simp; (try with_reducible rfl))
            simp only [List.set_cons_zero, List.set_cons_succ]
            refine hr_take (i := 3) rfl rfl (by kernel_rfl) (by kernel_rfl) (by kernel_rfl) (by kernel_rfl) (fun _ _ _ h => h) (v := ?_) ?_ (by assumption) ?_
            rotate_left
            focus (intro wS hSw; (try dsimp only at hSw); go_simp; (try with_reducible rfl))
            simp only [List.set_cons_zero, List.set_cons_succ]
            refine hr_take (i := 4) rfl rfl (by kernel_rfl) (by kernel_rfl) (by kernel_rfl) (by kernel_rfl) (fun _ _ _ h => h) (v := ?_) ?_ (by assumption) ?_
            rotate_left
            focus (intro wS hSw; (try dsimp only at hSw); go_simp; (try with_reducible rfl))
            simp only [List.set_cons_zero, List.set_cons_succ]
            refine hr_take (i := 5) rfl rfl (by kernel_rfl) (by kernel_rfl) (by kernel_rfl) (by kernel_rfl) (fun _ _ _ h => h) (v := ?_) ?_ (by assumption) ?_
            rotate_left
            focus (intro wS hSw; (try dsimp only at hSw); go_simp; (try with_reducible rfl))
            simp only [List.set_cons_zero, List.set_cons_succ]
            refine hr_take (i := 6) rfl rfl (by kernel_rfl) (by kernel_rfl) (by kernel_rfl) (by kernel_rfl) (fun _ _ _ h => h) (v := ?_) ?_ (by assumption) ?_
            rotate_left
            focus (intro wS hSw; (try dsimp only at hSw); go_simp; (try with_reducible rfl))
            simp only [List.set_cons_zero, List.set_cons_succ]
            refine hr_take (i := 7) rfl rfl (by kernel_rfl) (by kernel_rfl) (by kernel_rfl) (by kernel_rfl) (fun _ _ _ h => h) (v := ?_) ?_ (by assumption) ?_
            rotate_left
            focus (intro wS hSw; (try dsimp only at hSw); go_simp; (try with_reducible rfl))
            simp only [List.set_cons_zero, List.set_cons_succ]
            refine hr_take (i := 8) rfl rfl (by kernel_rfl) (by kernel_rfl) (by kernel_rfl) (by kernel_rfl) (fun _ _ _ h => h) (v := ?_) ?_ (by assumption) ?_
            rotate_left
            focus (intro wS hSw; (try dsimp only at hSw); go_simp; (try with_reducible rfl))
            simp only [List.set_cons_zero, List.set_cons_succ]
            refine hr_take (i := 9) rfl rfl (by kernel_rfl) (by kernel_rfl) (by kernel_rfl) (by kernel_rfl) (fun _ _ _ h => h) (v := ?_) ?_ (by assumption) ?_
            rotate_left
            focus (intro wS hSw; (try dsimp only at hSw); go_simp; (try with_reducible rfl))
            simp only [List.set_cons_zero, List.set_cons_succ]
            refine hr_take (i := 10) rfl rfl (by kernel_rfl) (by kernel_rfl) (by kernel_rfl) (by kernel_rfl) (fun _ _ _ h => h) (v := ?_) ?_ (by assumption) ?_
            rotate_left
            focus (intro wS hSw; (try dsimp only at hSw); go_simp; (try with_reducible rfl))
            simp only [List.set_cons_zero, List.set_cons_succ]
            refine hr_take (i := 11) rfl rfl (by kernel_rfl) (by kernel_rfl) (by kernel_rfl) (by kernel_rfl) (fun _ _ _ h => h) (v := ?_) ?_ (by assumption) ?_
            rotate_left
            focus (intro wS hSw; (try dsimp only at hSw); go_simp; (try with_reducible rfl))
            simp only [List.set_cons_zero, List.set_cons_succ]
            refine hr_take (i := 12) rfl rfl (by kernel_rfl) (by kernel_rfl) (by kernel_rfl) (by kernel_rfl) (fun _ _ _ h => h) (v := ?_) ?_ (by assumption) ?_
            rotate_left
            focus (intro wS hSw; (try dsimp only at hSw); go_simp; (try with_reducible rfl))
            simp only [List.set_cons_zero, List.set_cons_succ]
            refine hr_take (i := 13) rfl rfl (by kernel_rfl) (by kernel_rfl) (by kernel_rfl) (by kernel_rfl) (fun _ _ _ h => h) (v := ?_) ?_ (by assumption) ?_
            rotate_left
            focus (intro wS hSw; (try dsimp only at hSw); go_simp; (try with_reducible rfl))
            simp only [List.set_cons_zero, List.set_cons_succ]
            refine hr_take (i := 14) rfl rfl (by kernel_rfl) (by kernel_rfl) (by kernel_rfl) (by kernel_rfl) (fun _ _ _ h => h) (v := ?_) ?_ (by assumption) ?_
            rotate_left
            focus (intro wS hSw; (try dsimp only at hSw); go_simp; (try with_reducible rfl))
            simp only [List.set_cons_zero, List.set_cons_succ]
            refine hr_take (i := 15) rfl rfl (by kernel_rfl) (by kernel_rfl) (by kernel_rfl) (by kernel_rfl) (fun _ _ _ h => h) (v := ?_) ?_ (by assumption) ?_
            rotate_left
            focus (intro wS hSw; (try dsimp only at hSw); go_simp; (try with_reducible rfl))
            simp only [List.set_cons_zero, List.set_cons_succ]
            refine hr_take (i := 16) rfl rfl (by kernel_rfl) (by kernel_rfl) (by kernel_rfl) (by kernel_rfl) (fun _ _ _ h => h) (v := ?_) ?_ (by assumption) ?_
            rotate_left
            focus (intro wS hSw; (try dsimp only at hSw); go_simp; (try with_reducible rfl))
            simp only [List.set_cons_zero, List.set_cons_succ]
            refine hr_take (i := 17) rfl rfl (by kernel_rfl) (by kernel_rfl) (by kernel_rfl) (by kernel_rfl) (fun _ _ _ h => h) (v := ?_) ?_ (by assumption) ?_
            rotate_left
            focus (intro wS hSw; (try dsimp only at hSw); go_simp; (try with_reducible rfl))
            simp only [List.set_cons_zero, List.set_cons_succ]
            refine hr_take (i := 18) rfl rfl (by kernel_rfl) (by kernel_rfl) (by kernel_rfl) (by kernel_rfl) (fun _ _ _ h => h) (v := ?_) ?_ (by assumption) ?_
            rotate_left
            focus (intro wS hSw; (try dsimp only at hSw); go_simp; (try with_reducible rfl))
            simp only [List.set_cons_zero, List.set_cons_succ]
            refine hr_take (i := 19) rfl rfl (by kernel_rfl) (by kernel_rfl) (by kernel_rfl) (by kernel_rfl) (fun _ _ _ h => h) (v := ?_) ?_ (by assumption) ?_
            rotate_left
            focus (intro wS hSw; (try dsimp only at hSw); go_simp; (try with_reducible rfl))
            simp only [List.set_cons_zero, List.set_cons_succ]
            refine hr_take (i := 20) rfl rfl (by kernel_rfl) (by kernel_rfl) (by kernel_rfl) (by kernel_rfl) (fun _ _ _ h => h) (v := ?_) ?_ (by assumption) ?_
            rotate_left
            focus (intro wS hSw; (try dsimp only at hSw); go_simp; (try with_reducible rfl))
            simp only [List.set_cons_zero, List.set_cons_succ]
            refine hr_take (i := 21) rfl rfl (by kernel_rfl) (by kernel_rfl) (by kernel_rfl) (by kernel_rfl) (fun _ _ _ h => h) (v := ?_) ?_ (by assumption) ?_
            rotate_left
            focus (intro wS hSw; (try dsimp only at hSw); go_simp; (try with_reducible rfl))
            simp only [List.set_cons_zero, List.set_cons_succ]
            refine hr_take (i := 22) rfl rfl (by kernel_rfl) (by kernel_rfl) (by kernel_rfl) (by kernel_rfl) (fun _ _ _ h => h) (v := ?_) ?_ (by assumption) ?_
            rotate_left
            focus (intro wS hSw; (try dsimp only at hSw); go_simp; (try with_reducible rfl))
            simp only [List.set_cons_zero, List.set_cons_succ]
            refine hr_take (i := 23) rfl rfl (by kernel_rfl) (by kernel_rfl) (by kernel_rfl) (by kernel_rfl) (fun _ _ _ h => h) (v := ?_) ?_ (by assumption) ?_
            rotate_left
            focus (intro wS hSw; (try dsimp only at hSw); go_simp; (try with_reducible rfl))
            simp only [List.set_cons_zero, List.set_cons_succ]
            refine hr_take (i := 24) rfl rfl (by kernel_rfl) (by kernel_rfl) (by kernel_rfl) (by kernel_rfl) (fun _ _ _ h => h) (v := ?_) ?_ (by assumption) ?_
            rotate_left
            focus (intro wS hSw; (try dsimp only at hSw); go_simp; (try with_reducible rfl))
            simp only [List.set_cons_zero, List.set_cons_succ]
            refine hr_take (i := 25) rfl rfl (by kernel_rfl) (by kernel_rfl) (by kernel_rfl) (by kernel_rfl) (fun _ _ _ h => h) (v := ?_) ?_ (by assumption) ?_
            rotate_left
            focus (intro wS hSw; (try dsimp only at hSw); go_simp; (try with_reducible rfl))
            simp only [List.set_cons_zero, List.set_cons_succ]
            refine hr_done (by kernel_rfl) ?_
            (go_wp2_with fail; go_meet; (case rel => exact ⟨rfl, by (repeat (first | (with_reducible exact Below.refl _ _) | (with_reducible assumption) | (with_reducible refine Below.grow ?_ ?_ _ _) | (with_reducible refine Below.drewN' ?_ _) | (with_reducible refine Below.drew ?_) | (with_reducible refine Below.alloc ?_ ?_ _) | (with_reducible refine Below.setCell ?_ ?_ _) | omega | (focus (simp; done)) | (focus (simp; omega))))⟩))
          · have htb2 : tb = false := by rw [← HTB.out]; simpa using htp
            subst htb2
            have htE : t = p.length := by omega
            have hfull : p.take t = p := List.take_of_length_le (by omega)
            have hatw : (wide p).length = at_ := by rw [← hat_, hfull]
            by_cases hal : at_ = q
            · have hg1 : decide ((at_ : Int) < q) = false := by simp; omega
              have hg3 : ¬ (at_ : Int) < q := by omega
              clear htb hal htE hfull hatw htp
              refine hr_start (S := (fun w' => w'.cell? ⟨w.heap.size, 0, none⟩ = some (.slice A n cap))) (by kernel_rfl) rfl ?_ (fun hHeld => ?_)
              · ((try dsimp only); go_simp)
              refine hr_take (i := 0) rfl rfl (by kernel_rfl) (by kernel_rfl) (by kernel_rfl) (by kernel_rfl) (fun _ _ _ h => h) (v := ?_) ?_ (by assumption) ?_
              rotate_left
              focus (intro wS hSw; (try dsimp only at hSw); go_simp; (try with_reducible rfl))
              simp only [List.set_cons_zero, List.set_cons_succ]
              refine hr_take (i := 1) rfl rfl (by kernel_rfl) (by kernel_rfl) (by kernel_rfl) (by kernel_rfl) (fun _ _ _ h => h) (v := ?_) ?_ (by assumption) ?_
              rotate_left
              focus (intro wS hSw; (try dsimp only at hSw); go_simp; (try with_reducible rfl))
              simp only [List.set_cons_zero, List.set_cons_succ]
              refine hr_take (i := 2) rfl rfl (by kernel_rfl) (by kernel_rfl) (by kernel_rfl) (by kernel_rfl) (fun _ _ _ h => h) (v := ?_) ?_ (by assumption) ?_
              rotate_left
              focus (intro wS hSw; (try dsimp only at hSw); go_simp; (try with_reducible rfl))
              simp only [List.set_cons_zero, List.set_cons_succ]
              refine hr_take (i := 3) rfl rfl (by kernel_rfl) (by kernel_rfl) (by kernel_rfl) (by kernel_rfl) (fun _ _ _ h => h) (v := ?_) ?_ (by assumption) ?_
              rotate_left
              focus (intro wS hSw; (try dsimp only at hSw); go_simp; (try with_reducible rfl))
              simp only [List.set_cons_zero, List.set_cons_succ]
              refine hr_skip (i := 4) rfl rfl (by kernel_rfl) (by kernel_rfl) (by kernel_rfl) (by kernel_rfl) (fun _ _ _ h => h) (by assumption) ?_
              simp only [List.set_cons_zero, List.set_cons_succ]
              refine hr_skip (i := 5) rfl rfl (by kernel_rfl) (by kernel_rfl) (by kernel_rfl) (by kernel_rfl) (fun _ _ _ h => h) (by assumption) ?_
              simp only [List.set_cons_zero, List.set_cons_succ]
              refine hr_skip (i := 6) rfl rfl (by kernel_rfl) (by kernel_rfl) (by kernel_rfl) (by kernel_rfl) (fun _ _ _ h => h) (by assumption) ?_
              simp only [List.set_cons_zero, List.set_cons_succ]
              refine hr_skip (i := 7) rfl rfl (by kernel_rfl) (by kernel_rfl) (by kernel_rfl) (by kernel_rfl) (fun _ _ _ h => h) (by assumption) ?_
              simp only [List.set_cons_zero, List.set_cons_succ]
              refine hr_skip (i := 8) rfl rfl (by kernel_rfl) (by kernel_rfl) (by kernel_rfl) (by kernel_rfl) (fun _ _ _ h => h) (by assumption) ?_
              simp only [List.set_cons_zero, List.set_cons_succ]
              refine hr_take (i := 9) rfl rfl (by kernel_rfl) (by kernel_rfl) (by kernel_rfl) (by kernel_rfl) (fun _ _ _ h => h) (v := ?_) ?_ (by assumption) ?_
              rotate_left
              focus (intro wS hSw; (try dsimp only at hSw); go_simp; (try with_reducible rfl))
              simp only [List.set_cons_zero, List.set_cons_succ]
              refine hr_take (i := 10) rfl rfl (by kernel_rfl) (by kernel_rfl) (by kernel_rfl) (by kernel_rfl) (fun _ _ _ h => h) (v := ?_) ?_ (by assumption) ?_
              rotate_left
              focus (intro wS hSw; (try dsimp only at hSw); go_simp; (try with_reducible rfl))
              simp only [List.set_cons_zero, List.set_cons_succ]
              refine hr_skip (i := 11) rfl rfl (by kernel_rfl) (by kernel_rfl) (by kernel_rfl) (by kernel_rfl) (fun _ _ _ h => h) (by assumption) ?_
              simp only [List.set_cons_zero, List.set_cons_succ]
              refine hr_skip (i := 12) rfl rfl (by kernel_rfl) (by kernel_rfl) (by kernel_rfl) (by kernel_rfl) (fun _ _ _ h => h) (by assumption) ?_
              simp only [List.set_cons_zero, List.set_cons_succ]
              refine hr_skip (i := 13) rfl rfl (by kernel_rfl) (by kernel_rfl) (by kernel_rfl) (by kernel_rfl) (fun _ _ _ h => h) (by assumption) ?_
              simp only [List.set_cons_zero, List.set_cons_succ]
              refine hr_skip (i := 14) rfl rfl (by kernel_rfl) (by kernel_rfl) (by kernel_rfl) (by kernel_rfl) (fun _ _ _ h => h) (by assumption) ?_
              simp only [List.set_cons_zero, List.set_cons_succ]
              refine hr_skip (i := 15) rfl rfl (by kernel_rfl) (by kernel_rfl) (by kernel_rfl) (by kernel_rfl) (fun _ _ _ h => h) (by assumption) ?_
              simp only [List.set_cons_zero, List.set_cons_succ]
              refine hr_skip (i := 16) rfl rfl (by kernel_rfl) (by kernel_rfl) (by kernel_rfl) (by kernel_rfl) (fun _ _ _ h => h) (by assumption) ?_
              simp only [List.set_cons_zero, List.set_cons_succ]
              refine hr_skip (i := 17) rfl rfl (by kernel_rfl) (by kernel_rfl) (by kernel_rfl) (by kernel_rfl) (fun _ _ _ h => h) (by assumption) ?_
              simp only [List.set_cons_zero, List.set_cons_succ]
              refine hr_skip (i := 18) rfl rfl (by kernel_rfl) (by kernel_rfl) (by kernel_rfl) (by kernel_rfl) (fun _ _ _ h => h) (by assumption) ?_
              simp only [List.set_cons_zero, List.set_cons_succ]
              refine hr_skip (i := 19) rfl rfl (by kernel_rfl) (by kernel_rfl) (by kernel_rfl) (by kernel_rfl) (fun _ _ _ h => h) (by assumption) ?_
              simp only [List.set_cons_zero, List.set_cons_succ]
              refine hr_skip (i := 20) rfl rfl (by kernel_rfl) (by kernel_rfl) (by kernel_rfl) (by kernel_rfl) (fun _ _ _ h => h) (by assumption) ?_
              simp only [List.set_cons_zero, List.set_cons_succ]
              refine hr_skip (i := 21) rfl rfl (by kernel_rfl) (by kernel_rfl) (by kernel_rfl) (by kernel_rfl) (fun _ _ _ h => h) (by assumption) ?_
              simp only [List.set_cons_zero, List.set_cons_succ]
              refine hr_skip (i := 22) rfl rfl (by kernel_rfl) (by kernel_rfl) (by kernel_rfl) (by kernel_rfl) (fun _ _ _ h => h) (by assumption) ?_
              simp only [List.set_cons_zero, List.set_cons_succ]
              refine hr_skip (i := 23) rfl rfl (by kernel_rfl) (by kernel_rfl) (by kernel_rfl) (by kernel_rfl) (fun _ _ _ h => h) (by assumption) ?_
              simp only [List.set_cons_zero, List.set_cons_succ]
              refine hr_skip (i := 24) rfl rfl (by kernel_rfl) (by kernel_rfl) (by kernel_rfl) (by kernel_rfl) (fun _ _ _ h => h) (by assumption) ?_
              simp only [List.set_cons_zero, List.set_cons_succ]
              refine hr_take (i := 25) rfl rfl (by kernel_rfl) (by kernel_rfl) (by kernel_rfl) (by kernel_rfl) (fun _ _ _ h => h) (v := ?_) ?_ (by assumption) ?_
              rotate_left
              focus (intro wS hSw; (try dsimp only at hSw); go_simp; (try with_reducible rfl))
              simp only [List.set_cons_zero, List.set_cons_succ]
              refine hr_done (by kernel_rfl) ?_
              (go_wp2_with fail; go_meet; (case rel => exact ⟨rfl, by (repeat (first | (with_reducible exact Below.refl _ _) | (with_reducible assumption) | (with_reducible refine Below.grow ?_ ?_ _ _) | (with_reducible refine Below.drewN' ?_ _) | (with_reducible refine Below.drew ?_) | (with_reducible refine Below.alloc ?_ ?_ _) | (with_reducible refine Below.setCell ?_ ?_ _) | omega | (focus (simp; done)) | (focus (simp; omega))))⟩))
            · have hatl : at_ < q := by omega
              have hatI : (at_ : Int) < q := by omega
              have hg1 : decide ((at_ : Int) < q) = true := by simpa using hatl
              rcases Bool.eq_false_or_eq_true lastb with hlb | hlb
              rotate_left
              · obtain ⟨ce, hck, hov⟩ := HNEXT.out hlb
                rw [← htE, hk] at hck
                rw [hatw] at hov
                have hkl : k < n := by have := (List.getElem?_eq_some_iff.1 hck).1; rw [HN.out]; exact this
                have hcw := (okC_iff.1 (HOKC.out ce (List.mem_of_getElem? hck))).1
                have hcw2 : ce.w = 2 := by omega
                obtain ⟨bx, ox, hAx, hbxl, hx2⟩ := rdC_at (HX.out.below (HBW4.out.trans (HBT.out.mono HBW4.out.size))) hck
                obtain ⟨br, or, hAr, hbrl, hc2⟩ := (HOKW.out.below HBT.out).1 (by rw [HRN.out]; omega)
                have hrow := hc2 at_ (by rw [HRN.out]; exact hatl)
                rw [HRF.out at_ hatl, padF_out (by omega)] at hrow
                rw [hAx] at y0
                rw [hAr] at p0
                obtain ⟨a0, a1, a2, a3, a4, a5, a6⟩ := hx2
                have hkI2 : (k : Int) < n := by omega
                have hg2 : decide ((k : Int) < n) = true := by simpa using hkl
                obtain ⟨ca, hca⟩ : ∃ ca, ca = blank 0 0 0 := ⟨_, rfl⟩
                have he : ∀ w, (binOp .eql 59 (.agg #[.int .i64 ca.r, .int .i64 ca.m0, .int .i64 ca.m1, .int .i64 ca.w, .int .i64 ca.fg, .int .i64 ca.bg, .int .i64 ca.fl]) (.agg #[.int .i64 ce.r, .int .i64 ce.m0, .int .i64 ce.m1, .int .i64 ce.w, .int .i64 ce.fg, .int .i64 ce.bg, .int .i64 ce.fl])).run Try.prog w = .ok (.bool false) w := fun w => by
                  rw [eql_cell, hca]
                  have : ¬ blank 0 0 0 = ce := fun e => by rw [← e] at hcw2; simp [blank] at hcw2
                  simp [this]
                rw [← hca] at hrow
                obtain ⟨b0, b1, b2, b3', b4', b5, b6⟩ := hrow
                clear hca hck hov hcw hcw2 hc2 htb htp hlb hal htE hfull hatw
                refine hr_start (S := (fun w' => w'.cell? ⟨w.heap.size, 0, none⟩ = some (.slice (some ⟨bx, ox, none⟩) n cap) ∧ w'.cell? ⟨b4, o4 + i * 4, none⟩ = some (.slice (some ⟨br, or, none⟩) q r.cap) ∧ w'.cell? ⟨br, or + at_ * 7, none⟩ = some (.int .i64 ca.r) ∧ w'.cell? ⟨br, or + at_ * 7 + 1, none⟩ = some (.int .i64 ca.m0) ∧ w'.cell? ⟨br, or + at_ * 7 + 2, none⟩ = some (.int .i64 ca.m1) ∧ w'.cell? ⟨br, or + at_ * 7 + 3, none⟩ = some (.int .i64 ca.w) ∧ w'.cell? ⟨br, or + at_ * 7 + 4, none⟩ = some (.int .i64 ca.fg) ∧ w'.cell? ⟨br, or + at_ * 7 + 5, none⟩ = some (.int .i64 ca.bg) ∧ w'.cell? ⟨br, or + at_ * 7 + 6, none⟩ = some (.int .i64 ca.fl) ∧ w'.cell? ⟨bx, ox + k * 7, none⟩ = some (.int .i64 ce.r) ∧ w'.cell? ⟨bx, ox + k * 7 + 1, none⟩ = some (.int .i64 ce.m0) ∧ w'.cell? ⟨bx, ox + k * 7 + 2, none⟩ = some (.int .i64 ce.m1) ∧ w'.cell? ⟨bx, ox + k * 7 + 3, none⟩ = some (.int .i64 ce.w) ∧ w'.cell? ⟨bx, ox + k * 7 + 4, none⟩ = some (.int .i64 ce.fg) ∧ w'.cell? ⟨bx, ox + k * 7 + 5, none⟩ = some (.int .i64 ce.bg) ∧ w'.cell? ⟨bx, ox + k * 7 + 6, none⟩ = some (.int .i64 ce.fl))) (by kernel_rfl) rfl ?_ (fun hHeld => ?_)
                · ((try dsimp only); go_simp)
                refine hr_take (i := 0) rfl rfl (by kernel_rfl) (by kernel_rfl) (by kernel_rfl) (by kernel_rfl) (fun _ _ _ h => h) (v := ?_) ?_ (by assumption) ?_
                rotate_left
                focus (intro wS hSw; (try dsimp only at hSw); go_simp; (try with_reducible rfl))
                simp only [List.set_cons_zero, List.set_cons_succ]
                refine hr_take (i := 1) rfl rfl (by kernel_rfl) (by kernel_rfl) (by kernel_rfl) (by kernel_rfl) (fun _ _ _ h => h) (v := ?_) ?_ (by assumption) ?_
                rotate_left
                focus (intro wS hSw; (try dsimp only at hSw); go_simp; (try with_reducible rfl))
                simp only [List.set_cons_zero, List.set_cons_succ]
                refine hr_take (i := 2) rfl rfl (by kernel_rfl) (by kernel_rfl) (by kernel_rfl) (by kernel_rfl) (fun _ _ _ h => h) (v := ?_) ?_ (by assumption) ?_
                rotate_left
                focus (intro wS hSw; (try dsimp only at hSw); go_simp; (try with_reducible rfl))
                simp only [List.set_cons_zero, List.set_cons_succ]
                refine hr_take (i := 3) rfl rfl (by kernel_rfl) (by kernel_rfl) (by kernel_rfl) (by kernel_rfl) (fun _ _ _ h => h) (v := ?_) ?_ (by assumption) ?_
                rotate_left
                focus (intro wS hSw; (try dsimp only at hSw); go_simp; (try with_reducible rfl))
                simp only [List.set_cons_zero, List.set_cons_succ]
                refine hr_take (i := 4) rfl rfl (by kernel_rfl) (by kernel_rfl) (by kernel_rfl) (by kernel_rfl) (fun _ _ _ h => h) (v := ?_) ?_ (by assumption) ?_
                rotate_left
                focus (intro wS hSw; (try dsimp only at hSw); go_simp; (try with_reducible rfl))
                simp only [List.set_cons_zero, List.set_cons_succ]
                refine hr_take (i := 5) rfl rfl (by kernel_rfl) (by kernel_rfl) (by kernel_rfl) (by kernel_rfl) (fun _ _ _ h => h) (v := ?_) ?_ (by assumption) ?_
                rotate_left
                focus (intro wS hSw; (try dsimp only at hSw); go_simp; (try with_reducible rfl))
                simp only [List.set_cons_zero, List.set_cons_succ]
                refine hr_take (i := 6) rfl rfl (by kernel_rfl) (by kernel_rfl) (by kernel_rfl) (by kernel_rfl) (fun _ _ _ h => h) (v := ?_) ?_ (by assumption) ?_
                rotate_left
                focus (intro wS hSw; (try dsimp only at hSw); go_simp; (try with_reducible rfl))
                simp only [List.set_cons_zero, List.set_cons_succ]
                refine hr_take (i := 7) rfl rfl (by kernel_rfl) (by kernel_rfl) (by kernel_rfl) (by kernel_rfl) (fun _ _ _ h => h) (v := ?_) ?_ (by assumption) ?_
                rotate_left
                focus (intro wS hSw; (try dsimp only at hSw); go_simp; (try with_reducible rfl))
                simp only [List.set_cons_zero, List.set_cons_succ]
                refine hr_take (i := 8) rfl rfl (by kernel_rfl) (by kernel_rfl) (by kernel_rfl) (by kernel_rfl) (fun _ _ _ h => h) (v := ?_) ?_ (by assumption) ?_
                rotate_left
                focus (intro wS hSw; (try dsimp only at hSw); go_simp; (try with_reducible rfl))
                simp only [List.set_cons_zero, List.set_cons_succ]
                refine hr_take (i := 9) rfl rfl (by kernel_rfl) (by kernel_rfl) (by kernel_rfl) (by kernel_rfl) (fun _ _ _ h => h) (v := ?_) ?_ (by assumption) ?_
                rotate_left
                focus (intro wS hSw; (try dsimp only at hSw); go_simp; (try with_reducible rfl))
                simp only [List.set_cons_zero, List.set_cons_succ]
                refine hr_take (i := 10) rfl rfl (by kernel_rfl) (by kernel_rfl) (by kernel_rfl) (by kernel_rfl) (fun _ _ _ h => h) (v := ?_) ?_ (by assumption) ?_
                rotate_left
                focus (intro wS hSw; (try dsimp only at hSw); go_simp; (try with_reducible rfl))
                simp only [List.set_cons_zero, List.set_cons_succ]
                refine hr_take (i := 11) rfl rfl (by kernel_rfl) (by kernel_rfl) (by kernel_rfl) (by kernel_rfl) (fun _ _ _ h => h) (v := ?_) ?_ (by assumption) ?_
                rotate_left
                focus (intro wS hSw; (try dsimp only at hSw); go_simp; (try with_reducible rfl))
                simp only [List.set_cons_zero, List.set_cons_succ]
                refine hr_take (i := 12) rfl rfl (by kernel_rfl) (by kernel_rfl) (by kernel_rfl) (by kernel_rfl) (fun _ _ _ h => h) (v := ?_) ?_ (by assumption) ?_
                rotate_left
                focus (intro wS hSw; (try dsimp only at hSw); go_simp; (try with_reducible rfl))
                simp only [List.set_cons_zero, List.set_cons_succ]
                refine hr_take (i := 13) rfl rfl (by kernel_rfl) (by kernel_rfl) (by kernel_rfl) (by kernel_rfl) (fun _ _ _ h => h) (v := ?_) ?_ (by assumption) ?_
                rotate_left
                focus (intro wS hSw; (try dsimp only at hSw); go_simp; (try with_reducible rfl))
                simp only [List.set_cons_zero, List.set_cons_succ]
                refine hr_take (i := 14) rfl rfl (by kernel_rfl) (by kernel_rfl) (by kernel_rfl) (by kernel_rfl) (fun _ _ _ h => h) (v := ?_) ?_ (by assumption) ?_
                rotate_left
                focus (intro wS hSw; (try dsimp only at hSw); go_simp; (try with_reducible rfl))
                simp only [List.set_cons_zero, List.set_cons_succ]
                refine hr_take (i := 15) rfl rfl (by kernel_rfl) (by kernel_rfl) (by kernel_rfl) (by kernel_rfl) (fun _ _ _ h => h) (v := ?_) ?_ (by assumption) ?_
                rotate_left
                focus (intro wS hSw; (try dsimp only at hSw); go_simp; (try with_reducible rfl))
                simp only [List.set_cons_zero, List.set_cons_succ]
                refine hr_take (i := 16) rfl rfl (by kernel_rfl) (by kernel_rfl) (by kernel_rfl) (by kernel_rfl) (fun _ _ _ h => h) (v := ?_) ?_ (by assumption) ?_
                rotate_left
                focus (intro wS hSw; (try dsimp only at hSw); go_simp; (try with_reducible rfl))
                simp only [List.set_cons_zero, List.set_cons_succ]
                refine hr_take (i := 17) rfl rfl (by kernel_rfl) (by kernel_rfl) (by kernel_rfl) (by kernel_rfl) (fun _ _ _ h => h) (v := ?_) ?_ (by assumption) ?_
                rotate_left
                focus (intro wS hSw; (try dsimp only at hSw); go_simp; (try with_reducible rfl))
                simp only [List.set_cons_zero, List.set_cons_succ]
                refine hr_take (i := 18) rfl rfl (by kernel_rfl) (by kernel_rfl) (by kernel_rfl) (by kernel_rfl) (fun _ _ _ h => h) (v := ?_) ?_ (by assumption) ?_
                rotate_left
                focus (intro wS hSw; (try dsimp only at hSw); go_simp; (try with_reducible rfl))
                simp only [List.set_cons_zero, List.set_cons_succ]
                refine hr_take (i := 19) rfl rfl (by kernel_rfl) (by kernel_rfl) (by kernel_rfl) (by kernel_rfl) (fun _ _ _ h => h) (v := ?_) ?_ (by assumption) ?_
                rotate_left
                focus (intro wS hSw; (try dsimp only at hSw); go_simp; (try with_reducible rfl))
                simp only [List.set_cons_zero, List.set_cons_succ]
                refine hr_take (i := 20) rfl rfl (by kernel_rfl) (by kernel_rfl) (by kernel_rfl) (by kernel_rfl) (fun _ _ _ h => h) (v := ?_) ?_ (by assumption) ?_
                rotate_left
                focus (intro wS hSw; (try dsimp only at hSw); go_simp; (try with_reducible rfl))
                simp only [List.set_cons_zero, List.set_cons_succ]
                refine hr_take (i := 21) rfl rfl (by kernel_rfl) (by kernel_rfl) (by kernel_rfl) (by kernel_rfl) (fun _ _ _ h => h) (v := ?_) ?_ (by assumption) ?_
                rotate_left
                focus (intro wS hSw; (try dsimp only at hSw); go_simp; (try with_reducible rfl))
                simp only [List.set_cons_zero, List.set_cons_succ]
                refine hr_take (i := 22) rfl rfl (by kernel_rfl) (by kernel_rfl) (by kernel_rfl) (by kernel_rfl) (fun _ _ _ h => h) (v := ?_) ?_ (by assumption) ?_
                rotate_left
                focus (intro wS hSw; (try dsimp only at hSw); go_simp; (try with_reducible rfl))
                simp only [List.set_cons_zero, List.set_cons_succ]
                refine hr_take (i := 23) rfl rfl (by kernel_rfl) (by kernel_rfl) (by kernel_rfl) (by kernel_rfl) (fun _ _ _ h => h) (v := ?_) ?_ (by assumption) ?_
                rotate_left
                focus (intro wS hSw; (try dsimp only at hSw); go_simp; (try with_reducible rfl))
                simp only [List.set_cons_zero, List.set_cons_succ]
                refine hr_take (i := 24) rfl rfl (by kernel_rfl) (by kernel_rfl) (by kernel_rfl) (by kernel_rfl) (fun _ _ _ h => h) (v := ?_) ?_ (by assumption) ?_
                rotate_left
                focus (intro wS hSw; (try dsimp only at hSw); go_simp; (try with_reducible rfl))
                simp only [List.set_cons_zero, List.set_cons_succ]
                refine hr_take (i := 25) rfl rfl (by kernel_rfl) (by kernel_rfl) (by kernel_rfl) (by kernel_rfl) (fun _ _ _ h => h) (v := ?_) ?_ (by assumption) ?_
                rotate_left
                focus (intro wS hSw; (try dsimp only at hSw); go_simp; (try with_reducible rfl))
                simp only [List.set_cons_zero, List.set_cons_succ]
                refine hr_done (by kernel_rfl) ?_
                (go_wp2_with fail; go_meet; (case rel => exact ⟨rfl, by (repeat (first | (with_reducible exact Below.refl _ _) | (with_reducible assumption) | (with_reducible refine Below.grow ?_ ?_ _ _) | (with_reducible refine Below.drewN' ?_ _) | (with_reducible refine Below.drew ?_) | (with_reducible refine Below.alloc ?_ ?_ _) | (with_reducible refine Below.setCell ?_ ?_ _) | omega | (focus (simp; done)) | (focus (simp; omega))))⟩))
              · have hkn : k = n := by have := HLAST.out hlb; omega
                have hg2 : decide ((k : Int) < n) = false := by simp; omega
                have hg4 : ¬ (k : Int) < n := by omega
                clear htb hlb hkn hal htE hfull hatw htp
                refine hr_start (S := (fun w' => w'.cell? ⟨w.heap.size, 0, none⟩ = some (.slice A n cap))) (by kernel_rfl) rfl ?_ (fun hHeld => ?_)
                · ((try dsimp only); go_simp)
                refine hr_take (i := 0) rfl rfl (by kernel_rfl) (by kernel_rfl) (by kernel_rfl) (by kernel_rfl) (fun _ _ _ h => h) (v := ?_) ?_ (by assumption) ?_
                rotate_left
                focus (intro wS hSw; (try dsimp only at hSw); go_simp; (try with_reducible rfl))
                simp only [List.set_cons_zero, List.set_cons_succ]
                refine hr_take (i := 1) rfl rfl (by kernel_rfl) (by kernel_rfl) (by kernel_rfl) (by kernel_rfl) (fun _ _ _ h => h) (v := ?_) ?_ (by assumption) ?_
                rotate_left
                focus (intro wS hSw; (try dsimp only at hSw); go_simp; (try with_reducible rfl))
                simp only [List.set_cons_zero, List.set_cons_succ]
                refine hr_take (i := 2) rfl rfl (by kernel_rfl) (by kernel_rfl) (by kernel_rfl) (by kernel_rfl) (fun _ _ _ h => h) (v := ?_) ?_ (by assumption) ?_
                rotate_left
                focus (intro wS hSw; (try dsimp only at hSw); go_simp; (try with_reducible rfl))
                simp only [List.set_cons_zero, List.set_cons_succ]
                refine hr_take (i := 3) rfl rfl (by kernel_rfl) (by kernel_rfl) (by kernel_rfl) (by kernel_rfl) (fun _ _ _ h => h) (v := ?_) ?_ (by assumption) ?_
                rotate_left
                focus (intro wS hSw; (try dsimp only at hSw); go_simp; (try with_reducible rfl))
                simp only [List.set_cons_zero, List.set_cons_succ]
                refine hr_take (i := 4) rfl rfl (by kernel_rfl) (by kernel_rfl) (by kernel_rfl) (by kernel_rfl) (fun _ _ _ h => h) (v := ?_) ?_ (by assumption) ?_
                rotate_left
                focus (intro wS hSw; (try dsimp only at hSw); go_simp; (try with_reducible rfl))
                simp only [List.set_cons_zero, List.set_cons_succ]
                refine hr_take (i := 5) rfl rfl (by kernel_rfl) (by kernel_rfl) (by kernel_rfl) (by kernel_rfl) (fun _ _ _ h => h) (v := ?_) ?_ (by assumption) ?_
                rotate_left
                focus (intro wS hSw; (try dsimp only at hSw); go_simp; (try with_reducible rfl))
                simp only [List.set_cons_zero, List.set_cons_succ]
                refine hr_take (i := 6) rfl rfl (by kernel_rfl) (by kernel_rfl) (by kernel_rfl) (by kernel_rfl) (fun _ _ _ h => h) (v := ?_) ?_ (by assumption) ?_
                rotate_left
                focus (intro wS hSw; (try dsimp only at hSw); go_simp; (try with_reducible rfl))
                simp only [List.set_cons_zero, List.set_cons_succ]
                refine hr_take (i := 7) rfl rfl (by kernel_rfl) (by kernel_rfl) (by kernel_rfl) (by kernel_rfl) (fun _ _ _ h => h) (v := ?_) ?_ (by assumption) ?_
                rotate_left
                focus (intro wS hSw; (try dsimp only at hSw); go_simp; (try with_reducible rfl))
                simp only [List.set_cons_zero, List.set_cons_succ]
                refine hr_take (i := 8) rfl rfl (by kernel_rfl) (by kernel_rfl) (by kernel_rfl) (by kernel_rfl) (fun _ _ _ h => h) (v := ?_) ?_ (by assumption) ?_
                rotate_left
                focus (intro wS hSw; (try dsimp only at hSw); go_simp; (try with_reducible rfl))
                simp only [List.set_cons_zero, List.set_cons_succ]
                refine hr_take (i := 9) rfl rfl (by kernel_rfl) (by kernel_rfl) (by kernel_rfl) (by kernel_rfl) (fun _ _ _ h => h) (v := ?_) ?_ (by assumption) ?_
                rotate_left
                focus (intro wS hSw; (try dsimp only at hSw); go_simp; (try with_reducible rfl))
                simp only [List.set_cons_zero, List.set_cons_succ]
                refine hr_take (i := 10) rfl rfl (by kernel_rfl) (by kernel_rfl) (by kernel_rfl) (by kernel_rfl) (fun _ _ _ h => h) (v := ?_) ?_ (by assumption) ?_
                rotate_left
                focus (intro wS hSw; (try dsimp only at hSw); go_simp; (try with_reducible rfl))
                simp only [List.set_cons_zero, List.set_cons_succ]
                refine hr_skip (i := 11) rfl rfl (by kernel_rfl) (by kernel_rfl) (by kernel_rfl) (by kernel_rfl) (fun _ _ _ h => h) (by assumption) ?_
                simp only [List.set_cons_zero, List.set_cons_succ]
                refine hr_skip (i := 12) rfl rfl (by kernel_rfl) (by kernel_rfl) (by kernel_rfl) (by kernel_rfl) (fun _ _ _ h => h) (by assumption) ?_
                simp only [List.set_cons_zero, List.set_cons_succ]
                refine hr_skip (i := 13) rfl rfl (by kernel_rfl) (by kernel_rfl) (by kernel_rfl) (by kernel_rfl) (fun _ _ _ h => h) (by assumption) ?_
                simp only [List.set_cons_zero, List.set_cons_succ]
                refine hr_skip (i := 14) rfl rfl (by kernel_rfl) (by kernel_rfl) (by kernel_rfl) (by kernel_rfl) (fun _ _ _ h => h) (by assumption) ?_
                simp only [List.set_cons_zero, List.set_cons_succ]
                refine hr_skip (i := 15) rfl rfl (by kernel_rfl) (by kernel_rfl) (by kernel_rfl) (by kernel_rfl) (fun _ _ _ h => h) (by assumption) ?_
                simp only [List.set_cons_zero, List.set_cons_succ]
                refine hr_skip (i := 16) rfl rfl (by kernel_rfl) (by kernel_rfl) (by kernel_rfl) (by kernel_rfl) (fun _ _ _ h => h) (by assumption) ?_
                simp only [List.set_cons_zero, List.set_cons_succ]
                refine hr_skip (i := 17) rfl rfl (by kernel_rfl) (by kernel_rfl) (by kernel_rfl) (by kernel_rfl) (fun _ _ _ h => h) (by assumption) ?_
                simp only [List.set_cons_zero, List.set_cons_succ]
                refine hr_skip (i := 18) rfl rfl (by kernel_rfl) (by kernel_rfl) (by kernel_rfl) (by kernel_rfl) (fun _ _ _ h => h) (by assumption) ?_
                simp only [List.set_cons_zero, List.set_cons_succ]
                refine hr_skip (i := 19) rfl rfl (by kernel_rfl) (by kernel_rfl) (by kernel_rfl) (by kernel_rfl) (fun _ _ _ h => h) (by assumption) ?_
                simp only [List.set_cons_zero, List.set_cons_succ]
                refine hr_skip (i := 20) rfl rfl (by kernel_rfl) (by kernel_rfl) (by kernel_rfl) (by kernel_rfl) (fun _ _ _ h => h) (by assumption) ?_
                simp only [List.set_cons_zero, List.set_cons_succ]
                refine hr_skip (i := 21) rfl rfl (by kernel_rfl) (by kernel_rfl) (by kernel_rfl) (by kernel_rfl) (fun _ _ _ h => h) (by assumption) ?_
                simp only [List.set_cons_zero, List.set_cons_succ]
                refine hr_skip (i := 22) rfl rfl (by kernel_rfl) (by kernel_rfl) (by kernel_rfl) (by kernel_rfl) (fun _ _ _ h => h) (by assumption) ?_
                simp only [List.set_cons_zero, List.set_cons_succ]
                refine hr_skip (i := 23) rfl rfl (by kernel_rfl) (by kernel_rfl) (by kernel_rfl) (by kernel_rfl) (fun _ _ _ h => h) (by assumption) ?_
                simp only [List.set_cons_zero, List.set_cons_succ]
                refine hr_skip (i := 24) rfl rfl (by kernel_rfl) (by kernel_rfl) (by kernel_rfl) (by kernel_rfl) (fun _ _ _ h => h) (by assumption) ?_
                simp only [List.set_cons_zero, List.set_cons_succ]
                refine hr_take (i := 25) rfl rfl (by kernel_rfl) (by kernel_rfl) (by kernel_rfl) (by kernel_rfl) (fun _ _ _ h => h) (v := ?_) ?_ (by assumption) ?_
                rotate_left
                focus (intro wS hSw; (try dsimp only at hSw); go_simp; (try with_reducible rfl))
                simp only [List.set_cons_zero, List.set_cons_succ]
                refine hr_done (by kernel_rfl) ?_
                (go_wp2_with fail; go_meet; (case rel => exact ⟨rfl, by (repeat (first | (with_reducible exact Below.refl _ _) | (with_reducible assumption) | (with_reducible refine Below.grow ?_ ?_ _ _) | (with_reducible refine Below.drewN' ?_ _) | (with_reducible refine Below.drew ?_) | (with_reducible refine Below.alloc ?_ ?_ _) | (with_reducible refine Below.setCell ?_ ?_ _) | omega | (focus (simp; done)) | (focus (simp; omega))))⟩))
        obtain ⟨rfl, hbc⟩ := hcut
        have HBC : Hid (Below w4.heap.size w4 wc) := HBT.out.trans (hbc.mono HBT.out.size)
        have hbcs := HBC.out.size
        clear y0 y1 y2 yf yl p0
        obtain ⟨y0, y1, y2, yf, yl⟩ := ((HB24.out.below HBC.out HB24.out.lt)).facts3
        have p0 := HP4.out _ HBC.out
        rcases Bool.eq_false_or_eq_true tb with htb2 | htb2
        · have htp : t < p.length := by rw [← htb] at htb2; simpa using htb2
          obtain ⟨ce, hce⟩ : ∃ ce, p[t]? = some ce := ⟨_, List.getElem?_eq_getElem htp⟩
          have hck := HKT.out t ce hce
          rw [hk] at hck
          obtain ⟨hw1, hw2⟩ := wide_at hce
          have hokc := HPC.out p HPM.out ce (List.mem_of_getElem? hce)
          have hwl := whole_len hokc
          have HAT : Hid ((at_ : Int) + ce.w = ((wide (p.take (t + 1))).length : Nat)) := by show _ = _; rw [hw2, hat_]; omega
          have hwt := wide_take_le p (t + 1)
          have hkl : k < n := by omega
          obtain ⟨bx, ox, hAx, hbxl, hx2⟩ := rdC_at (HX.out.below (HBW4.out.trans (HBC.out.mono HBW4.out.size))) hck
          rw [hAx] at y0
          obtain ⟨a0, a1, a2, a3, a4, a5, a6⟩ := hx2
          have hkI2 : (k : Int) < n := by omega
          have hwrp : IntKind.i64.wrap ((at_ : Int) + ce.w) = (at_ : Int) + ce.w := by rw [IntWalk.i64_left]; exact IntWalk.wrap64_in _ (by omega)
          have HK1 : Hid ((k : Int) + 1 = ((K + (t + 1) : Nat) : Int)) := by show _ = _; omega
          have HT1 : Hid (t + 1 ≤ p.length) := htp
          rw [htb2]
          clear hce hck hw1 hw2 hokc htp htb htb2 hk hat_ hwt
          go_wp2_with fail
          go_roundw
          case rel => exact ⟨t + 1, HT1.out, by rw [← HK1.out], by rw [HAT.out], HBC.out⟩
          case measure => (simp [intOf]; have := HK1.out; have := HT1.out; omega)
        · have htp : ¬ t < p.length := by rw [← htb] at htb2; simpa using htb2
          have htE : t = p.length := by omega
          have hfull : p.take t = p := List.take_of_length_le (by omega)
          have hatw : (wide p).length = at_ := by rw [← hat_, hfull]
          have HKE : Hid (K + p.length = k) := by show _ = _; rw [← htE]; exact hk
          have HAW := Lib.hid hatw
          rw [htb2]
          clear htb htb2 hk hat_ htp htE hfull hatw
          go_upto_region 20 with fail
          obtain ⟨wy, rfl⟩ : ∃ wy, wy = wc := ⟨_, rfl⟩
          go_cut [159] from 131 to 158 (fun s wd => s = .bool false ∧ wd = wy)
          case first =>
            rcases Bool.eq_false_or_eq_true lastb with hlb | hlb
            · have hlbn : (!lastb) = false := by rw [hlb]; rfl
              clear hlb
              go_wp2_with fail
              go_meet
              case rel => exact ⟨rfl, by first | rfl | trivial⟩
            · have hlbn : (!lastb) = true := by rw [hlb]; rfl
              by_cases hal : at_ = q
              · have hg1 : ((at_ : Int) != (q : Int)) = false := by rw [hal]; simp
                clear hlb hal
                go_wp2_with fail
                go_meet
                case rel => exact ⟨rfl, by first | rfl | trivial⟩
              · obtain ⟨ce, hck, hov⟩ := HNEXT.out hlb
                rw [HKE.out] at hck
                rw [HAW.out] at hov
                have hkl : k < n := by have := (List.getElem?_eq_some_iff.1 hck).1; rw [HN.out]; exact this
                have hcw := (okC_iff.1 (HOKC.out ce (List.mem_of_getElem? hck))).1
                have hcw2 : (ce.w != 2) = false := by
                  have : ce.w = 2 := by omega
                  rw [this]
                  rfl
                obtain ⟨bx, ox, hAx, hbxl, hx2⟩ := rdC_at (HX.out.below (HBW4.out.trans (HBC.out.mono HBW4.out.size))) hck
                rw [hAx] at y0
                obtain ⟨a0, a1, a2, a3, a4, a5, a6⟩ := hx2
                have hkI2 : (k : Int) < n := by omega
                obtain ⟨q1, hq1⟩ : ∃ q1, q1 + 1 = q := ⟨q - 1, by omega⟩
                have hqs : (q : Int) - 1 = (q1 : Int) := by omega
                have hg1 : ((at_ : Int) != (q : Int)) = true := by simp; omega
                have hg2 : ((at_ : Int) != (q1 : Int)) = false := by
                  have : (at_ : Int) = q1 := by omega
                  rw [this]
                  simp
                have hg3 : decide ((n : Int) ≤ k) = false := by simp; omega
                have hg4 : decide (n ≤ k) = false := by simp; omega
                clear hlb hal hck hov hcw hq1
                go_wp2_with fail
                go_meet
                case rel => exact ⟨rfl, by first | rfl | trivial⟩
          obtain ⟨rfl, hwd⟩ := hcut
          rw [hwd]
          clear hwd wc
          go_wp2_with fail
          clear y0 y1 y2 yf yl p0
          go_loopw [13] (fun s wz => ∃ j : Nat, at_ ≤ j ∧ j ≤ q ∧ s = .int .i64 j ∧ Below w4.heap.size w4 wz) (fun s _ => q - (intOf s).toNat)
          case atStart => exact ⟨at_, Nat.le_refl _, hatq, rfl, HBC.out⟩
          case round =>
            obtain ⟨j, haj, hjq, rfl, hbj⟩ := hrel
            have hbjs := hbj.size
            have hkz : ((k : Nat) : Int) = (((P.take (i + 1)).flatten.length : Nat) : Int) := by rw [HKN.out, HKE.out]
            have HKZ := Lib.hid hkz
            clear hkz
            by_cases hjl : j < q
            · have hjI : (j : Int) < q := by omega
              rcases Bool.eq_false_or_eq_true lastb with hlb | hlb
              · obtain ⟨br, or, hAr, hbrl, hc2⟩ := (HOKW.out.below hbj).1 (by rw [HRN.out]; omega)
                have hrow := hc2 j (by rw [HRN.out]; exact hjl)
                rw [HRF.out j hjl, padF_out (by rw [HAW.out]; exact haj)] at hrow
                have p0 := HP4.out _ hbj
                rw [hAr] at p0
                clear hAr hc2
                obtain ⟨b0, b1, b2, b3', b4', b5, b6⟩ := hrow
                simp only [blank] at b0 b1 b2 b3' b4' b5 b6
                have hbl5 : b4 < wr.heap.size := by omega
                have he : ∀ w, (binOp .neq 59 (.agg #[.int .i64 0, .int .i64 0, .int .i64 0, .int .i64 1, .int .i64 0, .int .i64 0, .int .i64 0]) (.agg #[.int .i64 0, .int .i64 0, .int .i64 0, .int .i64 1, .int .i64 0, .int .i64 0, .int .i64 0])).run Try.prog w = .ok (.bool false) w := fun w => by
                  have := neq_cell (blank 0 0 0) (blank 0 0 0) w
                  simpa [blank] using this
                go_upto_region 25 with fail
                clear hlb
                refine hr_start (S := (fun w' => w'.cell? ⟨b4, o4 + i * 4, none⟩ = some (.slice (some ⟨br, or, none⟩) q r.cap) ∧ w'.cell? ⟨br, or + j * 7, none⟩ = some (.int .i64 0) ∧ w'.cell? ⟨br, or + j * 7 + 1, none⟩ = some (.int .i64 0) ∧ w'.cell? ⟨br, or + j * 7 + 2, none⟩ = some (.int .i64 0) ∧ w'.cell? ⟨br, or + j * 7 + 3, none⟩ = some (.int .i64 1) ∧ w'.cell? ⟨br, or + j * 7 + 4, none⟩ = some (.int .i64 0) ∧ w'.cell? ⟨br, or + j * 7 + 5, none⟩ = some (.int .i64 0) ∧ w'.cell? ⟨br, or + j * 7 + 6, none⟩ = some (.int .i64 0))) (by kernel_rfl) rfl ?_ (fun hHeld => ?_)
                · ((try dsimp only); go_simp)
                refine hr_take (i := 0) rfl rfl (by kernel_rfl) (by kernel_rfl) (by kernel_rfl) (by kernel_rfl) (fun _ _ _ h => h) (v := ?_) ?_ (by assumption) ?_
                rotate_left
                focus (intro wS hSw; (try dsimp only at hSw); go_simp; (try with_reducible rfl))
                simp only [List.set_cons_zero, List.set_cons_succ]
                refine hr_take (i := 1) rfl rfl (by kernel_rfl) (by kernel_rfl) (by kernel_rfl) (by kernel_rfl) (fun _ _ _ h => h) (v := ?_) ?_ (by assumption) ?_
                rotate_left
                focus (intro wS hSw; (try dsimp only at hSw); go_simp; (try with_reducible rfl))
                simp only [List.set_cons_zero, List.set_cons_succ]
                refine hr_take (i := 2) rfl rfl (by kernel_rfl) (by kernel_rfl) (by kernel_rfl) (by kernel_rfl) (fun _ _ _ h => h) (v := ?_) ?_ (by assumption) ?_
                rotate_left
                focus (intro wS hSw; (try dsimp only at hSw); go_simp; (try with_reducible rfl))
                simp only [List.set_cons_zero, List.set_cons_succ]
                refine hr_take (i := 3) rfl rfl (by kernel_rfl) (by kernel_rfl) (by kernel_rfl) (by kernel_rfl) (fun _ _ _ h => h) (v := ?_) ?_ (by assumption) ?_
                rotate_left
                focus (intro wS hSw; (try dsimp only at hSw); go_simp; (try with_reducible rfl))
                simp only [List.set_cons_zero, List.set_cons_succ]
                refine hr_take (i := 4) rfl rfl (by kernel_rfl) (by kernel_rfl) (by kernel_rfl) (by kernel_rfl) (fun _ _ _ h => h) (v := ?_) ?_ (by assumption) ?_
                rotate_left
                focus (intro wS hSw; (try dsimp only at hSw); go_simp; (try with_reducible rfl))
                simp only [List.set_cons_zero, List.set_cons_succ]
                refine hr_take (i := 5) rfl rfl (by kernel_rfl) (by kernel_rfl) (by kernel_rfl) (by kernel_rfl) (fun _ _ _ h => h) (v := ?_) ?_ (by assumption) ?_
                rotate_left
                focus (intro wS hSw; (try dsimp only at hSw); go_simp; (try with_reducible rfl))
                simp only [List.set_cons_zero, List.set_cons_succ]
                refine hr_take (i := 6) rfl rfl (by kernel_rfl) (by kernel_rfl) (by kernel_rfl) (by kernel_rfl) (fun _ _ _ h => h) (v := ?_) ?_ (by assumption) ?_
                rotate_left
                focus (intro wS hSw; (try dsimp only at hSw); go_simp; (try with_reducible rfl))
                simp only [List.set_cons_zero, List.set_cons_succ]
                refine hr_take (i := 7) rfl rfl (by kernel_rfl) (by kernel_rfl) (by kernel_rfl) (by kernel_rfl) (fun _ _ _ h => h) (v := ?_) ?_ (by assumption) ?_
                rotate_left
                focus (intro wS hSw; (try dsimp only at hSw); go_simp; (try with_reducible rfl))
                simp only [List.set_cons_zero, List.set_cons_succ]
                refine hr_take (i := 8) rfl rfl (by kernel_rfl) (by kernel_rfl) (by kernel_rfl) (by kernel_rfl) (fun _ _ _ h => h) (v := ?_) ?_ (by assumption) ?_
                rotate_left
                focus (intro wS hSw; (try dsimp only at hSw); go_simp; (try with_reducible rfl))
                simp only [List.set_cons_zero, List.set_cons_succ]
                refine hr_op (i := 9) rfl rfl (by kernel_rfl) (by kernel_rfl) (fun K hK => ?_)
                go_simp
                ((with_reducible refine (blank8_c 0 0 0 _).mono ?_); rintro e w6 ⟨rfl, X6, d6, rfl⟩)
                (try go_wp2_with fail)
                refine hK.out _ _ ?_ (fun hHeld => ?_)
                · ((try dsimp only); go_simp)
                clear hK K
                simp only [List.set_cons_zero, List.set_cons_succ]
                refine hr_take (i := 10) rfl rfl (by kernel_rfl) (by kernel_rfl) (by kernel_rfl) (by kernel_rfl) (fun _ _ _ h => h) (v := ?_) ?_ (by assumption) ?_
                rotate_left
                focus (intro wS hSw; (try dsimp only at hSw); go_simp; (try with_reducible rfl))
                simp only [List.set_cons_zero, List.set_cons_succ]
                refine hr_done (by kernel_rfl) ?_
                go_wp2_with fail
                go_roundw
                case rel => exact ⟨j + 1, by omega, by omega, by go_num, by (repeat (first | (with_reducible exact Below.refl _ _) | (with_reducible assumption) | (with_reducible refine Below.grow ?_ ?_ _ _) | (with_reducible refine Below.drewN' ?_ _) | (with_reducible refine Below.drew ?_) | (with_reducible refine Below.alloc ?_ ?_ _) | (with_reducible refine Below.setCell ?_ ?_ _) | omega | (focus (simp; done)) | (focus (simp; omega))))⟩
                case measure => simp [intOf]; omega
              · go_wp2_with fail
                go_roundw
                case rel => exact ⟨i + 1, by omega, by go_num, by rw [HKZ.out], hbj⟩
                case measure => simp [intOf]; omega
            · obtain rfl : q = j := by omega
              go_wp2_with fail
              go_roundw
              case rel => exact ⟨i + 1, by omega, by go_num, by rw [HKZ.out], hbj⟩
              case measure => simp [intOf]; omega
    · obtain rfl : nr = i := by omega
      have HKE : Hid ((P.take nr).flatten.length = n) := by
        show _ = _
        rw [List.take_of_length_le (by rw [HPL.out]; exact Nat.le_refl _), HPF.out, ← HN.out]
      obtain ⟨y0, y1, y2, yf, yl⟩ := ((HB24.out.below hbz HB24.out.lt)).facts3
      rw [HKE.out]
      go_wp2_with fail
      go_ret
      exact ⟨rfl, Below.toGrow hbwz⟩
theorem split_law (A : Option Addr) (n cap : Nat) (cs : List Cl) (dir : Int) (ex : Bool) (v : Int) (w : World) (hx : RdX encC w (.slice A n cap) cs) (hn : n = cs.length) (hl : n ≤ maxLen) : Calls Try.prog 7 #[.agg #[.slice A n cap, .int .i64 dir, .bool ex], .int .i64 v] w fun e w' => e = .returned (.bool true) ∧ Grew w w' := by
  by_cases h : n ≤ 200
  · cases hs : sanL ⟨cs, dir, ex⟩
    · exact split_insane A n cap cs dir ex v w hx hn hl h hs
    · exact split_good A n cap cs dir ex v w hx hn hl h hs
  · exact split_many A n cap cs dir ex v w hx hn hl (by omega)
end Go.Proofs.Ytlgnchhhadnjbaa.Row
