/- reflow.Reflow. -/
import Derived.Test.YtlgnchhhadnjbaaRflQ
namespace Go.Proofs.Ytlgnchhhadnjbaa.Row
open Go.RowKit
/-- a line's place in rows -/
def whereR (M : List Ls) (v : Int) (pl pa : Nat) : Nat × Nat :=
  match M[pl]? with
  | some x => ((spreadS (M.take pl) v).length + (whereN (splitG x v) pa).1, (whereN (splitG x v) pa).2)
  | none => (0, 0)
def ReflowF (L : List Rw) (v : Int) (y p : Nat) (w : World) (e : Ending) (w' : World) : Prop :=
  ∃ u R, e = .returned (.tuple #[u, .int .i64 (whereR (joinR L) v (findN L y).1 ((findN L y).2 + p)).1, .int .i64 (whereR (joinR L) v (findN L y).1 ((findN L y).2 + p)).2]) ∧ Below w.heap.size w w' ∧ RdR w' u R ∧ R.map Rw.sh = spreadS (joinR L) v
set_option maxRecDepth 100000 in
set_option maxHeartbeats 4000000 in
theorem reflow_yes (x : Value) (L : List Rw) (v : Int) (y p : Nat) (r : Rw) (w : World) (hx : RdR w x L) (hl : L.length ≤ 100000) (ha : areB L = true) (ht : sumN L L.length ≤ 9000000) (hr : L[y]? = some r) (hp : p < r.n) :
    Calls Try.prog 23 #[x, .int .i64 v, .int .i64 y, .int .i64 p] w (ReflowF L v y p w) := by
  obtain ⟨A, cap, rfl, hc⟩ := hx.1.len
  have HLL := Lib.hid hl
  have HT := Lib.hid ht
  have HA := Lib.hid ha
  have HR := Lib.hid hr
  have HP : Hid ((0 : Int) ≤ p) := by show _ ≤ _; omega
  have HPR : Hid ((p : Int) < r.n) := by show _ < _; omega
  have HFL := findN_le (L := L) (fun r hr => (hx.2 r hr).2.2) y
  have hyl := (List.getElem?_eq_some_iff.1 hr).1
  have HFJ := Lib.hid (find_lt hyl)
  have hr5 := (hx.2 r (List.mem_of_getElem? hr)).2.2
  obtain ⟨n, hn⟩ : ∃ n, L.length = n := ⟨_, rfl⟩
  rw [hn] at hl hc hx ⊢
  have HX := Lib.hid hx
  have HN := Lib.hid hn
  unfold ReflowF
  obtain ⟨pl, hpl⟩ : ∃ pl, (findN L y).1 = pl := ⟨_, rfl⟩
  obtain ⟨pa, hpa⟩ : ∃ pa, (findN L y).2 = pa := ⟨_, rfl⟩
  rw [hpl] at HFL HFJ
  rw [hpa] at HFL
  have HPL := Lib.hid hpl
  have HPA := Lib.hid hpa
  rw [hpl, hpa]
  obtain ⟨xl, hxl⟩ : ∃ xl, (joinR L)[pl]? = some xl := ⟨_, List.getElem?_eq_getElem HFJ.out⟩
  obtain ⟨pp, hpp⟩ : ∃ pp, pa + p = pp := ⟨_, rfl⟩
  have HPP : Hid ((pa : Int) + (p : Int) = (pp : Int)) := by show _ = _; omega
  have HPB : Hid ((pp : Int) ≤ 9223372036854775807) := by show _ ≤ _; omega
  rw [hpp]
  have hwr : whereR (joinR L) v pl pp = ((spreadS ((joinR L).take pl) v).length + (whereN (splitG xl v) pp).1, (whereN (splitG xl v) pp).2) := by
    unfold whereR
    rw [hxl]
  rw [hwr]
  simp only
  have HXL := Lib.hid hxl
  have HSJ := Lib.hid (joinR_sane ha)
  have HTJ := Lib.hid (joinR_tot L)
  clear hx hr hn hpl hpa hwr hxl ha hpp
  go_enter Try.func23, Try.ntmps23
  go_upto_region 2 with ((go_at_call 42; (with_reducible refine (find_yes (.slice A n cap) L y p r _ (HX.out.below (by (repeat (first | (with_reducible exact Below.refl _ _) | (with_reducible assumption) | (with_reducible refine Below.grow ?_ ?_ _ _) | (with_reducible refine Below.drewN' ?_ _) | (with_reducible refine Below.drew ?_) | (with_reducible refine Below.alloc ?_ ?_ _) | (with_reducible refine Below.setCell ?_ ?_ _) | omega | (focus (simp; done)) | (focus (simp; omega)))))) HLL.out HA.out HR.out HP.out HPR.out).mono ?_); rintro e w1 ⟨he1, X1, d1, rfl⟩; unfold FindP at he1; subst he1); rw [HPL.out, HPA.out, HPP.out])
  obtain ⟨g, hg⟩ : ∃ g, w.heap.size + X1.size = g := ⟨_, rfl⟩
  rw [hg]
  generalize hw1 : (w.grow X1 d1).alloc _ = w1
  have hbw1 : Below w.heap.size w w1 := by rw [← hw1]; (repeat (first | (with_reducible exact Below.refl _ _) | (with_reducible assumption) | (with_reducible refine Below.grow ?_ ?_ _ _) | (with_reducible refine Below.drewN' ?_ _) | (with_reducible refine Below.drew ?_) | (with_reducible refine Below.alloc ?_ ?_ _) | (with_reducible refine Below.setCell ?_ ?_ _) | omega | (focus (simp; done)) | (focus (simp; omega))))
  have HB1 : Hid (Blk w1 g 31 #[.int .i64 pl, .int .i64 pp]) := by show Blk _ _ _ _; rw [← hw1]; exact Blk.new_at (by rw [← hg]; simp)
  clear hw1 hg
  go_upto_region 5 with (go_at_call 22; (with_reducible refine (join_c (.slice A n cap) L _ (HX.out.below (by (repeat (first | (with_reducible exact Below.refl _ _) | (with_reducible assumption) | (with_reducible refine Below.grow ?_ ?_ _ _) | (with_reducible refine Below.drewN' ?_ _) | (with_reducible refine Below.drew ?_) | (with_reducible refine Below.alloc ?_ ?_ _) | (with_reducible refine Below.setCell ?_ ?_ _) | omega | (focus (simp; done)) | (focus (simp; omega)))))) HLL.out HA.out HT.out).mono ?_); rintro e w2 ⟨u2, M, rfl, hb2, hm2, hms, hm3, hm4⟩; have HM := Lib.hid hm2; have HMS := Lib.hid hms; have HM4 := Lib.hid hm4; have HB2 := Lib.hid hb2; clear hb2 hm2 hms hm3 hm4)
  obtain ⟨lp, hlp, hlx⟩ : ∃ lp, M[pl]? = some lp ∧ lp.ls = xl := by
    have := HXL.out
    rw [← HMS.out, List.getElem?_map] at this
    cases h : M[pl]? with
    | none => rw [h] at this; cases this
    | some lp => rw [h] at this; injection this with this; exact ⟨lp, rfl, this⟩
  have HLP := Lib.hid hlp
  have HLX := Lib.hid hlx
  have HML : Hid (M.length ≤ 100000) := Nat.le_trans HM4.out HLL.out
  have HTM : Hid (tot M ≤ 10000000) := by
    show _ ≤ _
    rw [tot_eq, HMS.out]
    have := HTJ.out
    have := HML.out
    omega
  have HSM : Hid (∀ l ∈ M, sanL l.ls = true) := fun l hl => HSJ.out l.ls (by rw [← HMS.out]; exact List.mem_map_of_mem hl)
  have hbw2 : Below w.heap.size w w2 := hbw1.trans (HB2.out.mono hbw1.size)
  obtain ⟨q0, q1, qf, ql⟩ := (HB1.out.below HB2.out HB1.out.lt).facts2
  have HTK : Hid ((M.take pl).map Ln.ls = (joinR L).take pl) := by
    show _ = _
    rw [← HMS.out, List.map_take]
  clear hlp hlx
  go_upto_region 6 with (go_at_call 11; go_loud ((with_reducible refine (where_yes u2 M v pl pp lp _ (HM.out.below (by (repeat (first | (with_reducible exact Below.refl _ _) | (with_reducible assumption) | (with_reducible refine Below.grow ?_ ?_ _ _) | (with_reducible refine Below.drewN' ?_ _) | (with_reducible refine Below.drew ?_) | (with_reducible refine Below.alloc ?_ ?_ _) | (with_reducible refine Below.setCell ?_ ?_ _) | omega | (focus (simp; done)) | (focus (simp; omega)))))) HML.out HTM.out HSM.out HLP.out HPB.out).mono ?_); rintro e w3 ⟨rfl, X3, d3, rfl⟩; rw [HTK.out, HLX.out]))
  go_wp2_with (go_at_call 14; go_loud ((with_reducible refine (spread_c u2 M v _ (HM.out.below (by (repeat (first | (with_reducible exact Below.refl _ _) | (with_reducible assumption) | (with_reducible refine Below.grow ?_ ?_ _ _) | (with_reducible refine Below.drewN' ?_ _) | (with_reducible refine Below.drew ?_) | (with_reducible refine Below.alloc ?_ ?_ _) | (with_reducible refine Below.setCell ?_ ?_ _) | omega | (focus (simp; done)) | (focus (simp; omega)))))) HML.out HTM.out).mono ?_); rintro e w4 ⟨u4, R4, rfl, hb4, hr4, hs4⟩; rw [HMS.out] at hs4; have HR4 := Lib.hid hr4; have HS4 := Lib.hid hs4; have HB4 := Lib.hid hb4; clear hb4 hr4 hs4))
  have hbw4 : Below w.heap.size w w4 := by
    have h1 := HB4.out
    exact (hbw2.grow hbw2.size X3 d3).trans (h1.mono (by have := hbw2.size; simp; omega))
  refine bodyPost_ret (v := _) (by simp [results, Try.results23, go_sem]) rfl ⟨u4, R4, rfl, hbw4, HR4.out.rd, HS4.out⟩
end Go.Proofs.Ytlgnchhhadnjbaa.Row
