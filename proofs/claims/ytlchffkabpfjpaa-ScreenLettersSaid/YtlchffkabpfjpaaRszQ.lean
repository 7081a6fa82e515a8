/- screen.Resize, plainly: what it makes of a screen. -/
import Derived.Test.YtlchffkabpfjpaaRszP
import Derived.Test.YtlchffkabpfjpaaScrP
import Derived.Test.YtlchffkabpfjpaaGI
import Derived.Test.YtlchffkabpfjpaaGG
import Derived.Test.YtlchffkabpfjpaaGE
namespace Go.Proofs.Ytlchffkabpfjpaa.Scr
open Go.RowKit Go.Proofs.Ytlchffkabpfjpaa.Row
def Ct.sh (c : Ct) : Sh := ⟨listF c.n c.f, c.wb, c.dir, c.ex⟩
theorem ct_sh (r : Rw) : (ct r).sh = r.sh := rfl
/-- how many of a screen's rows are in use -/
structure UsedP (S : Sn) (k : Nat) : Prop where
  lo : S.s.y + 1 ≤ (k : Int)
  hi : k ≤ S.s.gn
  no : ∀ i, k ≤ i → i < S.s.gn → lenF (S.F i).f (S.F i).n = 0
  last : (k : Int) = S.s.y + 1 ∨ lenF (S.F (k - 1)).f (S.F (k - 1)).n ≠ 0
/-- the rows of the new grid -/
def rzG (R : List Rw) (gone q i : Nat) : Ct := match R[gone + i]? with
  | some r => ct r
  | none => newC q 0 0 0
/-- what Resize makes of a screen, where the size is another -/
structure Rsz (S : Sn) (h q k : Nat) (R : List Rw) (Y X gone : Nat) (m : Md) : Prop where
  us : UsedP S k
  sh : R.map Rw.sh = spreadS (joinR (listG k S.F)) (q : Int)
  ln : R.length ≤ 100000
  Yl : Y < R.length
  Xl : X < q
  gn : gone = min (R.length - h) Y
  nH : m.n = h
  G : ∀ i, i < h → m.G i = rzG R gone q i
  x : m.x = X
  y : m.y = (Y - gone : Nat)
  wr : m.wr = false
  og : m.og = false
  pen : m.fg = S.s.fg ∧ m.bg = S.s.bg ∧ m.fl = S.s.fl
  set : m.g0 = S.s.g0 ∧ m.g1 = S.s.g1 ∧ m.g2 = S.s.g2 ∧ m.g3 = S.s.g3 ∧ m.gl = S.s.gl ∧ m.gr = S.s.gr ∧ m.on = S.s.on
  H : m.H = h
  W : m.W = q
  T : m.T = 0
  B : m.B = h
  tb : Tab.tsaneB m.tw m.zs = true
  tw : m.tw = q
  K : m.K = pushC (S.L.map ct) S.s.kp.toNat ((R.take gone).map ct)
  kp : m.kp = S.s.kp
  dir : m.dir = S.s.dir
  ex : m.ex = S.s.ex
theorem listG_mem {n : Nat} {F : Nat → Rw} {r : Rw} (h : r ∈ listG n F) : ∃ i, i < n ∧ r = F i := by
  obtain ⟨i, hi, rfl⟩ := List.mem_map.1 h
  exact ⟨i, List.mem_range.1 hi, rfl⟩
theorem gs_are {S : Sn} (h : S.md.Ok) {k : Nat} (hk : k ≤ S.s.gn) : areB (listG k S.F) = true := areB_iff.2 fun r hr => by
  obtain ⟨i, hi, rfl⟩ := listG_mem hr
  have hgs := h.gs
  unfold gsC at hgs
  exact ((of_decide_eq_true hgs).2.2 i (by show i < S.s.gn; omega)).2
theorem Md.Ok.rowz {m : Md} (h : m.Ok) {i : Nat} (hi : i < m.n) : (m.G i).sane = true := by
  have := h.gs
  unfold gsC at this
  exact ((of_decide_eq_true this).2.2 i hi).2
theorem sane_new {q : Nat} (h : 1 ≤ q) (h2 : q ≤ 4096) : (newC q 0 0 0).sane = true := by
  exact new_saneRw 0 q 0 0 0 h h2 (by decide)
theorem Rsz.rows {S : Sn} {h q k : Nat} {R : List Rw} {Y X gone : Nat} {m : Md} (hO : S.md.Ok) (hq : 1 ≤ q ∧ q ≤ 4096) (z : Rsz S h q k R Y X gone m) : ∀ r ∈ R, r.n = q ∧ saneRw r = true := by
  obtain ⟨a, b⟩ := spread_sane1 z.sh (joinR_sane (gs_are hO z.us.hi))
  have hw : wN (q : Int) = q := by unfold wN; omega
  rw [hw] at b
  exact fun r hr => ⟨b r hr, areB_iff.1 a r hr⟩
theorem Rsz.ok {S : Sn} {h q k : Nat} {R : List Rw} {Y X gone : Nat} {m : Md} (hO : S.md.Ok) (hh : 1 ≤ h ∧ h ≤ 1000) (hq : 1 ≤ q ∧ q ≤ 4096) (z : Rsz S h q k R Y X gone m) : m.Ok := by
  have hrow := z.rows hO hq
  have hG : ∀ i, i < h → (m.G i).n = q ∧ (m.G i).sane = true := fun i hi => by
    rw [z.G i hi]
    unfold rzG
    split
    · rename_i r hr
      obtain ⟨a, b⟩ := hrow r (List.mem_of_getElem? hr)
      exact ⟨a, b⟩
    · exact ⟨rfl, sane_new hq.1 hq.2⟩
  have hy : Y - gone < h := by
    have := z.gn
    have := z.Yl
    omega
  refine ⟨z.dir ▸ hO.d0, z.dir ▸ hO.d2, ?_, z.tb, by rw [z.tw, z.W], ?_, by rw [z.nH, z.H], by rw [(hG 0 (by omega)).1, z.W], ?_⟩
  · have hc := hO.cu
    have hF : Cur.Facts (X : Int) ((Y - gone : Nat) : Int) false false (h : Int) (q : Int) 0 (h : Int) := ⟨by omega, by omega, by omega, by omega, by omega, by omega, by omega, by omega, by have := z.Xl; omega, by omega, by omega, (fun h => by cases h), (fun h => by cases h)⟩
    have := Cur.csane_mk hc hF
    unfold Md.curOk
    rw [z.x, z.y, z.wr, z.og, z.pen.1, z.pen.2.1, z.pen.2.2, z.set.1, z.set.2.1, z.set.2.2.1, z.set.2.2.2.1, z.set.2.2.2.2.1, z.set.2.2.2.2.2.1, z.set.2.2.2.2.2.2, z.H, z.W, z.T, z.B]
    exact this
  · unfold gsC
    rw [z.nH]
    exact decide_eq_true ⟨hh.1, hh.2, fun i hi => ⟨by rw [(hG i hi).1, (hG 0 (by omega)).1], (hG i hi).2⟩⟩
  · rw [z.K, z.kp]
    have hs := hO.hs
    unfold hsC at hs ⊢
    obtain ⟨a, b, c, d⟩ := of_decide_eq_true hs
    refine decide_eq_true ⟨a, b, ?_, fun x hx => ?_⟩
    · unfold pushC
      rw [List.length_drop]
      have e : S.md.kp = S.s.kp := rfl
      omega
    · unfold pushC at hx
      have hx := List.mem_of_mem_drop hx
      rcases List.mem_append.1 hx with hx | hx
      · exact d x hx
      · exact (List.mem_filter.1 hx).2
end Go.Proofs.Ytlchffkabpfjpaa.Scr
