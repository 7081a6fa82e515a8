/- Joined: RszP RszQ RszU. -/
import Derived.Test.YtlchffkabpfjpaaGreatGJ
import Derived.Test.YtlchffkabpfjpaaGreatScrP
import Derived.Test.YtlchffkabpfjpaaGreatGI
import Derived.Test.YtlchffkabpfjpaaGreatGG
import Derived.Test.YtlchffkabpfjpaaGreatGE
import Derived.Test.YtlchffkabpfjpaaGreatScrW
section
/- Rows of another width, plainly: what holds at every width; how many rows; where a place is. -/
namespace Go.Proofs.YtlchffkabpfjpaaGreat.Row
open Go.RowKit
theorem whereN_in {q : Nat} (hq : 1 ≤ q) : ∀ (S : List Sh) (left : Nat), S ≠ [] → (∀ s ∈ S, s.cs.length = q) → (whereN S left).1 < S.length ∧ (whereN S left).2 < q
  | [], _, h, _ => absurd rfl h
  | [r], left, _, h => by
    have h1 := h r (by simp)
    show 0 < 1 ∧ min left (r.cs.length - 1) < q
    omega
  | r :: s :: rest, left, _, h => by
    have hr := h r (by simp)
    have ih := whereN_in hq (s :: rest) (left - rmS r (some s)) (by simp) (fun x hx => h x (List.mem_cons_of_mem _ hx))
    have hle : rmS r (some s) ≤ r.cs.length := by
      have hh : ∀ (p : Prop) [Decidable p] (a : Nat), (if p then a - 1 else a) ≤ a := fun p _ a => by split <;> omega
      exact hh _ _
    rw [whereN]
    simp only [List.length_cons] at ih ⊢
    split
    · exact ⟨by omega, by simp only; omega⟩
    · exact ⟨by simp only; omega, ih.2⟩
theorem whereR_in {M : List Ls} {v : Int} {pl pa : Nat} (h : pl < M.length) (hs : ∀ x ∈ M, sanL x = true) : (whereR M v pl pa).1 < (spreadS M v).length ∧ (whereR M v pl pa).2 < wN v := by
  unfold whereR
  rw [List.getElem?_eq_getElem h]
  simp only
  have hx := hs M[pl] (List.getElem_mem h)
  have h0 := splitG_ne (v := v) hx
  have h1 := whereN_in (wN_le v).1 (splitG M[pl] v) pa (fun e => by rw [e] at h0; simp at h0) split_wd
  have e : spreadS M v = spreadS (M.take pl) v ++ (splitG M[pl] v ++ spreadS (M.drop (pl + 1)) v) := by
    conv => lhs; rw [← List.take_append_drop pl M, List.drop_eq_getElem_cons h]
    unfold spreadS
    rw [List.flatMap_append, List.flatMap_cons]
  rw [e, List.length_append, List.length_append]
  exact ⟨by omega, h1.2⟩
/-- how many rows there are at most -/
theorem spreadS_len (v : Int) : ∀ M : List Ls, (spreadS M v).length ≤ totC M + M.length
  | [] => by simp [spreadS]
  | x :: M => by
    have ih := spreadS_len v M
    have h := split_len x v
    unfold spreadS totC at *
    rw [List.flatMap_cons, List.length_append, List.map_cons, List.sum_cons, List.length_cons]
    omega
theorem joinN_len {L : List Rw} : ∀ k, k ≤ L.length → (joinN L k).1.length ≤ k
  | 0, _ => Nat.zero_le _
  | k + 1, hk => by
    have ih := joinN_len (L := L) k (by omega)
    rw [joinN_step (List.getElem?_eq_getElem (show k < L.length by omega))]
    simp only
    rw [addL_len]
    split
    · omega
    · rw [List.length_append]
      simp only [List.length_cons, List.length_nil]
      omega
theorem joinR_len (L : List Rw) : (joinR L).length ≤ L.length := by
  unfold joinR
  rw [List.length_map]
  exact joinN_len _ (Nat.le_refl _)
theorem reflow_len (L : List Rw) (v : Int) : (spreadS (joinR L) v).length ≤ sumN L L.length + L.length := by
  have h1 := spreadS_len v (joinR L)
  have h2 := joinR_tot L
  have h3 := joinR_len L
  omega
/-! ### rows may be, at every width -/
theorem fold_good (q : Nat) (hq : 1 ≤ q) : ∀ (cs : List Cl) (s : List (List Cl) × List Cl), (∀ c ∈ cs, okC c = true) → s.2.length ≤ q ∧ Good s.2 → (∀ l ∈ s.1, l.length ≤ q ∧ Good l) →
    ((cs.foldl (stepS q) s).2.length ≤ q ∧ Good (cs.foldl (stepS q) s).2) ∧ ∀ l ∈ (cs.foldl (stepS q) s).1, l.length ≤ q ∧ Good l
  | [], s, _, h2, h3 => ⟨h2, h3⟩
  | c :: cs, s, h1, h2, h3 => by
    have hc := h1 c (by simp)
    have hl := whole_len hc
    rw [List.foldl_cons]
    have ht : ∀ x ∈ cs, okC x = true := fun x hx => h1 x (List.mem_cons_of_mem _ hx)
    unfold stepS
    split
    · exact fold_good q hq cs s ht h2 h3
    · split
      · refine fold_good q hq cs _ ht ⟨by simp only; omega, Good.whole hc⟩ (fun l hl => ?_)
        rcases List.mem_append.1 hl with h | h
        · exact h3 l h
        · obtain rfl := List.mem_singleton.1 h
          exact h2
      · exact fold_good q hq cs _ ht ⟨by simp only [List.length_append]; omega, h2.2.app (Good.whole hc)⟩ h3
theorem rowS_sane {x : Ls} {q : Nat} {b : Bool} {l : List Cl} (hq : 1 ≤ q) (hq2 : q ≤ 4096) (hn : l.length ≤ q) (hg : Good l) (hd : 0 ≤ x.dir ∧ x.dir ≤ 2) : saneB q (fun i => ((rowS x q b l).cs[i]?).getD (blank 0 0 0)) x.dir = true := by
  rw [sane_congr (g := padF l) (fun i hi => by rw [rowS_get _ _ _ _ hi]; rfl)]
  exact saneRow (by omega) hq2 hn hg hd
theorem spread_sane1 {R : List Rw} {X : List Ls} {v : Int} (hR : R.map Rw.sh = spreadS X v) (h : ∀ x ∈ X, sanL x = true) : areB R = true ∧ ∀ r ∈ R, r.n = wN v := by
  have key : ∀ s ∈ spreadS X v, s.cs.length = wN v ∧ saneB (wN v) (fun i => (s.cs[i]?).getD (blank 0 0 0)) s.dir = true := by
    intro s hs
    unfold spreadS at hs
    obtain ⟨x, hx, hsx⟩ := List.mem_flatMap.1 hs
    have hsan := h x hx
    refine ⟨split_wd s hsx, ?_⟩
    unfold splitG at hsx
    rw [if_pos hsan] at hsx
    obtain ⟨d1, d2, d3⟩ := sanL_iff.1 hsan
    obtain ⟨g1, g2⟩ := fold_good (wN v) (wN_le v).1 x.cs ([], []) d3 ⟨by simp, Good.nil⟩ (fun l hl => by cases hl)
    unfold splitS finS at hsx
    rcases List.mem_append.1 hsx with hm | hm
    · obtain ⟨l, hl, rfl⟩ := List.mem_map.1 hm
      exact rowS_sane (wN_le v).1 (wN_le v).2 (g2 l hl).1 (g2 l hl).2 ⟨d1, d2⟩
    · obtain rfl := List.mem_singleton.1 hm
      exact rowS_sane (wN_le v).1 (wN_le v).2 g1.1 g1.2 ⟨d1, d2⟩
  have hn : ∀ r ∈ R, r.n = wN v := sh_n hR (fun s hs => (key s hs).1)
  refine ⟨areB_iff.2 fun r hr => ?_, hn⟩
  have hk := (key r.sh (by rw [← hR]; exact List.mem_map_of_mem hr)).2
  show saneB r.n r.f r.dir = true
  rw [hn r hr]
  rw [sane_congr (g := fun i => (r.sh.cs[i]?).getD (blank 0 0 0)) (fun i hi => by
    show r.f i = ((listF r.n r.f)[i]?).getD _
    rw [listF_get (by rw [hn r hr]; exact hi)]
    rfl)]
  exact hk
/-! ### a blank row, by itself -/
theorem keptC_blanks (n : Nat) : keptC (List.replicate n (blank 0 0 0)) = List.replicate n (blank 0 0 0) := by
  unfold keptC
  exact List.filter_eq_self.2 fun c hc => by rw [(List.mem_replicate.1 hc).2]; rfl
end Go.Proofs.YtlchffkabpfjpaaGreat.Row
end
section
/- screen.Resize, plainly: what it makes of a screen. -/
namespace Go.Proofs.YtlchffkabpfjpaaGreat.Scr
open Go.RowKit Go.Proofs.YtlchffkabpfjpaaGreat.Row
def Ct.sh (c : Ct) : Sh := ⟨listF c.n c.f, c.wb, c.dir, c.ex⟩
/-- how many of a screen's rows are in use -/
structure UsedP (S : Sn) (k : Nat) : Prop where
  lo : S.s.y + 1 ≤ (k : Int)
  hi : k ≤ S.s.gn
  no : ∀ i, k ≤ i → i < S.s.gn → lenF (S.F i).f (S.F i).n = 0
  last : (k : Int) = S.s.y + 1 ∨ lenF (S.F (k - 1)).f (S.F (k - 1)).n ≠ 0
/-- the rows of the new grid -/
def rzG (R : List Rw) (gone q i : Nat) : Ct := match R[gone + i]? with
  | some r => ct r
  | none => newC q 0 0 0
/-- what Resize makes of a screen, where the size is another -/
structure Rsz (S : Sn) (h q k : Nat) (R : List Rw) (Y X gone : Nat) (m : Md) : Prop where
  us : UsedP S k
  sh : R.map Rw.sh = spreadS (joinR (listG k S.F)) (q : Int)
  ln : R.length ≤ 100000
  Yl : Y < R.length
  Xl : X < q
  gn : gone = min (R.length - h) Y
  nH : m.n = h
  G : ∀ i, i < h → m.G i = rzG R gone q i
  x : m.x = X
  y : m.y = (Y - gone : Nat)
  wr : m.wr = false
  og : m.og = false
  pen : m.fg = S.s.fg ∧ m.bg = S.s.bg ∧ m.fl = S.s.fl
  set : m.g0 = S.s.g0 ∧ m.g1 = S.s.g1 ∧ m.g2 = S.s.g2 ∧ m.g3 = S.s.g3 ∧ m.gl = S.s.gl ∧ m.gr = S.s.gr ∧ m.on = S.s.on
  H : m.H = h
  W : m.W = q
  T : m.T = 0
  B : m.B = h
  tb : Tab.tsaneB m.tw m.zs = true
  tw : m.tw = q
  K : m.K = pushC (S.L.map ct) S.s.kp.toNat ((R.take gone).map ct)
  kp : m.kp = S.s.kp
  dir : m.dir = S.s.dir
  ex : m.ex = S.s.ex
theorem listG_mem {n : Nat} {F : Nat → Rw} {r : Rw} (h : r ∈ listG n F) : ∃ i, i < n ∧ r = F i := by
  obtain ⟨i, hi, rfl⟩ := List.mem_map.1 h
  exact ⟨i, List.mem_range.1 hi, rfl⟩
theorem gs_are {S : Sn} (h : S.md.Ok) {k : Nat} (hk : k ≤ S.s.gn) : areB (listG k S.F) = true := areB_iff.2 fun r hr => by
  obtain ⟨i, hi, rfl⟩ := listG_mem hr
  have hgs := h.gs
  unfold gsC at hgs
  exact ((of_decide_eq_true hgs).2.2 i (by show i < S.s.gn; omega)).2
theorem Md.Ok.rowz {m : Md} (h : m.Ok) {i : Nat} (hi : i < m.n) : (m.G i).sane = true := by
  have := h.gs
  unfold gsC at this
  exact ((of_decide_eq_true this).2.2 i hi).2
theorem sane_new {q : Nat} (h : 1 ≤ q) (h2 : q ≤ 4096) : (newC q 0 0 0).sane = true := by
  exact new_saneRw 0 q 0 0 0 h h2 (by decide)
theorem Rsz.rows {S : Sn} {h q k : Nat} {R : List Rw} {Y X gone : Nat} {m : Md} (hO : S.md.Ok) (hq : 1 ≤ q ∧ q ≤ 4096) (z : Rsz S h q k R Y X gone m) : ∀ r ∈ R, r.n = q ∧ saneRw r = true := by
  obtain ⟨a, b⟩ := spread_sane1 z.sh (joinR_sane (gs_are hO z.us.hi))
  have hw : wN (q : Int) = q := by unfold wN; omega
  rw [hw] at b
  exact fun r hr => ⟨b r hr, areB_iff.1 a r hr⟩
theorem Rsz.ok {S : Sn} {h q k : Nat} {R : List Rw} {Y X gone : Nat} {m : Md} (hO : S.md.Ok) (hh : 1 ≤ h ∧ h ≤ 1000) (hq : 1 ≤ q ∧ q ≤ 4096) (z : Rsz S h q k R Y X gone m) : m.Ok := by
  have hrow := z.rows hO hq
  have hG : ∀ i, i < h → (m.G i).n = q ∧ (m.G i).sane = true := fun i hi => by
    rw [z.G i hi]
    unfold rzG
    split
    · rename_i r hr
      obtain ⟨a, b⟩ := hrow r (List.mem_of_getElem? hr)
      exact ⟨a, b⟩
    · exact ⟨rfl, sane_new hq.1 hq.2⟩
  have hy : Y - gone < h := by
    have := z.gn
    have := z.Yl
    omega
  refine ⟨z.dir ▸ hO.d0, z.dir ▸ hO.d2, ?_, z.tb, by rw [z.tw, z.W], ?_, by rw [z.nH, z.H], by rw [(hG 0 (by omega)).1, z.W], ?_⟩
  · have hc := hO.cu
    have hF : Cur.Facts (X : Int) ((Y - gone : Nat) : Int) false false (h : Int) (q : Int) 0 (h : Int) := ⟨by omega, by omega, by omega, by omega, by omega, by omega, by omega, by omega, by have := z.Xl; omega, by omega, by omega, (fun h => by cases h), (fun h => by cases h)⟩
    have := Cur.csane_mk hc hF
    unfold Md.curOk
    rw [z.x, z.y, z.wr, z.og, z.pen.1, z.pen.2.1, z.pen.2.2, z.set.1, z.set.2.1, z.set.2.2.1, z.set.2.2.2.1, z.set.2.2.2.2.1, z.set.2.2.2.2.2.1, z.set.2.2.2.2.2.2, z.H, z.W, z.T, z.B]
    exact this
  · unfold gsC
    rw [z.nH]
    exact decide_eq_true ⟨hh.1, hh.2, fun i hi => ⟨by rw [(hG i hi).1, (hG 0 (by omega)).1], (hG i hi).2⟩⟩
  · rw [z.K, z.kp]
    have hs := hO.hs
    unfold hsC at hs ⊢
    obtain ⟨a, b, c, d⟩ := of_decide_eq_true hs
    refine decide_eq_true ⟨a, b, ?_, fun x hx => ?_⟩
    · unfold pushC
      rw [List.length_drop]
      have e : S.md.kp = S.s.kp := rfl
      omega
    · unfold pushC at hx
      have hx := List.mem_of_mem_drop hx
      rcases List.mem_append.1 hx with hx | hx
      · exact d x hx
      · exact (List.mem_filter.1 hx).2
end Go.Proofs.YtlchffkabpfjpaaGreat.Scr
end
section
/- screen.used. -/
namespace Go.Proofs.YtlchffkabpfjpaaGreat.Scr
open Go.RowKit Go.Proofs.YtlchffkabpfjpaaGreat.Row
attribute [local go_sem ↓] scr_load_pre scr_store_pre
attribute [local go_sem] scr_cell scr_frozen
theorem used_nums {s : Sc} {F : Nat → Rw} {zs : List Int} {L : List Rw} (h : (Sn.md ⟨s, F, zs, L⟩).Ok) : wrap64 (s.y + 1) = s.y + 1 ∧ 0 ≤ s.y ∧ s.y < s.H ∧ (s.gn : Int) = s.H ∧ s.gn ≤ 1000 := by
  obtain ⟨f1, f2, w1, w2, t0, tb, bh, x0, x1, y0, y1, -, -⟩ := h.cf
  have := h.nH
  dsimp only [Sn.md] at *
  exact ⟨IntWalk.wrap64_in _ (by omega), y0, y1, this, by omega⟩
theorem used_wrap {j n : Nat} (h : j + 1 ≤ n) (h2 : n ≤ 1000) : wrap64 (j : Int) = (j : Int) := IntWalk.wrap64_in _ (by omega)
theorem used_step {s : Sc} {F : Nat → Rw} {j : Nat} (h : ∀ i, j + 1 ≤ i → i < s.gn → lenF (F i).f (F i).n = 0) (h2 : lenF (F j).f (F j).n = 0) : ∀ i, j ≤ i → i < s.gn → lenF (F i).f (F i).n = 0 := fun i hi hn => by
  by_cases e : i = j
  · rw [e]; exact h2
  · exact h i (by omega) hn
theorem used_y {y : Int} {j : Nat} (h : y < ((j + 1 : Nat) : Int)) : y ≤ (j : Int) := by omega
theorem used_lo {y : Int} {j : Nat} (h : y < (j : Int)) : y + 1 ≤ ((j + 1 : Nat) : Int) := by omega
theorem used_lo2 {y : Int} {j : Nat} (h : y = (j : Int)) : y + 1 ≤ ((j + 1 : Nat) : Int) := by omega
theorem used_eq {y : Int} {j : Nat} (h : y = (j : Int)) : ((j + 1 : Nat) : Int) = y + 1 := by omega
theorem used_meas (j : Nat) : (intOf (.int .i64 ((j + 1 : Nat) : Int))).toNat < (intOf (.int .i64 (((j + 1 : Nat) : Int) + 1))).toNat := by
  simp [intOf]
  omega
set_option maxRecDepth 100000 in
set_option maxHeartbeats 4000000 in
theorem used_c (S : Sn) (w : World) (hO : S.md.Ok) (hr : S.rd w) : Calls Tryz.prog 94 #[.agg #[.slice S.s.gA S.s.gn S.s.gc, .int .i64 S.s.x, .int .i64 S.s.y, .bool S.s.wr, .bool S.s.og, .int .i64 S.s.fg, .int .i64 S.s.bg, .int .i64 S.s.fl, .int .u8 S.s.g0, .int .u8 S.s.g1, .int .u8 S.s.g2, .int .u8 S.s.g3, .int .i64 S.s.gl, .int .i64 S.s.gr, .int .i64 S.s.on, .int .i64 S.s.H, .int .i64 S.s.W, .int .i64 S.s.T, .int .i64 S.s.B, .slice S.s.tA S.s.tn S.s.tc, .int .i64 S.s.tw, .slice S.s.kA S.s.kn S.s.kc, .int .i64 S.s.kp, .int .i64 S.s.dir, .bool S.s.ex]] w fun e w' => ∃ k : Nat, e = .returned (.int .i64 k) ∧ UsedP S k ∧ Below w.heap.size w w' := by
  have HR := Lib.hid hr
  have HO := Lib.hid hO
  obtain ⟨s, F, zs, L⟩ := S
  obtain ⟨n1, n2, n3, n4, n5⟩ := used_nums hO
  have HN4 := Lib.hid n4
  have HN5 := Lib.hid n5
  have HN2 := Lib.hid n2
  have HY3 := Lib.hid n3
  clear hr hO n2 n3 n4 n5
  dsimp only at *
  go_enter Tryz.func94, Tryz.ntmps94
  go_upto_region 1 with fail
  generalize hW : w.alloc _ = W
  have hbW : Below w.heap.size w W := by rw [← hW]; exact (Below.refl _ _).alloc (Nat.le_refl _) _
  have hX : SBlk W w.heap.size s := by rw [← hW]; exact Blk.new _ _ _
  have HX := Lib.hid hX
  have HBW := Lib.hid hbW
  have HRW := Lib.hid (HR.out.below hbW)
  have xS := SBlk.isScr hX
  have xL := SBlk.cells hX
  have hz : w.heap.size < W.heap.size := Blk.lt hX
  clear hW hbW hX
  go_upto_region 2 with fail
  clear xS xL
  have hH : s.H = ((s.gn - 1 : Nat) : Int) + 1 := by have := HN4.out; have := HN2.out; have := HY3.out; omega
  generalize (.agg #[.slice s.gA s.gn s.gc, .int .i64 s.x, .int .i64 s.y, .bool s.wr, .bool s.og, .int .i64 s.fg, .int .i64 s.bg, .int .i64 s.fl, .int .u8 s.g0, .int .u8 s.g1, .int .u8 s.g2, .int .u8 s.g3, .int .i64 s.gl, .int .i64 s.gr, .int .i64 s.on, .int .i64 s.H, .int .i64 s.W, .int .i64 s.T, .int .i64 s.B, .slice s.tA s.tn s.tc, .int .i64 s.tw, .slice s.kA s.kn s.kc, .int .i64 s.kp, .int .i64 s.dir, .bool s.ex] : Value) = V0
  rw [hH]
  have hsg : (s.y : Int) ≤ ((s.gn - 1 : Nat) : Int) := by have := HN4.out; have := HY3.out; omega
  have hsn : s.gn - 1 + 1 ≤ s.gn := by have := HN4.out; have := HN2.out; have := HY3.out; omega
  clear hH
  go_loopw [3] (fun i wz => ∃ j : Nat, i = .int .i64 ((j : Int) + 1) ∧ s.y ≤ (j : Int) ∧ j + 1 ≤ s.gn ∧ Hid (∀ i, j + 1 ≤ i → i < s.gn → lenF (F i).f (F i).n = 0) ∧ Below W.heap.size W wz) (fun i _ => (intOf i).toNat)
  case atStart => exact ⟨s.gn - 1, rfl, hsg, hsn, Lib.hid (fun i h1 h2 => by omega), Below.refl _ _⟩
  case round =>
    obtain ⟨j, rfl, hyj, hjn, HNO, hb⟩ := hrel
    have hX := Blk.below HX.out hb (Blk.lt HX.out)
    have xS := SBlk.isScr hX
    have xL := SBlk.cells hX
    have HB := Lib.hid hb
    by_cases hlt : s.y < (j : Int)
    · have hd : decide (s.y + 1 < (j : Int) + 1) = true := decide_eq_true (by omega)
      have hRG := (HRW.out.below hb).1
      obtain ⟨bg, og, eA⟩ : ∃ bg og, s.gA = some ⟨bg, og, none⟩ := by
        obtain ⟨b, o, e, _⟩ := hRG.at_ (show j < (listG s.gn F).length by rw [listG_len]; omega)
        exact ⟨b, o, e⟩
      dsimp only at hRG
      rw [eA] at hRG xL
      obtain ⟨⟨p0, p1, p2, p3⟩, hof, lb⟩ := rdR_row hRG (j := j) (by omega)
      have HOF := Lib.hid hof
      have HSN : Hid (saneB (F j).n (F j).f (F j).dir = true) := Lib.hid (HO.out.rowz (show j < s.gn by omega))
      have hjI : (j : Int) < (s.gn : Int) := by omega
      have hj0 : (0 : Int) ≤ (j : Int) := by omega
      have hwj := used_wrap hjn HN5.out
      have HJN := Lib.hid hjn
      have HLT := Lib.hid hlt
      clear hof hRG eA hX hb hjn hyj hlt
      go_upto_if 23 with fail
      refine (length_c (F j).A (F j).n (F j).cap (F j).f (F j).wb (F j).dir (F j).ex _ HOF.out.1 HSN.out).mono ?_
      rintro e w5 ⟨rfl, hg5⟩
      have HB5 := Lib.hid (HB.out.trans (hg5.mono HB.out.size))
      have hX := Blk.below HX.out HB5.out (Blk.lt HX.out)
      clear p0 p1 p2 p3 lb hg5 xS xL
      have xS := SBlk.isScr hX
      have xL := SBlk.cells hX
      by_cases h0 : lenF (F j).f (F j).n = 0
      · have HNO2 := Lib.hid (used_step HNO.out h0)
        have h0' : (lenF (F j).f (F j).n == 0) = true := by simpa using h0
        rw [h0] at h0' ⊢
        obtain ⟨j', rfl⟩ : ∃ j', j = j' + 1 := ⟨j - 1, by have := HLT.out; have := HN2.out; omega⟩
        have hwk : wrap64 ((j' : Int) + 1) = (j' : Int) + 1 := by simpa using hwj
        clear h0 hd hjI hj0 xS xL hX
        go_wp2_with fail
        go_roundw
        case rel => exact ⟨j', by rw [hwk], used_y HLT.out, Nat.le_of_succ_le HJN.out, HNO2, HB5.out⟩
        case measure =>
          rw [hwk]
          exact used_meas j'
      · have h0' : (lenF (F j).f (F j).n == 0) = false := by simpa using h0
        have HL0 := Lib.hid h0
        clear h0 hd hjI hj0
        generalize lenF (F j).f (F j).n = lz at h0'
        go_wp2_with fail
        exact bodyPost_ret (v := .int .i64 ((j : Int) + 1)) (by simp [results, Tryz.results94, go_sem]) rfl ⟨j + 1, rfl, ⟨used_lo HLT.out, HJN.out, HNO.out, Or.inr (by simpa using HL0.out)⟩, HBW.out.trans (HB5.out.mono HBW.out.size)⟩
    · have hd : decide (s.y + 1 < (j : Int) + 1) = false := decide_eq_false (by omega)
      have HYE : Hid (s.y = (j : Int)) := Lib.hid (by omega)
      have HJN := Lib.hid hjn
      clear hb hyj hjn
      go_wp2_with fail
      exact bodyPost_ret (v := .int .i64 ((j : Int) + 1)) (by simp [results, Tryz.results94, go_sem]) rfl ⟨j + 1, rfl, ⟨used_lo2 HYE.out, HJN.out, HNO.out, Or.inl (used_eq HYE.out)⟩, HBW.out.trans (HB.out.mono HBW.out.size)⟩
end Go.Proofs.YtlchffkabpfjpaaGreat.Scr
end
