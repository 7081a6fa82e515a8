/- Joined: ScrD ScrQ ScrE. -/
import Derived.Test.YtlchffkabpfjpaaGreatScrC
section
/- The steps that are done to a row; screen.onRow. -/
namespace Go.Proofs.YtlchffkabpfjpaaGreat.Scr
open Go.RowKit Go.Proofs.YtlchffkabpfjpaaGreat.Row
attribute [local go_sem ↓] scr_load_pre scr_store_pre
attribute [local go_sem] scr_cell scr_frozen
theorem callFunc_enter {P : Program} {f : FuncId} {fn : Func} (hf : P.funcs[f]? = some fn) (hn : (fn.name == "runtime.NumGoroutine") = false) (hb : fn.body.isNone = false) (args : Array Value) (w : World) : (callFunc f args).run P w = .ok (.enter f args) w := by
  unfold callFunc
  simp only [Sem.run_bind]
  show (match P.funcs[f]? with | none => _ | some fn => _ : Sem Next).run P w = _
  rw [hf]
  simp [hn, hb]
/-- a function value with what it captured -/
structure Fv where
  f : FuncId
  caps : Array Value
def Fv.val (v : Fv) : Value := .func (.func v.f) #[] v.caps
def encF : Enc Fv := ⟨1, fun v => [v.val], fun _ => rfl, by decide, fun a u hu => by
  simp at hu
  subst hu
  rfl⟩
def ftR (P : Nat → Prop) (r : Rw) : Prop := 0 < r.n → ∀ b o, r.A = some ⟨b, o, none⟩ → P b
theorem ftR.mono {P Q : Nat → Prop} {r : Rw} (h : ftR P r) (k : ∀ b, P b → Q b) : ftR Q r := fun h0 b o e => k b (h h0 b o e)
theorem ok_ft {w : World} {r : Rw} (h : r.ok w) : ftR (· < w.heap.size) r := fun h0 b o e => by
  obtain ⟨b', o', e', hl, _⟩ := h.1 h0
  rw [e'] at e
  injection e with e
  injection e with e
  exact e ▸ hl
theorem ok_keep {P : Nat → Prop} {w w' : World} {r : Rw} (h : r.ok w) (hf : ftR P r) (hk : Keeps P w w') : r.ok w' := by
  refine ⟨fun h0 => ?_, h.2⟩
  obtain ⟨b, o, e, hl, hc⟩ := h.1 h0
  have hb := hk.2 b (hf h0 b o e) hl
  refine ⟨b, o, e, Nat.lt_of_lt_of_le hl hk.1, fun i hi => ?_⟩
  have hcell : ∀ j, w'.cell? ⟨b, j, none⟩ = w.cell? ⟨b, j, none⟩ := fun j => by
    unfold World.cell?
    rw [hb]
  obtain ⟨h0, h1, h2, h3, h4, h5, h6⟩ := hc i hi
  exact ⟨(hcell _).trans h0, (hcell _).trans h1, (hcell _).trans h2, (hcell _).trans h3, (hcell _).trans h4, (hcell _).trans h5, (hcell _).trans h6⟩
/-- what a step makes of a row: one of this content, in new memory or where it was -/
def RowPost (r : Rw) (w : World) (c : Ct) (e : Ending) (w' : World) : Prop :=
  ∃ r' : Rw, e = .returned (.agg #[.slice r'.A r'.n r'.cap, .bool r'.wb, .int .i64 r'.dir, .bool r'.ex]) ∧ Below w.heap.size w w' ∧ r'.ok w' ∧ ct r' = c ∧ ∀ P : Nat → Prop, ftR P r → ftR (since P w.heap.size) r'
/-- a step: from any world on in which nothing that was there has changed; what may be stays so -/
def StepOk (q : Nat) (w0 : World) (v : Fv) (T : Ct → Ct) : Prop :=
  (∀ (args : Array Value) (w : World), (callFunc v.f args).run Tryz.prog w = .ok (.enter v.f args) w) ∧ (∀ (r : Rw) (w : World), Below w0.heap.size w0 w → r.ok w → (ct r).sane = true → r.n = q → Calls Tryz.prog v.f (#[.agg #[.slice r.A r.n r.cap, .bool r.wb, .int .i64 r.dir, .bool r.ex]] ++ v.caps) w (RowPost r w (T (ct r)))) ∧
  ∀ c : Ct, c.sane = true → c.n = q → (T c).sane = true ∧ (T c).n = q
def StepsOk (q : Nat) (w0 : World) : List Fv → List (Ct → Ct) → Prop
  | [], [] => True
  | v :: vs, T :: Ts => StepOk q w0 v T ∧ StepsOk q w0 vs Ts
  | _, _ => False
def thru (Ts : List (Ct → Ct)) (c : Ct) : Ct := Ts.foldl (fun c T => T c) c
theorem thru_sane : ∀ {q : Nat} {w0 : World} {vs : List Fv} {Ts : List (Ct → Ct)}, StepsOk q w0 vs Ts → ∀ c : Ct, c.sane = true → c.n = q → (thru Ts c).sane = true ∧ (thru Ts c).n = q
  | _, _, [], [], _, _, hc, hn => ⟨hc, hn⟩
  | _, w0, _ :: vs, T :: Ts, h, c, hc, hn => by
    obtain ⟨h1, h2⟩ := h.1.2.2 c hc hn
    exact thru_sane h.2 (T c) h1 h2
theorem StepsOk.at_ : ∀ {q : Nat} {w0 : World} {vs : List Fv} {Ts : List (Ct → Ct)} {i : Nat} {v : Fv}, StepsOk q w0 vs Ts → vs[i]? = some v → ∃ T, Ts[i]? = some T ∧ StepOk q w0 v T
  | _, _, [], _, _, _, _, h => by simp at h
  | _, _, v :: vs, T :: Ts, 0, u, h, e => by
    obtain rfl : v = u := by simpa using e
    exact ⟨T, rfl, h.1⟩
  | _, _, v :: vs, T :: Ts, i + 1, u, h, e => by
    obtain ⟨T', h1, h2⟩ := h.2.at_ (i := i) (by simpa using e)
    exact ⟨T', by simpa using h1, h2⟩
theorem StepsOk.len : ∀ {q : Nat} {w0 : World} {vs : List Fv} {Ts : List (Ct → Ct)}, StepsOk q w0 vs Ts → vs.length = Ts.length
  | _, _, [], [], _ => rfl
  | _, _, _ :: _, _ :: _, h => by simp [h.2.len]
  | _, _, [], _ :: _, h => h.elim
theorem StepsOk.take : ∀ {q : Nat} {w0 : World} {vs : List Fv} {Ts : List (Ct → Ct)} (k : Nat), StepsOk q w0 vs Ts → StepsOk q w0 (vs.take k) (Ts.take k)
  | _, _, _, _, 0, _ => by simp [StepsOk]
  | _, _, [], [], _ + 1, _ => by simp [StepsOk]
  | _, _, _ :: _, _ :: _, k + 1, h => ⟨h.1, h.2.take k⟩
theorem thru_snoc (Ts : List (Ct → Ct)) (k : Nat) (T : Ct → Ct) (h : Ts[k]? = some T) (c : Ct) : thru (Ts.take (k + 1)) c = T (thru (Ts.take k) c) := by
  unfold thru
  rw [List.take_add_one, h, List.foldl_append]
  rfl
/-- the row under the cursor is another one -/
def Md.setR (m : Md) (c : Ct) : Md := { m with G := updC m.G m.y.toNat c }
def Md.here (m : Md) : Ct := m.G m.y.toNat
theorem Md.Ok.y {m : Md} (h : m.Ok) : m.y.toNat < m.n ∧ ((m.y.toNat : Nat) : Int) = m.y := by
  have h1 := h.cf.y0
  have h2 := h.cf.y1
  have h3 := h.nH
  omega
theorem Md.Ok.here {m : Md} (h : m.Ok) : m.here.sane = true ∧ (m.here.n : Int) = m.W := by
  have hg := h.gs
  unfold gsC at hg
  obtain ⟨_, _, h3⟩ := of_decide_eq_true hg
  obtain ⟨h4, h5⟩ := h3 _ h.y.1
  have := h.nW
  exact ⟨h5, by show ((m.G m.y.toNat).n : Int) = _; rw [h4]; exact this⟩
theorem set_md (s : Sc) (F : Nat → Rw) (zs : List Int) (L : List Rw) (c2 : Nat) (r : Rw) (A : Option Addr) (n : Nat) (hn : n = s.gn) :
    Sn.md ⟨{ s with gA := A, gn := n, gc := c2 }, updG F s.y.toNat r, zs, L⟩ = (Sn.md ⟨s, F, zs, L⟩).setR (ct r) := by
  subst hn
  unfold Md.setR
  simp only [Sn.md, ct_upd]
theorem set_i (x : Value) (n : Nat) (F : Nat → Rw) (Y : Int) (y : Nat) (r : Rw) (w : World) (hx : RdR w x (listG n F)) (hok : r.ok w) (hs : gsaneB (listG n F) = true) (hY : (y : Int) = Y) (hy : y < n) (hrn : r.n = (F 0).n) (hsr : saneRw r = true) :
    Calls Tryz.prog 75 #[.agg #[x], .int .i64 Y, .agg #[.slice r.A r.n r.cap, .bool r.wb, .int .i64 r.dir, .bool r.ex]] w (SetF x n F y r w) := by
  subst hY
  exact set_f x n F y r w hx hok hs hy hrn hsr
theorem WS.startk (k : Nat) {S0 : Sn} {w : World} (hr : S0.rd w) : WS w.heap.size (w.heap.size + 1) k S0 w ((w.alloc (.cells #[.slice S0.s.gA S0.s.gn S0.s.gc, .int .i64 S0.s.x, .int .i64 S0.s.y, .bool S0.s.wr, .bool S0.s.og, .int .i64 S0.s.fg, .int .i64 S0.s.bg, .int .i64 S0.s.fl, .int .u8 S0.s.g0, .int .u8 S0.s.g1, .int .u8 S0.s.g2, .int .u8 S0.s.g3, .int .i64 S0.s.gl, .int .i64 S0.s.gr, .int .i64 S0.s.on, .int .i64 S0.s.H, .int .i64 S0.s.W, .int .i64 S0.s.T, .int .i64 S0.s.B, .slice S0.s.tA S0.s.tn S0.s.tc, .int .i64 S0.s.tw, .slice S0.s.kA S0.s.kn S0.s.kc, .int .i64 S0.s.kp, .int .i64 S0.s.dir, .bool S0.s.ex] 54)).alloc (.cells #[.slice dummy.gA dummy.gn dummy.gc, .int .i64 dummy.x, .int .i64 dummy.y, .bool dummy.wr, .bool dummy.og, .int .i64 dummy.fg, .int .i64 dummy.bg, .int .i64 dummy.fl, .int .u8 dummy.g0, .int .u8 dummy.g1, .int .u8 dummy.g2, .int .u8 dummy.g3, .int .i64 dummy.gl, .int .i64 dummy.gr, .int .i64 dummy.on, .int .i64 dummy.H, .int .i64 dummy.W, .int .i64 dummy.T, .int .i64 dummy.B, .slice dummy.tA dummy.tn dummy.tc, .int .i64 dummy.tw, .slice dummy.kA dummy.kn dummy.kc, .int .i64 dummy.kp, .int .i64 dummy.dir, .bool dummy.ex] 54)) S0 := ⟨Bx.start, Vt.start k hr Bx.start.bw⟩
/-- between two steps: the row in its box -/
def RowMid (S : Sn) (w : World) (c : Ct) (wc : World) : Prop :=
  ∃ r : Rw, WS w.heap.size (w.heap.size + 1) 3 S w wc S ∧ Blk wc (w.heap.size + 2) 64 #[.slice r.A r.n r.cap, .bool r.wb, .int .i64 r.dir, .bool r.ex] ∧ r.ok wc ∧ ct r = c ∧ ftR (Out 3 w) r ∧ ∀ P : Nat → Prop, S.ft P → ftR (since P w.heap.size) r
theorem RowMid.next {S : Sn} {w wz w5 : World} {c' : Ct} {r r' : Rw} (hX : WS w.heap.size (w.heap.size + 1) 3 S w wz S) (hB : Blk wz (w.heap.size + 2) 64 #[.slice r.A r.n r.cap, .bool r.wb, .int .i64 r.dir, .bool r.ex]) (hout : ftR (Out 3 w) r) (hgen : ∀ P : Nat → Prop, S.ft P → ftR (since P w.heap.size) r)
    (hg : Below wz.heap.size wz w5) (hok : r'.ok w5) (hc : ct r' = c') (hft : ∀ P : Nat → Prop, ftR P r → ftR (since P wz.heap.size) r') :
    RowMid S w c' ((((w5.setCell ⟨w.heap.size + 2, 0, none⟩ (.slice r'.A r'.n r'.cap)).setCell ⟨w.heap.size + 2, 1, none⟩ (.bool r'.wb)).setCell ⟨w.heap.size + 2, 2, none⟩ (.int .i64 r'.dir)).setCell ⟨w.heap.size + 2, 3, none⟩ (.bool r'.ex)) := by
  have h3 : w.heap.size + 3 ≤ wz.heap.size := hB.lt
  have ho : ftR (Out 3 w) r' := (hft _ hout).mono (out_since h3)
  have hnot : ¬ Out 3 w (w.heap.size + 2) := by unfold Out; omega
  refine ⟨r', ((((hX.below hg).box (by omega) (by omega) (by omega) (by omega)).box (by omega) (by omega) (by omega) (by omega)).box (by omega) (by omega) (by omega) (by omega)).box (by omega) (by omega) (by omega) (by omega), blk_set4 (hB.below hg hB.lt), ?_, hc, ho, fun P hP => (hft _ (hgen P hP)).mono (gen_since (k := 3) h3)⟩
  exact ok_keep (ok_keep (ok_keep (ok_keep hok ho (Keeps.cell _ _ hnot)) ho (Keeps.cell _ _ hnot)) ho (Keeps.cell _ _ hnot)) ho (Keeps.cell _ _ hnot)
set_option maxRecDepth 100000 in
set_option maxHeartbeats 4000000 in
theorem onRow_c (S : Sn) (x : Value) (q : Nat) (vs : List Fv) (Ts : List (Ct → Ct)) (w : World) (hs : Md.Ok { S.md with x := 0, wr := false }) (hr : S.rd w) (hx : RdX encF w x vs) (hq : (q : Int) = S.s.W) (hst : StepsOk q w vs Ts) (h0 : 0 < vs.length) (hl : vs.length ≤ 100) :
    Calls Tryz.prog 39 #[.agg #[.slice S.s.gA S.s.gn S.s.gc, .int .i64 S.s.x, .int .i64 S.s.y, .bool S.s.wr, .bool S.s.og, .int .i64 S.s.fg, .int .i64 S.s.bg, .int .i64 S.s.fl, .int .u8 S.s.g0, .int .u8 S.s.g1, .int .u8 S.s.g2, .int .u8 S.s.g3, .int .i64 S.s.gl, .int .i64 S.s.gr, .int .i64 S.s.on, .int .i64 S.s.H, .int .i64 S.s.W, .int .i64 S.s.T, .int .i64 S.s.B, .slice S.s.tA S.s.tn S.s.tc, .int .i64 S.s.tw, .slice S.s.kA S.s.kn S.s.kc, .int .i64 S.s.kp, .int .i64 S.s.dir, .bool S.s.ex], x] w (SPost S w (fun m => m = S.md.setR (thru Ts S.md.here))) := by
  have HR := Lib.hid hr
  obtain ⟨A, cap, rfl, hcap⟩ := hx.len
  obtain ⟨bs, os, rfl, -, -⟩ := hx.at_ (k := 0) (a := vs[0]) (List.getElem?_eq_getElem h0)
  have HXS := Lib.hid hx
  have HST := Lib.hid hst
  have HQ := Lib.hid hq
  have hyy := hs.y
  obtain ⟨s, F, zs, L⟩ := S
  have HH := Lib.hid (show (ct (F s.y.toNat)).sane = true ∧ ((F s.y.toNat).n : Int) = s.W from hs.here)
  have HGS := Lib.hid (show gsaneB (listG s.gn F) = true from (gs_ct _ _).symm.trans hs.gs)
  simp only [Sn.md] at hyy
  obtain ⟨hy1, hy2⟩ := hyy
  have HGL := Lib.hid (show s.y.toNat < (listG s.gn F).length by rw [listG_len]; exact hy1)
  have HY := Lib.hid hy2
  have HY1 := Lib.hid hy1
  have hn1 : vs.length ≤ cap := hcap
  have y0 := hs.cf.y0
  have y1 := hs.cf.y1
  have hyn : s.y < s.gn := by omega
  simp only [Sn.md] at y0 y1
  have HL := Lib.hid hl
  have HW0 := Lib.hid (show ((F 0).n : Int) = s.W from hs.nW)
  generalize hn : vs.length = n at *
  have HN := Lib.hid hn
  clear hr hs hx hst hn hcap hl hq
  dsimp only at *
  go_enter Tryz.func39, Tryz.ntmps39
  go_upto_region 1 with fail
  generalize hW : (w.alloc _).alloc _ = W
  have hX : WS w.heap.size (w.heap.size + 1) 3 ⟨s, F, zs, L⟩ w W ⟨s, F, zs, L⟩ := hW ▸ WS.startk 3 HR.out
  have hWs : W.heap.size = w.heap.size + 2 := by rw [← hW]; simp
  clear hW
  obtain ⟨bx, ox, hAx, hbx, hat, hok⟩ := hX.rows.at_ HGL.out
  dsimp only at hAx
  rw [listG_at] at hat hok
  replace hok : (F s.y.toNat).ok W := hok
  obtain ⟨p0, p1, p2, p3⟩ := hat
  generalize hrr : F s.y.toNat = rr at *
  have HOK := Lib.hid hok
  have hy3 : (s.y.toNat : Int) = s.y := hy2
  have rS := SBlk.isScr hX.x.B; have rL := SBlk.cells hX.x.B; have rZ := IsScr.lt rS
  go_upto_region 2 with fail
  clear rS rL rZ
  have hft : ftR (· < w.heap.size) rr := by
    rw [← hrr]
    intro h0 b o e
    exact HR.out.ft.1.2 _ (listG_mem.2 ⟨_, HY1.out, rfl⟩) h0 b o e
  have hgn : ∀ P : Nat → Prop, Sn.ft ⟨s, F, zs, L⟩ P → ftR (since P w.heap.size) rr := by
    rw [← hrr]
    intro P hP h0 b o e
    exact .inl (hP.1.2 _ (listG_mem.2 ⟨_, HY1.out, rfl⟩) h0 b o e)
  have HRR := Lib.hid hrr
  have HRQ := Lib.hid (show (ct rr).n = q by have h1 := HH.out.2; have h2 := HQ.out; show rr.n = q; omega)
  generalize hW2 : W.alloc _ = W2
  have hM : RowMid ⟨s, F, zs, L⟩ w (thru (Ts.take 0) (ct rr)) W2 := by
    refine ⟨rr, hW2 ▸ hX.alloc _, ?_, ?_, rfl, hft.mono fun b hb => .inl hb, hgn⟩
    · rw [← hW2]
      exact Blk.new_at hWs.symm
    · exact HOK.out.below (hW2 ▸ (Below.refl _ _).alloc (Nat.le_refl _) _)
  clear hW2 hX hrr hAx hbx p0 p1 p2 p3 hok hft hgn hWs hy2 hy3
  go_wp2_with fail
  go_loopw [18] (fun i wz => ∃ k : Nat, k ≤ n ∧ i = .int .i64 k ∧ RowMid ⟨s, F, zs, L⟩ w (thru (Ts.take k) (ct rr)) wz) (fun i _ => n - (intOf i).toNat)
  case atStart => exact ⟨0, Nat.zero_le _, rfl, hM⟩
  case round =>
    obtain ⟨k, hk, rfl, hM⟩ := hrel
    by_cases hlt : k < n
    · have hkI : (k : Int) < n := by omega
      have hn100 := HL.out
      have hkJ : (n : Int) ≤ 100 := by omega
      obtain ⟨r, hX, hBr, hok, hct, hout, hgen⟩ := hM
      have hvk : k < vs.length := by have := HN.out; omega
      obtain ⟨T, hT, hST⟩ := HST.out.at_ (List.getElem?_eq_getElem hvk)
      have hc := (HXS.out.below hX.x.bw).at' (List.getElem?_eq_getElem hvk) 0 _ rfl
      rw [show os + k * encF.size + 0 = os + k from by show os + k * 1 + 0 = os + k; omega] at hc
      have HT := Lib.hid (thru_snoc Ts k T hT (ct rr))
      have HSN := Lib.hid (thru_sane (HST.out.take k) (ct rr) HH.out.1 HRQ.out)
      generalize vs[k] = v at *
      have HST1 := Lib.hid hST
      have HCT := Lib.hid hct
      have HOUT := Lib.hid hout
      have HGEN := Lib.hid hgen
      change _ = some (Value.func (.func v.f) #[] v.caps) at hc
      clear hT hST hct hout hgen
      have hcf := HST1.out.1
      obtain ⟨z0, z1, z2, z3, zf, zl⟩ := hBr.facts4
      go_wp2_with fail
      refine (HST1.out.2.1 r _ hX.x.bw hok (by rw [HCT.out]; exact HSN.out.1) (by have h := HSN.out.2; rw [← HCT.out] at h; exact h)).mono ?_
      rintro e w5 ⟨r5, rfl, hg5, hok5, hct5, hft5⟩
      rw [HCT.out] at hct5
      have hM5 := RowMid.next hX hBr HOUT.out HGEN.out hg5 hok5 (hct5.trans HT.out.symm) hft5
      have hB5 := hBr.below hg5 hBr.lt
      clear hok5 hct5 hft5 hg5 z0 z1 z2 z3 zf zl hX hBr hok hc hcf
      obtain ⟨z0, z1, z2, z3, zf, zl⟩ := hB5.facts4
      go_wp2_with fail
      go_roundw
      case rel => exact ⟨k + 1, by omega, by go_num, hM5⟩
      case measure => simp [intOf]; omega
    · obtain rfl : n = k := by omega
      have HTK := Lib.hid (show Ts.take n = Ts from List.take_of_length_le (by rw [← HST.out.len, HN.out]; exact Nat.le_refl _))
      rw [HTK.out] at hM
      obtain ⟨r, hX, hBr, hok, hct, hout, hgen⟩ := hM
      obtain ⟨hsn, hrn⟩ := thru_sane HST.out (ct rr) HH.out.1 HRQ.out
      rw [← hct] at hsn hrn
      have HSN := Lib.hid (show saneRw r = true from hsn)
      have HRN := Lib.hid (show r.n = (F 0).n by have h1 := HW0.out; have h2 := HH.out.2; have h3 : r.n = q := hrn; have h4 : rr.n = q := HRQ.out; omega)
      have HCT := Lib.hid hct
      have hz3 : w.heap.size + 3 ≤ wr.heap.size := hBr.lt
      clear hct hsn hrn
      obtain ⟨z0, z1, z2, z3, zf, zl⟩ := hBr.facts4
      have rS := SBlk.isScr hX.x.B; have rL := SBlk.cells hX.x.B; have rZ := IsScr.lt rS
      go_wp2_with fail
      (with_reducible refine (set_i (.slice s.gA s.gn s.gc) s.gn F s.y s.y.toNat r _ hX.rows hok HGS.out HY.out HY1.out HRN.out HSN.out).mono ?_)
      rintro e w6 ⟨g2, c2, rfl, hg, hc2, hr2, hf2⟩
      have hX6 := hX.below hg
      clear rS rL rZ
      clear z0 z1 z2 z3 zf zl
      have rS := SBlk.isScr hX6.x.B; have rL := SBlk.cells hX6.x.B; have rZ := IsScr.lt rS
      go_upto_region 8 with fail
      clear rS rL rZ
      generalize hW7 : World.setCell _ _ _ = W7
      have hX7 : WS w.heap.size (w.heap.size + 1) 3 ⟨s, F, zs, L⟩ w W7 ⟨{ s with gA := some ⟨g2, 0, none⟩, gn := s.gn, gc := c2 }, _, zs, L⟩ := hW7 ▸ hX6.cell (by omega) 0 _ (fun v => v.grid hr2 ((hf2 _ hX.v.out.1 hout).mono (out_since hz3)) (fun P hP => (hf2 _ (hX.v.gen P hP).1 (hgen P hP)).mono (gen_since (k := 3) hz3))) rfl
      clear hW7
      go_wp2_with (first | (refine hX7.wload rfl rfl rfl ?_) | (refine hX7.wstore hX7.v (by rfl) (by rfl) (by rfl) (by rfl) (by rfl) ?_)); exact bodyPost_ret (results_scr rfl rfl (hX7.res hX7.v)) rfl (hX7.fin hX7.v (by omega) (by rw [show (Sn.md ⟨s, F, zs, L⟩).here = ct rr from HRR.out ▸ rfl, ← HCT.out]; exact set_md s F zs L c2 r _ _ rfl))
end Go.Proofs.YtlchffkabpfjpaaGreat.Scr
end
section
/- Whatever is done to a screen that may be, it may be (plain). -/
namespace Go.Proofs.YtlchffkabpfjpaaGreat.Scr
open Go.RowKit Go.Proofs.YtlchffkabpfjpaaGreat.Row
theorem gsC_of {n : Nat} {G : Nat → Ct} (m : Nat) (h1 : 1 ≤ n) (h2 : n ≤ 1000) (h : ∀ i, i < n → (G i).n = m ∧ (G i).sane = true) : gsC n G = true := by
  unfold gsC
  exact decide_eq_true ⟨h1, h2, fun i hi => ⟨(h i hi).1.trans (h 0 (by omega)).1.symm, (h i hi).2⟩⟩
theorem gsC_get {n : Nat} {G : Nat → Ct} (h : gsC n G = true) : 1 ≤ n ∧ n ≤ 1000 ∧ ∀ i, i < n → (G i).n = (G 0).n ∧ (G i).sane = true := by
  unfold gsC at h
  exact of_decide_eq_true h
theorem ct_len {c : Ct} (h : c.sane = true) : 1 ≤ c.n ∧ c.n ≤ 4096 := sane_len h
theorem newC_sane {q : Nat} {fg bg fl : Int} (h1 : 1 ≤ q) (h2 : q ≤ 4096) (hp : penB fg bg fl = true) : (newC q fg bg fl).sane = true := new_saneRw 0 q fg bg fl h1 h2 hp
/-- rows that are each one of those that were, or new -/
theorem gsC_sub {n : Nat} {G H : Nat → Ct} {fg bg fl : Int} (h : gsC n G = true) (hp : penB fg bg fl = true) (k : ∀ i, i < n → (∃ j, j < n ∧ H i = G j) ∨ H i = newC (G 0).n fg bg fl) : gsC n H = true ∧ (H 0).n = (G 0).n := by
  obtain ⟨h1, h2, h3⟩ := gsC_get h
  have hl := ct_len (h3 0 (by omega)).2
  have hh : ∀ i, i < n → (H i).n = (G 0).n ∧ (H i).sane = true := fun i hi => by
    rcases k i hi with ⟨j, hj, e⟩ | e
    · rw [e]
      exact h3 j hj
    · rw [e]
      exact ⟨rfl, newC_sane hl.1 hl.2 hp⟩
  exact ⟨gsC_of _ h1 h2 hh, (hh 0 (by omega)).1⟩
theorem gsC_upd {n : Nat} {G : Nat → Ct} {k : Nat} {c : Ct} (h : gsC n G = true) (hc : c.sane = true) (hn : c.n = (G 0).n) : gsC n (updC G k c) = true ∧ (updC G k c 0).n = (G 0).n := by
  obtain ⟨h1, h2, h3⟩ := gsC_get h
  have hh : ∀ i, i < n → (updC G k c i).n = (G 0).n ∧ (updC G k c i).sane = true := fun i hi => by
    unfold updC
    split
    · exact ⟨hn, hc⟩
    · exact h3 i hi
  exact ⟨gsC_of _ h1 h2 hh, (hh 0 (by omega)).1⟩
section
variable {m : Md}
/-- other rows -/
theorem Md.Ok.withG (h : m.Ok) {G : Nat → Ct} (hg : gsC m.n G = true ∧ (G 0).n = (m.G 0).n) : Md.Ok { m with G := G } :=
  ⟨h.d0, h.d2, h.cu, h.tb, h.tw, hg.1, h.nH, by show ((G 0).n : Int) = _; rw [hg.2]; exact h.nW, h.hs⟩
theorem Md.Ok.withK (h : m.Ok) {K : List Ct} (hk : hsC K m.kp = true) : Md.Ok { m with K := K } := ⟨h.d0, h.d2, h.cu, h.tb, h.tw, h.gs, h.nH, h.nW, hk⟩
theorem Md.Ok.setR (h : m.Ok) {c : Ct} (hc : c.sane = true) (hn : (c.n : Int) = m.W) : (m.setR c).Ok := h.withG (gsC_upd h.gs hc (by have := h.nW; omega))
theorem Md.Ok.mar (h : m.Ok) : m.T.toNat < m.B.toNat ∧ m.B.toNat ≤ m.n ∧ ((m.T.toNat : Nat) : Int) = m.T ∧ ((m.B.toNat : Nat) : Int) = m.B := by
  have := h.cf.t0
  have := h.cf.tb
  have := h.cf.bh
  have := h.nH
  omega
theorem up_rows (h : m.Ok) {t b q : Nat} (_hq : t + q ≤ b) (_hb : b ≤ m.n) : gsC m.n (layC (mvC m.G t q (b - t - q)) (b - q) q (m.G 0).n 0 m.bg 0) = true ∧ (layC (mvC m.G t q (b - t - q)) (b - q) q (m.G 0).n 0 m.bg 0 0).n = (m.G 0).n := by
  refine gsC_sub h.gs h.ground fun i hi => ?_
  unfold layC mvC
  split
  · exact .inr rfl
  · split
    · exact .inl ⟨_, by omega, rfl⟩
    · exact .inl ⟨i, hi, rfl⟩
theorem Md.Ok.upG (h : m.Ok) {t b q : Nat} (hq : t + q ≤ b) (hb : b ≤ m.n) : (m.upG t b q).Ok := h.withG (up_rows h hq hb)
theorem Md.Ok.dnG (h : m.Ok) {t b q : Nat} (_hq : t + q ≤ b) (_hb : b ≤ m.n) : (m.dnG t b q).Ok := by
  refine h.withG (gsC_sub h.gs h.ground fun i hi => ?_)
  unfold layC mdC
  split
  · exact .inr rfl
  · split
    · exact .inl ⟨_, by omega, rfl⟩
    · exact .inl ⟨i, hi, rfl⟩
theorem pushC_mem {K M : List Ct} {c : Nat} {x : Ct} (h : x ∈ pushC K c M) : x ∈ K ∨ (x ∈ M ∧ x.sane = true) := by
  unfold pushC at h
  rcases List.mem_append.1 (List.mem_of_mem_drop h) with h | h
  · exact .inl h
  · exact .inr (List.mem_filter.1 h)
theorem pushC_len (K : List Ct) (c : Nat) (M : List Ct) : (pushC K c M).length ≤ c := by
  unfold pushC
  rw [List.length_drop]
  omega
theorem hsC_push {K : List Ct} {kp : Int} (h : hsC K kp = true) (M : List Ct) : hsC (pushC K kp.toNat M) kp = true := by
  unfold hsC at h ⊢
  obtain ⟨h1, h2, h3, h4⟩ := of_decide_eq_true h
  have := pushC_len K kp.toNat M
  exact decide_eq_true ⟨h1, h2, by omega, fun c hc => (pushC_mem hc).elim (h4 c) (·.2)⟩
theorem Md.Ok.up (h : m.Ok) {q : Nat} (hq : m.T.toNat + q ≤ m.B.toNat) : (m.up q).Ok := by
  have h1 := h.upG hq h.mar.2.1
  unfold Md.up
  split
  · exact h1.withK (hsC_push h.hs _)
  · exact h1.withK h.hs
theorem Md.Ok.down (h : m.Ok) : m.down.Ok := by
  have hm := h.mar
  obtain ⟨h1, h2, w1, w2, t0, tb, bh, x0, x1, y0, y1, wx, oy⟩ := h.cf
  unfold Md.down
  split
  · exact h.dry.up (by show m.T.toNat + 1 ≤ m.B.toNat; omega)
  · refine h.move (x := m.x) ⟨h1, h2, w1, w2, t0, tb, bh, x0, x1, by omega, by omega, (fun h => by cases h), fun ho => ?_⟩
    have := oy ho
    omega
theorem Md.Ok.upC (h : m.Ok) : m.upC.Ok := by
  have hm := h.mar
  obtain ⟨h1, h2, w1, w2, t0, tb, bh, x0, x1, y0, y1, wx, oy⟩ := h.cf
  unfold Md.upC
  split
  · exact h.dry.dnG (by show m.T.toNat + 1 ≤ m.B.toNat; omega) hm.2.1
  · refine h.move (x := m.x) ⟨h1, h2, w1, w2, t0, tb, bh, x0, x1, by omega, by omega, (fun h => by cases h), fun ho => ?_⟩
    have := oy ho
    omega
/-- the row wraps, and the next one's beginning -/
def wrapC (b : Bool) (c : Ct) : Ct := { c with wb := b }
def Md.next (m : Md) : Md := { (m.setR (wrapC true m.here)).down with x := 0 }
theorem Md.down_wr (m : Md) : m.down.wr = false := by
  unfold Md.down
  split
  · unfold Md.up Md.upG
    rfl
  · rfl
theorem Md.Ok.x0 (h : m.Ok) (hw : m.wr = false) : Md.Ok { m with x := 0 } := by
  obtain ⟨h1, h2, w1, w2, t0, tb, bh, x0, x1, y0, y1, wx, oy⟩ := h.cf
  exact h.move (y := m.y) (wr := m.wr) ⟨h1, h2, w1, w2, t0, tb, bh, by omega, by omega, y0, y1, (fun e => by rw [hw] at e; cases e), oy⟩
theorem Md.Ok.wrapR (h : m.Ok) (b : Bool) : (m.setR (wrapC b m.here)).Ok := h.setR h.here.1 h.here.2
theorem Md.Ok.next (h : m.Ok) : m.next.Ok := (h.wrapR true).down.x0 (Md.down_wr _)
end
end Go.Proofs.YtlchffkabpfjpaaGreat.Scr
end
section
/- screen.wraps and its step; screen.next. -/
namespace Go.Proofs.YtlchffkabpfjpaaGreat.Scr
open Go.RowKit Go.Proofs.YtlchffkabpfjpaaGreat.Row
attribute [local go_sem ↓] scr_load_pre scr_store_pre
attribute [local go_sem] scr_cell scr_frozen
def FnPost (f : FuncId) (w : World) (Φ : Array Value → World → Prop) (e : Ending) (w' : World) : Prop := ∃ caps, e = .returned (.func (.func f) #[] caps) ∧ Below w.heap.size w w' ∧ Φ caps w'
set_option maxHeartbeats 4000000 in
theorem wraps_c (on : Bool) (w : World) : Calls Tryz.prog 69 #[.bool on] w (FnPost 101 w fun caps w' => ∃ b, caps = #[.pointer (some ⟨b, 0, none⟩)] ∧ Blk w' b 4 #[.bool on]) := by
  have hmf : ∀ (fn : Fn) (first cap : Array Value) (w : World), (Instr.makeFunc fn first cap).run Tryz.prog w = .ok (.func fn first cap) w := fun _ _ _ _ => rfl
  go_enter Tryz.func69, Tryz.ntmps69
  go_wp2_with fail
  go_ret
  exact ⟨_, rfl, (Below.refl _ _).alloc (Nat.le_refl _) _, _, rfl, Blk.new _ _ _⟩
theorem blk_one {w : World} {b : Nat} {t : TypeId} {v : Value} (h : Blk w b t #[v]) : w.cell? ⟨b, 0, none⟩ = some v ∧ b < w.heap.size := ⟨h.cell 0, h.lt⟩
set_option maxHeartbeats 4000000 in
theorem wraps_step (on : Bool) (b q : Nat) (w0 : World) (hB : Blk w0 b 4 #[.bool on]) : StepOk q w0 ⟨101, #[.pointer (some ⟨b, 0, none⟩)]⟩ (wrapC on) := by
  refine ⟨callFunc_enter Tryz.func101 (by kernel_rfl) (by kernel_rfl), fun r w hb hok _ hrq => ?_, fun c hc hn => ⟨hc, hn⟩⟩
  clear hrq
  obtain ⟨c0, cl⟩ := blk_one (hB.below hb hB.lt)
  have HOK := Lib.hid hok
  clear hB hb hok
  show Calls _ _ #[.agg #[.slice r.A r.n r.cap, .bool r.wb, .int .i64 r.dir, .bool r.ex], .pointer (some ⟨b, 0, none⟩)] _ _
  go_enter Tryz.func101, Tryz.ntmps101
  go_wp2_with fail
  refine bodyPost_ret (v := .agg #[.slice r.A r.n r.cap, .bool on, .int .i64 r.dir, .bool r.ex]) (by simp [results, Tryz.results101, go_sem]) rfl ⟨{ r with wb := on }, rfl, by exact bcAll, HOK.out.below (by exact bcAll), rfl, fun P hP => hP.mono fun b hb => .inl hb⟩
theorem steps1 {q : Nat} {w : World} {v : Fv} {T : Ct → Ct} (h : StepOk q w v T) : StepsOk q w [v] [T] := ⟨h, trivial⟩
theorem steps2 {q : Nat} {w : World} {v v' : Fv} {T T' : Ct → Ct} (h : StepOk q w v T) (h' : StepOk q w v' T') : StepsOk q w [v, v'] [T, T'] := ⟨h, h', trivial⟩
theorem Md.Ok.bare {m : Md} (h : m.Ok) : Md.Ok { m with x := 0, wr := false } := h.dry.x0 rfl
theorem onRow_1 (S : Sn) (x : Value) (q : Nat) (v : Fv) (T : Ct → Ct) (w : World) (hs : Md.Ok { S.md with x := 0, wr := false }) (hr : S.rd w) (hx : RdX encF w x [v]) (hq : (q : Int) = S.s.W) (hst : StepOk q w v T) :
    Calls Tryz.prog 39 #[.agg #[.slice S.s.gA S.s.gn S.s.gc, .int .i64 S.s.x, .int .i64 S.s.y, .bool S.s.wr, .bool S.s.og, .int .i64 S.s.fg, .int .i64 S.s.bg, .int .i64 S.s.fl, .int .u8 S.s.g0, .int .u8 S.s.g1, .int .u8 S.s.g2, .int .u8 S.s.g3, .int .i64 S.s.gl, .int .i64 S.s.gr, .int .i64 S.s.on, .int .i64 S.s.H, .int .i64 S.s.W, .int .i64 S.s.T, .int .i64 S.s.B, .slice S.s.tA S.s.tn S.s.tc, .int .i64 S.s.tw, .slice S.s.kA S.s.kn S.s.kc, .int .i64 S.s.kp, .int .i64 S.s.dir, .bool S.s.ex], x] w (SPost S w (fun m => m = S.md.setR (T S.md.here))) := onRow_c S x q [v] [T] w hs hr hx hq (steps1 hst) (by simp) (by simp)
theorem onRow_2 (S : Sn) (x : Value) (q : Nat) (v v' : Fv) (T T' : Ct → Ct) (w : World) (hs : Md.Ok { S.md with x := 0, wr := false }) (hr : S.rd w) (hx : RdX encF w x [v, v']) (hq : (q : Int) = S.s.W) (hst : StepOk q w v T) (hst' : StepOk q w v' T') :
    Calls Tryz.prog 39 #[.agg #[.slice S.s.gA S.s.gn S.s.gc, .int .i64 S.s.x, .int .i64 S.s.y, .bool S.s.wr, .bool S.s.og, .int .i64 S.s.fg, .int .i64 S.s.bg, .int .i64 S.s.fl, .int .u8 S.s.g0, .int .u8 S.s.g1, .int .u8 S.s.g2, .int .u8 S.s.g3, .int .i64 S.s.gl, .int .i64 S.s.gr, .int .i64 S.s.on, .int .i64 S.s.H, .int .i64 S.s.W, .int .i64 S.s.T, .int .i64 S.s.B, .slice S.s.tA S.s.tn S.s.tc, .int .i64 S.s.tw, .slice S.s.kA S.s.kn S.s.kc, .int .i64 S.s.kp, .int .i64 S.s.dir, .bool S.s.ex], x] w (SPost S w (fun m => m = S.md.setR (T' (T S.md.here)))) := onRow_c S x q [v, v'] [T, T'] w hs hr hx hq (steps2 hst hst') (by simp) (by simp)
theorem next_md {S S1 S2 : Sn} (h1 : S1.md = S.md.setR (wrapC true S.md.here)) (h2 : S2.md = S1.md.down) : Sn.md ⟨{ S2.s with x := 0 }, S2.F, S2.zs, S2.L⟩ = S.md.next := by
  unfold Md.next
  rw [show S.md.setR (wrapC true S.md.here) = S1.md from h1.symm, ← h2]
  rfl
set_option maxRecDepth 100000 in
set_option maxHeartbeats 4000000 in
theorem next_c (S : Sn) (w : World) (hs : S.md.Ok) (hr : S.rd w) : Calls Tryz.prog 34 #[.agg #[.slice S.s.gA S.s.gn S.s.gc, .int .i64 S.s.x, .int .i64 S.s.y, .bool S.s.wr, .bool S.s.og, .int .i64 S.s.fg, .int .i64 S.s.bg, .int .i64 S.s.fl, .int .u8 S.s.g0, .int .u8 S.s.g1, .int .u8 S.s.g2, .int .u8 S.s.g3, .int .i64 S.s.gl, .int .i64 S.s.gr, .int .i64 S.s.on, .int .i64 S.s.H, .int .i64 S.s.W, .int .i64 S.s.T, .int .i64 S.s.B, .slice S.s.tA S.s.tn S.s.tc, .int .i64 S.s.tw, .slice S.s.kA S.s.kn S.s.kc, .int .i64 S.s.kp, .int .i64 S.s.dir, .bool S.s.ex]] w (SPost S w (fun m => m = S.md.next)) := by
  have HR := Lib.hid hr
  have HS := Lib.hid hs
  obtain ⟨s, F, zs, L⟩ := S
  have HWQ := Lib.hid (show ((s.W.toNat : Nat) : Int) = s.W by have := hs.cf.w1; simp only [Sn.md] at this; omega)
  clear hr hs
  dsimp only at *
  go_enter Tryz.func34, Tryz.ntmps34
  go_upto_region 1 with fail
  generalize hW : (w.alloc _).alloc _ = W; have hX : WS w.heap.size (w.heap.size + 1) 2 ⟨s, F, zs, L⟩ w W ⟨s, F, zs, L⟩ := hW ▸ WS.start HR.out; clear hW
  have hN := hX.drew
  refine hr_start (S := (fun _ => True)) (by kernel_rfl) rfl ?_ (fun hHeld => ?_)
  · ((try dsimp only); (try exact trivial))
  refine hr_two (i := 0) (j := 1) rfl rfl rfl rfl (by kernel_rfl) (by kernel_rfl) (by kernel_rfl) (fun K hK => ?_) (fun K hK => ?_)
  · refine wp_scr_load hN.x.B rfl rfl ?_
    refine hK.out _ _ ?_ (fun hHeld => ?_)
    · ((try dsimp only); (try exact trivial))
    clear hK K
    simp only [st0, st1]
    refine hr_o 1 (fun K hK => ?_)
    (try go_simp)
    ((with_reducible refine (wraps_c true _).mono ?_); rintro e w1 ⟨_, rfl, hg, b1, rfl, hbk⟩; have hz1 := hN.sz; replace hN := hN.below hg)
    (try go_wp2_with fail)
    refine hK.out _ _ ?_ (fun hHeld => ?_)
    · ((try dsimp only); (try exact trivial))
    clear hK K
    simp only [st0, st1]
    refine hr_o 2 (fun K hK => ?_)
    (try go_simp)
    (have hx : RdX encF (w1.alloc (.cells #[.func (.func 101) #[] #[.pointer (some ⟨b1, 0, none⟩)]] 88)) (.slice (some ⟨w1.heap.size, 0, none⟩) 1 1) [⟨101, #[.pointer (some ⟨b1, 0, none⟩)]⟩] := rdX_one (E := encF) _ _ _ _ _ rfl rfl; replace hbk := hbk.alloc (.cells #[.func (.func 101) #[] #[.pointer (some ⟨b1, 0, none⟩)]] 88); replace hN := hN.alloc (.cells #[.func (.func 101) #[] #[.pointer (some ⟨b1, 0, none⟩)]] 88))
    (try go_wp2_with fail)
    refine hK.out _ _ ?_ (fun hHeld => ?_)
    · ((try dsimp only); (try exact trivial))
    clear hK K
    simp only [st0, st1]
    refine hr_o 3 (fun K hK => ?_)
    (try go_simp)
    ((with_reducible refine (onRow_1 ⟨s, F, zs, L⟩ _ s.W.toNat _ _ _ HS.out.bare hN.v.rd hx HWQ.out (wraps_step true b1 _ _ hbk)).mono ?_); intro e w3 hp; obtain ⟨S1, rfl, hN1, hV1, hm1, hz3⟩ := hN.post (by have := hN.sz; omega) hp; clear hN; have hN := hN1)
    (try go_wp2_with fail)
    refine hK.out _ _ ?_ (fun hHeld => ?_)
    · ((try dsimp only); (try exact trivial))
    clear hK K
    simp only [st0, st1]
    refine hr_o 4 (fun K hK => ?_)
    (try go_simp)
    ((with_reducible refine (down_c S1 _ (by rw [hm1]; exact HS.out.wrapR true) hV1.rd).mono ?_); intro e w4 hp; obtain ⟨S2, rfl, hg4, hV2, hm2⟩ := hV1.post hz3 hp; replace hN := hN.below hg4)
    (try go_wp2_with fail)
    refine hK.out _ _ ?_ (fun hHeld => ?_)
    · ((try dsimp only); (try exact trivial))
    clear hK K
    simp only [st0, st1]
    refine hr_op0 (i := 5) rfl (by kernel_rfl) (by kernel_rfl) (fun K hK => ?_)
    (refine wp_scr_store S2.s hN.x.B.isScr rfl rfl rfl rfl ?_; generalize hW5 : World.setRow _ _ _ = W5; have hN2 : WS w.heap.size (w.heap.size + 1) 2 ⟨s, F, zs, L⟩ w W5 S2 := hW5 ▸ hN.row (by omega) hV2; clear hW5)
    refine hK.out _ ?_ (fun hHeld => ?_)
    · ((try dsimp only); (try exact trivial))
    clear hK K
    refine hr_done (by kernel_rfl) ?_
    (have hz5 := hN2.sz; have rS := SBlk.isScr hN2.x.B; have rL := SBlk.cells hN2.x.B; have rZ := IsScr.lt rS; go_upto_region 3 with fail; clear rS rL rZ; generalize hW6 : World.setCell _ _ _ = W6; have hX6 : WS w.heap.size (w.heap.size + 1) 2 ⟨s, F, zs, L⟩ w W6 ⟨{ S2.s with x := 0 }, S2.F, S2.zs, S2.L⟩ := hW6 ▸ hN2.cell (by omega) 1 _ (fun v => ⟨v.rd, v.out, v.gen⟩) rfl; clear hW6; go_wp2_with (first | (refine hX6.wload rfl rfl rfl ?_) | (refine hX6.wstore hX6.v (by rfl) (by rfl) (by rfl) (by rfl) (by rfl) ?_)); exact bodyPost_ret (results_scr rfl rfl (hX6.res hX6.v)) rfl (hX6.fin hX6.v (by omega) (next_md hm1 hm2)))
  · (try go_simp)
    ((with_reducible refine (wraps_c true _).mono ?_); rintro e w1 ⟨_, rfl, hg, b1, rfl, hbk⟩; have hz1 := hN.sz; replace hN := hN.below hg)
    (try go_wp2_with fail)
    refine hK.out _ _ ?_ (fun hHeld => ?_)
    · ((try dsimp only); (try exact trivial))
    clear hK K
    simp only [st0, st1]
    refine hr_two (i := 0) (j := 2) rfl rfl rfl rfl (by kernel_rfl) (by kernel_rfl) (by kernel_rfl) (fun K hK => ?_) (fun K hK => ?_)
    · refine wp_scr_load hN.x.B rfl rfl ?_
      refine hK.out _ _ ?_ (fun hHeld => ?_)
      · ((try dsimp only); (try exact trivial))
      clear hK K
      simp only [st0, st1]
      refine hr_o 2 (fun K hK => ?_)
      (try go_simp)
      (have hx : RdX encF (w1.alloc (.cells #[.func (.func 101) #[] #[.pointer (some ⟨b1, 0, none⟩)]] 88)) (.slice (some ⟨w1.heap.size, 0, none⟩) 1 1) [⟨101, #[.pointer (some ⟨b1, 0, none⟩)]⟩] := rdX_one (E := encF) _ _ _ _ _ rfl rfl; replace hbk := hbk.alloc (.cells #[.func (.func 101) #[] #[.pointer (some ⟨b1, 0, none⟩)]] 88); replace hN := hN.alloc (.cells #[.func (.func 101) #[] #[.pointer (some ⟨b1, 0, none⟩)]] 88))
      (try go_wp2_with fail)
      refine hK.out _ _ ?_ (fun hHeld => ?_)
      · ((try dsimp only); (try exact trivial))
      clear hK K
      simp only [st0, st1]
      refine hr_o 3 (fun K hK => ?_)
      (try go_simp)
      ((with_reducible refine (onRow_1 ⟨s, F, zs, L⟩ _ s.W.toNat _ _ _ HS.out.bare hN.v.rd hx HWQ.out (wraps_step true b1 _ _ hbk)).mono ?_); intro e w3 hp; obtain ⟨S1, rfl, hN1, hV1, hm1, hz3⟩ := hN.post (by have := hN.sz; omega) hp; clear hN; have hN := hN1)
      (try go_wp2_with fail)
      refine hK.out _ _ ?_ (fun hHeld => ?_)
      · ((try dsimp only); (try exact trivial))
      clear hK K
      simp only [st0, st1]
      refine hr_o 4 (fun K hK => ?_)
      (try go_simp)
      ((with_reducible refine (down_c S1 _ (by rw [hm1]; exact HS.out.wrapR true) hV1.rd).mono ?_); intro e w4 hp; obtain ⟨S2, rfl, hg4, hV2, hm2⟩ := hV1.post hz3 hp; replace hN := hN.below hg4)
      (try go_wp2_with fail)
      refine hK.out _ _ ?_ (fun hHeld => ?_)
      · ((try dsimp only); (try exact trivial))
      clear hK K
      simp only [st0, st1]
      refine hr_op0 (i := 5) rfl (by kernel_rfl) (by kernel_rfl) (fun K hK => ?_)
      (refine wp_scr_store S2.s hN.x.B.isScr rfl rfl rfl rfl ?_; generalize hW5 : World.setRow _ _ _ = W5; have hN2 : WS w.heap.size (w.heap.size + 1) 2 ⟨s, F, zs, L⟩ w W5 S2 := hW5 ▸ hN.row (by omega) hV2; clear hW5)
      refine hK.out _ ?_ (fun hHeld => ?_)
      · ((try dsimp only); (try exact trivial))
      clear hK K
      refine hr_done (by kernel_rfl) ?_
      (have hz5 := hN2.sz; have rS := SBlk.isScr hN2.x.B; have rL := SBlk.cells hN2.x.B; have rZ := IsScr.lt rS; go_upto_region 3 with fail; clear rS rL rZ; generalize hW6 : World.setCell _ _ _ = W6; have hX6 : WS w.heap.size (w.heap.size + 1) 2 ⟨s, F, zs, L⟩ w W6 ⟨{ S2.s with x := 0 }, S2.F, S2.zs, S2.L⟩ := hW6 ▸ hN2.cell (by omega) 1 _ (fun v => ⟨v.rd, v.out, v.gen⟩) rfl; clear hW6; go_wp2_with (first | (refine hX6.wload rfl rfl rfl ?_) | (refine hX6.wstore hX6.v (by rfl) (by rfl) (by rfl) (by rfl) (by rfl) ?_)); exact bodyPost_ret (results_scr rfl rfl (hX6.res hX6.v)) rfl (hX6.fin hX6.v (by omega) (next_md hm1 hm2)))
    · (try go_simp)
      (have hx : RdX encF (w1.alloc (.cells #[.func (.func 101) #[] #[.pointer (some ⟨b1, 0, none⟩)]] 88)) (.slice (some ⟨w1.heap.size, 0, none⟩) 1 1) [⟨101, #[.pointer (some ⟨b1, 0, none⟩)]⟩] := rdX_one (E := encF) _ _ _ _ _ rfl rfl; replace hbk := hbk.alloc (.cells #[.func (.func 101) #[] #[.pointer (some ⟨b1, 0, none⟩)]] 88); replace hN := hN.alloc (.cells #[.func (.func 101) #[] #[.pointer (some ⟨b1, 0, none⟩)]] 88))
      (try go_wp2_with fail)
      refine hK.out _ _ ?_ (fun hHeld => ?_)
      · ((try dsimp only); (try exact trivial))
      clear hK K
      simp only [st0, st1]
      refine hr_o 0 (fun K hK => ?_)
      refine wp_scr_load hN.x.B rfl rfl ?_
      refine hK.out _ _ ?_ (fun hHeld => ?_)
      · ((try dsimp only); (try exact trivial))
      clear hK K
      simp only [st0, st1]
      refine hr_o 3 (fun K hK => ?_)
      (try go_simp)
      ((with_reducible refine (onRow_1 ⟨s, F, zs, L⟩ _ s.W.toNat _ _ _ HS.out.bare hN.v.rd hx HWQ.out (wraps_step true b1 _ _ hbk)).mono ?_); intro e w3 hp; obtain ⟨S1, rfl, hN1, hV1, hm1, hz3⟩ := hN.post (by have := hN.sz; omega) hp; clear hN; have hN := hN1)
      (try go_wp2_with fail)
      refine hK.out _ _ ?_ (fun hHeld => ?_)
      · ((try dsimp only); (try exact trivial))
      clear hK K
      simp only [st0, st1]
      refine hr_o 4 (fun K hK => ?_)
      (try go_simp)
      ((with_reducible refine (down_c S1 _ (by rw [hm1]; exact HS.out.wrapR true) hV1.rd).mono ?_); intro e w4 hp; obtain ⟨S2, rfl, hg4, hV2, hm2⟩ := hV1.post hz3 hp; replace hN := hN.below hg4)
      (try go_wp2_with fail)
      refine hK.out _ _ ?_ (fun hHeld => ?_)
      · ((try dsimp only); (try exact trivial))
      clear hK K
      simp only [st0, st1]
      refine hr_op0 (i := 5) rfl (by kernel_rfl) (by kernel_rfl) (fun K hK => ?_)
      (refine wp_scr_store S2.s hN.x.B.isScr rfl rfl rfl rfl ?_; generalize hW5 : World.setRow _ _ _ = W5; have hN2 : WS w.heap.size (w.heap.size + 1) 2 ⟨s, F, zs, L⟩ w W5 S2 := hW5 ▸ hN.row (by omega) hV2; clear hW5)
      refine hK.out _ ?_ (fun hHeld => ?_)
      · ((try dsimp only); (try exact trivial))
      clear hK K
      refine hr_done (by kernel_rfl) ?_
      (have hz5 := hN2.sz; have rS := SBlk.isScr hN2.x.B; have rL := SBlk.cells hN2.x.B; have rZ := IsScr.lt rS; go_upto_region 3 with fail; clear rS rL rZ; generalize hW6 : World.setCell _ _ _ = W6; have hX6 : WS w.heap.size (w.heap.size + 1) 2 ⟨s, F, zs, L⟩ w W6 ⟨{ S2.s with x := 0 }, S2.F, S2.zs, S2.L⟩ := hW6 ▸ hN2.cell (by omega) 1 _ (fun v => ⟨v.rd, v.out, v.gen⟩) rfl; clear hW6; go_wp2_with (first | (refine hX6.wload rfl rfl rfl ?_) | (refine hX6.wstore hX6.v (by rfl) (by rfl) (by rfl) (by rfl) (by rfl) ?_)); exact bodyPost_ret (results_scr rfl rfl (hX6.res hX6.v)) rfl (hX6.fin hX6.v (by omega) (next_md hm1 hm2)))
end Go.Proofs.YtlchffkabpfjpaaGreat.Scr
end
