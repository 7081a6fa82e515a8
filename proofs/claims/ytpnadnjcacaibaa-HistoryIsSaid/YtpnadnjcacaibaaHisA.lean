/- The document's history: Sane, Cells, New, At; ours where nothing may be kept. -/
import Derived.Test.YtpnadnjcacaibaaHistW
import Derived.Test.YtpnadnjcacaibaaGridM
namespace Go.Proofs.Ytpnadnjcacaibaa.Row
open Go.RowKit
attribute [local go_sem] Nat.add_pos_iff_pos_or_pos lt_add_r' le_add_r'
set_option maxRecDepth 100000 in
set_option maxHeartbeats 2000000 in
theorem sane10_c (x : Value) (c : Int) (L : List Rw) (w : World) (hx : RdR w x L) (hl : L.length ≤ 5000) :
    Calls Try.prog 46 #[.agg #[x, .int .i64 c]] w fun e w' => e = .returned (.bool (hsaneB L c)) ∧ Grew w w' := by
  obtain ⟨A, cap, rfl, hc⟩ := hx.1.len
  have HI := Lib.hid (@hsane_iff L c)
  have HN : Hid (¬ hsaneB L c = true → hsaneB L c = false) := fun h => by simpa using h
  generalize hS : hsaneB L c = S at *
  clear hS
  generalize hn : L.length = n at hl hc hx ⊢
  have HL := Lib.hid hn
  clear hn
  go_enter Try.func46, Try.ntmps46
  go_upto_region 2 with fail
  generalize hw0 : w.alloc _ = w0
  have hb0 : Below w.heap.size w w0 := by rw [← hw0]; (repeat (first | (with_reducible exact Below.refl _ _) | (with_reducible assumption) | (with_reducible refine Below.grow ?_ ?_ _ _) | (with_reducible refine Below.drewN' ?_ _) | (with_reducible refine Below.drew ?_) | (with_reducible refine Below.alloc ?_ ?_ _) | (with_reducible refine Below.setCell ?_ ?_ _) | omega | (focus (simp; done)) | (focus (simp; omega))))
  have hB0 : Blk w0 w.heap.size 38 #[.slice A n cap, .int .i64 c] := by rw [← hw0]; exact Blk.new _ _ _
  clear hw0
  have HX0 := Lib.hid (hx.below hb0)
  go_wp2_with fail
  go_loopw [3] (fun i wz => ∃ k : Nat, k ≤ n ∧ i = .int .i64 k ∧ Hid (∀ j (h : j < L.length), j < k → saneRw L[j] = true) ∧ Below w0.heap.size w0 wz) (fun i _ => n - (intOf i).toNat)
  case atStart => exact ⟨0, Nat.zero_le _, rfl, fun j _ hj => absurd hj (by omega), Below.refl _ _⟩
  case round =>
    obtain ⟨k, hk, rfl, HALL, hb⟩ := hrel
    obtain ⟨r0, r1, rf, rl⟩ := (hB0.below hb hB0.lt).facts2
    have hbw := hb0.trans (hb.mono hb0.size)
    have hws := hbw.size
    have hwz := hb.size
    by_cases hlt : k < n
    · have hkl : k < L.length := by rw [HL.out]; exact hlt
      obtain ⟨b, o, rfl, hbl, hat, hok⟩ := (HX0.out.below hb).at_ hkl
      have HE : Hid (saneRw L[k] = true → ∀ j (h : j < L.length), j < k + 1 → saneRw L[j] = true) := fun hs j h hj => by
        by_cases e : j = k
        · subst e; exact hs
        · exact HALL.out j h (by omega)
      have HM : Hid (L[k] ∈ L) := List.getElem_mem hkl
      generalize L[k] = r at *
      obtain ⟨p0, p1, p2, p3⟩ := hat
      have hltI : (k : Int) < n := by omega
      cases hs : saneRw r
      · go_wp2_with (go_at_call 28; ((with_reducible refine (saner8_c r _ (hok.below (by (repeat (first | (with_reducible exact Below.refl _ _) | (with_reducible assumption) | (with_reducible refine Below.grow ?_ ?_ _ _) | (with_reducible refine Below.drewN' ?_ _) | (with_reducible refine Below.drew ?_) | (with_reducible refine Below.alloc ?_ ?_ _) | (with_reducible refine Below.setCell ?_ ?_ _) | omega | (focus (simp; done)) | (focus (simp; omega))))))).mono ?_); rintro e w2 ⟨rfl, X2, d2, rfl⟩))
        go_ret
        refine ⟨ebool (HN.out fun h => ?_).symm, (Below.toGrow (by repeat (first | (with_reducible exact Below.refl _ _) | (with_reducible assumption) | (with_reducible refine Below.grow ?_ ?_ _ _) | (with_reducible refine Below.drewN' ?_ _) | (with_reducible refine Below.drew ?_) | (with_reducible refine Below.alloc ?_ ?_ _) | (with_reducible refine Below.setCell ?_ ?_ _) | omega | (focus (simp; done)) | (focus (simp; omega)))))⟩
        have := (HI.out.1 h).2.2.2 r HM.out
        rw [hs] at this
        cases this
      · go_wp2_with (go_at_call 28; ((with_reducible refine (saner8_c r _ (hok.below (by (repeat (first | (with_reducible exact Below.refl _ _) | (with_reducible assumption) | (with_reducible refine Below.grow ?_ ?_ _ _) | (with_reducible refine Below.drewN' ?_ _) | (with_reducible refine Below.drew ?_) | (with_reducible refine Below.alloc ?_ ?_ _) | (with_reducible refine Below.setCell ?_ ?_ _) | omega | (focus (simp; done)) | (focus (simp; omega))))))).mono ?_); rintro e w2 ⟨rfl, X2, d2, rfl⟩))
        go_roundw
        case rel => exact ⟨k + 1, by omega, by go_num, HE.out hs, by (repeat (first | (with_reducible exact Below.refl _ _) | (with_reducible assumption) | (with_reducible refine Below.grow ?_ ?_ _ _) | (with_reducible refine Below.drewN' ?_ _) | (with_reducible refine Below.drew ?_) | (with_reducible refine Below.alloc ?_ ?_ _) | (with_reducible refine Below.setCell ?_ ?_ _) | omega | (focus (simp; done)) | (focus (simp; omega))))⟩
        case measure => simp [intOf]; omega
    · obtain rfl : k = n := by omega
      have HALL2 : Hid (∀ r ∈ L, saneRw r = true) := fun r hr => by
        obtain ⟨j, hj, rfl⟩ := List.getElem_of_mem hr
        exact HALL.out j hj (by rw [← HL.out]; exact hj)
      by_cases h1 : 0 ≤ c
      · by_cases h2 : c ≤ 200
        · by_cases h3 : (k : Int) ≤ c
          · go_wp2_with fail
            go_ret
            exact ⟨ebool (HI.out.2 ⟨h1, h2, by rw [HL.out]; exact h3, HALL2.out⟩).symm, Below.toGrow hbw⟩
          · have HF : Hid (S = false) := HN.out fun h => h3 (by have := (HI.out.1 h).2.2.1; rw [HL.out] at this; exact this)
            go_wp2_with fail
            go_ret
            exact ⟨ebool HF.out.symm, Below.toGrow hbw⟩
        · have HF : Hid (S = false) := HN.out fun h => h2 (HI.out.1 h).2.1
          go_wp2_with fail
          go_ret
          exact ⟨ebool HF.out.symm, Below.toGrow hbw⟩
      · have HF : Hid (S = false) := HN.out fun h => h1 (HI.out.1 h).1
        go_wp2_with fail
        go_ret
        exact ⟨ebool HF.out.symm, Below.toGrow hbw⟩
/-- what is told where nothing may be kept -/
def hC (s : Bool) (c : Int) : Int := if s then c else 0
def hL (s : Bool) (L : List Rw) : List Rw := if s then L else []
def atR (L : List Rw) (c k : Int) : Rw := if hsaneB L c = true ∧ 0 ≤ k ∧ k < L.length then (L[L.length - 1 - k.toNat]?).getD zeroRw else zeroRw
def atB (L : List Rw) (c k : Int) : Bool := decide (hsaneB L c = true ∧ 0 ≤ k ∧ k < L.length)
theorem at_any (x : Value) (c k : Int) (L : List Rw) (w : World) (hx : RdR w x L) (hl : L.length ≤ 5000) :
    Calls Try.prog 36 #[.agg #[x, .int .i64 c], .int .i64 k] w fun e w' => e = .returned (.tuple #[.agg #[.slice (atR L c k).A (atR L c k).n (atR L c k).cap, .bool (atR L c k).wb, .int .i64 (atR L c k).dir, .bool (atR L c k).ex], .bool (atB L c k)]) ∧ Grew w w' := by
  by_cases h : hsaneB L c = true ∧ 0 ≤ k ∧ k < L.length
  · obtain ⟨h1, h2, h3⟩ := h
    obtain ⟨j, rfl⟩ : ∃ j : Nat, k = j := ⟨k.toNat, by omega⟩
    have hj : j < L.length := by omega
    have hr := List.getElem?_eq_getElem (show L.length - 1 - j < L.length by omega)
    have e1 : atR L c j = L[L.length - 1 - j] := by
      unfold atR
      rw [if_pos ⟨h1, h2, h3⟩, Int.toNat_natCast, hr]
      rfl
    have e2 : atB L c j = true := decide_eq_true ⟨h1, h2, h3⟩
    rw [e1, e2]
    exact at_yes x c L j _ w hx hl h1 hj hr
  · have e1 : atR L c k = zeroRw := if_neg h
    have e2 : atB L c k = false := decide_eq_false h
    rw [e1, e2]
    exact at_no x c k L w hx hl h
set_option maxRecDepth 100000 in
set_option maxHeartbeats 2000000 in
theorem at10_yes (x : Value) (c : Int) (L : List Rw) (k : Nat) (r : Rw) (w : World) (hx : RdR w x L) (hl : L.length ≤ 5000) (hs : hsaneB L c = true) (hk : k < L.length) (hr : L[L.length - 1 - k]? = some r) :
    Calls Try.prog 42 #[.agg #[x, .int .i64 c], .int .i64 k] w fun e w' => e = .returned (.tuple #[.agg #[.slice r.A r.n r.cap, .bool r.wb, .int .i64 r.dir, .bool r.ex], .bool true]) ∧ Grew w w' := by
  obtain ⟨A, cap, rfl, hc⟩ := hx.1.len
  have HLL := Lib.hid hl
  have HX := Lib.hid hx
  have HS := Lib.hid hs
  have hil : L.length - 1 - k < L.length := by omega
  have HR : Hid (∀ h, L[L.length - 1 - k]'h = r) := fun h => Option.some.inj ((List.getElem?_eq_getElem h).symm.trans hr)
  have HIL := Lib.hid hil
  clear hr hx hil hs
  generalize hn : L.length = n at hl hc hk HX ⊢
  have h1 : ¬ n ≤ k := by omega
  have HN := Lib.hid hn
  clear hn
  go_enter Try.func42, Try.ntmps42
  go_wp2_with fail
  generalize hw0 : (w.alloc _).alloc _ = w0
  have hbw : Below w.heap.size w w0 := by rw [← hw0]; (repeat (first | (with_reducible exact Below.refl _ _) | (with_reducible assumption) | (with_reducible refine Below.grow ?_ ?_ _ _) | (with_reducible refine Below.drewN' ?_ _) | (with_reducible refine Below.drew ?_) | (with_reducible refine Below.alloc ?_ ?_ _) | (with_reducible refine Below.setCell ?_ ?_ _) | omega | (focus (simp; done)) | (focus (simp; omega))))
  have hB1 : Blk w0 w.heap.size 38 #[.slice A n cap, .int .i64 c] := by rw [← hw0]; exact (Blk.new _ _ _).alloc _
  have hB2 : Blk w0 (w.heap.size + 1) 24 #[.slice none 0 0, .bool false, .int .i64 0, .bool false] := by rw [← hw0]; exact Blk.new_at (by simp)
  clear hw0
  refine (sane10_c (.slice A n cap) c L _ (HX.out.below hbw) HLL.out).mono ?_
  rw [HS.out]
  rintro e w1 ⟨rfl, hg⟩
  replace hg := hg.below
  replace hbw := hbw.trans (hg.mono hbw.size)
  have hB1' := hB1.below hg hB1.lt
  have hB2' := hB2.below hg hB2.lt
  obtain ⟨r0, r1, rf, rl⟩ := hB1'.facts2; obtain ⟨z0, z1, z2, z3, zf, zl⟩ := hB2'.facts4
  clear hB1 hB2 hB1' hB2' hg
  obtain ⟨b, o, rfl, hb, hat, hok⟩ := (HX.out.below hbw).at_ HIL.out
  rw [HR.out _, HN.out] at hat
  obtain ⟨p0, p1, p2, p3⟩ := hat
  clear hok
  go_wp2_with fail
  (refine bodyPost_ret (v := _) (by simp [results, Try.results42, go_sem, *]; try exact rfl) rfl ⟨?_, (Below.toGrow (by repeat (first | (with_reducible exact Below.refl _ _) | (with_reducible assumption) | (with_reducible refine Below.grow ?_ ?_ _ _) | (with_reducible refine Below.drewN' ?_ _) | (with_reducible refine Below.drew ?_) | (with_reducible refine Below.alloc ?_ ?_ _) | (with_reducible refine Below.setCell ?_ ?_ _) | omega | (focus (simp; done)) | (focus (simp; omega)))))⟩; exact rfl)
set_option maxRecDepth 100000 in
set_option maxHeartbeats 2000000 in
theorem at10_no (x : Value) (c k : Int) (L : List Rw) (w : World) (hx : RdR w x L) (hl : L.length ≤ 5000) (h : ¬ (hsaneB L c = true ∧ 0 ≤ k ∧ k < L.length)) :
    Calls Try.prog 42 #[.agg #[x, .int .i64 c], .int .i64 k] w fun e w' => e = .returned (.tuple #[.agg #[.slice none 0 0, .bool false, .int .i64 0, .bool false], .bool false]) ∧ Grew w w' := by
  obtain ⟨A, cap, rfl, hc⟩ := hx.1.len
  have HLL := Lib.hid hl
  have HX := Lib.hid hx
  cases hs : hsaneB L c
  · clear h
    have HS := Lib.hid hs
    generalize hn : L.length = n at hl hc hx HX ⊢
    clear hn hs
    go_enter Try.func42, Try.ntmps42
    go_wp2_with (first | (go_at_call 46; refine (sane10_c (.slice A n cap) c L _ (HX.out.below (by (repeat (first | (with_reducible exact Below.refl _ _) | (with_reducible assumption) | (with_reducible refine Below.grow ?_ ?_ _ _) | (with_reducible refine Below.drewN' ?_ _) | (with_reducible refine Below.drew ?_) | (with_reducible refine Below.alloc ?_ ?_ _) | (with_reducible refine Below.setCell ?_ ?_ _) | omega | (focus (simp; done)) | (focus (simp; omega)))))) HLL.out).mono ?_; rw [HS.out]; rintro e w1 ⟨rfl, X1, d1, rfl⟩))
    (refine bodyPost_ret (v := _) (by (simp [results, Try.results42, go_sem]; exact rfl)) rfl ⟨?_, (Below.toGrow (by repeat (first | (with_reducible exact Below.refl _ _) | (with_reducible assumption) | (with_reducible refine Below.grow ?_ ?_ _ _) | (with_reducible refine Below.drewN' ?_ _) | (with_reducible refine Below.drew ?_) | (with_reducible refine Below.alloc ?_ ?_ _) | (with_reducible refine Below.setCell ?_ ?_ _) | omega | (focus (simp; done)) | (focus (simp; omega)))))⟩; exact rfl)
  · have h1 : k < 0 ∨ (L.length : Int) ≤ k := by
      by_cases h0 : 0 ≤ k
      · right
        have : ¬ k < L.length := fun h2 => h ⟨hs, h0, h2⟩
        omega
      · left; omega
    clear h
    have HS := Lib.hid hs
    generalize hn : L.length = n at hl hc hx HX h1 ⊢
    clear hn hs
    by_cases h0 : k < 0
    · clear h1
      go_enter Try.func42, Try.ntmps42
      go_wp2_with (first | (go_at_call 46; refine (sane10_c (.slice A n cap) c L _ (HX.out.below (by (repeat (first | (with_reducible exact Below.refl _ _) | (with_reducible assumption) | (with_reducible refine Below.grow ?_ ?_ _ _) | (with_reducible refine Below.drewN' ?_ _) | (with_reducible refine Below.drew ?_) | (with_reducible refine Below.alloc ?_ ?_ _) | (with_reducible refine Below.setCell ?_ ?_ _) | omega | (focus (simp; done)) | (focus (simp; omega)))))) HLL.out).mono ?_; rw [HS.out]; rintro e w1 ⟨rfl, X1, d1, rfl⟩))
      (refine bodyPost_ret (v := _) (by (simp [results, Try.results42, go_sem]; exact rfl)) rfl ⟨?_, (Below.toGrow (by repeat (first | (with_reducible exact Below.refl _ _) | (with_reducible assumption) | (with_reducible refine Below.grow ?_ ?_ _ _) | (with_reducible refine Below.drewN' ?_ _) | (with_reducible refine Below.drew ?_) | (with_reducible refine Below.alloc ?_ ?_ _) | (with_reducible refine Below.setCell ?_ ?_ _) | omega | (focus (simp; done)) | (focus (simp; omega)))))⟩; exact rfl)
    · have h2 : (n : Int) ≤ k := h1.resolve_left h0
      clear h1
      go_enter Try.func42, Try.ntmps42
      go_wp2_with (first | (go_at_call 46; refine (sane10_c (.slice A n cap) c L _ (HX.out.below (by (repeat (first | (with_reducible exact Below.refl _ _) | (with_reducible assumption) | (with_reducible refine Below.grow ?_ ?_ _ _) | (with_reducible refine Below.drewN' ?_ _) | (with_reducible refine Below.drew ?_) | (with_reducible refine Below.alloc ?_ ?_ _) | (with_reducible refine Below.setCell ?_ ?_ _) | omega | (focus (simp; done)) | (focus (simp; omega)))))) HLL.out).mono ?_; rw [HS.out]; rintro e w1 ⟨rfl, X1, d1, rfl⟩))
      (refine bodyPost_ret (v := _) (by (simp [results, Try.results42, go_sem]; exact rfl)) rfl ⟨?_, (Below.toGrow (by repeat (first | (with_reducible exact Below.refl _ _) | (with_reducible assumption) | (with_reducible refine Below.grow ?_ ?_ _ _) | (with_reducible refine Below.drewN' ?_ _) | (with_reducible refine Below.drew ?_) | (with_reducible refine Below.alloc ?_ ?_ _) | (with_reducible refine Below.setCell ?_ ?_ _) | omega | (focus (simp; done)) | (focus (simp; omega)))))⟩; exact rfl)
theorem at10_any (x : Value) (c k : Int) (L : List Rw) (w : World) (hx : RdR w x L) (hl : L.length ≤ 5000) :
    Calls Try.prog 42 #[.agg #[x, .int .i64 c], .int .i64 k] w fun e w' => e = .returned (.tuple #[.agg #[.slice (atR L c k).A (atR L c k).n (atR L c k).cap, .bool (atR L c k).wb, .int .i64 (atR L c k).dir, .bool (atR L c k).ex], .bool (atB L c k)]) ∧ Grew w w' := by
  by_cases h : hsaneB L c = true ∧ 0 ≤ k ∧ k < L.length
  · obtain ⟨h1, h2, h3⟩ := h
    obtain ⟨j, rfl⟩ : ∃ j : Nat, k = j := ⟨k.toNat, by omega⟩
    have hj : j < L.length := by omega
    have hr := List.getElem?_eq_getElem (show L.length - 1 - j < L.length by omega)
    have e1 : atR L c j = L[L.length - 1 - j] := by
      unfold atR
      rw [if_pos ⟨h1, h2, h3⟩, Int.toNat_natCast, hr]
      rfl
    have e2 : atB L c j = true := decide_eq_true ⟨h1, h2, h3⟩
    rw [e1, e2]
    exact at10_yes x c L j _ w hx hl h1 hj hr
  · have e1 : atR L c k = zeroRw := if_neg h
    have e2 : atB L c k = false := decide_eq_false h
    rw [e1, e2]
    exact at10_no x c k L w hx hl h
theorem atR_ok {w : World} {x : Value} {L : List Rw} (c k : Int) (hx : RdR w x L) : (atR L c k).ok w := by
  have hz : zeroRw.ok w := ⟨fun h => absurd h (by simp [zeroRw]), by simp [zeroRw], by simp [zeroRw]⟩
  unfold atR
  split
  · cases h : L[L.length - 1 - k.toNat]? with
    | none => exact hz
    | some r => exact hx.2 r (List.mem_of_getElem? h)
  · exact hz
theorem new10_c (c : Int) (w : World) : Calls Try.prog 47 #[.int .i64 c] w fun e w' => e = .returned (.agg #[.slice none 0 0, .int .i64 (max 0 (min c 200))]) ∧ Grew w w' := by
  have h : c ≤ 0 ∨ (0 < c ∧ c ≤ 200) ∨ 200 < c := by omega
  rcases h with h | ⟨h, h'⟩ | h
  · rw [show max 0 (min c 200) = 0 by omega]
    go_enter Try.func47, Try.ntmps47
    go_wp2_with fail
    (refine bodyPost_ret (v := _) (by (simp [results, Try.results47, go_sem]; exact rfl)) rfl ⟨?_, (Below.toGrow (by repeat (first | (with_reducible exact Below.refl _ _) | (with_reducible assumption) | (with_reducible refine Below.grow ?_ ?_ _ _) | (with_reducible refine Below.drewN' ?_ _) | (with_reducible refine Below.drew ?_) | (with_reducible refine Below.alloc ?_ ?_ _) | (with_reducible refine Below.setCell ?_ ?_ _) | omega | (focus (simp; done)) | (focus (simp; omega)))))⟩; exact rfl)
  · rw [show max 0 (min c 200) = c by omega]
    go_enter Try.func47, Try.ntmps47
    go_wp2_with fail
    (refine bodyPost_ret (v := _) (by (simp [results, Try.results47, go_sem]; exact rfl)) rfl ⟨?_, (Below.toGrow (by repeat (first | (with_reducible exact Below.refl _ _) | (with_reducible assumption) | (with_reducible refine Below.grow ?_ ?_ _ _) | (with_reducible refine Below.drewN' ?_ _) | (with_reducible refine Below.drew ?_) | (with_reducible refine Below.alloc ?_ ?_ _) | (with_reducible refine Below.setCell ?_ ?_ _) | omega | (focus (simp; done)) | (focus (simp; omega)))))⟩; exact rfl)
  · rw [show max 0 (min c 200) = 200 by omega]
    go_enter Try.func47, Try.ntmps47
    go_wp2_with fail
    (refine bodyPost_ret (v := _) (by (simp [results, Try.results47, go_sem]; exact rfl)) rfl ⟨?_, (Below.toGrow (by repeat (first | (with_reducible exact Below.refl _ _) | (with_reducible assumption) | (with_reducible refine Below.grow ?_ ?_ _ _) | (with_reducible refine Below.drewN' ?_ _) | (with_reducible refine Below.drew ?_) | (with_reducible refine Below.alloc ?_ ?_ _) | (with_reducible refine Below.setCell ?_ ?_ _) | omega | (focus (simp; done)) | (focus (simp; omega)))))⟩; exact rfl)
end Go.Proofs.Ytpnadnjcacaibaa.Row
