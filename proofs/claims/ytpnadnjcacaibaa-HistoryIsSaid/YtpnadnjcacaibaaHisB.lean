/- Take, Push, Window, Cells of history where nothing may be kept; the document's Take, Window, Cells. -/
import Derived.Test.YtpnadnjcacaibaaHisA
namespace Go.Proofs.Ytpnadnjcacaibaa.Row
open Go.RowKit
attribute [local go_sem] Nat.add_pos_iff_pos_or_pos lt_add_r' le_add_r'
set_option maxRecDepth 100000 in
set_option maxHeartbeats 2000000 in
theorem take_no (x : Value) (c k : Int) (L : List Rw) (w : World) (hx : RdR w x L) (hl : L.length ≤ 5000) (hs : hsaneB L c = false) :
    Calls Try.prog 29 #[.agg #[x, .int .i64 c], .int .i64 k] w fun e w' => e = .returned (.tuple #[.agg #[.slice none 0 0, .int .i64 0], .slice none 0 0]) ∧ Grew w w' := by
  obtain ⟨A, cap, rfl, hc⟩ := hx.1.len; have HLL := Lib.hid hl; have HX := Lib.hid hx; have HS := Lib.hid hs; generalize L.length = n at hl hc hx HX ⊢
  go_enter Try.func29, Try.ntmps29
  go_wp2_with (first | (go_at_call 21; refine (hsane_c (.slice A n cap) c L _ (HX.out.below (by (repeat (first | (with_reducible exact Below.refl _ _) | (with_reducible assumption) | (with_reducible refine Below.grow ?_ ?_ _ _) | (with_reducible refine Below.drewN' ?_ _) | (with_reducible refine Below.drew ?_) | (with_reducible refine Below.alloc ?_ ?_ _) | (with_reducible refine Below.setCell ?_ ?_ _) | omega | (focus (simp; done)) | (focus (simp; omega)))))) HLL.out).mono ?_; rw [HS.out]; rintro e w1 ⟨rfl, X1, d1, rfl⟩))
  (refine bodyPost_ret (v := _) (by (simp [results, Try.results29, go_sem]; exact rfl)) rfl ⟨?_, (Below.toGrow (by repeat (first | (with_reducible exact Below.refl _ _) | (with_reducible assumption) | (with_reducible refine Below.grow ?_ ?_ _ _) | (with_reducible refine Below.drewN' ?_ _) | (with_reducible refine Below.drew ?_) | (with_reducible refine Below.alloc ?_ ?_ _) | (with_reducible refine Below.setCell ?_ ?_ _) | omega | (focus (simp; done)) | (focus (simp; omega)))))⟩; exact rfl)
set_option maxRecDepth 100000 in
set_option maxHeartbeats 2000000 in
theorem take10_no (x : Value) (c k : Int) (L : List Rw) (w : World) (hx : RdR w x L) (hl : L.length ≤ 5000) (hs : hsaneB L c = false) :
    Calls Try.prog 41 #[.agg #[x, .int .i64 c], .int .i64 k] w fun e w' => e = .returned (.tuple #[.agg #[.slice none 0 0, .int .i64 0], .slice none 0 0]) ∧ Grew w w' := by
  obtain ⟨A, cap, rfl, hc⟩ := hx.1.len; have HLL := Lib.hid hl; have HX := Lib.hid hx; have HS := Lib.hid hs; generalize L.length = n at hl hc hx HX ⊢
  go_enter Try.func41, Try.ntmps41
  go_wp2_with (first | (go_at_call 46; refine (sane10_c (.slice A n cap) c L _ (HX.out.below (by (repeat (first | (with_reducible exact Below.refl _ _) | (with_reducible assumption) | (with_reducible refine Below.grow ?_ ?_ _ _) | (with_reducible refine Below.drewN' ?_ _) | (with_reducible refine Below.drew ?_) | (with_reducible refine Below.alloc ?_ ?_ _) | (with_reducible refine Below.setCell ?_ ?_ _) | omega | (focus (simp; done)) | (focus (simp; omega)))))) HLL.out).mono ?_; rw [HS.out]; rintro e w1 ⟨rfl, X1, d1, rfl⟩))
  (refine bodyPost_ret (v := _) (by (simp [results, Try.results41, go_sem]; exact rfl)) rfl ⟨?_, (Below.toGrow (by repeat (first | (with_reducible exact Below.refl _ _) | (with_reducible assumption) | (with_reducible refine Below.grow ?_ ?_ _ _) | (with_reducible refine Below.drewN' ?_ _) | (with_reducible refine Below.drew ?_) | (with_reducible refine Below.alloc ?_ ?_ _) | (with_reducible refine Below.setCell ?_ ?_ _) | omega | (focus (simp; done)) | (focus (simp; omega)))))⟩; exact rfl)
set_option maxRecDepth 100000 in
set_option maxHeartbeats 2000000 in
theorem push_no (x y : Value) (c : Int) (L : List Rw) (w : World) (hx : RdR w x L) (hl : L.length ≤ 5000) (hs : hsaneB L c = false) :
    Calls Try.prog 23 #[.agg #[x, .int .i64 c], y] w fun e w' => e = .returned (.agg #[.slice none 0 0, .int .i64 0]) ∧ Grew w w' := by
  obtain ⟨A, cap, rfl, hc⟩ := hx.1.len; have HLL := Lib.hid hl; have HX := Lib.hid hx; have HS := Lib.hid hs; generalize L.length = n at hl hc hx HX ⊢
  go_enter Try.func23, Try.ntmps23
  go_wp2_with (first | (go_at_call 21; refine (hsane_c (.slice A n cap) c L _ (HX.out.below (by (repeat (first | (with_reducible exact Below.refl _ _) | (with_reducible assumption) | (with_reducible refine Below.grow ?_ ?_ _ _) | (with_reducible refine Below.drewN' ?_ _) | (with_reducible refine Below.drew ?_) | (with_reducible refine Below.alloc ?_ ?_ _) | (with_reducible refine Below.setCell ?_ ?_ _) | omega | (focus (simp; done)) | (focus (simp; omega)))))) HLL.out).mono ?_; rw [HS.out]; rintro e w1 ⟨rfl, X1, d1, rfl⟩))
  (refine bodyPost_ret (v := _) (by (simp [results, Try.results23, go_sem]; exact rfl)) rfl ⟨?_, (Below.toGrow (by repeat (first | (with_reducible exact Below.refl _ _) | (with_reducible assumption) | (with_reducible refine Below.grow ?_ ?_ _ _) | (with_reducible refine Below.drewN' ?_ _) | (with_reducible refine Below.drew ?_) | (with_reducible refine Below.alloc ?_ ?_ _) | (with_reducible refine Below.setCell ?_ ?_ _) | omega | (focus (simp; done)) | (focus (simp; omega)))))⟩; exact rfl)
set_option maxRecDepth 100000 in
set_option maxHeartbeats 2000000 in
theorem push10_no (x y : Value) (c : Int) (L : List Rw) (w : World) (hx : RdR w x L) (hl : L.length ≤ 5000) (hs : hsaneB L c = false) :
    Calls Try.prog 43 #[.agg #[x, .int .i64 c], y] w fun e w' => e = .returned (.agg #[.slice none 0 0, .int .i64 0]) ∧ Grew w w' := by
  obtain ⟨A, cap, rfl, hc⟩ := hx.1.len; have HLL := Lib.hid hl; have HX := Lib.hid hx; have HS := Lib.hid hs; generalize L.length = n at hl hc hx HX ⊢
  go_enter Try.func43, Try.ntmps43
  go_wp2_with (first | (go_at_call 46; refine (sane10_c (.slice A n cap) c L _ (HX.out.below (by (repeat (first | (with_reducible exact Below.refl _ _) | (with_reducible assumption) | (with_reducible refine Below.grow ?_ ?_ _ _) | (with_reducible refine Below.drewN' ?_ _) | (with_reducible refine Below.drew ?_) | (with_reducible refine Below.alloc ?_ ?_ _) | (with_reducible refine Below.setCell ?_ ?_ _) | omega | (focus (simp; done)) | (focus (simp; omega)))))) HLL.out).mono ?_; rw [HS.out]; rintro e w1 ⟨rfl, X1, d1, rfl⟩))
  (refine bodyPost_ret (v := _) (by (simp [results, Try.results43, go_sem]; exact rfl)) rfl ⟨?_, (Below.toGrow (by repeat (first | (with_reducible exact Below.refl _ _) | (with_reducible assumption) | (with_reducible refine Below.grow ?_ ?_ _ _) | (with_reducible refine Below.drewN' ?_ _) | (with_reducible refine Below.drew ?_) | (with_reducible refine Below.alloc ?_ ?_ _) | (with_reducible refine Below.setCell ?_ ?_ _) | omega | (focus (simp; done)) | (focus (simp; omega)))))⟩; exact rfl)
set_option maxRecDepth 100000 in
set_option maxHeartbeats 2000000 in
theorem cells_no (x : Value) (c : Int) (L : List Rw) (w : World) (hx : RdR w x L) (hl : L.length ≤ 5000) (hs : hsaneB L c = false) :
    Calls Try.prog 27 #[.agg #[x, .int .i64 c]] w fun e w' => e = .returned (.int .i64 0) ∧ Grew w w' := by
  obtain ⟨A, cap, rfl, hc⟩ := hx.1.len; have HLL := Lib.hid hl; have HX := Lib.hid hx; have HS := Lib.hid hs; generalize L.length = n at hl hc hx HX ⊢
  go_enter Try.func27, Try.ntmps27
  go_wp2_with (first | (go_at_call 21; refine (hsane_c (.slice A n cap) c L _ (HX.out.below (by (repeat (first | (with_reducible exact Below.refl _ _) | (with_reducible assumption) | (with_reducible refine Below.grow ?_ ?_ _ _) | (with_reducible refine Below.drewN' ?_ _) | (with_reducible refine Below.drew ?_) | (with_reducible refine Below.alloc ?_ ?_ _) | (with_reducible refine Below.setCell ?_ ?_ _) | omega | (focus (simp; done)) | (focus (simp; omega)))))) HLL.out).mono ?_; rw [HS.out]; rintro e w1 ⟨rfl, X1, d1, rfl⟩))
  go_ret
  exact ⟨rfl, (Below.toGrow (by repeat (first | (with_reducible exact Below.refl _ _) | (with_reducible assumption) | (with_reducible refine Below.grow ?_ ?_ _ _) | (with_reducible refine Below.drewN' ?_ _) | (with_reducible refine Below.drew ?_) | (with_reducible refine Below.alloc ?_ ?_ _) | (with_reducible refine Below.setCell ?_ ?_ _) | omega | (focus (simp; done)) | (focus (simp; omega)))))⟩
set_option maxRecDepth 100000 in
set_option maxHeartbeats 2000000 in
theorem window_no (x y : Value) (c k : Int) (L G : List Rw) (w : World) (hx : RdR w x L) (hy : RdR w y G) (hl : L.length ≤ 5000) (hm : G.length ≤ 5000) (h : ¬ (hsaneB L c = true ∧ gsaneB G = true)) :
    Calls Try.prog 35 #[.agg #[x, .int .i64 c], .agg #[y], .int .i64 k] w fun e w' => e = .returned (.slice none 0 0) ∧ Grew w w' := by
  cases hs : hsaneB L c
  · clear h
    obtain ⟨A, cap, rfl, hc⟩ := hx.1.len; have HLL := Lib.hid hl; have HX := Lib.hid hx; have HS := Lib.hid hs; generalize L.length = n at hl hc hx HX ⊢
    obtain ⟨A2, cap2, rfl, hc2⟩ := hy.1.len
    go_enter Try.func35, Try.ntmps35
    go_wp2_with (first | (go_at_call 21; refine (hsane_c (.slice A n cap) c L _ (HX.out.below (by (repeat (first | (with_reducible exact Below.refl _ _) | (with_reducible assumption) | (with_reducible refine Below.grow ?_ ?_ _ _) | (with_reducible refine Below.drewN' ?_ _) | (with_reducible refine Below.drew ?_) | (with_reducible refine Below.alloc ?_ ?_ _) | (with_reducible refine Below.setCell ?_ ?_ _) | omega | (focus (simp; done)) | (focus (simp; omega)))))) HLL.out).mono ?_; rw [HS.out]; rintro e w1 ⟨rfl, X1, d1, rfl⟩))
    go_ret
    exact ⟨rfl, (Below.toGrow (by repeat (first | (with_reducible exact Below.refl _ _) | (with_reducible assumption) | (with_reducible refine Below.grow ?_ ?_ _ _) | (with_reducible refine Below.drewN' ?_ _) | (with_reducible refine Below.drew ?_) | (with_reducible refine Below.alloc ?_ ?_ _) | (with_reducible refine Below.setCell ?_ ?_ _) | omega | (focus (simp; done)) | (focus (simp; omega)))))⟩
  · have hg : gsaneB G = false := by simpa [hs] using h
    clear h
    obtain ⟨A, cap, rfl, hc⟩ := hx.1.len; have HLL := Lib.hid hl; have HX := Lib.hid hx; have HS := Lib.hid hs; generalize L.length = n at hl hc hx HX ⊢
    obtain ⟨A2, cap2, rfl, hc2⟩ := hy.1.len; have HLM := Lib.hid hm; have HY := Lib.hid hy; have HG := Lib.hid hg; generalize G.length = n2 at hm hc2 hy HY ⊢
    go_enter Try.func35, Try.ntmps35
    go_wp2_with (first | (go_at_call 21; refine (hsane_c (.slice A n cap) c L _ (HX.out.below (by (repeat (first | (with_reducible exact Below.refl _ _) | (with_reducible assumption) | (with_reducible refine Below.grow ?_ ?_ _ _) | (with_reducible refine Below.drewN' ?_ _) | (with_reducible refine Below.drew ?_) | (with_reducible refine Below.alloc ?_ ?_ _) | (with_reducible refine Below.setCell ?_ ?_ _) | omega | (focus (simp; done)) | (focus (simp; omega)))))) HLL.out).mono ?_; rw [HS.out]; rintro e w1 ⟨rfl, X1, d1, rfl⟩) | (go_at_call 38; refine (gsane_c (.slice A2 n2 cap2) G _ (HY.out.below (by (repeat (first | (with_reducible exact Below.refl _ _) | (with_reducible assumption) | (with_reducible refine Below.grow ?_ ?_ _ _) | (with_reducible refine Below.drewN' ?_ _) | (with_reducible refine Below.drew ?_) | (with_reducible refine Below.alloc ?_ ?_ _) | (with_reducible refine Below.setCell ?_ ?_ _) | omega | (focus (simp; done)) | (focus (simp; omega)))))) HLM.out).mono ?_; rw [HG.out]; rintro e w1 ⟨rfl, XG, dG, rfl⟩))
    go_ret
    exact ⟨rfl, (Below.toGrow (by repeat (first | (with_reducible exact Below.refl _ _) | (with_reducible assumption) | (with_reducible refine Below.grow ?_ ?_ _ _) | (with_reducible refine Below.drewN' ?_ _) | (with_reducible refine Below.drew ?_) | (with_reducible refine Below.alloc ?_ ?_ _) | (with_reducible refine Below.setCell ?_ ?_ _) | omega | (focus (simp; done)) | (focus (simp; omega)))))⟩
set_option maxRecDepth 100000 in
set_option maxHeartbeats 2000000 in
theorem window10_no (x y : Value) (c k : Int) (L G : List Rw) (w : World) (hx : RdR w x L) (hy : RdR w y G) (hl : L.length ≤ 5000) (hm : G.length ≤ 5000) (h : ¬ (hsaneB L c = true ∧ gsaneB G = true)) :
    Calls Try.prog 44 #[.agg #[x, .int .i64 c], .agg #[y], .int .i64 k] w fun e w' => e = .returned (.slice none 0 0) ∧ Grew w w' := by
  cases hs : hsaneB L c
  · clear h
    obtain ⟨A, cap, rfl, hc⟩ := hx.1.len; have HLL := Lib.hid hl; have HX := Lib.hid hx; have HS := Lib.hid hs; generalize L.length = n at hl hc hx HX ⊢
    obtain ⟨A2, cap2, rfl, hc2⟩ := hy.1.len
    go_enter Try.func44, Try.ntmps44
    go_wp2_with (first | (go_at_call 46; refine (sane10_c (.slice A n cap) c L _ (HX.out.below (by (repeat (first | (with_reducible exact Below.refl _ _) | (with_reducible assumption) | (with_reducible refine Below.grow ?_ ?_ _ _) | (with_reducible refine Below.drewN' ?_ _) | (with_reducible refine Below.drew ?_) | (with_reducible refine Below.alloc ?_ ?_ _) | (with_reducible refine Below.setCell ?_ ?_ _) | omega | (focus (simp; done)) | (focus (simp; omega)))))) HLL.out).mono ?_; rw [HS.out]; rintro e w1 ⟨rfl, X1, d1, rfl⟩))
    go_ret
    exact ⟨rfl, (Below.toGrow (by repeat (first | (with_reducible exact Below.refl _ _) | (with_reducible assumption) | (with_reducible refine Below.grow ?_ ?_ _ _) | (with_reducible refine Below.drewN' ?_ _) | (with_reducible refine Below.drew ?_) | (with_reducible refine Below.alloc ?_ ?_ _) | (with_reducible refine Below.setCell ?_ ?_ _) | omega | (focus (simp; done)) | (focus (simp; omega)))))⟩
  · have hg : gsaneB G = false := by simpa [hs] using h
    clear h
    obtain ⟨A, cap, rfl, hc⟩ := hx.1.len; have HLL := Lib.hid hl; have HX := Lib.hid hx; have HS := Lib.hid hs; generalize L.length = n at hl hc hx HX ⊢
    obtain ⟨A2, cap2, rfl, hc2⟩ := hy.1.len; have HLM := Lib.hid hm; have HY := Lib.hid hy; have HG := Lib.hid hg; generalize G.length = n2 at hm hc2 hy HY ⊢
    go_enter Try.func44, Try.ntmps44
    go_wp2_with (first | (go_at_call 46; refine (sane10_c (.slice A n cap) c L _ (HX.out.below (by (repeat (first | (with_reducible exact Below.refl _ _) | (with_reducible assumption) | (with_reducible refine Below.grow ?_ ?_ _ _) | (with_reducible refine Below.drewN' ?_ _) | (with_reducible refine Below.drew ?_) | (with_reducible refine Below.alloc ?_ ?_ _) | (with_reducible refine Below.setCell ?_ ?_ _) | omega | (focus (simp; done)) | (focus (simp; omega)))))) HLL.out).mono ?_; rw [HS.out]; rintro e w1 ⟨rfl, X1, d1, rfl⟩) | (go_at_call 34; refine (gsane9_c (.slice A2 n2 cap2) G _ (HY.out.below (by (repeat (first | (with_reducible exact Below.refl _ _) | (with_reducible assumption) | (with_reducible refine Below.grow ?_ ?_ _ _) | (with_reducible refine Below.drewN' ?_ _) | (with_reducible refine Below.drew ?_) | (with_reducible refine Below.alloc ?_ ?_ _) | (with_reducible refine Below.setCell ?_ ?_ _) | omega | (focus (simp; done)) | (focus (simp; omega)))))) HLM.out).mono ?_; rw [HG.out]; rintro e w1 ⟨rfl, XG, dG, rfl⟩))
    go_ret
    exact ⟨rfl, (Below.toGrow (by repeat (first | (with_reducible exact Below.refl _ _) | (with_reducible assumption) | (with_reducible refine Below.grow ?_ ?_ _ _) | (with_reducible refine Below.drewN' ?_ _) | (with_reducible refine Below.drew ?_) | (with_reducible refine Below.alloc ?_ ?_ _) | (with_reducible refine Below.setCell ?_ ?_ _) | omega | (focus (simp; done)) | (focus (simp; omega)))))⟩
end Go.Proofs.Ytpnadnjcacaibaa.Row
