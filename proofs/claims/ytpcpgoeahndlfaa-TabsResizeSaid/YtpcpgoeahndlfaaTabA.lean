/- Tab stops: width, New, Sane, the seeks of Next and Prev. -/
import Derived.Test.YtpcpgoeahndlfaaTabI
import Derived.Deep.CutRange
namespace Go.Proofs.Ytpcpgoeahndlfaa.Tab
open Go.RowKit
/-- k numbers from a on, 8 apart -/
def eights (a : Int) (k : Nat) : List Int := (List.range k).map (fun i => a + 8 * ((i : Nat) : Int))
theorem eights_len (a : Int) (k : Nat) : (eights a k).length = k := by simp [eights]
theorem eights_succ (a : Int) (k : Nat) : eights a (k + 1) = eights a k ++ [a + 8 * (k : Int)] := by simp [eights, List.range_succ]
/-- each greater than the one ahead, the first than p, all less than W -/
def okL (p W : Int) : List Int → Bool
  | [] => true
  | x :: l => decide (p < x ∧ x < W) && okL x W l
def tsaneB (W : Int) (zs : List Int) : Bool := decide (1 ≤ W ∧ W ≤ 4096) && okL (-1) W zs
theorem eint {a b : Int} (h : a = b) : Ending.returned (.int .i64 a) = .returned (.int .i64 b) := by rw [h]

theorem Blk.setOther {w : World} {g : Nat} {t : TypeId} {cs : Array Value} (h : Blk w g t cs) (p : Addr) (u : Value) (hp : g ≠ p.block) : Blk (w.setCell p u) g t cs := (Below.heap_setCell w p u g (fun e => hp e)).trans h
theorem OwnI.setOther {w : World} {base e g i : Nat} {v : Value} {zs : List Int} {t : TypeId} {cs : Array Value} {u : Value} (h : OwnI w base e v zs) (hB : Blk w g t cs) (hne : e ≠ t) : OwnI (w.setCell ⟨g, i, none⟩ u) base e v zs :=
  h.of fun g' hg' => Below.heap_setCell w ⟨g, i, none⟩ u g' (fun e' => h.ne_ hB hne (by rw [hg']; exact congrArg some e'.symm))
theorem own_push {a wr w3 : World} {B base e : Nat} {x : Value} {zs : List Int} (hb : Below B a wr) (hB : B ≤ base) (hx : OwnI wr base e x zs) (o : Obj) (hgb : (wr.alloc o).grownBy w3 x.ownBlock) (hl : base ≤ wr.heap.size) :
    base ≤ w3.heap.size ∧ Below B a w3 ∧ ∀ g t cs, Blk wr g t cs → e ≠ t → Blk w3 g t cs :=
  ⟨(by have := hgb.size; rw [World.size_alloc] at this; omega), below_own (hb.alloc (by omega) o) hgb (fun g hg => by have := (hx.lt hg).1; omega) (by rw [World.size_alloc]; omega), fun g t cs h hne => (h.alloc o).gb hgb ((ownI_alloc hx o).ne_ (h.alloc o) hne)⟩

theorem width_c (v : Int) (w : World) : Calls Try.prog 28 #[.int .i64 v] w fun e w' => e = .returned (.int .i64 (max 1 (min v 4096))) ∧ w = w' := by
  go_enter Try.func28, Try.ntmps28
  go_wp2
  all_goals (go_ret; refine ⟨eint ?_, rfl⟩)
  all_goals omega
set_option maxRecDepth 100000 in
set_option maxHeartbeats 2000000 in
theorem new_c (v W : Int) (w : World) (hW : max 1 (min v 4096) = W) : Calls Try.prog 25 #[.int .i64 v] w fun e w' =>
    ∃ x k, e = .returned (.agg #[x, .int .i64 W]) ∧ Below w.heap.size w w' ∧ RdI w' x (eights 8 k) ∧ W ≤ 8 + 8 * (k : Int) ∧ (k = 0 ∨ 8 * (k : Int) < W) := by
  obtain ⟨i3, hi3, hz3, hs3, hb3⟩ := info_parts int_info
  have HI3 := Lib.hid hi3
  have HZ3 := Lib.hid hz3
  have HS3 := Lib.hid hs3
  have HB3 := Lib.hid hb3
  clear hi3 hz3 hs3 hb3
  have hW1 : 1 ≤ W ∧ W ≤ 4096 := by omega
  go_enter Try.func25, Try.ntmps25
  go_upto_region 3 with (go_at_call 28; refine (width_c _ _).mono ?_; rintro e w1 ⟨rfl, rfl⟩)
  try rw [hW]
  clear hW
  generalize hw0 : World.alloc _ _ = w0
  have hb0 : Below w.heap.size w w0 := by rw [← hw0]; (repeat (first | (with_reducible exact Below.refl _ _) | (with_reducible assumption) | (with_reducible refine Below.grow ?_ ?_ _ _) | (with_reducible refine Below.drewN' ?_ _) | (with_reducible refine Below.drew ?_) | (with_reducible refine Below.alloc ?_ ?_ _) | (with_reducible refine Below.setCell ?_ ?_ _) | omega | (focus (simp; done)) | (focus (simp; omega))))
  have hR0 : Blk w0 w.heap.size 27 #[.slice none 0 0, .int .i64 0] := by rw [← hw0]; exact Blk.alloc (Blk.new _ _ _) _
  have hB0 : Blk w0 (w.heap.size + 1) 27 #[.slice none 0 0, .int .i64 W] := by rw [← hw0]; exact Blk.new_at (by simp)
  have hs0 : w0.heap.size = w.heap.size + 2 := by rw [← hw0]; simp
  clear hw0
  go_wp2_with fail
  go_loopw [4] (fun i wz => ∃ (k : Nat) (x : Value), i = .int .i64 (8 + 8 * (k : Int)) ∧ Below w.heap.size w wz ∧ Blk wz w.heap.size 27 #[.slice none 0 0, .int .i64 0] ∧ Blk wz (w.heap.size + 1) 27 #[x, .int .i64 W] ∧ OwnI wz (w.heap.size + 2) 3 x (eights 8 k) ∧ (k = 0 ∨ 8 * (k : Int) < W) ∧ w.heap.size + 2 ≤ wz.heap.size) (fun i _ => 5000 - (intOf i).toNat)
  case atStart => exact ⟨0, _, rfl, hb0, hR0, hB0, OwnI.nil _ _ _, .inl rfl, by omega⟩
  case round =>
    obtain ⟨k, x, rfl, hb, hR, hB, hx, hk, hz⟩ := hrel
    obtain ⟨r0, r1, rf, rl⟩ := hB.facts2
    obtain ⟨Ax, cx, rfl, -⟩ := id hx.rd
    by_cases hlt : 8 + 8 * (k : Int) < W
    · have hs := hb.size
      have HLA : Hid ((eights 8 k).length + [8 + 8 * (k : Int)].length ≤ 65536) := by show _ ≤ _; rw [eights_len]; simp only [List.length_cons, List.length_nil]; omega
      have HLE : Hid (w.heap.size + 2 ≤ wr.heap.size) := by show _ ≤ _; omega
      have hne : 3 ≠ 27 := by decide
      have HLD : Hid (w.heap.size + 2 ≤ (wr.alloc (.cells #[.int .i64 (8 + 8 * (k : Int))] 3)).heap.size) := by show _ ≤ _; rw [World.size_alloc]; omega
      go_wp2_with (at_builtin; go_loud (refine wpList_append_ints rfl _ _ _ rfl (w.heap.size + 2) 3 i3 rfl HI3.out HZ3.out HS3.out HB3.out _ _ (eights 8 k) [8 + 8 * (k : Int)] rfl rfl (ownI_alloc hx _) (rdI_one _ _ _ _ (by simp)) HLA.out HLD.out ?_; intro v1 w3 hv1 hgb hor; rw [← eights_succ] at hv1; obtain ⟨hz3, hb3, hk3⟩ := own_push hb (Nat.le_add_right _ _) hx _ hgb HLE.out; have hB3 := hk3 _ _ _ hB hne; have hR3 := hk3 _ _ _ hR hne; clear r0 r1 rf rl hgb hor; obtain ⟨A1, c1, rfl, -⟩ := id hv1.rd; obtain ⟨r0, r1, rf, rl⟩ := hB3.facts2))
      go_roundw
      case rel => exact ⟨k + 1, _, by go_num, by (repeat (first | (with_reducible exact Below.refl _ _) | (with_reducible assumption) | (with_reducible refine Below.grow ?_ ?_ _ _) | (with_reducible refine Below.drewN' ?_ _) | (with_reducible refine Below.drew ?_) | (with_reducible refine Below.alloc ?_ ?_ _) | (with_reducible refine Below.setCell ?_ ?_ _) | omega | (focus (simp; done)) | (focus (simp; omega)))), Blk.setOther hR3 _ _ (by simp), hB3.set_ 0 _, OwnI.setOther hv1 hB3 hne, .inr (by omega), by simpa [World.setCell] using hz3⟩
      case measure => simp [intOf]; omega
    · obtain ⟨q0, q1, qf, ql⟩ := hR.facts2
      go_wp2_with fail
      refine bodyPost_ret (v := .agg #[.slice Ax (eights 8 k).length cx, .int .i64 W]) (by simp [results, Try.results25, go_sem, q0, q1]) rfl ?_
      have hrd := (OwnI.setOther (i := 1) (u := .int .i64 W) (OwnI.setOther (i := 0) (u := .slice Ax (eights 8 k).length cx) hx hR (by decide)) (hR.set_ 0 _) (by decide)).rd
      exact ⟨_, rfl, by (repeat (first | (with_reducible exact Below.refl _ _) | (with_reducible assumption) | (with_reducible refine Below.grow ?_ ?_ _ _) | (with_reducible refine Below.drewN' ?_ _) | (with_reducible refine Below.drew ?_) | (with_reducible refine Below.alloc ?_ ?_ _) | (with_reducible refine Below.setCell ?_ ?_ _) | omega | (focus (simp; done)) | (focus (simp; omega)))), k, hrd, by omega, hk⟩
theorem drop_cons {zs : List Int} {j : Nat} (hj : j < zs.length) : zs.drop j = zs[j] :: zs.drop (j + 1) := List.drop_eq_getElem_cons hj
set_option maxRecDepth 100000 in
set_option maxHeartbeats 2000000 in
theorem sane_c (x : Value) (W : Int) (zs : List Int) (w : World) (hx : RdI w x zs) (hn : zs.length ≤ 65536) : Calls Try.prog 9 #[.agg #[x, .int .i64 W]] w fun e w' => e = .returned (.bool (tsaneB W zs)) ∧ Below w.heap.size w w' := by
  obtain ⟨A, c, rfl, hx⟩ := hx
  by_cases hW : 1 ≤ W ∧ W ≤ 4096
  · have HS : Hid (tsaneB W zs = okL (-1) W (zs.drop 0)) := by show _ = _; unfold tsaneB; rw [decide_eq_true hW]; rfl
    obtain ⟨S, hS⟩ : ∃ S, S = tsaneB W zs := ⟨_, rfl⟩
    rw [← hS] at HS ⊢
    clear hS
    have h1 : ¬ W < 1 := by omega
    have h2 : ¬ W > 4096 := by omega
    have HD : Hid (∀ j (h : j < zs.length), zs.drop j = zs[j] :: zs.drop (j + 1) ∧ zs[j]? = some zs[j]) := fun j h => ⟨drop_cons h, List.getElem?_eq_getElem h⟩
    have HE : Hid (zs.drop zs.length = []) := List.drop_length
    go_enter Try.func9, Try.ntmps9
    go_upto_region 5 with fail
    generalize hw0 : World.alloc _ _ = w0
    have hb0 : Below w.heap.size w w0 := by rw [← hw0]; (repeat (first | (with_reducible exact Below.refl _ _) | (with_reducible assumption) | (with_reducible refine Below.grow ?_ ?_ _ _) | (with_reducible refine Below.drewN' ?_ _) | (with_reducible refine Below.drew ?_) | (with_reducible refine Below.alloc ?_ ?_ _) | (with_reducible refine Below.setCell ?_ ?_ _) | omega | (focus (simp; done)) | (focus (simp; omega))))
    have hB0 : Blk w0 w.heap.size 27 #[.slice A zs.length c, .int .i64 W] := by rw [← hw0]; exact Blk.new _ _ _
    have hc0 : 0 < zs.length → ∃ b o, A = some ⟨b, o, none⟩ ∧ b < w.heap.size ∧ ∀ (j : Nat) (z : Int), zs[j]? = some z → w0.cell? ⟨b, o + j, none⟩ = some (.int .i64 z) := fun h => by
      obtain ⟨b, o, rfl, hlt, hc⟩ := hx h
      exact ⟨b, o, rfl, hlt, fun j z hz => (hb0.cell (p := ⟨b, o + j, none⟩) hlt).trans (hc j z hz)⟩
    clear hw0 hx
    obtain ⟨r0, r1, rf, rl⟩ := hB0.facts2
    go_wp2_with fail
    go_loopw [3, 17] (fun p i wz => ∃ (j : Nat) (a : Int), j ≤ zs.length ∧ i = .int .i64 j ∧ p = .int .i64 a ∧ Hid (S = okL a W (zs.drop j)) ∧ wz = w0) (fun _ i _ => zs.length - (intOf i).toNat)
    case atStart => exact ⟨0, -1, Nat.zero_le _, rfl, rfl, HS, rfl⟩
    case round =>
      obtain ⟨j, a, hj, rfl, rfl, HO, rfl⟩ := hrel
      by_cases hlt : j < zs.length
      · have hltI : (j : Int) < zs.length := by omega
        obtain ⟨b, o, rfl, hbl, hc⟩ := hc0 (by omega)
        obtain ⟨hd, hz⟩ := HD.out j hlt
        have c0 := hc j _ hz
        have hok := HO.out
        rw [hd] at hok
        unfold okL at hok
        generalize zs[j] = z at c0 hok
        clear hc hd hz HO
        by_cases hz1 : z ≤ a
        · rw [decide_eq_false (by omega), Bool.false_and] at hok
          subst hok
          go_wp2_with fail
          go_ret
          exact ⟨rfl, by (repeat (first | (with_reducible exact Below.refl _ _) | (with_reducible assumption) | (with_reducible refine Below.grow ?_ ?_ _ _) | (with_reducible refine Below.drewN' ?_ _) | (with_reducible refine Below.drew ?_) | (with_reducible refine Below.alloc ?_ ?_ _) | (with_reducible refine Below.setCell ?_ ?_ _) | omega | (focus (simp; done)) | (focus (simp; omega))))⟩
        · by_cases hz2 : W ≤ z
          · rw [decide_eq_false (by omega), Bool.false_and] at hok
            subst hok
            go_wp2_with fail
            go_ret
            exact ⟨rfl, by (repeat (first | (with_reducible exact Below.refl _ _) | (with_reducible assumption) | (with_reducible refine Below.grow ?_ ?_ _ _) | (with_reducible refine Below.drewN' ?_ _) | (with_reducible refine Below.drew ?_) | (with_reducible refine Below.alloc ?_ ?_ _) | (with_reducible refine Below.setCell ?_ ?_ _) | omega | (focus (simp; done)) | (focus (simp; omega))))⟩
          · rw [decide_eq_true (by omega), Bool.true_and] at hok
            have HOK := Lib.hid hok
            clear hok
            go_wp2_with fail
            go_roundw
            case rel => exact ⟨j + 1, z, by omega, by go_num, rfl, HOK, by first | rfl | exact trivial⟩
            case measure => simp [intOf]; omega
      · obtain rfl : j = zs.length := by omega
        have hS := HO.out
        rw [HE.out] at hS
        subst hS
        go_wp2_with fail
        go_ret
        exact ⟨rfl, by (repeat (first | (with_reducible exact Below.refl _ _) | (with_reducible assumption) | (with_reducible refine Below.grow ?_ ?_ _ _) | (with_reducible refine Below.drewN' ?_ _) | (with_reducible refine Below.drew ?_) | (with_reducible refine Below.alloc ?_ ?_ _) | (with_reducible refine Below.setCell ?_ ?_ _) | omega | (focus (simp; done)) | (focus (simp; omega))))⟩
  · have HS : tsaneB W zs = false := by unfold tsaneB; rw [decide_eq_false hW]; rfl
    rw [HS]
    clear hx HS
    by_cases h1 : W < 1
    · clear hW
      go_enter Try.func9, Try.ntmps9
      go_wp2_with fail
      go_ret
      exact ⟨rfl, by (repeat (first | (with_reducible exact Below.refl _ _) | (with_reducible assumption) | (with_reducible refine Below.grow ?_ ?_ _ _) | (with_reducible refine Below.drewN' ?_ _) | (with_reducible refine Below.drew ?_) | (with_reducible refine Below.alloc ?_ ?_ _) | (with_reducible refine Below.setCell ?_ ?_ _) | omega | (focus (simp; done)) | (focus (simp; omega))))⟩
    · have h2 : 4096 < W := by omega
      clear hW
      go_enter Try.func9, Try.ntmps9
      go_wp2_with fail
      go_ret
      exact ⟨rfl, by (repeat (first | (with_reducible exact Below.refl _ _) | (with_reducible assumption) | (with_reducible refine Below.grow ?_ ?_ _ _) | (with_reducible refine Below.drewN' ?_ _) | (with_reducible refine Below.drew ?_) | (with_reducible refine Below.alloc ?_ ?_ _) | (with_reducible refine Below.setCell ?_ ?_ _) | omega | (focus (simp; done)) | (focus (simp; omega))))⟩
def seekN (at_ W : Int) (zs : List Int) : Int := (zs.find? (fun z => decide (at_ < z))).getD (W - 1)
def seekP (at_ : Int) (zs : List Int) : Int := (zs.reverse.find? (fun z => decide (z < at_))).getD 0
set_option maxRecDepth 100000 in
set_option maxHeartbeats 2000000 in
theorem seekn_c (at_ W : Int) (g : Nat) (x : Value) (zs : List Int) (w : World) (hB : Blk w g 27 #[x, .int .i64 W]) (hx : RdI w x zs) (hn : zs.length ≤ 65536) (hW : 1 ≤ W ∧ W ≤ 4096) :
    Calls Try.prog 40 #[.int .i64 at_, .pointer (some ⟨g, 0, none⟩)] w fun e w' => e = .returned (.int .i64 (seekN at_ W zs)) ∧ w = w' := by
  obtain ⟨A, c, rfl, hx⟩ := hx
  obtain ⟨r0, r1, rf, rl⟩ := hB.facts2
  clear hB
  have HS : Hid (seekN at_ W zs = seekN at_ W (zs.drop 0)) := rfl
  obtain ⟨S, hS⟩ : ∃ S, S = seekN at_ W zs := ⟨_, rfl⟩
  rw [← hS] at HS ⊢
  clear hS
  have HD : Hid (∀ j (h : j < zs.length), zs.drop j = zs[j] :: zs.drop (j + 1) ∧ zs[j]? = some zs[j]) := fun j h => ⟨drop_cons h, List.getElem?_eq_getElem h⟩
  have HE : Hid (zs.drop zs.length = []) := List.drop_length
  go_enter Try.func40, Try.ntmps40
  go_wp2_with fail
  go_loopw [9] (fun i wz => ∃ (j : Nat), j ≤ zs.length ∧ i = .int .i64 j ∧ Hid (S = seekN at_ W (zs.drop j)) ∧ wz = w) (fun i _ => zs.length - (intOf i).toNat)
  case atStart => exact ⟨0, Nat.zero_le _, rfl, HS, rfl⟩
  case round =>
    obtain ⟨j, hj, rfl, HO, rfl⟩ := hrel
    by_cases hlt : j < zs.length
    · have hltI : (j : Int) < zs.length := by omega
      obtain ⟨b, o, rfl, hbl, hc⟩ := hx (by omega)
      obtain ⟨hd, hz⟩ := HD.out j hlt
      have c0 := hc j _ hz
      have hok := HO.out
      rw [hd] at hok
      unfold seekN at hok
      rw [List.find?_cons] at hok
      generalize zs[j] = z at c0 hok
      clear hc hd hz HO
      by_cases hz1 : at_ < z
      · rw [decide_eq_true hz1] at hok
        simp only [Option.getD_some] at hok
        subst hok
        go_wp2_with fail
        go_ret
        exact ⟨rfl, rfl⟩
      · rw [decide_eq_false hz1] at hok
        have HOK := Lib.hid (show S = seekN at_ W (zs.drop (j + 1)) from hok)
        clear hok
        go_wp2_with fail
        go_roundw
        case rel => exact ⟨j + 1, by omega, by go_num, HOK, by first | rfl | exact trivial⟩
        case measure => simp [intOf]; omega
    · obtain rfl : j = zs.length := by omega
      have hS := HO.out
      rw [HE.out] at hS
      have hS' : S = W - 1 := hS
      subst hS'
      clear hS HO
      go_wp2_with fail
      go_ret
      exact ⟨rfl, rfl⟩
set_option maxRecDepth 100000 in
set_option maxHeartbeats 2000000 in
theorem seekp_c (at_ W : Int) (g : Nat) (x : Value) (zs : List Int) (w : World) (hB : Blk w g 27 #[x, .int .i64 W]) (hx : RdI w x zs) (hn : zs.length ≤ 65536) :
    Calls Try.prog 41 #[.int .i64 at_, .pointer (some ⟨g, 0, none⟩)] w fun e w' => e = .returned (.int .i64 (seekP at_ zs)) ∧ w = w' := by
  obtain ⟨A, c, rfl, hx⟩ := hx
  obtain ⟨r0, r1, rf, rl⟩ := hB.facts2
  clear hB
  have HS : Hid (seekP at_ zs = seekP at_ (zs.take zs.length)) := by show _ = _; rw [List.take_length]
  obtain ⟨S, hS⟩ : ∃ S, S = seekP at_ zs := ⟨_, rfl⟩
  rw [← hS] at HS ⊢
  clear hS
  have HD : Hid (∀ j (h : j < zs.length), (zs.take (j + 1)).reverse = zs[j] :: (zs.take j).reverse ∧ zs[j]? = some zs[j]) := fun j h => ⟨by rw [List.take_succ_eq_append_getElem h]; simp, List.getElem?_eq_getElem h⟩
  go_enter Try.func41, Try.ntmps41
  go_wp2_with fail
  go_loopw [4] (fun i wz => ∃ (j : Nat), j ≤ zs.length ∧ i = .int .i64 ((j : Int) - 1) ∧ Hid (S = seekP at_ (zs.take j)) ∧ wz = w) (fun i _ => (intOf i + 1).toNat)
  case atStart => exact ⟨zs.length, Nat.le_refl _, rfl, HS, rfl⟩
  case round =>
    obtain ⟨j, hj, rfl, HO, rfl⟩ := hrel
    by_cases hlt : 0 < j
    · obtain ⟨k, rfl⟩ : ∃ k, j = k + 1 := ⟨j - 1, by omega⟩
      have e1 : (((k + 1 : Nat) : Int) - 1) = (k : Int) := by omega
      rw [e1]
      have hltN : k < zs.length := by omega
      have hltI : (k : Int) < zs.length := by omega
      obtain ⟨b, o, rfl, hbl, hc⟩ := hx (by omega)
      obtain ⟨hd, hz⟩ := HD.out k hltN
      have c0 := hc k _ hz
      have hok := HO.out
      unfold seekP at hok
      rw [hd, List.find?_cons] at hok
      generalize zs[k] = z at c0 hok
      clear hc hd hz HO
      by_cases hz1 : z < at_
      · rw [decide_eq_true hz1] at hok
        simp only [Option.getD_some] at hok
        subst hok
        go_wp2_with fail
        go_ret
        exact ⟨rfl, rfl⟩
      · rw [decide_eq_false hz1] at hok
        have HOK := Lib.hid (show S = seekP at_ (zs.take k) from hok)
        clear hok
        go_wp2_with fail
        go_roundw
        case rel => exact ⟨k, by omega, by go_num, HOK, by first | rfl | exact trivial⟩
        case measure => first | (simp [intOf]; done) | (simp [intOf]; omega)
    · obtain rfl : j = 0 := by omega
      have hS : S = 0 := HO.out
      subst hS
      clear HO
      go_wp2_with fail
      go_ret
      exact ⟨rfl, rfl⟩
end Go.Proofs.Ytpcpgoeahndlfaa.Tab
