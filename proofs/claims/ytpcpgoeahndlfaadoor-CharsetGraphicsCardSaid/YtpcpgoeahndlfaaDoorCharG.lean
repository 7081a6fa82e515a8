/- The law's walk: CharsetGraphics. -/
import Derived.Test.YtpcpgoeahndlfaaDoorCharL
import Derived.Deep.DeepCutAuto
namespace Go.Proofs.YtpcpgoeahndlfaaDoor.Char
open Go.RowKit
attribute [local go_sem] Nat.add_assoc Nat.add_pos_iff_pos_or_pos


/-- letters of DEC graphics are told once -/
theorem tab_once : ∀ i, i < 31 → ∀ j, j < 31 → tabL.getD i 0 = tabL.getD j 0 → i = j := by decide
theorem graphic_once (a b : Int) (ha : 96 ≤ a) (ha' : a ≤ 126) (hb : 96 ≤ b) (hb' : b ≤ 126) (h : graphicF a = graphicF b) : a = b := by
  unfold graphicF at h
  rw [if_neg (by omega), if_pos ⟨ha, ha'⟩, if_neg (by omega), if_pos ⟨hb, hb'⟩] at h
  have := tab_once _ (by omega) _ (by omega) h
  omega

/-- a set that is put in place 1 or 3 of the sets at the beginning -/
theorem set_k (k f : Int) (w : World) (hk : k = 1 ∨ k = 3) : Calls Tryd.prog 12 #[.agg #[.int .u8 66, .int .u8 66, .int .u8 66, .int .u8 66, .int .i64 0, .int .i64 2, .int .i64 0], .int .i64 k, .int .u8 f] w fun e w' => (∃ g1 g3 : Int, e = .returned (.agg #[.int .u8 66, .int .u8 g1, .int .u8 66, .int .u8 g3, .int .i64 0, .int .i64 2, .int .i64 0]) ∧ saneB 66 g1 66 g3 0 2 0 = true) ∧ Grew w w' := by
  refine (set_c k f 66 66 66 66 0 2 0 w saneNew).mono ?_
  rintro e w' ⟨rfl, hg⟩
  refine ⟨?_, hg⟩
  cases hb : setB k f
  · exact ⟨66, 66, by simp [setV, pickI, hb], by decide⟩
  · have hf : isSetB f = true := by unfold setB at hb; simp at hb; exact hb.2
    have hs66 : isSetB 66 = true := by decide
    rcases hk with rfl | rfl
    · exact ⟨f, 66, by simp [setV, pickI, hb], by unfold saneB; rw [hf, hs66]; decide⟩
    · exact ⟨66, f, by simp [setV, pickI, hb], by unfold saneB; rw [hf, hs66]; decide⟩
theorem told_k (r g1 g3 : Int) : toldF r 66 g1 66 g3 0 2 0 = r := by
  unfold toldF pickG byF
  simp
theorem map_k (r g1 g3 : Int) (w : World) (hT : Tab w) (hs : saneB 66 g1 66 g3 0 2 0 = true) : Calls Tryd.prog 8 #[.agg #[.int .u8 66, .int .u8 g1, .int .u8 66, .int .u8 g3, .int .i64 0, .int .i64 2, .int .i64 0], .int .i64 r] w fun e w' => e = .returned (.tuple #[.agg #[.int .u8 66, .int .u8 g1, .int .u8 66, .int .u8 g3, .int .i64 0, .int .i64 2, .int .i64 (onF r 0)], .int .i64 r]) ∧ Grew w w' := by
  have h := map_c r 66 g1 66 g3 0 2 0 w hT hs
  rw [told_k] at h
  exact h

set_option maxRecDepth 100000 in
set_option maxHeartbeats 2000000 in
theorem graphics_law (a b wh f r : Int) (w : World) (wa : (Lit.int .i64 a).wf = true) (wb : (Lit.int .i64 b).wf = true) (hT : Tab w) :
    Calls Tryd.prog 4 #[.int .i64 a, .int .i64 b, .int .i64 wh, .int .u8 f, .int .i64 r] w fun e w' => e = .returned (.bool true) ∧ Grew w w' := by
  have HT : ∀ w', Below w.heap.size w w' → Hid (Tab w') := fun w' h => hT.below h
  clear hT
  have WA := Lib.hid wa
  have WB := Lib.hid wb
  clear wa wb
  go_enter Tryd.func4, Tryd.ntmps4
  go_upto_region 4 with (first | (go_at_call 6; refine (awake_c _ (HT _ (by (repeat (first | exact Below.refl _ _ | refine Below.grow ?_ (by (try simp); (try omega)) _ _ | refine Below.drewN' ?_ _ | refine Below.drew ?_ | refine Below.alloc ?_ (by (try simp); (try omega)) _ | refine Below.setCell ?_ (by (try simp); (try omega)) _)))).out).mono ?_; rintro e w1 ⟨rfl, XA, dA, rfl⟩) | (go_at_call 10; refine (graphic_c _ _ (HT _ (by (repeat (first | exact Below.refl _ _ | refine Below.grow ?_ (by (try simp); (try omega)) _ _ | refine Below.drewN' ?_ _ | refine Below.drew ?_ | refine Below.alloc ?_ (by (try simp); (try omega)) _ | refine Below.setCell ?_ (by (try simp); (try omega)) _)))).out).mono ?_; rintro e w' ⟨rfl, rfl⟩))
  go_cut [48] (fun v wc => v = .bool false ∧ ∃ X d, wc = w.grow X d)
  case first =>
    have hc : a = b ∨ (a ≠ b ∧ graphicF a ≠ graphicF b) ∨ (a ≠ b ∧ graphicF a = graphicF b ∧ (a < 96 ∨ (96 ≤ a ∧ 126 < a) ∨ (96 ≤ a ∧ a ≤ 126 ∧ b < 96) ∨ (96 ≤ a ∧ a ≤ 126 ∧ 96 ≤ b ∧ 126 < b))) := by
      by_cases h1 : a = b
      · exact .inl h1
      · by_cases h2 : graphicF a = graphicF b
        · refine .inr (.inr ⟨h1, h2, ?_⟩)
          have := graphic_once a b
          omega
        · exact .inr (.inl ⟨h1, h2⟩)
    rcases hc with h | ⟨h1, h2⟩ | ⟨h1, h2, h3⟩
    · have k1 : (a != b) = false := by simp [h]
      have k2 : (graphicF a == graphicF b) = true := by simp [h]
      clear h
      go_wp2_with fail
      all_goals go_meet
      all_goals exact ⟨by first | rfl | (congr 1; simp; omega), _, _, rfl⟩
    · have k2 : (graphicF a == graphicF b) = false := by simpa using h2
      clear h1 h2
      go_wp2_with fail
      all_goals go_meet
      all_goals exact ⟨by first | rfl | (congr 1; simp; omega), _, _, rfl⟩
    · have k1 : (a != b) = true := by simpa using h1
      have k2 : (graphicF a == graphicF b) = true := by simpa using h2
      clear h1 h2
      rcases h3 with h | ⟨h, i⟩ | ⟨h, i, j⟩ | ⟨h, i, j, k⟩
      all_goals
        first | (have dd0 : decide (96 ≤ a) = true := by simp; omega) | (have dd0 : decide (96 ≤ a) = false := by simp; omega); first | (have dd1 : decide (a ≤ 126) = true := by simp; omega) | (have dd1 : decide (a ≤ 126) = false := by simp; omega); first | (have dd2 : decide (96 ≤ b) = true := by simp; omega) | (have dd2 : decide (96 ≤ b) = false := by simp; omega); first | (have dd3 : decide (b ≤ 126) = true := by simp; omega) | (have dd3 : decide (b ≤ 126) = false := by simp; omega)
        go_wp2_with fail
      all_goals go_meet
      all_goals exact ⟨by first | rfl | (congr 1; simp; omega), _, _, rfl⟩
  case rest =>
    obtain ⟨rfl, Xc, dc, rfl⟩ := hcut
    have hk : IntKind.i64.wrap (1 + bits .and .i64 wh 1) = 1 ∨ IntKind.i64.wrap (1 + bits .and .i64 wh 1) = 2 := by
      have e1 : bits .and .i64 wh 1 = wh % 2 := and_mask 1 (by omega) wh
      rw [e1, IntKind.wrap_i64]
      omega
    have hu : a = b ∨ (a = 35 ∧ b = 163) ∨ (a = 35 ∧ b ≠ 35 ∧ b ≠ 163) ∨ (b = 35 ∧ a = 163) ∨ (b = 35 ∧ a ≠ 35 ∧ a ≠ 163) ∨ (a ≠ b ∧ a ≠ 35 ∧ b ≠ 35) := by omega
    rcases hk with hk | hk
    all_goals
      go_wp2_with (first | (go_at_call 9; refine (new_c _).mono ?_; rintro e w1 ⟨rfl, X1, d1, rfl⟩))
      refine (set_k _ _ _ (by omega)).mono ?_
      rintro e w1 ⟨⟨g1, g3, rfl, hs⟩, X2, d2, rfl⟩
      have HS := Lib.hid hs
      clear hs
      go_wp2_with fail
      refine (map_k _ _ _ _ (HT _ (by (repeat (first | exact Below.refl _ _ | refine Below.grow ?_ (by (try simp); (try omega)) _ _ | refine Below.drewN' ?_ _ | refine Below.drew ?_ | refine Below.alloc ?_ (by (try simp); (try omega)) _ | refine Below.setCell ?_ (by (try simp); (try omega)) _)))).out HS.out).mono ?_
      rintro e w1 ⟨rfl, X3, d3, rfl⟩
      go_wp2_with fail
      refine (map_new _ _ (HT _ (by (repeat (first | exact Below.refl _ _ | refine Below.grow ?_ (by (try simp); (try omega)) _ _ | refine Below.drewN' ?_ _ | refine Below.drew ?_ | refine Below.alloc ?_ (by (try simp); (try omega)) _ | refine Below.setCell ?_ (by (try simp); (try omega)) _)))).out).mono ?_
      rintro e w1 ⟨rfl, X4, d4, rfl⟩
      rcases hu with h | ⟨h1, h2⟩ | ⟨h1, h2, h3⟩ | ⟨h1, h2⟩ | ⟨h1, h2, h3⟩ | ⟨h1, h2, h3⟩
      · subst h
        go_wp2_with (first | (go_at_call 11; refine (uk_c _ _).mono ?_; rintro e w' ⟨rfl, rfl⟩))
        go_ret
        exact ⟨rfl, (Below.toGrow (by repeat (first | exact Below.refl _ _ | refine Below.grow ?_ (by (try simp); (try omega)) _ _ | refine Below.drewN' ?_ _ | refine Below.drew ?_ | refine Below.alloc ?_ (by (try simp); (try omega)) _ | refine Below.setCell ?_ (by (try simp); (try omega)) _)))⟩
      all_goals
        have wa := WA.out
        have wb := WB.out
        clear WA WB
        have ra : -9223372036854775808 ≤ a ∧ a ≤ 9223372036854775807 := by simpa [Lit.wf, IntKind.min, IntKind.max, IntKind.signed, IntKind.bits] using wa
        have rb : -9223372036854775808 ≤ b ∧ b ≤ 9223372036854775807 := by simpa [Lit.wf, IntKind.min, IntKind.max, IntKind.signed, IntKind.bits] using wb
        clear wa wb
        first | (have e1 : (ukF a == ukF b) = true := by (unfold ukF; simp; (repeat split) <;> omega)) | (have e1 : (ukF a == ukF b) = false := by (unfold ukF; simp; (repeat split) <;> omega))
        have e2 : (a == b) = false := by simp; omega
        first | (have e4 : (a == 35) = true := by simp; omega) | (have e4 : (a == 35) = false := by simp; omega)
        first | (have e5 : (b == 35) = true := by simp; omega) | (have e5 : (b == 35) = false := by simp; omega)
        go_wp2_with (first | (go_at_call 11; refine (uk_c _ _).mono ?_; rintro e w' ⟨rfl, rfl⟩))
      all_goals
        go_ret
        refine ⟨eret ?_, (Below.toGrow (by repeat (first | exact Below.refl _ _ | refine Below.grow ?_ (by (try simp); (try omega)) _ _ | refine Below.drewN' ?_ _ | refine Below.drew ?_ | refine Below.alloc ?_ (by (try simp); (try omega)) _ | refine Below.setCell ?_ (by (try simp); (try omega)) _)))⟩
        clear HT HS e1 e2 e4 e5
        first
          | rfl
          | decide
          | ((try unfold wrap64 at *); unfold ukF; simp only [beq_iff_eq, Bool.not_eq_true', beq_eq_false_iff_ne]; (repeat' split) <;> (first | omega | (simp; done) | (simp; omega) | (exfalso; omega) | (rw [show ((163 : Int) == b) = false from by (rw [beq_eq_false_iff_ne]; omega), show ((35 : Int) == b) = false from by (rw [beq_eq_false_iff_ne]; omega)])))
end Go.Proofs.YtpcpgoeahndlfaaDoor.Char
