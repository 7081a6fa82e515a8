/- Walks of the document's small functions for a pen and a cell: lapwingref07.Parts, Sane; lapwingref08.letter, one, Blank, with. -/
import Derived.Test.YtlgnchhhadnjbaaRowA
namespace Go.Proofs.Ytlgnchhhadnjbaa.Row
open Go.RowKit
theorem results_tmp4 {fn : Func} {t u v x : Tmp} (h : fn.results = #[.tmp t, .tmp u, .tmp v, .tmp x]) (tmps : Array Value) (P : Program) (w : World) :
    (results fn tmps).run P w = .ok (.tuple #[tmps.getD t undef, tmps.getD u undef, tmps.getD v undef, tmps.getD x undef]) w := by
  simp [results, h]
def PartsYes (w : World) (e : Ending) (w' : World) : Prop := ∃ p a b d : Int, e = .returned (.tuple #[.int .i64 p, .int .i64 a, .int .i64 b, .int .i64 d]) ∧ (p != 3) = true ∧ w = w'
theorem parts_yes (c : Int) (w : World) (h : isColourB c = true) : Calls Try.prog 56 #[.int .i64 c] w (PartsYes w) := by
  have h' : c = 0 ∨ (1 ≤ c ∧ c ≤ 256) ∨ (16777216 ≤ c ∧ c < 33554432) := by
    unfold isColourB at h
    simp at h
    omega
  clear h
  rcases h' with rfl | ⟨h1, h2⟩ | ⟨h1, h2⟩
  all_goals
    go_enter Try.func56, Try.ntmps56
    go_wp2
    all_goals first
      | (exfalso; omega)
      | (((try simp only [Exit.inBlock, Exit.then]); refine bodyPost_ret (results_tmp4 rfl _ _ _) rfl ?_); exact ⟨_, _, _, _, rfl, by decide, rfl⟩)
theorem parts_no (c : Int) (w : World) (h : isColourB c = false) : Calls Try.prog 56 #[.int .i64 c] w fun e w' => e = .returned (.tuple #[.int .i64 3, .int .i64 0, .int .i64 0, .int .i64 0]) ∧ w = w' := by
  have h' : ¬ ((0 ≤ c ∧ c ≤ 256) ∨ (16777216 ≤ c ∧ c < 33554432)) := by
    unfold isColourB at h
    simpa using h
  clear h
  go_enter Try.func56, Try.ntmps56
  go_wp2
  all_goals first
    | (exfalso; omega)
    | (((try simp only [Exit.inBlock, Exit.then]); refine bodyPost_ret (results_tmp4 rfl _ _ _) rfl ?_); exact ⟨rfl, rfl⟩)

set_option maxRecDepth 100000 in
set_option maxHeartbeats 1000000 in
theorem pen07_c (fg bg fl : Int) (w : World) : Calls Try.prog 53 #[.agg #[.int .i64 fg, .int .i64 bg, .int .i64 fl]] w fun e w' => e = .returned (.bool (penB fg bg fl)) ∧ Grew w w' := by
  have HP : Hid (penB fg bg fl = (isColourB fg && (isColourB bg && (decide (0 ≤ fl) && decide (fl ≤ 511))))) := rfl
  generalize penB fg bg fl = S at *
  cases h1 : isColourB fg <;> cases h2 : isColourB bg
  · go_enter Try.func53, Try.ntmps53
    go_wp2_with fail
    refine (parts_no _ _ h1).mono ?_
    rintro e w1 ⟨rfl, rfl⟩
    go_wp2_with fail
    refine (parts_no _ _ h2).mono ?_
    rintro e w1 ⟨rfl, rfl⟩
    go_wp2_with fail
    go_ret
    exact ⟨ebool (by rw [HP.out, h1]; rfl), (Below.toGrow (by repeat (first | (with_reducible exact Below.refl _ _) | (with_reducible assumption) | (with_reducible refine Below.grow ?_ ?_ _ _) | (with_reducible refine Below.drewN' ?_ _) | (with_reducible refine Below.drew ?_) | (with_reducible refine Below.alloc ?_ ?_ _) | (with_reducible refine Below.setCell ?_ ?_ _) | omega | (focus (simp; done)) | (focus (simp; omega)))))⟩
  · go_enter Try.func53, Try.ntmps53
    go_wp2_with fail
    refine (parts_no _ _ h1).mono ?_
    rintro e w1 ⟨rfl, rfl⟩
    go_wp2_with fail
    refine (parts_yes _ _ h2).mono ?_
    rintro e w1 ⟨p2, a2, b2, d2, rfl, hp2, rfl⟩
    go_wp2_with fail
    go_ret
    exact ⟨ebool (by rw [HP.out, h1]; rfl), (Below.toGrow (by repeat (first | (with_reducible exact Below.refl _ _) | (with_reducible assumption) | (with_reducible refine Below.grow ?_ ?_ _ _) | (with_reducible refine Below.drewN' ?_ _) | (with_reducible refine Below.drew ?_) | (with_reducible refine Below.alloc ?_ ?_ _) | (with_reducible refine Below.setCell ?_ ?_ _) | omega | (focus (simp; done)) | (focus (simp; omega)))))⟩
  · go_enter Try.func53, Try.ntmps53
    go_wp2_with fail
    refine (parts_yes _ _ h1).mono ?_
    rintro e w1 ⟨p1, a1, b1, d1, rfl, hp1, rfl⟩
    go_wp2_with fail
    refine (parts_no _ _ h2).mono ?_
    rintro e w1 ⟨rfl, rfl⟩
    go_wp2_with fail
    go_ret
    exact ⟨ebool (by rw [HP.out, h1, h2]; rfl), (Below.toGrow (by repeat (first | (with_reducible exact Below.refl _ _) | (with_reducible assumption) | (with_reducible refine Below.grow ?_ ?_ _ _) | (with_reducible refine Below.drewN' ?_ _) | (with_reducible refine Below.drew ?_) | (with_reducible refine Below.alloc ?_ ?_ _) | (with_reducible refine Below.setCell ?_ ?_ _) | omega | (focus (simp; done)) | (focus (simp; omega)))))⟩
  · go_enter Try.func53, Try.ntmps53
    go_wp2_with fail
    refine (parts_yes _ _ h1).mono ?_
    rintro e w1 ⟨p1, a1, b1, d1, rfl, hp1, rfl⟩
    go_wp2_with fail
    refine (parts_yes _ _ h2).mono ?_
    rintro e w1 ⟨p2, a2, b2, d2, rfl, hp2, rfl⟩
    go_wp2_with fail
    all_goals (go_ret; refine ⟨ebool ?_, (Below.toGrow (by repeat (first | (with_reducible exact Below.refl _ _) | (with_reducible assumption) | (with_reducible refine Below.grow ?_ ?_ _ _) | (with_reducible refine Below.drewN' ?_ _) | (with_reducible refine Below.drew ?_) | (with_reducible refine Below.alloc ?_ ?_ _) | (with_reducible refine Below.setCell ?_ ?_ _) | omega | (focus (simp; done)) | (focus (simp; omega)))))⟩; rw [HP.out, h1, h2]; simp [*]; try omega)

theorem letter_c (c : Int) (w : World) : Calls Try.prog 52 #[.int .i64 c] w fun e w' => e = .returned (.bool (decide (0 ≤ c ∧ c ≤ 1114111))) ∧ w = w' := by
  go_enter Try.func52, Try.ntmps52
  go_wp2
  all_goals (go_ret; refine ⟨ebool ?_, rfl⟩)
  all_goals grind
theorem blank8_c (fg bg fl : Int) (w : World) : Calls Try.prog 29 #[.agg #[.int .i64 fg, .int .i64 bg, .int .i64 fl]] w fun e w' => e = .returned (.agg #[.int .i64 0, .int .i64 0, .int .i64 0, .int .i64 1, .int .i64 fg, .int .i64 bg, .int .i64 fl]) ∧ Grew w w' := by
  go_enter Try.func29, Try.ntmps29
  go_wp2
  (refine bodyPost_ret (v := _) (by (simp [results, Try.results29, go_sem]; exact rfl)) rfl ⟨?_, (Below.toGrow (by repeat (first | (with_reducible exact Below.refl _ _) | (with_reducible assumption) | (with_reducible refine Below.grow ?_ ?_ _ _) | (with_reducible refine Below.drewN' ?_ _) | (with_reducible refine Below.drew ?_) | (with_reducible refine Below.alloc ?_ ?_ _) | (with_reducible refine Below.setCell ?_ ?_ _) | omega | (focus (simp; done)) | (focus (simp; omega)))))⟩; exact rfl)
theorem with_c (A : Option Addr) (n cap : Nat) (wb : Bool) (dir : Int) (ex : Bool) (B : Option Addr) (m cap2 : Nat) (w : World) : Calls Try.prog 54 #[.agg #[.slice A n cap, .bool wb, .int .i64 dir, .bool ex], .slice B m cap2] w fun e w' => e = .returned (.agg #[.slice B m cap2, .bool wb, .int .i64 dir, .bool ex]) ∧ Grew w w' := by
  go_enter Try.func54, Try.ntmps54
  go_wp2
  (refine bodyPost_ret (v := _) (by (simp [results, Try.results54, go_sem]; exact rfl)) rfl ⟨?_, (Below.toGrow (by repeat (first | (with_reducible exact Below.refl _ _) | (with_reducible assumption) | (with_reducible refine Below.grow ?_ ?_ _ _) | (with_reducible refine Below.drewN' ?_ _) | (with_reducible refine Below.drew ?_) | (with_reducible refine Below.alloc ?_ ?_ _) | (with_reducible refine Below.setCell ?_ ?_ _) | omega | (focus (simp; done)) | (focus (simp; omega)))))⟩; exact rfl)
set_option maxHeartbeats 4000000 in
set_option maxRecDepth 100000 in
theorem one_c (c : Cl) (w : World) : Calls Try.prog 46 #[.agg #[.int .i64 c.r, .int .i64 c.m0, .int .i64 c.m1, .int .i64 c.w, .int .i64 c.fg, .int .i64 c.bg, .int .i64 c.fl]] w fun e w' => e = .returned (.bool (fitsB c)) ∧ Grew w w' := by
  obtain ⟨r, m0, m1, W, fg, bg, fl⟩ := c
  have HP : Hid (fitsB ⟨r, m0, m1, W, fg, bg, fl⟩ = true ↔ (0 ≤ m0 ∧ m0 ≤ 1114111 ∧ (m0 ≠ 0 → r ≠ 0) ∧ 0 ≤ m1 ∧ m1 ≤ 1114111 ∧ (m1 ≠ 0 → r ≠ 0) ∧ 0 ≤ r ∧ r ≤ 1114111 ∧ (m0 = 0 → m1 = 0) ∧ penB fg bg fl = true ∧ (W = 0 ∧ r = 0 ∨ W = 1 ∨ W = 2 ∧ r ≠ 0))) := by show _ ↔ _; unfold fitsB; simp only [decide_eq_true_eq]
  generalize fitsB ⟨r, m0, m1, W, fg, bg, fl⟩ = S at *
  by_cases hW : 0 ≤ W ∧ W ≤ 2
  · obtain ⟨hW0, hW2⟩ := hW
    cases hr : decide (0 ≤ r ∧ r ≤ 1114111)
    · go_enter Try.func46, Try.ntmps46; go_wp2_with (first | (go_at_call 52; refine (letter_c _ _).mono ?_; rintro e w1 ⟨rfl, rfl⟩) | (go_at_call 53; refine (pen07_c _ _ _ _).mono ?_; rintro e w1 ⟨rfl, X3, d3, rfl⟩)); all_goals (go_ret; refine ⟨ebool ?_, (Below.toGrow (by repeat (first | (with_reducible exact Below.refl _ _) | (with_reducible assumption) | (with_reducible refine Below.grow ?_ ?_ _ _) | (with_reducible refine Below.drewN' ?_ _) | (with_reducible refine Below.drew ?_) | (with_reducible refine Below.alloc ?_ ?_ _) | (with_reducible refine Below.setCell ?_ ?_ _) | omega | (focus (simp; done)) | (focus (simp; omega)))))⟩)
      have hr := of_decide_eq_false hr
      cases S; rfl; (exfalso; have hf := HP.out.1 rfl; omega)
    · cases h0 : decide (0 ≤ m0 ∧ m0 ≤ 1114111)
      · go_enter Try.func46, Try.ntmps46; go_wp2_with (first | (go_at_call 52; refine (letter_c _ _).mono ?_; rintro e w1 ⟨rfl, rfl⟩) | (go_at_call 53; refine (pen07_c _ _ _ _).mono ?_; rintro e w1 ⟨rfl, X3, d3, rfl⟩)); all_goals (go_ret; refine ⟨ebool ?_, (Below.toGrow (by repeat (first | (with_reducible exact Below.refl _ _) | (with_reducible assumption) | (with_reducible refine Below.grow ?_ ?_ _ _) | (with_reducible refine Below.drewN' ?_ _) | (with_reducible refine Below.drew ?_) | (with_reducible refine Below.alloc ?_ ?_ _) | (with_reducible refine Below.setCell ?_ ?_ _) | omega | (focus (simp; done)) | (focus (simp; omega)))))⟩)
        have hr := of_decide_eq_false h0
        cases S; rfl; (exfalso; have hf := HP.out.1 rfl; omega)
      · cases h1 : decide (0 ≤ m1 ∧ m1 ≤ 1114111)
        · go_enter Try.func46, Try.ntmps46; go_wp2_with (first | (go_at_call 52; refine (letter_c _ _).mono ?_; rintro e w1 ⟨rfl, rfl⟩) | (go_at_call 53; refine (pen07_c _ _ _ _).mono ?_; rintro e w1 ⟨rfl, X3, d3, rfl⟩)); all_goals (go_ret; refine ⟨ebool ?_, (Below.toGrow (by repeat (first | (with_reducible exact Below.refl _ _) | (with_reducible assumption) | (with_reducible refine Below.grow ?_ ?_ _ _) | (with_reducible refine Below.drewN' ?_ _) | (with_reducible refine Below.drew ?_) | (with_reducible refine Below.alloc ?_ ?_ _) | (with_reducible refine Below.setCell ?_ ?_ _) | omega | (focus (simp; done)) | (focus (simp; omega)))))⟩)
          have hr := of_decide_eq_false h1
          cases S; rfl; (exfalso; have hf := HP.out.1 rfl; omega)
        · cases hp : penB fg bg fl
          · go_enter Try.func46, Try.ntmps46; go_wp2_with (first | (go_at_call 52; refine (letter_c _ _).mono ?_; rintro e w1 ⟨rfl, rfl⟩) | (go_at_call 53; refine (pen07_c _ _ _ _).mono ?_; rintro e w1 ⟨rfl, X3, d3, rfl⟩)); all_goals (go_ret; refine ⟨ebool ?_, (Below.toGrow (by repeat (first | (with_reducible exact Below.refl _ _) | (with_reducible assumption) | (with_reducible refine Below.grow ?_ ?_ _ _) | (with_reducible refine Below.drewN' ?_ _) | (with_reducible refine Below.drew ?_) | (with_reducible refine Below.alloc ?_ ?_ _) | (with_reducible refine Below.setCell ?_ ?_ _) | omega | (focus (simp; done)) | (focus (simp; omega)))))⟩)
            cases S
            · rfl
            · exfalso
              have := (HP.out.1 rfl).2.2.2.2.2.2.2.2.2.1
              rw [hp] at this
              cases this
          · go_enter Try.func46, Try.ntmps46; go_wp2_with (first | (go_at_call 52; refine (letter_c _ _).mono ?_; rintro e w1 ⟨rfl, rfl⟩) | (go_at_call 53; refine (pen07_c _ _ _ _).mono ?_; rintro e w1 ⟨rfl, X3, d3, rfl⟩)); all_goals (go_ret; refine ⟨ebool ?_, (Below.toGrow (by repeat (first | (with_reducible exact Below.refl _ _) | (with_reducible assumption) | (with_reducible refine Below.grow ?_ ?_ _ _) | (with_reducible refine Below.drewN' ?_ _) | (with_reducible refine Below.drew ?_) | (with_reducible refine Below.alloc ?_ ?_ _) | (with_reducible refine Below.setCell ?_ ?_ _) | omega | (focus (simp; done)) | (focus (simp; omega)))))⟩)
            all_goals
              have hr' := of_decide_eq_true hr
              have h0' := of_decide_eq_true h0
              have h1' := of_decide_eq_true h1
              clear hr h0 h1
              cases S
              · have hn : ¬ _ := fun h => Bool.false_ne_true (HP.out.2 h)
                clear HP
                grind
              · have hn := HP.out.1 rfl
                clear HP
                grind
  · go_enter Try.func46, Try.ntmps46; go_wp2_with (first | (go_at_call 52; refine (letter_c _ _).mono ?_; rintro e w1 ⟨rfl, rfl⟩) | (go_at_call 53; refine (pen07_c _ _ _ _).mono ?_; rintro e w1 ⟨rfl, X3, d3, rfl⟩)); all_goals (go_ret; refine ⟨ebool ?_, (Below.toGrow (by repeat (first | (with_reducible exact Below.refl _ _) | (with_reducible assumption) | (with_reducible refine Below.grow ?_ ?_ _ _) | (with_reducible refine Below.drewN' ?_ _) | (with_reducible refine Below.drew ?_) | (with_reducible refine Below.alloc ?_ ?_ _) | (with_reducible refine Below.setCell ?_ ?_ _) | omega | (focus (simp; done)) | (focus (simp; omega)))))⟩)
    all_goals
      cases S
      · first | rfl | (exfalso; omega)
      · exfalso
        have hf := HP.out.1 rfl
        omega
end Go.Proofs.Ytlgnchhhadnjbaa.Row
