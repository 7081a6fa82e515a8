/- ScreenLetters returns true for all lists and widths. -/
import Derived.Test.YtlchffkabpfjpaaLttA
import Derived.Test.YtlchffkabpfjpaaIntsO
import Derived.Test.YtlchffkabpfjpaaFrame
namespace Go.Proofs.Ytlchffkabpfjpaa.lawLetters15
open Go.ChangeShapes Go.WideShapes Go.ChangeAt Go.RowKit

theorem own : ownKnob Try.prog.godebug = none := by kernel_rfl
theorem laidOut : laidOutB Try.prog = true := by kernel_rfl

set_option maxRecDepth 100000 in
theorem contract (H : Type) (enc : TypeId × Value → H) (W : World) (base : Nat) (args : Array Value) (ds gs : List (DataW H)) (before : List MemPlace)
    (hval : ∀ (j : Nat) t v, Try.f5.params[j]? = some t → args[j]? = some v → Value.okWide Try.prog W .any base t v)
    (hW : DataW.Whole enc Try.prog Try.f5.params.toList Rows.screenLettersSpec.vars false W args.toList ds gs before) :
    Calls Try.prog 5 args W fun e W' => ∃ v, e = .returned v ∧ Rows.screenLettersSpec.post enc Try.prog Try.f5 false true false false W args v W' := by
  have hW' := hW
  obtain ⟨p, q, hA, hV, _, _, _⟩ := hW
  obtain ⟨rfl, rfl⟩ := trodVars_none hV
  rw [Try.params5] at hA hval
  obtain ⟨v0, v1, v2, d0, d1, d2, p0, p1, p2, rfl, rfl, _, h0, h1, h2⟩ := trodAll_three hA
  have hcs0 : v0.cells = #[v0] := by have h := val_cell Try.underlying22 rfl (hval 0 _ v0 rfl rfl); unfold Cell.okWide at h; rw [Try.underlying22] at h; cases v0 <;> first | rfl | (simp [Cell.ok, Try.underlying22] at h)
  obtain ⟨zs, hzs⟩ := Tab.ints_arg h0 hcs0
  obtain ⟨k, rfl, _⟩ := cell_int Try.underlying3 (val_cell Try.underlying3 rfl (hval 1 _ v1 rfl rfl))
  obtain ⟨k2, rfl, _⟩ := cell_int Try.underlying3 (val_cell Try.underlying3 rfl (hval 2 _ v2 rfl rfl))
  refine (Scr.letters_law v0 zs k k2 W hzs).mono fun e W' ⟨he, hg⟩ => ?_
  exact ⟨_, he, law_post laidOut (by kernel_rfl) rfl rfl Try.underlying4 hW' rfl hg.below⟩

set_option maxRecDepth 100000 in
theorem lifted (os : Os) (started : os.Started) (H : Type) (enc : TypeId × Value → H) :
    ReturnsInHanded {} Try.checked os 5 .any (Rows.screenLettersSpec.pre6 enc Try.prog Try.f5 Rows.screenLettersRow.domain false) (Rows.screenLettersSpec.post enc Try.prog Try.f5 false true false false) := by
  refine returnsInHanded_of_change (C := Try.checked) own started (by kernel_rfl) Try.func5
    (ChangeSpec.witness6 (enc := enc) (C := Try.checked) false ⟨#[], #[.slice none 0 0, .int .i64 0, .int .i64 0], []⟩ 8 (by kernel_rfl) (by kernel_rfl) (by kernel_rfl) (by kernel_rfl)) ?_
  intro W base args ds gs before hval hW _ _
  exact contract H enc W base args ds gs before hval hW

theorem proved : Rows.ScreenLettersSaid :=
  OpenClaim.holds_of_wide 5 Try.f5 rfl rfl rfl rfl rfl rfl rfl ⟨rfl, rfl, rfl, rfl, rfl⟩ rfl rfl rfl rfl rfl (by kernel_rfl) Try.func5 (by kernel_rfl)
    (of_decide_eq_true (by kernel_rfl)) (by unfold Func.isWrapper; first | (rw [if_pos (by decide +kernel)]; kernel_rfl) | (rw [if_neg (by decide +kernel)]; exact ⟨rfl, rfl⟩))
    (fun os started H enc _ => lifted os started H enc)
end Go.Proofs.Ytlchffkabpfjpaa.lawLetters15
