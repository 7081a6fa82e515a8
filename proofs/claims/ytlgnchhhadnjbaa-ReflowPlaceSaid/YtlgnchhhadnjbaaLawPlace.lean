/- ReflowPlace returns true for all lines, widths and places. -/
import Derived.Test.YtlgnchhhadnjbaaRflI
import Derived.Test.YtlgnchhhadnjbaaLinOpen
import Derived.Test.YtlgnchhhadnjbaaFrame
namespace Go.Proofs.Ytlgnchhhadnjbaa.lawPlace
open Go.ChangeShapes Go.WideShapes Go.ChangeAt Go.RowKit

theorem own : ownKnob Try.prog.godebug = none := by kernel_rfl
theorem laidOut : laidOutB Try.prog = true := by kernel_rfl

set_option maxRecDepth 100000 in
theorem contract (H : Type) (enc : TypeId × Value → H) (W : World) (base : Nat) (args : Array Value) (ds gs : List (DataW H)) (before : List MemPlace)
    (hval : ∀ (j : Nat) t v, Try.f5.params[j]? = some t → args[j]? = some v → Value.okWide Try.prog W .any base t v)
    (hW : DataW.Whole enc Try.prog Try.f5.params.toList Rows.reflowPlaceSpec.vars false W args.toList ds gs before) :
    Calls Try.prog 5 args W fun e W' => ∃ v, e = .returned v ∧ Rows.reflowPlaceSpec.post enc Try.prog Try.f5 false true false false W args v W' := by
  have hW' := hW
  obtain ⟨p, q, hA, hV, _, _, _⟩ := hW
  obtain ⟨rfl, rfl⟩ := trodVars_none hV
  rw [Try.params5] at hA hval
  obtain ⟨v0, vs0, d0, ds0, p0, q0, hargs, rfl, _, h0, r0⟩ := trodAll_cons hA
  obtain ⟨v1, vs1, d1, ds1, p1, q1, rfl, rfl, _, h1, r1⟩ := trodAll_cons r0
  obtain ⟨v2, vs2, d2, ds2, p2, q2, rfl, rfl, _, h2, r2⟩ := trodAll_cons r1
  obtain ⟨v3, vs3, d3, ds3, p3, q3, rfl, rfl, _, h3, r3⟩ := trodAll_cons r2
  obtain ⟨v4, vs4, d4, ds4, p4, q4, rfl, rfl, _, h4, r4⟩ := trodAll_cons r3
  obtain ⟨rfl, rfl, _⟩ := trodAll_nil r4
  obtain rfl : args = #[v0, v1, v2, v3, v4] := by cases args; simp_all
  have hcs0 : v0.cells = #[v0] := by have h := val_cell Try.underlying22 rfl (hval 0 _ v0 rfl rfl); unfold Cell.okWide at h; rw [Try.underlying22] at h; cases v0 <;> first | rfl | (simp [Cell.ok, Try.underlying22] at h)
  obtain ⟨L, hL0, hL1⟩ := Row.lines_arg h0 hcs0
  obtain ⟨k, rfl, _⟩ := cell_int Try.underlying3 (val_cell Try.underlying3 rfl (hval 1 _ v1 rfl rfl))
  obtain ⟨m, rfl, _⟩ := cell_int Try.underlying3 (val_cell Try.underlying3 rfl (hval 2 _ v2 rfl rfl))
  obtain ⟨y, rfl, _⟩ := cell_int Try.underlying3 (val_cell Try.underlying3 rfl (hval 3 _ v3 rfl rfl))
  obtain ⟨p, rfl, _⟩ := cell_int Try.underlying3 (val_cell Try.underlying3 rfl (hval 4 _ v4 rfl rfl))
  refine (Row.place_law v0 k m y p L W hL0 hL1).mono fun e W' ⟨he, hg⟩ => ?_
  exact ⟨_, he, law_post laidOut (by kernel_rfl) rfl rfl Try.underlying4 hW' rfl hg.below⟩

set_option maxRecDepth 100000 in
theorem lifted (os : Os) (started : os.Started) (H : Type) (enc : TypeId × Value → H) :
    ReturnsInHanded {} Try.checked os 5 .any (Rows.reflowPlaceSpec.pre6 enc Try.prog Try.f5 Rows.reflowPlaceRow.domain false) (Rows.reflowPlaceSpec.post enc Try.prog Try.f5 false true false false) := by
  refine returnsInHanded_of_change (C := Try.checked) own started (by kernel_rfl) Try.func5
    (ChangeSpec.witness6 (enc := enc) (C := Try.checked) false ⟨#[], #[.slice none 0 0, .int .i64 0, .int .i64 0, .int .i64 0, .int .i64 0], []⟩ 8 (by kernel_rfl) (by kernel_rfl) (by kernel_rfl) (by kernel_rfl)) ?_
  intro W base args ds gs before hval hW _ _
  exact contract H enc W base args ds gs before hval hW

theorem proved : Rows.ReflowPlaceSaid :=
  OpenClaim.holds_of_wide 5 Try.f5 rfl rfl rfl rfl rfl rfl rfl ⟨rfl, rfl, rfl, rfl, rfl⟩ rfl rfl rfl rfl rfl (by kernel_rfl) Try.func5 (by kernel_rfl)
    (of_decide_eq_true (by kernel_rfl)) (by unfold Func.isWrapper; first | (rw [if_pos (by decide +kernel)]; kernel_rfl) | (rw [if_neg (by decide +kernel)]; exact ⟨rfl, rfl⟩))
    (fun os started H enc _ => lifted os started H enc)
end Go.Proofs.Ytlgnchhhadnjbaa.lawPlace
