/- HistoryIs returns true for all kept rows, rows, grids and numbers. -/
import Derived.Test.YtpnadnjcacaibaaHisH
import Derived.Test.YtpnadnjcacaibaaLstOpen
import Derived.Test.YtpnadnjcacaibaaFrame
namespace Go.Proofs.Ytpnadnjcacaibaa.lawHis
open Go.ChangeShapes Go.WideShapes Go.ChangeAt Go.RowKit

theorem own : ownKnob Try.prog.godebug = none := by kernel_rfl
theorem laidOut : laidOutB Try.prog = true := by kernel_rfl

set_option maxRecDepth 100000 in
theorem contract (H : Type) (enc : TypeId × Value → H) (W : World) (base : Nat) (args : Array Value) (ds gs : List (DataW H)) (before : List MemPlace)
    (hval : ∀ (j : Nat) t v, Try.f10.params[j]? = some t → args[j]? = some v → Value.okWide Try.prog W .any base t v)
    (hW : DataW.Whole enc Try.prog Try.f10.params.toList Rows.historyIsSpec.vars false W args.toList ds gs before) :
    Calls Try.prog 10 args W fun e W' => ∃ v, e = .returned v ∧ Rows.historyIsSpec.post enc Try.prog Try.f10 false true false false W args v W' := by
  have hW' := hW
  obtain ⟨p, q, hA, hV, _, _, _⟩ := hW
  obtain ⟨rfl, rfl⟩ := trodVars_none hV
  rw [Try.params10] at hA hval
  obtain ⟨v0, v1, v2, v3, d0, d1, d2, d3, p0, p1, p2, p3, rfl, rfl, _, h0, h1, h2, h3⟩ := trodAll_four hA
  obtain ⟨x, c, L, rfl, hL0, hL1, wfc⟩ := Row.kept_open (hval 0 _ v0 rfl rfl) h0
  have hcs1 : v1.cells = #[v1] := by have h := val_cell Try.underlying36 rfl (hval 1 _ v1 rfl rfl); unfold Cell.okWide at h; rw [Try.underlying36] at h; cases v1 <;> first | rfl | (simp [Cell.ok, Try.underlying36] at h)
  obtain ⟨M, hM0, hM1⟩ := Row.rows_arg h1 hcs1
  have hcs2 : v2.cells = #[v2] := by have h := val_cell Try.underlying36 rfl (hval 2 _ v2 rfl rfl); unfold Cell.okWide at h; rw [Try.underlying36] at h; cases v2 <;> first | rfl | (simp [Cell.ok, Try.underlying36] at h)
  obtain ⟨G, hG0, hG1⟩ := Row.rows_arg h2 hcs2
  obtain ⟨k, rfl, _⟩ := cell_int Try.underlying3 (val_cell Try.underlying3 rfl (hval 3 _ v3 rfl rfl))
  refine (Row.his_law x v1 v2 c k L M G W hL0 hM0 hG0 hL1 hM1 hG1).mono fun e W' ⟨he, hg⟩ => ?_
  exact ⟨_, he, law_post laidOut (by kernel_rfl) rfl rfl Try.underlying4 hW' rfl hg.below⟩

set_option maxRecDepth 100000 in
theorem lifted (os : Os) (started : os.Started) (H : Type) (enc : TypeId × Value → H) :
    ReturnsInHanded {} Try.checked os 10 .any (Rows.historyIsSpec.pre6 enc Try.prog Try.f10 Rows.historyIsRow.domain false) (Rows.historyIsSpec.post enc Try.prog Try.f10 false true false false) := by
  refine returnsInHanded_of_change (C := Try.checked) own started (by kernel_rfl) Try.func10
    (ChangeSpec.witness6 (enc := enc) (C := Try.checked) false ⟨#[], #[.agg #[.slice none 0 0, .int .i64 0], .slice none 0 0, .slice none 0 0, .int .i64 0], []⟩ 8 (by kernel_rfl) (by kernel_rfl) (by kernel_rfl) (by kernel_rfl)) ?_
  intro W base args ds gs before hval hW _ _
  exact contract H enc W base args ds gs before hval hW

theorem proved : Rows.HistoryIsSaid :=
  OpenClaim.holds_of_wide 10 Try.f10 rfl rfl rfl rfl rfl rfl rfl ⟨rfl, rfl, rfl, rfl, rfl⟩ rfl rfl rfl rfl rfl (by kernel_rfl) Try.func10 (by kernel_rfl)
    (of_decide_eq_true (by kernel_rfl)) (by unfold Func.isWrapper; first | (rw [if_pos (by decide +kernel)]; kernel_rfl) | (rw [if_neg (by decide +kernel)]; exact ⟨rfl, rfl⟩))
    (fun os started H enc _ => lifted os started H enc)
end Go.Proofs.Ytpnadnjcacaibaa.lawHis
