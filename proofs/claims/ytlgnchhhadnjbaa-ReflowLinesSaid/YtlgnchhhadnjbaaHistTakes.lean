/- Walk of lapwinglaw10.HistoryTakes. -/
import Derived.Test.YtlgnchhhadnjbaaRefC
import Derived.Test.YtlgnchhhadnjbaaRflP
namespace Go.Proofs.Ytlgnchhhadnjbaa.Row
open Go.RowKit
attribute [local go_sem] Nat.add_assoc Nat.add_pos_iff_pos_or_pos lt_add_r2 le_add_r2
theorem saner8_c (r : Rw) (w : World) (hr : r.ok w) : Calls Try.prog 35 #[.agg #[.slice r.A r.n r.cap, .bool r.wb, .int .i64 r.dir, .bool r.ex]] w fun e w' => e = .returned (.bool (saneRw r)) ∧ Grew w w' :=
  sane8_c r.A r.n r.cap r.f r.wb r.dir r.ex w hr.1 hr.2.2 hr.2.1
/-- what is pushed is taken again -/
theorem takes_plain (L M : List Rw) (c nn le : Nat) (hn : nn = min M.length c) (hl : le = min L.length (c - nn)) :
    ((L ++ M).drop ((L ++ M).length - c)).length = nn + le ∧ ((L ++ M).drop ((L ++ M).length - c)).drop le = M.drop (M.length - nn) ∧ ((L ++ M).drop ((L ++ M).length - c)).take le = L.drop (L.length - le) := by
  have e1 : ((L ++ M).drop ((L ++ M).length - c)).length = nn + le := by
    rw [List.length_drop, List.length_append]
    omega
  refine ⟨e1, ?_, ?_⟩
  · rw [List.drop_drop, List.length_append]
    have h : L.length + M.length - c + le = L.length + (M.length - nn) := by omega
    rw [h, ← List.drop_drop, List.drop_left]
  · by_cases h0 : le = 0
    · rw [h0, List.take_zero, Nat.sub_zero, List.drop_length]
    · rw [List.length_append, List.drop_append_of_le_length (by omega), show L.length + M.length - c = L.length - le by omega, List.take_append_of_le_length (by rw [List.length_drop]; omega)]
      exact List.take_of_length_le (by rw [List.length_drop]; omega)

end Go.Proofs.Ytlgnchhhadnjbaa.Row
