/- RowPuts, for every row that can be read. -/
import Derived.Test.YtpnadnjcacaibaaRowPuts
namespace Go.Proofs.Ytpnadnjcacaibaa.Row
open Go.RowKit
theorem puts_law (A : Option Addr) (n cap : Nat) (f : Nat → Cl) (wb : Bool) (dir : Int) (ex : Bool) (pl : Int) (c : Cl) (w : World) (hr : Rd w A n f) :
    Calls Try.prog 3 #[.agg #[.slice A n cap, .bool wb, .int .i64 dir, .bool ex], .int .i64 pl, .agg #[.int .i64 c.r, .int .i64 c.m0, .int .i64 c.m1, .int .i64 c.w, .int .i64 c.fg, .int .i64 c.bg, .int .i64 c.fl]] w fun e w' => e = .returned (.bool true) ∧ Grew w w' := by
  by_cases hn : n ≤ 300
  · cases hs : saneB n f dir
    · exact puts_insane A n cap f wb dir ex pl c w hr hn hs
    · exact puts_sane A n cap f wb dir ex pl c w hr hn hs
  · exact puts_long A n cap wb dir ex pl c w (by omega)
end Go.Proofs.Ytpnadnjcacaibaa.Row
