/- Functions of the Go program as Lean functions, and proofs about them, merged out of this session's texts by its program bundle.py; conditions: those that each theorem states. -/
import Derived.Test.YtpolkndhjcdheaaBFnDates1
import Derived.Test.YtpolkndhjcdheaaP0
import Derived.Test.YtpolkndhjcdheaaPimplDateAt
import Derived.Test.YtpolkndhjcdheaaPimplDateOk
import Derived.Test.YtpolkndhjcdheaaPimplDays
import Derived.Test.YtpolkndhjcdheaaPimplLeap
import Derived.Test.YtpolkndhjcdheaaPimplMoment
import Derived.Test.YtpolkndhjcdheaaPimplWeekday
import Derived.Test.YtpolkndhjcdheaaPspecDateAt
import Derived.Test.YtpolkndhjcdheaaPspecDateOk
import Derived.Test.YtpolkndhjcdheaaPspecDays
import Derived.Test.YtpolkndhjcdheaaPspecDrawDateAt
import Derived.Test.YtpolkndhjcdheaaPspecLeap
import Derived.Test.YtpolkndhjcdheaaPspecMoment
import Derived.Test.YtpolkndhjcdheaaPspecWeekday
import Derived.Test.YtpolkndhjcdheaaXA
namespace Go.Proofs.Ytpolkndhjcdheaa.P
open Go.RowKit Go.Proofs.YtpolkndhjcdheaaW.PrintWords Go.Proofs.YtpolkndhjcdheaaW.PrintLast Go.Proofs.YtpolkndhjcdheaaW.PrintMore
attribute [local go_sem] max2_int min2_int max_two min_two max_three min_three max_four min_four   -- for this text's walks alone
set_option linter.unusedVariables false
set_option linter.unusedSimpArgs false

attribute [local go_sem high] eqA25
/-! ### laws_FnDates: function 3 -/
abbrev laws_FnDates.d0 : Array Bool := #[false, false, false, false, false, false, false, false, false, false, false, false, false, false, false, false, false, false, false, false, false, false, false, false, false, false, false, false, false, false, false, false, false, false, false, false, false, false]
abbrev laws_FnDates.d1 : Array Bool := #[true, false, false, false, false, false, false, false, false, false, false, false, false, false, false, false, false, false, false, false, false, false, false, false, false, false, false, false, false, false, false, false, false, false, false, false, false, false]
abbrev laws_FnDates.d2 : Array Bool := #[true, true, false, false, false, false, false, false, false, false, false, false, false, false, false, false, false, false, false, false, false, false, false, false, false, false, false, false, false, false, false, false, false, false, false, false, false, false]
abbrev laws_FnDates.d3 : Array Bool := #[true, true, true, false, false, false, false, false, false, false, false, false, false, false, false, false, false, false, false, false, false, false, false, false, false, false, false, false, false, false, false, false, false, false, false, false, false, false]
abbrev laws_FnDates.d4 : Array Bool := #[true, true, true, true, false, false, false, false, false, false, false, false, false, false, false, false, false, false, false, false, false, false, false, false, false, false, false, false, false, false, false, false, false, false, false, false, false, false]
abbrev laws_FnDates.d5 : Array Bool := #[true, true, true, true, true, false, false, false, false, false, false, false, false, false, false, false, false, false, false, false, false, false, false, false, false, false, false, false, false, false, false, false, false, false, false, false, false, false]
abbrev laws_FnDates.d6 : Array Bool := #[true, true, true, true, true, false, true, false, false, false, false, false, false, false, false, false, false, false, false, false, false, false, false, false, false, false, false, false, false, false, false, false, false, false, false, false, false, false]
abbrev laws_FnDates.d7 : Array Bool := #[true, true, true, true, true, true, true, false, false, false, false, false, false, false, false, false, false, false, false, false, false, false, false, false, false, false, false, false, false, false, false, false, false, false, false, false, false, false]
abbrev laws_FnDates.d8 : Array Bool := #[true, true, true, true, true, true, true, true, false, false, false, false, false, false, false, false, false, false, false, false, false, false, false, false, false, false, false, false, false, false, false, false, false, false, false, false, false, false]
abbrev laws_FnDates.d9 : Array Bool := #[true, true, true, true, true, true, true, true, true, false, false, false, false, false, false, false, false, false, false, false, false, false, false, false, false, false, false, false, false, false, false, false, false, false, false, false, false, false]
abbrev laws_FnDates.d10 : Array Bool := #[true, true, true, true, true, true, true, true, true, true, false, false, false, false, false, false, false, false, false, false, false, false, false, false, false, false, false, false, false, false, false, false, false, false, false, false, false, false]
abbrev laws_FnDates.d11 : Array Bool := #[true, true, true, true, true, true, true, true, true, true, true, false, false, false, false, false, false, false, false, false, false, false, false, false, false, false, false, false, false, false, false, false, false, false, false, false, false, false]
abbrev laws_FnDates.d12 : Array Bool := #[true, true, true, true, true, true, true, true, true, true, true, true, false, false, false, false, false, false, false, false, false, false, false, false, false, false, false, false, false, false, false, false, false, false, false, false, false, false]
abbrev laws_FnDates.d13 : Array Bool := #[true, true, true, true, true, true, true, true, true, true, true, true, true, false, false, false, false, false, false, false, false, false, false, false, false, false, false, false, false, false, false, false, false, false, false, false, false, false]
abbrev laws_FnDates.d14 : Array Bool := #[true, true, true, true, true, true, true, true, true, true, true, true, true, true, false, false, false, false, false, false, false, false, false, false, false, false, false, false, false, false, false, false, false, false, false, false, false, false]
abbrev laws_FnDates.d15 : Array Bool := #[true, true, true, true, true, true, true, true, true, true, true, true, true, true, true, false, false, false, false, false, false, false, false, false, false, false, false, false, false, false, false, false, false, false, false, false, false, false]
abbrev laws_FnDates.d16 : Array Bool := #[true, true, true, true, true, true, true, true, true, true, true, true, true, true, true, true, false, false, false, false, false, false, false, false, false, false, false, false, false, false, false, false, false, false, false, false, false, false]
abbrev laws_FnDates.d17 : Array Bool := #[true, true, true, true, true, true, true, true, true, true, true, true, true, true, true, true, true, false, false, false, false, false, false, false, false, false, false, false, false, false, false, false, false, false, false, false, false, false]
abbrev laws_FnDates.d18 : Array Bool := #[true, true, true, true, true, true, true, true, true, true, true, true, true, true, true, true, true, true, false, false, false, false, false, false, false, false, false, false, false, false, false, false, false, false, false, false, false, false]
abbrev laws_FnDates.d19 : Array Bool := #[true, true, true, true, true, true, true, true, true, true, true, true, true, true, true, true, true, true, true, false, false, false, false, false, false, false, false, false, false, false, false, false, false, false, false, false, false, false]
abbrev laws_FnDates.d20 : Array Bool := #[true, true, true, true, true, true, true, true, true, true, true, true, true, true, true, true, true, true, true, true, false, false, false, false, false, false, false, false, false, false, false, false, false, false, false, false, false, false]
abbrev laws_FnDates.d21 : Array Bool := #[true, true, true, true, true, true, true, true, true, true, true, true, true, true, true, true, true, true, true, true, true, false, false, false, false, false, false, false, false, false, false, false, false, false, false, false, false, false]
abbrev laws_FnDates.d22 : Array Bool := #[true, true, true, true, true, true, true, true, true, true, true, true, true, true, true, true, true, true, true, true, true, true, false, false, false, false, false, false, false, false, false, false, false, false, false, false, false, false]
abbrev laws_FnDates.d23 : Array Bool := #[true, true, true, true, true, true, true, true, true, true, true, true, true, true, true, true, true, true, true, true, true, true, true, false, false, false, false, false, false, false, false, false, false, false, false, false, false, false]
abbrev laws_FnDates.d24 : Array Bool := #[true, true, true, true, true, true, true, true, true, true, true, true, true, true, true, true, true, true, true, true, true, true, true, true, false, false, false, false, false, false, false, false, false, false, false, false, false, false]
abbrev laws_FnDates.d25 : Array Bool := #[true, true, true, true, true, true, true, true, true, true, true, true, true, true, true, true, true, true, true, true, true, true, true, true, true, false, false, false, false, false, false, false, false, false, false, false, false, false]
abbrev laws_FnDates.d26 : Array Bool := #[true, true, true, true, true, true, true, true, true, true, true, true, true, true, true, true, true, true, true, true, true, true, true, true, true, true, false, false, false, false, false, false, false, false, false, false, false, false]
abbrev laws_FnDates.d27 : Array Bool := #[true, true, true, true, true, true, true, true, true, true, true, true, true, true, true, true, true, true, true, true, true, true, true, true, true, true, true, false, false, false, false, false, false, false, false, false, false, false]
abbrev laws_FnDates.d28 : Array Bool := #[true, true, true, true, true, true, true, true, true, true, true, true, true, true, true, true, true, true, true, true, true, true, true, true, true, true, true, true, false, false, false, false, false, false, false, false, false, false]
abbrev laws_FnDates.d29 : Array Bool := #[true, true, true, true, true, true, true, true, true, true, true, true, true, true, true, true, true, true, true, true, true, true, true, true, true, true, true, true, true, false, false, false, false, false, false, false, false, false]
abbrev laws_FnDates.d30 : Array Bool := #[true, true, true, true, true, true, true, true, true, true, true, true, true, true, true, true, true, true, true, true, true, true, true, true, true, true, true, true, true, true, false, false, false, false, false, false, false, false]
abbrev laws_FnDates.d31 : Array Bool := #[true, true, true, true, true, true, true, true, true, true, true, true, true, true, true, true, true, true, true, true, true, true, true, true, true, true, true, true, true, true, true, false, false, false, false, false, false, false]
abbrev laws_FnDates.d32 : Array Bool := #[true, true, true, true, true, true, true, true, true, true, true, true, true, true, true, true, true, true, true, true, true, true, true, true, true, true, true, true, true, true, true, true, false, false, false, false, false, false]
abbrev laws_FnDates.d33 : Array Bool := #[true, true, true, true, true, true, true, true, true, true, true, true, true, true, true, true, true, true, true, true, true, true, true, true, true, true, true, true, true, true, true, true, true, false, false, false, false, false]
abbrev laws_FnDates.d34 : Array Bool := #[true, true, true, true, true, true, true, true, true, true, true, true, true, true, true, true, true, true, true, true, true, true, true, true, true, true, true, true, true, true, true, true, true, true, false, false, false, false]
abbrev laws_FnDates.d35 : Array Bool := #[true, true, true, true, true, true, true, true, true, true, true, true, true, true, true, true, true, true, true, true, true, true, true, true, true, true, true, true, true, true, true, true, true, true, true, false, false, false]
abbrev laws_FnDates.d36 : Array Bool := #[true, true, true, true, true, true, true, true, true, true, true, true, true, true, true, true, true, true, true, true, true, true, true, true, true, true, true, true, true, true, true, true, true, true, true, true, false, false]
abbrev laws_FnDates.d37 : Array Bool := #[true, true, true, true, true, true, true, true, true, true, true, true, true, true, true, true, true, true, true, true, true, true, true, true, true, true, true, true, true, true, true, true, true, true, true, true, true, false]
abbrev laws_FnDates.d38 : Array Bool := #[true, true, true, true, true, true, true, true, true, true, true, true, true, true, true, true, true, true, true, true, true, true, true, true, true, true, true, true, true, true, true, true, true, true, true, true, true, true]
abbrev laws_FnDates.d39 : Array Bool := #[true, true, true, true, true, true, true, true, true, true, true, true, false, true, false, false, false, false, false, false, false, false, false, false, false, false, false, false, false, false, false, false, false, false, false, false, false, false]
abbrev laws_FnDates.d40 : Array Bool := #[true, true, true, true, true, true, true, true, true, true, true, true, true, true, true, true, true, true, true, false, true, false, false, false, false, false, false, false, false, false, false, false, false, false, false, false, false, false]
abbrev laws_FnDates.d41 : Array Bool := #[true, true, true, true, true, true, true, true, true, true, true, true, true, true, true, true, true, true, true, true, true, true, true, true, true, true, false, true, false, false, false, false, false, false, false, false, false, false]
abbrev laws_FnDates.d42 : Array Bool := #[false, false, false, false, false, false, false, false, false, false, false]
abbrev laws_FnDates.d43 : Array Bool := #[true, false, false, false, false, false, false, false, false, false, false]
abbrev laws_FnDates.d44 : Array Bool := #[true, false, true, false, false, false, false, false, false, false, false]
abbrev laws_FnDates.d45 : Array Bool := #[true, true, true, false, false, false, false, false, false, false, false]
abbrev laws_FnDates.d46 : Array Bool := #[true, true, true, true, false, false, false, false, false, false, false]
abbrev laws_FnDates.d47 : Array Bool := #[true, true, true, true, true, false, false, false, false, false, false]
abbrev laws_FnDates.d48 : Array Bool := #[true, true, true, true, true, true, true, true, true, false, false]
abbrev laws_FnDates.d49 : Array Bool := #[true, true, true, true, true, true, true, true, true, true, false]
abbrev laws_FnDates.d50 : Array Bool := #[true, true, true, true, true, true, true, true, true, true, true]
abbrev laws_FnDates.d51 : Array Bool := #[false, false, false, false, false, false, false, false, false, false, false, false, false, false, false, false, false, false]
abbrev laws_FnDates.d52 : Array Bool := #[true, false, false, false, false, false, false, false, false, false, false, false, false, false, false, false, false, false]
abbrev laws_FnDates.d53 : Array Bool := #[true, true, false, false, false, false, false, false, false, false, false, false, false, false, false, false, false, false]
abbrev laws_FnDates.d54 : Array Bool := #[true, true, true, false, false, false, false, false, false, false, false, false, false, false, false, false, false, false]
abbrev laws_FnDates.d55 : Array Bool := #[true, true, true, false, true, false, false, false, false, false, false, false, false, false, false, false, false, false]
abbrev laws_FnDates.d56 : Array Bool := #[true, true, true, true, true, false, false, false, false, false, false, false, false, false, false, false, false, false]
abbrev laws_FnDates.d57 : Array Bool := #[true, true, true, true, true, true, false, false, false, false, false, false, false, false, false, false, false, false]
abbrev laws_FnDates.d58 : Array Bool := #[true, true, true, true, true, true, true, false, false, false, false, false, false, false, false, false, false, false]
abbrev laws_FnDates.d59 : Array Bool := #[true, true, true, true, true, true, true, true, false, false, false, false, false, false, false, false, false, false]
abbrev laws_FnDates.d60 : Array Bool := #[true, true, true, true, true, true, true, true, true, false, false, false, false, false, false, false, false, false]
abbrev laws_FnDates.d61 : Array Bool := #[true, true, true, true, true, true, true, true, true, true, false, false, false, false, false, false, false, false]
abbrev laws_FnDates.d62 : Array Bool := #[true, true, true, true, true, true, true, true, true, true, true, false, false, false, false, false, false, false]
abbrev laws_FnDates.d63 : Array Bool := #[true, true, true, true, true, true, true, true, true, true, true, true, false, false, false, false, false, false]
abbrev laws_FnDates.d64 : Array Bool := #[true, true, true, true, true, true, true, true, true, true, true, true, false, true, false, false, false, false]
abbrev laws_FnDates.d65 : Array Bool := #[true, true, true, true, true, true, true, true, true, true, true, true, true, true, false, false, false, false]
abbrev laws_FnDates.d66 : Array Bool := #[true, true, true, true, true, true, true, true, true, true, true, true, true, true, true, false, false, false]
abbrev laws_FnDates.d67 : Array Bool := #[true, true, true, true, true, true, true, true, true, true, true, true, true, true, true, true, false, false]
abbrev laws_FnDates.d68 : Array Bool := #[true, true, true, true, true, true, true, true, true, true, true, true, true, true, true, true, true, false]
abbrev laws_FnDates.d69 : Array Bool := #[true, true, true, true, true, true, true, true, true, true, true, true, true, true, true, true, true, true]
abbrev laws_FnDates.d70 : Array Bool := #[true, true, true, true, true, true, true, true, true, true, true, true, true, false, false, false, false, false]
abbrev laws_FnDates.d71 : Array Bool := #[true, true, true, true, false, false, false, false, false, false, false, false, false, false, false, false, false, false]
mutual
def laws_FnDates.j0 : Nat → Int → Int → Bool → Int → Int → Int → Int → Int → Int → Int → Int → Int → Int → Int → Int → Option (Bool)
 | 0, _, _, _, _, _, _, _, _, _, _, _, _, _, _, _ => none
 | k + 1, x4, x5, x56, x109000, x109001, x109002, x109003, x109004, x109005, x118000, x118001, x118002, x118003, x118004, x118005 => if x56 = true then (some false) else (if x5 ≥ 0 then (if x5 ≤ 253402300799 then ((impl_Moment.f k x118000 x118001 x118002 x118003 x118004 x118005).bind fun t133 => (laws_FnDates.j1 k x4 (t133 != x5) x109000 x109001 x109002 x109003 x109004 x109005)) else (laws_FnDates.j1 k x4 false x109000 x109001 x109002 x109003 x109004 x109005)) else (laws_FnDates.j1 k x4 false x109000 x109001 x109002 x109003 x109004 x109005))
def laws_FnDates.j1 : Nat → Int → Bool → Int → Int → Int → Int → Int → Int → Option (Bool)
 | 0, _, _, _, _, _, _, _, _ => none
 | k + 1, x4, x68, x109000, x109001, x109002, x109003, x109004, x109005 => if x68 = true then (some false) else (if x4 < 0 then ((impl_DateOk.f k x109000 x109001 x109002 x109003 x109004 x109005).bind fun t134 => (some (!t134))) else ((impl_DateAt.f k x4).bind fun bt135 => (if (!(bt135.1 == x109000) || (!(bt135.2.1 == x109001) || (!(bt135.2.2.1 == x109002) || (!(bt135.2.2.2.1 == x109003) || (!(bt135.2.2.2.2.1 == x109004) || (!(bt135.2.2.2.2.2 == x109005))))))) = true then (laws_FnDates.j2 k x4 true x109000 x109001 x109002 x109003 x109004 x109005) else ((impl_Days.f k x109000 x109001 x109002 x109003 x109004 x109005).bind fun t141 => (laws_FnDates.j2 k x4 (t141 != (wrap64 (Int.tdiv x4 86400))) x109000 x109001 x109002 x109003 x109004 x109005)))))
def laws_FnDates.j2 : Nat → Int → Bool → Int → Int → Int → Int → Int → Int → Option (Bool)
 | 0, _, _, _, _, _, _, _, _ => none
 | k + 1, x4, x84, x109000, x109001, x109002, x109003, x109004, x109005 => if x84 = true then (some false) else (if (wrap64 (x4 + 86400)) > 253402300799 then (some true) else ((impl_DateAt.f k (wrap64 (x4 + 86400))).bind fun bt142 => (if bt142.1 > x109000 then ((impl_Weekday.f k bt142.1 bt142.2.1 bt142.2.2.1 bt142.2.2.2.1 bt142.2.2.2.2.1 bt142.2.2.2.2.2).bind fun t149 => ((impl_Weekday.f k x109000 x109001 x109002 x109003 x109004 x109005).bind fun t150 => (if t149 = (Int.tmod (wrap64 (t150 + 1)) 7) then (some (bt142.2.2.2.1 == x109003)) else (some false)))) else (if bt142.1 = x109000 then (if bt142.2.1 > x109001 then ((impl_Weekday.f k bt142.1 bt142.2.1 bt142.2.2.1 bt142.2.2.2.1 bt142.2.2.2.2.1 bt142.2.2.2.2.2).bind fun t151 => ((impl_Weekday.f k x109000 x109001 x109002 x109003 x109004 x109005).bind fun t152 => (if t151 = (Int.tmod (wrap64 (t152 + 1)) 7) then (some (bt142.2.2.2.1 == x109003)) else (some false)))) else (if bt142.2.1 = x109001 then (if bt142.2.2.1 = (wrap64 (x109002 + 1)) then ((impl_Weekday.f k bt142.1 bt142.2.1 bt142.2.2.1 bt142.2.2.2.1 bt142.2.2.2.2.1 bt142.2.2.2.2.2).bind fun t153 => ((impl_Weekday.f k x109000 x109001 x109002 x109003 x109004 x109005).bind fun t154 => (if t153 = (Int.tmod (wrap64 (t154 + 1)) 7) then (some (bt142.2.2.2.1 == x109003)) else (some false)))) else (some false)) else (some false))) else (some false)))))
end
def laws_FnDates.f (k : Nat) (l0 : List Int) : Option (Bool) := (laws_big.f l0).bind fun t101 => (if t101 = true then (some true) else ((spec_DrawMoment.f k l0).bind fun bt102 => ((impl_Moment.f k bt102.1 bt102.2.1 bt102.2.2.1 bt102.2.2.2.1 bt102.2.2.2.2.1 bt102.2.2.2.2.2).bind fun t109 => ((spec_DrawDateAt.f k l0).bind fun t110 => ((impl_DateAt.f k t110).bind fun bt111 => ((spec_Moment.f k bt102.1 bt102.2.1 bt102.2.2.1 bt102.2.2.2.1 bt102.2.2.2.2.1 bt102.2.2.2.2.2).bind fun t118 => (if t109 = t118 then ((spec_DateAt.f k t110).bind fun bt119 => (if (!(bt111.1 == bt119.1) || (!(bt111.2.1 == bt119.2.1) || (!(bt111.2.2.1 == bt119.2.2.1) || (!(bt111.2.2.2.1 == bt119.2.2.2.1) || (!(bt111.2.2.2.2.1 == bt119.2.2.2.2.1) || (!(bt111.2.2.2.2.2 == bt119.2.2.2.2.2))))))) = true then (laws_FnDates.j0 k t109 t110 true bt102.1 bt102.2.1 bt102.2.2.1 bt102.2.2.2.1 bt102.2.2.2.2.1 bt102.2.2.2.2.2 bt111.1 bt111.2.1 bt111.2.2.1 bt111.2.2.2.1 bt111.2.2.2.2.1 bt111.2.2.2.2.2) else ((impl_Days.f k bt102.1 bt102.2.1 bt102.2.2.1 bt102.2.2.2.1 bt102.2.2.2.2.1 bt102.2.2.2.2.2).bind fun t125 => ((spec_Days.f k bt102.1 bt102.2.1 bt102.2.2.1 bt102.2.2.2.1 bt102.2.2.2.2.1 bt102.2.2.2.2.2).bind fun t126 => (if t125 = t126 then ((impl_Weekday.f k bt102.1 bt102.2.1 bt102.2.2.1 bt102.2.2.2.1 bt102.2.2.2.2.1 bt102.2.2.2.2.2).bind fun t127 => ((spec_Weekday.f k bt102.1 bt102.2.1 bt102.2.2.1 bt102.2.2.2.1 bt102.2.2.2.2.1 bt102.2.2.2.2.2).bind fun t128 => (if t127 = t128 then ((impl_DateOk.f k bt102.1 bt102.2.1 bt102.2.2.1 bt102.2.2.2.1 bt102.2.2.2.2.1 bt102.2.2.2.2.2).bind fun t129 => ((spec_DateOk.f bt102.1 bt102.2.1 bt102.2.2.1 bt102.2.2.2.1 bt102.2.2.2.2.1 bt102.2.2.2.2.2).bind fun t130 => (if (t129 != t130) = true then (laws_FnDates.j0 k t109 t110 true bt102.1 bt102.2.1 bt102.2.2.1 bt102.2.2.2.1 bt102.2.2.2.2.1 bt102.2.2.2.2.2 bt111.1 bt111.2.1 bt111.2.2.1 bt111.2.2.2.1 bt111.2.2.2.2.1 bt111.2.2.2.2.2) else ((impl_Leap.f t110).bind fun t131 => ((spec_Leap.f t110).bind fun t132 => (laws_FnDates.j0 k t109 t110 (t131 != t132) bt102.1 bt102.2.1 bt102.2.2.1 bt102.2.2.2.1 bt102.2.2.2.2.1 bt102.2.2.2.2.2 bt111.1 bt111.2.1 bt111.2.2.1 bt111.2.2.2.1 bt111.2.2.2.2.1 bt111.2.2.2.2.2)))))) else (laws_FnDates.j0 k t109 t110 true bt102.1 bt102.2.1 bt102.2.2.1 bt102.2.2.2.1 bt102.2.2.2.2.1 bt102.2.2.2.2.2 bt111.1 bt111.2.1 bt111.2.2.1 bt111.2.2.2.1 bt111.2.2.2.2.1 bt111.2.2.2.2.2)))) else (laws_FnDates.j0 k t109 t110 true bt102.1 bt102.2.1 bt102.2.2.1 bt102.2.2.2.1 bt102.2.2.2.2.1 bt102.2.2.2.2.2 bt111.1 bt111.2.1 bt111.2.2.1 bt111.2.2.2.1 bt111.2.2.2.2.1 bt111.2.2.2.2.2)))))) else (laws_FnDates.j0 k t109 t110 true bt102.1 bt102.2.1 bt102.2.2.1 bt102.2.2.2.1 bt102.2.2.2.2.1 bt102.2.2.2.2.2 bt111.1 bt111.2.1 bt111.2.2.1 bt111.2.2.2.1 bt111.2.2.2.2.1 bt111.2.2.2.2.2))))))))
theorem laws_FnDates.mono_l : ∀ k, (∀ y0 y1 y2 y3 y4 y5 y6 y7 y8 y9 y10 y11 y12 y13 y14, LeO (laws_FnDates.j0 k y0 y1 y2 y3 y4 y5 y6 y7 y8 y9 y10 y11 y12 y13 y14) (laws_FnDates.j0 (k + 1) y0 y1 y2 y3 y4 y5 y6 y7 y8 y9 y10 y11 y12 y13 y14)) ∧ (∀ y0 y1 y2 y3 y4 y5 y6 y7, LeO (laws_FnDates.j1 k y0 y1 y2 y3 y4 y5 y6 y7) (laws_FnDates.j1 (k + 1) y0 y1 y2 y3 y4 y5 y6 y7)) ∧ (∀ y0 y1 y2 y3 y4 y5 y6 y7, LeO (laws_FnDates.j2 k y0 y1 y2 y3 y4 y5 y6 y7) (laws_FnDates.j2 (k + 1) y0 y1 y2 y3 y4 y5 y6 y7))
 | 0 => ⟨fun _ _ _ _ _ _ _ _ _ _ _ _ _ _ _ r h => by simp [laws_FnDates.j0] at h, fun _ _ _ _ _ _ _ _ r h => by simp [laws_FnDates.j1] at h, fun _ _ _ _ _ _ _ _ r h => by simp [laws_FnDates.j2] at h⟩
 | k + 1 => by
  obtain ⟨ih0, ih1, ih2⟩ := laws_FnDates.mono_l k
  refine ⟨?_, ?_, ?_⟩
  ·
   intro y0 y1 y2 y3 y4 y5 y6 y7 y8 y9 y10 y11 y12 y13 y14
   unfold laws_FnDates.j0
   repeat' first
   | (with_reducible exact ih0 _ _ _ _ _ _ _ _ _ _ _ _ _ _ _)
   | (with_reducible exact ih1 _ _ _ _ _ _ _ _)
   | (with_reducible exact ih2 _ _ _ _ _ _ _ _)
   | (with_reducible exact impl_DateAt.mono _ _)
   | (with_reducible exact impl_DateOk.mono _ _ _ _ _ _ _)
   | (with_reducible exact impl_Days.mono _ _ _ _ _ _ _)
   | (with_reducible exact impl_Moment.mono _ _ _ _ _ _ _)
   | (with_reducible exact impl_Weekday.mono _ _ _ _ _ _ _)
   | (with_reducible exact spec_DateAt.mono _ _)
   | (with_reducible exact spec_Days.mono _ _ _ _ _ _ _)
   | (with_reducible exact spec_DrawDateAt.mono _ _)
   | (with_reducible exact spec_DrawMoment.mono _ _)
   | (with_reducible exact spec_Moment.mono _ _ _ _ _ _ _)
   | (with_reducible exact spec_Weekday.mono _ _ _ _ _ _ _)
   | (with_reducible exact LeO.refl _)
   | (with_reducible exact LeO.none _)
   | (with_reducible refine LeO.ite ?_ ?_)
   | (with_reducible refine LeO.bind ?_ (fun _ => ?_))
   | exact ih0 _ _ _ _ _ _ _ _ _ _ _ _ _ _ _
   | exact ih1 _ _ _ _ _ _ _ _
   | exact ih2 _ _ _ _ _ _ _ _
   | exact impl_DateAt.mono _ _
   | exact impl_DateOk.mono _ _ _ _ _ _ _
   | exact impl_Days.mono _ _ _ _ _ _ _
   | exact impl_Moment.mono _ _ _ _ _ _ _
   | exact impl_Weekday.mono _ _ _ _ _ _ _
   | exact spec_DateAt.mono _ _
   | exact spec_Days.mono _ _ _ _ _ _ _
   | exact spec_DrawDateAt.mono _ _
   | exact spec_DrawMoment.mono _ _
   | exact spec_Moment.mono _ _ _ _ _ _ _
   | exact spec_Weekday.mono _ _ _ _ _ _ _
   | exact LeO.none _
   | refine LeO.ite ?_ ?_
   | refine LeO.bind ?_ (fun _ => ?_)
  ·
   intro y0 y1 y2 y3 y4 y5 y6 y7
   unfold laws_FnDates.j1
   repeat' first
   | (with_reducible exact ih0 _ _ _ _ _ _ _ _ _ _ _ _ _ _ _)
   | (with_reducible exact ih1 _ _ _ _ _ _ _ _)
   | (with_reducible exact ih2 _ _ _ _ _ _ _ _)
   | (with_reducible exact impl_DateAt.mono _ _)
   | (with_reducible exact impl_DateOk.mono _ _ _ _ _ _ _)
   | (with_reducible exact impl_Days.mono _ _ _ _ _ _ _)
   | (with_reducible exact impl_Moment.mono _ _ _ _ _ _ _)
   | (with_reducible exact impl_Weekday.mono _ _ _ _ _ _ _)
   | (with_reducible exact spec_DateAt.mono _ _)
   | (with_reducible exact spec_Days.mono _ _ _ _ _ _ _)
   | (with_reducible exact spec_DrawDateAt.mono _ _)
   | (with_reducible exact spec_DrawMoment.mono _ _)
   | (with_reducible exact spec_Moment.mono _ _ _ _ _ _ _)
   | (with_reducible exact spec_Weekday.mono _ _ _ _ _ _ _)
   | (with_reducible exact LeO.refl _)
   | (with_reducible exact LeO.none _)
   | (with_reducible refine LeO.ite ?_ ?_)
   | (with_reducible refine LeO.bind ?_ (fun _ => ?_))
   | exact ih0 _ _ _ _ _ _ _ _ _ _ _ _ _ _ _
   | exact ih1 _ _ _ _ _ _ _ _
   | exact ih2 _ _ _ _ _ _ _ _
   | exact impl_DateAt.mono _ _
   | exact impl_DateOk.mono _ _ _ _ _ _ _
   | exact impl_Days.mono _ _ _ _ _ _ _
   | exact impl_Moment.mono _ _ _ _ _ _ _
   | exact impl_Weekday.mono _ _ _ _ _ _ _
   | exact spec_DateAt.mono _ _
   | exact spec_Days.mono _ _ _ _ _ _ _
   | exact spec_DrawDateAt.mono _ _
   | exact spec_DrawMoment.mono _ _
   | exact spec_Moment.mono _ _ _ _ _ _ _
   | exact spec_Weekday.mono _ _ _ _ _ _ _
   | exact LeO.none _
   | refine LeO.ite ?_ ?_
   | refine LeO.bind ?_ (fun _ => ?_)
  ·
   intro y0 y1 y2 y3 y4 y5 y6 y7
   unfold laws_FnDates.j2
   repeat' first
   | (with_reducible exact ih0 _ _ _ _ _ _ _ _ _ _ _ _ _ _ _)
   | (with_reducible exact ih1 _ _ _ _ _ _ _ _)
   | (with_reducible exact ih2 _ _ _ _ _ _ _ _)
   | (with_reducible exact impl_DateAt.mono _ _)
   | (with_reducible exact impl_DateOk.mono _ _ _ _ _ _ _)
   | (with_reducible exact impl_Days.mono _ _ _ _ _ _ _)
   | (with_reducible exact impl_Moment.mono _ _ _ _ _ _ _)
   | (with_reducible exact impl_Weekday.mono _ _ _ _ _ _ _)
   | (with_reducible exact spec_DateAt.mono _ _)
   | (with_reducible exact spec_Days.mono _ _ _ _ _ _ _)
   | (with_reducible exact spec_DrawDateAt.mono _ _)
   | (with_reducible exact spec_DrawMoment.mono _ _)
   | (with_reducible exact spec_Moment.mono _ _ _ _ _ _ _)
   | (with_reducible exact spec_Weekday.mono _ _ _ _ _ _ _)
   | (with_reducible exact LeO.refl _)
   | (with_reducible exact LeO.none _)
   | (with_reducible refine LeO.ite ?_ ?_)
   | (with_reducible refine LeO.bind ?_ (fun _ => ?_))
   | exact ih0 _ _ _ _ _ _ _ _ _ _ _ _ _ _ _
   | exact ih1 _ _ _ _ _ _ _ _
   | exact ih2 _ _ _ _ _ _ _ _
   | exact impl_DateAt.mono _ _
   | exact impl_DateOk.mono _ _ _ _ _ _ _
   | exact impl_Days.mono _ _ _ _ _ _ _
   | exact impl_Moment.mono _ _ _ _ _ _ _
   | exact impl_Weekday.mono _ _ _ _ _ _ _
   | exact spec_DateAt.mono _ _
   | exact spec_Days.mono _ _ _ _ _ _ _
   | exact spec_DrawDateAt.mono _ _
   | exact spec_DrawMoment.mono _ _
   | exact spec_Moment.mono _ _ _ _ _ _ _
   | exact spec_Weekday.mono _ _ _ _ _ _ _
   | exact LeO.none _
   | refine LeO.ite ?_ ?_
   | refine LeO.bind ?_ (fun _ => ?_)
theorem laws_FnDates.mono : ∀ a0 k, LeO (laws_FnDates.f k a0) (laws_FnDates.f (k + 1) a0) := by
 intro a0 k
 obtain ⟨ih0, ih1, ih2⟩ := laws_FnDates.mono_l k
 unfold laws_FnDates.f
 repeat' first
   | (with_reducible exact ih0 _ _ _ _ _ _ _ _ _ _ _ _ _ _ _)
   | (with_reducible exact ih1 _ _ _ _ _ _ _ _)
   | (with_reducible exact ih2 _ _ _ _ _ _ _ _)
   | (with_reducible exact impl_DateAt.mono _ _)
   | (with_reducible exact impl_DateOk.mono _ _ _ _ _ _ _)
   | (with_reducible exact impl_Days.mono _ _ _ _ _ _ _)
   | (with_reducible exact impl_Moment.mono _ _ _ _ _ _ _)
   | (with_reducible exact impl_Weekday.mono _ _ _ _ _ _ _)
   | (with_reducible exact spec_DateAt.mono _ _)
   | (with_reducible exact spec_Days.mono _ _ _ _ _ _ _)
   | (with_reducible exact spec_DrawDateAt.mono _ _)
   | (with_reducible exact spec_DrawMoment.mono _ _)
   | (with_reducible exact spec_Moment.mono _ _ _ _ _ _ _)
   | (with_reducible exact spec_Weekday.mono _ _ _ _ _ _ _)
   | (with_reducible exact LeO.refl _)
   | (with_reducible exact LeO.none _)
   | (with_reducible refine LeO.ite ?_ ?_)
   | (with_reducible refine LeO.bind ?_ (fun _ => ?_))
   | exact ih0 _ _ _ _ _ _ _ _ _ _ _ _ _ _ _
   | exact ih1 _ _ _ _ _ _ _ _
   | exact ih2 _ _ _ _ _ _ _ _
   | exact impl_DateAt.mono _ _
   | exact impl_DateOk.mono _ _ _ _ _ _ _
   | exact impl_Days.mono _ _ _ _ _ _ _
   | exact impl_Moment.mono _ _ _ _ _ _ _
   | exact impl_Weekday.mono _ _ _ _ _ _ _
   | exact spec_DateAt.mono _ _
   | exact spec_Days.mono _ _ _ _ _ _ _
   | exact spec_DrawDateAt.mono _ _
   | exact spec_DrawMoment.mono _ _
   | exact spec_Moment.mono _ _ _ _ _ _ _
   | exact spec_Weekday.mono _ _ _ _ _ _ _
   | exact LeO.none _
   | refine LeO.ite ?_ ?_
   | refine LeO.bind ?_ (fun _ => ?_)
def laws_FnDates.T7 : Bool × List (List Nat × List Nat) := (true, [([], []), ([], []), ([1], [1]), ([0, 2], [0, 2]), ([3, 2], [3]), ([4], [4]), ([4], [4]), ([6, 4, 4], [4, 6]), ([5, 7, 4], [4, 5, 7]), ([4, 8], [4, 8]), ([9, 7], [9]), ([10], [10]), ([11, 10, 10], [10, 11]), ([10], [10]), ([13, 12, 10], [10, 13]), ([12, 14, 10], [10, 12, 14]), ([10, 15], [10, 15]), ([16, 14], [16]), ([17], [17]), ([18, 17, 17], [17, 18]), ([17], [17]), ([20, 19, 17], [17, 20]), ([19, 21, 17], [17, 19, 21]), ([17, 22], [17, 22]), ([23, 21], [23]), ([24], [24]), ([25, 24, 24], [24, 25]), ([24], [24]), ([27, 26, 24], [24, 27]), ([26, 28, 24], [24, 26, 28]), ([24, 29], [24, 29]), ([30, 28], [30]), ([31], [31]), ([32, 31, 31], [31, 32]), ([31], [31]), ([34, 33, 31], [31, 34]), ([33, 35, 31], [31, 33, 35]), ([31, 36], [31, 36])])
def laws_FnDates.B7 : List Nat := [0, 0, 2, 7, 15, 31, 31, 95, 255, 511, 1023, 2047, 4095, 2047, 16383, 32767, 65535, 131071, 262143, 524287, 262143, 2097151, 4194303, 8388607, 16777215, 33554431, 67108863, 33554431, 268435455, 536870911, 1073741823, 2147483647, 4294967295, 8589934591, 4294967295, 34359738367, 68719476735, 137438953471]
theorem laws_FnDates.tab7 : rtab .any (opsOf Try.f3 7) = laws_FnDates.T7 := by kernel_rfl
theorem laws_FnDates.bits7 : waitsOk laws_FnDates.T7.2 laws_FnDates.B7 = true := by kernel_rfl
def laws_FnDates.T13 : Bool × List (List Nat × List Nat) := (true, [([], []), ([0], [0]), ([], []), ([1, 2], [1, 2]), ([3, 1], [3]), ([4], [4]), ([5, 4, 4], [4, 5]), ([4], [4]), ([7, 4], [4, 7]), ([6, 8, 4], [4, 6, 8]), ([4, 9], [4, 9])])
def laws_FnDates.B13 : List Nat := [0, 1, 0, 7, 15, 31, 63, 31, 159, 511, 1023]
theorem laws_FnDates.tab13 : rtab .any (opsOf Try.f3 13) = laws_FnDates.T13 := by kernel_rfl
theorem laws_FnDates.bits13 : waitsOk laws_FnDates.T13.2 laws_FnDates.B13 = true := by kernel_rfl
def laws_FnDates.T19 : Bool × List (List Nat × List Nat) := (true, [([], []), ([0], [0]), ([1], [1]), ([2, 1, 1], [1, 2]), ([1], [1]), ([4, 3, 1], [1, 4]), ([5, 1], [1, 5]), ([6, 1], [1, 6]), ([3, 7, 1], [1, 3, 7]), ([1, 8], [1, 8]), ([9, 5], [9]), ([10], [10]), ([11, 10], [10, 11]), ([10], [10]), ([13, 10], [10, 13]), ([12, 14, 10], [10, 12, 14]), ([10, 15], [10, 15]), ([16, 10, 0, 1, 2, 3, 4, 5, 6, 7, 8, 9, 10, 11, 12, 13, 14, 15, 16], [16])])
def laws_FnDates.B19 : List Nat := [0, 1, 3, 7, 3, 31, 63, 127, 255, 511, 1023, 2047, 4095, 2047, 10239, 32767, 65535, 131071]
theorem laws_FnDates.tab19 : rtab .any (opsOf Try.f3 19) = laws_FnDates.T19 := by kernel_rfl
theorem laws_FnDates.bits19 : waitsOk laws_FnDates.T19.2 laws_FnDates.B19 = true := by kernel_rfl
set_option maxHeartbeats 8000000 in
set_option maxRecDepth 100000 in
theorem laws_FnDates.calls (k : Nat) (A0 : Option Addr) (c0 : Nat) (l0 : List Int) (r : Bool) (w : World) (hr0 : Kd.C (Kd.int .u8) w A0 l0.length l0) (hc0 : l0.length ≤ c0) (h : laws_FnDates.f k l0 = some r) :
  Calls Try.prog 3 #[.slice A0 l0.length c0] w fun e w' => e = .returned (.bool r) ∧ Below w.heap.size w w' := by
 have hu25 := Try.underlying25
 have HR0 := Aside0.mk hr0
 have HC0 := Aside0.mk hc0
 clear hr0 hc0
 have HB := Aside0.mk (Below.refl w.heap.size w)
 have H : ((laws_big.f l0).bind fun t101 => (if t101 = true then (some true) else ((spec_DrawMoment.f k l0).bind fun bt102 => ((impl_Moment.f k bt102.1 bt102.2.1 bt102.2.2.1 bt102.2.2.2.1 bt102.2.2.2.2.1 bt102.2.2.2.2.2).bind fun t109 => ((spec_DrawDateAt.f k l0).bind fun t110 => ((impl_DateAt.f k t110).bind fun bt111 => ((spec_Moment.f k bt102.1 bt102.2.1 bt102.2.2.1 bt102.2.2.2.1 bt102.2.2.2.2.1 bt102.2.2.2.2.2).bind fun t118 => (if t109 = t118 then ((spec_DateAt.f k t110).bind fun bt119 => (if (!(bt111.1 == bt119.1) || (!(bt111.2.1 == bt119.2.1) || (!(bt111.2.2.1 == bt119.2.2.1) || (!(bt111.2.2.2.1 == bt119.2.2.2.1) || (!(bt111.2.2.2.2.1 == bt119.2.2.2.2.1) || (!(bt111.2.2.2.2.2 == bt119.2.2.2.2.2))))))) = true then (laws_FnDates.j0 k t109 t110 true bt102.1 bt102.2.1 bt102.2.2.1 bt102.2.2.2.1 bt102.2.2.2.2.1 bt102.2.2.2.2.2 bt111.1 bt111.2.1 bt111.2.2.1 bt111.2.2.2.1 bt111.2.2.2.2.1 bt111.2.2.2.2.2) else ((impl_Days.f k bt102.1 bt102.2.1 bt102.2.2.1 bt102.2.2.2.1 bt102.2.2.2.2.1 bt102.2.2.2.2.2).bind fun t125 => ((spec_Days.f k bt102.1 bt102.2.1 bt102.2.2.1 bt102.2.2.2.1 bt102.2.2.2.2.1 bt102.2.2.2.2.2).bind fun t126 => (if t125 = t126 then ((impl_Weekday.f k bt102.1 bt102.2.1 bt102.2.2.1 bt102.2.2.2.1 bt102.2.2.2.2.1 bt102.2.2.2.2.2).bind fun t127 => ((spec_Weekday.f k bt102.1 bt102.2.1 bt102.2.2.1 bt102.2.2.2.1 bt102.2.2.2.2.1 bt102.2.2.2.2.2).bind fun t128 => (if t127 = t128 then ((impl_DateOk.f k bt102.1 bt102.2.1 bt102.2.2.1 bt102.2.2.2.1 bt102.2.2.2.2.1 bt102.2.2.2.2.2).bind fun t129 => ((spec_DateOk.f bt102.1 bt102.2.1 bt102.2.2.1 bt102.2.2.2.1 bt102.2.2.2.2.1 bt102.2.2.2.2.2).bind fun t130 => (if (t129 != t130) = true then (laws_FnDates.j0 k t109 t110 true bt102.1 bt102.2.1 bt102.2.2.1 bt102.2.2.2.1 bt102.2.2.2.2.1 bt102.2.2.2.2.2 bt111.1 bt111.2.1 bt111.2.2.1 bt111.2.2.2.1 bt111.2.2.2.2.1 bt111.2.2.2.2.2) else ((impl_Leap.f t110).bind fun t131 => ((spec_Leap.f t110).bind fun t132 => (laws_FnDates.j0 k t109 t110 (t131 != t132) bt102.1 bt102.2.1 bt102.2.2.1 bt102.2.2.2.1 bt102.2.2.2.2.1 bt102.2.2.2.2.2 bt111.1 bt111.2.1 bt111.2.2.1 bt111.2.2.2.1 bt111.2.2.2.2.1 bt111.2.2.2.2.2)))))) else (laws_FnDates.j0 k t109 t110 true bt102.1 bt102.2.1 bt102.2.2.1 bt102.2.2.2.1 bt102.2.2.2.2.1 bt102.2.2.2.2.2 bt111.1 bt111.2.1 bt111.2.2.1 bt111.2.2.2.1 bt111.2.2.2.2.1 bt111.2.2.2.2.2)))) else (laws_FnDates.j0 k t109 t110 true bt102.1 bt102.2.1 bt102.2.2.1 bt102.2.2.2.1 bt102.2.2.2.2.1 bt102.2.2.2.2.2 bt111.1 bt111.2.1 bt111.2.2.1 bt111.2.2.2.1 bt111.2.2.2.2.1 bt111.2.2.2.2.2)))))) else (laws_FnDates.j0 k t109 t110 true bt102.1 bt102.2.1 bt102.2.2.1 bt102.2.2.2.1 bt102.2.2.2.2.1 bt102.2.2.2.2.2 bt111.1 bt111.2.1 bt111.2.2.1 bt111.2.2.2.1 bt111.2.2.2.2.1 bt111.2.2.2.2.2))))))))) = some r := h
 clear h
 obtain ⟨t101, A20, H⟩ := Option.bind_eq_some_iff.mp H
 try dsimp only at H
 have A2 := Aside0.mk A20
 clear A20
 by_cases c3 : t101 = true
 ·
  subst c3
  have H1 : (some true) = some r := by rw [if_pos rfl] at H; exact H
  clear H
  have H := H1
  clear H1
  obtain rfl := Option.some.inj H
  go_enter Try.func3, Try.ntmps3
  go_wp2_with (first | ((with_reducible refine gate_callee (f := 4) rfl ?_); refine goesL_ (some 10) rfl rfl Try.func4 (by kernel_rfl) rfl #[.slice A0 l0.length c0] rfl mc ?_; (with_reducible refine (laws_big.calls _ _ l0 true _ ?side1 ?side2 A2.out).mono ?_); (case side1 => repeat (first | exact HR0.out | (with_reducible refine Kd.C_alloc ?_ _) | (with_reducible refine Kd.C_drewN ?_ _) | (with_reducible refine Kd.C_drew ?_))); (case side2 => exact HC0.out); rintro e w' ⟨rfl, ⟨nd, rfl⟩⟩; refine ⟨_, rfl, ?_⟩))
  go_ret
  exact ⟨er, bh⟩
 ·
  replace c3 := Bool.eq_false_iff.mpr c3
  subst c3
  rw [if_neg (show ¬ (false = true) by decide)] at H
  obtain ⟨⟨t102, t103, t104, t105, t106, t107⟩, A40, H⟩ := Option.bind_eq_some_iff.mp H
  try dsimp only at H
  have A4 := Aside0.mk A40
  clear A40
  obtain ⟨t109, A50, H⟩ := Option.bind_eq_some_iff.mp H
  try dsimp only at H
  have A5 := Aside0.mk A50
  clear A50
  obtain ⟨t110, A60, H⟩ := Option.bind_eq_some_iff.mp H
  try dsimp only at H
  have A6 := Aside0.mk A60
  clear A60
  obtain ⟨⟨t111, t112, t113, t114, t115, t116⟩, A70, H⟩ := Option.bind_eq_some_iff.mp H
  try dsimp only at H
  have A7 := Aside0.mk A70
  clear A70
  have HC8 := Aside0.mk H
  clear H
  go_enter Try.func3, Try.ntmps3
  go_upto_region 7 with (first | ((with_reducible refine gate_callee (f := 4) rfl ?_); refine goesL_ (some 10) rfl rfl Try.func4 (by kernel_rfl) rfl #[.slice A0 l0.length c0] rfl mc ?_; (with_reducible refine (laws_big.calls _ _ l0 false _ ?side1 ?side2 A2.out).mono ?_); (case side1 => repeat (first | exact HR0.out | (with_reducible refine Kd.C_alloc ?_ _) | (with_reducible refine Kd.C_drewN ?_ _) | (with_reducible refine Kd.C_drew ?_))); (case side2 => exact HC0.out); rintro e w' ⟨rfl, ⟨nd, rfl⟩⟩; refine ⟨_, rfl, ?_⟩) | ((with_reducible refine gate_callee (f := 5) rfl ?_); refine goesL_ (some 12) rfl rfl Try.func5 (by kernel_rfl) rfl #[.slice A0 l0.length c0] rfl mc ?_; (with_reducible refine (spec_DrawMoment.calls k _ _ l0 t102 t103 t104 t105 t106 t107 _ ?side1 ?side2 A4.out).mono ?_); (case side1 => repeat (first | exact HR0.out | (with_reducible refine Kd.C_alloc ?_ _) | (with_reducible refine Kd.C_drewN ?_ _) | (with_reducible refine Kd.C_drew ?_))); (case side2 => exact HC0.out); rintro e w9 ⟨rfl, hb⟩; refine ⟨_, rfl, ?_⟩; replace HB := Aside0.mk (below_step bh hb); (try clear hb); (try clear hb2); (try clear hk); (try clear hi)) | ((with_reducible refine gate_dst (N := 3) rfl ?_); refine bx 3 #[.int .i64 0, .int .i64 0, .int .i64 0, .int .i64 0, .int .i64 0, .int .i64 0] 25 ?_; intro gb108 hg w10 hbox hb; have BK108 := Aside0.mk (hbox); have GW108 := Aside0.mk (bz hg); have GE108 := Aside0.mk (bz hg); replace HB := Aside0.mk (below_step bh hb); clear hb hbox hg; have hcz11_0 : w10.cell? ⟨gb108, 0, none⟩ = some (.int .i64 0) := bc BK108 0; have hcz11_1 : w10.cell? ⟨gb108, 1, none⟩ = some (.int .i64 0) := bc BK108 1; have hcz11_2 : w10.cell? ⟨gb108, 2, none⟩ = some (.int .i64 0) := bc BK108 2; have hcz11_3 : w10.cell? ⟨gb108, 3, none⟩ = some (.int .i64 0) := bc BK108 3; have hcz11_4 : w10.cell? ⟨gb108, 4, none⟩ = some (.int .i64 0) := bc BK108 4; have hcz11_5 : w10.cell? ⟨gb108, 5, none⟩ = some (.int .i64 0) := bc BK108 5; have hfz11_0 := blk_frozen BK108.out 0; have hfz11_1 := blk_frozen BK108.out 1; have hfz11_2 := blk_frozen BK108.out 2; have hfz11_3 := blk_frozen BK108.out 3; have hfz11_4 := blk_frozen BK108.out 4; have hfz11_5 := blk_frozen BK108.out 5) | ((with_reducible refine gate_callee (f := 6) rfl ?_); refine goesL_ (some 14) rfl rfl Try.func6 (by kernel_rfl) rfl #[.agg #[.int .i64 t102, .int .i64 t103, .int .i64 t104, .int .i64 t105, .int .i64 t106, .int .i64 t107]] rfl mc ?_; (with_reducible refine (impl_Moment.calls k t102 t103 t104 t105 t106 t107 t109 _ A5.out).mono ?_); rintro e w12 ⟨rfl, hb⟩; refine ⟨_, rfl, ?_⟩; replace BK108 := Aside0.mk (blk_below (g := gb108) (o := .cells #[.int .i64 t102, .int .i64 t103, .int .i64 t104, .int .i64 t105, .int .i64 t106, .int .i64 t107] 25 (0, 0)) bkp hb); replace HB := Aside0.mk (below_step bh hb); (try clear hb); (try clear hb2); (try clear hk); (try clear hi)) | ((with_reducible refine gate_callee (f := 7) rfl ?_); refine goesL_ (some 16) rfl rfl Try.func7 (by kernel_rfl) rfl #[.slice A0 l0.length c0] rfl mc ?_; (with_reducible refine (spec_DrawDateAt.calls k _ _ l0 t110 _ ?side1 ?side2 A6.out).mono ?_); (case side1 => repeat (first | exact (Kd.C_below HR0.out HB.out) | (with_reducible refine Kd.C_alloc ?_ _) | (with_reducible refine Kd.C_drewN ?_ _) | (with_reducible refine Kd.C_drew ?_))); (case side2 => exact HC0.out); rintro e w13 ⟨rfl, hb⟩; refine ⟨_, rfl, ?_⟩; replace BK108 := Aside0.mk (blk_below (g := gb108) (o := .cells #[.int .i64 t102, .int .i64 t103, .int .i64 t104, .int .i64 t105, .int .i64 t106, .int .i64 t107] 25 (0, 0)) bk hb); replace HB := Aside0.mk (below_step bh hb); (try clear hb); (try clear hb2); (try clear hk); (try clear hi)) | ((with_reducible refine gate_callee (f := 8) rfl ?_); refine goesL_ (some 18) rfl rfl Try.func8 (by kernel_rfl) rfl #[.int .i64 t110] rfl mc ?_; (with_reducible refine (impl_DateAt.calls k t110 t111 t112 t113 t114 t115 t116 _ A7.out).mono ?_); rintro e w14 ⟨rfl, hb⟩; refine ⟨_, rfl, ?_⟩; replace BK108 := Aside0.mk (blk_below (g := gb108) (o := .cells #[.int .i64 t102, .int .i64 t103, .int .i64 t104, .int .i64 t105, .int .i64 t106, .int .i64 t107] 25 (0, 0)) bk hb); replace HB := Aside0.mk (below_step bh hb); (try clear hb); (try clear hb2); (try clear hk); (try clear hi)) | ((with_reducible refine gate_dst (N := 6) rfl ?_); refine bx 6 #[.int .i64 0, .int .i64 0, .int .i64 0, .int .i64 0, .int .i64 0, .int .i64 0] 25 ?_; intro gb117 hg w15 hbox hb; have BK117 := Aside0.mk (hbox); have GW117 := Aside0.mk (bz hg); have GE117 := Aside0.mk (bz hg); have NB108_117 := Aside0.mk ((nl (o := .cells #[.int .i64 t102, .int .i64 t103, .int .i64 t104, .int .i64 t105, .int .i64 t106, .int .i64 t107] 25 (0, 0)) hg bk : gb108 ≠ gb117)); have NB117_108 := Aside0.mk ((ng (o := .cells #[.int .i64 t102, .int .i64 t103, .int .i64 t104, .int .i64 t105, .int .i64 t106, .int .i64 t107] 25 (0, 0)) hg bk : gb117 ≠ gb108)); replace BK108 := Aside0.mk (blk_below (g := gb108) (o := .cells #[.int .i64 t102, .int .i64 t103, .int .i64 t104, .int .i64 t105, .int .i64 t106, .int .i64 t107] 25 (0, 0)) bk hb); replace HB := Aside0.mk (below_step bh hb); clear hb hbox hg; have hnb16 := NB117_108.out; have hnc16 := NB108_117.out; have hcz17_0 : w15.cell? ⟨gb117, 0, none⟩ = some (.int .i64 0) := bc BK117 0; have hcz17_1 : w15.cell? ⟨gb117, 1, none⟩ = some (.int .i64 0) := bc BK117 1; have hcz17_2 : w15.cell? ⟨gb117, 2, none⟩ = some (.int .i64 0) := bc BK117 2; have hcz17_3 : w15.cell? ⟨gb117, 3, none⟩ = some (.int .i64 0) := bc BK117 3; have hcz17_4 : w15.cell? ⟨gb117, 4, none⟩ = some (.int .i64 0) := bc BK117 4; have hcz17_5 : w15.cell? ⟨gb117, 5, none⟩ = some (.int .i64 0) := bc BK117 5; have hfz17_0 := blk_frozen BK117.out 0; have hfz17_1 := blk_frozen BK117.out 1; have hfz17_2 := blk_frozen BK117.out 2; have hfz17_3 := blk_frozen BK117.out 3; have hfz17_4 := blk_frozen BK117.out 4; have hfz17_5 := blk_frozen BK117.out 5))
  (try simp only [Act.put, List.setIfInBounds_toArray, List.set_cons_zero, List.set_cons_succ])
  go_cut [56] (fun v56 wc => ∃ (kq : Nat) (x56_7 : Bool), v56 = .bool x56_7 ∧ Aside0 (laws_FnDates.j0 kq t109 t110 x56_7 t102 t103 t104 t105 t106 t107 t111 t112 t113 t114 t115 t116 = some r) ∧ Aside0 (kq ≤ k) ∧ Aside0 (wc.heap[gb108]? = some (.cells #[.int .i64 t102, .int .i64 t103, .int .i64 t104, .int .i64 t105, .int .i64 t106, .int .i64 t107] 25 (0, 0))) ∧ Aside0 (wc.heap[gb117]? = some (.cells #[.int .i64 t111, .int .i64 t112, .int .i64 t113, .int .i64 t114, .int .i64 t115, .int .i64 t116] 25 (0, 0))) ∧ Aside0 (Below w.heap.size w wc))
  case first =>
   have H := HC8.out
   clear HC8
   obtain ⟨t118, A180, H⟩ := Option.bind_eq_some_iff.mp H
   try dsimp only at H
   have A18 := Aside0.mk A180
   clear A180
   by_cases c19 : t109 = t118
   ·
    rw [if_pos c19] at H
    have c19b0 : (t109 == t118) = true := beq_iff_eq.mpr c19
    have c19b1 : (t109 != t118) = false := bne_eq_false_iff_eq.mpr c19
    clear c19
    (first | rw [c19b0] | (simp only [i64_w, i32_w]; rw [c19b0]) | skip)
    obtain ⟨⟨t119, t120, t121, t122, t123, t124⟩, A200, H⟩ := Option.bind_eq_some_iff.mp H
    try dsimp only at H
    have A20 := Aside0.mk A200
    clear A200
    by_cases c21 : (!(t111 == t119) || (!(t112 == t120) || (!(t113 == t121) || (!(t114 == t122) || (!(t115 == t123) || (!(t116 == t124))))))) = true
    ·
     rw [if_pos c21] at H
     have c21b0 : (!(t111 == t119) || (!(t112 == t120) || (!(t113 == t121) || (!(t114 == t122) || (!(t115 == t123) || (!(t116 == t124))))))) = true := c21
     clear c21
     have H' := Aside0.mk H
     clear H
     try go_wp2
     have n0_ : Aside0 (((((((w15.setCell ⟨gb117, 0, none⟩ (.int .i64 t111)).setCell ⟨gb117, 1, none⟩ (.int .i64 t112)).setCell ⟨gb117, 2, none⟩ (.int .i64 t113)).setCell ⟨gb117, 3, none⟩ (.int .i64 t114)).setCell ⟨gb117, 4, none⟩ (.int .i64 t115)).setCell ⟨gb117, 5, none⟩ (.int .i64 t116)).heap[gb108]? = some (.cells #[.int .i64 t102, .int .i64 t103, .int .i64 t104, .int .i64 t105, .int .i64 t106, .int .i64 t107] 25 (0, 0))) := ⟨by (with_reducible repeat (first | refine blk_drewN ?_ _ | refine blk_drew ?_ | refine blk_alloc ?_ _)); refine blk_far ?_ NB108_117.out _; (with_reducible repeat (first | refine blk_drewN ?_ _ | refine blk_drew ?_ | refine blk_alloc ?_ _)); refine blk_far ?_ NB108_117.out _; (with_reducible repeat (first | refine blk_drewN ?_ _ | refine blk_drew ?_ | refine blk_alloc ?_ _)); refine blk_far ?_ NB108_117.out _; (with_reducible repeat (first | refine blk_drewN ?_ _ | refine blk_drew ?_ | refine blk_alloc ?_ _)); refine blk_far ?_ NB108_117.out _; (with_reducible repeat (first | refine blk_drewN ?_ _ | refine blk_drew ?_ | refine blk_alloc ?_ _)); refine blk_far ?_ NB108_117.out _; (with_reducible repeat (first | refine blk_drewN ?_ _ | refine blk_drew ?_ | refine blk_alloc ?_ _)); refine blk_far ?_ NB108_117.out _; (with_reducible repeat (first | refine blk_drewN ?_ _ | refine blk_drew ?_ | refine blk_alloc ?_ _)); exact BK108.out⟩
     have n1_ : Aside0 (((((((w15.setCell ⟨gb117, 0, none⟩ (.int .i64 t111)).setCell ⟨gb117, 1, none⟩ (.int .i64 t112)).setCell ⟨gb117, 2, none⟩ (.int .i64 t113)).setCell ⟨gb117, 3, none⟩ (.int .i64 t114)).setCell ⟨gb117, 4, none⟩ (.int .i64 t115)).setCell ⟨gb117, 5, none⟩ (.int .i64 t116)).heap[gb117]? = some (.cells #[.int .i64 t111, .int .i64 t112, .int .i64 t113, .int .i64 t114, .int .i64 t115, .int .i64 t116] 25 (0, 0))) := ⟨by (with_reducible repeat (first | refine blk_drewN ?_ _ | refine blk_drew ?_ | refine blk_alloc ?_ _)); refine blk_put (cs := #[.int .i64 t111, .int .i64 t112, .int .i64 t113, .int .i64 t114, .int .i64 t115, .int .i64 0]) ?_ 5 _ rfl; (with_reducible repeat (first | refine blk_drewN ?_ _ | refine blk_drew ?_ | refine blk_alloc ?_ _)); refine blk_put (cs := #[.int .i64 t111, .int .i64 t112, .int .i64 t113, .int .i64 t114, .int .i64 0, .int .i64 0]) ?_ 4 _ rfl; (with_reducible repeat (first | refine blk_drewN ?_ _ | refine blk_drew ?_ | refine blk_alloc ?_ _)); refine blk_put (cs := #[.int .i64 t111, .int .i64 t112, .int .i64 t113, .int .i64 0, .int .i64 0, .int .i64 0]) ?_ 3 _ rfl; (with_reducible repeat (first | refine blk_drewN ?_ _ | refine blk_drew ?_ | refine blk_alloc ?_ _)); refine blk_put (cs := #[.int .i64 t111, .int .i64 t112, .int .i64 0, .int .i64 0, .int .i64 0, .int .i64 0]) ?_ 2 _ rfl; (with_reducible repeat (first | refine blk_drewN ?_ _ | refine blk_drew ?_ | refine blk_alloc ?_ _)); refine blk_put (cs := #[.int .i64 t111, .int .i64 0, .int .i64 0, .int .i64 0, .int .i64 0, .int .i64 0]) ?_ 1 _ rfl; (with_reducible repeat (first | refine blk_drewN ?_ _ | refine blk_drew ?_ | refine blk_alloc ?_ _)); refine blk_put (cs := #[.int .i64 0, .int .i64 0, .int .i64 0, .int .i64 0, .int .i64 0, .int .i64 0]) ?_ 0 _ rfl; (with_reducible repeat (first | refine blk_drewN ?_ _ | refine blk_drew ?_ | refine blk_alloc ?_ _)); exact BK117.out⟩
     have n2_ : Aside0 (Below w.heap.size w ((((((w15.setCell ⟨gb117, 0, none⟩ (.int .i64 t111)).setCell ⟨gb117, 1, none⟩ (.int .i64 t112)).setCell ⟨gb117, 2, none⟩ (.int .i64 t113)).setCell ⟨gb117, 3, none⟩ (.int .i64 t114)).setCell ⟨gb117, 4, none⟩ (.int .i64 t115)).setCell ⟨gb117, 5, none⟩ (.int .i64 t116))) := ⟨bh⟩
     (try clear BK108)
     (try clear BK117)
     (try clear HB)
     generalize ((((((w15.setCell ⟨gb117, 0, none⟩ (.int .i64 t111)).setCell ⟨gb117, 1, none⟩ (.int .i64 t112)).setCell ⟨gb117, 2, none⟩ (.int .i64 t113)).setCell ⟨gb117, 3, none⟩ (.int .i64 t114)).setCell ⟨gb117, 4, none⟩ (.int .i64 t115)).setCell ⟨gb117, 5, none⟩ (.int .i64 t116)) = w22 at n0_ n1_ n2_ ⊢
     have BK108 := n0_
     have BK117 := n1_
     have HB := n2_
     clear n0_ n1_ n2_
     replace BK108 := Aside0.mk (blk_drew BK108.out)
     replace BK117 := Aside0.mk (blk_drew BK117.out)
     replace HB := Aside0.mk (below_drew1 HB.out)
     refine start_ (n := 38) (S := fun w' => w'.cell? ⟨gb108, 0, none⟩ = some (.int .i64 t102) ∧ w'.cell? ⟨gb108, 1, none⟩ = some (.int .i64 t103) ∧ w'.cell? ⟨gb108, 2, none⟩ = some (.int .i64 t104) ∧ w'.cell? ⟨gb108, 3, none⟩ = some (.int .i64 t105) ∧ w'.cell? ⟨gb108, 4, none⟩ = some (.int .i64 t106) ∧ w'.cell? ⟨gb108, 5, none⟩ = some (.int .i64 t107) ∧ w'.cell? ⟨gb117, 0, none⟩ = some (.int .i64 t111) ∧ w'.cell? ⟨gb117, 1, none⟩ = some (.int .i64 t112) ∧ w'.cell? ⟨gb117, 2, none⟩ = some (.int .i64 t113) ∧ w'.cell? ⟨gb117, 3, none⟩ = some (.int .i64 t114) ∧ w'.cell? ⟨gb117, 4, none⟩ = some (.int .i64 t115) ∧ w'.cell? ⟨gb117, 5, none⟩ = some (.int .i64 t116)) (ds := []) laws_FnDates.d0 (by kernel_rfl) rfl rfl ⟨bc BK108 0, bc BK108 1, bc BK108 2, bc BK108 3, bc BK108 4, bc BK108 5, bc BK117 0, bc BK117 1, bc BK117 2, bc BK117 3, bc BK117 4, bc BK117 5⟩ (fun hHeld => ?_); refine with_tabW laws_FnDates.tab7 laws_FnDates.bits7 (fun HT_ HW_ => ?_)
     generalize w22.drew = w23 at BK108 BK117 HB hHeld ⊢
     refine pu 0 19 laws_FnDates.d1 HT_ ?_
     refine tk 1 20 laws_FnDates.d2 HT_ HW_ hHeld ?_
     refine onx 2 21 laws_FnDates.d3 HT_ (fun K hK => ?_)
     refine gs Try.func9 #[.agg #[.int .i64 t102, .int .i64 t103, .int .i64 t104, .int .i64 t105, .int .i64 t106, .int .i64 t107]] ?_
     with_reducible refine (spec_Moment.calls k t102 t103 t104 t105 t106 t107 t118 _ A18.out).mono ?_
     rintro e w24 ⟨rfl, hb⟩
     refine ⟨_, rfl, ?_⟩
     replace BK108 := Aside0.mk (blk_below (g := gb108) (o := .cells #[.int .i64 t102, .int .i64 t103, .int .i64 t104, .int .i64 t105, .int .i64 t106, .int .i64 t107] 25 (0, 0)) bk hb)
     replace BK117 := Aside0.mk (blk_below (g := gb117) (o := .cells #[.int .i64 t111, .int .i64 t112, .int .i64 t113, .int .i64 t114, .int .i64 t115, .int .i64 t116] 25 (0, 0)) bk hb)
     replace HB := Aside0.mk (below_step bh hb)
     (try clear hb)
     (try clear hb2)
     (try clear hk)
     (try clear hi)
     refine hK.out _ _ ⟨bc BK108 0, bc BK108 1, bc BK108 2, bc BK108 3, bc BK108 4, bc BK108 5, bc BK117 0, bc BK117 1, bc BK117 2, bc BK117 3, bc BK117 4, bc BK117 5⟩ (fun hHeld => ?_)
     clear hK K
     refine nm 21 ?_
     refine pu 3 22 laws_FnDates.d4 HT_ ?_
     refine pu 4 23 laws_FnDates.d5 HT_ ?_
     refine pu 6 25 laws_FnDates.d6 HT_ ?_
     refine tk 5 24 laws_FnDates.d7 HT_ HW_ hHeld ?_
     refine onx 7 26 laws_FnDates.d8 HT_ (fun K hK => ?_)
     refine gs Try.func10 #[.int .i64 t110] ?_
     with_reducible refine (spec_DateAt.calls k t110 t119 t120 t121 t122 t123 t124 _ A20.out).mono ?_
     rintro e w25 ⟨rfl, hb⟩
     refine ⟨_, rfl, ?_⟩
     replace BK108 := Aside0.mk (blk_below (g := gb108) (o := .cells #[.int .i64 t102, .int .i64 t103, .int .i64 t104, .int .i64 t105, .int .i64 t106, .int .i64 t107] 25 (0, 0)) bk hb)
     replace BK117 := Aside0.mk (blk_below (g := gb117) (o := .cells #[.int .i64 t111, .int .i64 t112, .int .i64 t113, .int .i64 t114, .int .i64 t115, .int .i64 t116] 25 (0, 0)) bk hb)
     replace HB := Aside0.mk (below_step bh hb)
     (try clear hb)
     (try clear hb2)
     (try clear hk)
     (try clear hi)
     refine hK.out _ _ ⟨bc BK108 0, bc BK108 1, bc BK108 2, bc BK108 3, bc BK108 4, bc BK108 5, bc BK117 0, bc BK117 1, bc BK117 2, bc BK117 3, bc BK117 4, bc BK117 5⟩ (fun hHeld => ?_)
     clear hK K
     refine nm 26 ?_
     refine pu 8 27 laws_FnDates.d9 HT_ ?_
     refine pu 9 28 laws_FnDates.d10 HT_ ?_
     refine pu 10 29 laws_FnDates.d11 HT_ ?_
     refine un 11 30 laws_FnDates.d12 HT_ ?_
     refine un 12 31 laws_FnDates.d13 HT_ ?_
     refine un 13 32 laws_FnDates.d14 HT_ ?_
     refine un 14 33 laws_FnDates.d15 HT_ ?_
     refine un 15 34 laws_FnDates.d16 HT_ ?_
     refine pu 16 35 laws_FnDates.d17 HT_ ?_
     refine pu 17 36 laws_FnDates.d18 HT_ ?_
     refine un 18 37 laws_FnDates.d19 HT_ ?_
     refine un 19 38 laws_FnDates.d20 HT_ ?_
     refine un 20 39 laws_FnDates.d21 HT_ ?_
     refine un 21 40 laws_FnDates.d22 HT_ ?_
     refine un 22 41 laws_FnDates.d23 HT_ ?_
     refine pu 23 42 laws_FnDates.d24 HT_ ?_
     refine pu 24 43 laws_FnDates.d25 HT_ ?_
     refine un 25 44 laws_FnDates.d26 HT_ ?_
     refine un 26 45 laws_FnDates.d27 HT_ ?_
     refine un 27 46 laws_FnDates.d28 HT_ ?_
     refine un 28 47 laws_FnDates.d29 HT_ ?_
     refine un 29 48 laws_FnDates.d30 HT_ ?_
     refine pu 30 49 laws_FnDates.d31 HT_ ?_
     refine pu 31 50 laws_FnDates.d32 HT_ ?_
     refine un 32 51 laws_FnDates.d33 HT_ ?_
     refine un 33 52 laws_FnDates.d34 HT_ ?_
     refine un 34 53 laws_FnDates.d35 HT_ ?_
     refine un 35 54 laws_FnDates.d36 HT_ ?_
     refine un 36 55 laws_FnDates.d37 HT_ ?_
     refine pu 37 56 laws_FnDates.d38 HT_ ?_
     refine dn HT_ ?_
     try go_wp2
     go_meet
     case rel => exact ⟨_, (true), (by first | rfl | (simp; done) | (simp [*]; done)), H', ⟨by first | omega | exact Nat.le_refl _⟩, ⟨by (with_reducible repeat (first | refine blk_drewN ?_ _ | refine blk_drew ?_ | refine blk_alloc ?_ _)); exact BK108.out⟩, ⟨by (with_reducible repeat (first | refine blk_drewN ?_ _ | refine blk_drew ?_ | refine blk_alloc ?_ _)); exact BK117.out⟩, ⟨bh⟩⟩
    ·
     rw [if_neg c21] at H
     have c21b0 : (!(t111 == t119) || (!(t112 == t120) || (!(t113 == t121) || (!(t114 == t122) || (!(t115 == t123) || (!(t116 == t124))))))) = false := by simpa using c21
     clear c21
     obtain ⟨t125, A260, H⟩ := Option.bind_eq_some_iff.mp H
     try dsimp only at H
     have A26 := Aside0.mk A260
     clear A260
     obtain ⟨t126, A270, H⟩ := Option.bind_eq_some_iff.mp H
     try dsimp only at H
     have A27 := Aside0.mk A270
     clear A270
     by_cases c28 : t125 = t126
     ·
      rw [if_pos c28] at H
      have c28b0 : (t125 == t126) = true := beq_iff_eq.mpr c28
      have c28b1 : (t125 != t126) = false := bne_eq_false_iff_eq.mpr c28
      clear c28
      obtain ⟨t127, A290, H⟩ := Option.bind_eq_some_iff.mp H
      try dsimp only at H
      have A29 := Aside0.mk A290
      clear A290
      obtain ⟨t128, A300, H⟩ := Option.bind_eq_some_iff.mp H
      try dsimp only at H
      have A30 := Aside0.mk A300
      clear A300
      by_cases c31 : t127 = t128
      ·
       rw [if_pos c31] at H
       have c31b0 : (t127 == t128) = true := beq_iff_eq.mpr c31
       have c31b1 : (t127 != t128) = false := bne_eq_false_iff_eq.mpr c31
       clear c31
       obtain ⟨t129, A320, H⟩ := Option.bind_eq_some_iff.mp H
       try dsimp only at H
       have A32 := Aside0.mk A320
       clear A320
       obtain ⟨t130, A330, H⟩ := Option.bind_eq_some_iff.mp H
       try dsimp only at H
       have A33 := Aside0.mk A330
       clear A330
       by_cases c34 : (t129 != t130) = true
       ·
        rw [if_pos c34] at H
        have c34b0 : (t129 != t130) = true := c34
        (try (have c34b1 : decide (t129 = t130) = false := by simpa using c34))
        (try (have c34b2 : (t129 == t130) = false := by simpa using c34))
        (try (have c34b3 : ¬ (t129 = t130) := by simpa using c34))
        clear c34
        have H' := Aside0.mk H
        clear H
        try go_wp2
        have n0_ : Aside0 (((((((w15.setCell ⟨gb117, 0, none⟩ (.int .i64 t111)).setCell ⟨gb117, 1, none⟩ (.int .i64 t112)).setCell ⟨gb117, 2, none⟩ (.int .i64 t113)).setCell ⟨gb117, 3, none⟩ (.int .i64 t114)).setCell ⟨gb117, 4, none⟩ (.int .i64 t115)).setCell ⟨gb117, 5, none⟩ (.int .i64 t116)).heap[gb108]? = some (.cells #[.int .i64 t102, .int .i64 t103, .int .i64 t104, .int .i64 t105, .int .i64 t106, .int .i64 t107] 25 (0, 0))) := ⟨by (with_reducible repeat (first | refine blk_drewN ?_ _ | refine blk_drew ?_ | refine blk_alloc ?_ _)); refine blk_far ?_ NB108_117.out _; (with_reducible repeat (first | refine blk_drewN ?_ _ | refine blk_drew ?_ | refine blk_alloc ?_ _)); refine blk_far ?_ NB108_117.out _; (with_reducible repeat (first | refine blk_drewN ?_ _ | refine blk_drew ?_ | refine blk_alloc ?_ _)); refine blk_far ?_ NB108_117.out _; (with_reducible repeat (first | refine blk_drewN ?_ _ | refine blk_drew ?_ | refine blk_alloc ?_ _)); refine blk_far ?_ NB108_117.out _; (with_reducible repeat (first | refine blk_drewN ?_ _ | refine blk_drew ?_ | refine blk_alloc ?_ _)); refine blk_far ?_ NB108_117.out _; (with_reducible repeat (first | refine blk_drewN ?_ _ | refine blk_drew ?_ | refine blk_alloc ?_ _)); refine blk_far ?_ NB108_117.out _; (with_reducible repeat (first | refine blk_drewN ?_ _ | refine blk_drew ?_ | refine blk_alloc ?_ _)); exact BK108.out⟩
        have n1_ : Aside0 (((((((w15.setCell ⟨gb117, 0, none⟩ (.int .i64 t111)).setCell ⟨gb117, 1, none⟩ (.int .i64 t112)).setCell ⟨gb117, 2, none⟩ (.int .i64 t113)).setCell ⟨gb117, 3, none⟩ (.int .i64 t114)).setCell ⟨gb117, 4, none⟩ (.int .i64 t115)).setCell ⟨gb117, 5, none⟩ (.int .i64 t116)).heap[gb117]? = some (.cells #[.int .i64 t111, .int .i64 t112, .int .i64 t113, .int .i64 t114, .int .i64 t115, .int .i64 t116] 25 (0, 0))) := ⟨by (with_reducible repeat (first | refine blk_drewN ?_ _ | refine blk_drew ?_ | refine blk_alloc ?_ _)); refine blk_put (cs := #[.int .i64 t111, .int .i64 t112, .int .i64 t113, .int .i64 t114, .int .i64 t115, .int .i64 0]) ?_ 5 _ rfl; (with_reducible repeat (first | refine blk_drewN ?_ _ | refine blk_drew ?_ | refine blk_alloc ?_ _)); refine blk_put (cs := #[.int .i64 t111, .int .i64 t112, .int .i64 t113, .int .i64 t114, .int .i64 0, .int .i64 0]) ?_ 4 _ rfl; (with_reducible repeat (first | refine blk_drewN ?_ _ | refine blk_drew ?_ | refine blk_alloc ?_ _)); refine blk_put (cs := #[.int .i64 t111, .int .i64 t112, .int .i64 t113, .int .i64 0, .int .i64 0, .int .i64 0]) ?_ 3 _ rfl; (with_reducible repeat (first | refine blk_drewN ?_ _ | refine blk_drew ?_ | refine blk_alloc ?_ _)); refine blk_put (cs := #[.int .i64 t111, .int .i64 t112, .int .i64 0, .int .i64 0, .int .i64 0, .int .i64 0]) ?_ 2 _ rfl; (with_reducible repeat (first | refine blk_drewN ?_ _ | refine blk_drew ?_ | refine blk_alloc ?_ _)); refine blk_put (cs := #[.int .i64 t111, .int .i64 0, .int .i64 0, .int .i64 0, .int .i64 0, .int .i64 0]) ?_ 1 _ rfl; (with_reducible repeat (first | refine blk_drewN ?_ _ | refine blk_drew ?_ | refine blk_alloc ?_ _)); refine blk_put (cs := #[.int .i64 0, .int .i64 0, .int .i64 0, .int .i64 0, .int .i64 0, .int .i64 0]) ?_ 0 _ rfl; (with_reducible repeat (first | refine blk_drewN ?_ _ | refine blk_drew ?_ | refine blk_alloc ?_ _)); exact BK117.out⟩
        have n2_ : Aside0 (Below w.heap.size w ((((((w15.setCell ⟨gb117, 0, none⟩ (.int .i64 t111)).setCell ⟨gb117, 1, none⟩ (.int .i64 t112)).setCell ⟨gb117, 2, none⟩ (.int .i64 t113)).setCell ⟨gb117, 3, none⟩ (.int .i64 t114)).setCell ⟨gb117, 4, none⟩ (.int .i64 t115)).setCell ⟨gb117, 5, none⟩ (.int .i64 t116))) := ⟨bh⟩
        (try clear BK108)
        (try clear BK117)
        (try clear HB)
        generalize ((((((w15.setCell ⟨gb117, 0, none⟩ (.int .i64 t111)).setCell ⟨gb117, 1, none⟩ (.int .i64 t112)).setCell ⟨gb117, 2, none⟩ (.int .i64 t113)).setCell ⟨gb117, 3, none⟩ (.int .i64 t114)).setCell ⟨gb117, 4, none⟩ (.int .i64 t115)).setCell ⟨gb117, 5, none⟩ (.int .i64 t116)) = w35 at n0_ n1_ n2_ ⊢
        have BK108 := n0_
        have BK117 := n1_
        have HB := n2_
        clear n0_ n1_ n2_
        replace BK108 := Aside0.mk (blk_drew BK108.out)
        replace BK117 := Aside0.mk (blk_drew BK117.out)
        replace HB := Aside0.mk (below_drew1 HB.out)
        refine start_ (n := 38) (S := fun w' => w'.cell? ⟨gb108, 0, none⟩ = some (.int .i64 t102) ∧ w'.cell? ⟨gb108, 1, none⟩ = some (.int .i64 t103) ∧ w'.cell? ⟨gb108, 2, none⟩ = some (.int .i64 t104) ∧ w'.cell? ⟨gb108, 3, none⟩ = some (.int .i64 t105) ∧ w'.cell? ⟨gb108, 4, none⟩ = some (.int .i64 t106) ∧ w'.cell? ⟨gb108, 5, none⟩ = some (.int .i64 t107) ∧ w'.cell? ⟨gb117, 0, none⟩ = some (.int .i64 t111) ∧ w'.cell? ⟨gb117, 1, none⟩ = some (.int .i64 t112) ∧ w'.cell? ⟨gb117, 2, none⟩ = some (.int .i64 t113) ∧ w'.cell? ⟨gb117, 3, none⟩ = some (.int .i64 t114) ∧ w'.cell? ⟨gb117, 4, none⟩ = some (.int .i64 t115) ∧ w'.cell? ⟨gb117, 5, none⟩ = some (.int .i64 t116)) (ds := []) laws_FnDates.d0 (by kernel_rfl) rfl rfl ⟨bc BK108 0, bc BK108 1, bc BK108 2, bc BK108 3, bc BK108 4, bc BK108 5, bc BK117 0, bc BK117 1, bc BK117 2, bc BK117 3, bc BK117 4, bc BK117 5⟩ (fun hHeld => ?_); refine with_tabW laws_FnDates.tab7 laws_FnDates.bits7 (fun HT_ HW_ => ?_)
        generalize w35.drew = w36 at BK108 BK117 HB hHeld ⊢
        refine pu 0 19 laws_FnDates.d1 HT_ ?_
        refine tk 1 20 laws_FnDates.d2 HT_ HW_ hHeld ?_
        refine onx 2 21 laws_FnDates.d3 HT_ (fun K hK => ?_)
        refine gs Try.func9 #[.agg #[.int .i64 t102, .int .i64 t103, .int .i64 t104, .int .i64 t105, .int .i64 t106, .int .i64 t107]] ?_
        with_reducible refine (spec_Moment.calls k t102 t103 t104 t105 t106 t107 t118 _ A18.out).mono ?_
        rintro e w37 ⟨rfl, hb⟩
        refine ⟨_, rfl, ?_⟩
        replace BK108 := Aside0.mk (blk_below (g := gb108) (o := .cells #[.int .i64 t102, .int .i64 t103, .int .i64 t104, .int .i64 t105, .int .i64 t106, .int .i64 t107] 25 (0, 0)) bk hb)
        replace BK117 := Aside0.mk (blk_below (g := gb117) (o := .cells #[.int .i64 t111, .int .i64 t112, .int .i64 t113, .int .i64 t114, .int .i64 t115, .int .i64 t116] 25 (0, 0)) bk hb)
        replace HB := Aside0.mk (below_step bh hb)
        (try clear hb)
        (try clear hb2)
        (try clear hk)
        (try clear hi)
        refine hK.out _ _ ⟨bc BK108 0, bc BK108 1, bc BK108 2, bc BK108 3, bc BK108 4, bc BK108 5, bc BK117 0, bc BK117 1, bc BK117 2, bc BK117 3, bc BK117 4, bc BK117 5⟩ (fun hHeld => ?_)
        clear hK K
        refine nm 21 ?_
        refine pu 3 22 laws_FnDates.d4 HT_ ?_
        refine pu 4 23 laws_FnDates.d5 HT_ ?_
        refine pu 6 25 laws_FnDates.d6 HT_ ?_
        refine tk 5 24 laws_FnDates.d7 HT_ HW_ hHeld ?_
        refine onx 7 26 laws_FnDates.d8 HT_ (fun K hK => ?_)
        refine gs Try.func10 #[.int .i64 t110] ?_
        with_reducible refine (spec_DateAt.calls k t110 t119 t120 t121 t122 t123 t124 _ A20.out).mono ?_
        rintro e w38 ⟨rfl, hb⟩
        refine ⟨_, rfl, ?_⟩
        replace BK108 := Aside0.mk (blk_below (g := gb108) (o := .cells #[.int .i64 t102, .int .i64 t103, .int .i64 t104, .int .i64 t105, .int .i64 t106, .int .i64 t107] 25 (0, 0)) bk hb)
        replace BK117 := Aside0.mk (blk_below (g := gb117) (o := .cells #[.int .i64 t111, .int .i64 t112, .int .i64 t113, .int .i64 t114, .int .i64 t115, .int .i64 t116] 25 (0, 0)) bk hb)
        replace HB := Aside0.mk (below_step bh hb)
        (try clear hb)
        (try clear hb2)
        (try clear hk)
        (try clear hi)
        refine hK.out _ _ ⟨bc BK108 0, bc BK108 1, bc BK108 2, bc BK108 3, bc BK108 4, bc BK108 5, bc BK117 0, bc BK117 1, bc BK117 2, bc BK117 3, bc BK117 4, bc BK117 5⟩ (fun hHeld => ?_)
        clear hK K
        refine nm 26 ?_
        refine pu 8 27 laws_FnDates.d9 HT_ ?_
        refine pu 9 28 laws_FnDates.d10 HT_ ?_
        refine pu 10 29 laws_FnDates.d11 HT_ ?_
        refine tk 11 30 laws_FnDates.d12 HT_ HW_ hHeld ?_
        refine tk 13 32 laws_FnDates.d39 HT_ HW_ hHeld ?_
        refine onx 12 31 laws_FnDates.d14 HT_ (fun K hK => ?_)
        refine gs Try.func11 #[.agg #[.int .i64 t102, .int .i64 t103, .int .i64 t104, .int .i64 t105, .int .i64 t106, .int .i64 t107]] ?_
        with_reducible refine (impl_Days.calls k t102 t103 t104 t105 t106 t107 t125 _ A26.out).mono ?_
        rintro e w39 ⟨rfl, hb⟩
        refine ⟨_, rfl, ?_⟩
        replace BK108 := Aside0.mk (blk_below (g := gb108) (o := .cells #[.int .i64 t102, .int .i64 t103, .int .i64 t104, .int .i64 t105, .int .i64 t106, .int .i64 t107] 25 (0, 0)) bk hb)
        replace BK117 := Aside0.mk (blk_below (g := gb117) (o := .cells #[.int .i64 t111, .int .i64 t112, .int .i64 t113, .int .i64 t114, .int .i64 t115, .int .i64 t116] 25 (0, 0)) bk hb)
        replace HB := Aside0.mk (below_step bh hb)
        (try clear hb)
        (try clear hb2)
        (try clear hk)
        (try clear hi)
        refine hK.out _ _ ⟨bc BK108 0, bc BK108 1, bc BK108 2, bc BK108 3, bc BK108 4, bc BK108 5, bc BK117 0, bc BK117 1, bc BK117 2, bc BK117 3, bc BK117 4, bc BK117 5⟩ (fun hHeld => ?_)
        clear hK K
        refine nm 31 ?_
        refine onx 14 33 laws_FnDates.d15 HT_ (fun K hK => ?_)
        refine gs Try.func12 #[.agg #[.int .i64 t102, .int .i64 t103, .int .i64 t104, .int .i64 t105, .int .i64 t106, .int .i64 t107]] ?_
        with_reducible refine (spec_Days.calls k t102 t103 t104 t105 t106 t107 t126 _ A27.out).mono ?_
        rintro e w40 ⟨rfl, hb⟩
        refine ⟨_, rfl, ?_⟩
        replace BK108 := Aside0.mk (blk_below (g := gb108) (o := .cells #[.int .i64 t102, .int .i64 t103, .int .i64 t104, .int .i64 t105, .int .i64 t106, .int .i64 t107] 25 (0, 0)) bk hb)
        replace BK117 := Aside0.mk (blk_below (g := gb117) (o := .cells #[.int .i64 t111, .int .i64 t112, .int .i64 t113, .int .i64 t114, .int .i64 t115, .int .i64 t116] 25 (0, 0)) bk hb)
        replace HB := Aside0.mk (below_step bh hb)
        (try clear hb)
        (try clear hb2)
        (try clear hk)
        (try clear hi)
        refine hK.out _ _ ⟨bc BK108 0, bc BK108 1, bc BK108 2, bc BK108 3, bc BK108 4, bc BK108 5, bc BK117 0, bc BK117 1, bc BK117 2, bc BK117 3, bc BK117 4, bc BK117 5⟩ (fun hHeld => ?_)
        clear hK K
        refine nm 33 ?_
        refine pu 15 34 laws_FnDates.d16 HT_ ?_
        refine pu 16 35 laws_FnDates.d17 HT_ ?_
        refine pu 17 36 laws_FnDates.d18 HT_ ?_
        refine tk 18 37 laws_FnDates.d19 HT_ HW_ hHeld ?_
        refine tk 20 39 laws_FnDates.d40 HT_ HW_ hHeld ?_
        refine onx 19 38 laws_FnDates.d21 HT_ (fun K hK => ?_)
        refine gs Try.func13 #[.agg #[.int .i64 t102, .int .i64 t103, .int .i64 t104, .int .i64 t105, .int .i64 t106, .int .i64 t107]] ?_
        with_reducible refine (impl_Weekday.calls k t102 t103 t104 t105 t106 t107 t127 _ A29.out).mono ?_
        rintro e w41 ⟨rfl, hb⟩
        refine ⟨_, rfl, ?_⟩
        replace BK108 := Aside0.mk (blk_below (g := gb108) (o := .cells #[.int .i64 t102, .int .i64 t103, .int .i64 t104, .int .i64 t105, .int .i64 t106, .int .i64 t107] 25 (0, 0)) bk hb)
        replace BK117 := Aside0.mk (blk_below (g := gb117) (o := .cells #[.int .i64 t111, .int .i64 t112, .int .i64 t113, .int .i64 t114, .int .i64 t115, .int .i64 t116] 25 (0, 0)) bk hb)
        replace HB := Aside0.mk (below_step bh hb)
        (try clear hb)
        (try clear hb2)
        (try clear hk)
        (try clear hi)
        refine hK.out _ _ ⟨bc BK108 0, bc BK108 1, bc BK108 2, bc BK108 3, bc BK108 4, bc BK108 5, bc BK117 0, bc BK117 1, bc BK117 2, bc BK117 3, bc BK117 4, bc BK117 5⟩ (fun hHeld => ?_)
        clear hK K
        refine nm 38 ?_
        refine onx 21 40 laws_FnDates.d22 HT_ (fun K hK => ?_)
        refine gs Try.func14 #[.agg #[.int .i64 t102, .int .i64 t103, .int .i64 t104, .int .i64 t105, .int .i64 t106, .int .i64 t107]] ?_
        with_reducible refine (spec_Weekday.calls k t102 t103 t104 t105 t106 t107 t128 _ A30.out).mono ?_
        rintro e w42 ⟨rfl, hb⟩
        refine ⟨_, rfl, ?_⟩
        replace BK108 := Aside0.mk (blk_below (g := gb108) (o := .cells #[.int .i64 t102, .int .i64 t103, .int .i64 t104, .int .i64 t105, .int .i64 t106, .int .i64 t107] 25 (0, 0)) bk hb)
        replace BK117 := Aside0.mk (blk_below (g := gb117) (o := .cells #[.int .i64 t111, .int .i64 t112, .int .i64 t113, .int .i64 t114, .int .i64 t115, .int .i64 t116] 25 (0, 0)) bk hb)
        replace HB := Aside0.mk (below_step bh hb)
        (try clear hb)
        (try clear hb2)
        (try clear hk)
        (try clear hi)
        refine hK.out _ _ ⟨bc BK108 0, bc BK108 1, bc BK108 2, bc BK108 3, bc BK108 4, bc BK108 5, bc BK117 0, bc BK117 1, bc BK117 2, bc BK117 3, bc BK117 4, bc BK117 5⟩ (fun hHeld => ?_)
        clear hK K
        refine nm 40 ?_
        refine pu 22 41 laws_FnDates.d23 HT_ ?_
        refine pu 23 42 laws_FnDates.d24 HT_ ?_
        refine pu 24 43 laws_FnDates.d25 HT_ ?_
        refine tk 25 44 laws_FnDates.d26 HT_ HW_ hHeld ?_
        refine tk 27 46 laws_FnDates.d41 HT_ HW_ hHeld ?_
        refine onx 26 45 laws_FnDates.d28 HT_ (fun K hK => ?_)
        refine gs Try.func15 #[.agg #[.int .i64 t102, .int .i64 t103, .int .i64 t104, .int .i64 t105, .int .i64 t106, .int .i64 t107]] ?_
        with_reducible refine (impl_DateOk.calls k t102 t103 t104 t105 t106 t107 t129 _ A32.out).mono ?_
        rintro e w43 ⟨rfl, hb⟩
        refine ⟨_, rfl, ?_⟩
        replace BK108 := Aside0.mk (blk_below (g := gb108) (o := .cells #[.int .i64 t102, .int .i64 t103, .int .i64 t104, .int .i64 t105, .int .i64 t106, .int .i64 t107] 25 (0, 0)) bk hb)
        replace BK117 := Aside0.mk (blk_below (g := gb117) (o := .cells #[.int .i64 t111, .int .i64 t112, .int .i64 t113, .int .i64 t114, .int .i64 t115, .int .i64 t116] 25 (0, 0)) bk hb)
        replace HB := Aside0.mk (below_step bh hb)
        (try clear hb)
        (try clear hb2)
        (try clear hk)
        (try clear hi)
        refine hK.out _ _ ⟨bc BK108 0, bc BK108 1, bc BK108 2, bc BK108 3, bc BK108 4, bc BK108 5, bc BK117 0, bc BK117 1, bc BK117 2, bc BK117 3, bc BK117 4, bc BK117 5⟩ (fun hHeld => ?_)
        clear hK K
        refine nm 45 ?_
        refine onx 28 47 laws_FnDates.d29 HT_ (fun K hK => ?_)
        refine gs Try.func16 #[.agg #[.int .i64 t102, .int .i64 t103, .int .i64 t104, .int .i64 t105, .int .i64 t106, .int .i64 t107]] ?_
        with_reducible refine (spec_DateOk.calls t102 t103 t104 t105 t106 t107 t130 _ A33.out).mono ?_
        rintro e w44 ⟨rfl, hb⟩
        refine ⟨_, rfl, ?_⟩
        replace BK108 := Aside0.mk (blk_below (g := gb108) (o := .cells #[.int .i64 t102, .int .i64 t103, .int .i64 t104, .int .i64 t105, .int .i64 t106, .int .i64 t107] 25 (0, 0)) bk hb)
        replace BK117 := Aside0.mk (blk_below (g := gb117) (o := .cells #[.int .i64 t111, .int .i64 t112, .int .i64 t113, .int .i64 t114, .int .i64 t115, .int .i64 t116] 25 (0, 0)) bk hb)
        replace HB := Aside0.mk (below_step bh hb)
        (try clear hb)
        (try clear hb2)
        (try clear hk)
        (try clear hi)
        refine hK.out _ _ ⟨bc BK108 0, bc BK108 1, bc BK108 2, bc BK108 3, bc BK108 4, bc BK108 5, bc BK117 0, bc BK117 1, bc BK117 2, bc BK117 3, bc BK117 4, bc BK117 5⟩ (fun hHeld => ?_)
        clear hK K
        refine nm 47 ?_
        refine pu 29 48 laws_FnDates.d30 HT_ ?_
        refine pu 30 49 laws_FnDates.d31 HT_ ?_
        refine pu 31 50 laws_FnDates.d32 HT_ ?_
        refine un 32 51 laws_FnDates.d33 HT_ ?_
        refine un 33 52 laws_FnDates.d34 HT_ ?_
        refine un 34 53 laws_FnDates.d35 HT_ ?_
        refine un 35 54 laws_FnDates.d36 HT_ ?_
        refine un 36 55 laws_FnDates.d37 HT_ ?_
        refine pu 37 56 laws_FnDates.d38 HT_ ?_
        refine dn HT_ ?_
        try go_wp2
        go_meet
        case rel => exact ⟨_, (true), (by first | rfl | (simp; done) | (simp [*]; done)), H', ⟨by first | omega | exact Nat.le_refl _⟩, ⟨by (with_reducible repeat (first | refine blk_drewN ?_ _ | refine blk_drew ?_ | refine blk_alloc ?_ _)); exact BK108.out⟩, ⟨by (with_reducible repeat (first | refine blk_drewN ?_ _ | refine blk_drew ?_ | refine blk_alloc ?_ _)); exact BK117.out⟩, ⟨bh⟩⟩
       ·
        rw [if_neg c34] at H
        have c34b0 : (t129 != t130) = false := by simpa using c34
        (try (have c34b1 : decide (t129 = t130) = true := by simpa using c34))
        (try (have c34b2 : (t129 == t130) = true := by simpa using c34))
        clear c34
        obtain ⟨t131, A450, H⟩ := Option.bind_eq_some_iff.mp H
        try dsimp only at H
        have A45 := Aside0.mk A450
        clear A450
        obtain ⟨t132, A460, H⟩ := Option.bind_eq_some_iff.mp H
        try dsimp only at H
        have A46 := Aside0.mk A460
        clear A460
        have H' := Aside0.mk H
        clear H
        try go_wp2
        have n0_ : Aside0 (((((((w15.setCell ⟨gb117, 0, none⟩ (.int .i64 t111)).setCell ⟨gb117, 1, none⟩ (.int .i64 t112)).setCell ⟨gb117, 2, none⟩ (.int .i64 t113)).setCell ⟨gb117, 3, none⟩ (.int .i64 t114)).setCell ⟨gb117, 4, none⟩ (.int .i64 t115)).setCell ⟨gb117, 5, none⟩ (.int .i64 t116)).heap[gb108]? = some (.cells #[.int .i64 t102, .int .i64 t103, .int .i64 t104, .int .i64 t105, .int .i64 t106, .int .i64 t107] 25 (0, 0))) := ⟨by (with_reducible repeat (first | refine blk_drewN ?_ _ | refine blk_drew ?_ | refine blk_alloc ?_ _)); refine blk_far ?_ NB108_117.out _; (with_reducible repeat (first | refine blk_drewN ?_ _ | refine blk_drew ?_ | refine blk_alloc ?_ _)); refine blk_far ?_ NB108_117.out _; (with_reducible repeat (first | refine blk_drewN ?_ _ | refine blk_drew ?_ | refine blk_alloc ?_ _)); refine blk_far ?_ NB108_117.out _; (with_reducible repeat (first | refine blk_drewN ?_ _ | refine blk_drew ?_ | refine blk_alloc ?_ _)); refine blk_far ?_ NB108_117.out _; (with_reducible repeat (first | refine blk_drewN ?_ _ | refine blk_drew ?_ | refine blk_alloc ?_ _)); refine blk_far ?_ NB108_117.out _; (with_reducible repeat (first | refine blk_drewN ?_ _ | refine blk_drew ?_ | refine blk_alloc ?_ _)); refine blk_far ?_ NB108_117.out _; (with_reducible repeat (first | refine blk_drewN ?_ _ | refine blk_drew ?_ | refine blk_alloc ?_ _)); exact BK108.out⟩
        have n1_ : Aside0 (((((((w15.setCell ⟨gb117, 0, none⟩ (.int .i64 t111)).setCell ⟨gb117, 1, none⟩ (.int .i64 t112)).setCell ⟨gb117, 2, none⟩ (.int .i64 t113)).setCell ⟨gb117, 3, none⟩ (.int .i64 t114)).setCell ⟨gb117, 4, none⟩ (.int .i64 t115)).setCell ⟨gb117, 5, none⟩ (.int .i64 t116)).heap[gb117]? = some (.cells #[.int .i64 t111, .int .i64 t112, .int .i64 t113, .int .i64 t114, .int .i64 t115, .int .i64 t116] 25 (0, 0))) := ⟨by (with_reducible repeat (first | refine blk_drewN ?_ _ | refine blk_drew ?_ | refine blk_alloc ?_ _)); refine blk_put (cs := #[.int .i64 t111, .int .i64 t112, .int .i64 t113, .int .i64 t114, .int .i64 t115, .int .i64 0]) ?_ 5 _ rfl; (with_reducible repeat (first | refine blk_drewN ?_ _ | refine blk_drew ?_ | refine blk_alloc ?_ _)); refine blk_put (cs := #[.int .i64 t111, .int .i64 t112, .int .i64 t113, .int .i64 t114, .int .i64 0, .int .i64 0]) ?_ 4 _ rfl; (with_reducible repeat (first | refine blk_drewN ?_ _ | refine blk_drew ?_ | refine blk_alloc ?_ _)); refine blk_put (cs := #[.int .i64 t111, .int .i64 t112, .int .i64 t113, .int .i64 0, .int .i64 0, .int .i64 0]) ?_ 3 _ rfl; (with_reducible repeat (first | refine blk_drewN ?_ _ | refine blk_drew ?_ | refine blk_alloc ?_ _)); refine blk_put (cs := #[.int .i64 t111, .int .i64 t112, .int .i64 0, .int .i64 0, .int .i64 0, .int .i64 0]) ?_ 2 _ rfl; (with_reducible repeat (first | refine blk_drewN ?_ _ | refine blk_drew ?_ | refine blk_alloc ?_ _)); refine blk_put (cs := #[.int .i64 t111, .int .i64 0, .int .i64 0, .int .i64 0, .int .i64 0, .int .i64 0]) ?_ 1 _ rfl; (with_reducible repeat (first | refine blk_drewN ?_ _ | refine blk_drew ?_ | refine blk_alloc ?_ _)); refine blk_put (cs := #[.int .i64 0, .int .i64 0, .int .i64 0, .int .i64 0, .int .i64 0, .int .i64 0]) ?_ 0 _ rfl; (with_reducible repeat (first | refine blk_drewN ?_ _ | refine blk_drew ?_ | refine blk_alloc ?_ _)); exact BK117.out⟩
        have n2_ : Aside0 (Below w.heap.size w ((((((w15.setCell ⟨gb117, 0, none⟩ (.int .i64 t111)).setCell ⟨gb117, 1, none⟩ (.int .i64 t112)).setCell ⟨gb117, 2, none⟩ (.int .i64 t113)).setCell ⟨gb117, 3, none⟩ (.int .i64 t114)).setCell ⟨gb117, 4, none⟩ (.int .i64 t115)).setCell ⟨gb117, 5, none⟩ (.int .i64 t116))) := ⟨bh⟩
        (try clear BK108)
        (try clear BK117)
        (try clear HB)
        generalize ((((((w15.setCell ⟨gb117, 0, none⟩ (.int .i64 t111)).setCell ⟨gb117, 1, none⟩ (.int .i64 t112)).setCell ⟨gb117, 2, none⟩ (.int .i64 t113)).setCell ⟨gb117, 3, none⟩ (.int .i64 t114)).setCell ⟨gb117, 4, none⟩ (.int .i64 t115)).setCell ⟨gb117, 5, none⟩ (.int .i64 t116)) = w47 at n0_ n1_ n2_ ⊢
        have BK108 := n0_
        have BK117 := n1_
        have HB := n2_
        clear n0_ n1_ n2_
        replace BK108 := Aside0.mk (blk_drew BK108.out)
        replace BK117 := Aside0.mk (blk_drew BK117.out)
        replace HB := Aside0.mk (below_drew1 HB.out)
        refine start_ (n := 38) (S := fun w' => w'.cell? ⟨gb108, 0, none⟩ = some (.int .i64 t102) ∧ w'.cell? ⟨gb108, 1, none⟩ = some (.int .i64 t103) ∧ w'.cell? ⟨gb108, 2, none⟩ = some (.int .i64 t104) ∧ w'.cell? ⟨gb108, 3, none⟩ = some (.int .i64 t105) ∧ w'.cell? ⟨gb108, 4, none⟩ = some (.int .i64 t106) ∧ w'.cell? ⟨gb108, 5, none⟩ = some (.int .i64 t107) ∧ w'.cell? ⟨gb117, 0, none⟩ = some (.int .i64 t111) ∧ w'.cell? ⟨gb117, 1, none⟩ = some (.int .i64 t112) ∧ w'.cell? ⟨gb117, 2, none⟩ = some (.int .i64 t113) ∧ w'.cell? ⟨gb117, 3, none⟩ = some (.int .i64 t114) ∧ w'.cell? ⟨gb117, 4, none⟩ = some (.int .i64 t115) ∧ w'.cell? ⟨gb117, 5, none⟩ = some (.int .i64 t116)) (ds := []) laws_FnDates.d0 (by kernel_rfl) rfl rfl ⟨bc BK108 0, bc BK108 1, bc BK108 2, bc BK108 3, bc BK108 4, bc BK108 5, bc BK117 0, bc BK117 1, bc BK117 2, bc BK117 3, bc BK117 4, bc BK117 5⟩ (fun hHeld => ?_); refine with_tabW laws_FnDates.tab7 laws_FnDates.bits7 (fun HT_ HW_ => ?_)
        generalize w47.drew = w48 at BK108 BK117 HB hHeld ⊢
        refine pu 0 19 laws_FnDates.d1 HT_ ?_
        refine tk 1 20 laws_FnDates.d2 HT_ HW_ hHeld ?_
        refine onx 2 21 laws_FnDates.d3 HT_ (fun K hK => ?_)
        refine gs Try.func9 #[.agg #[.int .i64 t102, .int .i64 t103, .int .i64 t104, .int .i64 t105, .int .i64 t106, .int .i64 t107]] ?_
        with_reducible refine (spec_Moment.calls k t102 t103 t104 t105 t106 t107 t118 _ A18.out).mono ?_
        rintro e w49 ⟨rfl, hb⟩
        refine ⟨_, rfl, ?_⟩
        replace BK108 := Aside0.mk (blk_below (g := gb108) (o := .cells #[.int .i64 t102, .int .i64 t103, .int .i64 t104, .int .i64 t105, .int .i64 t106, .int .i64 t107] 25 (0, 0)) bk hb)
        replace BK117 := Aside0.mk (blk_below (g := gb117) (o := .cells #[.int .i64 t111, .int .i64 t112, .int .i64 t113, .int .i64 t114, .int .i64 t115, .int .i64 t116] 25 (0, 0)) bk hb)
        replace HB := Aside0.mk (below_step bh hb)
        (try clear hb)
        (try clear hb2)
        (try clear hk)
        (try clear hi)
        refine hK.out _ _ ⟨bc BK108 0, bc BK108 1, bc BK108 2, bc BK108 3, bc BK108 4, bc BK108 5, bc BK117 0, bc BK117 1, bc BK117 2, bc BK117 3, bc BK117 4, bc BK117 5⟩ (fun hHeld => ?_)
        clear hK K
        refine nm 21 ?_
        refine pu 3 22 laws_FnDates.d4 HT_ ?_
        refine pu 4 23 laws_FnDates.d5 HT_ ?_
        refine pu 6 25 laws_FnDates.d6 HT_ ?_
        refine tk 5 24 laws_FnDates.d7 HT_ HW_ hHeld ?_
        refine onx 7 26 laws_FnDates.d8 HT_ (fun K hK => ?_)
        refine gs Try.func10 #[.int .i64 t110] ?_
        with_reducible refine (spec_DateAt.calls k t110 t119 t120 t121 t122 t123 t124 _ A20.out).mono ?_
        rintro e w50 ⟨rfl, hb⟩
        refine ⟨_, rfl, ?_⟩
        replace BK108 := Aside0.mk (blk_below (g := gb108) (o := .cells #[.int .i64 t102, .int .i64 t103, .int .i64 t104, .int .i64 t105, .int .i64 t106, .int .i64 t107] 25 (0, 0)) bk hb)
        replace BK117 := Aside0.mk (blk_below (g := gb117) (o := .cells #[.int .i64 t111, .int .i64 t112, .int .i64 t113, .int .i64 t114, .int .i64 t115, .int .i64 t116] 25 (0, 0)) bk hb)
        replace HB := Aside0.mk (below_step bh hb)
        (try clear hb)
        (try clear hb2)
        (try clear hk)
        (try clear hi)
        refine hK.out _ _ ⟨bc BK108 0, bc BK108 1, bc BK108 2, bc BK108 3, bc BK108 4, bc BK108 5, bc BK117 0, bc BK117 1, bc BK117 2, bc BK117 3, bc BK117 4, bc BK117 5⟩ (fun hHeld => ?_)
        clear hK K
        refine nm 26 ?_
        refine pu 8 27 laws_FnDates.d9 HT_ ?_
        refine pu 9 28 laws_FnDates.d10 HT_ ?_
        refine pu 10 29 laws_FnDates.d11 HT_ ?_
        refine tk 11 30 laws_FnDates.d12 HT_ HW_ hHeld ?_
        refine tk 13 32 laws_FnDates.d39 HT_ HW_ hHeld ?_
        refine onx 12 31 laws_FnDates.d14 HT_ (fun K hK => ?_)
        refine gs Try.func11 #[.agg #[.int .i64 t102, .int .i64 t103, .int .i64 t104, .int .i64 t105, .int .i64 t106, .int .i64 t107]] ?_
        with_reducible refine (impl_Days.calls k t102 t103 t104 t105 t106 t107 t125 _ A26.out).mono ?_
        rintro e w51 ⟨rfl, hb⟩
        refine ⟨_, rfl, ?_⟩
        replace BK108 := Aside0.mk (blk_below (g := gb108) (o := .cells #[.int .i64 t102, .int .i64 t103, .int .i64 t104, .int .i64 t105, .int .i64 t106, .int .i64 t107] 25 (0, 0)) bk hb)
        replace BK117 := Aside0.mk (blk_below (g := gb117) (o := .cells #[.int .i64 t111, .int .i64 t112, .int .i64 t113, .int .i64 t114, .int .i64 t115, .int .i64 t116] 25 (0, 0)) bk hb)
        replace HB := Aside0.mk (below_step bh hb)
        (try clear hb)
        (try clear hb2)
        (try clear hk)
        (try clear hi)
        refine hK.out _ _ ⟨bc BK108 0, bc BK108 1, bc BK108 2, bc BK108 3, bc BK108 4, bc BK108 5, bc BK117 0, bc BK117 1, bc BK117 2, bc BK117 3, bc BK117 4, bc BK117 5⟩ (fun hHeld => ?_)
        clear hK K
        refine nm 31 ?_
        refine onx 14 33 laws_FnDates.d15 HT_ (fun K hK => ?_)
        refine gs Try.func12 #[.agg #[.int .i64 t102, .int .i64 t103, .int .i64 t104, .int .i64 t105, .int .i64 t106, .int .i64 t107]] ?_
        with_reducible refine (spec_Days.calls k t102 t103 t104 t105 t106 t107 t126 _ A27.out).mono ?_
        rintro e w52 ⟨rfl, hb⟩
        refine ⟨_, rfl, ?_⟩
        replace BK108 := Aside0.mk (blk_below (g := gb108) (o := .cells #[.int .i64 t102, .int .i64 t103, .int .i64 t104, .int .i64 t105, .int .i64 t106, .int .i64 t107] 25 (0, 0)) bk hb)
        replace BK117 := Aside0.mk (blk_below (g := gb117) (o := .cells #[.int .i64 t111, .int .i64 t112, .int .i64 t113, .int .i64 t114, .int .i64 t115, .int .i64 t116] 25 (0, 0)) bk hb)
        replace HB := Aside0.mk (below_step bh hb)
        (try clear hb)
        (try clear hb2)
        (try clear hk)
        (try clear hi)
        refine hK.out _ _ ⟨bc BK108 0, bc BK108 1, bc BK108 2, bc BK108 3, bc BK108 4, bc BK108 5, bc BK117 0, bc BK117 1, bc BK117 2, bc BK117 3, bc BK117 4, bc BK117 5⟩ (fun hHeld => ?_)
        clear hK K
        refine nm 33 ?_
        refine pu 15 34 laws_FnDates.d16 HT_ ?_
        refine pu 16 35 laws_FnDates.d17 HT_ ?_
        refine pu 17 36 laws_FnDates.d18 HT_ ?_
        refine tk 18 37 laws_FnDates.d19 HT_ HW_ hHeld ?_
        refine tk 20 39 laws_FnDates.d40 HT_ HW_ hHeld ?_
        refine onx 19 38 laws_FnDates.d21 HT_ (fun K hK => ?_)
        refine gs Try.func13 #[.agg #[.int .i64 t102, .int .i64 t103, .int .i64 t104, .int .i64 t105, .int .i64 t106, .int .i64 t107]] ?_
        with_reducible refine (impl_Weekday.calls k t102 t103 t104 t105 t106 t107 t127 _ A29.out).mono ?_
        rintro e w53 ⟨rfl, hb⟩
        refine ⟨_, rfl, ?_⟩
        replace BK108 := Aside0.mk (blk_below (g := gb108) (o := .cells #[.int .i64 t102, .int .i64 t103, .int .i64 t104, .int .i64 t105, .int .i64 t106, .int .i64 t107] 25 (0, 0)) bk hb)
        replace BK117 := Aside0.mk (blk_below (g := gb117) (o := .cells #[.int .i64 t111, .int .i64 t112, .int .i64 t113, .int .i64 t114, .int .i64 t115, .int .i64 t116] 25 (0, 0)) bk hb)
        replace HB := Aside0.mk (below_step bh hb)
        (try clear hb)
        (try clear hb2)
        (try clear hk)
        (try clear hi)
        refine hK.out _ _ ⟨bc BK108 0, bc BK108 1, bc BK108 2, bc BK108 3, bc BK108 4, bc BK108 5, bc BK117 0, bc BK117 1, bc BK117 2, bc BK117 3, bc BK117 4, bc BK117 5⟩ (fun hHeld => ?_)
        clear hK K
        refine nm 38 ?_
        refine onx 21 40 laws_FnDates.d22 HT_ (fun K hK => ?_)
        refine gs Try.func14 #[.agg #[.int .i64 t102, .int .i64 t103, .int .i64 t104, .int .i64 t105, .int .i64 t106, .int .i64 t107]] ?_
        with_reducible refine (spec_Weekday.calls k t102 t103 t104 t105 t106 t107 t128 _ A30.out).mono ?_
        rintro e w54 ⟨rfl, hb⟩
        refine ⟨_, rfl, ?_⟩
        replace BK108 := Aside0.mk (blk_below (g := gb108) (o := .cells #[.int .i64 t102, .int .i64 t103, .int .i64 t104, .int .i64 t105, .int .i64 t106, .int .i64 t107] 25 (0, 0)) bk hb)
        replace BK117 := Aside0.mk (blk_below (g := gb117) (o := .cells #[.int .i64 t111, .int .i64 t112, .int .i64 t113, .int .i64 t114, .int .i64 t115, .int .i64 t116] 25 (0, 0)) bk hb)
        replace HB := Aside0.mk (below_step bh hb)
        (try clear hb)
        (try clear hb2)
        (try clear hk)
        (try clear hi)
        refine hK.out _ _ ⟨bc BK108 0, bc BK108 1, bc BK108 2, bc BK108 3, bc BK108 4, bc BK108 5, bc BK117 0, bc BK117 1, bc BK117 2, bc BK117 3, bc BK117 4, bc BK117 5⟩ (fun hHeld => ?_)
        clear hK K
        refine nm 40 ?_
        refine pu 22 41 laws_FnDates.d23 HT_ ?_
        refine pu 23 42 laws_FnDates.d24 HT_ ?_
        refine pu 24 43 laws_FnDates.d25 HT_ ?_
        refine tk 25 44 laws_FnDates.d26 HT_ HW_ hHeld ?_
        refine tk 27 46 laws_FnDates.d41 HT_ HW_ hHeld ?_
        refine onx 26 45 laws_FnDates.d28 HT_ (fun K hK => ?_)
        refine gs Try.func15 #[.agg #[.int .i64 t102, .int .i64 t103, .int .i64 t104, .int .i64 t105, .int .i64 t106, .int .i64 t107]] ?_
        with_reducible refine (impl_DateOk.calls k t102 t103 t104 t105 t106 t107 t129 _ A32.out).mono ?_
        rintro e w55 ⟨rfl, hb⟩
        refine ⟨_, rfl, ?_⟩
        replace BK108 := Aside0.mk (blk_below (g := gb108) (o := .cells #[.int .i64 t102, .int .i64 t103, .int .i64 t104, .int .i64 t105, .int .i64 t106, .int .i64 t107] 25 (0, 0)) bk hb)
        replace BK117 := Aside0.mk (blk_below (g := gb117) (o := .cells #[.int .i64 t111, .int .i64 t112, .int .i64 t113, .int .i64 t114, .int .i64 t115, .int .i64 t116] 25 (0, 0)) bk hb)
        replace HB := Aside0.mk (below_step bh hb)
        (try clear hb)
        (try clear hb2)
        (try clear hk)
        (try clear hi)
        refine hK.out _ _ ⟨bc BK108 0, bc BK108 1, bc BK108 2, bc BK108 3, bc BK108 4, bc BK108 5, bc BK117 0, bc BK117 1, bc BK117 2, bc BK117 3, bc BK117 4, bc BK117 5⟩ (fun hHeld => ?_)
        clear hK K
        refine nm 45 ?_
        refine onx 28 47 laws_FnDates.d29 HT_ (fun K hK => ?_)
        refine gs Try.func16 #[.agg #[.int .i64 t102, .int .i64 t103, .int .i64 t104, .int .i64 t105, .int .i64 t106, .int .i64 t107]] ?_
        with_reducible refine (spec_DateOk.calls t102 t103 t104 t105 t106 t107 t130 _ A33.out).mono ?_
        rintro e w56 ⟨rfl, hb⟩
        refine ⟨_, rfl, ?_⟩
        replace BK108 := Aside0.mk (blk_below (g := gb108) (o := .cells #[.int .i64 t102, .int .i64 t103, .int .i64 t104, .int .i64 t105, .int .i64 t106, .int .i64 t107] 25 (0, 0)) bk hb)
        replace BK117 := Aside0.mk (blk_below (g := gb117) (o := .cells #[.int .i64 t111, .int .i64 t112, .int .i64 t113, .int .i64 t114, .int .i64 t115, .int .i64 t116] 25 (0, 0)) bk hb)
        replace HB := Aside0.mk (below_step bh hb)
        (try clear hb)
        (try clear hb2)
        (try clear hk)
        (try clear hi)
        refine hK.out _ _ ⟨bc BK108 0, bc BK108 1, bc BK108 2, bc BK108 3, bc BK108 4, bc BK108 5, bc BK117 0, bc BK117 1, bc BK117 2, bc BK117 3, bc BK117 4, bc BK117 5⟩ (fun hHeld => ?_)
        clear hK K
        refine nm 47 ?_
        refine pu 29 48 laws_FnDates.d30 HT_ ?_
        refine pu 30 49 laws_FnDates.d31 HT_ ?_
        refine pu 31 50 laws_FnDates.d32 HT_ ?_
        refine pu 32 51 laws_FnDates.d33 HT_ ?_
        refine pu 34 53 #[true, true, true, true, true, true, true, true, true, true, true, true, true, true, true, true, true, true, true, true, true, true, true, true, true, true, true, true, true, true, true, true, true, false, true, false, false, false] HT_ ?_
        refine onx 33 52 laws_FnDates.d35 HT_ (fun K hK => ?_)
        refine gs Try.func17 #[.int .i64 t110] ?_
        with_reducible refine (impl_Leap.calls t110 t131 _ A45.out).mono ?_
        rintro e w' ⟨rfl, ⟨nd, rfl⟩⟩
        refine ⟨_, rfl, ?_⟩
        refine hK.out _ _ ⟨bc BK108 0, bc BK108 1, bc BK108 2, bc BK108 3, bc BK108 4, bc BK108 5, bc BK117 0, bc BK117 1, bc BK117 2, bc BK117 3, bc BK117 4, bc BK117 5⟩ (fun hHeld => ?_)
        clear hK K
        refine nm 52 ?_
        refine onx 35 54 laws_FnDates.d36 HT_ (fun K hK => ?_)
        refine gs Try.func18 #[.int .i64 t110] ?_
        with_reducible refine (spec_Leap.calls t110 t132 _ A46.out).mono ?_
        rintro e w' ⟨rfl, ⟨nd, rfl⟩⟩
        refine ⟨_, rfl, ?_⟩
        refine hK.out _ _ ⟨bc BK108 0, bc BK108 1, bc BK108 2, bc BK108 3, bc BK108 4, bc BK108 5, bc BK117 0, bc BK117 1, bc BK117 2, bc BK117 3, bc BK117 4, bc BK117 5⟩ (fun hHeld => ?_)
        clear hK K
        refine nm 54 ?_
        refine pu 36 55 laws_FnDates.d37 HT_ ?_
        refine pu 37 56 laws_FnDates.d38 HT_ ?_
        refine dn HT_ ?_
        try go_wp2
        go_meet
        case rel => exact ⟨_, ((t131 != t132)), (by first | rfl | (simp; done) | (simp [*]; done)), H', ⟨by first | omega | exact Nat.le_refl _⟩, ⟨by (with_reducible repeat (first | refine blk_drewN ?_ _ | refine blk_drew ?_ | refine blk_alloc ?_ _)); exact BK108.out⟩, ⟨by (with_reducible repeat (first | refine blk_drewN ?_ _ | refine blk_drew ?_ | refine blk_alloc ?_ _)); exact BK117.out⟩, ⟨bh⟩⟩
      ·
       rw [if_neg c31] at H
       have c31b0 : (t127 == t128) = false := beq_eq_false_iff_ne.mpr c31
       have c31b1 : (t127 != t128) = true := bne_iff_ne.mpr c31
       have H' := Aside0.mk H
       clear H
       try go_wp2
       have n0_ : Aside0 (((((((w15.setCell ⟨gb117, 0, none⟩ (.int .i64 t111)).setCell ⟨gb117, 1, none⟩ (.int .i64 t112)).setCell ⟨gb117, 2, none⟩ (.int .i64 t113)).setCell ⟨gb117, 3, none⟩ (.int .i64 t114)).setCell ⟨gb117, 4, none⟩ (.int .i64 t115)).setCell ⟨gb117, 5, none⟩ (.int .i64 t116)).heap[gb108]? = some (.cells #[.int .i64 t102, .int .i64 t103, .int .i64 t104, .int .i64 t105, .int .i64 t106, .int .i64 t107] 25 (0, 0))) := ⟨by (with_reducible repeat (first | refine blk_drewN ?_ _ | refine blk_drew ?_ | refine blk_alloc ?_ _)); refine blk_far ?_ NB108_117.out _; (with_reducible repeat (first | refine blk_drewN ?_ _ | refine blk_drew ?_ | refine blk_alloc ?_ _)); refine blk_far ?_ NB108_117.out _; (with_reducible repeat (first | refine blk_drewN ?_ _ | refine blk_drew ?_ | refine blk_alloc ?_ _)); refine blk_far ?_ NB108_117.out _; (with_reducible repeat (first | refine blk_drewN ?_ _ | refine blk_drew ?_ | refine blk_alloc ?_ _)); refine blk_far ?_ NB108_117.out _; (with_reducible repeat (first | refine blk_drewN ?_ _ | refine blk_drew ?_ | refine blk_alloc ?_ _)); refine blk_far ?_ NB108_117.out _; (with_reducible repeat (first | refine blk_drewN ?_ _ | refine blk_drew ?_ | refine blk_alloc ?_ _)); refine blk_far ?_ NB108_117.out _; (with_reducible repeat (first | refine blk_drewN ?_ _ | refine blk_drew ?_ | refine blk_alloc ?_ _)); exact BK108.out⟩
       have n1_ : Aside0 (((((((w15.setCell ⟨gb117, 0, none⟩ (.int .i64 t111)).setCell ⟨gb117, 1, none⟩ (.int .i64 t112)).setCell ⟨gb117, 2, none⟩ (.int .i64 t113)).setCell ⟨gb117, 3, none⟩ (.int .i64 t114)).setCell ⟨gb117, 4, none⟩ (.int .i64 t115)).setCell ⟨gb117, 5, none⟩ (.int .i64 t116)).heap[gb117]? = some (.cells #[.int .i64 t111, .int .i64 t112, .int .i64 t113, .int .i64 t114, .int .i64 t115, .int .i64 t116] 25 (0, 0))) := ⟨by (with_reducible repeat (first | refine blk_drewN ?_ _ | refine blk_drew ?_ | refine blk_alloc ?_ _)); refine blk_put (cs := #[.int .i64 t111, .int .i64 t112, .int .i64 t113, .int .i64 t114, .int .i64 t115, .int .i64 0]) ?_ 5 _ rfl; (with_reducible repeat (first | refine blk_drewN ?_ _ | refine blk_drew ?_ | refine blk_alloc ?_ _)); refine blk_put (cs := #[.int .i64 t111, .int .i64 t112, .int .i64 t113, .int .i64 t114, .int .i64 0, .int .i64 0]) ?_ 4 _ rfl; (with_reducible repeat (first | refine blk_drewN ?_ _ | refine blk_drew ?_ | refine blk_alloc ?_ _)); refine blk_put (cs := #[.int .i64 t111, .int .i64 t112, .int .i64 t113, .int .i64 0, .int .i64 0, .int .i64 0]) ?_ 3 _ rfl; (with_reducible repeat (first | refine blk_drewN ?_ _ | refine blk_drew ?_ | refine blk_alloc ?_ _)); refine blk_put (cs := #[.int .i64 t111, .int .i64 t112, .int .i64 0, .int .i64 0, .int .i64 0, .int .i64 0]) ?_ 2 _ rfl; (with_reducible repeat (first | refine blk_drewN ?_ _ | refine blk_drew ?_ | refine blk_alloc ?_ _)); refine blk_put (cs := #[.int .i64 t111, .int .i64 0, .int .i64 0, .int .i64 0, .int .i64 0, .int .i64 0]) ?_ 1 _ rfl; (with_reducible repeat (first | refine blk_drewN ?_ _ | refine blk_drew ?_ | refine blk_alloc ?_ _)); refine blk_put (cs := #[.int .i64 0, .int .i64 0, .int .i64 0, .int .i64 0, .int .i64 0, .int .i64 0]) ?_ 0 _ rfl; (with_reducible repeat (first | refine blk_drewN ?_ _ | refine blk_drew ?_ | refine blk_alloc ?_ _)); exact BK117.out⟩
       have n2_ : Aside0 (Below w.heap.size w ((((((w15.setCell ⟨gb117, 0, none⟩ (.int .i64 t111)).setCell ⟨gb117, 1, none⟩ (.int .i64 t112)).setCell ⟨gb117, 2, none⟩ (.int .i64 t113)).setCell ⟨gb117, 3, none⟩ (.int .i64 t114)).setCell ⟨gb117, 4, none⟩ (.int .i64 t115)).setCell ⟨gb117, 5, none⟩ (.int .i64 t116))) := ⟨bh⟩
       (try clear BK108)
       (try clear BK117)
       (try clear HB)
       generalize ((((((w15.setCell ⟨gb117, 0, none⟩ (.int .i64 t111)).setCell ⟨gb117, 1, none⟩ (.int .i64 t112)).setCell ⟨gb117, 2, none⟩ (.int .i64 t113)).setCell ⟨gb117, 3, none⟩ (.int .i64 t114)).setCell ⟨gb117, 4, none⟩ (.int .i64 t115)).setCell ⟨gb117, 5, none⟩ (.int .i64 t116)) = w57 at n0_ n1_ n2_ ⊢
       have BK108 := n0_
       have BK117 := n1_
       have HB := n2_
       clear n0_ n1_ n2_
       replace BK108 := Aside0.mk (blk_drew BK108.out)
       replace BK117 := Aside0.mk (blk_drew BK117.out)
       replace HB := Aside0.mk (below_drew1 HB.out)
       refine start_ (n := 38) (S := fun w' => w'.cell? ⟨gb108, 0, none⟩ = some (.int .i64 t102) ∧ w'.cell? ⟨gb108, 1, none⟩ = some (.int .i64 t103) ∧ w'.cell? ⟨gb108, 2, none⟩ = some (.int .i64 t104) ∧ w'.cell? ⟨gb108, 3, none⟩ = some (.int .i64 t105) ∧ w'.cell? ⟨gb108, 4, none⟩ = some (.int .i64 t106) ∧ w'.cell? ⟨gb108, 5, none⟩ = some (.int .i64 t107) ∧ w'.cell? ⟨gb117, 0, none⟩ = some (.int .i64 t111) ∧ w'.cell? ⟨gb117, 1, none⟩ = some (.int .i64 t112) ∧ w'.cell? ⟨gb117, 2, none⟩ = some (.int .i64 t113) ∧ w'.cell? ⟨gb117, 3, none⟩ = some (.int .i64 t114) ∧ w'.cell? ⟨gb117, 4, none⟩ = some (.int .i64 t115) ∧ w'.cell? ⟨gb117, 5, none⟩ = some (.int .i64 t116)) (ds := []) laws_FnDates.d0 (by kernel_rfl) rfl rfl ⟨bc BK108 0, bc BK108 1, bc BK108 2, bc BK108 3, bc BK108 4, bc BK108 5, bc BK117 0, bc BK117 1, bc BK117 2, bc BK117 3, bc BK117 4, bc BK117 5⟩ (fun hHeld => ?_); refine with_tabW laws_FnDates.tab7 laws_FnDates.bits7 (fun HT_ HW_ => ?_)
       generalize w57.drew = w58 at BK108 BK117 HB hHeld ⊢
       refine pu 0 19 laws_FnDates.d1 HT_ ?_
       refine tk 1 20 laws_FnDates.d2 HT_ HW_ hHeld ?_
       refine onx 2 21 laws_FnDates.d3 HT_ (fun K hK => ?_)
       refine gs Try.func9 #[.agg #[.int .i64 t102, .int .i64 t103, .int .i64 t104, .int .i64 t105, .int .i64 t106, .int .i64 t107]] ?_
       with_reducible refine (spec_Moment.calls k t102 t103 t104 t105 t106 t107 t118 _ A18.out).mono ?_
       rintro e w59 ⟨rfl, hb⟩
       refine ⟨_, rfl, ?_⟩
       replace BK108 := Aside0.mk (blk_below (g := gb108) (o := .cells #[.int .i64 t102, .int .i64 t103, .int .i64 t104, .int .i64 t105, .int .i64 t106, .int .i64 t107] 25 (0, 0)) bk hb)
       replace BK117 := Aside0.mk (blk_below (g := gb117) (o := .cells #[.int .i64 t111, .int .i64 t112, .int .i64 t113, .int .i64 t114, .int .i64 t115, .int .i64 t116] 25 (0, 0)) bk hb)
       replace HB := Aside0.mk (below_step bh hb)
       (try clear hb)
       (try clear hb2)
       (try clear hk)
       (try clear hi)
       refine hK.out _ _ ⟨bc BK108 0, bc BK108 1, bc BK108 2, bc BK108 3, bc BK108 4, bc BK108 5, bc BK117 0, bc BK117 1, bc BK117 2, bc BK117 3, bc BK117 4, bc BK117 5⟩ (fun hHeld => ?_)
       clear hK K
       refine nm 21 ?_
       refine pu 3 22 laws_FnDates.d4 HT_ ?_
       refine pu 4 23 laws_FnDates.d5 HT_ ?_
       refine pu 6 25 laws_FnDates.d6 HT_ ?_
       refine tk 5 24 laws_FnDates.d7 HT_ HW_ hHeld ?_
       refine onx 7 26 laws_FnDates.d8 HT_ (fun K hK => ?_)
       refine gs Try.func10 #[.int .i64 t110] ?_
       with_reducible refine (spec_DateAt.calls k t110 t119 t120 t121 t122 t123 t124 _ A20.out).mono ?_
       rintro e w60 ⟨rfl, hb⟩
       refine ⟨_, rfl, ?_⟩
       replace BK108 := Aside0.mk (blk_below (g := gb108) (o := .cells #[.int .i64 t102, .int .i64 t103, .int .i64 t104, .int .i64 t105, .int .i64 t106, .int .i64 t107] 25 (0, 0)) bk hb)
       replace BK117 := Aside0.mk (blk_below (g := gb117) (o := .cells #[.int .i64 t111, .int .i64 t112, .int .i64 t113, .int .i64 t114, .int .i64 t115, .int .i64 t116] 25 (0, 0)) bk hb)
       replace HB := Aside0.mk (below_step bh hb)
       (try clear hb)
       (try clear hb2)
       (try clear hk)
       (try clear hi)
       refine hK.out _ _ ⟨bc BK108 0, bc BK108 1, bc BK108 2, bc BK108 3, bc BK108 4, bc BK108 5, bc BK117 0, bc BK117 1, bc BK117 2, bc BK117 3, bc BK117 4, bc BK117 5⟩ (fun hHeld => ?_)
       clear hK K
       refine nm 26 ?_
       refine pu 8 27 laws_FnDates.d9 HT_ ?_
       refine pu 9 28 laws_FnDates.d10 HT_ ?_
       refine pu 10 29 laws_FnDates.d11 HT_ ?_
       refine tk 11 30 laws_FnDates.d12 HT_ HW_ hHeld ?_
       refine tk 13 32 laws_FnDates.d39 HT_ HW_ hHeld ?_
       refine onx 12 31 laws_FnDates.d14 HT_ (fun K hK => ?_)
       refine gs Try.func11 #[.agg #[.int .i64 t102, .int .i64 t103, .int .i64 t104, .int .i64 t105, .int .i64 t106, .int .i64 t107]] ?_
       with_reducible refine (impl_Days.calls k t102 t103 t104 t105 t106 t107 t125 _ A26.out).mono ?_
       rintro e w61 ⟨rfl, hb⟩
       refine ⟨_, rfl, ?_⟩
       replace BK108 := Aside0.mk (blk_below (g := gb108) (o := .cells #[.int .i64 t102, .int .i64 t103, .int .i64 t104, .int .i64 t105, .int .i64 t106, .int .i64 t107] 25 (0, 0)) bk hb)
       replace BK117 := Aside0.mk (blk_below (g := gb117) (o := .cells #[.int .i64 t111, .int .i64 t112, .int .i64 t113, .int .i64 t114, .int .i64 t115, .int .i64 t116] 25 (0, 0)) bk hb)
       replace HB := Aside0.mk (below_step bh hb)
       (try clear hb)
       (try clear hb2)
       (try clear hk)
       (try clear hi)
       refine hK.out _ _ ⟨bc BK108 0, bc BK108 1, bc BK108 2, bc BK108 3, bc BK108 4, bc BK108 5, bc BK117 0, bc BK117 1, bc BK117 2, bc BK117 3, bc BK117 4, bc BK117 5⟩ (fun hHeld => ?_)
       clear hK K
       refine nm 31 ?_
       refine onx 14 33 laws_FnDates.d15 HT_ (fun K hK => ?_)
       refine gs Try.func12 #[.agg #[.int .i64 t102, .int .i64 t103, .int .i64 t104, .int .i64 t105, .int .i64 t106, .int .i64 t107]] ?_
       with_reducible refine (spec_Days.calls k t102 t103 t104 t105 t106 t107 t126 _ A27.out).mono ?_
       rintro e w62 ⟨rfl, hb⟩
       refine ⟨_, rfl, ?_⟩
       replace BK108 := Aside0.mk (blk_below (g := gb108) (o := .cells #[.int .i64 t102, .int .i64 t103, .int .i64 t104, .int .i64 t105, .int .i64 t106, .int .i64 t107] 25 (0, 0)) bk hb)
       replace BK117 := Aside0.mk (blk_below (g := gb117) (o := .cells #[.int .i64 t111, .int .i64 t112, .int .i64 t113, .int .i64 t114, .int .i64 t115, .int .i64 t116] 25 (0, 0)) bk hb)
       replace HB := Aside0.mk (below_step bh hb)
       (try clear hb)
       (try clear hb2)
       (try clear hk)
       (try clear hi)
       refine hK.out _ _ ⟨bc BK108 0, bc BK108 1, bc BK108 2, bc BK108 3, bc BK108 4, bc BK108 5, bc BK117 0, bc BK117 1, bc BK117 2, bc BK117 3, bc BK117 4, bc BK117 5⟩ (fun hHeld => ?_)
       clear hK K
       refine nm 33 ?_
       refine pu 15 34 laws_FnDates.d16 HT_ ?_
       refine pu 16 35 laws_FnDates.d17 HT_ ?_
       refine pu 17 36 laws_FnDates.d18 HT_ ?_
       refine tk 18 37 laws_FnDates.d19 HT_ HW_ hHeld ?_
       refine tk 20 39 laws_FnDates.d40 HT_ HW_ hHeld ?_
       refine onx 19 38 laws_FnDates.d21 HT_ (fun K hK => ?_)
       refine gs Try.func13 #[.agg #[.int .i64 t102, .int .i64 t103, .int .i64 t104, .int .i64 t105, .int .i64 t106, .int .i64 t107]] ?_
       with_reducible refine (impl_Weekday.calls k t102 t103 t104 t105 t106 t107 t127 _ A29.out).mono ?_
       rintro e w63 ⟨rfl, hb⟩
       refine ⟨_, rfl, ?_⟩
       replace BK108 := Aside0.mk (blk_below (g := gb108) (o := .cells #[.int .i64 t102, .int .i64 t103, .int .i64 t104, .int .i64 t105, .int .i64 t106, .int .i64 t107] 25 (0, 0)) bk hb)
       replace BK117 := Aside0.mk (blk_below (g := gb117) (o := .cells #[.int .i64 t111, .int .i64 t112, .int .i64 t113, .int .i64 t114, .int .i64 t115, .int .i64 t116] 25 (0, 0)) bk hb)
       replace HB := Aside0.mk (below_step bh hb)
       (try clear hb)
       (try clear hb2)
       (try clear hk)
       (try clear hi)
       refine hK.out _ _ ⟨bc BK108 0, bc BK108 1, bc BK108 2, bc BK108 3, bc BK108 4, bc BK108 5, bc BK117 0, bc BK117 1, bc BK117 2, bc BK117 3, bc BK117 4, bc BK117 5⟩ (fun hHeld => ?_)
       clear hK K
       refine nm 38 ?_
       refine onx 21 40 laws_FnDates.d22 HT_ (fun K hK => ?_)
       refine gs Try.func14 #[.agg #[.int .i64 t102, .int .i64 t103, .int .i64 t104, .int .i64 t105, .int .i64 t106, .int .i64 t107]] ?_
       with_reducible refine (spec_Weekday.calls k t102 t103 t104 t105 t106 t107 t128 _ A30.out).mono ?_
       rintro e w64 ⟨rfl, hb⟩
       refine ⟨_, rfl, ?_⟩
       replace BK108 := Aside0.mk (blk_below (g := gb108) (o := .cells #[.int .i64 t102, .int .i64 t103, .int .i64 t104, .int .i64 t105, .int .i64 t106, .int .i64 t107] 25 (0, 0)) bk hb)
       replace BK117 := Aside0.mk (blk_below (g := gb117) (o := .cells #[.int .i64 t111, .int .i64 t112, .int .i64 t113, .int .i64 t114, .int .i64 t115, .int .i64 t116] 25 (0, 0)) bk hb)
       replace HB := Aside0.mk (below_step bh hb)
       (try clear hb)
       (try clear hb2)
       (try clear hk)
       (try clear hi)
       refine hK.out _ _ ⟨bc BK108 0, bc BK108 1, bc BK108 2, bc BK108 3, bc BK108 4, bc BK108 5, bc BK117 0, bc BK117 1, bc BK117 2, bc BK117 3, bc BK117 4, bc BK117 5⟩ (fun hHeld => ?_)
       clear hK K
       refine nm 40 ?_
       refine pu 22 41 laws_FnDates.d23 HT_ ?_
       refine pu 23 42 laws_FnDates.d24 HT_ ?_
       refine pu 24 43 laws_FnDates.d25 HT_ ?_
       refine un 25 44 laws_FnDates.d26 HT_ ?_
       refine un 26 45 laws_FnDates.d27 HT_ ?_
       refine un 27 46 laws_FnDates.d28 HT_ ?_
       refine un 28 47 laws_FnDates.d29 HT_ ?_
       refine un 29 48 laws_FnDates.d30 HT_ ?_
       refine pu 30 49 laws_FnDates.d31 HT_ ?_
       refine pu 31 50 laws_FnDates.d32 HT_ ?_
       refine un 32 51 laws_FnDates.d33 HT_ ?_
       refine un 33 52 laws_FnDates.d34 HT_ ?_
       refine un 34 53 laws_FnDates.d35 HT_ ?_
       refine un 35 54 laws_FnDates.d36 HT_ ?_
       refine un 36 55 laws_FnDates.d37 HT_ ?_
       refine pu 37 56 laws_FnDates.d38 HT_ ?_
       refine dn HT_ ?_
       try go_wp2
       go_meet
       case rel => exact ⟨_, (true), (by first | rfl | (simp; done) | (simp [*]; done)), H', ⟨by first | omega | exact Nat.le_refl _⟩, ⟨by (with_reducible repeat (first | refine blk_drewN ?_ _ | refine blk_drew ?_ | refine blk_alloc ?_ _)); exact BK108.out⟩, ⟨by (with_reducible repeat (first | refine blk_drewN ?_ _ | refine blk_drew ?_ | refine blk_alloc ?_ _)); exact BK117.out⟩, ⟨bh⟩⟩
     ·
      rw [if_neg c28] at H
      have c28b0 : (t125 == t126) = false := beq_eq_false_iff_ne.mpr c28
      have c28b1 : (t125 != t126) = true := bne_iff_ne.mpr c28
      have H' := Aside0.mk H
      clear H
      try go_wp2
      have n0_ : Aside0 (((((((w15.setCell ⟨gb117, 0, none⟩ (.int .i64 t111)).setCell ⟨gb117, 1, none⟩ (.int .i64 t112)).setCell ⟨gb117, 2, none⟩ (.int .i64 t113)).setCell ⟨gb117, 3, none⟩ (.int .i64 t114)).setCell ⟨gb117, 4, none⟩ (.int .i64 t115)).setCell ⟨gb117, 5, none⟩ (.int .i64 t116)).heap[gb108]? = some (.cells #[.int .i64 t102, .int .i64 t103, .int .i64 t104, .int .i64 t105, .int .i64 t106, .int .i64 t107] 25 (0, 0))) := ⟨by (with_reducible repeat (first | refine blk_drewN ?_ _ | refine blk_drew ?_ | refine blk_alloc ?_ _)); refine blk_far ?_ NB108_117.out _; (with_reducible repeat (first | refine blk_drewN ?_ _ | refine blk_drew ?_ | refine blk_alloc ?_ _)); refine blk_far ?_ NB108_117.out _; (with_reducible repeat (first | refine blk_drewN ?_ _ | refine blk_drew ?_ | refine blk_alloc ?_ _)); refine blk_far ?_ NB108_117.out _; (with_reducible repeat (first | refine blk_drewN ?_ _ | refine blk_drew ?_ | refine blk_alloc ?_ _)); refine blk_far ?_ NB108_117.out _; (with_reducible repeat (first | refine blk_drewN ?_ _ | refine blk_drew ?_ | refine blk_alloc ?_ _)); refine blk_far ?_ NB108_117.out _; (with_reducible repeat (first | refine blk_drewN ?_ _ | refine blk_drew ?_ | refine blk_alloc ?_ _)); refine blk_far ?_ NB108_117.out _; (with_reducible repeat (first | refine blk_drewN ?_ _ | refine blk_drew ?_ | refine blk_alloc ?_ _)); exact BK108.out⟩
      have n1_ : Aside0 (((((((w15.setCell ⟨gb117, 0, none⟩ (.int .i64 t111)).setCell ⟨gb117, 1, none⟩ (.int .i64 t112)).setCell ⟨gb117, 2, none⟩ (.int .i64 t113)).setCell ⟨gb117, 3, none⟩ (.int .i64 t114)).setCell ⟨gb117, 4, none⟩ (.int .i64 t115)).setCell ⟨gb117, 5, none⟩ (.int .i64 t116)).heap[gb117]? = some (.cells #[.int .i64 t111, .int .i64 t112, .int .i64 t113, .int .i64 t114, .int .i64 t115, .int .i64 t116] 25 (0, 0))) := ⟨by (with_reducible repeat (first | refine blk_drewN ?_ _ | refine blk_drew ?_ | refine blk_alloc ?_ _)); refine blk_put (cs := #[.int .i64 t111, .int .i64 t112, .int .i64 t113, .int .i64 t114, .int .i64 t115, .int .i64 0]) ?_ 5 _ rfl; (with_reducible repeat (first | refine blk_drewN ?_ _ | refine blk_drew ?_ | refine blk_alloc ?_ _)); refine blk_put (cs := #[.int .i64 t111, .int .i64 t112, .int .i64 t113, .int .i64 t114, .int .i64 0, .int .i64 0]) ?_ 4 _ rfl; (with_reducible repeat (first | refine blk_drewN ?_ _ | refine blk_drew ?_ | refine blk_alloc ?_ _)); refine blk_put (cs := #[.int .i64 t111, .int .i64 t112, .int .i64 t113, .int .i64 0, .int .i64 0, .int .i64 0]) ?_ 3 _ rfl; (with_reducible repeat (first | refine blk_drewN ?_ _ | refine blk_drew ?_ | refine blk_alloc ?_ _)); refine blk_put (cs := #[.int .i64 t111, .int .i64 t112, .int .i64 0, .int .i64 0, .int .i64 0, .int .i64 0]) ?_ 2 _ rfl; (with_reducible repeat (first | refine blk_drewN ?_ _ | refine blk_drew ?_ | refine blk_alloc ?_ _)); refine blk_put (cs := #[.int .i64 t111, .int .i64 0, .int .i64 0, .int .i64 0, .int .i64 0, .int .i64 0]) ?_ 1 _ rfl; (with_reducible repeat (first | refine blk_drewN ?_ _ | refine blk_drew ?_ | refine blk_alloc ?_ _)); refine blk_put (cs := #[.int .i64 0, .int .i64 0, .int .i64 0, .int .i64 0, .int .i64 0, .int .i64 0]) ?_ 0 _ rfl; (with_reducible repeat (first | refine blk_drewN ?_ _ | refine blk_drew ?_ | refine blk_alloc ?_ _)); exact BK117.out⟩
      have n2_ : Aside0 (Below w.heap.size w ((((((w15.setCell ⟨gb117, 0, none⟩ (.int .i64 t111)).setCell ⟨gb117, 1, none⟩ (.int .i64 t112)).setCell ⟨gb117, 2, none⟩ (.int .i64 t113)).setCell ⟨gb117, 3, none⟩ (.int .i64 t114)).setCell ⟨gb117, 4, none⟩ (.int .i64 t115)).setCell ⟨gb117, 5, none⟩ (.int .i64 t116))) := ⟨bh⟩
      (try clear BK108)
      (try clear BK117)
      (try clear HB)
      generalize ((((((w15.setCell ⟨gb117, 0, none⟩ (.int .i64 t111)).setCell ⟨gb117, 1, none⟩ (.int .i64 t112)).setCell ⟨gb117, 2, none⟩ (.int .i64 t113)).setCell ⟨gb117, 3, none⟩ (.int .i64 t114)).setCell ⟨gb117, 4, none⟩ (.int .i64 t115)).setCell ⟨gb117, 5, none⟩ (.int .i64 t116)) = w65 at n0_ n1_ n2_ ⊢
      have BK108 := n0_
      have BK117 := n1_
      have HB := n2_
      clear n0_ n1_ n2_
      replace BK108 := Aside0.mk (blk_drew BK108.out)
      replace BK117 := Aside0.mk (blk_drew BK117.out)
      replace HB := Aside0.mk (below_drew1 HB.out)
      refine start_ (n := 38) (S := fun w' => w'.cell? ⟨gb108, 0, none⟩ = some (.int .i64 t102) ∧ w'.cell? ⟨gb108, 1, none⟩ = some (.int .i64 t103) ∧ w'.cell? ⟨gb108, 2, none⟩ = some (.int .i64 t104) ∧ w'.cell? ⟨gb108, 3, none⟩ = some (.int .i64 t105) ∧ w'.cell? ⟨gb108, 4, none⟩ = some (.int .i64 t106) ∧ w'.cell? ⟨gb108, 5, none⟩ = some (.int .i64 t107) ∧ w'.cell? ⟨gb117, 0, none⟩ = some (.int .i64 t111) ∧ w'.cell? ⟨gb117, 1, none⟩ = some (.int .i64 t112) ∧ w'.cell? ⟨gb117, 2, none⟩ = some (.int .i64 t113) ∧ w'.cell? ⟨gb117, 3, none⟩ = some (.int .i64 t114) ∧ w'.cell? ⟨gb117, 4, none⟩ = some (.int .i64 t115) ∧ w'.cell? ⟨gb117, 5, none⟩ = some (.int .i64 t116)) (ds := []) laws_FnDates.d0 (by kernel_rfl) rfl rfl ⟨bc BK108 0, bc BK108 1, bc BK108 2, bc BK108 3, bc BK108 4, bc BK108 5, bc BK117 0, bc BK117 1, bc BK117 2, bc BK117 3, bc BK117 4, bc BK117 5⟩ (fun hHeld => ?_); refine with_tabW laws_FnDates.tab7 laws_FnDates.bits7 (fun HT_ HW_ => ?_)
      generalize w65.drew = w66 at BK108 BK117 HB hHeld ⊢
      refine pu 0 19 laws_FnDates.d1 HT_ ?_
      refine tk 1 20 laws_FnDates.d2 HT_ HW_ hHeld ?_
      refine onx 2 21 laws_FnDates.d3 HT_ (fun K hK => ?_)
      refine gs Try.func9 #[.agg #[.int .i64 t102, .int .i64 t103, .int .i64 t104, .int .i64 t105, .int .i64 t106, .int .i64 t107]] ?_
      with_reducible refine (spec_Moment.calls k t102 t103 t104 t105 t106 t107 t118 _ A18.out).mono ?_
      rintro e w67 ⟨rfl, hb⟩
      refine ⟨_, rfl, ?_⟩
      replace BK108 := Aside0.mk (blk_below (g := gb108) (o := .cells #[.int .i64 t102, .int .i64 t103, .int .i64 t104, .int .i64 t105, .int .i64 t106, .int .i64 t107] 25 (0, 0)) bk hb)
      replace BK117 := Aside0.mk (blk_below (g := gb117) (o := .cells #[.int .i64 t111, .int .i64 t112, .int .i64 t113, .int .i64 t114, .int .i64 t115, .int .i64 t116] 25 (0, 0)) bk hb)
      replace HB := Aside0.mk (below_step bh hb)
      (try clear hb)
      (try clear hb2)
      (try clear hk)
      (try clear hi)
      refine hK.out _ _ ⟨bc BK108 0, bc BK108 1, bc BK108 2, bc BK108 3, bc BK108 4, bc BK108 5, bc BK117 0, bc BK117 1, bc BK117 2, bc BK117 3, bc BK117 4, bc BK117 5⟩ (fun hHeld => ?_)
      clear hK K
      refine nm 21 ?_
      refine pu 3 22 laws_FnDates.d4 HT_ ?_
      refine pu 4 23 laws_FnDates.d5 HT_ ?_
      refine pu 6 25 laws_FnDates.d6 HT_ ?_
      refine tk 5 24 laws_FnDates.d7 HT_ HW_ hHeld ?_
      refine onx 7 26 laws_FnDates.d8 HT_ (fun K hK => ?_)
      refine gs Try.func10 #[.int .i64 t110] ?_
      with_reducible refine (spec_DateAt.calls k t110 t119 t120 t121 t122 t123 t124 _ A20.out).mono ?_
      rintro e w68 ⟨rfl, hb⟩
      refine ⟨_, rfl, ?_⟩
      replace BK108 := Aside0.mk (blk_below (g := gb108) (o := .cells #[.int .i64 t102, .int .i64 t103, .int .i64 t104, .int .i64 t105, .int .i64 t106, .int .i64 t107] 25 (0, 0)) bk hb)
      replace BK117 := Aside0.mk (blk_below (g := gb117) (o := .cells #[.int .i64 t111, .int .i64 t112, .int .i64 t113, .int .i64 t114, .int .i64 t115, .int .i64 t116] 25 (0, 0)) bk hb)
      replace HB := Aside0.mk (below_step bh hb)
      (try clear hb)
      (try clear hb2)
      (try clear hk)
      (try clear hi)
      refine hK.out _ _ ⟨bc BK108 0, bc BK108 1, bc BK108 2, bc BK108 3, bc BK108 4, bc BK108 5, bc BK117 0, bc BK117 1, bc BK117 2, bc BK117 3, bc BK117 4, bc BK117 5⟩ (fun hHeld => ?_)
      clear hK K
      refine nm 26 ?_
      refine pu 8 27 laws_FnDates.d9 HT_ ?_
      refine pu 9 28 laws_FnDates.d10 HT_ ?_
      refine pu 10 29 laws_FnDates.d11 HT_ ?_
      refine tk 11 30 laws_FnDates.d12 HT_ HW_ hHeld ?_
      refine tk 13 32 laws_FnDates.d39 HT_ HW_ hHeld ?_
      refine onx 12 31 laws_FnDates.d14 HT_ (fun K hK => ?_)
      refine gs Try.func11 #[.agg #[.int .i64 t102, .int .i64 t103, .int .i64 t104, .int .i64 t105, .int .i64 t106, .int .i64 t107]] ?_
      with_reducible refine (impl_Days.calls k t102 t103 t104 t105 t106 t107 t125 _ A26.out).mono ?_
      rintro e w69 ⟨rfl, hb⟩
      refine ⟨_, rfl, ?_⟩
      replace BK108 := Aside0.mk (blk_below (g := gb108) (o := .cells #[.int .i64 t102, .int .i64 t103, .int .i64 t104, .int .i64 t105, .int .i64 t106, .int .i64 t107] 25 (0, 0)) bk hb)
      replace BK117 := Aside0.mk (blk_below (g := gb117) (o := .cells #[.int .i64 t111, .int .i64 t112, .int .i64 t113, .int .i64 t114, .int .i64 t115, .int .i64 t116] 25 (0, 0)) bk hb)
      replace HB := Aside0.mk (below_step bh hb)
      (try clear hb)
      (try clear hb2)
      (try clear hk)
      (try clear hi)
      refine hK.out _ _ ⟨bc BK108 0, bc BK108 1, bc BK108 2, bc BK108 3, bc BK108 4, bc BK108 5, bc BK117 0, bc BK117 1, bc BK117 2, bc BK117 3, bc BK117 4, bc BK117 5⟩ (fun hHeld => ?_)
      clear hK K
      refine nm 31 ?_
      refine onx 14 33 laws_FnDates.d15 HT_ (fun K hK => ?_)
      refine gs Try.func12 #[.agg #[.int .i64 t102, .int .i64 t103, .int .i64 t104, .int .i64 t105, .int .i64 t106, .int .i64 t107]] ?_
      with_reducible refine (spec_Days.calls k t102 t103 t104 t105 t106 t107 t126 _ A27.out).mono ?_
      rintro e w70 ⟨rfl, hb⟩
      refine ⟨_, rfl, ?_⟩
      replace BK108 := Aside0.mk (blk_below (g := gb108) (o := .cells #[.int .i64 t102, .int .i64 t103, .int .i64 t104, .int .i64 t105, .int .i64 t106, .int .i64 t107] 25 (0, 0)) bk hb)
      replace BK117 := Aside0.mk (blk_below (g := gb117) (o := .cells #[.int .i64 t111, .int .i64 t112, .int .i64 t113, .int .i64 t114, .int .i64 t115, .int .i64 t116] 25 (0, 0)) bk hb)
      replace HB := Aside0.mk (below_step bh hb)
      (try clear hb)
      (try clear hb2)
      (try clear hk)
      (try clear hi)
      refine hK.out _ _ ⟨bc BK108 0, bc BK108 1, bc BK108 2, bc BK108 3, bc BK108 4, bc BK108 5, bc BK117 0, bc BK117 1, bc BK117 2, bc BK117 3, bc BK117 4, bc BK117 5⟩ (fun hHeld => ?_)
      clear hK K
      refine nm 33 ?_
      refine pu 15 34 laws_FnDates.d16 HT_ ?_
      refine pu 16 35 laws_FnDates.d17 HT_ ?_
      refine pu 17 36 laws_FnDates.d18 HT_ ?_
      refine un 18 37 laws_FnDates.d19 HT_ ?_
      refine un 19 38 laws_FnDates.d20 HT_ ?_
      refine un 20 39 laws_FnDates.d21 HT_ ?_
      refine un 21 40 laws_FnDates.d22 HT_ ?_
      refine un 22 41 laws_FnDates.d23 HT_ ?_
      refine pu 23 42 laws_FnDates.d24 HT_ ?_
      refine pu 24 43 laws_FnDates.d25 HT_ ?_
      refine un 25 44 laws_FnDates.d26 HT_ ?_
      refine un 26 45 laws_FnDates.d27 HT_ ?_
      refine un 27 46 laws_FnDates.d28 HT_ ?_
      refine un 28 47 laws_FnDates.d29 HT_ ?_
      refine un 29 48 laws_FnDates.d30 HT_ ?_
      refine pu 30 49 laws_FnDates.d31 HT_ ?_
      refine pu 31 50 laws_FnDates.d32 HT_ ?_
      refine un 32 51 laws_FnDates.d33 HT_ ?_
      refine un 33 52 laws_FnDates.d34 HT_ ?_
      refine un 34 53 laws_FnDates.d35 HT_ ?_
      refine un 35 54 laws_FnDates.d36 HT_ ?_
      refine un 36 55 laws_FnDates.d37 HT_ ?_
      refine pu 37 56 laws_FnDates.d38 HT_ ?_
      refine dn HT_ ?_
      try go_wp2
      go_meet
      case rel => exact ⟨_, (true), (by first | rfl | (simp; done) | (simp [*]; done)), H', ⟨by first | omega | exact Nat.le_refl _⟩, ⟨by (with_reducible repeat (first | refine blk_drewN ?_ _ | refine blk_drew ?_ | refine blk_alloc ?_ _)); exact BK108.out⟩, ⟨by (with_reducible repeat (first | refine blk_drewN ?_ _ | refine blk_drew ?_ | refine blk_alloc ?_ _)); exact BK117.out⟩, ⟨bh⟩⟩
   ·
    rw [if_neg c19] at H
    have c19b0 : (t109 == t118) = false := beq_eq_false_iff_ne.mpr c19
    have c19b1 : (t109 != t118) = true := bne_iff_ne.mpr c19
    (first | rw [c19b0] | (simp only [i64_w, i32_w]; rw [c19b0]) | skip)
    have H' := Aside0.mk H
    clear H
    try go_wp2
    have n0_ : Aside0 (((((((w15.setCell ⟨gb117, 0, none⟩ (.int .i64 t111)).setCell ⟨gb117, 1, none⟩ (.int .i64 t112)).setCell ⟨gb117, 2, none⟩ (.int .i64 t113)).setCell ⟨gb117, 3, none⟩ (.int .i64 t114)).setCell ⟨gb117, 4, none⟩ (.int .i64 t115)).setCell ⟨gb117, 5, none⟩ (.int .i64 t116)).heap[gb108]? = some (.cells #[.int .i64 t102, .int .i64 t103, .int .i64 t104, .int .i64 t105, .int .i64 t106, .int .i64 t107] 25 (0, 0))) := ⟨by (with_reducible repeat (first | refine blk_drewN ?_ _ | refine blk_drew ?_ | refine blk_alloc ?_ _)); refine blk_far ?_ NB108_117.out _; (with_reducible repeat (first | refine blk_drewN ?_ _ | refine blk_drew ?_ | refine blk_alloc ?_ _)); refine blk_far ?_ NB108_117.out _; (with_reducible repeat (first | refine blk_drewN ?_ _ | refine blk_drew ?_ | refine blk_alloc ?_ _)); refine blk_far ?_ NB108_117.out _; (with_reducible repeat (first | refine blk_drewN ?_ _ | refine blk_drew ?_ | refine blk_alloc ?_ _)); refine blk_far ?_ NB108_117.out _; (with_reducible repeat (first | refine blk_drewN ?_ _ | refine blk_drew ?_ | refine blk_alloc ?_ _)); refine blk_far ?_ NB108_117.out _; (with_reducible repeat (first | refine blk_drewN ?_ _ | refine blk_drew ?_ | refine blk_alloc ?_ _)); refine blk_far ?_ NB108_117.out _; (with_reducible repeat (first | refine blk_drewN ?_ _ | refine blk_drew ?_ | refine blk_alloc ?_ _)); exact BK108.out⟩
    have n1_ : Aside0 (((((((w15.setCell ⟨gb117, 0, none⟩ (.int .i64 t111)).setCell ⟨gb117, 1, none⟩ (.int .i64 t112)).setCell ⟨gb117, 2, none⟩ (.int .i64 t113)).setCell ⟨gb117, 3, none⟩ (.int .i64 t114)).setCell ⟨gb117, 4, none⟩ (.int .i64 t115)).setCell ⟨gb117, 5, none⟩ (.int .i64 t116)).heap[gb117]? = some (.cells #[.int .i64 t111, .int .i64 t112, .int .i64 t113, .int .i64 t114, .int .i64 t115, .int .i64 t116] 25 (0, 0))) := ⟨by (with_reducible repeat (first | refine blk_drewN ?_ _ | refine blk_drew ?_ | refine blk_alloc ?_ _)); refine blk_put (cs := #[.int .i64 t111, .int .i64 t112, .int .i64 t113, .int .i64 t114, .int .i64 t115, .int .i64 0]) ?_ 5 _ rfl; (with_reducible repeat (first | refine blk_drewN ?_ _ | refine blk_drew ?_ | refine blk_alloc ?_ _)); refine blk_put (cs := #[.int .i64 t111, .int .i64 t112, .int .i64 t113, .int .i64 t114, .int .i64 0, .int .i64 0]) ?_ 4 _ rfl; (with_reducible repeat (first | refine blk_drewN ?_ _ | refine blk_drew ?_ | refine blk_alloc ?_ _)); refine blk_put (cs := #[.int .i64 t111, .int .i64 t112, .int .i64 t113, .int .i64 0, .int .i64 0, .int .i64 0]) ?_ 3 _ rfl; (with_reducible repeat (first | refine blk_drewN ?_ _ | refine blk_drew ?_ | refine blk_alloc ?_ _)); refine blk_put (cs := #[.int .i64 t111, .int .i64 t112, .int .i64 0, .int .i64 0, .int .i64 0, .int .i64 0]) ?_ 2 _ rfl; (with_reducible repeat (first | refine blk_drewN ?_ _ | refine blk_drew ?_ | refine blk_alloc ?_ _)); refine blk_put (cs := #[.int .i64 t111, .int .i64 0, .int .i64 0, .int .i64 0, .int .i64 0, .int .i64 0]) ?_ 1 _ rfl; (with_reducible repeat (first | refine blk_drewN ?_ _ | refine blk_drew ?_ | refine blk_alloc ?_ _)); refine blk_put (cs := #[.int .i64 0, .int .i64 0, .int .i64 0, .int .i64 0, .int .i64 0, .int .i64 0]) ?_ 0 _ rfl; (with_reducible repeat (first | refine blk_drewN ?_ _ | refine blk_drew ?_ | refine blk_alloc ?_ _)); exact BK117.out⟩
    have n2_ : Aside0 (Below w.heap.size w ((((((w15.setCell ⟨gb117, 0, none⟩ (.int .i64 t111)).setCell ⟨gb117, 1, none⟩ (.int .i64 t112)).setCell ⟨gb117, 2, none⟩ (.int .i64 t113)).setCell ⟨gb117, 3, none⟩ (.int .i64 t114)).setCell ⟨gb117, 4, none⟩ (.int .i64 t115)).setCell ⟨gb117, 5, none⟩ (.int .i64 t116))) := ⟨bh⟩
    (try clear BK108)
    (try clear BK117)
    (try clear HB)
    generalize ((((((w15.setCell ⟨gb117, 0, none⟩ (.int .i64 t111)).setCell ⟨gb117, 1, none⟩ (.int .i64 t112)).setCell ⟨gb117, 2, none⟩ (.int .i64 t113)).setCell ⟨gb117, 3, none⟩ (.int .i64 t114)).setCell ⟨gb117, 4, none⟩ (.int .i64 t115)).setCell ⟨gb117, 5, none⟩ (.int .i64 t116)) = w71 at n0_ n1_ n2_ ⊢
    have BK108 := n0_
    have BK117 := n1_
    have HB := n2_
    clear n0_ n1_ n2_
    replace BK108 := Aside0.mk (blk_drew BK108.out)
    replace BK117 := Aside0.mk (blk_drew BK117.out)
    replace HB := Aside0.mk (below_drew1 HB.out)
    refine start_ (n := 38) (S := fun w' => w'.cell? ⟨gb108, 0, none⟩ = some (.int .i64 t102) ∧ w'.cell? ⟨gb108, 1, none⟩ = some (.int .i64 t103) ∧ w'.cell? ⟨gb108, 2, none⟩ = some (.int .i64 t104) ∧ w'.cell? ⟨gb108, 3, none⟩ = some (.int .i64 t105) ∧ w'.cell? ⟨gb108, 4, none⟩ = some (.int .i64 t106) ∧ w'.cell? ⟨gb108, 5, none⟩ = some (.int .i64 t107)) (ds := []) laws_FnDates.d0 (by kernel_rfl) rfl rfl ⟨bc BK108 0, bc BK108 1, bc BK108 2, bc BK108 3, bc BK108 4, bc BK108 5⟩ (fun hHeld => ?_); refine with_tabW laws_FnDates.tab7 laws_FnDates.bits7 (fun HT_ HW_ => ?_)
    generalize w71.drew = w72 at BK108 BK117 HB hHeld ⊢
    refine pu 0 19 laws_FnDates.d1 HT_ ?_
    refine tk 1 20 laws_FnDates.d2 HT_ HW_ hHeld ?_
    refine onx 2 21 laws_FnDates.d3 HT_ (fun K hK => ?_)
    refine gs Try.func9 #[.agg #[.int .i64 t102, .int .i64 t103, .int .i64 t104, .int .i64 t105, .int .i64 t106, .int .i64 t107]] ?_
    with_reducible refine (spec_Moment.calls k t102 t103 t104 t105 t106 t107 t118 _ A18.out).mono ?_
    rintro e w73 ⟨rfl, hb⟩
    refine ⟨_, rfl, ?_⟩
    replace BK108 := Aside0.mk (blk_below (g := gb108) (o := .cells #[.int .i64 t102, .int .i64 t103, .int .i64 t104, .int .i64 t105, .int .i64 t106, .int .i64 t107] 25 (0, 0)) bk hb)
    replace BK117 := Aside0.mk (blk_below (g := gb117) (o := .cells #[.int .i64 t111, .int .i64 t112, .int .i64 t113, .int .i64 t114, .int .i64 t115, .int .i64 t116] 25 (0, 0)) bk hb)
    replace HB := Aside0.mk (below_step bh hb)
    (try clear hb)
    (try clear hb2)
    (try clear hk)
    (try clear hi)
    refine hK.out _ _ ⟨bc BK108 0, bc BK108 1, bc BK108 2, bc BK108 3, bc BK108 4, bc BK108 5⟩ (fun hHeld => ?_)
    clear hK K
    refine nm 21 ?_
    refine pu 3 22 laws_FnDates.d4 HT_ ?_
    refine pu 4 23 laws_FnDates.d5 HT_ ?_
    refine un 5 24 #[true, true, true, true, true, true, false, false, false, false, false, false, false, false, false, false, false, false, false, false, false, false, false, false, false, false, false, false, false, false, false, false, false, false, false, false, false, false] HT_ ?_
    refine un 6 25 laws_FnDates.d7 HT_ ?_
    refine un 7 26 laws_FnDates.d8 HT_ ?_
    refine un 8 27 laws_FnDates.d9 HT_ ?_
    refine pu 9 28 laws_FnDates.d10 HT_ ?_
    refine pu 10 29 laws_FnDates.d11 HT_ ?_
    refine un 11 30 laws_FnDates.d12 HT_ ?_
    refine un 12 31 laws_FnDates.d13 HT_ ?_
    refine un 13 32 laws_FnDates.d14 HT_ ?_
    refine un 14 33 laws_FnDates.d15 HT_ ?_
    refine un 15 34 laws_FnDates.d16 HT_ ?_
    refine pu 16 35 laws_FnDates.d17 HT_ ?_
    refine pu 17 36 laws_FnDates.d18 HT_ ?_
    refine un 18 37 laws_FnDates.d19 HT_ ?_
    refine un 19 38 laws_FnDates.d20 HT_ ?_
    refine un 20 39 laws_FnDates.d21 HT_ ?_
    refine un 21 40 laws_FnDates.d22 HT_ ?_
    refine un 22 41 laws_FnDates.d23 HT_ ?_
    refine pu 23 42 laws_FnDates.d24 HT_ ?_
    refine pu 24 43 laws_FnDates.d25 HT_ ?_
    refine un 25 44 laws_FnDates.d26 HT_ ?_
    refine un 26 45 laws_FnDates.d27 HT_ ?_
    refine un 27 46 laws_FnDates.d28 HT_ ?_
    refine un 28 47 laws_FnDates.d29 HT_ ?_
    refine un 29 48 laws_FnDates.d30 HT_ ?_
    refine pu 30 49 laws_FnDates.d31 HT_ ?_
    refine pu 31 50 laws_FnDates.d32 HT_ ?_
    refine un 32 51 laws_FnDates.d33 HT_ ?_
    refine un 33 52 laws_FnDates.d34 HT_ ?_
    refine un 34 53 laws_FnDates.d35 HT_ ?_
    refine un 35 54 laws_FnDates.d36 HT_ ?_
    refine un 36 55 laws_FnDates.d37 HT_ ?_
    refine pu 37 56 laws_FnDates.d38 HT_ ?_
    refine dn HT_ ?_
    try go_wp2
    go_meet
    case rel => exact ⟨_, (true), (by first | rfl | (simp; done) | (simp [*]; done)), H', ⟨by first | omega | exact Nat.le_refl _⟩, ⟨by (with_reducible repeat (first | refine blk_drewN ?_ _ | refine blk_drew ?_ | refine blk_alloc ?_ _)); exact BK108.out⟩, ⟨by (with_reducible repeat (first | refine blk_drewN ?_ _ | refine blk_drew ?_ | refine blk_alloc ?_ _)); exact BK117.out⟩, ⟨bh⟩⟩
  case rest =>
   clear HC8
   try clear c1
   try clear p2
   try clear c9
   try clear c10
   try clear c11
   try clear c12
   try clear c19
   try clear c19b0
   try clear c19b1
   obtain ⟨kq, x56_7, rfl, HA, HJ7, BK108, BK117, HB⟩ := hcut
   cases kq with
   | zero => exact absurd HA.out (by simp [laws_FnDates.j0])
   | succ kj7 =>
    have H := HA.out
    clear HA
    simp only [laws_FnDates.j0] at H
    by_cases c74 : x56_7 = true
    ·
     subst c74
     have H1 : (some false) = some r := by rw [if_pos rfl] at H; exact H
     clear H
     have H := H1
     clear H1
     obtain rfl := Option.some.inj H
     go_wp2
     go_ret
     exact ⟨er, bh⟩
    ·
     replace c74 := Bool.eq_false_iff.mpr c74
     subst c74
     rw [if_neg (show ¬ (false = true) by decide)] at H
     have HC75 := Aside0.mk H
     clear H
     go_upto_region 9 with (fail)
     go_cut [68] (fun v68 wc => ∃ (kq : Nat) (x68_74 : Bool), v68 = .bool x68_74 ∧ Aside0 (laws_FnDates.j1 kq t109 x68_74 t102 t103 t104 t105 t106 t107 = some r) ∧ Aside0 (kq ≤ kj7) ∧ Aside0 (wc.heap[gb108]? = some (.cells #[.int .i64 t102, .int .i64 t103, .int .i64 t104, .int .i64 t105, .int .i64 t106, .int .i64 t107] 25 (0, 0))) ∧ Aside0 (wc.heap[gb117]? = some (.cells #[.int .i64 t111, .int .i64 t112, .int .i64 t113, .int .i64 t114, .int .i64 t115, .int .i64 t116] 25 (0, 0))) ∧ Aside0 (Below w.heap.size w wc))
     case first =>
      have H := HC75.out
      clear HC75
      by_cases c76 : t110 ≥ 0
      ·
       rw [if_pos c76] at H
       have c76b0 : decide (0 ≤ t110) = true := decide_eq_true c76
       clear c76
       (first | rw [c76b0] | (simp only [i64_w, i32_w]; rw [c76b0]) | skip)
       by_cases c77 : t110 ≤ 253402300799
       ·
        rw [if_pos c77] at H
        have c77b0 : decide (t110 ≤ 253402300799) = true := decide_eq_true c77
        clear c77
        obtain ⟨t133, A780, H⟩ := Option.bind_eq_some_iff.mp H
        try dsimp only at H
        have A78 := Aside0.mk A780
        clear A780
        have H' := Aside0.mk H
        clear H
        have hnb79 := NB117_108.out
        have hnc79 := NB108_117.out
        have hcz80_0 : wc.cell? ⟨gb117, 0, none⟩ = some (.int .i64 t111) := bc BK117 0
        have hcz80_1 : wc.cell? ⟨gb117, 1, none⟩ = some (.int .i64 t112) := bc BK117 1
        have hcz80_2 : wc.cell? ⟨gb117, 2, none⟩ = some (.int .i64 t113) := bc BK117 2
        have hcz80_3 : wc.cell? ⟨gb117, 3, none⟩ = some (.int .i64 t114) := bc BK117 3
        have hcz80_4 : wc.cell? ⟨gb117, 4, none⟩ = some (.int .i64 t115) := bc BK117 4
        have hcz80_5 : wc.cell? ⟨gb117, 5, none⟩ = some (.int .i64 t116) := bc BK117 5
        have hfz80_0 := blk_frozen BK117.out 0
        have hfz80_1 := blk_frozen BK117.out 1
        have hfz80_2 := blk_frozen BK117.out 2
        have hfz80_3 := blk_frozen BK117.out 3
        have hfz80_4 := blk_frozen BK117.out 4
        have hfz80_5 := blk_frozen BK117.out 5
        go_wp2_with (first | (go_at_call 6; (with_reducible refine (impl_Moment.calls kj7 t111 t112 t113 t114 t115 t116 t133 _ A78.out).mono ?_); rintro e w81 ⟨rfl, hb⟩; replace BK108 := Aside0.mk (blk_below (g := gb108) (o := .cells #[.int .i64 t102, .int .i64 t103, .int .i64 t104, .int .i64 t105, .int .i64 t106, .int .i64 t107] 25 (0, 0)) bk hb); replace BK117 := Aside0.mk (blk_below (g := gb117) (o := .cells #[.int .i64 t111, .int .i64 t112, .int .i64 t113, .int .i64 t114, .int .i64 t115, .int .i64 t116] 25 (0, 0)) bk hb); replace HB := Aside0.mk (below_step bh hb); (try clear hb); (try clear hb2); (try clear hk); (try clear hi)))
        go_meet
        case rel => exact ⟨_, ((t133 != t110)), (by first | rfl | (simp; done) | (simp [*]; done)), H', ⟨by have := HJ7.out; first | omega | exact Nat.le_refl _⟩, ⟨by (with_reducible repeat (first | refine blk_drewN ?_ _ | refine blk_drew ?_ | refine blk_alloc ?_ _)); exact BK108.out⟩, ⟨by (with_reducible repeat (first | refine blk_drewN ?_ _ | refine blk_drew ?_ | refine blk_alloc ?_ _)); exact BK117.out⟩, ⟨bh⟩⟩
       ·
        rw [if_neg c77] at H
        have c77b0 : decide (t110 ≤ 253402300799) = false := decide_eq_false c77
        clear c77
        have H' := Aside0.mk H
        clear H
        go_wp2
        go_meet
        case rel => exact ⟨_, (false), (by first | rfl | (simp; done) | (simp [*]; done)), H', ⟨by have := HJ7.out; first | omega | exact Nat.le_refl _⟩, ⟨by (with_reducible repeat (first | refine blk_drewN ?_ _ | refine blk_drew ?_ | refine blk_alloc ?_ _)); exact BK108.out⟩, ⟨by (with_reducible repeat (first | refine blk_drewN ?_ _ | refine blk_drew ?_ | refine blk_alloc ?_ _)); exact BK117.out⟩, ⟨bh⟩⟩
      ·
       rw [if_neg c76] at H
       have c76b0 : decide (0 ≤ t110) = false := decide_eq_false c76
       clear c76
       (first | rw [c76b0] | (simp only [i64_w, i32_w]; rw [c76b0]) | skip)
       have H' := Aside0.mk H
       clear H
       go_wp2
       go_meet
       case rel => exact ⟨_, (false), (by first | rfl | (simp; done) | (simp [*]; done)), H', ⟨by have := HJ7.out; first | omega | exact Nat.le_refl _⟩, ⟨by (with_reducible repeat (first | refine blk_drewN ?_ _ | refine blk_drew ?_ | refine blk_alloc ?_ _)); exact BK108.out⟩, ⟨by (with_reducible repeat (first | refine blk_drewN ?_ _ | refine blk_drew ?_ | refine blk_alloc ?_ _)); exact BK117.out⟩, ⟨bh⟩⟩
     case rest =>
      clear HC75
      try clear c1
      try clear p2
      try clear c7
      try clear c9
      try clear c10
      try clear c11
      try clear c12
      try clear c19
      try clear c19b0
      try clear c19b1
      try clear c74
      try clear c76
      try clear c76b0
      try clear c77
      try clear c77b0
      try clear c79
      try clear hcz80_0
      try clear hcz80_1
      try clear hcz80_2
      try clear hcz80_3
      try clear hcz80_4
      try clear hcz80_5
      try clear hfz80_0
      try clear hfz80_1
      try clear hfz80_2
      try clear hfz80_3
      try clear hfz80_4
      try clear hfz80_5
      try clear p2
      obtain ⟨kq, x68_74, rfl, HA, HJ74, BK108, BK117, HB⟩ := hcut
      cases kq with
      | zero => exact absurd HA.out (by simp [laws_FnDates.j1])
      | succ kj74 =>
       have H := HA.out
       clear HA
       simp only [laws_FnDates.j1] at H
       by_cases c82 : x68_74 = true
       ·
        subst c82
        have H1 : (some false) = some r := by rw [if_pos rfl] at H; exact H
        clear H
        have H := H1
        clear H1
        obtain rfl := Option.some.inj H
        go_wp2
        go_ret
        exact ⟨er, bh⟩
       ·
        replace c82 := Bool.eq_false_iff.mpr c82
        subst c82
        rw [if_neg (show ¬ (false = true) by decide)] at H
        by_cases c83 : t109 < 0
        ·
         rw [if_pos c83] at H
         have c83b0 : decide (t109 < 0) = true := decide_eq_true c83
         clear c83
         replace H := Option.bind_eq_some_iff.mp H
         obtain ⟨t134, A840, H⟩ := H
         replace H : (some (!t134)) = some r := H
         have A84 := Aside0.mk A840
         clear A840
         obtain rfl := Option.some.inj H
         have hnb85 := NB108_117.out
         have hnc85 := NB117_108.out
         have hcz86_0 : wc.cell? ⟨gb108, 0, none⟩ = some (.int .i64 t102) := bc BK108 0
         have hcz86_1 : wc.cell? ⟨gb108, 1, none⟩ = some (.int .i64 t103) := bc BK108 1
         have hcz86_2 : wc.cell? ⟨gb108, 2, none⟩ = some (.int .i64 t104) := bc BK108 2
         have hcz86_3 : wc.cell? ⟨gb108, 3, none⟩ = some (.int .i64 t105) := bc BK108 3
         have hcz86_4 : wc.cell? ⟨gb108, 4, none⟩ = some (.int .i64 t106) := bc BK108 4
         have hcz86_5 : wc.cell? ⟨gb108, 5, none⟩ = some (.int .i64 t107) := bc BK108 5
         have hfz86_0 := blk_frozen BK108.out 0
         have hfz86_1 := blk_frozen BK108.out 1
         have hfz86_2 := blk_frozen BK108.out 2
         have hfz86_3 := blk_frozen BK108.out 3
         have hfz86_4 := blk_frozen BK108.out 4
         have hfz86_5 := blk_frozen BK108.out 5
         go_wp2_with (first | ((with_reducible refine gate_callee (f := 15) rfl ?_); refine goesL_ (some 72) rfl rfl Try.func15 (by kernel_rfl) rfl #[.agg #[.int .i64 t102, .int .i64 t103, .int .i64 t104, .int .i64 t105, .int .i64 t106, .int .i64 t107]] rfl mc ?_; (with_reducible refine (impl_DateOk.calls kj74 t102 t103 t104 t105 t106 t107 t134 _ A84.out).mono ?_); rintro e w87 ⟨rfl, hb⟩; refine ⟨_, rfl, ?_⟩; replace BK108 := Aside0.mk (blk_below (g := gb108) (o := .cells #[.int .i64 t102, .int .i64 t103, .int .i64 t104, .int .i64 t105, .int .i64 t106, .int .i64 t107] 25 (0, 0)) bk hb); replace BK117 := Aside0.mk (blk_below (g := gb117) (o := .cells #[.int .i64 t111, .int .i64 t112, .int .i64 t113, .int .i64 t114, .int .i64 t115, .int .i64 t116] 25 (0, 0)) bk hb); replace HB := Aside0.mk (below_step bh hb); (try clear hb); (try clear hb2); (try clear hk); (try clear hi)))
         go_ret
         exact ⟨er, bh⟩
        ·
         rw [if_neg c83] at H
         have c83b0 : decide (t109 < 0) = false := decide_eq_false c83
         clear c83
         have HC88 := Aside0.mk H
         clear H
         go_upto_region 13 with (fail)
         go_cut [84] (fun v84 wc => ∃ (kq : Nat) (x84_87 : Bool), v84 = .bool x84_87 ∧ Aside0 (laws_FnDates.j2 kq t109 x84_87 t102 t103 t104 t105 t106 t107 = some r) ∧ Aside0 (kq ≤ kj74) ∧ Aside0 (wc.heap[gb108]? = some (.cells #[.int .i64 t102, .int .i64 t103, .int .i64 t104, .int .i64 t105, .int .i64 t106, .int .i64 t107] 25 (0, 0))) ∧ Aside0 (wc.heap[gb117]? = some (.cells #[.int .i64 t111, .int .i64 t112, .int .i64 t113, .int .i64 t114, .int .i64 t115, .int .i64 t116] 25 (0, 0))) ∧ Aside0 (Below w.heap.size w wc))
         case first =>
          have H := HC88.out
          clear HC88
          obtain ⟨⟨t135, t136, t137, t138, t139, t140⟩, A890, H⟩ := Option.bind_eq_some_iff.mp H
          try dsimp only at H
          have A89 := Aside0.mk A890
          clear A890
          by_cases c90 : (!(t135 == t102) || (!(t136 == t103) || (!(t137 == t104) || (!(t138 == t105) || (!(t139 == t106) || (!(t140 == t107))))))) = true
          ·
           rw [if_pos c90] at H
           have c90b0 : (!(t135 == t102) || (!(t136 == t103) || (!(t137 == t104) || (!(t138 == t105) || (!(t139 == t106) || (!(t140 == t107))))))) = true := c90
           clear c90
           (first | rw [c90b0] | (simp only [i64_w, i32_w]; rw [c90b0]) | skip)
           have H' := Aside0.mk H
           clear H
           try go_wp2
           replace BK108 := Aside0.mk (blk_drew BK108.out)
           replace BK117 := Aside0.mk (blk_drew BK117.out)
           replace HB := Aside0.mk (below_drew1 HB.out)
           refine start_ (n := 11) (S := fun w' => w'.cell? ⟨gb108, 0, none⟩ = some (.int .i64 t102) ∧ w'.cell? ⟨gb108, 1, none⟩ = some (.int .i64 t103) ∧ w'.cell? ⟨gb108, 2, none⟩ = some (.int .i64 t104) ∧ w'.cell? ⟨gb108, 3, none⟩ = some (.int .i64 t105) ∧ w'.cell? ⟨gb108, 4, none⟩ = some (.int .i64 t106) ∧ w'.cell? ⟨gb108, 5, none⟩ = some (.int .i64 t107)) (ds := []) laws_FnDates.d42 (by kernel_rfl) rfl rfl ⟨bc BK108 0, bc BK108 1, bc BK108 2, bc BK108 3, bc BK108 4, bc BK108 5⟩ (fun hHeld => ?_); refine with_tabW laws_FnDates.tab13 laws_FnDates.bits13 (fun HT_ HW_ => ?_)
           generalize wc.drew = w91 at BK108 BK117 HB hHeld ⊢
           refine pu 0 74 laws_FnDates.d43 HT_ ?_
           refine tk 2 76 laws_FnDates.d44 HT_ HW_ hHeld ?_
           refine onx 1 75 laws_FnDates.d45 HT_ (fun K hK => ?_)
           refine gs Try.func8 #[.int .i64 t109] ?_
           with_reducible refine (impl_DateAt.calls kj74 t109 t135 t136 t137 t138 t139 t140 _ A89.out).mono ?_
           rintro e w92 ⟨rfl, hb⟩
           refine ⟨_, rfl, ?_⟩
           replace BK108 := Aside0.mk (blk_below (g := gb108) (o := .cells #[.int .i64 t102, .int .i64 t103, .int .i64 t104, .int .i64 t105, .int .i64 t106, .int .i64 t107] 25 (0, 0)) bk hb)
           replace BK117 := Aside0.mk (blk_below (g := gb117) (o := .cells #[.int .i64 t111, .int .i64 t112, .int .i64 t113, .int .i64 t114, .int .i64 t115, .int .i64 t116] 25 (0, 0)) bk hb)
           replace HB := Aside0.mk (below_step bh hb)
           (try clear hb)
           (try clear hb2)
           (try clear hk)
           (try clear hi)
           refine hK.out _ _ ⟨bc BK108 0, bc BK108 1, bc BK108 2, bc BK108 3, bc BK108 4, bc BK108 5⟩ (fun hHeld => ?_)
           clear hK K
           refine nm 75 ?_
           refine pu 3 77 laws_FnDates.d46 HT_ ?_
           refine pu 4 78 laws_FnDates.d47 HT_ ?_
           refine un 5 79 #[true, true, true, true, true, true, false, false, false, false, false] HT_ ?_
           refine un 6 80 #[true, true, true, true, true, true, true, false, false, false, false] HT_ ?_
           refine un 7 81 #[true, true, true, true, true, true, true, true, false, false, false] HT_ ?_
           refine un 8 82 laws_FnDates.d48 HT_ ?_
           refine un 9 83 laws_FnDates.d49 HT_ ?_
           refine pu 10 84 laws_FnDates.d50 HT_ ?_
           refine dn HT_ ?_
           try go_wp2
           go_meet
           case rel => exact ⟨_, (true), (by first | rfl | (simp; done) | (simp [*]; done)), H', ⟨by have := HJ7.out; have := HJ74.out; first | omega | exact Nat.le_refl _⟩, ⟨by (with_reducible repeat (first | refine blk_drewN ?_ _ | refine blk_drew ?_ | refine blk_alloc ?_ _)); exact BK108.out⟩, ⟨by (with_reducible repeat (first | refine blk_drewN ?_ _ | refine blk_drew ?_ | refine blk_alloc ?_ _)); exact BK117.out⟩, ⟨bh⟩⟩
          ·
           rw [if_neg c90] at H
           have c90b0 : (!(t135 == t102) || (!(t136 == t103) || (!(t137 == t104) || (!(t138 == t105) || (!(t139 == t106) || (!(t140 == t107))))))) = false := by simpa using c90
           clear c90
           (first | rw [c90b0] | (simp only [i64_w, i32_w]; rw [c90b0]) | skip)
           obtain ⟨t141, A930, H⟩ := Option.bind_eq_some_iff.mp H
           try dsimp only at H
           have A93 := Aside0.mk A930
           clear A930
           have H' := Aside0.mk H
           clear H
           try go_wp2
           replace BK108 := Aside0.mk (blk_drew BK108.out)
           replace BK117 := Aside0.mk (blk_drew BK117.out)
           replace HB := Aside0.mk (below_drew1 HB.out)
           refine start_ (n := 11) (S := fun w' => w'.cell? ⟨gb108, 0, none⟩ = some (.int .i64 t102) ∧ w'.cell? ⟨gb108, 1, none⟩ = some (.int .i64 t103) ∧ w'.cell? ⟨gb108, 2, none⟩ = some (.int .i64 t104) ∧ w'.cell? ⟨gb108, 3, none⟩ = some (.int .i64 t105) ∧ w'.cell? ⟨gb108, 4, none⟩ = some (.int .i64 t106) ∧ w'.cell? ⟨gb108, 5, none⟩ = some (.int .i64 t107)) (ds := []) laws_FnDates.d42 (by kernel_rfl) rfl rfl ⟨bc BK108 0, bc BK108 1, bc BK108 2, bc BK108 3, bc BK108 4, bc BK108 5⟩ (fun hHeld => ?_); refine with_tabW laws_FnDates.tab13 laws_FnDates.bits13 (fun HT_ HW_ => ?_)
           generalize wc.drew = w94 at BK108 BK117 HB hHeld ⊢
           refine pu 0 74 laws_FnDates.d43 HT_ ?_
           refine tk 2 76 laws_FnDates.d44 HT_ HW_ hHeld ?_
           refine onx 1 75 laws_FnDates.d45 HT_ (fun K hK => ?_)
           refine gs Try.func8 #[.int .i64 t109] ?_
           with_reducible refine (impl_DateAt.calls kj74 t109 t135 t136 t137 t138 t139 t140 _ A89.out).mono ?_
           rintro e w95 ⟨rfl, hb⟩
           refine ⟨_, rfl, ?_⟩
           replace BK108 := Aside0.mk (blk_below (g := gb108) (o := .cells #[.int .i64 t102, .int .i64 t103, .int .i64 t104, .int .i64 t105, .int .i64 t106, .int .i64 t107] 25 (0, 0)) bk hb)
           replace BK117 := Aside0.mk (blk_below (g := gb117) (o := .cells #[.int .i64 t111, .int .i64 t112, .int .i64 t113, .int .i64 t114, .int .i64 t115, .int .i64 t116] 25 (0, 0)) bk hb)
           replace HB := Aside0.mk (below_step bh hb)
           (try clear hb)
           (try clear hb2)
           (try clear hk)
           (try clear hi)
           refine hK.out _ _ ⟨bc BK108 0, bc BK108 1, bc BK108 2, bc BK108 3, bc BK108 4, bc BK108 5⟩ (fun hHeld => ?_)
           clear hK K
           refine nm 75 ?_
           refine pu 3 77 laws_FnDates.d46 HT_ ?_
           refine pu 4 78 laws_FnDates.d47 HT_ ?_
           refine pu 7 81 #[true, true, true, true, true, false, false, true, false, false, false] HT_ ?_
           refine pu 8 82 #[true, true, true, true, true, false, false, true, true, false, false] HT_ ?_
           refine tk 5 79 #[true, true, true, true, true, true, false, true, true, false, false] HT_ HW_ hHeld ?_
           refine onx 6 80 laws_FnDates.d48 HT_ (fun K hK => ?_)
           refine gs Try.func11 #[.agg #[.int .i64 t102, .int .i64 t103, .int .i64 t104, .int .i64 t105, .int .i64 t106, .int .i64 t107]] ?_
           with_reducible refine (impl_Days.calls kj74 t102 t103 t104 t105 t106 t107 t141 _ A93.out).mono ?_
           rintro e w96 ⟨rfl, hb⟩
           refine ⟨_, rfl, ?_⟩
           replace BK108 := Aside0.mk (blk_below (g := gb108) (o := .cells #[.int .i64 t102, .int .i64 t103, .int .i64 t104, .int .i64 t105, .int .i64 t106, .int .i64 t107] 25 (0, 0)) bk hb)
           replace BK117 := Aside0.mk (blk_below (g := gb117) (o := .cells #[.int .i64 t111, .int .i64 t112, .int .i64 t113, .int .i64 t114, .int .i64 t115, .int .i64 t116] 25 (0, 0)) bk hb)
           replace HB := Aside0.mk (below_step bh hb)
           (try clear hb)
           (try clear hb2)
           (try clear hk)
           (try clear hi)
           refine hK.out _ _ ⟨bc BK108 0, bc BK108 1, bc BK108 2, bc BK108 3, bc BK108 4, bc BK108 5⟩ (fun hHeld => ?_)
           clear hK K
           refine nm 80 ?_
           refine pu 9 83 laws_FnDates.d49 HT_ ?_
           refine pu 10 84 laws_FnDates.d50 HT_ ?_
           refine dn HT_ ?_
           try go_wp2
           go_meet
           case rel => exact ⟨_, ((t141 != (wrap64 (Int.tdiv t109 86400)))), (by first | rfl | (simp; done) | (simp [*]; done)), H', ⟨by have := HJ7.out; have := HJ74.out; first | omega | exact Nat.le_refl _⟩, ⟨by (with_reducible repeat (first | refine blk_drewN ?_ _ | refine blk_drew ?_ | refine blk_alloc ?_ _)); exact BK108.out⟩, ⟨by (with_reducible repeat (first | refine blk_drewN ?_ _ | refine blk_drew ?_ | refine blk_alloc ?_ _)); exact BK117.out⟩, ⟨bh⟩⟩
         case rest =>
          clear HC88
          try clear c1
          try clear p2
          try clear p6
          try clear c7
          try clear c8
          try clear c9
          try clear c10
          try clear c11
          try clear c12
          try clear c15
          try clear c19
          try clear c19b0
          try clear c19b1
          try clear p64
          try clear c74
          try clear c76
          try clear c76b0
          try clear c77
          try clear c77b0
          try clear c79
          try clear c82
          try clear c83
          try clear c83b0
          try clear c85
          try clear c90
          try clear c90b0
          try clear hcz80_0
          try clear hcz80_1
          try clear hcz80_2
          try clear hcz80_3
          try clear hcz80_4
          try clear hcz80_5
          try clear hcz86_0
          try clear hcz86_1
          try clear hcz86_2
          try clear hcz86_3
          try clear hcz86_4
          try clear hcz86_5
          try clear hfz80_0
          try clear hfz80_1
          try clear hfz80_2
          try clear hfz80_3
          try clear hfz80_4
          try clear hfz80_5
          try clear hfz86_0
          try clear hfz86_1
          try clear hfz86_2
          try clear hfz86_3
          try clear hfz86_4
          try clear hfz86_5
          try clear p2
          obtain ⟨kq, x84_87, rfl, HA, HJ87, BK108, BK117, HB⟩ := hcut
          cases kq with
          | zero => exact absurd HA.out (by simp [laws_FnDates.j2])
          | succ kj87 =>
           have H := HA.out
           clear HA
           simp only [laws_FnDates.j2] at H
           by_cases c97 : x84_87 = true
           ·
            subst c97
            have H1 : (some false) = some r := by rw [if_pos rfl] at H; exact H
            clear H
            have H := H1
            clear H1
            obtain rfl := Option.some.inj H
            go_wp2
            go_ret
            exact ⟨er, bh⟩
           ·
            replace c97 := Bool.eq_false_iff.mpr c97
            subst c97
            rw [if_neg (show ¬ (false = true) by decide)] at H
            by_cases c98 : (wrap64 (t109 + 86400)) > 253402300799
            ·
             rw [if_pos c98] at H
             have c98b0 : decide (253402300799 < (wrap64 (t109 + 86400))) = true := decide_eq_true c98
             clear c98
             obtain rfl := Option.some.inj H
             go_wp2
             go_ret
             exact ⟨er, bh⟩
            ·
             rw [if_neg c98] at H
             have c98b0 : decide (253402300799 < (wrap64 (t109 + 86400))) = false := decide_eq_false c98
             clear c98
             obtain ⟨⟨t142, t143, t144, t145, t146, t147⟩, A990, H⟩ := Option.bind_eq_some_iff.mp H
             try dsimp only at H
             have A99 := Aside0.mk A990
             clear A990
             by_cases c100 : t142 > t102
             ·
              rw [if_pos c100] at H
              have c100b0 : decide (t102 < t142) = true := decide_eq_true c100
              clear c100
              obtain ⟨t149, A1010, H⟩ := Option.bind_eq_some_iff.mp H
              try dsimp only at H
              have A101 := Aside0.mk A1010
              clear A1010
              obtain ⟨t150, A1020, H⟩ := Option.bind_eq_some_iff.mp H
              try dsimp only at H
              have A102 := Aside0.mk A1020
              clear A1020
              by_cases c103 : t149 = (Int.tmod (wrap64 (t150 + 1)) 7)
              ·
               rw [if_pos c103] at H
               have c103b0 : (t149 == (Int.tmod (wrap64 (t150 + 1)) 7)) = true := beq_iff_eq.mpr c103
               have c103b1 : (t149 != (Int.tmod (wrap64 (t150 + 1)) 7)) = false := bne_eq_false_iff_eq.mpr c103
               clear c103
               obtain rfl := Option.some.inj H
               try go_wp2_with (first | ((with_reducible refine gate_callee (f := 8) rfl ?_); refine goesL_ (some 90) rfl rfl Try.func8 (by kernel_rfl) rfl #[.int .i64 (wrap64 (t109 + 86400))] rfl mc ?_; (with_reducible refine (impl_DateAt.calls kj87 (wrap64 (t109 + 86400)) t142 t143 t144 t145 t146 t147 _ A99.out).mono ?_); rintro e w104 ⟨rfl, hb⟩; refine ⟨_, rfl, ?_⟩; replace BK108 := Aside0.mk (blk_below (g := gb108) (o := .cells #[.int .i64 t102, .int .i64 t103, .int .i64 t104, .int .i64 t105, .int .i64 t106, .int .i64 t107] 25 (0, 0)) bk hb); replace BK117 := Aside0.mk (blk_below (g := gb117) (o := .cells #[.int .i64 t111, .int .i64 t112, .int .i64 t113, .int .i64 t114, .int .i64 t115, .int .i64 t116] 25 (0, 0)) bk hb); replace HB := Aside0.mk (below_step bh hb); (try clear hb); (try clear hb2); (try clear hk); (try clear hi)) | ((with_reducible refine gate_dst (N := 7) rfl ?_); refine bx 7 #[.int .i64 0, .int .i64 0, .int .i64 0, .int .i64 0, .int .i64 0, .int .i64 0] 25 ?_; intro gb148 hg w105 hbox hb; have BK148 := Aside0.mk (hbox); have GW148 := Aside0.mk (bz hg); have GE148 := Aside0.mk (bz hg); have NB108_148 := Aside0.mk ((nl (o := .cells #[.int .i64 t102, .int .i64 t103, .int .i64 t104, .int .i64 t105, .int .i64 t106, .int .i64 t107] 25 (0, 0)) hg bk : gb108 ≠ gb148)); have NB148_108 := Aside0.mk ((ng (o := .cells #[.int .i64 t102, .int .i64 t103, .int .i64 t104, .int .i64 t105, .int .i64 t106, .int .i64 t107] 25 (0, 0)) hg bk : gb148 ≠ gb108)); have NB117_148 := Aside0.mk ((nl (o := .cells #[.int .i64 t111, .int .i64 t112, .int .i64 t113, .int .i64 t114, .int .i64 t115, .int .i64 t116] 25 (0, 0)) hg bk : gb117 ≠ gb148)); have NB148_117 := Aside0.mk ((ng (o := .cells #[.int .i64 t111, .int .i64 t112, .int .i64 t113, .int .i64 t114, .int .i64 t115, .int .i64 t116] 25 (0, 0)) hg bk : gb148 ≠ gb117)); replace BK108 := Aside0.mk (blk_below (g := gb108) (o := .cells #[.int .i64 t102, .int .i64 t103, .int .i64 t104, .int .i64 t105, .int .i64 t106, .int .i64 t107] 25 (0, 0)) bk hb); replace BK117 := Aside0.mk (blk_below (g := gb117) (o := .cells #[.int .i64 t111, .int .i64 t112, .int .i64 t113, .int .i64 t114, .int .i64 t115, .int .i64 t116] 25 (0, 0)) bk hb); replace HB := Aside0.mk (below_step bh hb); clear hb hbox hg; have hnb106 := NB148_108.out; have hnc106 := NB108_148.out; have hnb107 := NB148_117.out; have hnc107 := NB117_148.out; have hcz108_0 : w105.cell? ⟨gb148, 0, none⟩ = some (.int .i64 0) := bc BK148 0; have hcz108_1 : w105.cell? ⟨gb148, 1, none⟩ = some (.int .i64 0) := bc BK148 1; have hcz108_2 : w105.cell? ⟨gb148, 2, none⟩ = some (.int .i64 0) := bc BK148 2; have hcz108_3 : w105.cell? ⟨gb148, 3, none⟩ = some (.int .i64 0) := bc BK148 3; have hcz108_4 : w105.cell? ⟨gb148, 4, none⟩ = some (.int .i64 0) := bc BK148 4; have hcz108_5 : w105.cell? ⟨gb148, 5, none⟩ = some (.int .i64 0) := bc BK148 5; have hfz108_0 := blk_frozen BK148.out 0; have hfz108_1 := blk_frozen BK148.out 1; have hfz108_2 := blk_frozen BK148.out 2; have hfz108_3 := blk_frozen BK148.out 3; have hfz108_4 := blk_frozen BK148.out 4; have hfz108_5 := blk_frozen BK148.out 5; have hnb109 := NB108_117.out; have hnc109 := NB117_108.out; have hcz110_0 : w105.cell? ⟨gb108, 0, none⟩ = some (.int .i64 t102) := bc BK108 0; have hcz110_1 : w105.cell? ⟨gb108, 1, none⟩ = some (.int .i64 t103) := bc BK108 1; have hcz110_2 : w105.cell? ⟨gb108, 2, none⟩ = some (.int .i64 t104) := bc BK108 2; have hcz110_3 : w105.cell? ⟨gb108, 3, none⟩ = some (.int .i64 t105) := bc BK108 3; have hcz110_4 : w105.cell? ⟨gb108, 4, none⟩ = some (.int .i64 t106) := bc BK108 4; have hcz110_5 : w105.cell? ⟨gb108, 5, none⟩ = some (.int .i64 t107) := bc BK108 5; have hfz110_0 := blk_frozen BK108.out 0; have hfz110_1 := blk_frozen BK108.out 1; have hfz110_2 := blk_frozen BK108.out 2; have hfz110_3 := blk_frozen BK108.out 3; have hfz110_4 := blk_frozen BK108.out 4; have hfz110_5 := blk_frozen BK108.out 5))
               have n0_ : Aside0 (((((((w105.setCell ⟨gb148, 0, none⟩ (.int .i64 t142)).setCell ⟨gb148, 1, none⟩ (.int .i64 t143)).setCell ⟨gb148, 2, none⟩ (.int .i64 t144)).setCell ⟨gb148, 3, none⟩ (.int .i64 t145)).setCell ⟨gb148, 4, none⟩ (.int .i64 t146)).setCell ⟨gb148, 5, none⟩ (.int .i64 t147)).heap[gb108]? = some (.cells #[.int .i64 t102, .int .i64 t103, .int .i64 t104, .int .i64 t105, .int .i64 t106, .int .i64 t107] 25 (0, 0))) := ⟨by (with_reducible repeat (first | refine blk_drewN ?_ _ | refine blk_drew ?_ | refine blk_alloc ?_ _)); refine blk_far ?_ NB108_148.out _; (with_reducible repeat (first | refine blk_drewN ?_ _ | refine blk_drew ?_ | refine blk_alloc ?_ _)); refine blk_far ?_ NB108_148.out _; (with_reducible repeat (first | refine blk_drewN ?_ _ | refine blk_drew ?_ | refine blk_alloc ?_ _)); refine blk_far ?_ NB108_148.out _; (with_reducible repeat (first | refine blk_drewN ?_ _ | refine blk_drew ?_ | refine blk_alloc ?_ _)); refine blk_far ?_ NB108_148.out _; (with_reducible repeat (first | refine blk_drewN ?_ _ | refine blk_drew ?_ | refine blk_alloc ?_ _)); refine blk_far ?_ NB108_148.out _; (with_reducible repeat (first | refine blk_drewN ?_ _ | refine blk_drew ?_ | refine blk_alloc ?_ _)); refine blk_far ?_ NB108_148.out _; (with_reducible repeat (first | refine blk_drewN ?_ _ | refine blk_drew ?_ | refine blk_alloc ?_ _)); exact BK108.out⟩
               have n1_ : Aside0 (((((((w105.setCell ⟨gb148, 0, none⟩ (.int .i64 t142)).setCell ⟨gb148, 1, none⟩ (.int .i64 t143)).setCell ⟨gb148, 2, none⟩ (.int .i64 t144)).setCell ⟨gb148, 3, none⟩ (.int .i64 t145)).setCell ⟨gb148, 4, none⟩ (.int .i64 t146)).setCell ⟨gb148, 5, none⟩ (.int .i64 t147)).heap[gb117]? = some (.cells #[.int .i64 t111, .int .i64 t112, .int .i64 t113, .int .i64 t114, .int .i64 t115, .int .i64 t116] 25 (0, 0))) := ⟨by (with_reducible repeat (first | refine blk_drewN ?_ _ | refine blk_drew ?_ | refine blk_alloc ?_ _)); refine blk_far ?_ NB117_148.out _; (with_reducible repeat (first | refine blk_drewN ?_ _ | refine blk_drew ?_ | refine blk_alloc ?_ _)); refine blk_far ?_ NB117_148.out _; (with_reducible repeat (first | refine blk_drewN ?_ _ | refine blk_drew ?_ | refine blk_alloc ?_ _)); refine blk_far ?_ NB117_148.out _; (with_reducible repeat (first | refine blk_drewN ?_ _ | refine blk_drew ?_ | refine blk_alloc ?_ _)); refine blk_far ?_ NB117_148.out _; (with_reducible repeat (first | refine blk_drewN ?_ _ | refine blk_drew ?_ | refine blk_alloc ?_ _)); refine blk_far ?_ NB117_148.out _; (with_reducible repeat (first | refine blk_drewN ?_ _ | refine blk_drew ?_ | refine blk_alloc ?_ _)); refine blk_far ?_ NB117_148.out _; (with_reducible repeat (first | refine blk_drewN ?_ _ | refine blk_drew ?_ | refine blk_alloc ?_ _)); exact BK117.out⟩
               have n2_ : Aside0 (((((((w105.setCell ⟨gb148, 0, none⟩ (.int .i64 t142)).setCell ⟨gb148, 1, none⟩ (.int .i64 t143)).setCell ⟨gb148, 2, none⟩ (.int .i64 t144)).setCell ⟨gb148, 3, none⟩ (.int .i64 t145)).setCell ⟨gb148, 4, none⟩ (.int .i64 t146)).setCell ⟨gb148, 5, none⟩ (.int .i64 t147)).heap[gb148]? = some (.cells #[.int .i64 t142, .int .i64 t143, .int .i64 t144, .int .i64 t145, .int .i64 t146, .int .i64 t147] 25 (0, 0))) := ⟨by (with_reducible repeat (first | refine blk_drewN ?_ _ | refine blk_drew ?_ | refine blk_alloc ?_ _)); refine blk_put (cs := #[.int .i64 t142, .int .i64 t143, .int .i64 t144, .int .i64 t145, .int .i64 t146, .int .i64 0]) ?_ 5 _ rfl; (with_reducible repeat (first | refine blk_drewN ?_ _ | refine blk_drew ?_ | refine blk_alloc ?_ _)); refine blk_put (cs := #[.int .i64 t142, .int .i64 t143, .int .i64 t144, .int .i64 t145, .int .i64 0, .int .i64 0]) ?_ 4 _ rfl; (with_reducible repeat (first | refine blk_drewN ?_ _ | refine blk_drew ?_ | refine blk_alloc ?_ _)); refine blk_put (cs := #[.int .i64 t142, .int .i64 t143, .int .i64 t144, .int .i64 0, .int .i64 0, .int .i64 0]) ?_ 3 _ rfl; (with_reducible repeat (first | refine blk_drewN ?_ _ | refine blk_drew ?_ | refine blk_alloc ?_ _)); refine blk_put (cs := #[.int .i64 t142, .int .i64 t143, .int .i64 0, .int .i64 0, .int .i64 0, .int .i64 0]) ?_ 2 _ rfl; (with_reducible repeat (first | refine blk_drewN ?_ _ | refine blk_drew ?_ | refine blk_alloc ?_ _)); refine blk_put (cs := #[.int .i64 t142, .int .i64 0, .int .i64 0, .int .i64 0, .int .i64 0, .int .i64 0]) ?_ 1 _ rfl; (with_reducible repeat (first | refine blk_drewN ?_ _ | refine blk_drew ?_ | refine blk_alloc ?_ _)); refine blk_put (cs := #[.int .i64 0, .int .i64 0, .int .i64 0, .int .i64 0, .int .i64 0, .int .i64 0]) ?_ 0 _ rfl; (with_reducible repeat (first | refine blk_drewN ?_ _ | refine blk_drew ?_ | refine blk_alloc ?_ _)); exact BK148.out⟩
               have n3_ : Aside0 (Below w.heap.size w ((((((w105.setCell ⟨gb148, 0, none⟩ (.int .i64 t142)).setCell ⟨gb148, 1, none⟩ (.int .i64 t143)).setCell ⟨gb148, 2, none⟩ (.int .i64 t144)).setCell ⟨gb148, 3, none⟩ (.int .i64 t145)).setCell ⟨gb148, 4, none⟩ (.int .i64 t146)).setCell ⟨gb148, 5, none⟩ (.int .i64 t147))) := ⟨bh⟩
               (try clear BK108)
               (try clear BK117)
               (try clear BK148)
               (try clear HB)
               generalize ((((((w105.setCell ⟨gb148, 0, none⟩ (.int .i64 t142)).setCell ⟨gb148, 1, none⟩ (.int .i64 t143)).setCell ⟨gb148, 2, none⟩ (.int .i64 t144)).setCell ⟨gb148, 3, none⟩ (.int .i64 t145)).setCell ⟨gb148, 4, none⟩ (.int .i64 t146)).setCell ⟨gb148, 5, none⟩ (.int .i64 t147)) = w111 at n0_ n1_ n2_ n3_ ⊢
               have BK108 := n0_
               have BK117 := n1_
               have BK148 := n2_
               have HB := n3_
               clear n0_ n1_ n2_ n3_
               replace BK108 := Aside0.mk (blk_drew BK108.out)
               replace BK117 := Aside0.mk (blk_drew BK117.out)
               replace BK148 := Aside0.mk (blk_drew BK148.out)
               replace HB := Aside0.mk (below_drew1 HB.out)
               refine start_ (n := 18) (S := fun w' => w'.cell? ⟨gb148, 0, none⟩ = some (.int .i64 t142) ∧ w'.cell? ⟨gb148, 1, none⟩ = some (.int .i64 t143) ∧ w'.cell? ⟨gb148, 2, none⟩ = some (.int .i64 t144) ∧ w'.cell? ⟨gb148, 3, none⟩ = some (.int .i64 t145) ∧ w'.cell? ⟨gb148, 4, none⟩ = some (.int .i64 t146) ∧ w'.cell? ⟨gb148, 5, none⟩ = some (.int .i64 t147) ∧ w'.cell? ⟨gb108, 0, none⟩ = some (.int .i64 t102) ∧ w'.cell? ⟨gb108, 1, none⟩ = some (.int .i64 t103) ∧ w'.cell? ⟨gb108, 2, none⟩ = some (.int .i64 t104) ∧ w'.cell? ⟨gb108, 3, none⟩ = some (.int .i64 t105) ∧ w'.cell? ⟨gb108, 4, none⟩ = some (.int .i64 t106) ∧ w'.cell? ⟨gb108, 5, none⟩ = some (.int .i64 t107)) (ds := []) laws_FnDates.d51 (by kernel_rfl) rfl rfl ⟨bc BK148 0, bc BK148 1, bc BK148 2, bc BK148 3, bc BK148 4, bc BK148 5, bc BK108 0, bc BK108 1, bc BK108 2, bc BK108 3, bc BK108 4, bc BK108 5⟩ (fun hHeld => ?_); refine with_tabW laws_FnDates.tab19 laws_FnDates.bits19 (fun HT_ HW_ => ?_)
               generalize w111.drew = w112 at BK108 BK117 BK148 HB hHeld ⊢
               refine pu 0 125 laws_FnDates.d52 HT_ ?_
               refine pu 1 126 laws_FnDates.d53 HT_ ?_
               refine tk 2 127 laws_FnDates.d54 HT_ HW_ hHeld ?_
               refine tk 4 129 laws_FnDates.d55 HT_ HW_ hHeld ?_
               refine onx 3 128 laws_FnDates.d56 HT_ (fun K hK => ?_)
               refine gs Try.func13 #[.agg #[.int .i64 t142, .int .i64 t143, .int .i64 t144, .int .i64 t145, .int .i64 t146, .int .i64 t147]] ?_
               with_reducible refine (impl_Weekday.calls kj87 t142 t143 t144 t145 t146 t147 t149 _ A101.out).mono ?_
               rintro e w113 ⟨rfl, hb⟩
               refine ⟨_, rfl, ?_⟩
               replace BK108 := Aside0.mk (blk_below (g := gb108) (o := .cells #[.int .i64 t102, .int .i64 t103, .int .i64 t104, .int .i64 t105, .int .i64 t106, .int .i64 t107] 25 (0, 0)) bk hb)
               replace BK117 := Aside0.mk (blk_below (g := gb117) (o := .cells #[.int .i64 t111, .int .i64 t112, .int .i64 t113, .int .i64 t114, .int .i64 t115, .int .i64 t116] 25 (0, 0)) bk hb)
               replace BK148 := Aside0.mk (blk_below (g := gb148) (o := .cells #[.int .i64 t142, .int .i64 t143, .int .i64 t144, .int .i64 t145, .int .i64 t146, .int .i64 t147] 25 (0, 0)) bk hb)
               replace HB := Aside0.mk (below_step bh hb)
               (try clear hb)
               (try clear hb2)
               (try clear hk)
               (try clear hi)
               refine hK.out _ _ ⟨bc BK148 0, bc BK148 1, bc BK148 2, bc BK148 3, bc BK148 4, bc BK148 5, bc BK108 0, bc BK108 1, bc BK108 2, bc BK108 3, bc BK108 4, bc BK108 5⟩ (fun hHeld => ?_)
               clear hK K
               refine nm 128 ?_
               refine onx 5 130 laws_FnDates.d57 HT_ (fun K hK => ?_)
               refine gs Try.func13 #[.agg #[.int .i64 t102, .int .i64 t103, .int .i64 t104, .int .i64 t105, .int .i64 t106, .int .i64 t107]] ?_
               with_reducible refine (impl_Weekday.calls kj87 t102 t103 t104 t105 t106 t107 t150 _ A102.out).mono ?_
               rintro e w114 ⟨rfl, hb⟩
               refine ⟨_, rfl, ?_⟩
               replace BK108 := Aside0.mk (blk_below (g := gb108) (o := .cells #[.int .i64 t102, .int .i64 t103, .int .i64 t104, .int .i64 t105, .int .i64 t106, .int .i64 t107] 25 (0, 0)) bk hb)
               replace BK117 := Aside0.mk (blk_below (g := gb117) (o := .cells #[.int .i64 t111, .int .i64 t112, .int .i64 t113, .int .i64 t114, .int .i64 t115, .int .i64 t116] 25 (0, 0)) bk hb)
               replace BK148 := Aside0.mk (blk_below (g := gb148) (o := .cells #[.int .i64 t142, .int .i64 t143, .int .i64 t144, .int .i64 t145, .int .i64 t146, .int .i64 t147] 25 (0, 0)) bk hb)
               replace HB := Aside0.mk (below_step bh hb)
               (try clear hb)
               (try clear hb2)
               (try clear hk)
               (try clear hi)
               refine hK.out _ _ ⟨bc BK148 0, bc BK148 1, bc BK148 2, bc BK148 3, bc BK148 4, bc BK148 5, bc BK108 0, bc BK108 1, bc BK108 2, bc BK108 3, bc BK108 4, bc BK108 5⟩ (fun hHeld => ?_)
               clear hK K
               refine nm 130 ?_
               refine pu 6 131 laws_FnDates.d58 HT_ ?_
               refine pu 7 132 laws_FnDates.d59 HT_ ?_
               refine pu 8 133 laws_FnDates.d60 HT_ ?_
               refine pu 9 134 laws_FnDates.d61 HT_ ?_
               refine pu 10 135 laws_FnDates.d62 HT_ ?_
               refine pu 11 136 laws_FnDates.d63 HT_ ?_
               refine pu 13 138 laws_FnDates.d64 HT_ ?_
               refine tk 12 137 laws_FnDates.d65 HT_ HW_ hHeld ?_
               refine tk 14 139 laws_FnDates.d66 HT_ HW_ hHeld ?_
               refine pu 15 140 laws_FnDates.d67 HT_ ?_
               refine pu 16 141 laws_FnDates.d68 HT_ ?_
               refine pu 17 2 laws_FnDates.d69 HT_ ?_
               refine dn HT_ ?_
               try go_wp2
               go_ret
               exact ⟨er, bh⟩
              ·
               rw [if_neg c103] at H
               have c103b0 : (t149 == (Int.tmod (wrap64 (t150 + 1)) 7)) = false := beq_eq_false_iff_ne.mpr c103
               have c103b1 : (t149 != (Int.tmod (wrap64 (t150 + 1)) 7)) = true := bne_iff_ne.mpr c103
               obtain rfl := Option.some.inj H
               try go_wp2_with (first | ((with_reducible refine gate_callee (f := 8) rfl ?_); refine goesL_ (some 90) rfl rfl Try.func8 (by kernel_rfl) rfl #[.int .i64 (wrap64 (t109 + 86400))] rfl mc ?_; (with_reducible refine (impl_DateAt.calls kj87 (wrap64 (t109 + 86400)) t142 t143 t144 t145 t146 t147 _ A99.out).mono ?_); rintro e w115 ⟨rfl, hb⟩; refine ⟨_, rfl, ?_⟩; replace BK108 := Aside0.mk (blk_below (g := gb108) (o := .cells #[.int .i64 t102, .int .i64 t103, .int .i64 t104, .int .i64 t105, .int .i64 t106, .int .i64 t107] 25 (0, 0)) bk hb); replace BK117 := Aside0.mk (blk_below (g := gb117) (o := .cells #[.int .i64 t111, .int .i64 t112, .int .i64 t113, .int .i64 t114, .int .i64 t115, .int .i64 t116] 25 (0, 0)) bk hb); replace HB := Aside0.mk (below_step bh hb); (try clear hb); (try clear hb2); (try clear hk); (try clear hi)) | ((with_reducible refine gate_dst (N := 7) rfl ?_); refine bx 7 #[.int .i64 0, .int .i64 0, .int .i64 0, .int .i64 0, .int .i64 0, .int .i64 0] 25 ?_; intro gb148 hg w116 hbox hb; have BK148 := Aside0.mk (hbox); have GW148 := Aside0.mk (bz hg); have GE148 := Aside0.mk (bz hg); have NB108_148 := Aside0.mk ((nl (o := .cells #[.int .i64 t102, .int .i64 t103, .int .i64 t104, .int .i64 t105, .int .i64 t106, .int .i64 t107] 25 (0, 0)) hg bk : gb108 ≠ gb148)); have NB148_108 := Aside0.mk ((ng (o := .cells #[.int .i64 t102, .int .i64 t103, .int .i64 t104, .int .i64 t105, .int .i64 t106, .int .i64 t107] 25 (0, 0)) hg bk : gb148 ≠ gb108)); have NB117_148 := Aside0.mk ((nl (o := .cells #[.int .i64 t111, .int .i64 t112, .int .i64 t113, .int .i64 t114, .int .i64 t115, .int .i64 t116] 25 (0, 0)) hg bk : gb117 ≠ gb148)); have NB148_117 := Aside0.mk ((ng (o := .cells #[.int .i64 t111, .int .i64 t112, .int .i64 t113, .int .i64 t114, .int .i64 t115, .int .i64 t116] 25 (0, 0)) hg bk : gb148 ≠ gb117)); replace BK108 := Aside0.mk (blk_below (g := gb108) (o := .cells #[.int .i64 t102, .int .i64 t103, .int .i64 t104, .int .i64 t105, .int .i64 t106, .int .i64 t107] 25 (0, 0)) bk hb); replace BK117 := Aside0.mk (blk_below (g := gb117) (o := .cells #[.int .i64 t111, .int .i64 t112, .int .i64 t113, .int .i64 t114, .int .i64 t115, .int .i64 t116] 25 (0, 0)) bk hb); replace HB := Aside0.mk (below_step bh hb); clear hb hbox hg; have hnb117 := NB148_108.out; have hnc117 := NB108_148.out; have hnb118 := NB148_117.out; have hnc118 := NB117_148.out; have hcz119_0 : w116.cell? ⟨gb148, 0, none⟩ = some (.int .i64 0) := bc BK148 0; have hcz119_1 : w116.cell? ⟨gb148, 1, none⟩ = some (.int .i64 0) := bc BK148 1; have hcz119_2 : w116.cell? ⟨gb148, 2, none⟩ = some (.int .i64 0) := bc BK148 2; have hcz119_3 : w116.cell? ⟨gb148, 3, none⟩ = some (.int .i64 0) := bc BK148 3; have hcz119_4 : w116.cell? ⟨gb148, 4, none⟩ = some (.int .i64 0) := bc BK148 4; have hcz119_5 : w116.cell? ⟨gb148, 5, none⟩ = some (.int .i64 0) := bc BK148 5; have hfz119_0 := blk_frozen BK148.out 0; have hfz119_1 := blk_frozen BK148.out 1; have hfz119_2 := blk_frozen BK148.out 2; have hfz119_3 := blk_frozen BK148.out 3; have hfz119_4 := blk_frozen BK148.out 4; have hfz119_5 := blk_frozen BK148.out 5; have hnb120 := NB108_117.out; have hnc120 := NB117_108.out; have hcz121_0 : w116.cell? ⟨gb108, 0, none⟩ = some (.int .i64 t102) := bc BK108 0; have hcz121_1 : w116.cell? ⟨gb108, 1, none⟩ = some (.int .i64 t103) := bc BK108 1; have hcz121_2 : w116.cell? ⟨gb108, 2, none⟩ = some (.int .i64 t104) := bc BK108 2; have hcz121_3 : w116.cell? ⟨gb108, 3, none⟩ = some (.int .i64 t105) := bc BK108 3; have hcz121_4 : w116.cell? ⟨gb108, 4, none⟩ = some (.int .i64 t106) := bc BK108 4; have hcz121_5 : w116.cell? ⟨gb108, 5, none⟩ = some (.int .i64 t107) := bc BK108 5; have hfz121_0 := blk_frozen BK108.out 0; have hfz121_1 := blk_frozen BK108.out 1; have hfz121_2 := blk_frozen BK108.out 2; have hfz121_3 := blk_frozen BK108.out 3; have hfz121_4 := blk_frozen BK108.out 4; have hfz121_5 := blk_frozen BK108.out 5))
               have n0_ : Aside0 (((((((w116.setCell ⟨gb148, 0, none⟩ (.int .i64 t142)).setCell ⟨gb148, 1, none⟩ (.int .i64 t143)).setCell ⟨gb148, 2, none⟩ (.int .i64 t144)).setCell ⟨gb148, 3, none⟩ (.int .i64 t145)).setCell ⟨gb148, 4, none⟩ (.int .i64 t146)).setCell ⟨gb148, 5, none⟩ (.int .i64 t147)).heap[gb108]? = some (.cells #[.int .i64 t102, .int .i64 t103, .int .i64 t104, .int .i64 t105, .int .i64 t106, .int .i64 t107] 25 (0, 0))) := ⟨by (with_reducible repeat (first | refine blk_drewN ?_ _ | refine blk_drew ?_ | refine blk_alloc ?_ _)); refine blk_far ?_ NB108_148.out _; (with_reducible repeat (first | refine blk_drewN ?_ _ | refine blk_drew ?_ | refine blk_alloc ?_ _)); refine blk_far ?_ NB108_148.out _; (with_reducible repeat (first | refine blk_drewN ?_ _ | refine blk_drew ?_ | refine blk_alloc ?_ _)); refine blk_far ?_ NB108_148.out _; (with_reducible repeat (first | refine blk_drewN ?_ _ | refine blk_drew ?_ | refine blk_alloc ?_ _)); refine blk_far ?_ NB108_148.out _; (with_reducible repeat (first | refine blk_drewN ?_ _ | refine blk_drew ?_ | refine blk_alloc ?_ _)); refine blk_far ?_ NB108_148.out _; (with_reducible repeat (first | refine blk_drewN ?_ _ | refine blk_drew ?_ | refine blk_alloc ?_ _)); refine blk_far ?_ NB108_148.out _; (with_reducible repeat (first | refine blk_drewN ?_ _ | refine blk_drew ?_ | refine blk_alloc ?_ _)); exact BK108.out⟩
               have n1_ : Aside0 (((((((w116.setCell ⟨gb148, 0, none⟩ (.int .i64 t142)).setCell ⟨gb148, 1, none⟩ (.int .i64 t143)).setCell ⟨gb148, 2, none⟩ (.int .i64 t144)).setCell ⟨gb148, 3, none⟩ (.int .i64 t145)).setCell ⟨gb148, 4, none⟩ (.int .i64 t146)).setCell ⟨gb148, 5, none⟩ (.int .i64 t147)).heap[gb117]? = some (.cells #[.int .i64 t111, .int .i64 t112, .int .i64 t113, .int .i64 t114, .int .i64 t115, .int .i64 t116] 25 (0, 0))) := ⟨by (with_reducible repeat (first | refine blk_drewN ?_ _ | refine blk_drew ?_ | refine blk_alloc ?_ _)); refine blk_far ?_ NB117_148.out _; (with_reducible repeat (first | refine blk_drewN ?_ _ | refine blk_drew ?_ | refine blk_alloc ?_ _)); refine blk_far ?_ NB117_148.out _; (with_reducible repeat (first | refine blk_drewN ?_ _ | refine blk_drew ?_ | refine blk_alloc ?_ _)); refine blk_far ?_ NB117_148.out _; (with_reducible repeat (first | refine blk_drewN ?_ _ | refine blk_drew ?_ | refine blk_alloc ?_ _)); refine blk_far ?_ NB117_148.out _; (with_reducible repeat (first | refine blk_drewN ?_ _ | refine blk_drew ?_ | refine blk_alloc ?_ _)); refine blk_far ?_ NB117_148.out _; (with_reducible repeat (first | refine blk_drewN ?_ _ | refine blk_drew ?_ | refine blk_alloc ?_ _)); refine blk_far ?_ NB117_148.out _; (with_reducible repeat (first | refine blk_drewN ?_ _ | refine blk_drew ?_ | refine blk_alloc ?_ _)); exact BK117.out⟩
               have n2_ : Aside0 (((((((w116.setCell ⟨gb148, 0, none⟩ (.int .i64 t142)).setCell ⟨gb148, 1, none⟩ (.int .i64 t143)).setCell ⟨gb148, 2, none⟩ (.int .i64 t144)).setCell ⟨gb148, 3, none⟩ (.int .i64 t145)).setCell ⟨gb148, 4, none⟩ (.int .i64 t146)).setCell ⟨gb148, 5, none⟩ (.int .i64 t147)).heap[gb148]? = some (.cells #[.int .i64 t142, .int .i64 t143, .int .i64 t144, .int .i64 t145, .int .i64 t146, .int .i64 t147] 25 (0, 0))) := ⟨by (with_reducible repeat (first | refine blk_drewN ?_ _ | refine blk_drew ?_ | refine blk_alloc ?_ _)); refine blk_put (cs := #[.int .i64 t142, .int .i64 t143, .int .i64 t144, .int .i64 t145, .int .i64 t146, .int .i64 0]) ?_ 5 _ rfl; (with_reducible repeat (first | refine blk_drewN ?_ _ | refine blk_drew ?_ | refine blk_alloc ?_ _)); refine blk_put (cs := #[.int .i64 t142, .int .i64 t143, .int .i64 t144, .int .i64 t145, .int .i64 0, .int .i64 0]) ?_ 4 _ rfl; (with_reducible repeat (first | refine blk_drewN ?_ _ | refine blk_drew ?_ | refine blk_alloc ?_ _)); refine blk_put (cs := #[.int .i64 t142, .int .i64 t143, .int .i64 t144, .int .i64 0, .int .i64 0, .int .i64 0]) ?_ 3 _ rfl; (with_reducible repeat (first | refine blk_drewN ?_ _ | refine blk_drew ?_ | refine blk_alloc ?_ _)); refine blk_put (cs := #[.int .i64 t142, .int .i64 t143, .int .i64 0, .int .i64 0, .int .i64 0, .int .i64 0]) ?_ 2 _ rfl; (with_reducible repeat (first | refine blk_drewN ?_ _ | refine blk_drew ?_ | refine blk_alloc ?_ _)); refine blk_put (cs := #[.int .i64 t142, .int .i64 0, .int .i64 0, .int .i64 0, .int .i64 0, .int .i64 0]) ?_ 1 _ rfl; (with_reducible repeat (first | refine blk_drewN ?_ _ | refine blk_drew ?_ | refine blk_alloc ?_ _)); refine blk_put (cs := #[.int .i64 0, .int .i64 0, .int .i64 0, .int .i64 0, .int .i64 0, .int .i64 0]) ?_ 0 _ rfl; (with_reducible repeat (first | refine blk_drewN ?_ _ | refine blk_drew ?_ | refine blk_alloc ?_ _)); exact BK148.out⟩
               have n3_ : Aside0 (Below w.heap.size w ((((((w116.setCell ⟨gb148, 0, none⟩ (.int .i64 t142)).setCell ⟨gb148, 1, none⟩ (.int .i64 t143)).setCell ⟨gb148, 2, none⟩ (.int .i64 t144)).setCell ⟨gb148, 3, none⟩ (.int .i64 t145)).setCell ⟨gb148, 4, none⟩ (.int .i64 t146)).setCell ⟨gb148, 5, none⟩ (.int .i64 t147))) := ⟨bh⟩
               (try clear BK108)
               (try clear BK117)
               (try clear BK148)
               (try clear HB)
               generalize ((((((w116.setCell ⟨gb148, 0, none⟩ (.int .i64 t142)).setCell ⟨gb148, 1, none⟩ (.int .i64 t143)).setCell ⟨gb148, 2, none⟩ (.int .i64 t144)).setCell ⟨gb148, 3, none⟩ (.int .i64 t145)).setCell ⟨gb148, 4, none⟩ (.int .i64 t146)).setCell ⟨gb148, 5, none⟩ (.int .i64 t147)) = w122 at n0_ n1_ n2_ n3_ ⊢
               have BK108 := n0_
               have BK117 := n1_
               have BK148 := n2_
               have HB := n3_
               clear n0_ n1_ n2_ n3_
               replace BK108 := Aside0.mk (blk_drew BK108.out)
               replace BK117 := Aside0.mk (blk_drew BK117.out)
               replace BK148 := Aside0.mk (blk_drew BK148.out)
               replace HB := Aside0.mk (below_drew1 HB.out)
               refine start_ (n := 18) (S := fun w' => w'.cell? ⟨gb148, 0, none⟩ = some (.int .i64 t142) ∧ w'.cell? ⟨gb148, 1, none⟩ = some (.int .i64 t143) ∧ w'.cell? ⟨gb148, 2, none⟩ = some (.int .i64 t144) ∧ w'.cell? ⟨gb148, 3, none⟩ = some (.int .i64 t145) ∧ w'.cell? ⟨gb148, 4, none⟩ = some (.int .i64 t146) ∧ w'.cell? ⟨gb148, 5, none⟩ = some (.int .i64 t147) ∧ w'.cell? ⟨gb108, 0, none⟩ = some (.int .i64 t102) ∧ w'.cell? ⟨gb108, 1, none⟩ = some (.int .i64 t103) ∧ w'.cell? ⟨gb108, 2, none⟩ = some (.int .i64 t104) ∧ w'.cell? ⟨gb108, 3, none⟩ = some (.int .i64 t105) ∧ w'.cell? ⟨gb108, 4, none⟩ = some (.int .i64 t106) ∧ w'.cell? ⟨gb108, 5, none⟩ = some (.int .i64 t107)) (ds := []) laws_FnDates.d51 (by kernel_rfl) rfl rfl ⟨bc BK148 0, bc BK148 1, bc BK148 2, bc BK148 3, bc BK148 4, bc BK148 5, bc BK108 0, bc BK108 1, bc BK108 2, bc BK108 3, bc BK108 4, bc BK108 5⟩ (fun hHeld => ?_); refine with_tabW laws_FnDates.tab19 laws_FnDates.bits19 (fun HT_ HW_ => ?_)
               generalize w122.drew = w123 at BK108 BK117 BK148 HB hHeld ⊢
               refine pu 0 125 laws_FnDates.d52 HT_ ?_
               refine pu 1 126 laws_FnDates.d53 HT_ ?_
               refine tk 2 127 laws_FnDates.d54 HT_ HW_ hHeld ?_
               refine tk 4 129 laws_FnDates.d55 HT_ HW_ hHeld ?_
               refine onx 3 128 laws_FnDates.d56 HT_ (fun K hK => ?_)
               refine gs Try.func13 #[.agg #[.int .i64 t142, .int .i64 t143, .int .i64 t144, .int .i64 t145, .int .i64 t146, .int .i64 t147]] ?_
               with_reducible refine (impl_Weekday.calls kj87 t142 t143 t144 t145 t146 t147 t149 _ A101.out).mono ?_
               rintro e w124 ⟨rfl, hb⟩
               refine ⟨_, rfl, ?_⟩
               replace BK108 := Aside0.mk (blk_below (g := gb108) (o := .cells #[.int .i64 t102, .int .i64 t103, .int .i64 t104, .int .i64 t105, .int .i64 t106, .int .i64 t107] 25 (0, 0)) bk hb)
               replace BK117 := Aside0.mk (blk_below (g := gb117) (o := .cells #[.int .i64 t111, .int .i64 t112, .int .i64 t113, .int .i64 t114, .int .i64 t115, .int .i64 t116] 25 (0, 0)) bk hb)
               replace BK148 := Aside0.mk (blk_below (g := gb148) (o := .cells #[.int .i64 t142, .int .i64 t143, .int .i64 t144, .int .i64 t145, .int .i64 t146, .int .i64 t147] 25 (0, 0)) bk hb)
               replace HB := Aside0.mk (below_step bh hb)
               (try clear hb)
               (try clear hb2)
               (try clear hk)
               (try clear hi)
               refine hK.out _ _ ⟨bc BK148 0, bc BK148 1, bc BK148 2, bc BK148 3, bc BK148 4, bc BK148 5, bc BK108 0, bc BK108 1, bc BK108 2, bc BK108 3, bc BK108 4, bc BK108 5⟩ (fun hHeld => ?_)
               clear hK K
               refine nm 128 ?_
               refine onx 5 130 laws_FnDates.d57 HT_ (fun K hK => ?_)
               refine gs Try.func13 #[.agg #[.int .i64 t102, .int .i64 t103, .int .i64 t104, .int .i64 t105, .int .i64 t106, .int .i64 t107]] ?_
               with_reducible refine (impl_Weekday.calls kj87 t102 t103 t104 t105 t106 t107 t150 _ A102.out).mono ?_
               rintro e w125 ⟨rfl, hb⟩
               refine ⟨_, rfl, ?_⟩
               replace BK108 := Aside0.mk (blk_below (g := gb108) (o := .cells #[.int .i64 t102, .int .i64 t103, .int .i64 t104, .int .i64 t105, .int .i64 t106, .int .i64 t107] 25 (0, 0)) bk hb)
               replace BK117 := Aside0.mk (blk_below (g := gb117) (o := .cells #[.int .i64 t111, .int .i64 t112, .int .i64 t113, .int .i64 t114, .int .i64 t115, .int .i64 t116] 25 (0, 0)) bk hb)
               replace BK148 := Aside0.mk (blk_below (g := gb148) (o := .cells #[.int .i64 t142, .int .i64 t143, .int .i64 t144, .int .i64 t145, .int .i64 t146, .int .i64 t147] 25 (0, 0)) bk hb)
               replace HB := Aside0.mk (below_step bh hb)
               (try clear hb)
               (try clear hb2)
               (try clear hk)
               (try clear hi)
               refine hK.out _ _ ⟨bc BK148 0, bc BK148 1, bc BK148 2, bc BK148 3, bc BK148 4, bc BK148 5, bc BK108 0, bc BK108 1, bc BK108 2, bc BK108 3, bc BK108 4, bc BK108 5⟩ (fun hHeld => ?_)
               clear hK K
               refine nm 130 ?_
               refine pu 6 131 laws_FnDates.d58 HT_ ?_
               refine pu 7 132 laws_FnDates.d59 HT_ ?_
               refine pu 8 133 laws_FnDates.d60 HT_ ?_
               refine pu 9 134 laws_FnDates.d61 HT_ ?_
               refine pu 10 135 laws_FnDates.d62 HT_ ?_
               refine un 11 136 laws_FnDates.d63 HT_ ?_
               refine un 12 137 laws_FnDates.d70 HT_ ?_
               refine un 13 138 laws_FnDates.d65 HT_ ?_
               refine un 14 139 laws_FnDates.d66 HT_ ?_
               refine un 15 140 laws_FnDates.d67 HT_ ?_
               refine pu 16 141 laws_FnDates.d68 HT_ ?_
               refine pu 17 2 laws_FnDates.d69 HT_ ?_
               refine dn HT_ ?_
               try go_wp2
               go_ret
               exact ⟨er, bh⟩
             ·
              rw [if_neg c100] at H
              have c100b0 : decide (t102 < t142) = false := decide_eq_false c100
              clear c100
              by_cases c126 : t142 = t102
              ·
               rw [if_pos c126] at H
               have c126b0 : (t142 == t102) = true := beq_iff_eq.mpr c126
               have c126b1 : (t142 != t102) = false := bne_eq_false_iff_eq.mpr c126
               clear c126
               by_cases c127 : t143 > t103
               ·
                rw [if_pos c127] at H
                have c127b0 : decide (t103 < t143) = true := decide_eq_true c127
                clear c127
                obtain ⟨t151, A1280, H⟩ := Option.bind_eq_some_iff.mp H
                try dsimp only at H
                have A128 := Aside0.mk A1280
                clear A1280
                obtain ⟨t152, A1290, H⟩ := Option.bind_eq_some_iff.mp H
                try dsimp only at H
                have A129 := Aside0.mk A1290
                clear A1290
                by_cases c130 : t151 = (Int.tmod (wrap64 (t152 + 1)) 7)
                ·
                 rw [if_pos c130] at H
                 have c130b0 : (t151 == (Int.tmod (wrap64 (t152 + 1)) 7)) = true := beq_iff_eq.mpr c130
                 have c130b1 : (t151 != (Int.tmod (wrap64 (t152 + 1)) 7)) = false := bne_eq_false_iff_eq.mpr c130
                 clear c130
                 obtain rfl := Option.some.inj H
                 try go_wp2_with (first | ((with_reducible refine gate_callee (f := 8) rfl ?_); refine goesL_ (some 90) rfl rfl Try.func8 (by kernel_rfl) rfl #[.int .i64 (wrap64 (t109 + 86400))] rfl mc ?_; (with_reducible refine (impl_DateAt.calls kj87 (wrap64 (t109 + 86400)) t142 t143 t144 t145 t146 t147 _ A99.out).mono ?_); rintro e w131 ⟨rfl, hb⟩; refine ⟨_, rfl, ?_⟩; replace BK108 := Aside0.mk (blk_below (g := gb108) (o := .cells #[.int .i64 t102, .int .i64 t103, .int .i64 t104, .int .i64 t105, .int .i64 t106, .int .i64 t107] 25 (0, 0)) bk hb); replace BK117 := Aside0.mk (blk_below (g := gb117) (o := .cells #[.int .i64 t111, .int .i64 t112, .int .i64 t113, .int .i64 t114, .int .i64 t115, .int .i64 t116] 25 (0, 0)) bk hb); replace HB := Aside0.mk (below_step bh hb); (try clear hb); (try clear hb2); (try clear hk); (try clear hi)) | ((with_reducible refine gate_dst (N := 7) rfl ?_); refine bx 7 #[.int .i64 0, .int .i64 0, .int .i64 0, .int .i64 0, .int .i64 0, .int .i64 0] 25 ?_; intro gb148 hg w132 hbox hb; have BK148 := Aside0.mk (hbox); have GW148 := Aside0.mk (bz hg); have GE148 := Aside0.mk (bz hg); have NB108_148 := Aside0.mk ((nl (o := .cells #[.int .i64 t102, .int .i64 t103, .int .i64 t104, .int .i64 t105, .int .i64 t106, .int .i64 t107] 25 (0, 0)) hg bk : gb108 ≠ gb148)); have NB148_108 := Aside0.mk ((ng (o := .cells #[.int .i64 t102, .int .i64 t103, .int .i64 t104, .int .i64 t105, .int .i64 t106, .int .i64 t107] 25 (0, 0)) hg bk : gb148 ≠ gb108)); have NB117_148 := Aside0.mk ((nl (o := .cells #[.int .i64 t111, .int .i64 t112, .int .i64 t113, .int .i64 t114, .int .i64 t115, .int .i64 t116] 25 (0, 0)) hg bk : gb117 ≠ gb148)); have NB148_117 := Aside0.mk ((ng (o := .cells #[.int .i64 t111, .int .i64 t112, .int .i64 t113, .int .i64 t114, .int .i64 t115, .int .i64 t116] 25 (0, 0)) hg bk : gb148 ≠ gb117)); replace BK108 := Aside0.mk (blk_below (g := gb108) (o := .cells #[.int .i64 t102, .int .i64 t103, .int .i64 t104, .int .i64 t105, .int .i64 t106, .int .i64 t107] 25 (0, 0)) bk hb); replace BK117 := Aside0.mk (blk_below (g := gb117) (o := .cells #[.int .i64 t111, .int .i64 t112, .int .i64 t113, .int .i64 t114, .int .i64 t115, .int .i64 t116] 25 (0, 0)) bk hb); replace HB := Aside0.mk (below_step bh hb); clear hb hbox hg; have hnb133 := NB148_108.out; have hnc133 := NB108_148.out; have hnb134 := NB148_117.out; have hnc134 := NB117_148.out; have hcz135_0 : w132.cell? ⟨gb148, 0, none⟩ = some (.int .i64 0) := bc BK148 0; have hcz135_1 : w132.cell? ⟨gb148, 1, none⟩ = some (.int .i64 0) := bc BK148 1; have hcz135_2 : w132.cell? ⟨gb148, 2, none⟩ = some (.int .i64 0) := bc BK148 2; have hcz135_3 : w132.cell? ⟨gb148, 3, none⟩ = some (.int .i64 0) := bc BK148 3; have hcz135_4 : w132.cell? ⟨gb148, 4, none⟩ = some (.int .i64 0) := bc BK148 4; have hcz135_5 : w132.cell? ⟨gb148, 5, none⟩ = some (.int .i64 0) := bc BK148 5; have hfz135_0 := blk_frozen BK148.out 0; have hfz135_1 := blk_frozen BK148.out 1; have hfz135_2 := blk_frozen BK148.out 2; have hfz135_3 := blk_frozen BK148.out 3; have hfz135_4 := blk_frozen BK148.out 4; have hfz135_5 := blk_frozen BK148.out 5; have hnb136 := NB108_117.out; have hnc136 := NB117_108.out; have hcz137_0 : w132.cell? ⟨gb108, 0, none⟩ = some (.int .i64 t102) := bc BK108 0; have hcz137_1 : w132.cell? ⟨gb108, 1, none⟩ = some (.int .i64 t103) := bc BK108 1; have hcz137_2 : w132.cell? ⟨gb108, 2, none⟩ = some (.int .i64 t104) := bc BK108 2; have hcz137_3 : w132.cell? ⟨gb108, 3, none⟩ = some (.int .i64 t105) := bc BK108 3; have hcz137_4 : w132.cell? ⟨gb108, 4, none⟩ = some (.int .i64 t106) := bc BK108 4; have hcz137_5 : w132.cell? ⟨gb108, 5, none⟩ = some (.int .i64 t107) := bc BK108 5; have hfz137_0 := blk_frozen BK108.out 0; have hfz137_1 := blk_frozen BK108.out 1; have hfz137_2 := blk_frozen BK108.out 2; have hfz137_3 := blk_frozen BK108.out 3; have hfz137_4 := blk_frozen BK108.out 4; have hfz137_5 := blk_frozen BK108.out 5))
                 have n0_ : Aside0 (((((((w132.setCell ⟨gb148, 0, none⟩ (.int .i64 t142)).setCell ⟨gb148, 1, none⟩ (.int .i64 t143)).setCell ⟨gb148, 2, none⟩ (.int .i64 t144)).setCell ⟨gb148, 3, none⟩ (.int .i64 t145)).setCell ⟨gb148, 4, none⟩ (.int .i64 t146)).setCell ⟨gb148, 5, none⟩ (.int .i64 t147)).heap[gb108]? = some (.cells #[.int .i64 t102, .int .i64 t103, .int .i64 t104, .int .i64 t105, .int .i64 t106, .int .i64 t107] 25 (0, 0))) := ⟨by (with_reducible repeat (first | refine blk_drewN ?_ _ | refine blk_drew ?_ | refine blk_alloc ?_ _)); refine blk_far ?_ NB108_148.out _; (with_reducible repeat (first | refine blk_drewN ?_ _ | refine blk_drew ?_ | refine blk_alloc ?_ _)); refine blk_far ?_ NB108_148.out _; (with_reducible repeat (first | refine blk_drewN ?_ _ | refine blk_drew ?_ | refine blk_alloc ?_ _)); refine blk_far ?_ NB108_148.out _; (with_reducible repeat (first | refine blk_drewN ?_ _ | refine blk_drew ?_ | refine blk_alloc ?_ _)); refine blk_far ?_ NB108_148.out _; (with_reducible repeat (first | refine blk_drewN ?_ _ | refine blk_drew ?_ | refine blk_alloc ?_ _)); refine blk_far ?_ NB108_148.out _; (with_reducible repeat (first | refine blk_drewN ?_ _ | refine blk_drew ?_ | refine blk_alloc ?_ _)); refine blk_far ?_ NB108_148.out _; (with_reducible repeat (first | refine blk_drewN ?_ _ | refine blk_drew ?_ | refine blk_alloc ?_ _)); exact BK108.out⟩
                 have n1_ : Aside0 (((((((w132.setCell ⟨gb148, 0, none⟩ (.int .i64 t142)).setCell ⟨gb148, 1, none⟩ (.int .i64 t143)).setCell ⟨gb148, 2, none⟩ (.int .i64 t144)).setCell ⟨gb148, 3, none⟩ (.int .i64 t145)).setCell ⟨gb148, 4, none⟩ (.int .i64 t146)).setCell ⟨gb148, 5, none⟩ (.int .i64 t147)).heap[gb117]? = some (.cells #[.int .i64 t111, .int .i64 t112, .int .i64 t113, .int .i64 t114, .int .i64 t115, .int .i64 t116] 25 (0, 0))) := ⟨by (with_reducible repeat (first | refine blk_drewN ?_ _ | refine blk_drew ?_ | refine blk_alloc ?_ _)); refine blk_far ?_ NB117_148.out _; (with_reducible repeat (first | refine blk_drewN ?_ _ | refine blk_drew ?_ | refine blk_alloc ?_ _)); refine blk_far ?_ NB117_148.out _; (with_reducible repeat (first | refine blk_drewN ?_ _ | refine blk_drew ?_ | refine blk_alloc ?_ _)); refine blk_far ?_ NB117_148.out _; (with_reducible repeat (first | refine blk_drewN ?_ _ | refine blk_drew ?_ | refine blk_alloc ?_ _)); refine blk_far ?_ NB117_148.out _; (with_reducible repeat (first | refine blk_drewN ?_ _ | refine blk_drew ?_ | refine blk_alloc ?_ _)); refine blk_far ?_ NB117_148.out _; (with_reducible repeat (first | refine blk_drewN ?_ _ | refine blk_drew ?_ | refine blk_alloc ?_ _)); refine blk_far ?_ NB117_148.out _; (with_reducible repeat (first | refine blk_drewN ?_ _ | refine blk_drew ?_ | refine blk_alloc ?_ _)); exact BK117.out⟩
                 have n2_ : Aside0 (((((((w132.setCell ⟨gb148, 0, none⟩ (.int .i64 t142)).setCell ⟨gb148, 1, none⟩ (.int .i64 t143)).setCell ⟨gb148, 2, none⟩ (.int .i64 t144)).setCell ⟨gb148, 3, none⟩ (.int .i64 t145)).setCell ⟨gb148, 4, none⟩ (.int .i64 t146)).setCell ⟨gb148, 5, none⟩ (.int .i64 t147)).heap[gb148]? = some (.cells #[.int .i64 t142, .int .i64 t143, .int .i64 t144, .int .i64 t145, .int .i64 t146, .int .i64 t147] 25 (0, 0))) := ⟨by (with_reducible repeat (first | refine blk_drewN ?_ _ | refine blk_drew ?_ | refine blk_alloc ?_ _)); refine blk_put (cs := #[.int .i64 t142, .int .i64 t143, .int .i64 t144, .int .i64 t145, .int .i64 t146, .int .i64 0]) ?_ 5 _ rfl; (with_reducible repeat (first | refine blk_drewN ?_ _ | refine blk_drew ?_ | refine blk_alloc ?_ _)); refine blk_put (cs := #[.int .i64 t142, .int .i64 t143, .int .i64 t144, .int .i64 t145, .int .i64 0, .int .i64 0]) ?_ 4 _ rfl; (with_reducible repeat (first | refine blk_drewN ?_ _ | refine blk_drew ?_ | refine blk_alloc ?_ _)); refine blk_put (cs := #[.int .i64 t142, .int .i64 t143, .int .i64 t144, .int .i64 0, .int .i64 0, .int .i64 0]) ?_ 3 _ rfl; (with_reducible repeat (first | refine blk_drewN ?_ _ | refine blk_drew ?_ | refine blk_alloc ?_ _)); refine blk_put (cs := #[.int .i64 t142, .int .i64 t143, .int .i64 0, .int .i64 0, .int .i64 0, .int .i64 0]) ?_ 2 _ rfl; (with_reducible repeat (first | refine blk_drewN ?_ _ | refine blk_drew ?_ | refine blk_alloc ?_ _)); refine blk_put (cs := #[.int .i64 t142, .int .i64 0, .int .i64 0, .int .i64 0, .int .i64 0, .int .i64 0]) ?_ 1 _ rfl; (with_reducible repeat (first | refine blk_drewN ?_ _ | refine blk_drew ?_ | refine blk_alloc ?_ _)); refine blk_put (cs := #[.int .i64 0, .int .i64 0, .int .i64 0, .int .i64 0, .int .i64 0, .int .i64 0]) ?_ 0 _ rfl; (with_reducible repeat (first | refine blk_drewN ?_ _ | refine blk_drew ?_ | refine blk_alloc ?_ _)); exact BK148.out⟩
                 have n3_ : Aside0 (Below w.heap.size w ((((((w132.setCell ⟨gb148, 0, none⟩ (.int .i64 t142)).setCell ⟨gb148, 1, none⟩ (.int .i64 t143)).setCell ⟨gb148, 2, none⟩ (.int .i64 t144)).setCell ⟨gb148, 3, none⟩ (.int .i64 t145)).setCell ⟨gb148, 4, none⟩ (.int .i64 t146)).setCell ⟨gb148, 5, none⟩ (.int .i64 t147))) := ⟨bh⟩
                 (try clear BK108)
                 (try clear BK117)
                 (try clear BK148)
                 (try clear HB)
                 generalize ((((((w132.setCell ⟨gb148, 0, none⟩ (.int .i64 t142)).setCell ⟨gb148, 1, none⟩ (.int .i64 t143)).setCell ⟨gb148, 2, none⟩ (.int .i64 t144)).setCell ⟨gb148, 3, none⟩ (.int .i64 t145)).setCell ⟨gb148, 4, none⟩ (.int .i64 t146)).setCell ⟨gb148, 5, none⟩ (.int .i64 t147)) = w138 at n0_ n1_ n2_ n3_ ⊢
                 have BK108 := n0_
                 have BK117 := n1_
                 have BK148 := n2_
                 have HB := n3_
                 clear n0_ n1_ n2_ n3_
                 replace BK108 := Aside0.mk (blk_drew BK108.out)
                 replace BK117 := Aside0.mk (blk_drew BK117.out)
                 replace BK148 := Aside0.mk (blk_drew BK148.out)
                 replace HB := Aside0.mk (below_drew1 HB.out)
                 refine start_ (n := 18) (S := fun w' => w'.cell? ⟨gb148, 0, none⟩ = some (.int .i64 t142) ∧ w'.cell? ⟨gb148, 1, none⟩ = some (.int .i64 t143) ∧ w'.cell? ⟨gb148, 2, none⟩ = some (.int .i64 t144) ∧ w'.cell? ⟨gb148, 3, none⟩ = some (.int .i64 t145) ∧ w'.cell? ⟨gb148, 4, none⟩ = some (.int .i64 t146) ∧ w'.cell? ⟨gb148, 5, none⟩ = some (.int .i64 t147) ∧ w'.cell? ⟨gb108, 0, none⟩ = some (.int .i64 t102) ∧ w'.cell? ⟨gb108, 1, none⟩ = some (.int .i64 t103) ∧ w'.cell? ⟨gb108, 2, none⟩ = some (.int .i64 t104) ∧ w'.cell? ⟨gb108, 3, none⟩ = some (.int .i64 t105) ∧ w'.cell? ⟨gb108, 4, none⟩ = some (.int .i64 t106) ∧ w'.cell? ⟨gb108, 5, none⟩ = some (.int .i64 t107)) (ds := []) laws_FnDates.d51 (by kernel_rfl) rfl rfl ⟨bc BK148 0, bc BK148 1, bc BK148 2, bc BK148 3, bc BK148 4, bc BK148 5, bc BK108 0, bc BK108 1, bc BK108 2, bc BK108 3, bc BK108 4, bc BK108 5⟩ (fun hHeld => ?_); refine with_tabW laws_FnDates.tab19 laws_FnDates.bits19 (fun HT_ HW_ => ?_)
                 generalize w138.drew = w139 at BK108 BK117 BK148 HB hHeld ⊢
                 refine pu 0 125 laws_FnDates.d52 HT_ ?_
                 refine pu 1 126 laws_FnDates.d53 HT_ ?_
                 refine tk 2 127 laws_FnDates.d54 HT_ HW_ hHeld ?_
                 refine tk 4 129 laws_FnDates.d55 HT_ HW_ hHeld ?_
                 refine onx 3 128 laws_FnDates.d56 HT_ (fun K hK => ?_)
                 refine gs Try.func13 #[.agg #[.int .i64 t142, .int .i64 t143, .int .i64 t144, .int .i64 t145, .int .i64 t146, .int .i64 t147]] ?_
                 with_reducible refine (impl_Weekday.calls kj87 t142 t143 t144 t145 t146 t147 t151 _ A128.out).mono ?_
                 rintro e w140 ⟨rfl, hb⟩
                 refine ⟨_, rfl, ?_⟩
                 replace BK108 := Aside0.mk (blk_below (g := gb108) (o := .cells #[.int .i64 t102, .int .i64 t103, .int .i64 t104, .int .i64 t105, .int .i64 t106, .int .i64 t107] 25 (0, 0)) bk hb)
                 replace BK117 := Aside0.mk (blk_below (g := gb117) (o := .cells #[.int .i64 t111, .int .i64 t112, .int .i64 t113, .int .i64 t114, .int .i64 t115, .int .i64 t116] 25 (0, 0)) bk hb)
                 replace BK148 := Aside0.mk (blk_below (g := gb148) (o := .cells #[.int .i64 t142, .int .i64 t143, .int .i64 t144, .int .i64 t145, .int .i64 t146, .int .i64 t147] 25 (0, 0)) bk hb)
                 replace HB := Aside0.mk (below_step bh hb)
                 (try clear hb)
                 (try clear hb2)
                 (try clear hk)
                 (try clear hi)
                 refine hK.out _ _ ⟨bc BK148 0, bc BK148 1, bc BK148 2, bc BK148 3, bc BK148 4, bc BK148 5, bc BK108 0, bc BK108 1, bc BK108 2, bc BK108 3, bc BK108 4, bc BK108 5⟩ (fun hHeld => ?_)
                 clear hK K
                 refine nm 128 ?_
                 refine onx 5 130 laws_FnDates.d57 HT_ (fun K hK => ?_)
                 refine gs Try.func13 #[.agg #[.int .i64 t102, .int .i64 t103, .int .i64 t104, .int .i64 t105, .int .i64 t106, .int .i64 t107]] ?_
                 with_reducible refine (impl_Weekday.calls kj87 t102 t103 t104 t105 t106 t107 t152 _ A129.out).mono ?_
                 rintro e w141 ⟨rfl, hb⟩
                 refine ⟨_, rfl, ?_⟩
                 replace BK108 := Aside0.mk (blk_below (g := gb108) (o := .cells #[.int .i64 t102, .int .i64 t103, .int .i64 t104, .int .i64 t105, .int .i64 t106, .int .i64 t107] 25 (0, 0)) bk hb)
                 replace BK117 := Aside0.mk (blk_below (g := gb117) (o := .cells #[.int .i64 t111, .int .i64 t112, .int .i64 t113, .int .i64 t114, .int .i64 t115, .int .i64 t116] 25 (0, 0)) bk hb)
                 replace BK148 := Aside0.mk (blk_below (g := gb148) (o := .cells #[.int .i64 t142, .int .i64 t143, .int .i64 t144, .int .i64 t145, .int .i64 t146, .int .i64 t147] 25 (0, 0)) bk hb)
                 replace HB := Aside0.mk (below_step bh hb)
                 (try clear hb)
                 (try clear hb2)
                 (try clear hk)
                 (try clear hi)
                 refine hK.out _ _ ⟨bc BK148 0, bc BK148 1, bc BK148 2, bc BK148 3, bc BK148 4, bc BK148 5, bc BK108 0, bc BK108 1, bc BK108 2, bc BK108 3, bc BK108 4, bc BK108 5⟩ (fun hHeld => ?_)
                 clear hK K
                 refine nm 130 ?_
                 refine pu 6 131 laws_FnDates.d58 HT_ ?_
                 refine pu 7 132 laws_FnDates.d59 HT_ ?_
                 refine pu 8 133 laws_FnDates.d60 HT_ ?_
                 refine pu 9 134 laws_FnDates.d61 HT_ ?_
                 refine pu 10 135 laws_FnDates.d62 HT_ ?_
                 refine pu 11 136 laws_FnDates.d63 HT_ ?_
                 refine pu 13 138 laws_FnDates.d64 HT_ ?_
                 refine tk 12 137 laws_FnDates.d65 HT_ HW_ hHeld ?_
                 refine tk 14 139 laws_FnDates.d66 HT_ HW_ hHeld ?_
                 refine pu 15 140 laws_FnDates.d67 HT_ ?_
                 refine pu 16 141 laws_FnDates.d68 HT_ ?_
                 refine pu 17 2 laws_FnDates.d69 HT_ ?_
                 refine dn HT_ ?_
                 try go_wp2
                 go_ret
                 exact ⟨er, bh⟩
                ·
                 rw [if_neg c130] at H
                 have c130b0 : (t151 == (Int.tmod (wrap64 (t152 + 1)) 7)) = false := beq_eq_false_iff_ne.mpr c130
                 have c130b1 : (t151 != (Int.tmod (wrap64 (t152 + 1)) 7)) = true := bne_iff_ne.mpr c130
                 obtain rfl := Option.some.inj H
                 try go_wp2_with (first | ((with_reducible refine gate_callee (f := 8) rfl ?_); refine goesL_ (some 90) rfl rfl Try.func8 (by kernel_rfl) rfl #[.int .i64 (wrap64 (t109 + 86400))] rfl mc ?_; (with_reducible refine (impl_DateAt.calls kj87 (wrap64 (t109 + 86400)) t142 t143 t144 t145 t146 t147 _ A99.out).mono ?_); rintro e w142 ⟨rfl, hb⟩; refine ⟨_, rfl, ?_⟩; replace BK108 := Aside0.mk (blk_below (g := gb108) (o := .cells #[.int .i64 t102, .int .i64 t103, .int .i64 t104, .int .i64 t105, .int .i64 t106, .int .i64 t107] 25 (0, 0)) bk hb); replace BK117 := Aside0.mk (blk_below (g := gb117) (o := .cells #[.int .i64 t111, .int .i64 t112, .int .i64 t113, .int .i64 t114, .int .i64 t115, .int .i64 t116] 25 (0, 0)) bk hb); replace HB := Aside0.mk (below_step bh hb); (try clear hb); (try clear hb2); (try clear hk); (try clear hi)) | ((with_reducible refine gate_dst (N := 7) rfl ?_); refine bx 7 #[.int .i64 0, .int .i64 0, .int .i64 0, .int .i64 0, .int .i64 0, .int .i64 0] 25 ?_; intro gb148 hg w143 hbox hb; have BK148 := Aside0.mk (hbox); have GW148 := Aside0.mk (bz hg); have GE148 := Aside0.mk (bz hg); have NB108_148 := Aside0.mk ((nl (o := .cells #[.int .i64 t102, .int .i64 t103, .int .i64 t104, .int .i64 t105, .int .i64 t106, .int .i64 t107] 25 (0, 0)) hg bk : gb108 ≠ gb148)); have NB148_108 := Aside0.mk ((ng (o := .cells #[.int .i64 t102, .int .i64 t103, .int .i64 t104, .int .i64 t105, .int .i64 t106, .int .i64 t107] 25 (0, 0)) hg bk : gb148 ≠ gb108)); have NB117_148 := Aside0.mk ((nl (o := .cells #[.int .i64 t111, .int .i64 t112, .int .i64 t113, .int .i64 t114, .int .i64 t115, .int .i64 t116] 25 (0, 0)) hg bk : gb117 ≠ gb148)); have NB148_117 := Aside0.mk ((ng (o := .cells #[.int .i64 t111, .int .i64 t112, .int .i64 t113, .int .i64 t114, .int .i64 t115, .int .i64 t116] 25 (0, 0)) hg bk : gb148 ≠ gb117)); replace BK108 := Aside0.mk (blk_below (g := gb108) (o := .cells #[.int .i64 t102, .int .i64 t103, .int .i64 t104, .int .i64 t105, .int .i64 t106, .int .i64 t107] 25 (0, 0)) bk hb); replace BK117 := Aside0.mk (blk_below (g := gb117) (o := .cells #[.int .i64 t111, .int .i64 t112, .int .i64 t113, .int .i64 t114, .int .i64 t115, .int .i64 t116] 25 (0, 0)) bk hb); replace HB := Aside0.mk (below_step bh hb); clear hb hbox hg; have hnb144 := NB148_108.out; have hnc144 := NB108_148.out; have hnb145 := NB148_117.out; have hnc145 := NB117_148.out; have hcz146_0 : w143.cell? ⟨gb148, 0, none⟩ = some (.int .i64 0) := bc BK148 0; have hcz146_1 : w143.cell? ⟨gb148, 1, none⟩ = some (.int .i64 0) := bc BK148 1; have hcz146_2 : w143.cell? ⟨gb148, 2, none⟩ = some (.int .i64 0) := bc BK148 2; have hcz146_3 : w143.cell? ⟨gb148, 3, none⟩ = some (.int .i64 0) := bc BK148 3; have hcz146_4 : w143.cell? ⟨gb148, 4, none⟩ = some (.int .i64 0) := bc BK148 4; have hcz146_5 : w143.cell? ⟨gb148, 5, none⟩ = some (.int .i64 0) := bc BK148 5; have hfz146_0 := blk_frozen BK148.out 0; have hfz146_1 := blk_frozen BK148.out 1; have hfz146_2 := blk_frozen BK148.out 2; have hfz146_3 := blk_frozen BK148.out 3; have hfz146_4 := blk_frozen BK148.out 4; have hfz146_5 := blk_frozen BK148.out 5; have hnb147 := NB108_117.out; have hnc147 := NB117_108.out; have hcz148_0 : w143.cell? ⟨gb108, 0, none⟩ = some (.int .i64 t102) := bc BK108 0; have hcz148_1 : w143.cell? ⟨gb108, 1, none⟩ = some (.int .i64 t103) := bc BK108 1; have hcz148_2 : w143.cell? ⟨gb108, 2, none⟩ = some (.int .i64 t104) := bc BK108 2; have hcz148_3 : w143.cell? ⟨gb108, 3, none⟩ = some (.int .i64 t105) := bc BK108 3; have hcz148_4 : w143.cell? ⟨gb108, 4, none⟩ = some (.int .i64 t106) := bc BK108 4; have hcz148_5 : w143.cell? ⟨gb108, 5, none⟩ = some (.int .i64 t107) := bc BK108 5; have hfz148_0 := blk_frozen BK108.out 0; have hfz148_1 := blk_frozen BK108.out 1; have hfz148_2 := blk_frozen BK108.out 2; have hfz148_3 := blk_frozen BK108.out 3; have hfz148_4 := blk_frozen BK108.out 4; have hfz148_5 := blk_frozen BK108.out 5))
                 have n0_ : Aside0 (((((((w143.setCell ⟨gb148, 0, none⟩ (.int .i64 t142)).setCell ⟨gb148, 1, none⟩ (.int .i64 t143)).setCell ⟨gb148, 2, none⟩ (.int .i64 t144)).setCell ⟨gb148, 3, none⟩ (.int .i64 t145)).setCell ⟨gb148, 4, none⟩ (.int .i64 t146)).setCell ⟨gb148, 5, none⟩ (.int .i64 t147)).heap[gb108]? = some (.cells #[.int .i64 t102, .int .i64 t103, .int .i64 t104, .int .i64 t105, .int .i64 t106, .int .i64 t107] 25 (0, 0))) := ⟨by (with_reducible repeat (first | refine blk_drewN ?_ _ | refine blk_drew ?_ | refine blk_alloc ?_ _)); refine blk_far ?_ NB108_148.out _; (with_reducible repeat (first | refine blk_drewN ?_ _ | refine blk_drew ?_ | refine blk_alloc ?_ _)); refine blk_far ?_ NB108_148.out _; (with_reducible repeat (first | refine blk_drewN ?_ _ | refine blk_drew ?_ | refine blk_alloc ?_ _)); refine blk_far ?_ NB108_148.out _; (with_reducible repeat (first | refine blk_drewN ?_ _ | refine blk_drew ?_ | refine blk_alloc ?_ _)); refine blk_far ?_ NB108_148.out _; (with_reducible repeat (first | refine blk_drewN ?_ _ | refine blk_drew ?_ | refine blk_alloc ?_ _)); refine blk_far ?_ NB108_148.out _; (with_reducible repeat (first | refine blk_drewN ?_ _ | refine blk_drew ?_ | refine blk_alloc ?_ _)); refine blk_far ?_ NB108_148.out _; (with_reducible repeat (first | refine blk_drewN ?_ _ | refine blk_drew ?_ | refine blk_alloc ?_ _)); exact BK108.out⟩
                 have n1_ : Aside0 (((((((w143.setCell ⟨gb148, 0, none⟩ (.int .i64 t142)).setCell ⟨gb148, 1, none⟩ (.int .i64 t143)).setCell ⟨gb148, 2, none⟩ (.int .i64 t144)).setCell ⟨gb148, 3, none⟩ (.int .i64 t145)).setCell ⟨gb148, 4, none⟩ (.int .i64 t146)).setCell ⟨gb148, 5, none⟩ (.int .i64 t147)).heap[gb117]? = some (.cells #[.int .i64 t111, .int .i64 t112, .int .i64 t113, .int .i64 t114, .int .i64 t115, .int .i64 t116] 25 (0, 0))) := ⟨by (with_reducible repeat (first | refine blk_drewN ?_ _ | refine blk_drew ?_ | refine blk_alloc ?_ _)); refine blk_far ?_ NB117_148.out _; (with_reducible repeat (first | refine blk_drewN ?_ _ | refine blk_drew ?_ | refine blk_alloc ?_ _)); refine blk_far ?_ NB117_148.out _; (with_reducible repeat (first | refine blk_drewN ?_ _ | refine blk_drew ?_ | refine blk_alloc ?_ _)); refine blk_far ?_ NB117_148.out _; (with_reducible repeat (first | refine blk_drewN ?_ _ | refine blk_drew ?_ | refine blk_alloc ?_ _)); refine blk_far ?_ NB117_148.out _; (with_reducible repeat (first | refine blk_drewN ?_ _ | refine blk_drew ?_ | refine blk_alloc ?_ _)); refine blk_far ?_ NB117_148.out _; (with_reducible repeat (first | refine blk_drewN ?_ _ | refine blk_drew ?_ | refine blk_alloc ?_ _)); refine blk_far ?_ NB117_148.out _; (with_reducible repeat (first | refine blk_drewN ?_ _ | refine blk_drew ?_ | refine blk_alloc ?_ _)); exact BK117.out⟩
                 have n2_ : Aside0 (((((((w143.setCell ⟨gb148, 0, none⟩ (.int .i64 t142)).setCell ⟨gb148, 1, none⟩ (.int .i64 t143)).setCell ⟨gb148, 2, none⟩ (.int .i64 t144)).setCell ⟨gb148, 3, none⟩ (.int .i64 t145)).setCell ⟨gb148, 4, none⟩ (.int .i64 t146)).setCell ⟨gb148, 5, none⟩ (.int .i64 t147)).heap[gb148]? = some (.cells #[.int .i64 t142, .int .i64 t143, .int .i64 t144, .int .i64 t145, .int .i64 t146, .int .i64 t147] 25 (0, 0))) := ⟨by (with_reducible repeat (first | refine blk_drewN ?_ _ | refine blk_drew ?_ | refine blk_alloc ?_ _)); refine blk_put (cs := #[.int .i64 t142, .int .i64 t143, .int .i64 t144, .int .i64 t145, .int .i64 t146, .int .i64 0]) ?_ 5 _ rfl; (with_reducible repeat (first | refine blk_drewN ?_ _ | refine blk_drew ?_ | refine blk_alloc ?_ _)); refine blk_put (cs := #[.int .i64 t142, .int .i64 t143, .int .i64 t144, .int .i64 t145, .int .i64 0, .int .i64 0]) ?_ 4 _ rfl; (with_reducible repeat (first | refine blk_drewN ?_ _ | refine blk_drew ?_ | refine blk_alloc ?_ _)); refine blk_put (cs := #[.int .i64 t142, .int .i64 t143, .int .i64 t144, .int .i64 0, .int .i64 0, .int .i64 0]) ?_ 3 _ rfl; (with_reducible repeat (first | refine blk_drewN ?_ _ | refine blk_drew ?_ | refine blk_alloc ?_ _)); refine blk_put (cs := #[.int .i64 t142, .int .i64 t143, .int .i64 0, .int .i64 0, .int .i64 0, .int .i64 0]) ?_ 2 _ rfl; (with_reducible repeat (first | refine blk_drewN ?_ _ | refine blk_drew ?_ | refine blk_alloc ?_ _)); refine blk_put (cs := #[.int .i64 t142, .int .i64 0, .int .i64 0, .int .i64 0, .int .i64 0, .int .i64 0]) ?_ 1 _ rfl; (with_reducible repeat (first | refine blk_drewN ?_ _ | refine blk_drew ?_ | refine blk_alloc ?_ _)); refine blk_put (cs := #[.int .i64 0, .int .i64 0, .int .i64 0, .int .i64 0, .int .i64 0, .int .i64 0]) ?_ 0 _ rfl; (with_reducible repeat (first | refine blk_drewN ?_ _ | refine blk_drew ?_ | refine blk_alloc ?_ _)); exact BK148.out⟩
                 have n3_ : Aside0 (Below w.heap.size w ((((((w143.setCell ⟨gb148, 0, none⟩ (.int .i64 t142)).setCell ⟨gb148, 1, none⟩ (.int .i64 t143)).setCell ⟨gb148, 2, none⟩ (.int .i64 t144)).setCell ⟨gb148, 3, none⟩ (.int .i64 t145)).setCell ⟨gb148, 4, none⟩ (.int .i64 t146)).setCell ⟨gb148, 5, none⟩ (.int .i64 t147))) := ⟨bh⟩
                 (try clear BK108)
                 (try clear BK117)
                 (try clear BK148)
                 (try clear HB)
                 generalize ((((((w143.setCell ⟨gb148, 0, none⟩ (.int .i64 t142)).setCell ⟨gb148, 1, none⟩ (.int .i64 t143)).setCell ⟨gb148, 2, none⟩ (.int .i64 t144)).setCell ⟨gb148, 3, none⟩ (.int .i64 t145)).setCell ⟨gb148, 4, none⟩ (.int .i64 t146)).setCell ⟨gb148, 5, none⟩ (.int .i64 t147)) = w149 at n0_ n1_ n2_ n3_ ⊢
                 have BK108 := n0_
                 have BK117 := n1_
                 have BK148 := n2_
                 have HB := n3_
                 clear n0_ n1_ n2_ n3_
                 replace BK108 := Aside0.mk (blk_drew BK108.out)
                 replace BK117 := Aside0.mk (blk_drew BK117.out)
                 replace BK148 := Aside0.mk (blk_drew BK148.out)
                 replace HB := Aside0.mk (below_drew1 HB.out)
                 refine start_ (n := 18) (S := fun w' => w'.cell? ⟨gb148, 0, none⟩ = some (.int .i64 t142) ∧ w'.cell? ⟨gb148, 1, none⟩ = some (.int .i64 t143) ∧ w'.cell? ⟨gb148, 2, none⟩ = some (.int .i64 t144) ∧ w'.cell? ⟨gb148, 3, none⟩ = some (.int .i64 t145) ∧ w'.cell? ⟨gb148, 4, none⟩ = some (.int .i64 t146) ∧ w'.cell? ⟨gb148, 5, none⟩ = some (.int .i64 t147) ∧ w'.cell? ⟨gb108, 0, none⟩ = some (.int .i64 t102) ∧ w'.cell? ⟨gb108, 1, none⟩ = some (.int .i64 t103) ∧ w'.cell? ⟨gb108, 2, none⟩ = some (.int .i64 t104) ∧ w'.cell? ⟨gb108, 3, none⟩ = some (.int .i64 t105) ∧ w'.cell? ⟨gb108, 4, none⟩ = some (.int .i64 t106) ∧ w'.cell? ⟨gb108, 5, none⟩ = some (.int .i64 t107)) (ds := []) laws_FnDates.d51 (by kernel_rfl) rfl rfl ⟨bc BK148 0, bc BK148 1, bc BK148 2, bc BK148 3, bc BK148 4, bc BK148 5, bc BK108 0, bc BK108 1, bc BK108 2, bc BK108 3, bc BK108 4, bc BK108 5⟩ (fun hHeld => ?_); refine with_tabW laws_FnDates.tab19 laws_FnDates.bits19 (fun HT_ HW_ => ?_)
                 generalize w149.drew = w150 at BK108 BK117 BK148 HB hHeld ⊢
                 refine pu 0 125 laws_FnDates.d52 HT_ ?_
                 refine pu 1 126 laws_FnDates.d53 HT_ ?_
                 refine tk 2 127 laws_FnDates.d54 HT_ HW_ hHeld ?_
                 refine tk 4 129 laws_FnDates.d55 HT_ HW_ hHeld ?_
                 refine onx 3 128 laws_FnDates.d56 HT_ (fun K hK => ?_)
                 refine gs Try.func13 #[.agg #[.int .i64 t142, .int .i64 t143, .int .i64 t144, .int .i64 t145, .int .i64 t146, .int .i64 t147]] ?_
                 with_reducible refine (impl_Weekday.calls kj87 t142 t143 t144 t145 t146 t147 t151 _ A128.out).mono ?_
                 rintro e w151 ⟨rfl, hb⟩
                 refine ⟨_, rfl, ?_⟩
                 replace BK108 := Aside0.mk (blk_below (g := gb108) (o := .cells #[.int .i64 t102, .int .i64 t103, .int .i64 t104, .int .i64 t105, .int .i64 t106, .int .i64 t107] 25 (0, 0)) bk hb)
                 replace BK117 := Aside0.mk (blk_below (g := gb117) (o := .cells #[.int .i64 t111, .int .i64 t112, .int .i64 t113, .int .i64 t114, .int .i64 t115, .int .i64 t116] 25 (0, 0)) bk hb)
                 replace BK148 := Aside0.mk (blk_below (g := gb148) (o := .cells #[.int .i64 t142, .int .i64 t143, .int .i64 t144, .int .i64 t145, .int .i64 t146, .int .i64 t147] 25 (0, 0)) bk hb)
                 replace HB := Aside0.mk (below_step bh hb)
                 (try clear hb)
                 (try clear hb2)
                 (try clear hk)
                 (try clear hi)
                 refine hK.out _ _ ⟨bc BK148 0, bc BK148 1, bc BK148 2, bc BK148 3, bc BK148 4, bc BK148 5, bc BK108 0, bc BK108 1, bc BK108 2, bc BK108 3, bc BK108 4, bc BK108 5⟩ (fun hHeld => ?_)
                 clear hK K
                 refine nm 128 ?_
                 refine onx 5 130 laws_FnDates.d57 HT_ (fun K hK => ?_)
                 refine gs Try.func13 #[.agg #[.int .i64 t102, .int .i64 t103, .int .i64 t104, .int .i64 t105, .int .i64 t106, .int .i64 t107]] ?_
                 with_reducible refine (impl_Weekday.calls kj87 t102 t103 t104 t105 t106 t107 t152 _ A129.out).mono ?_
                 rintro e w152 ⟨rfl, hb⟩
                 refine ⟨_, rfl, ?_⟩
                 replace BK108 := Aside0.mk (blk_below (g := gb108) (o := .cells #[.int .i64 t102, .int .i64 t103, .int .i64 t104, .int .i64 t105, .int .i64 t106, .int .i64 t107] 25 (0, 0)) bk hb)
                 replace BK117 := Aside0.mk (blk_below (g := gb117) (o := .cells #[.int .i64 t111, .int .i64 t112, .int .i64 t113, .int .i64 t114, .int .i64 t115, .int .i64 t116] 25 (0, 0)) bk hb)
                 replace BK148 := Aside0.mk (blk_below (g := gb148) (o := .cells #[.int .i64 t142, .int .i64 t143, .int .i64 t144, .int .i64 t145, .int .i64 t146, .int .i64 t147] 25 (0, 0)) bk hb)
                 replace HB := Aside0.mk (below_step bh hb)
                 (try clear hb)
                 (try clear hb2)
                 (try clear hk)
                 (try clear hi)
                 refine hK.out _ _ ⟨bc BK148 0, bc BK148 1, bc BK148 2, bc BK148 3, bc BK148 4, bc BK148 5, bc BK108 0, bc BK108 1, bc BK108 2, bc BK108 3, bc BK108 4, bc BK108 5⟩ (fun hHeld => ?_)
                 clear hK K
                 refine nm 130 ?_
                 refine pu 6 131 laws_FnDates.d58 HT_ ?_
                 refine pu 7 132 laws_FnDates.d59 HT_ ?_
                 refine pu 8 133 laws_FnDates.d60 HT_ ?_
                 refine pu 9 134 laws_FnDates.d61 HT_ ?_
                 refine pu 10 135 laws_FnDates.d62 HT_ ?_
                 refine un 11 136 laws_FnDates.d63 HT_ ?_
                 refine un 12 137 laws_FnDates.d70 HT_ ?_
                 refine un 13 138 laws_FnDates.d65 HT_ ?_
                 refine un 14 139 laws_FnDates.d66 HT_ ?_
                 refine un 15 140 laws_FnDates.d67 HT_ ?_
                 refine pu 16 141 laws_FnDates.d68 HT_ ?_
                 refine pu 17 2 laws_FnDates.d69 HT_ ?_
                 refine dn HT_ ?_
                 try go_wp2
                 go_ret
                 exact ⟨er, bh⟩
               ·
                rw [if_neg c127] at H
                have c127b0 : decide (t103 < t143) = false := decide_eq_false c127
                clear c127
                by_cases c153 : t143 = t103
                ·
                 rw [if_pos c153] at H
                 have c153b0 : (t143 == t103) = true := beq_iff_eq.mpr c153
                 have c153b1 : (t143 != t103) = false := bne_eq_false_iff_eq.mpr c153
                 clear c153
                 by_cases c154 : t144 = (wrap64 (t104 + 1))
                 ·
                  rw [if_pos c154] at H
                  have c154b0 : (t144 == (wrap64 (t104 + 1))) = true := beq_iff_eq.mpr c154
                  have c154b1 : (t144 != (wrap64 (t104 + 1))) = false := bne_eq_false_iff_eq.mpr c154
                  clear c154
                  obtain ⟨t153, A1550, H⟩ := Option.bind_eq_some_iff.mp H
                  try dsimp only at H
                  have A155 := Aside0.mk A1550
                  clear A1550
                  obtain ⟨t154, A1560, H⟩ := Option.bind_eq_some_iff.mp H
                  try dsimp only at H
                  have A156 := Aside0.mk A1560
                  clear A1560
                  by_cases c157 : t153 = (Int.tmod (wrap64 (t154 + 1)) 7)
                  ·
                   rw [if_pos c157] at H
                   have c157b0 : (t153 == (Int.tmod (wrap64 (t154 + 1)) 7)) = true := beq_iff_eq.mpr c157
                   have c157b1 : (t153 != (Int.tmod (wrap64 (t154 + 1)) 7)) = false := bne_eq_false_iff_eq.mpr c157
                   clear c157
                   obtain rfl := Option.some.inj H
                   try go_wp2_with (first | ((with_reducible refine gate_callee (f := 8) rfl ?_); refine goesL_ (some 90) rfl rfl Try.func8 (by kernel_rfl) rfl #[.int .i64 (wrap64 (t109 + 86400))] rfl mc ?_; (with_reducible refine (impl_DateAt.calls kj87 (wrap64 (t109 + 86400)) t142 t143 t144 t145 t146 t147 _ A99.out).mono ?_); rintro e w158 ⟨rfl, hb⟩; refine ⟨_, rfl, ?_⟩; replace BK108 := Aside0.mk (blk_below (g := gb108) (o := .cells #[.int .i64 t102, .int .i64 t103, .int .i64 t104, .int .i64 t105, .int .i64 t106, .int .i64 t107] 25 (0, 0)) bk hb); replace BK117 := Aside0.mk (blk_below (g := gb117) (o := .cells #[.int .i64 t111, .int .i64 t112, .int .i64 t113, .int .i64 t114, .int .i64 t115, .int .i64 t116] 25 (0, 0)) bk hb); replace HB := Aside0.mk (below_step bh hb); (try clear hb); (try clear hb2); (try clear hk); (try clear hi)) | ((with_reducible refine gate_dst (N := 7) rfl ?_); refine bx 7 #[.int .i64 0, .int .i64 0, .int .i64 0, .int .i64 0, .int .i64 0, .int .i64 0] 25 ?_; intro gb148 hg w159 hbox hb; have BK148 := Aside0.mk (hbox); have GW148 := Aside0.mk (bz hg); have GE148 := Aside0.mk (bz hg); have NB108_148 := Aside0.mk ((nl (o := .cells #[.int .i64 t102, .int .i64 t103, .int .i64 t104, .int .i64 t105, .int .i64 t106, .int .i64 t107] 25 (0, 0)) hg bk : gb108 ≠ gb148)); have NB148_108 := Aside0.mk ((ng (o := .cells #[.int .i64 t102, .int .i64 t103, .int .i64 t104, .int .i64 t105, .int .i64 t106, .int .i64 t107] 25 (0, 0)) hg bk : gb148 ≠ gb108)); have NB117_148 := Aside0.mk ((nl (o := .cells #[.int .i64 t111, .int .i64 t112, .int .i64 t113, .int .i64 t114, .int .i64 t115, .int .i64 t116] 25 (0, 0)) hg bk : gb117 ≠ gb148)); have NB148_117 := Aside0.mk ((ng (o := .cells #[.int .i64 t111, .int .i64 t112, .int .i64 t113, .int .i64 t114, .int .i64 t115, .int .i64 t116] 25 (0, 0)) hg bk : gb148 ≠ gb117)); replace BK108 := Aside0.mk (blk_below (g := gb108) (o := .cells #[.int .i64 t102, .int .i64 t103, .int .i64 t104, .int .i64 t105, .int .i64 t106, .int .i64 t107] 25 (0, 0)) bk hb); replace BK117 := Aside0.mk (blk_below (g := gb117) (o := .cells #[.int .i64 t111, .int .i64 t112, .int .i64 t113, .int .i64 t114, .int .i64 t115, .int .i64 t116] 25 (0, 0)) bk hb); replace HB := Aside0.mk (below_step bh hb); clear hb hbox hg; have hnb160 := NB148_108.out; have hnc160 := NB108_148.out; have hnb161 := NB148_117.out; have hnc161 := NB117_148.out; have hcz162_0 : w159.cell? ⟨gb148, 0, none⟩ = some (.int .i64 0) := bc BK148 0; have hcz162_1 : w159.cell? ⟨gb148, 1, none⟩ = some (.int .i64 0) := bc BK148 1; have hcz162_2 : w159.cell? ⟨gb148, 2, none⟩ = some (.int .i64 0) := bc BK148 2; have hcz162_3 : w159.cell? ⟨gb148, 3, none⟩ = some (.int .i64 0) := bc BK148 3; have hcz162_4 : w159.cell? ⟨gb148, 4, none⟩ = some (.int .i64 0) := bc BK148 4; have hcz162_5 : w159.cell? ⟨gb148, 5, none⟩ = some (.int .i64 0) := bc BK148 5; have hfz162_0 := blk_frozen BK148.out 0; have hfz162_1 := blk_frozen BK148.out 1; have hfz162_2 := blk_frozen BK148.out 2; have hfz162_3 := blk_frozen BK148.out 3; have hfz162_4 := blk_frozen BK148.out 4; have hfz162_5 := blk_frozen BK148.out 5; have hnb163 := NB108_117.out; have hnc163 := NB117_108.out; have hcz164_0 : w159.cell? ⟨gb108, 0, none⟩ = some (.int .i64 t102) := bc BK108 0; have hcz164_1 : w159.cell? ⟨gb108, 1, none⟩ = some (.int .i64 t103) := bc BK108 1; have hcz164_2 : w159.cell? ⟨gb108, 2, none⟩ = some (.int .i64 t104) := bc BK108 2; have hcz164_3 : w159.cell? ⟨gb108, 3, none⟩ = some (.int .i64 t105) := bc BK108 3; have hcz164_4 : w159.cell? ⟨gb108, 4, none⟩ = some (.int .i64 t106) := bc BK108 4; have hcz164_5 : w159.cell? ⟨gb108, 5, none⟩ = some (.int .i64 t107) := bc BK108 5; have hfz164_0 := blk_frozen BK108.out 0; have hfz164_1 := blk_frozen BK108.out 1; have hfz164_2 := blk_frozen BK108.out 2; have hfz164_3 := blk_frozen BK108.out 3; have hfz164_4 := blk_frozen BK108.out 4; have hfz164_5 := blk_frozen BK108.out 5))
                   have n0_ : Aside0 (((((((w159.setCell ⟨gb148, 0, none⟩ (.int .i64 t142)).setCell ⟨gb148, 1, none⟩ (.int .i64 t143)).setCell ⟨gb148, 2, none⟩ (.int .i64 t144)).setCell ⟨gb148, 3, none⟩ (.int .i64 t145)).setCell ⟨gb148, 4, none⟩ (.int .i64 t146)).setCell ⟨gb148, 5, none⟩ (.int .i64 t147)).heap[gb108]? = some (.cells #[.int .i64 t102, .int .i64 t103, .int .i64 t104, .int .i64 t105, .int .i64 t106, .int .i64 t107] 25 (0, 0))) := ⟨by (with_reducible repeat (first | refine blk_drewN ?_ _ | refine blk_drew ?_ | refine blk_alloc ?_ _)); refine blk_far ?_ NB108_148.out _; (with_reducible repeat (first | refine blk_drewN ?_ _ | refine blk_drew ?_ | refine blk_alloc ?_ _)); refine blk_far ?_ NB108_148.out _; (with_reducible repeat (first | refine blk_drewN ?_ _ | refine blk_drew ?_ | refine blk_alloc ?_ _)); refine blk_far ?_ NB108_148.out _; (with_reducible repeat (first | refine blk_drewN ?_ _ | refine blk_drew ?_ | refine blk_alloc ?_ _)); refine blk_far ?_ NB108_148.out _; (with_reducible repeat (first | refine blk_drewN ?_ _ | refine blk_drew ?_ | refine blk_alloc ?_ _)); refine blk_far ?_ NB108_148.out _; (with_reducible repeat (first | refine blk_drewN ?_ _ | refine blk_drew ?_ | refine blk_alloc ?_ _)); refine blk_far ?_ NB108_148.out _; (with_reducible repeat (first | refine blk_drewN ?_ _ | refine blk_drew ?_ | refine blk_alloc ?_ _)); exact BK108.out⟩
                   have n1_ : Aside0 (((((((w159.setCell ⟨gb148, 0, none⟩ (.int .i64 t142)).setCell ⟨gb148, 1, none⟩ (.int .i64 t143)).setCell ⟨gb148, 2, none⟩ (.int .i64 t144)).setCell ⟨gb148, 3, none⟩ (.int .i64 t145)).setCell ⟨gb148, 4, none⟩ (.int .i64 t146)).setCell ⟨gb148, 5, none⟩ (.int .i64 t147)).heap[gb117]? = some (.cells #[.int .i64 t111, .int .i64 t112, .int .i64 t113, .int .i64 t114, .int .i64 t115, .int .i64 t116] 25 (0, 0))) := ⟨by (with_reducible repeat (first | refine blk_drewN ?_ _ | refine blk_drew ?_ | refine blk_alloc ?_ _)); refine blk_far ?_ NB117_148.out _; (with_reducible repeat (first | refine blk_drewN ?_ _ | refine blk_drew ?_ | refine blk_alloc ?_ _)); refine blk_far ?_ NB117_148.out _; (with_reducible repeat (first | refine blk_drewN ?_ _ | refine blk_drew ?_ | refine blk_alloc ?_ _)); refine blk_far ?_ NB117_148.out _; (with_reducible repeat (first | refine blk_drewN ?_ _ | refine blk_drew ?_ | refine blk_alloc ?_ _)); refine blk_far ?_ NB117_148.out _; (with_reducible repeat (first | refine blk_drewN ?_ _ | refine blk_drew ?_ | refine blk_alloc ?_ _)); refine blk_far ?_ NB117_148.out _; (with_reducible repeat (first | refine blk_drewN ?_ _ | refine blk_drew ?_ | refine blk_alloc ?_ _)); refine blk_far ?_ NB117_148.out _; (with_reducible repeat (first | refine blk_drewN ?_ _ | refine blk_drew ?_ | refine blk_alloc ?_ _)); exact BK117.out⟩
                   have n2_ : Aside0 (((((((w159.setCell ⟨gb148, 0, none⟩ (.int .i64 t142)).setCell ⟨gb148, 1, none⟩ (.int .i64 t143)).setCell ⟨gb148, 2, none⟩ (.int .i64 t144)).setCell ⟨gb148, 3, none⟩ (.int .i64 t145)).setCell ⟨gb148, 4, none⟩ (.int .i64 t146)).setCell ⟨gb148, 5, none⟩ (.int .i64 t147)).heap[gb148]? = some (.cells #[.int .i64 t142, .int .i64 t143, .int .i64 t144, .int .i64 t145, .int .i64 t146, .int .i64 t147] 25 (0, 0))) := ⟨by (with_reducible repeat (first | refine blk_drewN ?_ _ | refine blk_drew ?_ | refine blk_alloc ?_ _)); refine blk_put (cs := #[.int .i64 t142, .int .i64 t143, .int .i64 t144, .int .i64 t145, .int .i64 t146, .int .i64 0]) ?_ 5 _ rfl; (with_reducible repeat (first | refine blk_drewN ?_ _ | refine blk_drew ?_ | refine blk_alloc ?_ _)); refine blk_put (cs := #[.int .i64 t142, .int .i64 t143, .int .i64 t144, .int .i64 t145, .int .i64 0, .int .i64 0]) ?_ 4 _ rfl; (with_reducible repeat (first | refine blk_drewN ?_ _ | refine blk_drew ?_ | refine blk_alloc ?_ _)); refine blk_put (cs := #[.int .i64 t142, .int .i64 t143, .int .i64 t144, .int .i64 0, .int .i64 0, .int .i64 0]) ?_ 3 _ rfl; (with_reducible repeat (first | refine blk_drewN ?_ _ | refine blk_drew ?_ | refine blk_alloc ?_ _)); refine blk_put (cs := #[.int .i64 t142, .int .i64 t143, .int .i64 0, .int .i64 0, .int .i64 0, .int .i64 0]) ?_ 2 _ rfl; (with_reducible repeat (first | refine blk_drewN ?_ _ | refine blk_drew ?_ | refine blk_alloc ?_ _)); refine blk_put (cs := #[.int .i64 t142, .int .i64 0, .int .i64 0, .int .i64 0, .int .i64 0, .int .i64 0]) ?_ 1 _ rfl; (with_reducible repeat (first | refine blk_drewN ?_ _ | refine blk_drew ?_ | refine blk_alloc ?_ _)); refine blk_put (cs := #[.int .i64 0, .int .i64 0, .int .i64 0, .int .i64 0, .int .i64 0, .int .i64 0]) ?_ 0 _ rfl; (with_reducible repeat (first | refine blk_drewN ?_ _ | refine blk_drew ?_ | refine blk_alloc ?_ _)); exact BK148.out⟩
                   have n3_ : Aside0 (Below w.heap.size w ((((((w159.setCell ⟨gb148, 0, none⟩ (.int .i64 t142)).setCell ⟨gb148, 1, none⟩ (.int .i64 t143)).setCell ⟨gb148, 2, none⟩ (.int .i64 t144)).setCell ⟨gb148, 3, none⟩ (.int .i64 t145)).setCell ⟨gb148, 4, none⟩ (.int .i64 t146)).setCell ⟨gb148, 5, none⟩ (.int .i64 t147))) := ⟨bh⟩
                   (try clear BK108)
                   (try clear BK117)
                   (try clear BK148)
                   (try clear HB)
                   generalize ((((((w159.setCell ⟨gb148, 0, none⟩ (.int .i64 t142)).setCell ⟨gb148, 1, none⟩ (.int .i64 t143)).setCell ⟨gb148, 2, none⟩ (.int .i64 t144)).setCell ⟨gb148, 3, none⟩ (.int .i64 t145)).setCell ⟨gb148, 4, none⟩ (.int .i64 t146)).setCell ⟨gb148, 5, none⟩ (.int .i64 t147)) = w165 at n0_ n1_ n2_ n3_ ⊢
                   have BK108 := n0_
                   have BK117 := n1_
                   have BK148 := n2_
                   have HB := n3_
                   clear n0_ n1_ n2_ n3_
                   replace BK108 := Aside0.mk (blk_drew BK108.out)
                   replace BK117 := Aside0.mk (blk_drew BK117.out)
                   replace BK148 := Aside0.mk (blk_drew BK148.out)
                   replace HB := Aside0.mk (below_drew1 HB.out)
                   refine start_ (n := 18) (S := fun w' => w'.cell? ⟨gb148, 0, none⟩ = some (.int .i64 t142) ∧ w'.cell? ⟨gb148, 1, none⟩ = some (.int .i64 t143) ∧ w'.cell? ⟨gb148, 2, none⟩ = some (.int .i64 t144) ∧ w'.cell? ⟨gb148, 3, none⟩ = some (.int .i64 t145) ∧ w'.cell? ⟨gb148, 4, none⟩ = some (.int .i64 t146) ∧ w'.cell? ⟨gb148, 5, none⟩ = some (.int .i64 t147) ∧ w'.cell? ⟨gb108, 0, none⟩ = some (.int .i64 t102) ∧ w'.cell? ⟨gb108, 1, none⟩ = some (.int .i64 t103) ∧ w'.cell? ⟨gb108, 2, none⟩ = some (.int .i64 t104) ∧ w'.cell? ⟨gb108, 3, none⟩ = some (.int .i64 t105) ∧ w'.cell? ⟨gb108, 4, none⟩ = some (.int .i64 t106) ∧ w'.cell? ⟨gb108, 5, none⟩ = some (.int .i64 t107)) (ds := []) laws_FnDates.d51 (by kernel_rfl) rfl rfl ⟨bc BK148 0, bc BK148 1, bc BK148 2, bc BK148 3, bc BK148 4, bc BK148 5, bc BK108 0, bc BK108 1, bc BK108 2, bc BK108 3, bc BK108 4, bc BK108 5⟩ (fun hHeld => ?_); refine with_tabW laws_FnDates.tab19 laws_FnDates.bits19 (fun HT_ HW_ => ?_)
                   generalize w165.drew = w166 at BK108 BK117 BK148 HB hHeld ⊢
                   refine pu 0 125 laws_FnDates.d52 HT_ ?_
                   refine pu 1 126 laws_FnDates.d53 HT_ ?_
                   refine tk 2 127 laws_FnDates.d54 HT_ HW_ hHeld ?_
                   refine tk 4 129 laws_FnDates.d55 HT_ HW_ hHeld ?_
                   refine onx 3 128 laws_FnDates.d56 HT_ (fun K hK => ?_)
                   refine gs Try.func13 #[.agg #[.int .i64 t142, .int .i64 t143, .int .i64 t144, .int .i64 t145, .int .i64 t146, .int .i64 t147]] ?_
                   with_reducible refine (impl_Weekday.calls kj87 t142 t143 t144 t145 t146 t147 t153 _ A155.out).mono ?_
                   rintro e w167 ⟨rfl, hb⟩
                   refine ⟨_, rfl, ?_⟩
                   replace BK108 := Aside0.mk (blk_below (g := gb108) (o := .cells #[.int .i64 t102, .int .i64 t103, .int .i64 t104, .int .i64 t105, .int .i64 t106, .int .i64 t107] 25 (0, 0)) bk hb)
                   replace BK117 := Aside0.mk (blk_below (g := gb117) (o := .cells #[.int .i64 t111, .int .i64 t112, .int .i64 t113, .int .i64 t114, .int .i64 t115, .int .i64 t116] 25 (0, 0)) bk hb)
                   replace BK148 := Aside0.mk (blk_below (g := gb148) (o := .cells #[.int .i64 t142, .int .i64 t143, .int .i64 t144, .int .i64 t145, .int .i64 t146, .int .i64 t147] 25 (0, 0)) bk hb)
                   replace HB := Aside0.mk (below_step bh hb)
                   (try clear hb)
                   (try clear hb2)
                   (try clear hk)
                   (try clear hi)
                   refine hK.out _ _ ⟨bc BK148 0, bc BK148 1, bc BK148 2, bc BK148 3, bc BK148 4, bc BK148 5, bc BK108 0, bc BK108 1, bc BK108 2, bc BK108 3, bc BK108 4, bc BK108 5⟩ (fun hHeld => ?_)
                   clear hK K
                   refine nm 128 ?_
                   refine onx 5 130 laws_FnDates.d57 HT_ (fun K hK => ?_)
                   refine gs Try.func13 #[.agg #[.int .i64 t102, .int .i64 t103, .int .i64 t104, .int .i64 t105, .int .i64 t106, .int .i64 t107]] ?_
                   with_reducible refine (impl_Weekday.calls kj87 t102 t103 t104 t105 t106 t107 t154 _ A156.out).mono ?_
                   rintro e w168 ⟨rfl, hb⟩
                   refine ⟨_, rfl, ?_⟩
                   replace BK108 := Aside0.mk (blk_below (g := gb108) (o := .cells #[.int .i64 t102, .int .i64 t103, .int .i64 t104, .int .i64 t105, .int .i64 t106, .int .i64 t107] 25 (0, 0)) bk hb)
                   replace BK117 := Aside0.mk (blk_below (g := gb117) (o := .cells #[.int .i64 t111, .int .i64 t112, .int .i64 t113, .int .i64 t114, .int .i64 t115, .int .i64 t116] 25 (0, 0)) bk hb)
                   replace BK148 := Aside0.mk (blk_below (g := gb148) (o := .cells #[.int .i64 t142, .int .i64 t143, .int .i64 t144, .int .i64 t145, .int .i64 t146, .int .i64 t147] 25 (0, 0)) bk hb)
                   replace HB := Aside0.mk (below_step bh hb)
                   (try clear hb)
                   (try clear hb2)
                   (try clear hk)
                   (try clear hi)
                   refine hK.out _ _ ⟨bc BK148 0, bc BK148 1, bc BK148 2, bc BK148 3, bc BK148 4, bc BK148 5, bc BK108 0, bc BK108 1, bc BK108 2, bc BK108 3, bc BK108 4, bc BK108 5⟩ (fun hHeld => ?_)
                   clear hK K
                   refine nm 130 ?_
                   refine pu 6 131 laws_FnDates.d58 HT_ ?_
                   refine pu 7 132 laws_FnDates.d59 HT_ ?_
                   refine pu 8 133 laws_FnDates.d60 HT_ ?_
                   refine pu 9 134 laws_FnDates.d61 HT_ ?_
                   refine pu 10 135 laws_FnDates.d62 HT_ ?_
                   refine pu 11 136 laws_FnDates.d63 HT_ ?_
                   refine pu 13 138 laws_FnDates.d64 HT_ ?_
                   refine tk 12 137 laws_FnDates.d65 HT_ HW_ hHeld ?_
                   refine tk 14 139 laws_FnDates.d66 HT_ HW_ hHeld ?_
                   refine pu 15 140 laws_FnDates.d67 HT_ ?_
                   refine pu 16 141 laws_FnDates.d68 HT_ ?_
                   refine pu 17 2 laws_FnDates.d69 HT_ ?_
                   refine dn HT_ ?_
                   try go_wp2
                   go_ret
                   exact ⟨er, bh⟩
                  ·
                   rw [if_neg c157] at H
                   have c157b0 : (t153 == (Int.tmod (wrap64 (t154 + 1)) 7)) = false := beq_eq_false_iff_ne.mpr c157
                   have c157b1 : (t153 != (Int.tmod (wrap64 (t154 + 1)) 7)) = true := bne_iff_ne.mpr c157
                   obtain rfl := Option.some.inj H
                   try go_wp2_with (first | ((with_reducible refine gate_callee (f := 8) rfl ?_); refine goesL_ (some 90) rfl rfl Try.func8 (by kernel_rfl) rfl #[.int .i64 (wrap64 (t109 + 86400))] rfl mc ?_; (with_reducible refine (impl_DateAt.calls kj87 (wrap64 (t109 + 86400)) t142 t143 t144 t145 t146 t147 _ A99.out).mono ?_); rintro e w169 ⟨rfl, hb⟩; refine ⟨_, rfl, ?_⟩; replace BK108 := Aside0.mk (blk_below (g := gb108) (o := .cells #[.int .i64 t102, .int .i64 t103, .int .i64 t104, .int .i64 t105, .int .i64 t106, .int .i64 t107] 25 (0, 0)) bk hb); replace BK117 := Aside0.mk (blk_below (g := gb117) (o := .cells #[.int .i64 t111, .int .i64 t112, .int .i64 t113, .int .i64 t114, .int .i64 t115, .int .i64 t116] 25 (0, 0)) bk hb); replace HB := Aside0.mk (below_step bh hb); (try clear hb); (try clear hb2); (try clear hk); (try clear hi)) | ((with_reducible refine gate_dst (N := 7) rfl ?_); refine bx 7 #[.int .i64 0, .int .i64 0, .int .i64 0, .int .i64 0, .int .i64 0, .int .i64 0] 25 ?_; intro gb148 hg w170 hbox hb; have BK148 := Aside0.mk (hbox); have GW148 := Aside0.mk (bz hg); have GE148 := Aside0.mk (bz hg); have NB108_148 := Aside0.mk ((nl (o := .cells #[.int .i64 t102, .int .i64 t103, .int .i64 t104, .int .i64 t105, .int .i64 t106, .int .i64 t107] 25 (0, 0)) hg bk : gb108 ≠ gb148)); have NB148_108 := Aside0.mk ((ng (o := .cells #[.int .i64 t102, .int .i64 t103, .int .i64 t104, .int .i64 t105, .int .i64 t106, .int .i64 t107] 25 (0, 0)) hg bk : gb148 ≠ gb108)); have NB117_148 := Aside0.mk ((nl (o := .cells #[.int .i64 t111, .int .i64 t112, .int .i64 t113, .int .i64 t114, .int .i64 t115, .int .i64 t116] 25 (0, 0)) hg bk : gb117 ≠ gb148)); have NB148_117 := Aside0.mk ((ng (o := .cells #[.int .i64 t111, .int .i64 t112, .int .i64 t113, .int .i64 t114, .int .i64 t115, .int .i64 t116] 25 (0, 0)) hg bk : gb148 ≠ gb117)); replace BK108 := Aside0.mk (blk_below (g := gb108) (o := .cells #[.int .i64 t102, .int .i64 t103, .int .i64 t104, .int .i64 t105, .int .i64 t106, .int .i64 t107] 25 (0, 0)) bk hb); replace BK117 := Aside0.mk (blk_below (g := gb117) (o := .cells #[.int .i64 t111, .int .i64 t112, .int .i64 t113, .int .i64 t114, .int .i64 t115, .int .i64 t116] 25 (0, 0)) bk hb); replace HB := Aside0.mk (below_step bh hb); clear hb hbox hg; have hnb171 := NB148_108.out; have hnc171 := NB108_148.out; have hnb172 := NB148_117.out; have hnc172 := NB117_148.out; have hcz173_0 : w170.cell? ⟨gb148, 0, none⟩ = some (.int .i64 0) := bc BK148 0; have hcz173_1 : w170.cell? ⟨gb148, 1, none⟩ = some (.int .i64 0) := bc BK148 1; have hcz173_2 : w170.cell? ⟨gb148, 2, none⟩ = some (.int .i64 0) := bc BK148 2; have hcz173_3 : w170.cell? ⟨gb148, 3, none⟩ = some (.int .i64 0) := bc BK148 3; have hcz173_4 : w170.cell? ⟨gb148, 4, none⟩ = some (.int .i64 0) := bc BK148 4; have hcz173_5 : w170.cell? ⟨gb148, 5, none⟩ = some (.int .i64 0) := bc BK148 5; have hfz173_0 := blk_frozen BK148.out 0; have hfz173_1 := blk_frozen BK148.out 1; have hfz173_2 := blk_frozen BK148.out 2; have hfz173_3 := blk_frozen BK148.out 3; have hfz173_4 := blk_frozen BK148.out 4; have hfz173_5 := blk_frozen BK148.out 5; have hnb174 := NB108_117.out; have hnc174 := NB117_108.out; have hcz175_0 : w170.cell? ⟨gb108, 0, none⟩ = some (.int .i64 t102) := bc BK108 0; have hcz175_1 : w170.cell? ⟨gb108, 1, none⟩ = some (.int .i64 t103) := bc BK108 1; have hcz175_2 : w170.cell? ⟨gb108, 2, none⟩ = some (.int .i64 t104) := bc BK108 2; have hcz175_3 : w170.cell? ⟨gb108, 3, none⟩ = some (.int .i64 t105) := bc BK108 3; have hcz175_4 : w170.cell? ⟨gb108, 4, none⟩ = some (.int .i64 t106) := bc BK108 4; have hcz175_5 : w170.cell? ⟨gb108, 5, none⟩ = some (.int .i64 t107) := bc BK108 5; have hfz175_0 := blk_frozen BK108.out 0; have hfz175_1 := blk_frozen BK108.out 1; have hfz175_2 := blk_frozen BK108.out 2; have hfz175_3 := blk_frozen BK108.out 3; have hfz175_4 := blk_frozen BK108.out 4; have hfz175_5 := blk_frozen BK108.out 5))
                   have n0_ : Aside0 (((((((w170.setCell ⟨gb148, 0, none⟩ (.int .i64 t142)).setCell ⟨gb148, 1, none⟩ (.int .i64 t143)).setCell ⟨gb148, 2, none⟩ (.int .i64 t144)).setCell ⟨gb148, 3, none⟩ (.int .i64 t145)).setCell ⟨gb148, 4, none⟩ (.int .i64 t146)).setCell ⟨gb148, 5, none⟩ (.int .i64 t147)).heap[gb108]? = some (.cells #[.int .i64 t102, .int .i64 t103, .int .i64 t104, .int .i64 t105, .int .i64 t106, .int .i64 t107] 25 (0, 0))) := ⟨by (with_reducible repeat (first | refine blk_drewN ?_ _ | refine blk_drew ?_ | refine blk_alloc ?_ _)); refine blk_far ?_ NB108_148.out _; (with_reducible repeat (first | refine blk_drewN ?_ _ | refine blk_drew ?_ | refine blk_alloc ?_ _)); refine blk_far ?_ NB108_148.out _; (with_reducible repeat (first | refine blk_drewN ?_ _ | refine blk_drew ?_ | refine blk_alloc ?_ _)); refine blk_far ?_ NB108_148.out _; (with_reducible repeat (first | refine blk_drewN ?_ _ | refine blk_drew ?_ | refine blk_alloc ?_ _)); refine blk_far ?_ NB108_148.out _; (with_reducible repeat (first | refine blk_drewN ?_ _ | refine blk_drew ?_ | refine blk_alloc ?_ _)); refine blk_far ?_ NB108_148.out _; (with_reducible repeat (first | refine blk_drewN ?_ _ | refine blk_drew ?_ | refine blk_alloc ?_ _)); refine blk_far ?_ NB108_148.out _; (with_reducible repeat (first | refine blk_drewN ?_ _ | refine blk_drew ?_ | refine blk_alloc ?_ _)); exact BK108.out⟩
                   have n1_ : Aside0 (((((((w170.setCell ⟨gb148, 0, none⟩ (.int .i64 t142)).setCell ⟨gb148, 1, none⟩ (.int .i64 t143)).setCell ⟨gb148, 2, none⟩ (.int .i64 t144)).setCell ⟨gb148, 3, none⟩ (.int .i64 t145)).setCell ⟨gb148, 4, none⟩ (.int .i64 t146)).setCell ⟨gb148, 5, none⟩ (.int .i64 t147)).heap[gb117]? = some (.cells #[.int .i64 t111, .int .i64 t112, .int .i64 t113, .int .i64 t114, .int .i64 t115, .int .i64 t116] 25 (0, 0))) := ⟨by (with_reducible repeat (first | refine blk_drewN ?_ _ | refine blk_drew ?_ | refine blk_alloc ?_ _)); refine blk_far ?_ NB117_148.out _; (with_reducible repeat (first | refine blk_drewN ?_ _ | refine blk_drew ?_ | refine blk_alloc ?_ _)); refine blk_far ?_ NB117_148.out _; (with_reducible repeat (first | refine blk_drewN ?_ _ | refine blk_drew ?_ | refine blk_alloc ?_ _)); refine blk_far ?_ NB117_148.out _; (with_reducible repeat (first | refine blk_drewN ?_ _ | refine blk_drew ?_ | refine blk_alloc ?_ _)); refine blk_far ?_ NB117_148.out _; (with_reducible repeat (first | refine blk_drewN ?_ _ | refine blk_drew ?_ | refine blk_alloc ?_ _)); refine blk_far ?_ NB117_148.out _; (with_reducible repeat (first | refine blk_drewN ?_ _ | refine blk_drew ?_ | refine blk_alloc ?_ _)); refine blk_far ?_ NB117_148.out _; (with_reducible repeat (first | refine blk_drewN ?_ _ | refine blk_drew ?_ | refine blk_alloc ?_ _)); exact BK117.out⟩
                   have n2_ : Aside0 (((((((w170.setCell ⟨gb148, 0, none⟩ (.int .i64 t142)).setCell ⟨gb148, 1, none⟩ (.int .i64 t143)).setCell ⟨gb148, 2, none⟩ (.int .i64 t144)).setCell ⟨gb148, 3, none⟩ (.int .i64 t145)).setCell ⟨gb148, 4, none⟩ (.int .i64 t146)).setCell ⟨gb148, 5, none⟩ (.int .i64 t147)).heap[gb148]? = some (.cells #[.int .i64 t142, .int .i64 t143, .int .i64 t144, .int .i64 t145, .int .i64 t146, .int .i64 t147] 25 (0, 0))) := ⟨by (with_reducible repeat (first | refine blk_drewN ?_ _ | refine blk_drew ?_ | refine blk_alloc ?_ _)); refine blk_put (cs := #[.int .i64 t142, .int .i64 t143, .int .i64 t144, .int .i64 t145, .int .i64 t146, .int .i64 0]) ?_ 5 _ rfl; (with_reducible repeat (first | refine blk_drewN ?_ _ | refine blk_drew ?_ | refine blk_alloc ?_ _)); refine blk_put (cs := #[.int .i64 t142, .int .i64 t143, .int .i64 t144, .int .i64 t145, .int .i64 0, .int .i64 0]) ?_ 4 _ rfl; (with_reducible repeat (first | refine blk_drewN ?_ _ | refine blk_drew ?_ | refine blk_alloc ?_ _)); refine blk_put (cs := #[.int .i64 t142, .int .i64 t143, .int .i64 t144, .int .i64 0, .int .i64 0, .int .i64 0]) ?_ 3 _ rfl; (with_reducible repeat (first | refine blk_drewN ?_ _ | refine blk_drew ?_ | refine blk_alloc ?_ _)); refine blk_put (cs := #[.int .i64 t142, .int .i64 t143, .int .i64 0, .int .i64 0, .int .i64 0, .int .i64 0]) ?_ 2 _ rfl; (with_reducible repeat (first | refine blk_drewN ?_ _ | refine blk_drew ?_ | refine blk_alloc ?_ _)); refine blk_put (cs := #[.int .i64 t142, .int .i64 0, .int .i64 0, .int .i64 0, .int .i64 0, .int .i64 0]) ?_ 1 _ rfl; (with_reducible repeat (first | refine blk_drewN ?_ _ | refine blk_drew ?_ | refine blk_alloc ?_ _)); refine blk_put (cs := #[.int .i64 0, .int .i64 0, .int .i64 0, .int .i64 0, .int .i64 0, .int .i64 0]) ?_ 0 _ rfl; (with_reducible repeat (first | refine blk_drewN ?_ _ | refine blk_drew ?_ | refine blk_alloc ?_ _)); exact BK148.out⟩
                   have n3_ : Aside0 (Below w.heap.size w ((((((w170.setCell ⟨gb148, 0, none⟩ (.int .i64 t142)).setCell ⟨gb148, 1, none⟩ (.int .i64 t143)).setCell ⟨gb148, 2, none⟩ (.int .i64 t144)).setCell ⟨gb148, 3, none⟩ (.int .i64 t145)).setCell ⟨gb148, 4, none⟩ (.int .i64 t146)).setCell ⟨gb148, 5, none⟩ (.int .i64 t147))) := ⟨bh⟩
                   (try clear BK108)
                   (try clear BK117)
                   (try clear BK148)
                   (try clear HB)
                   generalize ((((((w170.setCell ⟨gb148, 0, none⟩ (.int .i64 t142)).setCell ⟨gb148, 1, none⟩ (.int .i64 t143)).setCell ⟨gb148, 2, none⟩ (.int .i64 t144)).setCell ⟨gb148, 3, none⟩ (.int .i64 t145)).setCell ⟨gb148, 4, none⟩ (.int .i64 t146)).setCell ⟨gb148, 5, none⟩ (.int .i64 t147)) = w176 at n0_ n1_ n2_ n3_ ⊢
                   have BK108 := n0_
                   have BK117 := n1_
                   have BK148 := n2_
                   have HB := n3_
                   clear n0_ n1_ n2_ n3_
                   replace BK108 := Aside0.mk (blk_drew BK108.out)
                   replace BK117 := Aside0.mk (blk_drew BK117.out)
                   replace BK148 := Aside0.mk (blk_drew BK148.out)
                   replace HB := Aside0.mk (below_drew1 HB.out)
                   refine start_ (n := 18) (S := fun w' => w'.cell? ⟨gb148, 0, none⟩ = some (.int .i64 t142) ∧ w'.cell? ⟨gb148, 1, none⟩ = some (.int .i64 t143) ∧ w'.cell? ⟨gb148, 2, none⟩ = some (.int .i64 t144) ∧ w'.cell? ⟨gb148, 3, none⟩ = some (.int .i64 t145) ∧ w'.cell? ⟨gb148, 4, none⟩ = some (.int .i64 t146) ∧ w'.cell? ⟨gb148, 5, none⟩ = some (.int .i64 t147) ∧ w'.cell? ⟨gb108, 0, none⟩ = some (.int .i64 t102) ∧ w'.cell? ⟨gb108, 1, none⟩ = some (.int .i64 t103) ∧ w'.cell? ⟨gb108, 2, none⟩ = some (.int .i64 t104) ∧ w'.cell? ⟨gb108, 3, none⟩ = some (.int .i64 t105) ∧ w'.cell? ⟨gb108, 4, none⟩ = some (.int .i64 t106) ∧ w'.cell? ⟨gb108, 5, none⟩ = some (.int .i64 t107)) (ds := []) laws_FnDates.d51 (by kernel_rfl) rfl rfl ⟨bc BK148 0, bc BK148 1, bc BK148 2, bc BK148 3, bc BK148 4, bc BK148 5, bc BK108 0, bc BK108 1, bc BK108 2, bc BK108 3, bc BK108 4, bc BK108 5⟩ (fun hHeld => ?_); refine with_tabW laws_FnDates.tab19 laws_FnDates.bits19 (fun HT_ HW_ => ?_)
                   generalize w176.drew = w177 at BK108 BK117 BK148 HB hHeld ⊢
                   refine pu 0 125 laws_FnDates.d52 HT_ ?_
                   refine pu 1 126 laws_FnDates.d53 HT_ ?_
                   refine tk 2 127 laws_FnDates.d54 HT_ HW_ hHeld ?_
                   refine tk 4 129 laws_FnDates.d55 HT_ HW_ hHeld ?_
                   refine onx 3 128 laws_FnDates.d56 HT_ (fun K hK => ?_)
                   refine gs Try.func13 #[.agg #[.int .i64 t142, .int .i64 t143, .int .i64 t144, .int .i64 t145, .int .i64 t146, .int .i64 t147]] ?_
                   with_reducible refine (impl_Weekday.calls kj87 t142 t143 t144 t145 t146 t147 t153 _ A155.out).mono ?_
                   rintro e w178 ⟨rfl, hb⟩
                   refine ⟨_, rfl, ?_⟩
                   replace BK108 := Aside0.mk (blk_below (g := gb108) (o := .cells #[.int .i64 t102, .int .i64 t103, .int .i64 t104, .int .i64 t105, .int .i64 t106, .int .i64 t107] 25 (0, 0)) bk hb)
                   replace BK117 := Aside0.mk (blk_below (g := gb117) (o := .cells #[.int .i64 t111, .int .i64 t112, .int .i64 t113, .int .i64 t114, .int .i64 t115, .int .i64 t116] 25 (0, 0)) bk hb)
                   replace BK148 := Aside0.mk (blk_below (g := gb148) (o := .cells #[.int .i64 t142, .int .i64 t143, .int .i64 t144, .int .i64 t145, .int .i64 t146, .int .i64 t147] 25 (0, 0)) bk hb)
                   replace HB := Aside0.mk (below_step bh hb)
                   (try clear hb)
                   (try clear hb2)
                   (try clear hk)
                   (try clear hi)
                   refine hK.out _ _ ⟨bc BK148 0, bc BK148 1, bc BK148 2, bc BK148 3, bc BK148 4, bc BK148 5, bc BK108 0, bc BK108 1, bc BK108 2, bc BK108 3, bc BK108 4, bc BK108 5⟩ (fun hHeld => ?_)
                   clear hK K
                   refine nm 128 ?_
                   refine onx 5 130 laws_FnDates.d57 HT_ (fun K hK => ?_)
                   refine gs Try.func13 #[.agg #[.int .i64 t102, .int .i64 t103, .int .i64 t104, .int .i64 t105, .int .i64 t106, .int .i64 t107]] ?_
                   with_reducible refine (impl_Weekday.calls kj87 t102 t103 t104 t105 t106 t107 t154 _ A156.out).mono ?_
                   rintro e w179 ⟨rfl, hb⟩
                   refine ⟨_, rfl, ?_⟩
                   replace BK108 := Aside0.mk (blk_below (g := gb108) (o := .cells #[.int .i64 t102, .int .i64 t103, .int .i64 t104, .int .i64 t105, .int .i64 t106, .int .i64 t107] 25 (0, 0)) bk hb)
                   replace BK117 := Aside0.mk (blk_below (g := gb117) (o := .cells #[.int .i64 t111, .int .i64 t112, .int .i64 t113, .int .i64 t114, .int .i64 t115, .int .i64 t116] 25 (0, 0)) bk hb)
                   replace BK148 := Aside0.mk (blk_below (g := gb148) (o := .cells #[.int .i64 t142, .int .i64 t143, .int .i64 t144, .int .i64 t145, .int .i64 t146, .int .i64 t147] 25 (0, 0)) bk hb)
                   replace HB := Aside0.mk (below_step bh hb)
                   (try clear hb)
                   (try clear hb2)
                   (try clear hk)
                   (try clear hi)
                   refine hK.out _ _ ⟨bc BK148 0, bc BK148 1, bc BK148 2, bc BK148 3, bc BK148 4, bc BK148 5, bc BK108 0, bc BK108 1, bc BK108 2, bc BK108 3, bc BK108 4, bc BK108 5⟩ (fun hHeld => ?_)
                   clear hK K
                   refine nm 130 ?_
                   refine pu 6 131 laws_FnDates.d58 HT_ ?_
                   refine pu 7 132 laws_FnDates.d59 HT_ ?_
                   refine pu 8 133 laws_FnDates.d60 HT_ ?_
                   refine pu 9 134 laws_FnDates.d61 HT_ ?_
                   refine pu 10 135 laws_FnDates.d62 HT_ ?_
                   refine un 11 136 laws_FnDates.d63 HT_ ?_
                   refine un 12 137 laws_FnDates.d70 HT_ ?_
                   refine un 13 138 laws_FnDates.d65 HT_ ?_
                   refine un 14 139 laws_FnDates.d66 HT_ ?_
                   refine un 15 140 laws_FnDates.d67 HT_ ?_
                   refine pu 16 141 laws_FnDates.d68 HT_ ?_
                   refine pu 17 2 laws_FnDates.d69 HT_ ?_
                   refine dn HT_ ?_
                   try go_wp2
                   go_ret
                   exact ⟨er, bh⟩
                 ·
                  rw [if_neg c154] at H
                  have c154b0 : (t144 == (wrap64 (t104 + 1))) = false := beq_eq_false_iff_ne.mpr c154
                  have c154b1 : (t144 != (wrap64 (t104 + 1))) = true := bne_iff_ne.mpr c154
                  obtain rfl := Option.some.inj H
                  try go_wp2_with (first | ((with_reducible refine gate_callee (f := 8) rfl ?_); refine goesL_ (some 90) rfl rfl Try.func8 (by kernel_rfl) rfl #[.int .i64 (wrap64 (t109 + 86400))] rfl mc ?_; (with_reducible refine (impl_DateAt.calls kj87 (wrap64 (t109 + 86400)) t142 t143 t144 t145 t146 t147 _ A99.out).mono ?_); rintro e w180 ⟨rfl, hb⟩; refine ⟨_, rfl, ?_⟩; replace BK108 := Aside0.mk (blk_below (g := gb108) (o := .cells #[.int .i64 t102, .int .i64 t103, .int .i64 t104, .int .i64 t105, .int .i64 t106, .int .i64 t107] 25 (0, 0)) bk hb); replace BK117 := Aside0.mk (blk_below (g := gb117) (o := .cells #[.int .i64 t111, .int .i64 t112, .int .i64 t113, .int .i64 t114, .int .i64 t115, .int .i64 t116] 25 (0, 0)) bk hb); replace HB := Aside0.mk (below_step bh hb); (try clear hb); (try clear hb2); (try clear hk); (try clear hi)) | ((with_reducible refine gate_dst (N := 7) rfl ?_); refine bx 7 #[.int .i64 0, .int .i64 0, .int .i64 0, .int .i64 0, .int .i64 0, .int .i64 0] 25 ?_; intro gb148 hg w181 hbox hb; have BK148 := Aside0.mk (hbox); have GW148 := Aside0.mk (bz hg); have GE148 := Aside0.mk (bz hg); have NB108_148 := Aside0.mk ((nl (o := .cells #[.int .i64 t102, .int .i64 t103, .int .i64 t104, .int .i64 t105, .int .i64 t106, .int .i64 t107] 25 (0, 0)) hg bk : gb108 ≠ gb148)); have NB148_108 := Aside0.mk ((ng (o := .cells #[.int .i64 t102, .int .i64 t103, .int .i64 t104, .int .i64 t105, .int .i64 t106, .int .i64 t107] 25 (0, 0)) hg bk : gb148 ≠ gb108)); have NB117_148 := Aside0.mk ((nl (o := .cells #[.int .i64 t111, .int .i64 t112, .int .i64 t113, .int .i64 t114, .int .i64 t115, .int .i64 t116] 25 (0, 0)) hg bk : gb117 ≠ gb148)); have NB148_117 := Aside0.mk ((ng (o := .cells #[.int .i64 t111, .int .i64 t112, .int .i64 t113, .int .i64 t114, .int .i64 t115, .int .i64 t116] 25 (0, 0)) hg bk : gb148 ≠ gb117)); replace BK108 := Aside0.mk (blk_below (g := gb108) (o := .cells #[.int .i64 t102, .int .i64 t103, .int .i64 t104, .int .i64 t105, .int .i64 t106, .int .i64 t107] 25 (0, 0)) bk hb); replace BK117 := Aside0.mk (blk_below (g := gb117) (o := .cells #[.int .i64 t111, .int .i64 t112, .int .i64 t113, .int .i64 t114, .int .i64 t115, .int .i64 t116] 25 (0, 0)) bk hb); replace HB := Aside0.mk (below_step bh hb); clear hb hbox hg; have hnb182 := NB148_108.out; have hnc182 := NB108_148.out; have hnb183 := NB148_117.out; have hnc183 := NB117_148.out; have hcz184_0 : w181.cell? ⟨gb148, 0, none⟩ = some (.int .i64 0) := bc BK148 0; have hcz184_1 : w181.cell? ⟨gb148, 1, none⟩ = some (.int .i64 0) := bc BK148 1; have hcz184_2 : w181.cell? ⟨gb148, 2, none⟩ = some (.int .i64 0) := bc BK148 2; have hcz184_3 : w181.cell? ⟨gb148, 3, none⟩ = some (.int .i64 0) := bc BK148 3; have hcz184_4 : w181.cell? ⟨gb148, 4, none⟩ = some (.int .i64 0) := bc BK148 4; have hcz184_5 : w181.cell? ⟨gb148, 5, none⟩ = some (.int .i64 0) := bc BK148 5; have hfz184_0 := blk_frozen BK148.out 0; have hfz184_1 := blk_frozen BK148.out 1; have hfz184_2 := blk_frozen BK148.out 2; have hfz184_3 := blk_frozen BK148.out 3; have hfz184_4 := blk_frozen BK148.out 4; have hfz184_5 := blk_frozen BK148.out 5; have hnb185 := NB108_117.out; have hnc185 := NB117_108.out; have hcz186_0 : w181.cell? ⟨gb108, 0, none⟩ = some (.int .i64 t102) := bc BK108 0; have hcz186_1 : w181.cell? ⟨gb108, 1, none⟩ = some (.int .i64 t103) := bc BK108 1; have hcz186_2 : w181.cell? ⟨gb108, 2, none⟩ = some (.int .i64 t104) := bc BK108 2; have hcz186_3 : w181.cell? ⟨gb108, 3, none⟩ = some (.int .i64 t105) := bc BK108 3; have hcz186_4 : w181.cell? ⟨gb108, 4, none⟩ = some (.int .i64 t106) := bc BK108 4; have hcz186_5 : w181.cell? ⟨gb108, 5, none⟩ = some (.int .i64 t107) := bc BK108 5; have hfz186_0 := blk_frozen BK108.out 0; have hfz186_1 := blk_frozen BK108.out 1; have hfz186_2 := blk_frozen BK108.out 2; have hfz186_3 := blk_frozen BK108.out 3; have hfz186_4 := blk_frozen BK108.out 4; have hfz186_5 := blk_frozen BK108.out 5))
                  have n0_ : Aside0 (((((((w181.setCell ⟨gb148, 0, none⟩ (.int .i64 t142)).setCell ⟨gb148, 1, none⟩ (.int .i64 t143)).setCell ⟨gb148, 2, none⟩ (.int .i64 t144)).setCell ⟨gb148, 3, none⟩ (.int .i64 t145)).setCell ⟨gb148, 4, none⟩ (.int .i64 t146)).setCell ⟨gb148, 5, none⟩ (.int .i64 t147)).heap[gb108]? = some (.cells #[.int .i64 t102, .int .i64 t103, .int .i64 t104, .int .i64 t105, .int .i64 t106, .int .i64 t107] 25 (0, 0))) := ⟨by (with_reducible repeat (first | refine blk_drewN ?_ _ | refine blk_drew ?_ | refine blk_alloc ?_ _)); refine blk_far ?_ NB108_148.out _; (with_reducible repeat (first | refine blk_drewN ?_ _ | refine blk_drew ?_ | refine blk_alloc ?_ _)); refine blk_far ?_ NB108_148.out _; (with_reducible repeat (first | refine blk_drewN ?_ _ | refine blk_drew ?_ | refine blk_alloc ?_ _)); refine blk_far ?_ NB108_148.out _; (with_reducible repeat (first | refine blk_drewN ?_ _ | refine blk_drew ?_ | refine blk_alloc ?_ _)); refine blk_far ?_ NB108_148.out _; (with_reducible repeat (first | refine blk_drewN ?_ _ | refine blk_drew ?_ | refine blk_alloc ?_ _)); refine blk_far ?_ NB108_148.out _; (with_reducible repeat (first | refine blk_drewN ?_ _ | refine blk_drew ?_ | refine blk_alloc ?_ _)); refine blk_far ?_ NB108_148.out _; (with_reducible repeat (first | refine blk_drewN ?_ _ | refine blk_drew ?_ | refine blk_alloc ?_ _)); exact BK108.out⟩
                  have n1_ : Aside0 (((((((w181.setCell ⟨gb148, 0, none⟩ (.int .i64 t142)).setCell ⟨gb148, 1, none⟩ (.int .i64 t143)).setCell ⟨gb148, 2, none⟩ (.int .i64 t144)).setCell ⟨gb148, 3, none⟩ (.int .i64 t145)).setCell ⟨gb148, 4, none⟩ (.int .i64 t146)).setCell ⟨gb148, 5, none⟩ (.int .i64 t147)).heap[gb117]? = some (.cells #[.int .i64 t111, .int .i64 t112, .int .i64 t113, .int .i64 t114, .int .i64 t115, .int .i64 t116] 25 (0, 0))) := ⟨by (with_reducible repeat (first | refine blk_drewN ?_ _ | refine blk_drew ?_ | refine blk_alloc ?_ _)); refine blk_far ?_ NB117_148.out _; (with_reducible repeat (first | refine blk_drewN ?_ _ | refine blk_drew ?_ | refine blk_alloc ?_ _)); refine blk_far ?_ NB117_148.out _; (with_reducible repeat (first | refine blk_drewN ?_ _ | refine blk_drew ?_ | refine blk_alloc ?_ _)); refine blk_far ?_ NB117_148.out _; (with_reducible repeat (first | refine blk_drewN ?_ _ | refine blk_drew ?_ | refine blk_alloc ?_ _)); refine blk_far ?_ NB117_148.out _; (with_reducible repeat (first | refine blk_drewN ?_ _ | refine blk_drew ?_ | refine blk_alloc ?_ _)); refine blk_far ?_ NB117_148.out _; (with_reducible repeat (first | refine blk_drewN ?_ _ | refine blk_drew ?_ | refine blk_alloc ?_ _)); refine blk_far ?_ NB117_148.out _; (with_reducible repeat (first | refine blk_drewN ?_ _ | refine blk_drew ?_ | refine blk_alloc ?_ _)); exact BK117.out⟩
                  have n2_ : Aside0 (((((((w181.setCell ⟨gb148, 0, none⟩ (.int .i64 t142)).setCell ⟨gb148, 1, none⟩ (.int .i64 t143)).setCell ⟨gb148, 2, none⟩ (.int .i64 t144)).setCell ⟨gb148, 3, none⟩ (.int .i64 t145)).setCell ⟨gb148, 4, none⟩ (.int .i64 t146)).setCell ⟨gb148, 5, none⟩ (.int .i64 t147)).heap[gb148]? = some (.cells #[.int .i64 t142, .int .i64 t143, .int .i64 t144, .int .i64 t145, .int .i64 t146, .int .i64 t147] 25 (0, 0))) := ⟨by (with_reducible repeat (first | refine blk_drewN ?_ _ | refine blk_drew ?_ | refine blk_alloc ?_ _)); refine blk_put (cs := #[.int .i64 t142, .int .i64 t143, .int .i64 t144, .int .i64 t145, .int .i64 t146, .int .i64 0]) ?_ 5 _ rfl; (with_reducible repeat (first | refine blk_drewN ?_ _ | refine blk_drew ?_ | refine blk_alloc ?_ _)); refine blk_put (cs := #[.int .i64 t142, .int .i64 t143, .int .i64 t144, .int .i64 t145, .int .i64 0, .int .i64 0]) ?_ 4 _ rfl; (with_reducible repeat (first | refine blk_drewN ?_ _ | refine blk_drew ?_ | refine blk_alloc ?_ _)); refine blk_put (cs := #[.int .i64 t142, .int .i64 t143, .int .i64 t144, .int .i64 0, .int .i64 0, .int .i64 0]) ?_ 3 _ rfl; (with_reducible repeat (first | refine blk_drewN ?_ _ | refine blk_drew ?_ | refine blk_alloc ?_ _)); refine blk_put (cs := #[.int .i64 t142, .int .i64 t143, .int .i64 0, .int .i64 0, .int .i64 0, .int .i64 0]) ?_ 2 _ rfl; (with_reducible repeat (first | refine blk_drewN ?_ _ | refine blk_drew ?_ | refine blk_alloc ?_ _)); refine blk_put (cs := #[.int .i64 t142, .int .i64 0, .int .i64 0, .int .i64 0, .int .i64 0, .int .i64 0]) ?_ 1 _ rfl; (with_reducible repeat (first | refine blk_drewN ?_ _ | refine blk_drew ?_ | refine blk_alloc ?_ _)); refine blk_put (cs := #[.int .i64 0, .int .i64 0, .int .i64 0, .int .i64 0, .int .i64 0, .int .i64 0]) ?_ 0 _ rfl; (with_reducible repeat (first | refine blk_drewN ?_ _ | refine blk_drew ?_ | refine blk_alloc ?_ _)); exact BK148.out⟩
                  have n3_ : Aside0 (Below w.heap.size w ((((((w181.setCell ⟨gb148, 0, none⟩ (.int .i64 t142)).setCell ⟨gb148, 1, none⟩ (.int .i64 t143)).setCell ⟨gb148, 2, none⟩ (.int .i64 t144)).setCell ⟨gb148, 3, none⟩ (.int .i64 t145)).setCell ⟨gb148, 4, none⟩ (.int .i64 t146)).setCell ⟨gb148, 5, none⟩ (.int .i64 t147))) := ⟨bh⟩
                  (try clear BK108)
                  (try clear BK117)
                  (try clear BK148)
                  (try clear HB)
                  generalize ((((((w181.setCell ⟨gb148, 0, none⟩ (.int .i64 t142)).setCell ⟨gb148, 1, none⟩ (.int .i64 t143)).setCell ⟨gb148, 2, none⟩ (.int .i64 t144)).setCell ⟨gb148, 3, none⟩ (.int .i64 t145)).setCell ⟨gb148, 4, none⟩ (.int .i64 t146)).setCell ⟨gb148, 5, none⟩ (.int .i64 t147)) = w187 at n0_ n1_ n2_ n3_ ⊢
                  have BK108 := n0_
                  have BK117 := n1_
                  have BK148 := n2_
                  have HB := n3_
                  clear n0_ n1_ n2_ n3_
                  replace BK108 := Aside0.mk (blk_drew BK108.out)
                  replace BK117 := Aside0.mk (blk_drew BK117.out)
                  replace BK148 := Aside0.mk (blk_drew BK148.out)
                  replace HB := Aside0.mk (below_drew1 HB.out)
                  refine start_ (n := 18) (S := fun w' => True) (ds := []) laws_FnDates.d51 (by kernel_rfl) rfl rfl trivial (fun hHeld => ?_); refine with_tabW laws_FnDates.tab19 laws_FnDates.bits19 (fun HT_ HW_ => ?_)
                  generalize w187.drew = w188 at BK108 BK117 BK148 HB hHeld ⊢
                  refine pu 0 125 laws_FnDates.d52 HT_ ?_
                  refine pu 1 126 laws_FnDates.d53 HT_ ?_
                  refine un 2 127 laws_FnDates.d54 HT_ ?_
                  refine un 3 128 laws_FnDates.d71 HT_ ?_
                  refine un 4 129 laws_FnDates.d56 HT_ ?_
                  refine un 5 130 laws_FnDates.d57 HT_ ?_
                  refine un 6 131 laws_FnDates.d58 HT_ ?_
                  refine un 7 132 laws_FnDates.d59 HT_ ?_
                  refine un 8 133 laws_FnDates.d60 HT_ ?_
                  refine pu 9 134 laws_FnDates.d61 HT_ ?_
                  refine pu 10 135 laws_FnDates.d62 HT_ ?_
                  refine un 11 136 laws_FnDates.d63 HT_ ?_
                  refine un 12 137 laws_FnDates.d70 HT_ ?_
                  refine un 13 138 laws_FnDates.d65 HT_ ?_
                  refine un 14 139 laws_FnDates.d66 HT_ ?_
                  refine un 15 140 laws_FnDates.d67 HT_ ?_
                  refine pu 16 141 laws_FnDates.d68 HT_ ?_
                  refine pu 17 2 laws_FnDates.d69 HT_ ?_
                  refine dn HT_ ?_
                  try go_wp2
                  go_ret
                  exact ⟨er, bh⟩
                ·
                 rw [if_neg c153] at H
                 have c153b0 : (t143 == t103) = false := beq_eq_false_iff_ne.mpr c153
                 have c153b1 : (t143 != t103) = true := bne_iff_ne.mpr c153
                 obtain rfl := Option.some.inj H
                 try go_wp2_with (first | ((with_reducible refine gate_callee (f := 8) rfl ?_); refine goesL_ (some 90) rfl rfl Try.func8 (by kernel_rfl) rfl #[.int .i64 (wrap64 (t109 + 86400))] rfl mc ?_; (with_reducible refine (impl_DateAt.calls kj87 (wrap64 (t109 + 86400)) t142 t143 t144 t145 t146 t147 _ A99.out).mono ?_); rintro e w189 ⟨rfl, hb⟩; refine ⟨_, rfl, ?_⟩; replace BK108 := Aside0.mk (blk_below (g := gb108) (o := .cells #[.int .i64 t102, .int .i64 t103, .int .i64 t104, .int .i64 t105, .int .i64 t106, .int .i64 t107] 25 (0, 0)) bk hb); replace BK117 := Aside0.mk (blk_below (g := gb117) (o := .cells #[.int .i64 t111, .int .i64 t112, .int .i64 t113, .int .i64 t114, .int .i64 t115, .int .i64 t116] 25 (0, 0)) bk hb); replace HB := Aside0.mk (below_step bh hb); (try clear hb); (try clear hb2); (try clear hk); (try clear hi)) | ((with_reducible refine gate_dst (N := 7) rfl ?_); refine bx 7 #[.int .i64 0, .int .i64 0, .int .i64 0, .int .i64 0, .int .i64 0, .int .i64 0] 25 ?_; intro gb148 hg w190 hbox hb; have BK148 := Aside0.mk (hbox); have GW148 := Aside0.mk (bz hg); have GE148 := Aside0.mk (bz hg); have NB108_148 := Aside0.mk ((nl (o := .cells #[.int .i64 t102, .int .i64 t103, .int .i64 t104, .int .i64 t105, .int .i64 t106, .int .i64 t107] 25 (0, 0)) hg bk : gb108 ≠ gb148)); have NB148_108 := Aside0.mk ((ng (o := .cells #[.int .i64 t102, .int .i64 t103, .int .i64 t104, .int .i64 t105, .int .i64 t106, .int .i64 t107] 25 (0, 0)) hg bk : gb148 ≠ gb108)); have NB117_148 := Aside0.mk ((nl (o := .cells #[.int .i64 t111, .int .i64 t112, .int .i64 t113, .int .i64 t114, .int .i64 t115, .int .i64 t116] 25 (0, 0)) hg bk : gb117 ≠ gb148)); have NB148_117 := Aside0.mk ((ng (o := .cells #[.int .i64 t111, .int .i64 t112, .int .i64 t113, .int .i64 t114, .int .i64 t115, .int .i64 t116] 25 (0, 0)) hg bk : gb148 ≠ gb117)); replace BK108 := Aside0.mk (blk_below (g := gb108) (o := .cells #[.int .i64 t102, .int .i64 t103, .int .i64 t104, .int .i64 t105, .int .i64 t106, .int .i64 t107] 25 (0, 0)) bk hb); replace BK117 := Aside0.mk (blk_below (g := gb117) (o := .cells #[.int .i64 t111, .int .i64 t112, .int .i64 t113, .int .i64 t114, .int .i64 t115, .int .i64 t116] 25 (0, 0)) bk hb); replace HB := Aside0.mk (below_step bh hb); clear hb hbox hg; have hnb191 := NB148_108.out; have hnc191 := NB108_148.out; have hnb192 := NB148_117.out; have hnc192 := NB117_148.out; have hcz193_0 : w190.cell? ⟨gb148, 0, none⟩ = some (.int .i64 0) := bc BK148 0; have hcz193_1 : w190.cell? ⟨gb148, 1, none⟩ = some (.int .i64 0) := bc BK148 1; have hcz193_2 : w190.cell? ⟨gb148, 2, none⟩ = some (.int .i64 0) := bc BK148 2; have hcz193_3 : w190.cell? ⟨gb148, 3, none⟩ = some (.int .i64 0) := bc BK148 3; have hcz193_4 : w190.cell? ⟨gb148, 4, none⟩ = some (.int .i64 0) := bc BK148 4; have hcz193_5 : w190.cell? ⟨gb148, 5, none⟩ = some (.int .i64 0) := bc BK148 5; have hfz193_0 := blk_frozen BK148.out 0; have hfz193_1 := blk_frozen BK148.out 1; have hfz193_2 := blk_frozen BK148.out 2; have hfz193_3 := blk_frozen BK148.out 3; have hfz193_4 := blk_frozen BK148.out 4; have hfz193_5 := blk_frozen BK148.out 5; have hnb194 := NB108_117.out; have hnc194 := NB117_108.out; have hcz195_0 : w190.cell? ⟨gb108, 0, none⟩ = some (.int .i64 t102) := bc BK108 0; have hcz195_1 : w190.cell? ⟨gb108, 1, none⟩ = some (.int .i64 t103) := bc BK108 1; have hcz195_2 : w190.cell? ⟨gb108, 2, none⟩ = some (.int .i64 t104) := bc BK108 2; have hcz195_3 : w190.cell? ⟨gb108, 3, none⟩ = some (.int .i64 t105) := bc BK108 3; have hcz195_4 : w190.cell? ⟨gb108, 4, none⟩ = some (.int .i64 t106) := bc BK108 4; have hcz195_5 : w190.cell? ⟨gb108, 5, none⟩ = some (.int .i64 t107) := bc BK108 5; have hfz195_0 := blk_frozen BK108.out 0; have hfz195_1 := blk_frozen BK108.out 1; have hfz195_2 := blk_frozen BK108.out 2; have hfz195_3 := blk_frozen BK108.out 3; have hfz195_4 := blk_frozen BK108.out 4; have hfz195_5 := blk_frozen BK108.out 5))
                 have n0_ : Aside0 (((((((w190.setCell ⟨gb148, 0, none⟩ (.int .i64 t142)).setCell ⟨gb148, 1, none⟩ (.int .i64 t143)).setCell ⟨gb148, 2, none⟩ (.int .i64 t144)).setCell ⟨gb148, 3, none⟩ (.int .i64 t145)).setCell ⟨gb148, 4, none⟩ (.int .i64 t146)).setCell ⟨gb148, 5, none⟩ (.int .i64 t147)).heap[gb108]? = some (.cells #[.int .i64 t102, .int .i64 t103, .int .i64 t104, .int .i64 t105, .int .i64 t106, .int .i64 t107] 25 (0, 0))) := ⟨by (with_reducible repeat (first | refine blk_drewN ?_ _ | refine blk_drew ?_ | refine blk_alloc ?_ _)); refine blk_far ?_ NB108_148.out _; (with_reducible repeat (first | refine blk_drewN ?_ _ | refine blk_drew ?_ | refine blk_alloc ?_ _)); refine blk_far ?_ NB108_148.out _; (with_reducible repeat (first | refine blk_drewN ?_ _ | refine blk_drew ?_ | refine blk_alloc ?_ _)); refine blk_far ?_ NB108_148.out _; (with_reducible repeat (first | refine blk_drewN ?_ _ | refine blk_drew ?_ | refine blk_alloc ?_ _)); refine blk_far ?_ NB108_148.out _; (with_reducible repeat (first | refine blk_drewN ?_ _ | refine blk_drew ?_ | refine blk_alloc ?_ _)); refine blk_far ?_ NB108_148.out _; (with_reducible repeat (first | refine blk_drewN ?_ _ | refine blk_drew ?_ | refine blk_alloc ?_ _)); refine blk_far ?_ NB108_148.out _; (with_reducible repeat (first | refine blk_drewN ?_ _ | refine blk_drew ?_ | refine blk_alloc ?_ _)); exact BK108.out⟩
                 have n1_ : Aside0 (((((((w190.setCell ⟨gb148, 0, none⟩ (.int .i64 t142)).setCell ⟨gb148, 1, none⟩ (.int .i64 t143)).setCell ⟨gb148, 2, none⟩ (.int .i64 t144)).setCell ⟨gb148, 3, none⟩ (.int .i64 t145)).setCell ⟨gb148, 4, none⟩ (.int .i64 t146)).setCell ⟨gb148, 5, none⟩ (.int .i64 t147)).heap[gb117]? = some (.cells #[.int .i64 t111, .int .i64 t112, .int .i64 t113, .int .i64 t114, .int .i64 t115, .int .i64 t116] 25 (0, 0))) := ⟨by (with_reducible repeat (first | refine blk_drewN ?_ _ | refine blk_drew ?_ | refine blk_alloc ?_ _)); refine blk_far ?_ NB117_148.out _; (with_reducible repeat (first | refine blk_drewN ?_ _ | refine blk_drew ?_ | refine blk_alloc ?_ _)); refine blk_far ?_ NB117_148.out _; (with_reducible repeat (first | refine blk_drewN ?_ _ | refine blk_drew ?_ | refine blk_alloc ?_ _)); refine blk_far ?_ NB117_148.out _; (with_reducible repeat (first | refine blk_drewN ?_ _ | refine blk_drew ?_ | refine blk_alloc ?_ _)); refine blk_far ?_ NB117_148.out _; (with_reducible repeat (first | refine blk_drewN ?_ _ | refine blk_drew ?_ | refine blk_alloc ?_ _)); refine blk_far ?_ NB117_148.out _; (with_reducible repeat (first | refine blk_drewN ?_ _ | refine blk_drew ?_ | refine blk_alloc ?_ _)); refine blk_far ?_ NB117_148.out _; (with_reducible repeat (first | refine blk_drewN ?_ _ | refine blk_drew ?_ | refine blk_alloc ?_ _)); exact BK117.out⟩
                 have n2_ : Aside0 (((((((w190.setCell ⟨gb148, 0, none⟩ (.int .i64 t142)).setCell ⟨gb148, 1, none⟩ (.int .i64 t143)).setCell ⟨gb148, 2, none⟩ (.int .i64 t144)).setCell ⟨gb148, 3, none⟩ (.int .i64 t145)).setCell ⟨gb148, 4, none⟩ (.int .i64 t146)).setCell ⟨gb148, 5, none⟩ (.int .i64 t147)).heap[gb148]? = some (.cells #[.int .i64 t142, .int .i64 t143, .int .i64 t144, .int .i64 t145, .int .i64 t146, .int .i64 t147] 25 (0, 0))) := ⟨by (with_reducible repeat (first | refine blk_drewN ?_ _ | refine blk_drew ?_ | refine blk_alloc ?_ _)); refine blk_put (cs := #[.int .i64 t142, .int .i64 t143, .int .i64 t144, .int .i64 t145, .int .i64 t146, .int .i64 0]) ?_ 5 _ rfl; (with_reducible repeat (first | refine blk_drewN ?_ _ | refine blk_drew ?_ | refine blk_alloc ?_ _)); refine blk_put (cs := #[.int .i64 t142, .int .i64 t143, .int .i64 t144, .int .i64 t145, .int .i64 0, .int .i64 0]) ?_ 4 _ rfl; (with_reducible repeat (first | refine blk_drewN ?_ _ | refine blk_drew ?_ | refine blk_alloc ?_ _)); refine blk_put (cs := #[.int .i64 t142, .int .i64 t143, .int .i64 t144, .int .i64 0, .int .i64 0, .int .i64 0]) ?_ 3 _ rfl; (with_reducible repeat (first | refine blk_drewN ?_ _ | refine blk_drew ?_ | refine blk_alloc ?_ _)); refine blk_put (cs := #[.int .i64 t142, .int .i64 t143, .int .i64 0, .int .i64 0, .int .i64 0, .int .i64 0]) ?_ 2 _ rfl; (with_reducible repeat (first | refine blk_drewN ?_ _ | refine blk_drew ?_ | refine blk_alloc ?_ _)); refine blk_put (cs := #[.int .i64 t142, .int .i64 0, .int .i64 0, .int .i64 0, .int .i64 0, .int .i64 0]) ?_ 1 _ rfl; (with_reducible repeat (first | refine blk_drewN ?_ _ | refine blk_drew ?_ | refine blk_alloc ?_ _)); refine blk_put (cs := #[.int .i64 0, .int .i64 0, .int .i64 0, .int .i64 0, .int .i64 0, .int .i64 0]) ?_ 0 _ rfl; (with_reducible repeat (first | refine blk_drewN ?_ _ | refine blk_drew ?_ | refine blk_alloc ?_ _)); exact BK148.out⟩
                 have n3_ : Aside0 (Below w.heap.size w ((((((w190.setCell ⟨gb148, 0, none⟩ (.int .i64 t142)).setCell ⟨gb148, 1, none⟩ (.int .i64 t143)).setCell ⟨gb148, 2, none⟩ (.int .i64 t144)).setCell ⟨gb148, 3, none⟩ (.int .i64 t145)).setCell ⟨gb148, 4, none⟩ (.int .i64 t146)).setCell ⟨gb148, 5, none⟩ (.int .i64 t147))) := ⟨bh⟩
                 (try clear BK108)
                 (try clear BK117)
                 (try clear BK148)
                 (try clear HB)
                 generalize ((((((w190.setCell ⟨gb148, 0, none⟩ (.int .i64 t142)).setCell ⟨gb148, 1, none⟩ (.int .i64 t143)).setCell ⟨gb148, 2, none⟩ (.int .i64 t144)).setCell ⟨gb148, 3, none⟩ (.int .i64 t145)).setCell ⟨gb148, 4, none⟩ (.int .i64 t146)).setCell ⟨gb148, 5, none⟩ (.int .i64 t147)) = w196 at n0_ n1_ n2_ n3_ ⊢
                 have BK108 := n0_
                 have BK117 := n1_
                 have BK148 := n2_
                 have HB := n3_
                 clear n0_ n1_ n2_ n3_
                 replace BK108 := Aside0.mk (blk_drew BK108.out)
                 replace BK117 := Aside0.mk (blk_drew BK117.out)
                 replace BK148 := Aside0.mk (blk_drew BK148.out)
                 replace HB := Aside0.mk (below_drew1 HB.out)
                 refine start_ (n := 18) (S := fun w' => True) (ds := []) laws_FnDates.d51 (by kernel_rfl) rfl rfl trivial (fun hHeld => ?_); refine with_tabW laws_FnDates.tab19 laws_FnDates.bits19 (fun HT_ HW_ => ?_)
                 generalize w196.drew = w197 at BK108 BK117 BK148 HB hHeld ⊢
                 refine pu 0 125 laws_FnDates.d52 HT_ ?_
                 refine pu 1 126 laws_FnDates.d53 HT_ ?_
                 refine un 2 127 laws_FnDates.d54 HT_ ?_
                 refine un 3 128 laws_FnDates.d71 HT_ ?_
                 refine un 4 129 laws_FnDates.d56 HT_ ?_
                 refine un 5 130 laws_FnDates.d57 HT_ ?_
                 refine un 6 131 laws_FnDates.d58 HT_ ?_
                 refine un 7 132 laws_FnDates.d59 HT_ ?_
                 refine un 8 133 laws_FnDates.d60 HT_ ?_
                 refine pu 9 134 laws_FnDates.d61 HT_ ?_
                 refine pu 10 135 laws_FnDates.d62 HT_ ?_
                 refine un 11 136 laws_FnDates.d63 HT_ ?_
                 refine un 12 137 laws_FnDates.d70 HT_ ?_
                 refine un 13 138 laws_FnDates.d65 HT_ ?_
                 refine un 14 139 laws_FnDates.d66 HT_ ?_
                 refine un 15 140 laws_FnDates.d67 HT_ ?_
                 refine pu 16 141 laws_FnDates.d68 HT_ ?_
                 refine pu 17 2 laws_FnDates.d69 HT_ ?_
                 refine dn HT_ ?_
                 try go_wp2
                 go_ret
                 exact ⟨er, bh⟩
              ·
               rw [if_neg c126] at H
               have c126b0 : (t142 == t102) = false := beq_eq_false_iff_ne.mpr c126
               have c126b1 : (t142 != t102) = true := bne_iff_ne.mpr c126
               obtain rfl := Option.some.inj H
               try go_wp2_with (first | ((with_reducible refine gate_callee (f := 8) rfl ?_); refine goesL_ (some 90) rfl rfl Try.func8 (by kernel_rfl) rfl #[.int .i64 (wrap64 (t109 + 86400))] rfl mc ?_; (with_reducible refine (impl_DateAt.calls kj87 (wrap64 (t109 + 86400)) t142 t143 t144 t145 t146 t147 _ A99.out).mono ?_); rintro e w198 ⟨rfl, hb⟩; refine ⟨_, rfl, ?_⟩; replace BK108 := Aside0.mk (blk_below (g := gb108) (o := .cells #[.int .i64 t102, .int .i64 t103, .int .i64 t104, .int .i64 t105, .int .i64 t106, .int .i64 t107] 25 (0, 0)) bk hb); replace BK117 := Aside0.mk (blk_below (g := gb117) (o := .cells #[.int .i64 t111, .int .i64 t112, .int .i64 t113, .int .i64 t114, .int .i64 t115, .int .i64 t116] 25 (0, 0)) bk hb); replace HB := Aside0.mk (below_step bh hb); (try clear hb); (try clear hb2); (try clear hk); (try clear hi)) | ((with_reducible refine gate_dst (N := 7) rfl ?_); refine bx 7 #[.int .i64 0, .int .i64 0, .int .i64 0, .int .i64 0, .int .i64 0, .int .i64 0] 25 ?_; intro gb148 hg w199 hbox hb; have BK148 := Aside0.mk (hbox); have GW148 := Aside0.mk (bz hg); have GE148 := Aside0.mk (bz hg); have NB108_148 := Aside0.mk ((nl (o := .cells #[.int .i64 t102, .int .i64 t103, .int .i64 t104, .int .i64 t105, .int .i64 t106, .int .i64 t107] 25 (0, 0)) hg bk : gb108 ≠ gb148)); have NB148_108 := Aside0.mk ((ng (o := .cells #[.int .i64 t102, .int .i64 t103, .int .i64 t104, .int .i64 t105, .int .i64 t106, .int .i64 t107] 25 (0, 0)) hg bk : gb148 ≠ gb108)); have NB117_148 := Aside0.mk ((nl (o := .cells #[.int .i64 t111, .int .i64 t112, .int .i64 t113, .int .i64 t114, .int .i64 t115, .int .i64 t116] 25 (0, 0)) hg bk : gb117 ≠ gb148)); have NB148_117 := Aside0.mk ((ng (o := .cells #[.int .i64 t111, .int .i64 t112, .int .i64 t113, .int .i64 t114, .int .i64 t115, .int .i64 t116] 25 (0, 0)) hg bk : gb148 ≠ gb117)); replace BK108 := Aside0.mk (blk_below (g := gb108) (o := .cells #[.int .i64 t102, .int .i64 t103, .int .i64 t104, .int .i64 t105, .int .i64 t106, .int .i64 t107] 25 (0, 0)) bk hb); replace BK117 := Aside0.mk (blk_below (g := gb117) (o := .cells #[.int .i64 t111, .int .i64 t112, .int .i64 t113, .int .i64 t114, .int .i64 t115, .int .i64 t116] 25 (0, 0)) bk hb); replace HB := Aside0.mk (below_step bh hb); clear hb hbox hg; have hnb200 := NB148_108.out; have hnc200 := NB108_148.out; have hnb201 := NB148_117.out; have hnc201 := NB117_148.out; have hcz202_0 : w199.cell? ⟨gb148, 0, none⟩ = some (.int .i64 0) := bc BK148 0; have hcz202_1 : w199.cell? ⟨gb148, 1, none⟩ = some (.int .i64 0) := bc BK148 1; have hcz202_2 : w199.cell? ⟨gb148, 2, none⟩ = some (.int .i64 0) := bc BK148 2; have hcz202_3 : w199.cell? ⟨gb148, 3, none⟩ = some (.int .i64 0) := bc BK148 3; have hcz202_4 : w199.cell? ⟨gb148, 4, none⟩ = some (.int .i64 0) := bc BK148 4; have hcz202_5 : w199.cell? ⟨gb148, 5, none⟩ = some (.int .i64 0) := bc BK148 5; have hfz202_0 := blk_frozen BK148.out 0; have hfz202_1 := blk_frozen BK148.out 1; have hfz202_2 := blk_frozen BK148.out 2; have hfz202_3 := blk_frozen BK148.out 3; have hfz202_4 := blk_frozen BK148.out 4; have hfz202_5 := blk_frozen BK148.out 5; have hnb203 := NB108_117.out; have hnc203 := NB117_108.out; have hcz204_0 : w199.cell? ⟨gb108, 0, none⟩ = some (.int .i64 t102) := bc BK108 0; have hcz204_1 : w199.cell? ⟨gb108, 1, none⟩ = some (.int .i64 t103) := bc BK108 1; have hcz204_2 : w199.cell? ⟨gb108, 2, none⟩ = some (.int .i64 t104) := bc BK108 2; have hcz204_3 : w199.cell? ⟨gb108, 3, none⟩ = some (.int .i64 t105) := bc BK108 3; have hcz204_4 : w199.cell? ⟨gb108, 4, none⟩ = some (.int .i64 t106) := bc BK108 4; have hcz204_5 : w199.cell? ⟨gb108, 5, none⟩ = some (.int .i64 t107) := bc BK108 5; have hfz204_0 := blk_frozen BK108.out 0; have hfz204_1 := blk_frozen BK108.out 1; have hfz204_2 := blk_frozen BK108.out 2; have hfz204_3 := blk_frozen BK108.out 3; have hfz204_4 := blk_frozen BK108.out 4; have hfz204_5 := blk_frozen BK108.out 5))
               have n0_ : Aside0 (((((((w199.setCell ⟨gb148, 0, none⟩ (.int .i64 t142)).setCell ⟨gb148, 1, none⟩ (.int .i64 t143)).setCell ⟨gb148, 2, none⟩ (.int .i64 t144)).setCell ⟨gb148, 3, none⟩ (.int .i64 t145)).setCell ⟨gb148, 4, none⟩ (.int .i64 t146)).setCell ⟨gb148, 5, none⟩ (.int .i64 t147)).heap[gb108]? = some (.cells #[.int .i64 t102, .int .i64 t103, .int .i64 t104, .int .i64 t105, .int .i64 t106, .int .i64 t107] 25 (0, 0))) := ⟨by (with_reducible repeat (first | refine blk_drewN ?_ _ | refine blk_drew ?_ | refine blk_alloc ?_ _)); refine blk_far ?_ NB108_148.out _; (with_reducible repeat (first | refine blk_drewN ?_ _ | refine blk_drew ?_ | refine blk_alloc ?_ _)); refine blk_far ?_ NB108_148.out _; (with_reducible repeat (first | refine blk_drewN ?_ _ | refine blk_drew ?_ | refine blk_alloc ?_ _)); refine blk_far ?_ NB108_148.out _; (with_reducible repeat (first | refine blk_drewN ?_ _ | refine blk_drew ?_ | refine blk_alloc ?_ _)); refine blk_far ?_ NB108_148.out _; (with_reducible repeat (first | refine blk_drewN ?_ _ | refine blk_drew ?_ | refine blk_alloc ?_ _)); refine blk_far ?_ NB108_148.out _; (with_reducible repeat (first | refine blk_drewN ?_ _ | refine blk_drew ?_ | refine blk_alloc ?_ _)); refine blk_far ?_ NB108_148.out _; (with_reducible repeat (first | refine blk_drewN ?_ _ | refine blk_drew ?_ | refine blk_alloc ?_ _)); exact BK108.out⟩
               have n1_ : Aside0 (((((((w199.setCell ⟨gb148, 0, none⟩ (.int .i64 t142)).setCell ⟨gb148, 1, none⟩ (.int .i64 t143)).setCell ⟨gb148, 2, none⟩ (.int .i64 t144)).setCell ⟨gb148, 3, none⟩ (.int .i64 t145)).setCell ⟨gb148, 4, none⟩ (.int .i64 t146)).setCell ⟨gb148, 5, none⟩ (.int .i64 t147)).heap[gb117]? = some (.cells #[.int .i64 t111, .int .i64 t112, .int .i64 t113, .int .i64 t114, .int .i64 t115, .int .i64 t116] 25 (0, 0))) := ⟨by (with_reducible repeat (first | refine blk_drewN ?_ _ | refine blk_drew ?_ | refine blk_alloc ?_ _)); refine blk_far ?_ NB117_148.out _; (with_reducible repeat (first | refine blk_drewN ?_ _ | refine blk_drew ?_ | refine blk_alloc ?_ _)); refine blk_far ?_ NB117_148.out _; (with_reducible repeat (first | refine blk_drewN ?_ _ | refine blk_drew ?_ | refine blk_alloc ?_ _)); refine blk_far ?_ NB117_148.out _; (with_reducible repeat (first | refine blk_drewN ?_ _ | refine blk_drew ?_ | refine blk_alloc ?_ _)); refine blk_far ?_ NB117_148.out _; (with_reducible repeat (first | refine blk_drewN ?_ _ | refine blk_drew ?_ | refine blk_alloc ?_ _)); refine blk_far ?_ NB117_148.out _; (with_reducible repeat (first | refine blk_drewN ?_ _ | refine blk_drew ?_ | refine blk_alloc ?_ _)); refine blk_far ?_ NB117_148.out _; (with_reducible repeat (first | refine blk_drewN ?_ _ | refine blk_drew ?_ | refine blk_alloc ?_ _)); exact BK117.out⟩
               have n2_ : Aside0 (((((((w199.setCell ⟨gb148, 0, none⟩ (.int .i64 t142)).setCell ⟨gb148, 1, none⟩ (.int .i64 t143)).setCell ⟨gb148, 2, none⟩ (.int .i64 t144)).setCell ⟨gb148, 3, none⟩ (.int .i64 t145)).setCell ⟨gb148, 4, none⟩ (.int .i64 t146)).setCell ⟨gb148, 5, none⟩ (.int .i64 t147)).heap[gb148]? = some (.cells #[.int .i64 t142, .int .i64 t143, .int .i64 t144, .int .i64 t145, .int .i64 t146, .int .i64 t147] 25 (0, 0))) := ⟨by (with_reducible repeat (first | refine blk_drewN ?_ _ | refine blk_drew ?_ | refine blk_alloc ?_ _)); refine blk_put (cs := #[.int .i64 t142, .int .i64 t143, .int .i64 t144, .int .i64 t145, .int .i64 t146, .int .i64 0]) ?_ 5 _ rfl; (with_reducible repeat (first | refine blk_drewN ?_ _ | refine blk_drew ?_ | refine blk_alloc ?_ _)); refine blk_put (cs := #[.int .i64 t142, .int .i64 t143, .int .i64 t144, .int .i64 t145, .int .i64 0, .int .i64 0]) ?_ 4 _ rfl; (with_reducible repeat (first | refine blk_drewN ?_ _ | refine blk_drew ?_ | refine blk_alloc ?_ _)); refine blk_put (cs := #[.int .i64 t142, .int .i64 t143, .int .i64 t144, .int .i64 0, .int .i64 0, .int .i64 0]) ?_ 3 _ rfl; (with_reducible repeat (first | refine blk_drewN ?_ _ | refine blk_drew ?_ | refine blk_alloc ?_ _)); refine blk_put (cs := #[.int .i64 t142, .int .i64 t143, .int .i64 0, .int .i64 0, .int .i64 0, .int .i64 0]) ?_ 2 _ rfl; (with_reducible repeat (first | refine blk_drewN ?_ _ | refine blk_drew ?_ | refine blk_alloc ?_ _)); refine blk_put (cs := #[.int .i64 t142, .int .i64 0, .int .i64 0, .int .i64 0, .int .i64 0, .int .i64 0]) ?_ 1 _ rfl; (with_reducible repeat (first | refine blk_drewN ?_ _ | refine blk_drew ?_ | refine blk_alloc ?_ _)); refine blk_put (cs := #[.int .i64 0, .int .i64 0, .int .i64 0, .int .i64 0, .int .i64 0, .int .i64 0]) ?_ 0 _ rfl; (with_reducible repeat (first | refine blk_drewN ?_ _ | refine blk_drew ?_ | refine blk_alloc ?_ _)); exact BK148.out⟩
               have n3_ : Aside0 (Below w.heap.size w ((((((w199.setCell ⟨gb148, 0, none⟩ (.int .i64 t142)).setCell ⟨gb148, 1, none⟩ (.int .i64 t143)).setCell ⟨gb148, 2, none⟩ (.int .i64 t144)).setCell ⟨gb148, 3, none⟩ (.int .i64 t145)).setCell ⟨gb148, 4, none⟩ (.int .i64 t146)).setCell ⟨gb148, 5, none⟩ (.int .i64 t147))) := ⟨bh⟩
               (try clear BK108)
               (try clear BK117)
               (try clear BK148)
               (try clear HB)
               generalize ((((((w199.setCell ⟨gb148, 0, none⟩ (.int .i64 t142)).setCell ⟨gb148, 1, none⟩ (.int .i64 t143)).setCell ⟨gb148, 2, none⟩ (.int .i64 t144)).setCell ⟨gb148, 3, none⟩ (.int .i64 t145)).setCell ⟨gb148, 4, none⟩ (.int .i64 t146)).setCell ⟨gb148, 5, none⟩ (.int .i64 t147)) = w205 at n0_ n1_ n2_ n3_ ⊢
               have BK108 := n0_
               have BK117 := n1_
               have BK148 := n2_
               have HB := n3_
               clear n0_ n1_ n2_ n3_
               replace BK108 := Aside0.mk (blk_drew BK108.out)
               replace BK117 := Aside0.mk (blk_drew BK117.out)
               replace BK148 := Aside0.mk (blk_drew BK148.out)
               replace HB := Aside0.mk (below_drew1 HB.out)
               refine start_ (n := 18) (S := fun w' => True) (ds := []) laws_FnDates.d51 (by kernel_rfl) rfl rfl trivial (fun hHeld => ?_); refine with_tabW laws_FnDates.tab19 laws_FnDates.bits19 (fun HT_ HW_ => ?_)
               generalize w205.drew = w206 at BK108 BK117 BK148 HB hHeld ⊢
               refine pu 0 125 laws_FnDates.d52 HT_ ?_
               refine pu 1 126 laws_FnDates.d53 HT_ ?_
               refine un 2 127 laws_FnDates.d54 HT_ ?_
               refine un 3 128 laws_FnDates.d71 HT_ ?_
               refine un 4 129 laws_FnDates.d56 HT_ ?_
               refine un 5 130 laws_FnDates.d57 HT_ ?_
               refine un 6 131 laws_FnDates.d58 HT_ ?_
               refine un 7 132 laws_FnDates.d59 HT_ ?_
               refine un 8 133 laws_FnDates.d60 HT_ ?_
               refine pu 9 134 laws_FnDates.d61 HT_ ?_
               refine pu 10 135 laws_FnDates.d62 HT_ ?_
               refine un 11 136 laws_FnDates.d63 HT_ ?_
               refine un 12 137 laws_FnDates.d70 HT_ ?_
               refine un 13 138 laws_FnDates.d65 HT_ ?_
               refine un 14 139 laws_FnDates.d66 HT_ ?_
               refine un 15 140 laws_FnDates.d67 HT_ ?_
               refine pu 16 141 laws_FnDates.d68 HT_ ?_
               refine pu 17 2 laws_FnDates.d69 HT_ ?_
               refine dn HT_ ?_
               try go_wp2
               go_ret
               exact ⟨er, bh⟩

/-- THE ONE PURE STATEMENT of laws_FnDates: yours. -/
def laws_FnDates.Pure : Prop := ∀ (l0 : List Int), l0.length ≤ maxLen → l0.length * 1 ≤ 140737488351232 → (∀ x ∈ l0, (Lit.int .u8 x).wf = true) → ∃ k, laws_FnDates.f k l0 = some true
theorem laws_FnDates.walk (P : laws_FnDates.Pure) (a0 : Option Addr) (len0 cap0 : Nat) (z0 : List Int) (w : World) (w0 : (a0 = none ∧ len0 = 0 ∧ cap0 = 0 ∧ z0 = []) ∨ ∃ x, a0 = some x ∧ len0 ≤ cap0 ∧ cap0 ≤ maxLen ∧ z0.length = cap0 ∧ (∀ i, i < z0.length → w.cell? (x.add i) = some (.int .u8 (z0.getD i 0))) ∧ ∀ n ∈ z0, (Lit.int .u8 n).wf = true) (y0 : len0 * 1 ≤ 140737488351232) :
  Calls Try.prog 3 #[.slice a0 len0 cap0] w fun e w' => e = .returned (.bool true) ∧ Below w.heap.size w w' := by
 obtain ⟨l0, rfl, hr0, hm0, hw0, hc0⟩ := ReadsInt.ofRowC w0
 obtain ⟨k, h⟩ := P l0 hm0 y0 hw0
 refine (laws_FnDates.calls k _ _ l0 true w (Kd.C_of_reads (d := (0 : Int)) (h1 := fun _ => rfl) hr0) hc0 h).mono ?_
 rintro e w' ⟨rfl, hd⟩
 exact ⟨rfl, hd⟩

end Go.Proofs.Ytpolkndhjcdheaa.P
