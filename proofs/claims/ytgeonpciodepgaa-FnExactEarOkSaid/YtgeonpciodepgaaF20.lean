-- Printed by a program of this session (mp.py, over the kit's print). Not trusted: Lean checks it.
import Derived.Test.YtgeonpciodepgaaF0
import Derived.Test.YtgeonpciodepgaaBearok
namespace Go.Proofs.Ytgeonpciodepgaa.P
open Go.RowKit Go.Proofs.YtgeonpciodepgaaW.PrintWords Go.Proofs.YtgeonpciodepgaaW.PrintLast Go.Proofs.YtgeonpciodepgaaW.PrintMore
attribute [local go_sem] max2_int min2_int max_two min_two max_three min_three max_four min_four   -- for this text's walks alone
set_option linter.unusedVariables false
set_option linter.unusedSimpArgs false

/-! ### impl_EarOk: function 19 -/
-- LIBTEXT Derived.Test.YtgeonpciodepgaaBearok
def impl_EarOk.f (k : Nat) (ab : Int) (aa : List (S59)) (l1 : List (List Int)) : Option (Bool) := earOkW.f k ab aa l1 []
theorem impl_EarOk.mono : ∀ a0 a1 a2 k, LeO (impl_EarOk.f k a0 a1 a2) (impl_EarOk.f (k + 1) a0 a1 a2) := fun a0 a1 a2 k => earOkW.mono a0 a1 a2 [] k
theorem impl_EarOk.calls (k : Nat) (ab : Int) (ac : Option Addr) (ae : Nat) (aa : List (S59)) (A1 : Option Addr) (c1 : Nat) (l1 : List (List Int)) (r : Bool) (w : World) (af : Kd.C k59 w ac aa.length aa) (ag : aa.length ≤ ae) (hr1 : Kd.C (Kd.slice 3 (Kd.int .i64)) w A1 l1.length l1) (ah : l1.length ≤ c1) (h : impl_EarOk.f k ab aa l1 = some r) :
 Calls Try.prog 19 #[.agg #[.int .i64 ab, .slice ac aa.length ae], .slice A1 l1.length c1] w fun e w' => e = .returned (.bool r) ∧ Below w.heap.size w w' := earOkW.calls k ab ac ae aa A1 c1 l1 [] r w af ag hr1 ah h

end Go.Proofs.Ytgeonpciodepgaa.P
