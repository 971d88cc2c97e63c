-- Printed by a program of this session (mp.py, over the kit's print). Not trusted: Lean checks it.
import Derived.Test.YtddadihobjinhaaF0
import Derived.Test.YtddadihobjinhaaBways
namespace Go.Proofs.Ytddadihobjinhaa.P
open Go.RowKit Go.Proofs.YtddadihobjinhaaW.PrintWords Go.Proofs.YtddadihobjinhaaW.PrintLast Go.Proofs.YtddadihobjinhaaW.PrintMore
attribute [local go_sem] max2_int min2_int max_two min_two max_three min_three max_four min_four   -- for this text's walks alone
set_option linter.unusedVariables false
set_option linter.unusedSimpArgs false

/-! ### impl_Net_all: function 52 -/
-- LIBTEXT Derived.Test.YtddadihobjinhaaBways
def impl_Net_all.f (k : Nat) (ab : Int) (aa : List (S53)) (a1 : Int) (a2 : Int) : Option (List (List Int)) := allF k ab aa a1 a2
theorem impl_Net_all.mono : ∀ a0 a1 a2 a3 k, LeO (impl_Net_all.f k a0 a1 a2 a3) (impl_Net_all.f (k + 1) a0 a1 a2 a3) := allF_mono
theorem impl_Net_all.calls (k : Nat) (ab : Int) (ac : Option Addr) (ae : Nat) (aa : List (S53)) (a1 : Int) (a2 : Int) (r : List (List Int)) (w : World) (af : Kd.C k53 w ac aa.length aa) (ag : aa.length ≤ ae) (h : impl_Net_all.f k ab aa a1 a2 = some r) :
 Calls Try.prog 52 #[.agg #[.int .i64 ab, .slice ac aa.length ae], .int .i64 a1, .int .i64 a2] w fun e w' => ∃ ah : Value, e = .returned (ah) ∧ Kd.S (Kd.slice 3 (Kd.int .i64)) 25 w' w.heap.size (fun _ => True) ah r ∧ Below w.heap.size w w' := all_calls k ab ac ae aa a1 a2 r w af ag h

end Go.Proofs.Ytddadihobjinhaa.P
