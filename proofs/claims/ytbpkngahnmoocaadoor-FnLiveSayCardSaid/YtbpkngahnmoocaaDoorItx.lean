/- strconv.Itoa over this program, under the library's table as its initialiser lays it. -/
import Derived.Test.YtbpkngahnmoocaaDoorGm
import Derived.Test.YtbpkngahnmoocaaDoorItl
import Derived.Lib.AppendIntMem
namespace Go.Proofs.YtbpkngahnmoocaaDoor.P
open Go.RowKit Go.Lib Go.Sort Go.Proofs.YtbpkngahnmoocaaDoorW.PrintWords
set_option linter.unusedVariables false
set_option linter.unusedSimpArgs false
/-- what the row lists of the table -/
def TabP (w : World) : Prop := Lib.TabIs Tryd.prog w "internal/strconv.uint64pow10" .u64 Lib.pow10Tab
theorem lay {w w1 : World} (hT : TabP w) (hb : Below w.heap.size w w1) : TabP w1 := Lib.tabBelow_of_tabIs hT _ hb
/-- a number in decimals -/
def decB (n : Int) : ByteArray := ⟨(Lib.itoa n).toArray⟩
theorem itoa_calls (n : Int) (h0 : -9223372036854775808 ≤ n) (h1 : n ≤ 9223372036854775807) (w : World) (hT : TabP w) :
    Calls Tryd.prog 11 #[.int .i64 n] w fun e w' => e = .returned (.string (decB n)) ∧ Below w.heap.size w w' := by
  refine (Any.strconv_Itoa Tryd.itoaLay n h0 h1 w hT).mono ?_
  rintro e w' ⟨rfl, k, os, rfl⟩
  refine ⟨rfl, rfl, rfl, rfl, by simp [Sort.grow], fun i hi => ?_⟩
  exact Sort.heap_grow_old (w.drewN k) os hi
end Go.Proofs.YtbpkngahnmoocaaDoor.P
