import Derived.KernelRfl
import Derived.Test.YtdagpgccjamkmaaChecked
import Derived.Test.YtdagpgccjamkmaaC4
namespace Go.Cm
open Go.RowKit
theorem known_noCount : NoCount Go.Proofs.Try.prog := by
  unfold NoCount
  kernel_rfl
theorem known_run : allB ((evals0 (tab0 Go.Proofs.Try.prog) 4000).call (.func 5 [] []) [] .leaf .leaf 100) isTrue = true := by kernel_rfl
theorem depth8 (P : Program) : 8 ≤ P.depth := by
  unfold Program.depth Made.depth
  omega
theorem known_globals : Go.Proofs.Try.prog.globals.size ≤ 100 := Nat.le_of_ble_eq_true (by kernel_rfl)
theorem known_mixed : Go.Proofs.Try.prog.follows .mixedOrders = true := Checked.mixed Go.Proofs.Try.checked
theorem known_any (w : World) : Calls Go.Proofs.Try.prog 5 #[] w fun e w' => e = .returned (.bool true) ∧ Below w.heap.size w w' :=
  closed_true (depth8 _) known_mixed known_noCount known_globals known_run w
end Go.Cm
#print axioms Go.Cm.known_any
