import Derived.Test.YtdagpgccjamkmaaGx0
import Derived.Test.YtdagpgccjamkmaaC5
/-! 'known': it answers true. -/
namespace Go.Proofs.Ytdagpgccjamkmaa.G
open Go.RowKit
def verdererlaw15_known.f : Option Bool := some true
theorem verdererlaw15_known.calls (r : Bool) (w : World) (h : verdererlaw15_known.f = some r) :
    Calls Try.prog 5 #[] w fun e w' => e = .returned (.bool r) ∧ Below w.heap.size w w' := by
  obtain rfl : true = r := Option.some.inj h
  exact Go.Cm.known_any w
end Go.Proofs.Ytdagpgccjamkmaa.G
