/-
  Part 7 of the proof. gladstonelaw04.PileMost answers true for every list of numbers, and leaves its argument as it was. No conditions.
-/
import Derived.Test.YtidgnkmjgioapaaGreatJ3
set_option maxRecDepth 100000
set_option maxHeartbeats 8000000
set_option linter.all false
section
namespace Go.Proofs.YtidgnkmjgioapaaGreat
open Go Go.RowKit
theorem g_may:Tryz.prog.mayEnter=true:=by kernel_rfl
theorem g_lifts:(Rows.pileLoadsRow.lifted == Tryz.prog.liftsFinal)=true:=by kernel_rfl
end Go.Proofs.YtidgnkmjgioapaaGreat
end
