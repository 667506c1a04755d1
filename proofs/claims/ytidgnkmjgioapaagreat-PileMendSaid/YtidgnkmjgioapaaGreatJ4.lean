/-
  Part 7 of the proof. PileMend answers true for every list and keeps it. No conditions.
-/
import Derived.Test.YtidgnkmjgioapaaGreatJ3
set_option maxRecDepth 100000
set_option maxHeartbeats 8000000
set_option linter.all false
namespace Go.Proofs.YtidgnkmjgioapaaGreat
section
open Go Go.RowKit
theorem qg5:Tryz.prog.mayEnter=true:=by kernel_rfl
theorem qd7:(Rows.pileLoadsRow.lifted == Tryz.prog.liftsFinal)=true:=by kernel_rfl
end
end Go.Proofs.YtidgnkmjgioapaaGreat
