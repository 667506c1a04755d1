/-
  Part 7 of the proof. gladstonelaw04.PileCounts answers true for every yard, parcel and list of numbers that the statement takes, and leaves its arguments as they were. No conditions.
-/
import Derived.Test.YtidgnkmjgioapaaGreatJ3
set_option maxRecDepth 100000
set_option maxHeartbeats 8000000
set_option linter.all false
namespace Go.Proofs.YtidgnkmjgioapaaGreat
section
open Go Go.RowKit
def qh0:Tryz.prog.mayEnter=true:=by kernel_rfl
def qdD:(Rows.pileLoadsRow.lifted == Tryz.prog.liftsFinal)=true:=by kernel_rfl
end
end Go.Proofs.YtidgnkmjgioapaaGreat
