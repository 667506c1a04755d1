/-
  Part 7 of the proof. gladstonelaw04.PileNumbered answers true for every list of numbers, and leaves its argument as it was. No conditions.
-/
import Derived.Test.YtidgnkmjgioapaaGreatJ3
set_option maxRecDepth 100000
set_option maxHeartbeats 8000000
set_option linter.all false
open Bool renaming true->LG
namespace Go.Proofs.YtidgnkmjgioapaaGreat
section
open Go Go.RowKit
def Kj:Tryz.prog.mayEnter=LG:=by kernel_rfl
def GL:(Rows.pileLoadsRow.lifted == Tryz.prog.liftsFinal)=LG:=by kernel_rfl
end
end Go.Proofs.YtidgnkmjgioapaaGreat
