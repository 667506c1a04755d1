/-
  Part 7 of the proof. gladstonelaw04.PileMends answers true for every yard, parcel, pile, number and list of numbers that the statement takes, and leaves its arguments as they were. No conditions.
-/
import Derived.Test.YtidgnkmjgioapaaGreatJ3
set_option maxRecDepth 100000
set_option maxHeartbeats 8000000
set_option linter.all false
open Bool renaming true->NB
namespace Go.Proofs.YtidgnkmjgioapaaGreat
section
open Go Go.RowKit
def Mv:Tryz.prog.mayEnter=NB:=by kernel_rfl
def Ju:(Rows.pileLoadsRow.lifted == Tryz.prog.liftsFinal)=NB:=by kernel_rfl
end
end Go.Proofs.YtidgnkmjgioapaaGreat
