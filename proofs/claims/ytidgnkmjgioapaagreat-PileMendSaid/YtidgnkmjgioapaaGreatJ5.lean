/-
  Part 8 of the proof. PileMend answers true for every list and keeps it. No conditions.
-/
import Derived.Test.YtidgnkmjgioapaaGreatJ4
set_option maxRecDepth 100000
set_option maxHeartbeats 8000000
set_option linter.all false
open Go.Proofs.Tryz renaming prog->qh3
namespace Go.Proofs.YtidgnkmjgioapaaGreat
section
open Go Go.RowKit
theorem qf0:mapsRowed qh3=true:=by kernel_rfl
theorem qd6:(Tryz.prog.stops == [])=true:=by kernel_rfl
theorem qd8:(Tryz.prog.stopKnobs == [])=true:=by kernel_rfl
theorem qf2:(Rows.pileLoadsRow.plainKeys == Tryz.prog.plainKeys)=true:=by kernel_rfl
theorem qd9:Tryz.prog.stopsHeard=true:=by kernel_rfl
theorem qf1:(Tryz.prog.make == some Rows.pileLoadsRow.make)=true:=by kernel_rfl
end
end Go.Proofs.YtidgnkmjgioapaaGreat
