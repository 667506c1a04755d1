/-
  Part 8 of the proof. PileWeigh answers true for every list and keeps it. No conditions.
-/
import Derived.Test.YtidgnkmjgioapaaGreatJ4
set_option maxRecDepth 100000
set_option maxHeartbeats 8000000
set_option linter.all false
open Go.Proofs.Tryz renaming prog->qgr
namespace Go.Proofs.YtidgnkmjgioapaaGreat
section
open Go Go.RowKit
theorem qek:mapsRowed qgr=true:=by kernel_rfl
theorem qcu:(Tryz.prog.stops == [])=true:=by kernel_rfl
theorem qcw:(Tryz.prog.stopKnobs == [])=true:=by kernel_rfl
theorem qem:(Rows.pileLoadsRow.plainKeys == Tryz.prog.plainKeys)=true:=by kernel_rfl
theorem qcx:Tryz.prog.stopsHeard=true:=by kernel_rfl
theorem qel:(Tryz.prog.make == some Rows.pileLoadsRow.make)=true:=by kernel_rfl
end
end Go.Proofs.YtidgnkmjgioapaaGreat
