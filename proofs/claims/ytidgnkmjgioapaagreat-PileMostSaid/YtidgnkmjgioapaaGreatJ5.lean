/-
  Part 8 of the proof. gladstonelaw04.PileMost answers true for every list of numbers, and leaves its argument as it was. No conditions.
-/
import Derived.Test.YtidgnkmjgioapaaGreatJ4
set_option maxRecDepth 100000
set_option maxHeartbeats 8000000
set_option linter.all false
open Go.Proofs.Tryz renaming prog → q8v
section
namespace Go.Proofs.YtidgnkmjgioapaaGreat
open Go Go.RowKit
theorem g_maps:mapsRowed q8v=true:=by kernel_rfl
theorem g_stops:(Tryz.prog.stops == [])=true:=by kernel_rfl
theorem g_knobs:(Tryz.prog.stopKnobs == [])=true:=by kernel_rfl
theorem g_keys:(Rows.pileLoadsRow.plainKeys == Tryz.prog.plainKeys)=true:=by kernel_rfl
theorem g_heard:Tryz.prog.stopsHeard=true:=by kernel_rfl
theorem g_make:(Tryz.prog.make == some Rows.pileLoadsRow.make)=true:=by kernel_rfl
end Go.Proofs.YtidgnkmjgioapaaGreat
end
