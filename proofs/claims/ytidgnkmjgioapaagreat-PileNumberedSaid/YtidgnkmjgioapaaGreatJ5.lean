/-
  Part 8 of the proof. gladstonelaw04.PileNumbered answers true for every list of numbers, and leaves its argument as it was. No conditions.
-/
import Derived.Test.YtidgnkmjgioapaaGreatJ4
set_option maxRecDepth 100000
set_option maxHeartbeats 8000000
set_option linter.all false
open Bool renaming true->LG
open Go.Proofs.Tryz renaming prog->Ma
open Option renaming some->Lq
namespace Go.Proofs.YtidgnkmjgioapaaGreat
section
open Go Go.RowKit
def Je:mapsRowed Ma=LG:=by kernel_rfl
def GK:(Tryz.prog.stops == [])=LG:=by kernel_rfl
def GO:(Tryz.prog.stopKnobs == [])=LG:=by kernel_rfl
def Jg:(Rows.pileLoadsRow.plainKeys == Tryz.prog.plainKeys)=LG:=by kernel_rfl
def GP:Tryz.prog.stopsHeard=LG:=by kernel_rfl
def Jf:(Tryz.prog.make == Lq Rows.pileLoadsRow.make)=LG:=by kernel_rfl
end
end Go.Proofs.YtidgnkmjgioapaaGreat
