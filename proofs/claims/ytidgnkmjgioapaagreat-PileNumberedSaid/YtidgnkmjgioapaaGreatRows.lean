/-
  No cell of these rows narrows 'for every input' (looked for: loops, veiled, ifaces, maps, wideKeys, modest, calm, conditions, laid).
  DERIVED. THE GIVEN ROWS OF THIS SEAT. 19 by the template 'for every input the law returns true; each argument reads behind the call as it read before'; 0 by the template 'total and deterministic' (their statements: YtidgnkmjgioapaaGreatTotals.lean).
  GIVEN WITH THE SEED: the statements are not yours to turn. If you find one false, say at which input.
  Laid BY PROGRAM, IN A SANDBOX (cutbox-rows.mjs): the forced cells as the released guide's own fill.sh prints them over the translation 3f1a2b018fe1380f… (all of the seat's roots in one cut). By AI agents, Wed Nov 11 2026. No macro, syntax, notation, axiom, sorry.
-/
import Derived.Test.YtidgnkmjgioapaaGreatChecked
import GoSem.Claim
import GoSem.ClaimJoined
import GoSem.ClaimMapViews
import Derived.JoinedTies
import Derived.KernelRfl
namespace Go.Proofs.YtidgnkmjgioapaaGreat
/- THE CELL 'sum', in the pinned program and in every row, IS THE sha256 OF THE DUMP (.gsa) THAT YtidgnkmjgioapaaGreatProg.lean LOADS. Nothing in Lean hashes anything: it is a label: what it is worth is what the hold of that sum in a sandbox is worth. -/
noncomputable def Tryz.pinned : Pinned := { name := "ytidgnkmjgioapaagreat", sum := "3f1a2b018fe1380f72618136b42566041d08bd71d1836348ea48ada6b1697eaa", checked := Tryz.checked }
namespace Rows
def none {H : Type} : Left H := { results := [], args := [] }

/-- 'gladstonelaw04.PileWeighs': WHATEVER THE INPUT: true; the input reads as it did. -/
def pileWeighsSpec : ChangeSpec := { name := "pileWeighs", fn := fun _ => fun
  | [d1, d2, d3, d4, d5] => { results := [.lit (.bool true)], args := [d1, d2, d3, d4, d5] }
  | _ => none }
def pileWeighsRow : OpenClaim := { program := "ytidgnkmjgioapaagreat", sum := "3f1a2b018fe1380f72618136b42566041d08bd71d1836348ea48ada6b1697eaa", func := "gladstone/gladstonelaw04.PileWeighs", spec := "pileWeighs", inPlace := ["(*sync.WaitGroup).Add", "internal/race.ReleaseMerge", "internal/race.Disable", "internal/race.Enable", "internal/synctest.IsInBubble", "internal/synctest.Associate[sync.WaitGroup]", "sync.fatal", "sync/atomic.OrUint64", "sync/atomic.AddUint64", "internal/race.Read", "sync/atomic.LoadUint64", "sync/atomic.StoreUint64", "internal/synctest.Disassociate[sync.WaitGroup]", "sync.runtime_Semrelease", "(*sync.WaitGroup).Done", "sync/atomic.AddInt64", "sync/atomic.LoadUint32", "sync/atomic.StoreUint32", "(*sync.WaitGroup).Wait", "internal/race.Acquire", "internal/synctest.IsAssociated[sync.WaitGroup]", "sync/atomic.CompareAndSwapUint64", "internal/race.Write", "sync.runtime_SemacquireWaitGroup"], unfollowed := true, recurses := true, plainKeys := false, leaving := true, apart := false }
def PileWeighsSaid : Prop := pileWeighsRow.holds Tryz.pinned (OpenSpec.ofChange pileWeighsSpec)

/-- ITS FALSE NEIGHBOUR: 'it returns false'. Refute it at one input. -/
def pileWeighsWrong : ChangeSpec := { name := "pileWeighs", fn := fun _ => fun
  | [d1, d2, d3, d4, d5] => { results := [.lit (.bool false)], args := [d1, d2, d3, d4, d5] }
  | _ => none }
def PileWeighsWrongFalsely : Prop := pileWeighsRow.holds Tryz.pinned (OpenSpec.ofChange pileWeighsWrong)

/-- 'gladstonelaw04.PileLoads': WHATEVER THE INPUT: true; the input reads as it did. -/
def pileLoadsSpec : ChangeSpec := { name := "pileLoads", fn := fun _ => fun
  | [d] => { results := [.lit (.bool true)], args := [d] }
  | _ => none }
def pileLoadsRow : OpenClaim := { program := "ytidgnkmjgioapaagreat", sum := "3f1a2b018fe1380f72618136b42566041d08bd71d1836348ea48ada6b1697eaa", func := "gladstone/gladstonelaw04.PileLoads", spec := "pileLoads", inPlace := ["(*sync.WaitGroup).Add", "internal/race.ReleaseMerge", "internal/race.Disable", "internal/race.Enable", "internal/synctest.IsInBubble", "internal/synctest.Associate[sync.WaitGroup]", "sync.fatal", "sync/atomic.OrUint64", "sync/atomic.AddUint64", "internal/race.Read", "sync/atomic.LoadUint64", "sync/atomic.StoreUint64", "internal/synctest.Disassociate[sync.WaitGroup]", "sync.runtime_Semrelease", "(*sync.WaitGroup).Done", "sync/atomic.AddInt64", "sync/atomic.LoadUint32", "sync/atomic.StoreUint32", "(*sync.WaitGroup).Wait", "internal/race.Acquire", "internal/synctest.IsAssociated[sync.WaitGroup]", "sync/atomic.CompareAndSwapUint64", "internal/race.Write", "sync.runtime_SemacquireWaitGroup"], unfollowed := true, recurses := true, plainKeys := false, leaving := true, apart := false }
def PileLoadsSaid : Prop := pileLoadsRow.holds Tryz.pinned (OpenSpec.ofChange pileLoadsSpec)

/-- ITS FALSE NEIGHBOUR: 'it returns false'. Refute it at one input. -/
def pileLoadsWrong : ChangeSpec := { name := "pileLoads", fn := fun _ => fun
  | [d] => { results := [.lit (.bool false)], args := [d] }
  | _ => none }
def PileLoadsWrongFalsely : Prop := pileLoadsRow.holds Tryz.pinned (OpenSpec.ofChange pileLoadsWrong)

/-- 'gladstonelaw04.PileSpare': WHATEVER THE INPUT: true; the input reads as it did. -/
def pileSpareSpec : ChangeSpec := { name := "pileSpare", fn := fun _ => fun
  | [d] => { results := [.lit (.bool true)], args := [d] }
  | _ => none }
def pileSpareRow : OpenClaim := { program := "ytidgnkmjgioapaagreat", sum := "3f1a2b018fe1380f72618136b42566041d08bd71d1836348ea48ada6b1697eaa", func := "gladstone/gladstonelaw04.PileSpare", spec := "pileSpare", inPlace := ["(*sync.WaitGroup).Add", "internal/race.ReleaseMerge", "internal/race.Disable", "internal/race.Enable", "internal/synctest.IsInBubble", "internal/synctest.Associate[sync.WaitGroup]", "sync.fatal", "sync/atomic.OrUint64", "sync/atomic.AddUint64", "internal/race.Read", "sync/atomic.LoadUint64", "sync/atomic.StoreUint64", "internal/synctest.Disassociate[sync.WaitGroup]", "sync.runtime_Semrelease", "(*sync.WaitGroup).Done", "sync/atomic.AddInt64", "sync/atomic.LoadUint32", "sync/atomic.StoreUint32", "(*sync.WaitGroup).Wait", "internal/race.Acquire", "internal/synctest.IsAssociated[sync.WaitGroup]", "sync/atomic.CompareAndSwapUint64", "internal/race.Write", "sync.runtime_SemacquireWaitGroup"], unfollowed := true, recurses := true, plainKeys := false, leaving := true, apart := false }
def PileSpareSaid : Prop := pileSpareRow.holds Tryz.pinned (OpenSpec.ofChange pileSpareSpec)

/-- ITS FALSE NEIGHBOUR: 'it returns false'. Refute it at one input. -/
def pileSpareWrong : ChangeSpec := { name := "pileSpare", fn := fun _ => fun
  | [d] => { results := [.lit (.bool false)], args := [d] }
  | _ => none }
def PileSpareWrongFalsely : Prop := pileSpareRow.holds Tryz.pinned (OpenSpec.ofChange pileSpareWrong)

/-- 'gladstonelaw04.PileWeigh': WHATEVER THE INPUT: true; the input reads as it did. -/
def pileWeighSpec : ChangeSpec := { name := "pileWeigh", fn := fun _ => fun
  | [d] => { results := [.lit (.bool true)], args := [d] }
  | _ => none }
def pileWeighRow : OpenClaim := { program := "ytidgnkmjgioapaagreat", sum := "3f1a2b018fe1380f72618136b42566041d08bd71d1836348ea48ada6b1697eaa", func := "gladstone/gladstonelaw04.PileWeigh", spec := "pileWeigh", inPlace := ["(*sync.WaitGroup).Add", "internal/race.ReleaseMerge", "internal/race.Disable", "internal/race.Enable", "internal/synctest.IsInBubble", "internal/synctest.Associate[sync.WaitGroup]", "sync.fatal", "sync/atomic.OrUint64", "sync/atomic.AddUint64", "internal/race.Read", "sync/atomic.LoadUint64", "sync/atomic.StoreUint64", "internal/synctest.Disassociate[sync.WaitGroup]", "sync.runtime_Semrelease", "(*sync.WaitGroup).Done", "sync/atomic.AddInt64", "sync/atomic.LoadUint32", "sync/atomic.StoreUint32", "(*sync.WaitGroup).Wait", "internal/race.Acquire", "internal/synctest.IsAssociated[sync.WaitGroup]", "sync/atomic.CompareAndSwapUint64", "internal/race.Write", "sync.runtime_SemacquireWaitGroup"], unfollowed := true, recurses := true, plainKeys := false, leaving := true, apart := false }
def PileWeighSaid : Prop := pileWeighRow.holds Tryz.pinned (OpenSpec.ofChange pileWeighSpec)

/-- ITS FALSE NEIGHBOUR: 'it returns false'. Refute it at one input. -/
def pileWeighWrong : ChangeSpec := { name := "pileWeigh", fn := fun _ => fun
  | [d] => { results := [.lit (.bool false)], args := [d] }
  | _ => none }
def PileWeighWrongFalsely : Prop := pileWeighRow.holds Tryz.pinned (OpenSpec.ofChange pileWeighWrong)

/-- 'gladstonelaw04.PileMost': WHATEVER THE INPUT: true; the input reads as it did. -/
def pileMostSpec : ChangeSpec := { name := "pileMost", fn := fun _ => fun
  | [d] => { results := [.lit (.bool true)], args := [d] }
  | _ => none }
def pileMostRow : OpenClaim := { program := "ytidgnkmjgioapaagreat", sum := "3f1a2b018fe1380f72618136b42566041d08bd71d1836348ea48ada6b1697eaa", func := "gladstone/gladstonelaw04.PileMost", spec := "pileMost", inPlace := ["(*sync.WaitGroup).Add", "internal/race.ReleaseMerge", "internal/race.Disable", "internal/race.Enable", "internal/synctest.IsInBubble", "internal/synctest.Associate[sync.WaitGroup]", "sync.fatal", "sync/atomic.OrUint64", "sync/atomic.AddUint64", "internal/race.Read", "sync/atomic.LoadUint64", "sync/atomic.StoreUint64", "internal/synctest.Disassociate[sync.WaitGroup]", "sync.runtime_Semrelease", "(*sync.WaitGroup).Done", "sync/atomic.AddInt64", "sync/atomic.LoadUint32", "sync/atomic.StoreUint32", "(*sync.WaitGroup).Wait", "internal/race.Acquire", "internal/synctest.IsAssociated[sync.WaitGroup]", "sync/atomic.CompareAndSwapUint64", "internal/race.Write", "sync.runtime_SemacquireWaitGroup"], unfollowed := true, recurses := true, plainKeys := false, leaving := true, apart := false }
def PileMostSaid : Prop := pileMostRow.holds Tryz.pinned (OpenSpec.ofChange pileMostSpec)

/-- ITS FALSE NEIGHBOUR: 'it returns false'. Refute it at one input. -/
def pileMostWrong : ChangeSpec := { name := "pileMost", fn := fun _ => fun
  | [d] => { results := [.lit (.bool false)], args := [d] }
  | _ => none }
def PileMostWrongFalsely : Prop := pileMostRow.holds Tryz.pinned (OpenSpec.ofChange pileMostWrong)

/-- 'gladstonelaw04.PileChecks': WHATEVER THE INPUT: true; the input reads as it did. -/
def pileChecksSpec : ChangeSpec := { name := "pileChecks", fn := fun _ => fun
  | [d1, d2, d3, d4, d5] => { results := [.lit (.bool true)], args := [d1, d2, d3, d4, d5] }
  | _ => none }
def pileChecksRow : OpenClaim := { program := "ytidgnkmjgioapaagreat", sum := "3f1a2b018fe1380f72618136b42566041d08bd71d1836348ea48ada6b1697eaa", func := "gladstone/gladstonelaw04.PileChecks", spec := "pileChecks", inPlace := ["(*sync.WaitGroup).Add", "internal/race.ReleaseMerge", "internal/race.Disable", "internal/race.Enable", "internal/synctest.IsInBubble", "internal/synctest.Associate[sync.WaitGroup]", "sync.fatal", "sync/atomic.OrUint64", "sync/atomic.AddUint64", "internal/race.Read", "sync/atomic.LoadUint64", "sync/atomic.StoreUint64", "internal/synctest.Disassociate[sync.WaitGroup]", "sync.runtime_Semrelease", "(*sync.WaitGroup).Done", "sync/atomic.AddInt64", "sync/atomic.LoadUint32", "sync/atomic.StoreUint32", "(*sync.WaitGroup).Wait", "internal/race.Acquire", "internal/synctest.IsAssociated[sync.WaitGroup]", "sync/atomic.CompareAndSwapUint64", "internal/race.Write", "sync.runtime_SemacquireWaitGroup"], unfollowed := true, recurses := true, plainKeys := false, leaving := true, apart := false }
def PileChecksSaid : Prop := pileChecksRow.holds Tryz.pinned (OpenSpec.ofChange pileChecksSpec)

/-- ITS FALSE NEIGHBOUR: 'it returns false'. Refute it at one input. -/
def pileChecksWrong : ChangeSpec := { name := "pileChecks", fn := fun _ => fun
  | [d1, d2, d3, d4, d5] => { results := [.lit (.bool false)], args := [d1, d2, d3, d4, d5] }
  | _ => none }
def PileChecksWrongFalsely : Prop := pileChecksRow.holds Tryz.pinned (OpenSpec.ofChange pileChecksWrong)

/-- 'gladstonelaw04.PileMends': WHATEVER THE INPUT: true; the input reads as it did. -/
def pileMendsSpec : ChangeSpec := { name := "pileMends", fn := fun _ => fun
  | [d1, d2, d3, d4, d5] => { results := [.lit (.bool true)], args := [d1, d2, d3, d4, d5] }
  | _ => none }
def pileMendsRow : OpenClaim := { program := "ytidgnkmjgioapaagreat", sum := "3f1a2b018fe1380f72618136b42566041d08bd71d1836348ea48ada6b1697eaa", func := "gladstone/gladstonelaw04.PileMends", spec := "pileMends", inPlace := ["(*sync.WaitGroup).Add", "internal/race.ReleaseMerge", "internal/race.Disable", "internal/race.Enable", "internal/synctest.IsInBubble", "internal/synctest.Associate[sync.WaitGroup]", "sync.fatal", "sync/atomic.OrUint64", "sync/atomic.AddUint64", "internal/race.Read", "sync/atomic.LoadUint64", "sync/atomic.StoreUint64", "internal/synctest.Disassociate[sync.WaitGroup]", "sync.runtime_Semrelease", "(*sync.WaitGroup).Done", "sync/atomic.AddInt64", "sync/atomic.LoadUint32", "sync/atomic.StoreUint32", "(*sync.WaitGroup).Wait", "internal/race.Acquire", "internal/synctest.IsAssociated[sync.WaitGroup]", "sync/atomic.CompareAndSwapUint64", "internal/race.Write", "sync.runtime_SemacquireWaitGroup"], unfollowed := true, recurses := true, plainKeys := false, leaving := true, apart := false }
def PileMendsSaid : Prop := pileMendsRow.holds Tryz.pinned (OpenSpec.ofChange pileMendsSpec)

/-- ITS FALSE NEIGHBOUR: 'it returns false'. Refute it at one input. -/
def pileMendsWrong : ChangeSpec := { name := "pileMends", fn := fun _ => fun
  | [d1, d2, d3, d4, d5] => { results := [.lit (.bool false)], args := [d1, d2, d3, d4, d5] }
  | _ => none }
def PileMendsWrongFalsely : Prop := pileMendsRow.holds Tryz.pinned (OpenSpec.ofChange pileMendsWrong)

/-- 'gladstonelaw04.PileMend': WHATEVER THE INPUT: true; the input reads as it did. -/
def pileMendSpec : ChangeSpec := { name := "pileMend", fn := fun _ => fun
  | [d] => { results := [.lit (.bool true)], args := [d] }
  | _ => none }
def pileMendRow : OpenClaim := { program := "ytidgnkmjgioapaagreat", sum := "3f1a2b018fe1380f72618136b42566041d08bd71d1836348ea48ada6b1697eaa", func := "gladstone/gladstonelaw04.PileMend", spec := "pileMend", inPlace := ["(*sync.WaitGroup).Add", "internal/race.ReleaseMerge", "internal/race.Disable", "internal/race.Enable", "internal/synctest.IsInBubble", "internal/synctest.Associate[sync.WaitGroup]", "sync.fatal", "sync/atomic.OrUint64", "sync/atomic.AddUint64", "internal/race.Read", "sync/atomic.LoadUint64", "sync/atomic.StoreUint64", "internal/synctest.Disassociate[sync.WaitGroup]", "sync.runtime_Semrelease", "(*sync.WaitGroup).Done", "sync/atomic.AddInt64", "sync/atomic.LoadUint32", "sync/atomic.StoreUint32", "(*sync.WaitGroup).Wait", "internal/race.Acquire", "internal/synctest.IsAssociated[sync.WaitGroup]", "sync/atomic.CompareAndSwapUint64", "internal/race.Write", "sync.runtime_SemacquireWaitGroup"], unfollowed := true, recurses := true, plainKeys := false, leaving := true, apart := false }
def PileMendSaid : Prop := pileMendRow.holds Tryz.pinned (OpenSpec.ofChange pileMendSpec)

/-- ITS FALSE NEIGHBOUR: 'it returns false'. Refute it at one input. -/
def pileMendWrong : ChangeSpec := { name := "pileMend", fn := fun _ => fun
  | [d] => { results := [.lit (.bool false)], args := [d] }
  | _ => none }
def PileMendWrongFalsely : Prop := pileMendRow.holds Tryz.pinned (OpenSpec.ofChange pileMendWrong)

/-- 'gladstonelaw04.PileCounts': WHATEVER THE INPUT: true; the input reads as it did. -/
def pileCountsSpec : ChangeSpec := { name := "pileCounts", fn := fun _ => fun
  | [d1, d2, d3] => { results := [.lit (.bool true)], args := [d1, d2, d3] }
  | _ => none }
def pileCountsRow : OpenClaim := { program := "ytidgnkmjgioapaagreat", sum := "3f1a2b018fe1380f72618136b42566041d08bd71d1836348ea48ada6b1697eaa", func := "gladstone/gladstonelaw04.PileCounts", spec := "pileCounts", inPlace := ["(*sync.WaitGroup).Add", "internal/race.ReleaseMerge", "internal/race.Disable", "internal/race.Enable", "internal/synctest.IsInBubble", "internal/synctest.Associate[sync.WaitGroup]", "sync.fatal", "sync/atomic.OrUint64", "sync/atomic.AddUint64", "internal/race.Read", "sync/atomic.LoadUint64", "sync/atomic.StoreUint64", "internal/synctest.Disassociate[sync.WaitGroup]", "sync.runtime_Semrelease", "(*sync.WaitGroup).Done", "sync/atomic.AddInt64", "sync/atomic.LoadUint32", "sync/atomic.StoreUint32", "(*sync.WaitGroup).Wait", "internal/race.Acquire", "internal/synctest.IsAssociated[sync.WaitGroup]", "sync/atomic.CompareAndSwapUint64", "internal/race.Write", "sync.runtime_SemacquireWaitGroup"], unfollowed := true, recurses := true, plainKeys := false, leaving := true, apart := false }
def PileCountsSaid : Prop := pileCountsRow.holds Tryz.pinned (OpenSpec.ofChange pileCountsSpec)

/-- ITS FALSE NEIGHBOUR: 'it returns false'. Refute it at one input. -/
def pileCountsWrong : ChangeSpec := { name := "pileCounts", fn := fun _ => fun
  | [d1, d2, d3] => { results := [.lit (.bool false)], args := [d1, d2, d3] }
  | _ => none }
def PileCountsWrongFalsely : Prop := pileCountsRow.holds Tryz.pinned (OpenSpec.ofChange pileCountsWrong)

/-- 'gladstonelaw04.PileFews': WHATEVER THE INPUT: true; the input reads as it did. -/
def pileFewsSpec : ChangeSpec := { name := "pileFews", fn := fun _ => fun
  | [d1, d2, d3] => { results := [.lit (.bool true)], args := [d1, d2, d3] }
  | _ => none }
def pileFewsRow : OpenClaim := { program := "ytidgnkmjgioapaagreat", sum := "3f1a2b018fe1380f72618136b42566041d08bd71d1836348ea48ada6b1697eaa", func := "gladstone/gladstonelaw04.PileFews", spec := "pileFews", inPlace := ["(*sync.WaitGroup).Add", "internal/race.ReleaseMerge", "internal/race.Disable", "internal/race.Enable", "internal/synctest.IsInBubble", "internal/synctest.Associate[sync.WaitGroup]", "sync.fatal", "sync/atomic.OrUint64", "sync/atomic.AddUint64", "internal/race.Read", "sync/atomic.LoadUint64", "sync/atomic.StoreUint64", "internal/synctest.Disassociate[sync.WaitGroup]", "sync.runtime_Semrelease", "(*sync.WaitGroup).Done", "sync/atomic.AddInt64", "sync/atomic.LoadUint32", "sync/atomic.StoreUint32", "(*sync.WaitGroup).Wait", "internal/race.Acquire", "internal/synctest.IsAssociated[sync.WaitGroup]", "sync/atomic.CompareAndSwapUint64", "internal/race.Write", "sync.runtime_SemacquireWaitGroup"], unfollowed := true, recurses := true, plainKeys := false, leaving := true, apart := false }
def PileFewsSaid : Prop := pileFewsRow.holds Tryz.pinned (OpenSpec.ofChange pileFewsSpec)

/-- ITS FALSE NEIGHBOUR: 'it returns false'. Refute it at one input. -/
def pileFewsWrong : ChangeSpec := { name := "pileFews", fn := fun _ => fun
  | [d1, d2, d3] => { results := [.lit (.bool false)], args := [d1, d2, d3] }
  | _ => none }
def PileFewsWrongFalsely : Prop := pileFewsRow.holds Tryz.pinned (OpenSpec.ofChange pileFewsWrong)

/-- 'gladstonelaw04.PileFewest': WHATEVER THE INPUT: true; the input reads as it did. -/
def pileFewestSpec : ChangeSpec := { name := "pileFewest", fn := fun _ => fun
  | [d] => { results := [.lit (.bool true)], args := [d] }
  | _ => none }
def pileFewestRow : OpenClaim := { program := "ytidgnkmjgioapaagreat", sum := "3f1a2b018fe1380f72618136b42566041d08bd71d1836348ea48ada6b1697eaa", func := "gladstone/gladstonelaw04.PileFewest", spec := "pileFewest", inPlace := ["(*sync.WaitGroup).Add", "internal/race.ReleaseMerge", "internal/race.Disable", "internal/race.Enable", "internal/synctest.IsInBubble", "internal/synctest.Associate[sync.WaitGroup]", "sync.fatal", "sync/atomic.OrUint64", "sync/atomic.AddUint64", "internal/race.Read", "sync/atomic.LoadUint64", "sync/atomic.StoreUint64", "internal/synctest.Disassociate[sync.WaitGroup]", "sync.runtime_Semrelease", "(*sync.WaitGroup).Done", "sync/atomic.AddInt64", "sync/atomic.LoadUint32", "sync/atomic.StoreUint32", "(*sync.WaitGroup).Wait", "internal/race.Acquire", "internal/synctest.IsAssociated[sync.WaitGroup]", "sync/atomic.CompareAndSwapUint64", "internal/race.Write", "sync.runtime_SemacquireWaitGroup"], unfollowed := true, recurses := true, plainKeys := false, leaving := true, apart := false }
def PileFewestSaid : Prop := pileFewestRow.holds Tryz.pinned (OpenSpec.ofChange pileFewestSpec)

/-- ITS FALSE NEIGHBOUR: 'it returns false'. Refute it at one input. -/
def pileFewestWrong : ChangeSpec := { name := "pileFewest", fn := fun _ => fun
  | [d] => { results := [.lit (.bool false)], args := [d] }
  | _ => none }
def PileFewestWrongFalsely : Prop := pileFewestRow.holds Tryz.pinned (OpenSpec.ofChange pileFewestWrong)

/-- 'gladstonelaw04.PileStronger': WHATEVER THE INPUT: true; the input reads as it did. -/
def pileStrongerSpec : ChangeSpec := { name := "pileStronger", fn := fun _ => fun
  | [d] => { results := [.lit (.bool true)], args := [d] }
  | _ => none }
def pileStrongerRow : OpenClaim := { program := "ytidgnkmjgioapaagreat", sum := "3f1a2b018fe1380f72618136b42566041d08bd71d1836348ea48ada6b1697eaa", func := "gladstone/gladstonelaw04.PileStronger", spec := "pileStronger", inPlace := ["(*sync.WaitGroup).Add", "internal/race.ReleaseMerge", "internal/race.Disable", "internal/race.Enable", "internal/synctest.IsInBubble", "internal/synctest.Associate[sync.WaitGroup]", "sync.fatal", "sync/atomic.OrUint64", "sync/atomic.AddUint64", "internal/race.Read", "sync/atomic.LoadUint64", "sync/atomic.StoreUint64", "internal/synctest.Disassociate[sync.WaitGroup]", "sync.runtime_Semrelease", "(*sync.WaitGroup).Done", "sync/atomic.AddInt64", "sync/atomic.LoadUint32", "sync/atomic.StoreUint32", "(*sync.WaitGroup).Wait", "internal/race.Acquire", "internal/synctest.IsAssociated[sync.WaitGroup]", "sync/atomic.CompareAndSwapUint64", "internal/race.Write", "sync.runtime_SemacquireWaitGroup"], unfollowed := true, recurses := true, plainKeys := false, leaving := true, apart := false }
def PileStrongerSaid : Prop := pileStrongerRow.holds Tryz.pinned (OpenSpec.ofChange pileStrongerSpec)

/-- ITS FALSE NEIGHBOUR: 'it returns false'. Refute it at one input. -/
def pileStrongerWrong : ChangeSpec := { name := "pileStronger", fn := fun _ => fun
  | [d] => { results := [.lit (.bool false)], args := [d] }
  | _ => none }
def PileStrongerWrongFalsely : Prop := pileStrongerRow.holds Tryz.pinned (OpenSpec.ofChange pileStrongerWrong)

/-- 'gladstonelaw04.PileNumbered': WHATEVER THE INPUT: true; the input reads as it did. -/
def pileNumberedSpec : ChangeSpec := { name := "pileNumbered", fn := fun _ => fun
  | [d] => { results := [.lit (.bool true)], args := [d] }
  | _ => none }
def pileNumberedRow : OpenClaim := { program := "ytidgnkmjgioapaagreat", sum := "3f1a2b018fe1380f72618136b42566041d08bd71d1836348ea48ada6b1697eaa", func := "gladstone/gladstonelaw04.PileNumbered", spec := "pileNumbered", inPlace := ["(*sync.WaitGroup).Add", "internal/race.ReleaseMerge", "internal/race.Disable", "internal/race.Enable", "internal/synctest.IsInBubble", "internal/synctest.Associate[sync.WaitGroup]", "sync.fatal", "sync/atomic.OrUint64", "sync/atomic.AddUint64", "internal/race.Read", "sync/atomic.LoadUint64", "sync/atomic.StoreUint64", "internal/synctest.Disassociate[sync.WaitGroup]", "sync.runtime_Semrelease", "(*sync.WaitGroup).Done", "sync/atomic.AddInt64", "sync/atomic.LoadUint32", "sync/atomic.StoreUint32", "(*sync.WaitGroup).Wait", "internal/race.Acquire", "internal/synctest.IsAssociated[sync.WaitGroup]", "sync/atomic.CompareAndSwapUint64", "internal/race.Write", "sync.runtime_SemacquireWaitGroup"], unfollowed := true, recurses := true, plainKeys := false, leaving := true, apart := false }
def PileNumberedSaid : Prop := pileNumberedRow.holds Tryz.pinned (OpenSpec.ofChange pileNumberedSpec)

/-- ITS FALSE NEIGHBOUR: 'it returns false'. Refute it at one input. -/
def pileNumberedWrong : ChangeSpec := { name := "pileNumbered", fn := fun _ => fun
  | [d] => { results := [.lit (.bool false)], args := [d] }
  | _ => none }
def PileNumberedWrongFalsely : Prop := pileNumberedRow.holds Tryz.pinned (OpenSpec.ofChange pileNumberedWrong)

/-- 'gladstonelaw04.PileAll': WHATEVER THE INPUT: true; the input reads as it did. -/
def pileAllSpec : ChangeSpec := { name := "pileAll", fn := fun _ => fun
  | [d] => { results := [.lit (.bool true)], args := [d] }
  | _ => none }
def pileAllRow : OpenClaim := { program := "ytidgnkmjgioapaagreat", sum := "3f1a2b018fe1380f72618136b42566041d08bd71d1836348ea48ada6b1697eaa", func := "gladstone/gladstonelaw04.PileAll", spec := "pileAll", inPlace := ["(*sync.WaitGroup).Add", "internal/race.ReleaseMerge", "internal/race.Disable", "internal/race.Enable", "internal/synctest.IsInBubble", "internal/synctest.Associate[sync.WaitGroup]", "sync.fatal", "sync/atomic.OrUint64", "sync/atomic.AddUint64", "internal/race.Read", "sync/atomic.LoadUint64", "sync/atomic.StoreUint64", "internal/synctest.Disassociate[sync.WaitGroup]", "sync.runtime_Semrelease", "(*sync.WaitGroup).Done", "sync/atomic.AddInt64", "sync/atomic.LoadUint32", "sync/atomic.StoreUint32", "(*sync.WaitGroup).Wait", "internal/race.Acquire", "internal/synctest.IsAssociated[sync.WaitGroup]", "sync/atomic.CompareAndSwapUint64", "internal/race.Write", "sync.runtime_SemacquireWaitGroup"], unfollowed := true, recurses := true, plainKeys := false, leaving := true, apart := false }
def PileAllSaid : Prop := pileAllRow.holds Tryz.pinned (OpenSpec.ofChange pileAllSpec)

/-- ITS FALSE NEIGHBOUR: 'it returns false'. Refute it at one input. -/
def pileAllWrong : ChangeSpec := { name := "pileAll", fn := fun _ => fun
  | [d] => { results := [.lit (.bool false)], args := [d] }
  | _ => none }
def PileAllWrongFalsely : Prop := pileAllRow.holds Tryz.pinned (OpenSpec.ofChange pileAllWrong)

/-- 'gladstonelaw04.PileOff': WHATEVER THE INPUT: true; the input reads as it did. -/
def pileOffSpec : ChangeSpec := { name := "pileOff", fn := fun _ => fun
  | [d] => { results := [.lit (.bool true)], args := [d] }
  | _ => none }
def pileOffRow : OpenClaim := { program := "ytidgnkmjgioapaagreat", sum := "3f1a2b018fe1380f72618136b42566041d08bd71d1836348ea48ada6b1697eaa", func := "gladstone/gladstonelaw04.PileOff", spec := "pileOff", inPlace := ["(*sync.WaitGroup).Add", "internal/race.ReleaseMerge", "internal/race.Disable", "internal/race.Enable", "internal/synctest.IsInBubble", "internal/synctest.Associate[sync.WaitGroup]", "sync.fatal", "sync/atomic.OrUint64", "sync/atomic.AddUint64", "internal/race.Read", "sync/atomic.LoadUint64", "sync/atomic.StoreUint64", "internal/synctest.Disassociate[sync.WaitGroup]", "sync.runtime_Semrelease", "(*sync.WaitGroup).Done", "sync/atomic.AddInt64", "sync/atomic.LoadUint32", "sync/atomic.StoreUint32", "(*sync.WaitGroup).Wait", "internal/race.Acquire", "internal/synctest.IsAssociated[sync.WaitGroup]", "sync/atomic.CompareAndSwapUint64", "internal/race.Write", "sync.runtime_SemacquireWaitGroup"], unfollowed := true, recurses := true, plainKeys := false, leaving := true, apart := false }
def PileOffSaid : Prop := pileOffRow.holds Tryz.pinned (OpenSpec.ofChange pileOffSpec)

/-- ITS FALSE NEIGHBOUR: 'it returns false'. Refute it at one input. -/
def pileOffWrong : ChangeSpec := { name := "pileOff", fn := fun _ => fun
  | [d] => { results := [.lit (.bool false)], args := [d] }
  | _ => none }
def PileOffWrongFalsely : Prop := pileOffRow.holds Tryz.pinned (OpenSpec.ofChange pileOffWrong)

/-- 'gladstonelaw04.PileOn': WHATEVER THE INPUT: true; the input reads as it did. -/
def pileOnSpec : ChangeSpec := { name := "pileOn", fn := fun _ => fun
  | [d] => { results := [.lit (.bool true)], args := [d] }
  | _ => none }
def pileOnRow : OpenClaim := { program := "ytidgnkmjgioapaagreat", sum := "3f1a2b018fe1380f72618136b42566041d08bd71d1836348ea48ada6b1697eaa", func := "gladstone/gladstonelaw04.PileOn", spec := "pileOn", inPlace := ["(*sync.WaitGroup).Add", "internal/race.ReleaseMerge", "internal/race.Disable", "internal/race.Enable", "internal/synctest.IsInBubble", "internal/synctest.Associate[sync.WaitGroup]", "sync.fatal", "sync/atomic.OrUint64", "sync/atomic.AddUint64", "internal/race.Read", "sync/atomic.LoadUint64", "sync/atomic.StoreUint64", "internal/synctest.Disassociate[sync.WaitGroup]", "sync.runtime_Semrelease", "(*sync.WaitGroup).Done", "sync/atomic.AddInt64", "sync/atomic.LoadUint32", "sync/atomic.StoreUint32", "(*sync.WaitGroup).Wait", "internal/race.Acquire", "internal/synctest.IsAssociated[sync.WaitGroup]", "sync/atomic.CompareAndSwapUint64", "internal/race.Write", "sync.runtime_SemacquireWaitGroup"], unfollowed := true, recurses := true, plainKeys := false, leaving := true, apart := false }
def PileOnSaid : Prop := pileOnRow.holds Tryz.pinned (OpenSpec.ofChange pileOnSpec)

/-- ITS FALSE NEIGHBOUR: 'it returns false'. Refute it at one input. -/
def pileOnWrong : ChangeSpec := { name := "pileOn", fn := fun _ => fun
  | [d] => { results := [.lit (.bool false)], args := [d] }
  | _ => none }
def PileOnWrongFalsely : Prop := pileOnRow.holds Tryz.pinned (OpenSpec.ofChange pileOnWrong)

/-- 'gladstonelaw04.PileCount': WHATEVER THE INPUT: true; the input reads as it did. -/
def pileCountSpec : ChangeSpec := { name := "pileCount", fn := fun _ => fun
  | [d] => { results := [.lit (.bool true)], args := [d] }
  | _ => none }
def pileCountRow : OpenClaim := { program := "ytidgnkmjgioapaagreat", sum := "3f1a2b018fe1380f72618136b42566041d08bd71d1836348ea48ada6b1697eaa", func := "gladstone/gladstonelaw04.PileCount", spec := "pileCount", inPlace := ["(*sync.WaitGroup).Add", "internal/race.ReleaseMerge", "internal/race.Disable", "internal/race.Enable", "internal/synctest.IsInBubble", "internal/synctest.Associate[sync.WaitGroup]", "sync.fatal", "sync/atomic.OrUint64", "sync/atomic.AddUint64", "internal/race.Read", "sync/atomic.LoadUint64", "sync/atomic.StoreUint64", "internal/synctest.Disassociate[sync.WaitGroup]", "sync.runtime_Semrelease", "(*sync.WaitGroup).Done", "sync/atomic.AddInt64", "sync/atomic.LoadUint32", "sync/atomic.StoreUint32", "(*sync.WaitGroup).Wait", "internal/race.Acquire", "internal/synctest.IsAssociated[sync.WaitGroup]", "sync/atomic.CompareAndSwapUint64", "internal/race.Write", "sync.runtime_SemacquireWaitGroup"], unfollowed := true, recurses := true, plainKeys := false, leaving := true, apart := false }
def PileCountSaid : Prop := pileCountRow.holds Tryz.pinned (OpenSpec.ofChange pileCountSpec)

/-- ITS FALSE NEIGHBOUR: 'it returns false'. Refute it at one input. -/
def pileCountWrong : ChangeSpec := { name := "pileCount", fn := fun _ => fun
  | [d] => { results := [.lit (.bool false)], args := [d] }
  | _ => none }
def PileCountWrongFalsely : Prop := pileCountRow.holds Tryz.pinned (OpenSpec.ofChange pileCountWrong)

/-- 'gladstonelaw04.PileVerdicts': WHATEVER THE INPUT: true; the input reads as it did. -/
def pileVerdictsSpec : ChangeSpec := { name := "pileVerdicts", fn := fun _ => fun
  | [d1, d2, d3, d4, d5] => { results := [.lit (.bool true)], args := [d1, d2, d3, d4, d5] }
  | _ => none }
def pileVerdictsRow : OpenClaim := { program := "ytidgnkmjgioapaagreat", sum := "3f1a2b018fe1380f72618136b42566041d08bd71d1836348ea48ada6b1697eaa", func := "gladstone/gladstonelaw04.PileVerdicts", spec := "pileVerdicts", inPlace := ["(*sync.WaitGroup).Add", "internal/race.ReleaseMerge", "internal/race.Disable", "internal/race.Enable", "internal/synctest.IsInBubble", "internal/synctest.Associate[sync.WaitGroup]", "sync.fatal", "sync/atomic.OrUint64", "sync/atomic.AddUint64", "internal/race.Read", "sync/atomic.LoadUint64", "sync/atomic.StoreUint64", "internal/synctest.Disassociate[sync.WaitGroup]", "sync.runtime_Semrelease", "(*sync.WaitGroup).Done", "sync/atomic.AddInt64", "sync/atomic.LoadUint32", "sync/atomic.StoreUint32", "(*sync.WaitGroup).Wait", "internal/race.Acquire", "internal/synctest.IsAssociated[sync.WaitGroup]", "sync/atomic.CompareAndSwapUint64", "internal/race.Write", "sync.runtime_SemacquireWaitGroup"], unfollowed := true, recurses := true, plainKeys := false, leaving := true, apart := false }
def PileVerdictsSaid : Prop := pileVerdictsRow.holds Tryz.pinned (OpenSpec.ofChange pileVerdictsSpec)

/-- ITS FALSE NEIGHBOUR: 'it returns false'. Refute it at one input. -/
def pileVerdictsWrong : ChangeSpec := { name := "pileVerdicts", fn := fun _ => fun
  | [d1, d2, d3, d4, d5] => { results := [.lit (.bool false)], args := [d1, d2, d3, d4, d5] }
  | _ => none }
def PileVerdictsWrongFalsely : Prop := pileVerdictsRow.holds Tryz.pinned (OpenSpec.ofChange pileVerdictsWrong)

/-- 'gladstonelaw04.PileKnown': WHATEVER THE INPUT: true; the input reads as it did. -/
def pileKnownSpec : ChangeSpec := { name := "pileKnown", fn := fun _ => fun
  | [] => { results := [.lit (.bool true)], args := [] }
  | _ => none }
def pileKnownRow : OpenClaim := { program := "ytidgnkmjgioapaagreat", sum := "3f1a2b018fe1380f72618136b42566041d08bd71d1836348ea48ada6b1697eaa", func := "gladstone/gladstonelaw04.PileKnown", spec := "pileKnown", inPlace := ["(*sync.WaitGroup).Add", "internal/race.ReleaseMerge", "internal/race.Disable", "internal/race.Enable", "internal/synctest.IsInBubble", "internal/synctest.Associate[sync.WaitGroup]", "sync.fatal", "sync/atomic.OrUint64", "sync/atomic.AddUint64", "internal/race.Read", "sync/atomic.LoadUint64", "sync/atomic.StoreUint64", "internal/synctest.Disassociate[sync.WaitGroup]", "sync.runtime_Semrelease", "(*sync.WaitGroup).Done", "sync/atomic.AddInt64", "sync/atomic.LoadUint32", "sync/atomic.StoreUint32", "(*sync.WaitGroup).Wait", "internal/race.Acquire", "internal/synctest.IsAssociated[sync.WaitGroup]", "sync/atomic.CompareAndSwapUint64", "internal/race.Write", "sync.runtime_SemacquireWaitGroup"], unfollowed := true, recurses := true, plainKeys := false, leaving := true, apart := false }
def PileKnownSaid : Prop := pileKnownRow.holds Tryz.pinned (OpenSpec.ofChange pileKnownSpec)

/-- ITS FALSE NEIGHBOUR: 'it returns false'. Refute it at one input. -/
def pileKnownWrong : ChangeSpec := { name := "pileKnown", fn := fun _ => fun
  | [] => { results := [.lit (.bool false)], args := [] }
  | _ => none }
def PileKnownWrongFalsely : Prop := pileKnownRow.holds Tryz.pinned (OpenSpec.ofChange pileKnownWrong)

/- THE SECOND FORM. 'bulk': how many values and letters a reading holds, each counted each time it is reached (what is shared counts as often as it is met; a slice's spare places count too). A statement '..UptoSaid' is the law's where the arguments, and the package variables that the reading takes, are together of bulk at most 1048576: NARROWER than '..Said'. Prove '..Said' where nothing that the law and all that it calls make is longer than what came in: it says more and counts as full. Else prove '..UptoSaid'. A law counts once. -/
mutual
def uptoBulk {H : Type} : DataW H → Nat
  | .lit (.string bytes) => bytes.length + 1
  | .lit _ => 1
  | .nil => 1
  | .ptr d => uptoBulk d + 1
  | .slice elems spare => uptoBulkAll elems + uptoBulkAll spare + 1
  | .agg parts => uptoBulkAll parts + 1
  | .iface _ d => uptoBulk d + 1
  | .map entries => uptoBulkEntries entries + 1
  | .held _ => 1
def uptoBulkAll {H : Type} : List (DataW H) → Nat
  | [] => 0
  | d :: r => uptoBulk d + uptoBulkAll r
def uptoBulkEntries {H : Type} : List (Lit × DataW H) → Nat
  | [] => 0
  | x :: r => uptoBulkEntry x + uptoBulkEntries r
def uptoBulkEntry {H : Type} : Lit × DataW H → Nat
  | (.string bytes, d) => bytes.length + uptoBulk d + 1
  | (_, d) => uptoBulk d + 1
 end
def uptoSmall : (H : Type) → List (DataW H) → Bool := fun _ ds => decide (uptoBulkAll ds ≤ 1048576)
def OpenSpec.upto (s : _root_.Go.ChangeSpec) : _root_.Go.OpenSpec := { _root_.Go.OpenSpec.ofChange s with cond := some uptoSmall }

/-- 'gladstonelaw04.PileWeighs', WHERE WHAT IT READS IS OF BULK AT MOST 1048576: true; the input reads as it did. -/
def pileWeighsUptoRow : OpenClaim := { program := "ytidgnkmjgioapaagreat", sum := "3f1a2b018fe1380f72618136b42566041d08bd71d1836348ea48ada6b1697eaa", func := "gladstone/gladstonelaw04.PileWeighs", spec := "pileWeighs", inPlace := ["(*sync.WaitGroup).Add", "internal/race.ReleaseMerge", "internal/race.Disable", "internal/race.Enable", "internal/synctest.IsInBubble", "internal/synctest.Associate[sync.WaitGroup]", "sync.fatal", "sync/atomic.OrUint64", "sync/atomic.AddUint64", "internal/race.Read", "sync/atomic.LoadUint64", "sync/atomic.StoreUint64", "internal/synctest.Disassociate[sync.WaitGroup]", "sync.runtime_Semrelease", "(*sync.WaitGroup).Done", "sync/atomic.AddInt64", "sync/atomic.LoadUint32", "sync/atomic.StoreUint32", "(*sync.WaitGroup).Wait", "internal/race.Acquire", "internal/synctest.IsAssociated[sync.WaitGroup]", "sync/atomic.CompareAndSwapUint64", "internal/race.Write", "sync.runtime_SemacquireWaitGroup"], unfollowed := true, recurses := true, plainKeys := false, leaving := true, apart := false, narrowed := true }
def PileWeighsUptoSaid : Prop := pileWeighsUptoRow.holds Tryz.pinned (OpenSpec.upto pileWeighsSpec)

/-- 'gladstonelaw04.PileLoads', WHERE WHAT IT READS IS OF BULK AT MOST 1048576: true; the input reads as it did. -/
def pileLoadsUptoRow : OpenClaim := { program := "ytidgnkmjgioapaagreat", sum := "3f1a2b018fe1380f72618136b42566041d08bd71d1836348ea48ada6b1697eaa", func := "gladstone/gladstonelaw04.PileLoads", spec := "pileLoads", inPlace := ["(*sync.WaitGroup).Add", "internal/race.ReleaseMerge", "internal/race.Disable", "internal/race.Enable", "internal/synctest.IsInBubble", "internal/synctest.Associate[sync.WaitGroup]", "sync.fatal", "sync/atomic.OrUint64", "sync/atomic.AddUint64", "internal/race.Read", "sync/atomic.LoadUint64", "sync/atomic.StoreUint64", "internal/synctest.Disassociate[sync.WaitGroup]", "sync.runtime_Semrelease", "(*sync.WaitGroup).Done", "sync/atomic.AddInt64", "sync/atomic.LoadUint32", "sync/atomic.StoreUint32", "(*sync.WaitGroup).Wait", "internal/race.Acquire", "internal/synctest.IsAssociated[sync.WaitGroup]", "sync/atomic.CompareAndSwapUint64", "internal/race.Write", "sync.runtime_SemacquireWaitGroup"], unfollowed := true, recurses := true, plainKeys := false, leaving := true, apart := false, narrowed := true }
def PileLoadsUptoSaid : Prop := pileLoadsUptoRow.holds Tryz.pinned (OpenSpec.upto pileLoadsSpec)

/-- 'gladstonelaw04.PileSpare', WHERE WHAT IT READS IS OF BULK AT MOST 1048576: true; the input reads as it did. -/
def pileSpareUptoRow : OpenClaim := { program := "ytidgnkmjgioapaagreat", sum := "3f1a2b018fe1380f72618136b42566041d08bd71d1836348ea48ada6b1697eaa", func := "gladstone/gladstonelaw04.PileSpare", spec := "pileSpare", inPlace := ["(*sync.WaitGroup).Add", "internal/race.ReleaseMerge", "internal/race.Disable", "internal/race.Enable", "internal/synctest.IsInBubble", "internal/synctest.Associate[sync.WaitGroup]", "sync.fatal", "sync/atomic.OrUint64", "sync/atomic.AddUint64", "internal/race.Read", "sync/atomic.LoadUint64", "sync/atomic.StoreUint64", "internal/synctest.Disassociate[sync.WaitGroup]", "sync.runtime_Semrelease", "(*sync.WaitGroup).Done", "sync/atomic.AddInt64", "sync/atomic.LoadUint32", "sync/atomic.StoreUint32", "(*sync.WaitGroup).Wait", "internal/race.Acquire", "internal/synctest.IsAssociated[sync.WaitGroup]", "sync/atomic.CompareAndSwapUint64", "internal/race.Write", "sync.runtime_SemacquireWaitGroup"], unfollowed := true, recurses := true, plainKeys := false, leaving := true, apart := false, narrowed := true }
def PileSpareUptoSaid : Prop := pileSpareUptoRow.holds Tryz.pinned (OpenSpec.upto pileSpareSpec)

/-- 'gladstonelaw04.PileWeigh', WHERE WHAT IT READS IS OF BULK AT MOST 1048576: true; the input reads as it did. -/
def pileWeighUptoRow : OpenClaim := { program := "ytidgnkmjgioapaagreat", sum := "3f1a2b018fe1380f72618136b42566041d08bd71d1836348ea48ada6b1697eaa", func := "gladstone/gladstonelaw04.PileWeigh", spec := "pileWeigh", inPlace := ["(*sync.WaitGroup).Add", "internal/race.ReleaseMerge", "internal/race.Disable", "internal/race.Enable", "internal/synctest.IsInBubble", "internal/synctest.Associate[sync.WaitGroup]", "sync.fatal", "sync/atomic.OrUint64", "sync/atomic.AddUint64", "internal/race.Read", "sync/atomic.LoadUint64", "sync/atomic.StoreUint64", "internal/synctest.Disassociate[sync.WaitGroup]", "sync.runtime_Semrelease", "(*sync.WaitGroup).Done", "sync/atomic.AddInt64", "sync/atomic.LoadUint32", "sync/atomic.StoreUint32", "(*sync.WaitGroup).Wait", "internal/race.Acquire", "internal/synctest.IsAssociated[sync.WaitGroup]", "sync/atomic.CompareAndSwapUint64", "internal/race.Write", "sync.runtime_SemacquireWaitGroup"], unfollowed := true, recurses := true, plainKeys := false, leaving := true, apart := false, narrowed := true }
def PileWeighUptoSaid : Prop := pileWeighUptoRow.holds Tryz.pinned (OpenSpec.upto pileWeighSpec)

/-- 'gladstonelaw04.PileMost', WHERE WHAT IT READS IS OF BULK AT MOST 1048576: true; the input reads as it did. -/
def pileMostUptoRow : OpenClaim := { program := "ytidgnkmjgioapaagreat", sum := "3f1a2b018fe1380f72618136b42566041d08bd71d1836348ea48ada6b1697eaa", func := "gladstone/gladstonelaw04.PileMost", spec := "pileMost", inPlace := ["(*sync.WaitGroup).Add", "internal/race.ReleaseMerge", "internal/race.Disable", "internal/race.Enable", "internal/synctest.IsInBubble", "internal/synctest.Associate[sync.WaitGroup]", "sync.fatal", "sync/atomic.OrUint64", "sync/atomic.AddUint64", "internal/race.Read", "sync/atomic.LoadUint64", "sync/atomic.StoreUint64", "internal/synctest.Disassociate[sync.WaitGroup]", "sync.runtime_Semrelease", "(*sync.WaitGroup).Done", "sync/atomic.AddInt64", "sync/atomic.LoadUint32", "sync/atomic.StoreUint32", "(*sync.WaitGroup).Wait", "internal/race.Acquire", "internal/synctest.IsAssociated[sync.WaitGroup]", "sync/atomic.CompareAndSwapUint64", "internal/race.Write", "sync.runtime_SemacquireWaitGroup"], unfollowed := true, recurses := true, plainKeys := false, leaving := true, apart := false, narrowed := true }
def PileMostUptoSaid : Prop := pileMostUptoRow.holds Tryz.pinned (OpenSpec.upto pileMostSpec)

/-- 'gladstonelaw04.PileChecks', WHERE WHAT IT READS IS OF BULK AT MOST 1048576: true; the input reads as it did. -/
def pileChecksUptoRow : OpenClaim := { program := "ytidgnkmjgioapaagreat", sum := "3f1a2b018fe1380f72618136b42566041d08bd71d1836348ea48ada6b1697eaa", func := "gladstone/gladstonelaw04.PileChecks", spec := "pileChecks", inPlace := ["(*sync.WaitGroup).Add", "internal/race.ReleaseMerge", "internal/race.Disable", "internal/race.Enable", "internal/synctest.IsInBubble", "internal/synctest.Associate[sync.WaitGroup]", "sync.fatal", "sync/atomic.OrUint64", "sync/atomic.AddUint64", "internal/race.Read", "sync/atomic.LoadUint64", "sync/atomic.StoreUint64", "internal/synctest.Disassociate[sync.WaitGroup]", "sync.runtime_Semrelease", "(*sync.WaitGroup).Done", "sync/atomic.AddInt64", "sync/atomic.LoadUint32", "sync/atomic.StoreUint32", "(*sync.WaitGroup).Wait", "internal/race.Acquire", "internal/synctest.IsAssociated[sync.WaitGroup]", "sync/atomic.CompareAndSwapUint64", "internal/race.Write", "sync.runtime_SemacquireWaitGroup"], unfollowed := true, recurses := true, plainKeys := false, leaving := true, apart := false, narrowed := true }
def PileChecksUptoSaid : Prop := pileChecksUptoRow.holds Tryz.pinned (OpenSpec.upto pileChecksSpec)

/-- 'gladstonelaw04.PileMends', WHERE WHAT IT READS IS OF BULK AT MOST 1048576: true; the input reads as it did. -/
def pileMendsUptoRow : OpenClaim := { program := "ytidgnkmjgioapaagreat", sum := "3f1a2b018fe1380f72618136b42566041d08bd71d1836348ea48ada6b1697eaa", func := "gladstone/gladstonelaw04.PileMends", spec := "pileMends", inPlace := ["(*sync.WaitGroup).Add", "internal/race.ReleaseMerge", "internal/race.Disable", "internal/race.Enable", "internal/synctest.IsInBubble", "internal/synctest.Associate[sync.WaitGroup]", "sync.fatal", "sync/atomic.OrUint64", "sync/atomic.AddUint64", "internal/race.Read", "sync/atomic.LoadUint64", "sync/atomic.StoreUint64", "internal/synctest.Disassociate[sync.WaitGroup]", "sync.runtime_Semrelease", "(*sync.WaitGroup).Done", "sync/atomic.AddInt64", "sync/atomic.LoadUint32", "sync/atomic.StoreUint32", "(*sync.WaitGroup).Wait", "internal/race.Acquire", "internal/synctest.IsAssociated[sync.WaitGroup]", "sync/atomic.CompareAndSwapUint64", "internal/race.Write", "sync.runtime_SemacquireWaitGroup"], unfollowed := true, recurses := true, plainKeys := false, leaving := true, apart := false, narrowed := true }
def PileMendsUptoSaid : Prop := pileMendsUptoRow.holds Tryz.pinned (OpenSpec.upto pileMendsSpec)

/-- 'gladstonelaw04.PileMend', WHERE WHAT IT READS IS OF BULK AT MOST 1048576: true; the input reads as it did. -/
def pileMendUptoRow : OpenClaim := { program := "ytidgnkmjgioapaagreat", sum := "3f1a2b018fe1380f72618136b42566041d08bd71d1836348ea48ada6b1697eaa", func := "gladstone/gladstonelaw04.PileMend", spec := "pileMend", inPlace := ["(*sync.WaitGroup).Add", "internal/race.ReleaseMerge", "internal/race.Disable", "internal/race.Enable", "internal/synctest.IsInBubble", "internal/synctest.Associate[sync.WaitGroup]", "sync.fatal", "sync/atomic.OrUint64", "sync/atomic.AddUint64", "internal/race.Read", "sync/atomic.LoadUint64", "sync/atomic.StoreUint64", "internal/synctest.Disassociate[sync.WaitGroup]", "sync.runtime_Semrelease", "(*sync.WaitGroup).Done", "sync/atomic.AddInt64", "sync/atomic.LoadUint32", "sync/atomic.StoreUint32", "(*sync.WaitGroup).Wait", "internal/race.Acquire", "internal/synctest.IsAssociated[sync.WaitGroup]", "sync/atomic.CompareAndSwapUint64", "internal/race.Write", "sync.runtime_SemacquireWaitGroup"], unfollowed := true, recurses := true, plainKeys := false, leaving := true, apart := false, narrowed := true }
def PileMendUptoSaid : Prop := pileMendUptoRow.holds Tryz.pinned (OpenSpec.upto pileMendSpec)

/-- 'gladstonelaw04.PileCounts', WHERE WHAT IT READS IS OF BULK AT MOST 1048576: true; the input reads as it did. -/
def pileCountsUptoRow : OpenClaim := { program := "ytidgnkmjgioapaagreat", sum := "3f1a2b018fe1380f72618136b42566041d08bd71d1836348ea48ada6b1697eaa", func := "gladstone/gladstonelaw04.PileCounts", spec := "pileCounts", inPlace := ["(*sync.WaitGroup).Add", "internal/race.ReleaseMerge", "internal/race.Disable", "internal/race.Enable", "internal/synctest.IsInBubble", "internal/synctest.Associate[sync.WaitGroup]", "sync.fatal", "sync/atomic.OrUint64", "sync/atomic.AddUint64", "internal/race.Read", "sync/atomic.LoadUint64", "sync/atomic.StoreUint64", "internal/synctest.Disassociate[sync.WaitGroup]", "sync.runtime_Semrelease", "(*sync.WaitGroup).Done", "sync/atomic.AddInt64", "sync/atomic.LoadUint32", "sync/atomic.StoreUint32", "(*sync.WaitGroup).Wait", "internal/race.Acquire", "internal/synctest.IsAssociated[sync.WaitGroup]", "sync/atomic.CompareAndSwapUint64", "internal/race.Write", "sync.runtime_SemacquireWaitGroup"], unfollowed := true, recurses := true, plainKeys := false, leaving := true, apart := false, narrowed := true }
def PileCountsUptoSaid : Prop := pileCountsUptoRow.holds Tryz.pinned (OpenSpec.upto pileCountsSpec)

/-- 'gladstonelaw04.PileFews', WHERE WHAT IT READS IS OF BULK AT MOST 1048576: true; the input reads as it did. -/
def pileFewsUptoRow : OpenClaim := { program := "ytidgnkmjgioapaagreat", sum := "3f1a2b018fe1380f72618136b42566041d08bd71d1836348ea48ada6b1697eaa", func := "gladstone/gladstonelaw04.PileFews", spec := "pileFews", inPlace := ["(*sync.WaitGroup).Add", "internal/race.ReleaseMerge", "internal/race.Disable", "internal/race.Enable", "internal/synctest.IsInBubble", "internal/synctest.Associate[sync.WaitGroup]", "sync.fatal", "sync/atomic.OrUint64", "sync/atomic.AddUint64", "internal/race.Read", "sync/atomic.LoadUint64", "sync/atomic.StoreUint64", "internal/synctest.Disassociate[sync.WaitGroup]", "sync.runtime_Semrelease", "(*sync.WaitGroup).Done", "sync/atomic.AddInt64", "sync/atomic.LoadUint32", "sync/atomic.StoreUint32", "(*sync.WaitGroup).Wait", "internal/race.Acquire", "internal/synctest.IsAssociated[sync.WaitGroup]", "sync/atomic.CompareAndSwapUint64", "internal/race.Write", "sync.runtime_SemacquireWaitGroup"], unfollowed := true, recurses := true, plainKeys := false, leaving := true, apart := false, narrowed := true }
def PileFewsUptoSaid : Prop := pileFewsUptoRow.holds Tryz.pinned (OpenSpec.upto pileFewsSpec)

/-- 'gladstonelaw04.PileFewest', WHERE WHAT IT READS IS OF BULK AT MOST 1048576: true; the input reads as it did. -/
def pileFewestUptoRow : OpenClaim := { program := "ytidgnkmjgioapaagreat", sum := "3f1a2b018fe1380f72618136b42566041d08bd71d1836348ea48ada6b1697eaa", func := "gladstone/gladstonelaw04.PileFewest", spec := "pileFewest", inPlace := ["(*sync.WaitGroup).Add", "internal/race.ReleaseMerge", "internal/race.Disable", "internal/race.Enable", "internal/synctest.IsInBubble", "internal/synctest.Associate[sync.WaitGroup]", "sync.fatal", "sync/atomic.OrUint64", "sync/atomic.AddUint64", "internal/race.Read", "sync/atomic.LoadUint64", "sync/atomic.StoreUint64", "internal/synctest.Disassociate[sync.WaitGroup]", "sync.runtime_Semrelease", "(*sync.WaitGroup).Done", "sync/atomic.AddInt64", "sync/atomic.LoadUint32", "sync/atomic.StoreUint32", "(*sync.WaitGroup).Wait", "internal/race.Acquire", "internal/synctest.IsAssociated[sync.WaitGroup]", "sync/atomic.CompareAndSwapUint64", "internal/race.Write", "sync.runtime_SemacquireWaitGroup"], unfollowed := true, recurses := true, plainKeys := false, leaving := true, apart := false, narrowed := true }
def PileFewestUptoSaid : Prop := pileFewestUptoRow.holds Tryz.pinned (OpenSpec.upto pileFewestSpec)

/-- 'gladstonelaw04.PileStronger', WHERE WHAT IT READS IS OF BULK AT MOST 1048576: true; the input reads as it did. -/
def pileStrongerUptoRow : OpenClaim := { program := "ytidgnkmjgioapaagreat", sum := "3f1a2b018fe1380f72618136b42566041d08bd71d1836348ea48ada6b1697eaa", func := "gladstone/gladstonelaw04.PileStronger", spec := "pileStronger", inPlace := ["(*sync.WaitGroup).Add", "internal/race.ReleaseMerge", "internal/race.Disable", "internal/race.Enable", "internal/synctest.IsInBubble", "internal/synctest.Associate[sync.WaitGroup]", "sync.fatal", "sync/atomic.OrUint64", "sync/atomic.AddUint64", "internal/race.Read", "sync/atomic.LoadUint64", "sync/atomic.StoreUint64", "internal/synctest.Disassociate[sync.WaitGroup]", "sync.runtime_Semrelease", "(*sync.WaitGroup).Done", "sync/atomic.AddInt64", "sync/atomic.LoadUint32", "sync/atomic.StoreUint32", "(*sync.WaitGroup).Wait", "internal/race.Acquire", "internal/synctest.IsAssociated[sync.WaitGroup]", "sync/atomic.CompareAndSwapUint64", "internal/race.Write", "sync.runtime_SemacquireWaitGroup"], unfollowed := true, recurses := true, plainKeys := false, leaving := true, apart := false, narrowed := true }
def PileStrongerUptoSaid : Prop := pileStrongerUptoRow.holds Tryz.pinned (OpenSpec.upto pileStrongerSpec)

/-- 'gladstonelaw04.PileNumbered', WHERE WHAT IT READS IS OF BULK AT MOST 1048576: true; the input reads as it did. -/
def pileNumberedUptoRow : OpenClaim := { program := "ytidgnkmjgioapaagreat", sum := "3f1a2b018fe1380f72618136b42566041d08bd71d1836348ea48ada6b1697eaa", func := "gladstone/gladstonelaw04.PileNumbered", spec := "pileNumbered", inPlace := ["(*sync.WaitGroup).Add", "internal/race.ReleaseMerge", "internal/race.Disable", "internal/race.Enable", "internal/synctest.IsInBubble", "internal/synctest.Associate[sync.WaitGroup]", "sync.fatal", "sync/atomic.OrUint64", "sync/atomic.AddUint64", "internal/race.Read", "sync/atomic.LoadUint64", "sync/atomic.StoreUint64", "internal/synctest.Disassociate[sync.WaitGroup]", "sync.runtime_Semrelease", "(*sync.WaitGroup).Done", "sync/atomic.AddInt64", "sync/atomic.LoadUint32", "sync/atomic.StoreUint32", "(*sync.WaitGroup).Wait", "internal/race.Acquire", "internal/synctest.IsAssociated[sync.WaitGroup]", "sync/atomic.CompareAndSwapUint64", "internal/race.Write", "sync.runtime_SemacquireWaitGroup"], unfollowed := true, recurses := true, plainKeys := false, leaving := true, apart := false, narrowed := true }
def PileNumberedUptoSaid : Prop := pileNumberedUptoRow.holds Tryz.pinned (OpenSpec.upto pileNumberedSpec)

/-- 'gladstonelaw04.PileAll', WHERE WHAT IT READS IS OF BULK AT MOST 1048576: true; the input reads as it did. -/
def pileAllUptoRow : OpenClaim := { program := "ytidgnkmjgioapaagreat", sum := "3f1a2b018fe1380f72618136b42566041d08bd71d1836348ea48ada6b1697eaa", func := "gladstone/gladstonelaw04.PileAll", spec := "pileAll", inPlace := ["(*sync.WaitGroup).Add", "internal/race.ReleaseMerge", "internal/race.Disable", "internal/race.Enable", "internal/synctest.IsInBubble", "internal/synctest.Associate[sync.WaitGroup]", "sync.fatal", "sync/atomic.OrUint64", "sync/atomic.AddUint64", "internal/race.Read", "sync/atomic.LoadUint64", "sync/atomic.StoreUint64", "internal/synctest.Disassociate[sync.WaitGroup]", "sync.runtime_Semrelease", "(*sync.WaitGroup).Done", "sync/atomic.AddInt64", "sync/atomic.LoadUint32", "sync/atomic.StoreUint32", "(*sync.WaitGroup).Wait", "internal/race.Acquire", "internal/synctest.IsAssociated[sync.WaitGroup]", "sync/atomic.CompareAndSwapUint64", "internal/race.Write", "sync.runtime_SemacquireWaitGroup"], unfollowed := true, recurses := true, plainKeys := false, leaving := true, apart := false, narrowed := true }
def PileAllUptoSaid : Prop := pileAllUptoRow.holds Tryz.pinned (OpenSpec.upto pileAllSpec)

/-- 'gladstonelaw04.PileOff', WHERE WHAT IT READS IS OF BULK AT MOST 1048576: true; the input reads as it did. -/
def pileOffUptoRow : OpenClaim := { program := "ytidgnkmjgioapaagreat", sum := "3f1a2b018fe1380f72618136b42566041d08bd71d1836348ea48ada6b1697eaa", func := "gladstone/gladstonelaw04.PileOff", spec := "pileOff", inPlace := ["(*sync.WaitGroup).Add", "internal/race.ReleaseMerge", "internal/race.Disable", "internal/race.Enable", "internal/synctest.IsInBubble", "internal/synctest.Associate[sync.WaitGroup]", "sync.fatal", "sync/atomic.OrUint64", "sync/atomic.AddUint64", "internal/race.Read", "sync/atomic.LoadUint64", "sync/atomic.StoreUint64", "internal/synctest.Disassociate[sync.WaitGroup]", "sync.runtime_Semrelease", "(*sync.WaitGroup).Done", "sync/atomic.AddInt64", "sync/atomic.LoadUint32", "sync/atomic.StoreUint32", "(*sync.WaitGroup).Wait", "internal/race.Acquire", "internal/synctest.IsAssociated[sync.WaitGroup]", "sync/atomic.CompareAndSwapUint64", "internal/race.Write", "sync.runtime_SemacquireWaitGroup"], unfollowed := true, recurses := true, plainKeys := false, leaving := true, apart := false, narrowed := true }
def PileOffUptoSaid : Prop := pileOffUptoRow.holds Tryz.pinned (OpenSpec.upto pileOffSpec)

/-- 'gladstonelaw04.PileOn', WHERE WHAT IT READS IS OF BULK AT MOST 1048576: true; the input reads as it did. -/
def pileOnUptoRow : OpenClaim := { program := "ytidgnkmjgioapaagreat", sum := "3f1a2b018fe1380f72618136b42566041d08bd71d1836348ea48ada6b1697eaa", func := "gladstone/gladstonelaw04.PileOn", spec := "pileOn", inPlace := ["(*sync.WaitGroup).Add", "internal/race.ReleaseMerge", "internal/race.Disable", "internal/race.Enable", "internal/synctest.IsInBubble", "internal/synctest.Associate[sync.WaitGroup]", "sync.fatal", "sync/atomic.OrUint64", "sync/atomic.AddUint64", "internal/race.Read", "sync/atomic.LoadUint64", "sync/atomic.StoreUint64", "internal/synctest.Disassociate[sync.WaitGroup]", "sync.runtime_Semrelease", "(*sync.WaitGroup).Done", "sync/atomic.AddInt64", "sync/atomic.LoadUint32", "sync/atomic.StoreUint32", "(*sync.WaitGroup).Wait", "internal/race.Acquire", "internal/synctest.IsAssociated[sync.WaitGroup]", "sync/atomic.CompareAndSwapUint64", "internal/race.Write", "sync.runtime_SemacquireWaitGroup"], unfollowed := true, recurses := true, plainKeys := false, leaving := true, apart := false, narrowed := true }
def PileOnUptoSaid : Prop := pileOnUptoRow.holds Tryz.pinned (OpenSpec.upto pileOnSpec)

/-- 'gladstonelaw04.PileCount', WHERE WHAT IT READS IS OF BULK AT MOST 1048576: true; the input reads as it did. -/
def pileCountUptoRow : OpenClaim := { program := "ytidgnkmjgioapaagreat", sum := "3f1a2b018fe1380f72618136b42566041d08bd71d1836348ea48ada6b1697eaa", func := "gladstone/gladstonelaw04.PileCount", spec := "pileCount", inPlace := ["(*sync.WaitGroup).Add", "internal/race.ReleaseMerge", "internal/race.Disable", "internal/race.Enable", "internal/synctest.IsInBubble", "internal/synctest.Associate[sync.WaitGroup]", "sync.fatal", "sync/atomic.OrUint64", "sync/atomic.AddUint64", "internal/race.Read", "sync/atomic.LoadUint64", "sync/atomic.StoreUint64", "internal/synctest.Disassociate[sync.WaitGroup]", "sync.runtime_Semrelease", "(*sync.WaitGroup).Done", "sync/atomic.AddInt64", "sync/atomic.LoadUint32", "sync/atomic.StoreUint32", "(*sync.WaitGroup).Wait", "internal/race.Acquire", "internal/synctest.IsAssociated[sync.WaitGroup]", "sync/atomic.CompareAndSwapUint64", "internal/race.Write", "sync.runtime_SemacquireWaitGroup"], unfollowed := true, recurses := true, plainKeys := false, leaving := true, apart := false, narrowed := true }
def PileCountUptoSaid : Prop := pileCountUptoRow.holds Tryz.pinned (OpenSpec.upto pileCountSpec)

/-- 'gladstonelaw04.PileVerdicts', WHERE WHAT IT READS IS OF BULK AT MOST 1048576: true; the input reads as it did. -/
def pileVerdictsUptoRow : OpenClaim := { program := "ytidgnkmjgioapaagreat", sum := "3f1a2b018fe1380f72618136b42566041d08bd71d1836348ea48ada6b1697eaa", func := "gladstone/gladstonelaw04.PileVerdicts", spec := "pileVerdicts", inPlace := ["(*sync.WaitGroup).Add", "internal/race.ReleaseMerge", "internal/race.Disable", "internal/race.Enable", "internal/synctest.IsInBubble", "internal/synctest.Associate[sync.WaitGroup]", "sync.fatal", "sync/atomic.OrUint64", "sync/atomic.AddUint64", "internal/race.Read", "sync/atomic.LoadUint64", "sync/atomic.StoreUint64", "internal/synctest.Disassociate[sync.WaitGroup]", "sync.runtime_Semrelease", "(*sync.WaitGroup).Done", "sync/atomic.AddInt64", "sync/atomic.LoadUint32", "sync/atomic.StoreUint32", "(*sync.WaitGroup).Wait", "internal/race.Acquire", "internal/synctest.IsAssociated[sync.WaitGroup]", "sync/atomic.CompareAndSwapUint64", "internal/race.Write", "sync.runtime_SemacquireWaitGroup"], unfollowed := true, recurses := true, plainKeys := false, leaving := true, apart := false, narrowed := true }
def PileVerdictsUptoSaid : Prop := pileVerdictsUptoRow.holds Tryz.pinned (OpenSpec.upto pileVerdictsSpec)

/-- 'gladstonelaw04.PileKnown', WHERE WHAT IT READS IS OF BULK AT MOST 1048576: true; the input reads as it did. -/
def pileKnownUptoRow : OpenClaim := { program := "ytidgnkmjgioapaagreat", sum := "3f1a2b018fe1380f72618136b42566041d08bd71d1836348ea48ada6b1697eaa", func := "gladstone/gladstonelaw04.PileKnown", spec := "pileKnown", inPlace := ["(*sync.WaitGroup).Add", "internal/race.ReleaseMerge", "internal/race.Disable", "internal/race.Enable", "internal/synctest.IsInBubble", "internal/synctest.Associate[sync.WaitGroup]", "sync.fatal", "sync/atomic.OrUint64", "sync/atomic.AddUint64", "internal/race.Read", "sync/atomic.LoadUint64", "sync/atomic.StoreUint64", "internal/synctest.Disassociate[sync.WaitGroup]", "sync.runtime_Semrelease", "(*sync.WaitGroup).Done", "sync/atomic.AddInt64", "sync/atomic.LoadUint32", "sync/atomic.StoreUint32", "(*sync.WaitGroup).Wait", "internal/race.Acquire", "internal/synctest.IsAssociated[sync.WaitGroup]", "sync/atomic.CompareAndSwapUint64", "internal/race.Write", "sync.runtime_SemacquireWaitGroup"], unfollowed := true, recurses := true, plainKeys := false, leaving := true, apart := false, narrowed := true }
def PileKnownUptoSaid : Prop := pileKnownUptoRow.holds Tryz.pinned (OpenSpec.upto pileKnownSpec)

end Rows
end Go.Proofs.YtidgnkmjgioapaaGreat
