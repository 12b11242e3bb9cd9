/-
  No cell of these rows narrows 'for every input' (looked for: loops, veiled, ifaces, maps, wideKeys, modest, calm, conditions, laid).
  DERIVED. THE GIVEN ROWS OF THIS SEAT. 15 by the template 'for every input the law returns true; each argument reads behind the call as it read before'; 0 by the template 'total and deterministic' (their statements: YtbjbejjieibldaaTotals.lean).
  GIVEN WITH THE SEED: the statements are not yours to turn. If you find one false, say at which input.
  Laid BY PROGRAM, IN A SANDBOX (cutbox-rows.mjs): the forced cells as the released guide's own fill.sh prints them over the translation 5052a2c9452e7b8c… (all of the seat's roots in one cut). By AI agents, Wed Nov 11 2026. No macro, syntax, notation, axiom, sorry.
-/
import Derived.Test.YtbjbejjieibldaaChecked
import GoSem.Claim
import GoSem.ClaimJoined
import GoSem.ClaimMapViews
import Derived.JoinedTies
import Derived.KernelRfl
namespace Go.Proofs.Ytbjbejjieibldaa
/- THE CELL 'sum', in the pinned program and in every row, IS THE sha256 OF THE DUMP (.gsa) THAT YtbjbejjieibldaaProg.lean LOADS. Nothing in Lean hashes anything: it is a label: what it is worth is what the hold of that sum in a sandbox is worth. -/
noncomputable def Try.pinned : Pinned := { name := "ytbjbejjieibldaa", sum := "5052a2c9452e7b8c41dc744a2846478f0f5d9835ff67f14d35bd502963bf39fa", checked := Try.checked }
namespace Rows
def none {H : Type} : Left H := { results := [], args := [] }

/-- 'curfewlaw37.PartyPlays': WHATEVER THE INPUT: true; the input reads as it did. -/
def partyPlaysSpec : ChangeSpec := { name := "partyPlays", fn := fun _ => fun
  | [d1, d2, d3] => { results := [.lit (.bool true)], args := [d1, d2, d3] }
  | _ => none }
def partyPlaysRow : OpenClaim := { program := "ytbjbejjieibldaa", sum := "5052a2c9452e7b8c41dc744a2846478f0f5d9835ff67f14d35bd502963bf39fa", func := "curfew/curfewlaw37.PartyPlays", spec := "partyPlays", unfollowed := true, recurses := true, apart := false }
def PartyPlaysSaid : Prop := partyPlaysRow.holds Try.pinned (OpenSpec.ofChange partyPlaysSpec)

/-- ITS FALSE NEIGHBOUR: 'it returns false'. Refute it at one input. -/
def partyPlaysWrong : ChangeSpec := { name := "partyPlays", fn := fun _ => fun
  | [d1, d2, d3] => { results := [.lit (.bool false)], args := [d1, d2, d3] }
  | _ => none }
def PartyPlaysWrongFalsely : Prop := partyPlaysRow.holds Try.pinned (OpenSpec.ofChange partyPlaysWrong)

/-- 'curfewlaw37.PartyOnce': WHATEVER THE INPUT: true; the input reads as it did. -/
def partyOnceSpec : ChangeSpec := { name := "partyOnce", fn := fun _ => fun
  | [d] => { results := [.lit (.bool true)], args := [d] }
  | _ => none }
def partyOnceRow : OpenClaim := { program := "ytbjbejjieibldaa", sum := "5052a2c9452e7b8c41dc744a2846478f0f5d9835ff67f14d35bd502963bf39fa", func := "curfew/curfewlaw37.PartyOnce", spec := "partyOnce", unfollowed := true, recurses := true, apart := false }
def PartyOnceSaid : Prop := partyOnceRow.holds Try.pinned (OpenSpec.ofChange partyOnceSpec)

/-- ITS FALSE NEIGHBOUR: 'it returns false'. Refute it at one input. -/
def partyOnceWrong : ChangeSpec := { name := "partyOnce", fn := fun _ => fun
  | [d] => { results := [.lit (.bool false)], args := [d] }
  | _ => none }
def PartyOnceWrongFalsely : Prop := partyOnceRow.holds Try.pinned (OpenSpec.ofChange partyOnceWrong)

/-- 'curfewlaw33.ReadsPlays': WHATEVER THE INPUT: true; the input reads as it did. -/
def readsPlaysSpec : ChangeSpec := { name := "readsPlays", fn := fun _ => fun
  | [d] => { results := [.lit (.bool true)], args := [d] }
  | _ => none }
def readsPlaysRow : OpenClaim := { program := "ytbjbejjieibldaa", sum := "5052a2c9452e7b8c41dc744a2846478f0f5d9835ff67f14d35bd502963bf39fa", func := "curfew/curfewlaw33.ReadsPlays", spec := "readsPlays", unfollowed := true, recurses := true, apart := false }
def ReadsPlaysSaid : Prop := readsPlaysRow.holds Try.pinned (OpenSpec.ofChange readsPlaysSpec)

/-- ITS FALSE NEIGHBOUR: 'it returns false'. Refute it at one input. -/
def readsPlaysWrong : ChangeSpec := { name := "readsPlays", fn := fun _ => fun
  | [d] => { results := [.lit (.bool false)], args := [d] }
  | _ => none }
def ReadsPlaysWrongFalsely : Prop := readsPlaysRow.holds Try.pinned (OpenSpec.ofChange readsPlaysWrong)

/-- 'curfewlaw08.WeekTells': WHATEVER THE INPUT: true; the input reads as it did. -/
def weekTellsSpec : ChangeSpec := { name := "weekTells", fn := fun _ => fun
  | [d1, d2] => { results := [.lit (.bool true)], args := [d1, d2] }
  | _ => none }
def weekTellsRow : OpenClaim := { program := "ytbjbejjieibldaa", sum := "5052a2c9452e7b8c41dc744a2846478f0f5d9835ff67f14d35bd502963bf39fa", func := "curfew/curfewlaw08.WeekTells", spec := "weekTells", inPlace := ["sync/atomic.AddInt64", "sync/atomic.StoreUint32", "sync/atomic.LoadUint32", "(*internal/sync.Mutex).Lock", "internal/race.Disable", "sync/atomic.CompareAndSwapInt32", "internal/race.Enable", "internal/race.Acquire", "(*internal/sync.Mutex).lockSlow", "internal/sync.runtime_canSpin", "internal/sync.runtime_doSpin", "internal/sync.throw", "internal/sync.runtime_nanotime", "internal/sync.runtime_SemacquireMutex", "sync/atomic.AddInt32", "(*internal/sync.Mutex).Unlock", "internal/race.ReleaseMerge", "(*internal/sync.Mutex).unlockSlow", "internal/sync.fatal", "internal/sync.runtime_Semrelease"], unfollowed := true, recurses := true, apart := false }
def WeekTellsSaid : Prop := weekTellsRow.holds Try.pinned (OpenSpec.ofChange weekTellsSpec)

/-- ITS FALSE NEIGHBOUR: 'it returns false'. Refute it at one input. -/
def weekTellsWrong : ChangeSpec := { name := "weekTells", fn := fun _ => fun
  | [d1, d2] => { results := [.lit (.bool false)], args := [d1, d2] }
  | _ => none }
def WeekTellsWrongFalsely : Prop := weekTellsRow.holds Try.pinned (OpenSpec.ofChange weekTellsWrong)

/-- 'curfewlaw08.WeekNobody': WHATEVER THE INPUT: true; the input reads as it did. -/
def weekNobodySpec : ChangeSpec := { name := "weekNobody", fn := fun _ => fun
  | [d1, d2] => { results := [.lit (.bool true)], args := [d1, d2] }
  | _ => none }
def weekNobodyRow : OpenClaim := { program := "ytbjbejjieibldaa", sum := "5052a2c9452e7b8c41dc744a2846478f0f5d9835ff67f14d35bd502963bf39fa", func := "curfew/curfewlaw08.WeekNobody", spec := "weekNobody", inPlace := ["sync/atomic.AddInt64", "sync/atomic.StoreUint32", "sync/atomic.LoadUint32", "(*internal/sync.Mutex).Lock", "internal/race.Disable", "sync/atomic.CompareAndSwapInt32", "internal/race.Enable", "internal/race.Acquire", "(*internal/sync.Mutex).lockSlow", "internal/sync.runtime_canSpin", "internal/sync.runtime_doSpin", "internal/sync.throw", "internal/sync.runtime_nanotime", "internal/sync.runtime_SemacquireMutex", "sync/atomic.AddInt32", "(*internal/sync.Mutex).Unlock", "internal/race.ReleaseMerge", "(*internal/sync.Mutex).unlockSlow", "internal/sync.fatal", "internal/sync.runtime_Semrelease"], unfollowed := true, recurses := true, apart := false }
def WeekNobodySaid : Prop := weekNobodyRow.holds Try.pinned (OpenSpec.ofChange weekNobodySpec)

/-- ITS FALSE NEIGHBOUR: 'it returns false'. Refute it at one input. -/
def weekNobodyWrong : ChangeSpec := { name := "weekNobody", fn := fun _ => fun
  | [d1, d2] => { results := [.lit (.bool false)], args := [d1, d2] }
  | _ => none }
def WeekNobodyWrongFalsely : Prop := weekNobodyRow.holds Try.pinned (OpenSpec.ofChange weekNobodyWrong)

/-- 'curfewlaw33.ReadsOnce': WHATEVER THE INPUT: true; the input reads as it did. -/
def readsOnceSpec : ChangeSpec := { name := "readsOnce", fn := fun _ => fun
  | [d] => { results := [.lit (.bool true)], args := [d] }
  | _ => none }
def readsOnceRow : OpenClaim := { program := "ytbjbejjieibldaa", sum := "5052a2c9452e7b8c41dc744a2846478f0f5d9835ff67f14d35bd502963bf39fa", func := "curfew/curfewlaw33.ReadsOnce", spec := "readsOnce", unfollowed := true, recurses := true, apart := false }
def ReadsOnceSaid : Prop := readsOnceRow.holds Try.pinned (OpenSpec.ofChange readsOnceSpec)

/-- ITS FALSE NEIGHBOUR: 'it returns false'. Refute it at one input. -/
def readsOnceWrong : ChangeSpec := { name := "readsOnce", fn := fun _ => fun
  | [d] => { results := [.lit (.bool false)], args := [d] }
  | _ => none }
def ReadsOnceWrongFalsely : Prop := readsOnceRow.holds Try.pinned (OpenSpec.ofChange readsOnceWrong)

/-- 'curfewlaw33.ReadsNobody': WHATEVER THE INPUT: true; the input reads as it did. -/
def readsNobodySpec : ChangeSpec := { name := "readsNobody", fn := fun _ => fun
  | [d1, d2] => { results := [.lit (.bool true)], args := [d1, d2] }
  | _ => none }
def readsNobodyRow : OpenClaim := { program := "ytbjbejjieibldaa", sum := "5052a2c9452e7b8c41dc744a2846478f0f5d9835ff67f14d35bd502963bf39fa", func := "curfew/curfewlaw33.ReadsNobody", spec := "readsNobody", unfollowed := true, recurses := true, apart := false }
def ReadsNobodySaid : Prop := readsNobodyRow.holds Try.pinned (OpenSpec.ofChange readsNobodySpec)

/-- ITS FALSE NEIGHBOUR: 'it returns false'. Refute it at one input. -/
def readsNobodyWrong : ChangeSpec := { name := "readsNobody", fn := fun _ => fun
  | [d1, d2] => { results := [.lit (.bool false)], args := [d1, d2] }
  | _ => none }
def ReadsNobodyWrongFalsely : Prop := readsNobodyRow.holds Try.pinned (OpenSpec.ofChange readsNobodyWrong)

/-- 'curfewlaw37.PartyApart': WHATEVER THE INPUT: true; the input reads as it did. -/
def partyApartSpec : ChangeSpec := { name := "partyApart", fn := fun _ => fun
  | [d1, d2, d3] => { results := [.lit (.bool true)], args := [d1, d2, d3] }
  | _ => none }
def partyApartRow : OpenClaim := { program := "ytbjbejjieibldaa", sum := "5052a2c9452e7b8c41dc744a2846478f0f5d9835ff67f14d35bd502963bf39fa", func := "curfew/curfewlaw37.PartyApart", spec := "partyApart", inPlace := ["maps.clone"], unfollowed := true, recurses := true, apart := false }
def PartyApartSaid : Prop := partyApartRow.holds Try.pinned (OpenSpec.ofChange partyApartSpec)

/-- ITS FALSE NEIGHBOUR: 'it returns false'. Refute it at one input. -/
def partyApartWrong : ChangeSpec := { name := "partyApart", fn := fun _ => fun
  | [d1, d2, d3] => { results := [.lit (.bool false)], args := [d1, d2, d3] }
  | _ => none }
def PartyApartWrongFalsely : Prop := partyApartRow.holds Try.pinned (OpenSpec.ofChange partyApartWrong)

/-- 'curfewlaw04.LazyChain': WHATEVER THE INPUT: true; the input reads as it did. -/
def lazyChainSpec : ChangeSpec := { name := "lazyChain", fn := fun _ => fun
  | [d1, d2] => { results := [.lit (.bool true)], args := [d1, d2] }
  | _ => none }
def lazyChainRow : OpenClaim := { program := "ytbjbejjieibldaa", sum := "5052a2c9452e7b8c41dc744a2846478f0f5d9835ff67f14d35bd502963bf39fa", func := "curfew/curfewlaw04.LazyChain", spec := "lazyChain", inPlace := ["sync/atomic.LoadUint32", "sync/atomic.AddInt64", "sync/atomic.StoreUint32", "(*internal/sync.Mutex).Lock", "internal/race.Disable", "sync/atomic.CompareAndSwapInt32", "internal/race.Enable", "internal/race.Acquire", "(*internal/sync.Mutex).lockSlow", "internal/sync.runtime_canSpin", "internal/sync.runtime_doSpin", "internal/sync.throw", "internal/sync.runtime_nanotime", "internal/sync.runtime_SemacquireMutex", "sync/atomic.AddInt32", "(*internal/sync.Mutex).Unlock", "internal/race.ReleaseMerge", "(*internal/sync.Mutex).unlockSlow", "internal/sync.fatal", "internal/sync.runtime_Semrelease", "sync/atomic.LoadInt64"], unfollowed := true, recurses := true, apart := false }
def LazyChainSaid : Prop := lazyChainRow.holds Try.pinned (OpenSpec.ofChange lazyChainSpec)

/-- ITS FALSE NEIGHBOUR: 'it returns false'. Refute it at one input. -/
def lazyChainWrong : ChangeSpec := { name := "lazyChain", fn := fun _ => fun
  | [d1, d2] => { results := [.lit (.bool false)], args := [d1, d2] }
  | _ => none }
def LazyChainWrongFalsely : Prop := lazyChainRow.holds Try.pinned (OpenSpec.ofChange lazyChainWrong)

/-- 'curfewlaw04.LazyNobody': WHATEVER THE INPUT: true; the input reads as it did. -/
def lazyNobodySpec : ChangeSpec := { name := "lazyNobody", fn := fun _ => fun
  | [d] => { results := [.lit (.bool true)], args := [d] }
  | _ => none }
def lazyNobodyRow : OpenClaim := { program := "ytbjbejjieibldaa", sum := "5052a2c9452e7b8c41dc744a2846478f0f5d9835ff67f14d35bd502963bf39fa", func := "curfew/curfewlaw04.LazyNobody", spec := "lazyNobody", inPlace := ["sync/atomic.AddInt64", "sync/atomic.StoreUint32", "sync/atomic.LoadUint32", "(*internal/sync.Mutex).Lock", "internal/race.Disable", "sync/atomic.CompareAndSwapInt32", "internal/race.Enable", "internal/race.Acquire", "(*internal/sync.Mutex).lockSlow", "internal/sync.runtime_canSpin", "internal/sync.runtime_doSpin", "internal/sync.throw", "internal/sync.runtime_nanotime", "internal/sync.runtime_SemacquireMutex", "sync/atomic.AddInt32", "(*internal/sync.Mutex).Unlock", "internal/race.ReleaseMerge", "(*internal/sync.Mutex).unlockSlow", "internal/sync.fatal", "internal/sync.runtime_Semrelease", "sync/atomic.LoadInt64"], unfollowed := true, recurses := true, apart := false }
def LazyNobodySaid : Prop := lazyNobodyRow.holds Try.pinned (OpenSpec.ofChange lazyNobodySpec)

/-- ITS FALSE NEIGHBOUR: 'it returns false'. Refute it at one input. -/
def lazyNobodyWrong : ChangeSpec := { name := "lazyNobody", fn := fun _ => fun
  | [d] => { results := [.lit (.bool false)], args := [d] }
  | _ => none }
def LazyNobodyWrongFalsely : Prop := lazyNobodyRow.holds Try.pinned (OpenSpec.ofChange lazyNobodyWrong)

/-- 'curfewlaw04.LazySizes': WHATEVER THE INPUT: true; the input reads as it did. -/
def lazySizesSpec : ChangeSpec := { name := "lazySizes", fn := fun _ => fun
  | [d1, d2] => { results := [.lit (.bool true)], args := [d1, d2] }
  | _ => none }
def lazySizesRow : OpenClaim := { program := "ytbjbejjieibldaa", sum := "5052a2c9452e7b8c41dc744a2846478f0f5d9835ff67f14d35bd502963bf39fa", func := "curfew/curfewlaw04.LazySizes", spec := "lazySizes", inPlace := ["sync/atomic.LoadUint32", "sync/atomic.AddInt64", "sync/atomic.StoreUint32", "(*internal/sync.Mutex).Lock", "internal/race.Disable", "sync/atomic.CompareAndSwapInt32", "internal/race.Enable", "internal/race.Acquire", "(*internal/sync.Mutex).lockSlow", "internal/sync.runtime_canSpin", "internal/sync.runtime_doSpin", "internal/sync.throw", "internal/sync.runtime_nanotime", "internal/sync.runtime_SemacquireMutex", "sync/atomic.AddInt32", "(*internal/sync.Mutex).Unlock", "internal/race.ReleaseMerge", "(*internal/sync.Mutex).unlockSlow", "internal/sync.fatal", "internal/sync.runtime_Semrelease", "sync/atomic.LoadInt64"], unfollowed := true, recurses := true, apart := false }
def LazySizesSaid : Prop := lazySizesRow.holds Try.pinned (OpenSpec.ofChange lazySizesSpec)

/-- ITS FALSE NEIGHBOUR: 'it returns false'. Refute it at one input. -/
def lazySizesWrong : ChangeSpec := { name := "lazySizes", fn := fun _ => fun
  | [d1, d2] => { results := [.lit (.bool false)], args := [d1, d2] }
  | _ => none }
def LazySizesWrongFalsely : Prop := lazySizesRow.holds Try.pinned (OpenSpec.ofChange lazySizesWrong)

/-- 'curfewlaw04.LazyRows': WHATEVER THE INPUT: true; the input reads as it did. -/
def lazyRowsSpec : ChangeSpec := { name := "lazyRows", fn := fun _ => fun
  | [d1, d2] => { results := [.lit (.bool true)], args := [d1, d2] }
  | _ => none }
def lazyRowsRow : OpenClaim := { program := "ytbjbejjieibldaa", sum := "5052a2c9452e7b8c41dc744a2846478f0f5d9835ff67f14d35bd502963bf39fa", func := "curfew/curfewlaw04.LazyRows", spec := "lazyRows", inPlace := ["sync/atomic.LoadUint32", "sync/atomic.AddInt64", "sync/atomic.StoreUint32", "(*internal/sync.Mutex).Lock", "internal/race.Disable", "sync/atomic.CompareAndSwapInt32", "internal/race.Enable", "internal/race.Acquire", "(*internal/sync.Mutex).lockSlow", "internal/sync.runtime_canSpin", "internal/sync.runtime_doSpin", "internal/sync.throw", "internal/sync.runtime_nanotime", "internal/sync.runtime_SemacquireMutex", "sync/atomic.AddInt32", "(*internal/sync.Mutex).Unlock", "internal/race.ReleaseMerge", "(*internal/sync.Mutex).unlockSlow", "internal/sync.fatal", "internal/sync.runtime_Semrelease", "sync/atomic.LoadInt64"], unfollowed := true, recurses := true, apart := false }
def LazyRowsSaid : Prop := lazyRowsRow.holds Try.pinned (OpenSpec.ofChange lazyRowsSpec)

/-- ITS FALSE NEIGHBOUR: 'it returns false'. Refute it at one input. -/
def lazyRowsWrong : ChangeSpec := { name := "lazyRows", fn := fun _ => fun
  | [d1, d2] => { results := [.lit (.bool false)], args := [d1, d2] }
  | _ => none }
def LazyRowsWrongFalsely : Prop := lazyRowsRow.holds Try.pinned (OpenSpec.ofChange lazyRowsWrong)

/-- 'curfewlaw08.WeekCounts': WHATEVER THE INPUT: true; the input reads as it did. -/
def weekCountsSpec : ChangeSpec := { name := "weekCounts", fn := fun _ => fun
  | [d1, d2, d3, d4] => { results := [.lit (.bool true)], args := [d1, d2, d3, d4] }
  | _ => none }
def weekCountsRow : OpenClaim := { program := "ytbjbejjieibldaa", sum := "5052a2c9452e7b8c41dc744a2846478f0f5d9835ff67f14d35bd502963bf39fa", func := "curfew/curfewlaw08.WeekCounts", spec := "weekCounts", inPlace := ["sync/atomic.AddInt64", "sync/atomic.StoreUint32", "sync/atomic.LoadUint32", "(*internal/sync.Mutex).Lock", "internal/race.Disable", "sync/atomic.CompareAndSwapInt32", "internal/race.Enable", "internal/race.Acquire", "(*internal/sync.Mutex).lockSlow", "internal/sync.runtime_canSpin", "internal/sync.runtime_doSpin", "internal/sync.throw", "internal/sync.runtime_nanotime", "internal/sync.runtime_SemacquireMutex", "sync/atomic.AddInt32", "(*internal/sync.Mutex).Unlock", "internal/race.ReleaseMerge", "(*internal/sync.Mutex).unlockSlow", "internal/sync.fatal", "internal/sync.runtime_Semrelease"], unfollowed := true, recurses := true, apart := false }
def WeekCountsSaid : Prop := weekCountsRow.holds Try.pinned (OpenSpec.ofChange weekCountsSpec)

/-- ITS FALSE NEIGHBOUR: 'it returns false'. Refute it at one input. -/
def weekCountsWrong : ChangeSpec := { name := "weekCounts", fn := fun _ => fun
  | [d1, d2, d3, d4] => { results := [.lit (.bool false)], args := [d1, d2, d3, d4] }
  | _ => none }
def WeekCountsWrongFalsely : Prop := weekCountsRow.holds Try.pinned (OpenSpec.ofChange weekCountsWrong)

/-- 'curfewlaw08.WeekBack': WHATEVER THE INPUT: true; the input reads as it did. -/
def weekBackSpec : ChangeSpec := { name := "weekBack", fn := fun _ => fun
  | [d1, d2] => { results := [.lit (.bool true)], args := [d1, d2] }
  | _ => none }
def weekBackRow : OpenClaim := { program := "ytbjbejjieibldaa", sum := "5052a2c9452e7b8c41dc744a2846478f0f5d9835ff67f14d35bd502963bf39fa", func := "curfew/curfewlaw08.WeekBack", spec := "weekBack", inPlace := ["sync/atomic.AddInt64", "sync/atomic.StoreUint32", "sync/atomic.LoadUint32", "(*internal/sync.Mutex).Lock", "internal/race.Disable", "sync/atomic.CompareAndSwapInt32", "internal/race.Enable", "internal/race.Acquire", "(*internal/sync.Mutex).lockSlow", "internal/sync.runtime_canSpin", "internal/sync.runtime_doSpin", "internal/sync.throw", "internal/sync.runtime_nanotime", "internal/sync.runtime_SemacquireMutex", "sync/atomic.AddInt32", "(*internal/sync.Mutex).Unlock", "internal/race.ReleaseMerge", "(*internal/sync.Mutex).unlockSlow", "internal/sync.fatal", "internal/sync.runtime_Semrelease"], unfollowed := true, recurses := true, apart := false }
def WeekBackSaid : Prop := weekBackRow.holds Try.pinned (OpenSpec.ofChange weekBackSpec)

/-- ITS FALSE NEIGHBOUR: 'it returns false'. Refute it at one input. -/
def weekBackWrong : ChangeSpec := { name := "weekBack", fn := fun _ => fun
  | [d1, d2] => { results := [.lit (.bool false)], args := [d1, d2] }
  | _ => none }
def WeekBackWrongFalsely : Prop := weekBackRow.holds Try.pinned (OpenSpec.ofChange weekBackWrong)

/-- 'curfewlaw08.WeekSteps': WHATEVER THE INPUT: true; the input reads as it did. -/
def weekStepsSpec : ChangeSpec := { name := "weekSteps", fn := fun _ => fun
  | [d1, d2] => { results := [.lit (.bool true)], args := [d1, d2] }
  | _ => none }
def weekStepsRow : OpenClaim := { program := "ytbjbejjieibldaa", sum := "5052a2c9452e7b8c41dc744a2846478f0f5d9835ff67f14d35bd502963bf39fa", func := "curfew/curfewlaw08.WeekSteps", spec := "weekSteps", inPlace := ["sync/atomic.AddInt64", "sync/atomic.StoreUint32", "sync/atomic.LoadUint32", "(*internal/sync.Mutex).Lock", "internal/race.Disable", "sync/atomic.CompareAndSwapInt32", "internal/race.Enable", "internal/race.Acquire", "(*internal/sync.Mutex).lockSlow", "internal/sync.runtime_canSpin", "internal/sync.runtime_doSpin", "internal/sync.throw", "internal/sync.runtime_nanotime", "internal/sync.runtime_SemacquireMutex", "sync/atomic.AddInt32", "(*internal/sync.Mutex).Unlock", "internal/race.ReleaseMerge", "(*internal/sync.Mutex).unlockSlow", "internal/sync.fatal", "internal/sync.runtime_Semrelease"], unfollowed := true, recurses := true, apart := false }
def WeekStepsSaid : Prop := weekStepsRow.holds Try.pinned (OpenSpec.ofChange weekStepsSpec)

/-- ITS FALSE NEIGHBOUR: 'it returns false'. Refute it at one input. -/
def weekStepsWrong : ChangeSpec := { name := "weekSteps", fn := fun _ => fun
  | [d1, d2] => { results := [.lit (.bool false)], args := [d1, d2] }
  | _ => none }
def WeekStepsWrongFalsely : Prop := weekStepsRow.holds Try.pinned (OpenSpec.ofChange weekStepsWrong)

/- THE SECOND FORM. 'bulk': how many values and letters a reading holds, each counted each time it is reached (what is shared counts as often as it is met; a slice's spare places count too). A statement '..UptoSaid' is the law's where the arguments, and the package variables that the reading takes, are together of bulk at most 1048576: NARROWER than '..Said'. Prove '..Said' where nothing that the law and all that it calls make is longer than what came in: it says more and counts as full. Else prove '..UptoSaid'. A law counts once. -/
mutual
def uptoBulk {H : Type} : DataW H → Nat
  | .lit (.string bytes) => bytes.length + 1
  | .lit _ => 1
  | .nil => 1
  | .ptr d => uptoBulk d + 1
  | .slice elems spare => uptoBulkAll elems + uptoBulkAll spare + 1
  | .agg parts => uptoBulkAll parts + 1
  | .iface _ d => uptoBulk d + 1
  | .map entries => uptoBulkEntries entries + 1
  | .held _ => 1
def uptoBulkAll {H : Type} : List (DataW H) → Nat
  | [] => 0
  | d :: r => uptoBulk d + uptoBulkAll r
def uptoBulkEntries {H : Type} : List (Lit × DataW H) → Nat
  | [] => 0
  | x :: r => uptoBulkEntry x + uptoBulkEntries r
def uptoBulkEntry {H : Type} : Lit × DataW H → Nat
  | (.string bytes, d) => bytes.length + uptoBulk d + 1
  | (_, d) => uptoBulk d + 1
 end
def uptoSmall : (H : Type) → List (DataW H) → Bool := fun _ ds => decide (uptoBulkAll ds ≤ 1048576)
def OpenSpec.upto (s : _root_.Go.ChangeSpec) : _root_.Go.OpenSpec := { _root_.Go.OpenSpec.ofChange s with cond := some uptoSmall }

/-- 'curfewlaw37.PartyPlays', WHERE WHAT IT READS IS OF BULK AT MOST 1048576: true; the input reads as it did. -/
def partyPlaysUptoRow : OpenClaim := { program := "ytbjbejjieibldaa", sum := "5052a2c9452e7b8c41dc744a2846478f0f5d9835ff67f14d35bd502963bf39fa", func := "curfew/curfewlaw37.PartyPlays", spec := "partyPlays", unfollowed := true, recurses := true, apart := false, narrowed := true }
def PartyPlaysUptoSaid : Prop := partyPlaysUptoRow.holds Try.pinned (OpenSpec.upto partyPlaysSpec)

/-- 'curfewlaw37.PartyOnce', WHERE WHAT IT READS IS OF BULK AT MOST 1048576: true; the input reads as it did. -/
def partyOnceUptoRow : OpenClaim := { program := "ytbjbejjieibldaa", sum := "5052a2c9452e7b8c41dc744a2846478f0f5d9835ff67f14d35bd502963bf39fa", func := "curfew/curfewlaw37.PartyOnce", spec := "partyOnce", unfollowed := true, recurses := true, apart := false, narrowed := true }
def PartyOnceUptoSaid : Prop := partyOnceUptoRow.holds Try.pinned (OpenSpec.upto partyOnceSpec)

/-- 'curfewlaw33.ReadsPlays', WHERE WHAT IT READS IS OF BULK AT MOST 1048576: true; the input reads as it did. -/
def readsPlaysUptoRow : OpenClaim := { program := "ytbjbejjieibldaa", sum := "5052a2c9452e7b8c41dc744a2846478f0f5d9835ff67f14d35bd502963bf39fa", func := "curfew/curfewlaw33.ReadsPlays", spec := "readsPlays", unfollowed := true, recurses := true, apart := false, narrowed := true }
def ReadsPlaysUptoSaid : Prop := readsPlaysUptoRow.holds Try.pinned (OpenSpec.upto readsPlaysSpec)

/-- 'curfewlaw08.WeekTells', WHERE WHAT IT READS IS OF BULK AT MOST 1048576: true; the input reads as it did. -/
def weekTellsUptoRow : OpenClaim := { program := "ytbjbejjieibldaa", sum := "5052a2c9452e7b8c41dc744a2846478f0f5d9835ff67f14d35bd502963bf39fa", func := "curfew/curfewlaw08.WeekTells", spec := "weekTells", inPlace := ["sync/atomic.AddInt64", "sync/atomic.StoreUint32", "sync/atomic.LoadUint32", "(*internal/sync.Mutex).Lock", "internal/race.Disable", "sync/atomic.CompareAndSwapInt32", "internal/race.Enable", "internal/race.Acquire", "(*internal/sync.Mutex).lockSlow", "internal/sync.runtime_canSpin", "internal/sync.runtime_doSpin", "internal/sync.throw", "internal/sync.runtime_nanotime", "internal/sync.runtime_SemacquireMutex", "sync/atomic.AddInt32", "(*internal/sync.Mutex).Unlock", "internal/race.ReleaseMerge", "(*internal/sync.Mutex).unlockSlow", "internal/sync.fatal", "internal/sync.runtime_Semrelease"], unfollowed := true, recurses := true, apart := false, narrowed := true }
def WeekTellsUptoSaid : Prop := weekTellsUptoRow.holds Try.pinned (OpenSpec.upto weekTellsSpec)

/-- 'curfewlaw08.WeekNobody', WHERE WHAT IT READS IS OF BULK AT MOST 1048576: true; the input reads as it did. -/
def weekNobodyUptoRow : OpenClaim := { program := "ytbjbejjieibldaa", sum := "5052a2c9452e7b8c41dc744a2846478f0f5d9835ff67f14d35bd502963bf39fa", func := "curfew/curfewlaw08.WeekNobody", spec := "weekNobody", inPlace := ["sync/atomic.AddInt64", "sync/atomic.StoreUint32", "sync/atomic.LoadUint32", "(*internal/sync.Mutex).Lock", "internal/race.Disable", "sync/atomic.CompareAndSwapInt32", "internal/race.Enable", "internal/race.Acquire", "(*internal/sync.Mutex).lockSlow", "internal/sync.runtime_canSpin", "internal/sync.runtime_doSpin", "internal/sync.throw", "internal/sync.runtime_nanotime", "internal/sync.runtime_SemacquireMutex", "sync/atomic.AddInt32", "(*internal/sync.Mutex).Unlock", "internal/race.ReleaseMerge", "(*internal/sync.Mutex).unlockSlow", "internal/sync.fatal", "internal/sync.runtime_Semrelease"], unfollowed := true, recurses := true, apart := false, narrowed := true }
def WeekNobodyUptoSaid : Prop := weekNobodyUptoRow.holds Try.pinned (OpenSpec.upto weekNobodySpec)

/-- 'curfewlaw33.ReadsOnce', WHERE WHAT IT READS IS OF BULK AT MOST 1048576: true; the input reads as it did. -/
def readsOnceUptoRow : OpenClaim := { program := "ytbjbejjieibldaa", sum := "5052a2c9452e7b8c41dc744a2846478f0f5d9835ff67f14d35bd502963bf39fa", func := "curfew/curfewlaw33.ReadsOnce", spec := "readsOnce", unfollowed := true, recurses := true, apart := false, narrowed := true }
def ReadsOnceUptoSaid : Prop := readsOnceUptoRow.holds Try.pinned (OpenSpec.upto readsOnceSpec)

/-- 'curfewlaw33.ReadsNobody', WHERE WHAT IT READS IS OF BULK AT MOST 1048576: true; the input reads as it did. -/
def readsNobodyUptoRow : OpenClaim := { program := "ytbjbejjieibldaa", sum := "5052a2c9452e7b8c41dc744a2846478f0f5d9835ff67f14d35bd502963bf39fa", func := "curfew/curfewlaw33.ReadsNobody", spec := "readsNobody", unfollowed := true, recurses := true, apart := false, narrowed := true }
def ReadsNobodyUptoSaid : Prop := readsNobodyUptoRow.holds Try.pinned (OpenSpec.upto readsNobodySpec)

/-- 'curfewlaw37.PartyApart', WHERE WHAT IT READS IS OF BULK AT MOST 1048576: true; the input reads as it did. -/
def partyApartUptoRow : OpenClaim := { program := "ytbjbejjieibldaa", sum := "5052a2c9452e7b8c41dc744a2846478f0f5d9835ff67f14d35bd502963bf39fa", func := "curfew/curfewlaw37.PartyApart", spec := "partyApart", inPlace := ["maps.clone"], unfollowed := true, recurses := true, apart := false, narrowed := true }
def PartyApartUptoSaid : Prop := partyApartUptoRow.holds Try.pinned (OpenSpec.upto partyApartSpec)

/-- 'curfewlaw04.LazyChain', WHERE WHAT IT READS IS OF BULK AT MOST 1048576: true; the input reads as it did. -/
def lazyChainUptoRow : OpenClaim := { program := "ytbjbejjieibldaa", sum := "5052a2c9452e7b8c41dc744a2846478f0f5d9835ff67f14d35bd502963bf39fa", func := "curfew/curfewlaw04.LazyChain", spec := "lazyChain", inPlace := ["sync/atomic.LoadUint32", "sync/atomic.AddInt64", "sync/atomic.StoreUint32", "(*internal/sync.Mutex).Lock", "internal/race.Disable", "sync/atomic.CompareAndSwapInt32", "internal/race.Enable", "internal/race.Acquire", "(*internal/sync.Mutex).lockSlow", "internal/sync.runtime_canSpin", "internal/sync.runtime_doSpin", "internal/sync.throw", "internal/sync.runtime_nanotime", "internal/sync.runtime_SemacquireMutex", "sync/atomic.AddInt32", "(*internal/sync.Mutex).Unlock", "internal/race.ReleaseMerge", "(*internal/sync.Mutex).unlockSlow", "internal/sync.fatal", "internal/sync.runtime_Semrelease", "sync/atomic.LoadInt64"], unfollowed := true, recurses := true, apart := false, narrowed := true }
def LazyChainUptoSaid : Prop := lazyChainUptoRow.holds Try.pinned (OpenSpec.upto lazyChainSpec)

/-- 'curfewlaw04.LazyNobody', WHERE WHAT IT READS IS OF BULK AT MOST 1048576: true; the input reads as it did. -/
def lazyNobodyUptoRow : OpenClaim := { program := "ytbjbejjieibldaa", sum := "5052a2c9452e7b8c41dc744a2846478f0f5d9835ff67f14d35bd502963bf39fa", func := "curfew/curfewlaw04.LazyNobody", spec := "lazyNobody", inPlace := ["sync/atomic.AddInt64", "sync/atomic.StoreUint32", "sync/atomic.LoadUint32", "(*internal/sync.Mutex).Lock", "internal/race.Disable", "sync/atomic.CompareAndSwapInt32", "internal/race.Enable", "internal/race.Acquire", "(*internal/sync.Mutex).lockSlow", "internal/sync.runtime_canSpin", "internal/sync.runtime_doSpin", "internal/sync.throw", "internal/sync.runtime_nanotime", "internal/sync.runtime_SemacquireMutex", "sync/atomic.AddInt32", "(*internal/sync.Mutex).Unlock", "internal/race.ReleaseMerge", "(*internal/sync.Mutex).unlockSlow", "internal/sync.fatal", "internal/sync.runtime_Semrelease", "sync/atomic.LoadInt64"], unfollowed := true, recurses := true, apart := false, narrowed := true }
def LazyNobodyUptoSaid : Prop := lazyNobodyUptoRow.holds Try.pinned (OpenSpec.upto lazyNobodySpec)

/-- 'curfewlaw04.LazySizes', WHERE WHAT IT READS IS OF BULK AT MOST 1048576: true; the input reads as it did. -/
def lazySizesUptoRow : OpenClaim := { program := "ytbjbejjieibldaa", sum := "5052a2c9452e7b8c41dc744a2846478f0f5d9835ff67f14d35bd502963bf39fa", func := "curfew/curfewlaw04.LazySizes", spec := "lazySizes", inPlace := ["sync/atomic.LoadUint32", "sync/atomic.AddInt64", "sync/atomic.StoreUint32", "(*internal/sync.Mutex).Lock", "internal/race.Disable", "sync/atomic.CompareAndSwapInt32", "internal/race.Enable", "internal/race.Acquire", "(*internal/sync.Mutex).lockSlow", "internal/sync.runtime_canSpin", "internal/sync.runtime_doSpin", "internal/sync.throw", "internal/sync.runtime_nanotime", "internal/sync.runtime_SemacquireMutex", "sync/atomic.AddInt32", "(*internal/sync.Mutex).Unlock", "internal/race.ReleaseMerge", "(*internal/sync.Mutex).unlockSlow", "internal/sync.fatal", "internal/sync.runtime_Semrelease", "sync/atomic.LoadInt64"], unfollowed := true, recurses := true, apart := false, narrowed := true }
def LazySizesUptoSaid : Prop := lazySizesUptoRow.holds Try.pinned (OpenSpec.upto lazySizesSpec)

/-- 'curfewlaw04.LazyRows', WHERE WHAT IT READS IS OF BULK AT MOST 1048576: true; the input reads as it did. -/
def lazyRowsUptoRow : OpenClaim := { program := "ytbjbejjieibldaa", sum := "5052a2c9452e7b8c41dc744a2846478f0f5d9835ff67f14d35bd502963bf39fa", func := "curfew/curfewlaw04.LazyRows", spec := "lazyRows", inPlace := ["sync/atomic.LoadUint32", "sync/atomic.AddInt64", "sync/atomic.StoreUint32", "(*internal/sync.Mutex).Lock", "internal/race.Disable", "sync/atomic.CompareAndSwapInt32", "internal/race.Enable", "internal/race.Acquire", "(*internal/sync.Mutex).lockSlow", "internal/sync.runtime_canSpin", "internal/sync.runtime_doSpin", "internal/sync.throw", "internal/sync.runtime_nanotime", "internal/sync.runtime_SemacquireMutex", "sync/atomic.AddInt32", "(*internal/sync.Mutex).Unlock", "internal/race.ReleaseMerge", "(*internal/sync.Mutex).unlockSlow", "internal/sync.fatal", "internal/sync.runtime_Semrelease", "sync/atomic.LoadInt64"], unfollowed := true, recurses := true, apart := false, narrowed := true }
def LazyRowsUptoSaid : Prop := lazyRowsUptoRow.holds Try.pinned (OpenSpec.upto lazyRowsSpec)

/-- 'curfewlaw08.WeekCounts', WHERE WHAT IT READS IS OF BULK AT MOST 1048576: true; the input reads as it did. -/
def weekCountsUptoRow : OpenClaim := { program := "ytbjbejjieibldaa", sum := "5052a2c9452e7b8c41dc744a2846478f0f5d9835ff67f14d35bd502963bf39fa", func := "curfew/curfewlaw08.WeekCounts", spec := "weekCounts", inPlace := ["sync/atomic.AddInt64", "sync/atomic.StoreUint32", "sync/atomic.LoadUint32", "(*internal/sync.Mutex).Lock", "internal/race.Disable", "sync/atomic.CompareAndSwapInt32", "internal/race.Enable", "internal/race.Acquire", "(*internal/sync.Mutex).lockSlow", "internal/sync.runtime_canSpin", "internal/sync.runtime_doSpin", "internal/sync.throw", "internal/sync.runtime_nanotime", "internal/sync.runtime_SemacquireMutex", "sync/atomic.AddInt32", "(*internal/sync.Mutex).Unlock", "internal/race.ReleaseMerge", "(*internal/sync.Mutex).unlockSlow", "internal/sync.fatal", "internal/sync.runtime_Semrelease"], unfollowed := true, recurses := true, apart := false, narrowed := true }
def WeekCountsUptoSaid : Prop := weekCountsUptoRow.holds Try.pinned (OpenSpec.upto weekCountsSpec)

/-- 'curfewlaw08.WeekBack', WHERE WHAT IT READS IS OF BULK AT MOST 1048576: true; the input reads as it did. -/
def weekBackUptoRow : OpenClaim := { program := "ytbjbejjieibldaa", sum := "5052a2c9452e7b8c41dc744a2846478f0f5d9835ff67f14d35bd502963bf39fa", func := "curfew/curfewlaw08.WeekBack", spec := "weekBack", inPlace := ["sync/atomic.AddInt64", "sync/atomic.StoreUint32", "sync/atomic.LoadUint32", "(*internal/sync.Mutex).Lock", "internal/race.Disable", "sync/atomic.CompareAndSwapInt32", "internal/race.Enable", "internal/race.Acquire", "(*internal/sync.Mutex).lockSlow", "internal/sync.runtime_canSpin", "internal/sync.runtime_doSpin", "internal/sync.throw", "internal/sync.runtime_nanotime", "internal/sync.runtime_SemacquireMutex", "sync/atomic.AddInt32", "(*internal/sync.Mutex).Unlock", "internal/race.ReleaseMerge", "(*internal/sync.Mutex).unlockSlow", "internal/sync.fatal", "internal/sync.runtime_Semrelease"], unfollowed := true, recurses := true, apart := false, narrowed := true }
def WeekBackUptoSaid : Prop := weekBackUptoRow.holds Try.pinned (OpenSpec.upto weekBackSpec)

/-- 'curfewlaw08.WeekSteps', WHERE WHAT IT READS IS OF BULK AT MOST 1048576: true; the input reads as it did. -/
def weekStepsUptoRow : OpenClaim := { program := "ytbjbejjieibldaa", sum := "5052a2c9452e7b8c41dc744a2846478f0f5d9835ff67f14d35bd502963bf39fa", func := "curfew/curfewlaw08.WeekSteps", spec := "weekSteps", inPlace := ["sync/atomic.AddInt64", "sync/atomic.StoreUint32", "sync/atomic.LoadUint32", "(*internal/sync.Mutex).Lock", "internal/race.Disable", "sync/atomic.CompareAndSwapInt32", "internal/race.Enable", "internal/race.Acquire", "(*internal/sync.Mutex).lockSlow", "internal/sync.runtime_canSpin", "internal/sync.runtime_doSpin", "internal/sync.throw", "internal/sync.runtime_nanotime", "internal/sync.runtime_SemacquireMutex", "sync/atomic.AddInt32", "(*internal/sync.Mutex).Unlock", "internal/race.ReleaseMerge", "(*internal/sync.Mutex).unlockSlow", "internal/sync.fatal", "internal/sync.runtime_Semrelease"], unfollowed := true, recurses := true, apart := false, narrowed := true }
def WeekStepsUptoSaid : Prop := weekStepsUptoRow.holds Try.pinned (OpenSpec.upto weekStepsSpec)

end Rows
end Go.Proofs.Ytbjbejjieibldaa
