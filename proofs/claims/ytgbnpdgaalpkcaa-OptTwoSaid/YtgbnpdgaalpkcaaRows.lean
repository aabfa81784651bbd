/-
  No cell of these rows narrows 'for every input' (looked for: loops, veiled, ifaces, maps, wideKeys, modest, calm, conditions, laid).
  DERIVED. THE GIVEN ROWS OF THIS SEAT. 10 by the template 'for every input the law returns true; each argument reads behind the call as it read before'; 0 by the template 'total and deterministic' (their statements: YtgbnpdgaalpkcaaTotals.lean).
  GIVEN WITH THE SEED: the statements are not yours to turn. If you find one false, say at which input.
  Laid BY PROGRAM, IN A SANDBOX (cutbox-rows.mjs): the forced cells as the released guide's own fill.sh prints them over the translation eded4153c5d1b5b9… (all of the seat's roots in one cut). By AI agents, Wed Nov 11 2026. No macro, syntax, notation, axiom, sorry.
-/
import Derived.Test.YtgbnpdgaalpkcaaChecked
import GoSem.Claim
import GoSem.ClaimJoined
import GoSem.ClaimMapViews
import Derived.JoinedTies
import Derived.KernelRfl
namespace Go.Proofs.Ytgbnpdgaalpkcaa
/- THE CELL 'sum', in the pinned program and in every row, IS THE sha256 OF THE DUMP (.gsa) THAT YtgbnpdgaalpkcaaProg.lean LOADS. Nothing in Lean hashes anything: it is a label: what it is worth is what the hold of that sum in a sandbox is worth. -/
noncomputable def Try.pinned : Pinned := { name := "ytgbnpdgaalpkcaa", sum := "eded4153c5d1b5b9051b3dd2e75b5f0113ffe3120c11c9d034bbca5fb1603d7f", checked := Try.checked }
namespace Rows
def none {H : Type} : Left H := { results := [], args := [] }

/-- 'pontoonlaw10.OptPlays': WHATEVER THE INPUT: true; the input reads as it did. -/
def optPlaysSpec : ChangeSpec := { name := "optPlays", fn := fun _ => fun
  | [d] => { results := [.lit (.bool true)], args := [d] }
  | _ => none }
def optPlaysRow : OpenClaim := { program := "ytgbnpdgaalpkcaa", sum := "eded4153c5d1b5b9051b3dd2e75b5f0113ffe3120c11c9d034bbca5fb1603d7f", func := "pontoon/pontoonlaw10.OptPlays", spec := "optPlays", apart := false }
def OptPlaysSaid : Prop := optPlaysRow.holds Try.pinned (OpenSpec.ofChange optPlaysSpec)

/-- ITS FALSE NEIGHBOUR: 'it returns false'. Refute it at one input. -/
def optPlaysWrong : ChangeSpec := { name := "optPlays", fn := fun _ => fun
  | [d] => { results := [.lit (.bool false)], args := [d] }
  | _ => none }
def OptPlaysWrongFalsely : Prop := optPlaysRow.holds Try.pinned (OpenSpec.ofChange optPlaysWrong)

/-- 'pontoonlaw10.OptStays': WHATEVER THE INPUT: true; the input reads as it did. -/
def optStaysSpec : ChangeSpec := { name := "optStays", fn := fun _ => fun
  | [d1, d2, d3] => { results := [.lit (.bool true)], args := [d1, d2, d3] }
  | _ => none }
def optStaysRow : OpenClaim := { program := "ytgbnpdgaalpkcaa", sum := "eded4153c5d1b5b9051b3dd2e75b5f0113ffe3120c11c9d034bbca5fb1603d7f", func := "pontoon/pontoonlaw10.OptStays", spec := "optStays", apart := false }
def OptStaysSaid : Prop := optStaysRow.holds Try.pinned (OpenSpec.ofChange optStaysSpec)

/-- ITS FALSE NEIGHBOUR: 'it returns false'. Refute it at one input. -/
def optStaysWrong : ChangeSpec := { name := "optStays", fn := fun _ => fun
  | [d1, d2, d3] => { results := [.lit (.bool false)], args := [d1, d2, d3] }
  | _ => none }
def OptStaysWrongFalsely : Prop := optStaysRow.holds Try.pinned (OpenSpec.ofChange optStaysWrong)

/-- 'pontoonlaw10.OptTells': WHATEVER THE INPUT: true; the input reads as it did. -/
def optTellsSpec : ChangeSpec := { name := "optTells", fn := fun _ => fun
  | [d1, d2, d3] => { results := [.lit (.bool true)], args := [d1, d2, d3] }
  | _ => none }
def optTellsRow : OpenClaim := { program := "ytgbnpdgaalpkcaa", sum := "eded4153c5d1b5b9051b3dd2e75b5f0113ffe3120c11c9d034bbca5fb1603d7f", func := "pontoon/pontoonlaw10.OptTells", spec := "optTells", apart := false }
def OptTellsSaid : Prop := optTellsRow.holds Try.pinned (OpenSpec.ofChange optTellsSpec)

/-- ITS FALSE NEIGHBOUR: 'it returns false'. Refute it at one input. -/
def optTellsWrong : ChangeSpec := { name := "optTells", fn := fun _ => fun
  | [d1, d2, d3] => { results := [.lit (.bool false)], args := [d1, d2, d3] }
  | _ => none }
def OptTellsWrongFalsely : Prop := optTellsRow.holds Try.pinned (OpenSpec.ofChange optTellsWrong)

/-- 'pontoonlaw10.OptTwo': WHATEVER THE INPUT: true; the input reads as it did. -/
def optTwoSpec : ChangeSpec := { name := "optTwo", fn := fun _ => fun
  | [d1, d2] => { results := [.lit (.bool true)], args := [d1, d2] }
  | _ => none }
def optTwoRow : OpenClaim := { program := "ytgbnpdgaalpkcaa", sum := "eded4153c5d1b5b9051b3dd2e75b5f0113ffe3120c11c9d034bbca5fb1603d7f", func := "pontoon/pontoonlaw10.OptTwo", spec := "optTwo", apart := false }
def OptTwoSaid : Prop := optTwoRow.holds Try.pinned (OpenSpec.ofChange optTwoSpec)

/-- ITS FALSE NEIGHBOUR: 'it returns false'. Refute it at one input. -/
def optTwoWrong : ChangeSpec := { name := "optTwo", fn := fun _ => fun
  | [d1, d2] => { results := [.lit (.bool false)], args := [d1, d2] }
  | _ => none }
def OptTwoWrongFalsely : Prop := optTwoRow.holds Try.pinned (OpenSpec.ofChange optTwoWrong)

/-- 'pontoonlaw16.ChartMaps': WHATEVER THE INPUT: true; the input reads as it did. -/
def chartMapsSpec : ChangeSpec := { name := "chartMaps", fn := fun _ => fun
  | [d1, d2] => { results := [.lit (.bool true)], args := [d1, d2] }
  | _ => none }
def chartMapsRow : OpenClaim := { program := "ytgbnpdgaalpkcaa", sum := "eded4153c5d1b5b9051b3dd2e75b5f0113ffe3120c11c9d034bbca5fb1603d7f", func := "pontoon/pontoonlaw16.ChartMaps", spec := "chartMaps", apart := false }
def ChartMapsSaid : Prop := chartMapsRow.holds Try.pinned (OpenSpec.ofChange chartMapsSpec)

/-- ITS FALSE NEIGHBOUR: 'it returns false'. Refute it at one input. -/
def chartMapsWrong : ChangeSpec := { name := "chartMaps", fn := fun _ => fun
  | [d1, d2] => { results := [.lit (.bool false)], args := [d1, d2] }
  | _ => none }
def ChartMapsWrongFalsely : Prop := chartMapsRow.holds Try.pinned (OpenSpec.ofChange chartMapsWrong)

/-- 'pontoonlaw16.ChartTabs': WHATEVER THE INPUT: true; the input reads as it did. -/
def chartTabsSpec : ChangeSpec := { name := "chartTabs", fn := fun _ => fun
  | [d1, d2] => { results := [.lit (.bool true)], args := [d1, d2] }
  | _ => none }
def chartTabsRow : OpenClaim := { program := "ytgbnpdgaalpkcaa", sum := "eded4153c5d1b5b9051b3dd2e75b5f0113ffe3120c11c9d034bbca5fb1603d7f", func := "pontoon/pontoonlaw16.ChartTabs", spec := "chartTabs", apart := false }
def ChartTabsSaid : Prop := chartTabsRow.holds Try.pinned (OpenSpec.ofChange chartTabsSpec)

/-- ITS FALSE NEIGHBOUR: 'it returns false'. Refute it at one input. -/
def chartTabsWrong : ChangeSpec := { name := "chartTabs", fn := fun _ => fun
  | [d1, d2] => { results := [.lit (.bool false)], args := [d1, d2] }
  | _ => none }
def ChartTabsWrongFalsely : Prop := chartTabsRow.holds Try.pinned (OpenSpec.ofChange chartTabsWrong)

/-- 'pontoonlaw16.ChartPlays': WHATEVER THE INPUT: true; the input reads as it did. -/
def chartPlaysSpec : ChangeSpec := { name := "chartPlays", fn := fun _ => fun
  | [d1, d2, d3] => { results := [.lit (.bool true)], args := [d1, d2, d3] }
  | _ => none }
def chartPlaysRow : OpenClaim := { program := "ytgbnpdgaalpkcaa", sum := "eded4153c5d1b5b9051b3dd2e75b5f0113ffe3120c11c9d034bbca5fb1603d7f", func := "pontoon/pontoonlaw16.ChartPlays", spec := "chartPlays", apart := false }
def ChartPlaysSaid : Prop := chartPlaysRow.holds Try.pinned (OpenSpec.ofChange chartPlaysSpec)

/-- ITS FALSE NEIGHBOUR: 'it returns false'. Refute it at one input. -/
def chartPlaysWrong : ChangeSpec := { name := "chartPlays", fn := fun _ => fun
  | [d1, d2, d3] => { results := [.lit (.bool false)], args := [d1, d2, d3] }
  | _ => none }
def ChartPlaysWrongFalsely : Prop := chartPlaysRow.holds Try.pinned (OpenSpec.ofChange chartPlaysWrong)

/-- 'pontoonlaw4.LazyOnce': WHATEVER THE INPUT: true; the input reads as it did. -/
def lazyOnceSpec : ChangeSpec := { name := "lazyOnce", fn := fun _ => fun
  | [d1, d2] => { results := [.lit (.bool true)], args := [d1, d2] }
  | _ => none }
def lazyOnceRow : OpenClaim := { program := "ytgbnpdgaalpkcaa", sum := "eded4153c5d1b5b9051b3dd2e75b5f0113ffe3120c11c9d034bbca5fb1603d7f", func := "pontoon/pontoonlaw4.LazyOnce", spec := "lazyOnce", inPlace := ["sync/atomic.SwapInt64", "sync/atomic.LoadUint32", "(*internal/sync.Mutex).Lock", "internal/race.Disable", "sync/atomic.CompareAndSwapInt32", "internal/race.Enable", "internal/race.Acquire", "(*internal/sync.Mutex).lockSlow", "internal/sync.runtime_canSpin", "internal/sync.runtime_doSpin", "internal/sync.throw", "internal/sync.runtime_nanotime", "internal/sync.runtime_SemacquireMutex", "sync/atomic.AddInt32", "(*internal/sync.Mutex).Unlock", "internal/race.ReleaseMerge", "(*internal/sync.Mutex).unlockSlow", "internal/sync.fatal", "internal/sync.runtime_Semrelease", "sync/atomic.StoreUint32", "sync/atomic.LoadInt64"], unfollowed := true, recurses := true, apart := false }
def LazyOnceSaid : Prop := lazyOnceRow.holds Try.pinned (OpenSpec.ofChange lazyOnceSpec)

/-- ITS FALSE NEIGHBOUR: 'it returns false'. Refute it at one input. -/
def lazyOnceWrong : ChangeSpec := { name := "lazyOnce", fn := fun _ => fun
  | [d1, d2] => { results := [.lit (.bool false)], args := [d1, d2] }
  | _ => none }
def LazyOnceWrongFalsely : Prop := lazyOnceRow.holds Try.pinned (OpenSpec.ofChange lazyOnceWrong)

/-- 'pontoonlaw4.DoorOnce': WHATEVER THE INPUT: true; the input reads as it did. -/
def doorOnceSpec : ChangeSpec := { name := "doorOnce", fn := fun _ => fun
  | [d] => { results := [.lit (.bool true)], args := [d] }
  | _ => none }
def doorOnceRow : OpenClaim := { program := "ytgbnpdgaalpkcaa", sum := "eded4153c5d1b5b9051b3dd2e75b5f0113ffe3120c11c9d034bbca5fb1603d7f", func := "pontoon/pontoonlaw4.DoorOnce", spec := "doorOnce", inPlace := ["sync/atomic.SwapInt64", "sync/atomic.LoadUint32", "(*internal/sync.Mutex).Lock", "internal/race.Disable", "sync/atomic.CompareAndSwapInt32", "internal/race.Enable", "internal/race.Acquire", "(*internal/sync.Mutex).lockSlow", "internal/sync.runtime_canSpin", "internal/sync.runtime_doSpin", "internal/sync.throw", "internal/sync.runtime_nanotime", "internal/sync.runtime_SemacquireMutex", "sync/atomic.AddInt32", "(*internal/sync.Mutex).Unlock", "internal/race.ReleaseMerge", "(*internal/sync.Mutex).unlockSlow", "internal/sync.fatal", "internal/sync.runtime_Semrelease", "sync/atomic.StoreUint32", "sync/atomic.LoadInt64"], unfollowed := true, recurses := true, apart := false }
def DoorOnceSaid : Prop := doorOnceRow.holds Try.pinned (OpenSpec.ofChange doorOnceSpec)

/-- ITS FALSE NEIGHBOUR: 'it returns false'. Refute it at one input. -/
def doorOnceWrong : ChangeSpec := { name := "doorOnce", fn := fun _ => fun
  | [d] => { results := [.lit (.bool false)], args := [d] }
  | _ => none }
def DoorOnceWrongFalsely : Prop := doorOnceRow.holds Try.pinned (OpenSpec.ofChange doorOnceWrong)

/-- 'pontoonlaw4.LazyMany': WHATEVER THE INPUT: true; the input reads as it did. -/
def lazyManySpec : ChangeSpec := { name := "lazyMany", fn := fun _ => fun
  | [d1, d2] => { results := [.lit (.bool true)], args := [d1, d2] }
  | _ => none }
def lazyManyRow : OpenClaim := { program := "ytgbnpdgaalpkcaa", sum := "eded4153c5d1b5b9051b3dd2e75b5f0113ffe3120c11c9d034bbca5fb1603d7f", func := "pontoon/pontoonlaw4.LazyMany", spec := "lazyMany", inPlace := ["sync/atomic.SwapInt64", "sync/atomic.LoadUint32", "(*internal/sync.Mutex).Lock", "internal/race.Disable", "sync/atomic.CompareAndSwapInt32", "internal/race.Enable", "internal/race.Acquire", "(*internal/sync.Mutex).lockSlow", "internal/sync.runtime_canSpin", "internal/sync.runtime_doSpin", "internal/sync.throw", "internal/sync.runtime_nanotime", "internal/sync.runtime_SemacquireMutex", "sync/atomic.AddInt32", "(*internal/sync.Mutex).Unlock", "internal/race.ReleaseMerge", "(*internal/sync.Mutex).unlockSlow", "internal/sync.fatal", "internal/sync.runtime_Semrelease", "sync/atomic.StoreUint32", "sync/atomic.LoadInt64"], unfollowed := true, recurses := true, apart := false }
def LazyManySaid : Prop := lazyManyRow.holds Try.pinned (OpenSpec.ofChange lazyManySpec)

/-- ITS FALSE NEIGHBOUR: 'it returns false'. Refute it at one input. -/
def lazyManyWrong : ChangeSpec := { name := "lazyMany", fn := fun _ => fun
  | [d1, d2] => { results := [.lit (.bool false)], args := [d1, d2] }
  | _ => none }
def LazyManyWrongFalsely : Prop := lazyManyRow.holds Try.pinned (OpenSpec.ofChange lazyManyWrong)

/- THE SECOND FORM. 'bulk': how many values and letters a reading holds, each counted each time it is reached (what is shared counts as often as it is met; a slice's spare places count too). A statement '..UptoSaid' is the law's where the arguments, and the package variables that the reading takes, are together of bulk at most 1048576: NARROWER than '..Said'. Prove '..Said' where nothing that the law and all that it calls make is longer than what came in: it says more and counts as full. Else prove '..UptoSaid'. A law counts once. -/
mutual
def uptoBulk {H : Type} : DataW H → Nat
  | .lit (.string bytes) => bytes.length + 1
  | .lit _ => 1
  | .nil => 1
  | .ptr d => uptoBulk d + 1
  | .slice elems spare => uptoBulkAll elems + uptoBulkAll spare + 1
  | .agg parts => uptoBulkAll parts + 1
  | .iface _ d => uptoBulk d + 1
  | .map entries => uptoBulkEntries entries + 1
  | .held _ => 1
def uptoBulkAll {H : Type} : List (DataW H) → Nat
  | [] => 0
  | d :: r => uptoBulk d + uptoBulkAll r
def uptoBulkEntries {H : Type} : List (Lit × DataW H) → Nat
  | [] => 0
  | x :: r => uptoBulkEntry x + uptoBulkEntries r
def uptoBulkEntry {H : Type} : Lit × DataW H → Nat
  | (.string bytes, d) => bytes.length + uptoBulk d + 1
  | (_, d) => uptoBulk d + 1
 end
def uptoSmall : (H : Type) → List (DataW H) → Bool := fun _ ds => decide (uptoBulkAll ds ≤ 1048576)
def OpenSpec.upto (s : _root_.Go.ChangeSpec) : _root_.Go.OpenSpec := { _root_.Go.OpenSpec.ofChange s with cond := some uptoSmall }

/-- 'pontoonlaw10.OptPlays', WHERE WHAT IT READS IS OF BULK AT MOST 1048576: true; the input reads as it did. -/
def optPlaysUptoRow : OpenClaim := { program := "ytgbnpdgaalpkcaa", sum := "eded4153c5d1b5b9051b3dd2e75b5f0113ffe3120c11c9d034bbca5fb1603d7f", func := "pontoon/pontoonlaw10.OptPlays", spec := "optPlays", apart := false, narrowed := true }
def OptPlaysUptoSaid : Prop := optPlaysUptoRow.holds Try.pinned (OpenSpec.upto optPlaysSpec)

/-- 'pontoonlaw10.OptStays', WHERE WHAT IT READS IS OF BULK AT MOST 1048576: true; the input reads as it did. -/
def optStaysUptoRow : OpenClaim := { program := "ytgbnpdgaalpkcaa", sum := "eded4153c5d1b5b9051b3dd2e75b5f0113ffe3120c11c9d034bbca5fb1603d7f", func := "pontoon/pontoonlaw10.OptStays", spec := "optStays", apart := false, narrowed := true }
def OptStaysUptoSaid : Prop := optStaysUptoRow.holds Try.pinned (OpenSpec.upto optStaysSpec)

/-- 'pontoonlaw10.OptTells', WHERE WHAT IT READS IS OF BULK AT MOST 1048576: true; the input reads as it did. -/
def optTellsUptoRow : OpenClaim := { program := "ytgbnpdgaalpkcaa", sum := "eded4153c5d1b5b9051b3dd2e75b5f0113ffe3120c11c9d034bbca5fb1603d7f", func := "pontoon/pontoonlaw10.OptTells", spec := "optTells", apart := false, narrowed := true }
def OptTellsUptoSaid : Prop := optTellsUptoRow.holds Try.pinned (OpenSpec.upto optTellsSpec)

/-- 'pontoonlaw10.OptTwo', WHERE WHAT IT READS IS OF BULK AT MOST 1048576: true; the input reads as it did. -/
def optTwoUptoRow : OpenClaim := { program := "ytgbnpdgaalpkcaa", sum := "eded4153c5d1b5b9051b3dd2e75b5f0113ffe3120c11c9d034bbca5fb1603d7f", func := "pontoon/pontoonlaw10.OptTwo", spec := "optTwo", apart := false, narrowed := true }
def OptTwoUptoSaid : Prop := optTwoUptoRow.holds Try.pinned (OpenSpec.upto optTwoSpec)

/-- 'pontoonlaw16.ChartMaps', WHERE WHAT IT READS IS OF BULK AT MOST 1048576: true; the input reads as it did. -/
def chartMapsUptoRow : OpenClaim := { program := "ytgbnpdgaalpkcaa", sum := "eded4153c5d1b5b9051b3dd2e75b5f0113ffe3120c11c9d034bbca5fb1603d7f", func := "pontoon/pontoonlaw16.ChartMaps", spec := "chartMaps", apart := false, narrowed := true }
def ChartMapsUptoSaid : Prop := chartMapsUptoRow.holds Try.pinned (OpenSpec.upto chartMapsSpec)

/-- 'pontoonlaw16.ChartTabs', WHERE WHAT IT READS IS OF BULK AT MOST 1048576: true; the input reads as it did. -/
def chartTabsUptoRow : OpenClaim := { program := "ytgbnpdgaalpkcaa", sum := "eded4153c5d1b5b9051b3dd2e75b5f0113ffe3120c11c9d034bbca5fb1603d7f", func := "pontoon/pontoonlaw16.ChartTabs", spec := "chartTabs", apart := false, narrowed := true }
def ChartTabsUptoSaid : Prop := chartTabsUptoRow.holds Try.pinned (OpenSpec.upto chartTabsSpec)

/-- 'pontoonlaw16.ChartPlays', WHERE WHAT IT READS IS OF BULK AT MOST 1048576: true; the input reads as it did. -/
def chartPlaysUptoRow : OpenClaim := { program := "ytgbnpdgaalpkcaa", sum := "eded4153c5d1b5b9051b3dd2e75b5f0113ffe3120c11c9d034bbca5fb1603d7f", func := "pontoon/pontoonlaw16.ChartPlays", spec := "chartPlays", apart := false, narrowed := true }
def ChartPlaysUptoSaid : Prop := chartPlaysUptoRow.holds Try.pinned (OpenSpec.upto chartPlaysSpec)

/-- 'pontoonlaw4.LazyOnce', WHERE WHAT IT READS IS OF BULK AT MOST 1048576: true; the input reads as it did. -/
def lazyOnceUptoRow : OpenClaim := { program := "ytgbnpdgaalpkcaa", sum := "eded4153c5d1b5b9051b3dd2e75b5f0113ffe3120c11c9d034bbca5fb1603d7f", func := "pontoon/pontoonlaw4.LazyOnce", spec := "lazyOnce", inPlace := ["sync/atomic.SwapInt64", "sync/atomic.LoadUint32", "(*internal/sync.Mutex).Lock", "internal/race.Disable", "sync/atomic.CompareAndSwapInt32", "internal/race.Enable", "internal/race.Acquire", "(*internal/sync.Mutex).lockSlow", "internal/sync.runtime_canSpin", "internal/sync.runtime_doSpin", "internal/sync.throw", "internal/sync.runtime_nanotime", "internal/sync.runtime_SemacquireMutex", "sync/atomic.AddInt32", "(*internal/sync.Mutex).Unlock", "internal/race.ReleaseMerge", "(*internal/sync.Mutex).unlockSlow", "internal/sync.fatal", "internal/sync.runtime_Semrelease", "sync/atomic.StoreUint32", "sync/atomic.LoadInt64"], unfollowed := true, recurses := true, apart := false, narrowed := true }
def LazyOnceUptoSaid : Prop := lazyOnceUptoRow.holds Try.pinned (OpenSpec.upto lazyOnceSpec)

/-- 'pontoonlaw4.DoorOnce', WHERE WHAT IT READS IS OF BULK AT MOST 1048576: true; the input reads as it did. -/
def doorOnceUptoRow : OpenClaim := { program := "ytgbnpdgaalpkcaa", sum := "eded4153c5d1b5b9051b3dd2e75b5f0113ffe3120c11c9d034bbca5fb1603d7f", func := "pontoon/pontoonlaw4.DoorOnce", spec := "doorOnce", inPlace := ["sync/atomic.SwapInt64", "sync/atomic.LoadUint32", "(*internal/sync.Mutex).Lock", "internal/race.Disable", "sync/atomic.CompareAndSwapInt32", "internal/race.Enable", "internal/race.Acquire", "(*internal/sync.Mutex).lockSlow", "internal/sync.runtime_canSpin", "internal/sync.runtime_doSpin", "internal/sync.throw", "internal/sync.runtime_nanotime", "internal/sync.runtime_SemacquireMutex", "sync/atomic.AddInt32", "(*internal/sync.Mutex).Unlock", "internal/race.ReleaseMerge", "(*internal/sync.Mutex).unlockSlow", "internal/sync.fatal", "internal/sync.runtime_Semrelease", "sync/atomic.StoreUint32", "sync/atomic.LoadInt64"], unfollowed := true, recurses := true, apart := false, narrowed := true }
def DoorOnceUptoSaid : Prop := doorOnceUptoRow.holds Try.pinned (OpenSpec.upto doorOnceSpec)

/-- 'pontoonlaw4.LazyMany', WHERE WHAT IT READS IS OF BULK AT MOST 1048576: true; the input reads as it did. -/
def lazyManyUptoRow : OpenClaim := { program := "ytgbnpdgaalpkcaa", sum := "eded4153c5d1b5b9051b3dd2e75b5f0113ffe3120c11c9d034bbca5fb1603d7f", func := "pontoon/pontoonlaw4.LazyMany", spec := "lazyMany", inPlace := ["sync/atomic.SwapInt64", "sync/atomic.LoadUint32", "(*internal/sync.Mutex).Lock", "internal/race.Disable", "sync/atomic.CompareAndSwapInt32", "internal/race.Enable", "internal/race.Acquire", "(*internal/sync.Mutex).lockSlow", "internal/sync.runtime_canSpin", "internal/sync.runtime_doSpin", "internal/sync.throw", "internal/sync.runtime_nanotime", "internal/sync.runtime_SemacquireMutex", "sync/atomic.AddInt32", "(*internal/sync.Mutex).Unlock", "internal/race.ReleaseMerge", "(*internal/sync.Mutex).unlockSlow", "internal/sync.fatal", "internal/sync.runtime_Semrelease", "sync/atomic.StoreUint32", "sync/atomic.LoadInt64"], unfollowed := true, recurses := true, apart := false, narrowed := true }
def LazyManyUptoSaid : Prop := lazyManyUptoRow.holds Try.pinned (OpenSpec.upto lazyManySpec)

end Rows
end Go.Proofs.Ytgbnpdgaalpkcaa
