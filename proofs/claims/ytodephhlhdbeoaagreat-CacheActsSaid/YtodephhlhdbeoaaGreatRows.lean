/-
  No cell of these rows narrows 'for every input' (looked for: loops, veiled, ifaces, maps, wideKeys, modest, calm, conditions, laid).
  DERIVED. THE GIVEN ROWS OF THIS SEAT. 14 by the template 'for every input the law returns true; each argument reads behind the call as it read before'; 0 by the template 'total and deterministic' (their statements: YtodephhlhdbeoaaGreatTotals.lean).
  GIVEN WITH THE SEED: the statements are not yours to turn. If you find one false, say at which input.
  Laid BY PROGRAM, IN A SANDBOX (cutbox-rows.mjs): the forced cells as the released guide's own fill.sh prints them over the translation ecab87192aa88d08… (all of the seat's roots in one cut). By AI agents, Wed Nov 11 2026. No macro, syntax, notation, axiom, sorry.
-/
import Derived.Test.YtodephhlhdbeoaaGreatChecked
import GoSem.Claim
import GoSem.ClaimJoined
import GoSem.ClaimMapViews
import Derived.JoinedTies
import Derived.KernelRfl
namespace Go.Proofs.YtodephhlhdbeoaaGreat
/- THE CELL 'sum', in the pinned program and in every row, IS THE sha256 OF THE DUMP (.gsa) THAT YtodephhlhdbeoaaGreatProg.lean LOADS. Nothing in Lean hashes anything: it is a label: what it is worth is what the hold of that sum in a sandbox is worth. -/
noncomputable def Tryz.pinned : Pinned := { name := "ytodephhlhdbeoaagreat", sum := "ecab87192aa88d0865ce0c730fafa42db9273864927860ed433a38e4c87e53b5", checked := Tryz.checked }
namespace Rows
def none {H : Type} : Left H := { results := [], args := [] }

/-- 'gradinelaw16.CacheActs': WHATEVER THE INPUT: true; the input reads as it did. -/
def cacheActsSpec : ChangeSpec := { name := "cacheActs", fn := fun _ => fun
  | [d1, d2, d3] => { results := [.lit (.bool true)], args := [d1, d2, d3] }
  | _ => none }
def cacheActsRow : OpenClaim := { program := "ytodephhlhdbeoaagreat", sum := "ecab87192aa88d0865ce0c730fafa42db9273864927860ed433a38e4c87e53b5", func := "gradine/gradinelaw16.CacheActs", spec := "cacheActs", unfollowed := true, recurses := true, plainKeys := false, apart := false }
def CacheActsSaid : Prop := cacheActsRow.holds Tryz.pinned (OpenSpec.ofChange cacheActsSpec)

/-- ITS FALSE NEIGHBOUR: 'it returns false'. Refute it at one input. -/
def cacheActsWrong : ChangeSpec := { name := "cacheActs", fn := fun _ => fun
  | [d1, d2, d3] => { results := [.lit (.bool false)], args := [d1, d2, d3] }
  | _ => none }
def CacheActsWrongFalsely : Prop := cacheActsRow.holds Tryz.pinned (OpenSpec.ofChange cacheActsWrong)

/-- 'gradinelaw20.ClientHolds': WHATEVER THE INPUT: true; the input reads as it did. -/
def clientHoldsSpec : ChangeSpec := { name := "clientHolds", fn := fun _ => fun
  | [d1, d2] => { results := [.lit (.bool true)], args := [d1, d2] }
  | _ => none }
def clientHoldsRow : OpenClaim := { program := "ytodephhlhdbeoaagreat", sum := "ecab87192aa88d0865ce0c730fafa42db9273864927860ed433a38e4c87e53b5", func := "gradine/gradinelaw20.ClientHolds", spec := "clientHolds", unfollowed := true, recurses := true, plainKeys := false, apart := false }
def ClientHoldsSaid : Prop := clientHoldsRow.holds Tryz.pinned (OpenSpec.ofChange clientHoldsSpec)

/-- ITS FALSE NEIGHBOUR: 'it returns false'. Refute it at one input. -/
def clientHoldsWrong : ChangeSpec := { name := "clientHolds", fn := fun _ => fun
  | [d1, d2] => { results := [.lit (.bool false)], args := [d1, d2] }
  | _ => none }
def ClientHoldsWrongFalsely : Prop := clientHoldsRow.holds Tryz.pinned (OpenSpec.ofChange clientHoldsWrong)

/-- 'gradinelaw20.ClientOnce': WHATEVER THE INPUT: true; the input reads as it did. -/
def clientOnceSpec : ChangeSpec := { name := "clientOnce", fn := fun _ => fun
  | [d1, d2] => { results := [.lit (.bool true)], args := [d1, d2] }
  | _ => none }
def clientOnceRow : OpenClaim := { program := "ytodephhlhdbeoaagreat", sum := "ecab87192aa88d0865ce0c730fafa42db9273864927860ed433a38e4c87e53b5", func := "gradine/gradinelaw20.ClientOnce", spec := "clientOnce", unfollowed := true, recurses := true, plainKeys := false, apart := false }
def ClientOnceSaid : Prop := clientOnceRow.holds Tryz.pinned (OpenSpec.ofChange clientOnceSpec)

/-- ITS FALSE NEIGHBOUR: 'it returns false'. Refute it at one input. -/
def clientOnceWrong : ChangeSpec := { name := "clientOnce", fn := fun _ => fun
  | [d1, d2] => { results := [.lit (.bool false)], args := [d1, d2] }
  | _ => none }
def ClientOnceWrongFalsely : Prop := clientOnceRow.holds Tryz.pinned (OpenSpec.ofChange clientOnceWrong)

/-- 'gradinelaw20.ClientDrops': WHATEVER THE INPUT: true; the input reads as it did. -/
def clientDropsSpec : ChangeSpec := { name := "clientDrops", fn := fun _ => fun
  | [d1, d2] => { results := [.lit (.bool true)], args := [d1, d2] }
  | _ => none }
def clientDropsRow : OpenClaim := { program := "ytodephhlhdbeoaagreat", sum := "ecab87192aa88d0865ce0c730fafa42db9273864927860ed433a38e4c87e53b5", func := "gradine/gradinelaw20.ClientDrops", spec := "clientDrops", unfollowed := true, recurses := true, plainKeys := false, apart := false }
def ClientDropsSaid : Prop := clientDropsRow.holds Tryz.pinned (OpenSpec.ofChange clientDropsSpec)

/-- ITS FALSE NEIGHBOUR: 'it returns false'. Refute it at one input. -/
def clientDropsWrong : ChangeSpec := { name := "clientDrops", fn := fun _ => fun
  | [d1, d2] => { results := [.lit (.bool false)], args := [d1, d2] }
  | _ => none }
def ClientDropsWrongFalsely : Prop := clientDropsRow.holds Tryz.pinned (OpenSpec.ofChange clientDropsWrong)

/-- 'gradinelaw20.ClientAgain': WHATEVER THE INPUT: true; the input reads as it did. -/
def clientAgainSpec : ChangeSpec := { name := "clientAgain", fn := fun _ => fun
  | [d1, d2, d3] => { results := [.lit (.bool true)], args := [d1, d2, d3] }
  | _ => none }
def clientAgainRow : OpenClaim := { program := "ytodephhlhdbeoaagreat", sum := "ecab87192aa88d0865ce0c730fafa42db9273864927860ed433a38e4c87e53b5", func := "gradine/gradinelaw20.ClientAgain", spec := "clientAgain", unfollowed := true, recurses := true, plainKeys := false, apart := false }
def ClientAgainSaid : Prop := clientAgainRow.holds Tryz.pinned (OpenSpec.ofChange clientAgainSpec)

/-- ITS FALSE NEIGHBOUR: 'it returns false'. Refute it at one input. -/
def clientAgainWrong : ChangeSpec := { name := "clientAgain", fn := fun _ => fun
  | [d1, d2, d3] => { results := [.lit (.bool false)], args := [d1, d2, d3] }
  | _ => none }
def ClientAgainWrongFalsely : Prop := clientAgainRow.holds Tryz.pinned (OpenSpec.ofChange clientAgainWrong)

/-- 'gradinelaw20.ClientActs': WHATEVER THE INPUT: true; the input reads as it did. -/
def clientActsSpec : ChangeSpec := { name := "clientActs", fn := fun _ => fun
  | [d1, d2] => { results := [.lit (.bool true)], args := [d1, d2] }
  | _ => none }
def clientActsRow : OpenClaim := { program := "ytodephhlhdbeoaagreat", sum := "ecab87192aa88d0865ce0c730fafa42db9273864927860ed433a38e4c87e53b5", func := "gradine/gradinelaw20.ClientActs", spec := "clientActs", unfollowed := true, recurses := true, plainKeys := false, apart := false }
def ClientActsSaid : Prop := clientActsRow.holds Tryz.pinned (OpenSpec.ofChange clientActsSpec)

/-- ITS FALSE NEIGHBOUR: 'it returns false'. Refute it at one input. -/
def clientActsWrong : ChangeSpec := { name := "clientActs", fn := fun _ => fun
  | [d1, d2] => { results := [.lit (.bool false)], args := [d1, d2] }
  | _ => none }
def ClientActsWrongFalsely : Prop := clientActsRow.holds Tryz.pinned (OpenSpec.ofChange clientActsWrong)

/-- 'gradinelaw20.ClientRenew': WHATEVER THE INPUT: true; the input reads as it did. -/
def clientRenewSpec : ChangeSpec := { name := "clientRenew", fn := fun _ => fun
  | [d1, d2, d3] => { results := [.lit (.bool true)], args := [d1, d2, d3] }
  | _ => none }
def clientRenewRow : OpenClaim := { program := "ytodephhlhdbeoaagreat", sum := "ecab87192aa88d0865ce0c730fafa42db9273864927860ed433a38e4c87e53b5", func := "gradine/gradinelaw20.ClientRenew", spec := "clientRenew", unfollowed := true, recurses := true, plainKeys := false, apart := false }
def ClientRenewSaid : Prop := clientRenewRow.holds Tryz.pinned (OpenSpec.ofChange clientRenewSpec)

/-- ITS FALSE NEIGHBOUR: 'it returns false'. Refute it at one input. -/
def clientRenewWrong : ChangeSpec := { name := "clientRenew", fn := fun _ => fun
  | [d1, d2, d3] => { results := [.lit (.bool false)], args := [d1, d2, d3] }
  | _ => none }
def ClientRenewWrongFalsely : Prop := clientRenewRow.holds Tryz.pinned (OpenSpec.ofChange clientRenewWrong)

/-- 'gradinelaw18.ArrayTrue': WHATEVER THE INPUT: true; the input reads as it did. -/
def arrayTrueSpec : ChangeSpec := { name := "arrayTrue", fn := fun _ => fun
  | [d1, d2] => { results := [.lit (.bool true)], args := [d1, d2] }
  | _ => none }
def arrayTrueRow : OpenClaim := { program := "ytodephhlhdbeoaagreat", sum := "ecab87192aa88d0865ce0c730fafa42db9273864927860ed433a38e4c87e53b5", func := "gradine/gradinelaw18.ArrayTrue", spec := "arrayTrue", unfollowed := true, recurses := true, plainKeys := false, apart := false }
def ArrayTrueSaid : Prop := arrayTrueRow.holds Tryz.pinned (OpenSpec.ofChange arrayTrueSpec)

/-- ITS FALSE NEIGHBOUR: 'it returns false'. Refute it at one input. -/
def arrayTrueWrong : ChangeSpec := { name := "arrayTrue", fn := fun _ => fun
  | [d1, d2] => { results := [.lit (.bool false)], args := [d1, d2] }
  | _ => none }
def ArrayTrueWrongFalsely : Prop := arrayTrueRow.holds Tryz.pinned (OpenSpec.ofChange arrayTrueWrong)

/-- 'gradinelaw19.ServerGone': WHATEVER THE INPUT: true; the input reads as it did. -/
def serverGoneSpec : ChangeSpec := { name := "serverGone", fn := fun _ => fun
  | [d1, d2] => { results := [.lit (.bool true)], args := [d1, d2] }
  | _ => none }
def serverGoneRow : OpenClaim := { program := "ytodephhlhdbeoaagreat", sum := "ecab87192aa88d0865ce0c730fafa42db9273864927860ed433a38e4c87e53b5", func := "gradine/gradinelaw19.ServerGone", spec := "serverGone", unfollowed := true, recurses := true, plainKeys := false, apart := false }
def ServerGoneSaid : Prop := serverGoneRow.holds Tryz.pinned (OpenSpec.ofChange serverGoneSpec)

/-- ITS FALSE NEIGHBOUR: 'it returns false'. Refute it at one input. -/
def serverGoneWrong : ChangeSpec := { name := "serverGone", fn := fun _ => fun
  | [d1, d2] => { results := [.lit (.bool false)], args := [d1, d2] }
  | _ => none }
def ServerGoneWrongFalsely : Prop := serverGoneRow.holds Tryz.pinned (OpenSpec.ofChange serverGoneWrong)

/-- 'gradinelaw18.ArrayBound': WHATEVER THE INPUT: true; the input reads as it did. -/
def arrayBoundSpec : ChangeSpec := { name := "arrayBound", fn := fun _ => fun
  | [d1, d2] => { results := [.lit (.bool true)], args := [d1, d2] }
  | _ => none }
def arrayBoundRow : OpenClaim := { program := "ytodephhlhdbeoaagreat", sum := "ecab87192aa88d0865ce0c730fafa42db9273864927860ed433a38e4c87e53b5", func := "gradine/gradinelaw18.ArrayBound", spec := "arrayBound", unfollowed := true, recurses := true, plainKeys := false, apart := false }
def ArrayBoundSaid : Prop := arrayBoundRow.holds Tryz.pinned (OpenSpec.ofChange arrayBoundSpec)

/-- ITS FALSE NEIGHBOUR: 'it returns false'. Refute it at one input. -/
def arrayBoundWrong : ChangeSpec := { name := "arrayBound", fn := fun _ => fun
  | [d1, d2] => { results := [.lit (.bool false)], args := [d1, d2] }
  | _ => none }
def ArrayBoundWrongFalsely : Prop := arrayBoundRow.holds Tryz.pinned (OpenSpec.ofChange arrayBoundWrong)

/-- 'gradinelaw18.ArrayOnce': WHATEVER THE INPUT: true; the input reads as it did. -/
def arrayOnceSpec : ChangeSpec := { name := "arrayOnce", fn := fun _ => fun
  | [d1, d2, d3] => { results := [.lit (.bool true)], args := [d1, d2, d3] }
  | _ => none }
def arrayOnceRow : OpenClaim := { program := "ytodephhlhdbeoaagreat", sum := "ecab87192aa88d0865ce0c730fafa42db9273864927860ed433a38e4c87e53b5", func := "gradine/gradinelaw18.ArrayOnce", spec := "arrayOnce", unfollowed := true, recurses := true, plainKeys := false, apart := false }
def ArrayOnceSaid : Prop := arrayOnceRow.holds Tryz.pinned (OpenSpec.ofChange arrayOnceSpec)

/-- ITS FALSE NEIGHBOUR: 'it returns false'. Refute it at one input. -/
def arrayOnceWrong : ChangeSpec := { name := "arrayOnce", fn := fun _ => fun
  | [d1, d2, d3] => { results := [.lit (.bool false)], args := [d1, d2, d3] }
  | _ => none }
def ArrayOnceWrongFalsely : Prop := arrayOnceRow.holds Tryz.pinned (OpenSpec.ofChange arrayOnceWrong)

/-- 'gradinelaw18.ArrayHears': WHATEVER THE INPUT: true; the input reads as it did. -/
def arrayHearsSpec : ChangeSpec := { name := "arrayHears", fn := fun _ => fun
  | [d1, d2] => { results := [.lit (.bool true)], args := [d1, d2] }
  | _ => none }
def arrayHearsRow : OpenClaim := { program := "ytodephhlhdbeoaagreat", sum := "ecab87192aa88d0865ce0c730fafa42db9273864927860ed433a38e4c87e53b5", func := "gradine/gradinelaw18.ArrayHears", spec := "arrayHears", unfollowed := true, recurses := true, plainKeys := false, apart := false }
def ArrayHearsSaid : Prop := arrayHearsRow.holds Tryz.pinned (OpenSpec.ofChange arrayHearsSpec)

/-- ITS FALSE NEIGHBOUR: 'it returns false'. Refute it at one input. -/
def arrayHearsWrong : ChangeSpec := { name := "arrayHears", fn := fun _ => fun
  | [d1, d2] => { results := [.lit (.bool false)], args := [d1, d2] }
  | _ => none }
def ArrayHearsWrongFalsely : Prop := arrayHearsRow.holds Tryz.pinned (OpenSpec.ofChange arrayHearsWrong)

/-- 'gradinelaw19.ServerBound': WHATEVER THE INPUT: true; the input reads as it did. -/
def serverBoundSpec : ChangeSpec := { name := "serverBound", fn := fun _ => fun
  | [d1, d2] => { results := [.lit (.bool true)], args := [d1, d2] }
  | _ => none }
def serverBoundRow : OpenClaim := { program := "ytodephhlhdbeoaagreat", sum := "ecab87192aa88d0865ce0c730fafa42db9273864927860ed433a38e4c87e53b5", func := "gradine/gradinelaw19.ServerBound", spec := "serverBound", unfollowed := true, recurses := true, plainKeys := false, apart := false }
def ServerBoundSaid : Prop := serverBoundRow.holds Tryz.pinned (OpenSpec.ofChange serverBoundSpec)

/-- ITS FALSE NEIGHBOUR: 'it returns false'. Refute it at one input. -/
def serverBoundWrong : ChangeSpec := { name := "serverBound", fn := fun _ => fun
  | [d1, d2] => { results := [.lit (.bool false)], args := [d1, d2] }
  | _ => none }
def ServerBoundWrongFalsely : Prop := serverBoundRow.holds Tryz.pinned (OpenSpec.ofChange serverBoundWrong)

/-- 'gradinelaw19.ServerReset': WHATEVER THE INPUT: true; the input reads as it did. -/
def serverResetSpec : ChangeSpec := { name := "serverReset", fn := fun _ => fun
  | [d1, d2] => { results := [.lit (.bool true)], args := [d1, d2] }
  | _ => none }
def serverResetRow : OpenClaim := { program := "ytodephhlhdbeoaagreat", sum := "ecab87192aa88d0865ce0c730fafa42db9273864927860ed433a38e4c87e53b5", func := "gradine/gradinelaw19.ServerReset", spec := "serverReset", unfollowed := true, recurses := true, plainKeys := false, apart := false }
def ServerResetSaid : Prop := serverResetRow.holds Tryz.pinned (OpenSpec.ofChange serverResetSpec)

/-- ITS FALSE NEIGHBOUR: 'it returns false'. Refute it at one input. -/
def serverResetWrong : ChangeSpec := { name := "serverReset", fn := fun _ => fun
  | [d1, d2] => { results := [.lit (.bool false)], args := [d1, d2] }
  | _ => none }
def ServerResetWrongFalsely : Prop := serverResetRow.holds Tryz.pinned (OpenSpec.ofChange serverResetWrong)

/- THE SECOND FORM. 'bulk': how many values and letters a reading holds, each counted each time it is reached (what is shared counts as often as it is met; a slice's spare places count too). A statement '..UptoSaid' is the law's where the arguments, and the package variables that the reading takes, are together of bulk at most 1048576: NARROWER than '..Said'. Prove '..Said' where nothing that the law and all that it calls make is longer than what came in: it says more and counts as full. Else prove '..UptoSaid'. A law counts once. -/
mutual
def uptoBulk {H : Type} : DataW H → Nat
  | .lit (.string bytes) => bytes.length + 1
  | .lit _ => 1
  | .nil => 1
  | .ptr d => uptoBulk d + 1
  | .slice elems spare => uptoBulkAll elems + uptoBulkAll spare + 1
  | .agg parts => uptoBulkAll parts + 1
  | .iface _ d => uptoBulk d + 1
  | .map entries => uptoBulkEntries entries + 1
  | .held _ => 1
def uptoBulkAll {H : Type} : List (DataW H) → Nat
  | [] => 0
  | d :: r => uptoBulk d + uptoBulkAll r
def uptoBulkEntries {H : Type} : List (Lit × DataW H) → Nat
  | [] => 0
  | x :: r => uptoBulkEntry x + uptoBulkEntries r
def uptoBulkEntry {H : Type} : Lit × DataW H → Nat
  | (.string bytes, d) => bytes.length + uptoBulk d + 1
  | (_, d) => uptoBulk d + 1
 end
def uptoSmall : (H : Type) → List (DataW H) → Bool := fun _ ds => decide (uptoBulkAll ds ≤ 1048576)
def OpenSpec.upto (s : _root_.Go.ChangeSpec) : _root_.Go.OpenSpec := { _root_.Go.OpenSpec.ofChange s with cond := some uptoSmall }

/-- 'gradinelaw16.CacheActs', WHERE WHAT IT READS IS OF BULK AT MOST 1048576: true; the input reads as it did. -/
def cacheActsUptoRow : OpenClaim := { program := "ytodephhlhdbeoaagreat", sum := "ecab87192aa88d0865ce0c730fafa42db9273864927860ed433a38e4c87e53b5", func := "gradine/gradinelaw16.CacheActs", spec := "cacheActs", unfollowed := true, recurses := true, plainKeys := false, apart := false, narrowed := true }
def CacheActsUptoSaid : Prop := cacheActsUptoRow.holds Tryz.pinned (OpenSpec.upto cacheActsSpec)

/-- 'gradinelaw20.ClientHolds', WHERE WHAT IT READS IS OF BULK AT MOST 1048576: true; the input reads as it did. -/
def clientHoldsUptoRow : OpenClaim := { program := "ytodephhlhdbeoaagreat", sum := "ecab87192aa88d0865ce0c730fafa42db9273864927860ed433a38e4c87e53b5", func := "gradine/gradinelaw20.ClientHolds", spec := "clientHolds", unfollowed := true, recurses := true, plainKeys := false, apart := false, narrowed := true }
def ClientHoldsUptoSaid : Prop := clientHoldsUptoRow.holds Tryz.pinned (OpenSpec.upto clientHoldsSpec)

/-- 'gradinelaw20.ClientOnce', WHERE WHAT IT READS IS OF BULK AT MOST 1048576: true; the input reads as it did. -/
def clientOnceUptoRow : OpenClaim := { program := "ytodephhlhdbeoaagreat", sum := "ecab87192aa88d0865ce0c730fafa42db9273864927860ed433a38e4c87e53b5", func := "gradine/gradinelaw20.ClientOnce", spec := "clientOnce", unfollowed := true, recurses := true, plainKeys := false, apart := false, narrowed := true }
def ClientOnceUptoSaid : Prop := clientOnceUptoRow.holds Tryz.pinned (OpenSpec.upto clientOnceSpec)

/-- 'gradinelaw20.ClientDrops', WHERE WHAT IT READS IS OF BULK AT MOST 1048576: true; the input reads as it did. -/
def clientDropsUptoRow : OpenClaim := { program := "ytodephhlhdbeoaagreat", sum := "ecab87192aa88d0865ce0c730fafa42db9273864927860ed433a38e4c87e53b5", func := "gradine/gradinelaw20.ClientDrops", spec := "clientDrops", unfollowed := true, recurses := true, plainKeys := false, apart := false, narrowed := true }
def ClientDropsUptoSaid : Prop := clientDropsUptoRow.holds Tryz.pinned (OpenSpec.upto clientDropsSpec)

/-- 'gradinelaw20.ClientAgain', WHERE WHAT IT READS IS OF BULK AT MOST 1048576: true; the input reads as it did. -/
def clientAgainUptoRow : OpenClaim := { program := "ytodephhlhdbeoaagreat", sum := "ecab87192aa88d0865ce0c730fafa42db9273864927860ed433a38e4c87e53b5", func := "gradine/gradinelaw20.ClientAgain", spec := "clientAgain", unfollowed := true, recurses := true, plainKeys := false, apart := false, narrowed := true }
def ClientAgainUptoSaid : Prop := clientAgainUptoRow.holds Tryz.pinned (OpenSpec.upto clientAgainSpec)

/-- 'gradinelaw20.ClientActs', WHERE WHAT IT READS IS OF BULK AT MOST 1048576: true; the input reads as it did. -/
def clientActsUptoRow : OpenClaim := { program := "ytodephhlhdbeoaagreat", sum := "ecab87192aa88d0865ce0c730fafa42db9273864927860ed433a38e4c87e53b5", func := "gradine/gradinelaw20.ClientActs", spec := "clientActs", unfollowed := true, recurses := true, plainKeys := false, apart := false, narrowed := true }
def ClientActsUptoSaid : Prop := clientActsUptoRow.holds Tryz.pinned (OpenSpec.upto clientActsSpec)

/-- 'gradinelaw20.ClientRenew', WHERE WHAT IT READS IS OF BULK AT MOST 1048576: true; the input reads as it did. -/
def clientRenewUptoRow : OpenClaim := { program := "ytodephhlhdbeoaagreat", sum := "ecab87192aa88d0865ce0c730fafa42db9273864927860ed433a38e4c87e53b5", func := "gradine/gradinelaw20.ClientRenew", spec := "clientRenew", unfollowed := true, recurses := true, plainKeys := false, apart := false, narrowed := true }
def ClientRenewUptoSaid : Prop := clientRenewUptoRow.holds Tryz.pinned (OpenSpec.upto clientRenewSpec)

/-- 'gradinelaw18.ArrayTrue', WHERE WHAT IT READS IS OF BULK AT MOST 1048576: true; the input reads as it did. -/
def arrayTrueUptoRow : OpenClaim := { program := "ytodephhlhdbeoaagreat", sum := "ecab87192aa88d0865ce0c730fafa42db9273864927860ed433a38e4c87e53b5", func := "gradine/gradinelaw18.ArrayTrue", spec := "arrayTrue", unfollowed := true, recurses := true, plainKeys := false, apart := false, narrowed := true }
def ArrayTrueUptoSaid : Prop := arrayTrueUptoRow.holds Tryz.pinned (OpenSpec.upto arrayTrueSpec)

/-- 'gradinelaw19.ServerGone', WHERE WHAT IT READS IS OF BULK AT MOST 1048576: true; the input reads as it did. -/
def serverGoneUptoRow : OpenClaim := { program := "ytodephhlhdbeoaagreat", sum := "ecab87192aa88d0865ce0c730fafa42db9273864927860ed433a38e4c87e53b5", func := "gradine/gradinelaw19.ServerGone", spec := "serverGone", unfollowed := true, recurses := true, plainKeys := false, apart := false, narrowed := true }
def ServerGoneUptoSaid : Prop := serverGoneUptoRow.holds Tryz.pinned (OpenSpec.upto serverGoneSpec)

/-- 'gradinelaw18.ArrayBound', WHERE WHAT IT READS IS OF BULK AT MOST 1048576: true; the input reads as it did. -/
def arrayBoundUptoRow : OpenClaim := { program := "ytodephhlhdbeoaagreat", sum := "ecab87192aa88d0865ce0c730fafa42db9273864927860ed433a38e4c87e53b5", func := "gradine/gradinelaw18.ArrayBound", spec := "arrayBound", unfollowed := true, recurses := true, plainKeys := false, apart := false, narrowed := true }
def ArrayBoundUptoSaid : Prop := arrayBoundUptoRow.holds Tryz.pinned (OpenSpec.upto arrayBoundSpec)

/-- 'gradinelaw18.ArrayOnce', WHERE WHAT IT READS IS OF BULK AT MOST 1048576: true; the input reads as it did. -/
def arrayOnceUptoRow : OpenClaim := { program := "ytodephhlhdbeoaagreat", sum := "ecab87192aa88d0865ce0c730fafa42db9273864927860ed433a38e4c87e53b5", func := "gradine/gradinelaw18.ArrayOnce", spec := "arrayOnce", unfollowed := true, recurses := true, plainKeys := false, apart := false, narrowed := true }
def ArrayOnceUptoSaid : Prop := arrayOnceUptoRow.holds Tryz.pinned (OpenSpec.upto arrayOnceSpec)

/-- 'gradinelaw18.ArrayHears', WHERE WHAT IT READS IS OF BULK AT MOST 1048576: true; the input reads as it did. -/
def arrayHearsUptoRow : OpenClaim := { program := "ytodephhlhdbeoaagreat", sum := "ecab87192aa88d0865ce0c730fafa42db9273864927860ed433a38e4c87e53b5", func := "gradine/gradinelaw18.ArrayHears", spec := "arrayHears", unfollowed := true, recurses := true, plainKeys := false, apart := false, narrowed := true }
def ArrayHearsUptoSaid : Prop := arrayHearsUptoRow.holds Tryz.pinned (OpenSpec.upto arrayHearsSpec)

/-- 'gradinelaw19.ServerBound', WHERE WHAT IT READS IS OF BULK AT MOST 1048576: true; the input reads as it did. -/
def serverBoundUptoRow : OpenClaim := { program := "ytodephhlhdbeoaagreat", sum := "ecab87192aa88d0865ce0c730fafa42db9273864927860ed433a38e4c87e53b5", func := "gradine/gradinelaw19.ServerBound", spec := "serverBound", unfollowed := true, recurses := true, plainKeys := false, apart := false, narrowed := true }
def ServerBoundUptoSaid : Prop := serverBoundUptoRow.holds Tryz.pinned (OpenSpec.upto serverBoundSpec)

/-- 'gradinelaw19.ServerReset', WHERE WHAT IT READS IS OF BULK AT MOST 1048576: true; the input reads as it did. -/
def serverResetUptoRow : OpenClaim := { program := "ytodephhlhdbeoaagreat", sum := "ecab87192aa88d0865ce0c730fafa42db9273864927860ed433a38e4c87e53b5", func := "gradine/gradinelaw19.ServerReset", spec := "serverReset", unfollowed := true, recurses := true, plainKeys := false, apart := false, narrowed := true }
def ServerResetUptoSaid : Prop := serverResetUptoRow.holds Tryz.pinned (OpenSpec.upto serverResetSpec)

end Rows
end Go.Proofs.YtodephhlhdbeoaaGreat
