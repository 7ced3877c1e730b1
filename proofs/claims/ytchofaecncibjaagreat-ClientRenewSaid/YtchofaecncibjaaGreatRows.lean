/-
  No cell of these rows narrows 'for every input' (looked for: loops, veiled, ifaces, maps, wideKeys, modest, calm, conditions, laid).
  DERIVED. THE GIVEN ROWS OF THIS SEAT. 6 by the template 'for every input the law returns true; each argument reads behind the call as it read before'; 0 by the template 'total and deterministic' (their statements: YtchofaecncibjaaGreatTotals.lean).
  GIVEN WITH THE SEED: the statements are not yours to turn. If you find one false, say at which input.
  Laid BY PROGRAM, IN A SANDBOX (cutbox-rows.mjs): the forced cells as the released guide's own fill.sh prints them over the translation c5e61980720d0090… (all of the seat's roots in one cut). By AI agents, Wed Nov 11 2026. No macro, syntax, notation, axiom, sorry.
-/
import Derived.Test.YtchofaecncibjaaGreatChecked
import GoSem.Claim
import GoSem.ClaimJoined
import GoSem.ClaimMapViews
import Derived.JoinedTies
import Derived.KernelRfl
namespace Go.Proofs.YtchofaecncibjaaGreat
/- THE CELL 'sum', in the pinned program and in every row, IS THE sha256 OF THE DUMP (.gsa) THAT YtchofaecncibjaaGreatProg.lean LOADS. Nothing in Lean hashes anything: it is a label: what it is worth is what the hold of that sum in a sandbox is worth. -/
noncomputable def Tryz.pinned : Pinned := { name := "ytchofaecncibjaagreat", sum := "c5e61980720d0090414993f4152421006c99a387d190bbfcb87e227264e9a2b8", checked := Tryz.checked }
namespace Rows
def none {H : Type} : Left H := { results := [], args := [] }

/-- 'gradinelaw20.ClientHolds': WHATEVER THE INPUT: true; the input reads as it did. -/
def clientHoldsSpec : ChangeSpec := { name := "clientHolds", fn := fun _ => fun
  | [d1, d2] => { results := [.lit (.bool true)], args := [d1, d2] }
  | _ => none }
def clientHoldsRow : OpenClaim := { program := "ytchofaecncibjaagreat", sum := "c5e61980720d0090414993f4152421006c99a387d190bbfcb87e227264e9a2b8", func := "gradine/gradinelaw20.ClientHolds", spec := "clientHolds", unfollowed := true, recurses := true, apart := false }
def ClientHoldsSaid : Prop := clientHoldsRow.holds Tryz.pinned (OpenSpec.ofChange clientHoldsSpec)

/-- ITS FALSE NEIGHBOUR: 'it returns false'. Refute it at one input. -/
def clientHoldsWrong : ChangeSpec := { name := "clientHolds", fn := fun _ => fun
  | [d1, d2] => { results := [.lit (.bool false)], args := [d1, d2] }
  | _ => none }
def ClientHoldsWrongFalsely : Prop := clientHoldsRow.holds Tryz.pinned (OpenSpec.ofChange clientHoldsWrong)

/-- 'gradinelaw20.ClientOnce': WHATEVER THE INPUT: true; the input reads as it did. -/
def clientOnceSpec : ChangeSpec := { name := "clientOnce", fn := fun _ => fun
  | [d1, d2] => { results := [.lit (.bool true)], args := [d1, d2] }
  | _ => none }
def clientOnceRow : OpenClaim := { program := "ytchofaecncibjaagreat", sum := "c5e61980720d0090414993f4152421006c99a387d190bbfcb87e227264e9a2b8", func := "gradine/gradinelaw20.ClientOnce", spec := "clientOnce", unfollowed := true, recurses := true, apart := false }
def ClientOnceSaid : Prop := clientOnceRow.holds Tryz.pinned (OpenSpec.ofChange clientOnceSpec)

/-- ITS FALSE NEIGHBOUR: 'it returns false'. Refute it at one input. -/
def clientOnceWrong : ChangeSpec := { name := "clientOnce", fn := fun _ => fun
  | [d1, d2] => { results := [.lit (.bool false)], args := [d1, d2] }
  | _ => none }
def ClientOnceWrongFalsely : Prop := clientOnceRow.holds Tryz.pinned (OpenSpec.ofChange clientOnceWrong)

/-- 'gradinelaw20.ClientDrops': WHATEVER THE INPUT: true; the input reads as it did. -/
def clientDropsSpec : ChangeSpec := { name := "clientDrops", fn := fun _ => fun
  | [d1, d2] => { results := [.lit (.bool true)], args := [d1, d2] }
  | _ => none }
def clientDropsRow : OpenClaim := { program := "ytchofaecncibjaagreat", sum := "c5e61980720d0090414993f4152421006c99a387d190bbfcb87e227264e9a2b8", func := "gradine/gradinelaw20.ClientDrops", spec := "clientDrops", unfollowed := true, recurses := true, apart := false }
def ClientDropsSaid : Prop := clientDropsRow.holds Tryz.pinned (OpenSpec.ofChange clientDropsSpec)

/-- ITS FALSE NEIGHBOUR: 'it returns false'. Refute it at one input. -/
def clientDropsWrong : ChangeSpec := { name := "clientDrops", fn := fun _ => fun
  | [d1, d2] => { results := [.lit (.bool false)], args := [d1, d2] }
  | _ => none }
def ClientDropsWrongFalsely : Prop := clientDropsRow.holds Tryz.pinned (OpenSpec.ofChange clientDropsWrong)

/-- 'gradinelaw20.ClientAgain': WHATEVER THE INPUT: true; the input reads as it did. -/
def clientAgainSpec : ChangeSpec := { name := "clientAgain", fn := fun _ => fun
  | [d1, d2, d3] => { results := [.lit (.bool true)], args := [d1, d2, d3] }
  | _ => none }
def clientAgainRow : OpenClaim := { program := "ytchofaecncibjaagreat", sum := "c5e61980720d0090414993f4152421006c99a387d190bbfcb87e227264e9a2b8", func := "gradine/gradinelaw20.ClientAgain", spec := "clientAgain", unfollowed := true, recurses := true, apart := false }
def ClientAgainSaid : Prop := clientAgainRow.holds Tryz.pinned (OpenSpec.ofChange clientAgainSpec)

/-- ITS FALSE NEIGHBOUR: 'it returns false'. Refute it at one input. -/
def clientAgainWrong : ChangeSpec := { name := "clientAgain", fn := fun _ => fun
  | [d1, d2, d3] => { results := [.lit (.bool false)], args := [d1, d2, d3] }
  | _ => none }
def ClientAgainWrongFalsely : Prop := clientAgainRow.holds Tryz.pinned (OpenSpec.ofChange clientAgainWrong)

/-- 'gradinelaw20.ClientActs': WHATEVER THE INPUT: true; the input reads as it did. -/
def clientActsSpec : ChangeSpec := { name := "clientActs", fn := fun _ => fun
  | [d1, d2] => { results := [.lit (.bool true)], args := [d1, d2] }
  | _ => none }
def clientActsRow : OpenClaim := { program := "ytchofaecncibjaagreat", sum := "c5e61980720d0090414993f4152421006c99a387d190bbfcb87e227264e9a2b8", func := "gradine/gradinelaw20.ClientActs", spec := "clientActs", unfollowed := true, recurses := true, apart := false }
def ClientActsSaid : Prop := clientActsRow.holds Tryz.pinned (OpenSpec.ofChange clientActsSpec)

/-- ITS FALSE NEIGHBOUR: 'it returns false'. Refute it at one input. -/
def clientActsWrong : ChangeSpec := { name := "clientActs", fn := fun _ => fun
  | [d1, d2] => { results := [.lit (.bool false)], args := [d1, d2] }
  | _ => none }
def ClientActsWrongFalsely : Prop := clientActsRow.holds Tryz.pinned (OpenSpec.ofChange clientActsWrong)

/-- 'gradinelaw20.ClientRenew': WHATEVER THE INPUT: true; the input reads as it did. -/
def clientRenewSpec : ChangeSpec := { name := "clientRenew", fn := fun _ => fun
  | [d1, d2, d3] => { results := [.lit (.bool true)], args := [d1, d2, d3] }
  | _ => none }
def clientRenewRow : OpenClaim := { program := "ytchofaecncibjaagreat", sum := "c5e61980720d0090414993f4152421006c99a387d190bbfcb87e227264e9a2b8", func := "gradine/gradinelaw20.ClientRenew", spec := "clientRenew", unfollowed := true, recurses := true, apart := false }
def ClientRenewSaid : Prop := clientRenewRow.holds Tryz.pinned (OpenSpec.ofChange clientRenewSpec)

/-- ITS FALSE NEIGHBOUR: 'it returns false'. Refute it at one input. -/
def clientRenewWrong : ChangeSpec := { name := "clientRenew", fn := fun _ => fun
  | [d1, d2, d3] => { results := [.lit (.bool false)], args := [d1, d2, d3] }
  | _ => none }
def ClientRenewWrongFalsely : Prop := clientRenewRow.holds Tryz.pinned (OpenSpec.ofChange clientRenewWrong)

/- THE SECOND FORM. 'bulk': how many values and letters a reading holds, each counted each time it is reached (what is shared counts as often as it is met; a slice's spare places count too). A statement '..UptoSaid' is the law's where the arguments, and the package variables that the reading takes, are together of bulk at most 1048576: NARROWER than '..Said'. Prove '..Said' where nothing that the law and all that it calls make is longer than what came in: it says more and counts as full. Else prove '..UptoSaid'. A law counts once. -/
mutual
def uptoBulk {H : Type} : DataW H → Nat
  | .lit (.string bytes) => bytes.length + 1
  | .lit _ => 1
  | .nil => 1
  | .ptr d => uptoBulk d + 1
  | .slice elems spare => uptoBulkAll elems + uptoBulkAll spare + 1
  | .agg parts => uptoBulkAll parts + 1
  | .iface _ d => uptoBulk d + 1
  | .map entries => uptoBulkEntries entries + 1
  | .held _ => 1
def uptoBulkAll {H : Type} : List (DataW H) → Nat
  | [] => 0
  | d :: r => uptoBulk d + uptoBulkAll r
def uptoBulkEntries {H : Type} : List (Lit × DataW H) → Nat
  | [] => 0
  | x :: r => uptoBulkEntry x + uptoBulkEntries r
def uptoBulkEntry {H : Type} : Lit × DataW H → Nat
  | (.string bytes, d) => bytes.length + uptoBulk d + 1
  | (_, d) => uptoBulk d + 1
 end
def uptoSmall : (H : Type) → List (DataW H) → Bool := fun _ ds => decide (uptoBulkAll ds ≤ 1048576)
def OpenSpec.upto (s : _root_.Go.ChangeSpec) : _root_.Go.OpenSpec := { _root_.Go.OpenSpec.ofChange s with cond := some uptoSmall }

/-- 'gradinelaw20.ClientHolds', WHERE WHAT IT READS IS OF BULK AT MOST 1048576: true; the input reads as it did. -/
def clientHoldsUptoRow : OpenClaim := { program := "ytchofaecncibjaagreat", sum := "c5e61980720d0090414993f4152421006c99a387d190bbfcb87e227264e9a2b8", func := "gradine/gradinelaw20.ClientHolds", spec := "clientHolds", unfollowed := true, recurses := true, apart := false, narrowed := true }
def ClientHoldsUptoSaid : Prop := clientHoldsUptoRow.holds Tryz.pinned (OpenSpec.upto clientHoldsSpec)

/-- 'gradinelaw20.ClientOnce', WHERE WHAT IT READS IS OF BULK AT MOST 1048576: true; the input reads as it did. -/
def clientOnceUptoRow : OpenClaim := { program := "ytchofaecncibjaagreat", sum := "c5e61980720d0090414993f4152421006c99a387d190bbfcb87e227264e9a2b8", func := "gradine/gradinelaw20.ClientOnce", spec := "clientOnce", unfollowed := true, recurses := true, apart := false, narrowed := true }
def ClientOnceUptoSaid : Prop := clientOnceUptoRow.holds Tryz.pinned (OpenSpec.upto clientOnceSpec)

/-- 'gradinelaw20.ClientDrops', WHERE WHAT IT READS IS OF BULK AT MOST 1048576: true; the input reads as it did. -/
def clientDropsUptoRow : OpenClaim := { program := "ytchofaecncibjaagreat", sum := "c5e61980720d0090414993f4152421006c99a387d190bbfcb87e227264e9a2b8", func := "gradine/gradinelaw20.ClientDrops", spec := "clientDrops", unfollowed := true, recurses := true, apart := false, narrowed := true }
def ClientDropsUptoSaid : Prop := clientDropsUptoRow.holds Tryz.pinned (OpenSpec.upto clientDropsSpec)

/-- 'gradinelaw20.ClientAgain', WHERE WHAT IT READS IS OF BULK AT MOST 1048576: true; the input reads as it did. -/
def clientAgainUptoRow : OpenClaim := { program := "ytchofaecncibjaagreat", sum := "c5e61980720d0090414993f4152421006c99a387d190bbfcb87e227264e9a2b8", func := "gradine/gradinelaw20.ClientAgain", spec := "clientAgain", unfollowed := true, recurses := true, apart := false, narrowed := true }
def ClientAgainUptoSaid : Prop := clientAgainUptoRow.holds Tryz.pinned (OpenSpec.upto clientAgainSpec)

/-- 'gradinelaw20.ClientActs', WHERE WHAT IT READS IS OF BULK AT MOST 1048576: true; the input reads as it did. -/
def clientActsUptoRow : OpenClaim := { program := "ytchofaecncibjaagreat", sum := "c5e61980720d0090414993f4152421006c99a387d190bbfcb87e227264e9a2b8", func := "gradine/gradinelaw20.ClientActs", spec := "clientActs", unfollowed := true, recurses := true, apart := false, narrowed := true }
def ClientActsUptoSaid : Prop := clientActsUptoRow.holds Tryz.pinned (OpenSpec.upto clientActsSpec)

/-- 'gradinelaw20.ClientRenew', WHERE WHAT IT READS IS OF BULK AT MOST 1048576: true; the input reads as it did. -/
def clientRenewUptoRow : OpenClaim := { program := "ytchofaecncibjaagreat", sum := "c5e61980720d0090414993f4152421006c99a387d190bbfcb87e227264e9a2b8", func := "gradine/gradinelaw20.ClientRenew", spec := "clientRenew", unfollowed := true, recurses := true, apart := false, narrowed := true }
def ClientRenewUptoSaid : Prop := clientRenewUptoRow.holds Tryz.pinned (OpenSpec.upto clientRenewSpec)

end Rows
end Go.Proofs.YtchofaecncibjaaGreat
