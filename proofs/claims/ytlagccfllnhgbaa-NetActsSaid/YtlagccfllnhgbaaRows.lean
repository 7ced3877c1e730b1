/-
  No cell of these rows narrows 'for every input' (looked for: loops, veiled, ifaces, maps, wideKeys, modest, calm, conditions, laid).
  DERIVED. THE GIVEN ROWS OF THIS SEAT. 9 by the template 'for every input the law returns true; each argument reads behind the call as it read before'; 0 by the template 'total and deterministic' (their statements: YtlagccfllnhgbaaTotals.lean).
  GIVEN WITH THE SEED: the statements are not yours to turn. If you find one false, say at which input.
  Laid BY PROGRAM, IN A SANDBOX (cutbox-rows.mjs): the forced cells as the released guide's own fill.sh prints them over the translation 0c704f9f5ee98426… (all of the seat's roots in one cut). By AI agents, Wed Nov 11 2026. No macro, syntax, notation, axiom, sorry.
-/
import Derived.Test.YtlagccfllnhgbaaChecked
import GoSem.Claim
import GoSem.ClaimJoined
import GoSem.ClaimMapViews
import Derived.JoinedTies
import Derived.KernelRfl
namespace Go.Proofs.Ytlagccfllnhgbaa
/- THE CELL 'sum', in the pinned program and in every row, IS THE sha256 OF THE DUMP (.gsa) THAT YtlagccfllnhgbaaProg.lean LOADS. Nothing in Lean hashes anything: it is a label: what it is worth is what the hold of that sum in a sandbox is worth. -/
noncomputable def Try.pinned : Pinned := { name := "ytlagccfllnhgbaa", sum := "0c704f9f5ee9842688e5e3afda15c8b76c506e1bf767e817c0e9c26548160da0", checked := Try.checked }
namespace Rows
def none {H : Type} : Left H := { results := [], args := [] }

/-- 'gradinelaw09.NetOrder': WHATEVER THE INPUT: true; the input reads as it did. -/
def netOrderSpec : ChangeSpec := { name := "netOrder", fn := fun _ => fun
  | [d] => { results := [.lit (.bool true)], args := [d] }
  | _ => none }
def netOrderRow : OpenClaim := { program := "ytlagccfllnhgbaa", sum := "0c704f9f5ee9842688e5e3afda15c8b76c506e1bf767e817c0e9c26548160da0", func := "gradine/gradinelaw09.NetOrder", spec := "netOrder", apart := false }
def NetOrderSaid : Prop := netOrderRow.holds Try.pinned (OpenSpec.ofChange netOrderSpec)

/-- ITS FALSE NEIGHBOUR: 'it returns false'. Refute it at one input. -/
def netOrderWrong : ChangeSpec := { name := "netOrder", fn := fun _ => fun
  | [d] => { results := [.lit (.bool false)], args := [d] }
  | _ => none }
def NetOrderWrongFalsely : Prop := netOrderRow.holds Try.pinned (OpenSpec.ofChange netOrderWrong)

/-- 'gradinelaw09.NetTurns': WHATEVER THE INPUT: true; the input reads as it did. -/
def netTurnsSpec : ChangeSpec := { name := "netTurns", fn := fun _ => fun
  | [d1, d2, d3] => { results := [.lit (.bool true)], args := [d1, d2, d3] }
  | _ => none }
def netTurnsRow : OpenClaim := { program := "ytlagccfllnhgbaa", sum := "0c704f9f5ee9842688e5e3afda15c8b76c506e1bf767e817c0e9c26548160da0", func := "gradine/gradinelaw09.NetTurns", spec := "netTurns", apart := false }
def NetTurnsSaid : Prop := netTurnsRow.holds Try.pinned (OpenSpec.ofChange netTurnsSpec)

/-- ITS FALSE NEIGHBOUR: 'it returns false'. Refute it at one input. -/
def netTurnsWrong : ChangeSpec := { name := "netTurns", fn := fun _ => fun
  | [d1, d2, d3] => { results := [.lit (.bool false)], args := [d1, d2, d3] }
  | _ => none }
def NetTurnsWrongFalsely : Prop := netTurnsRow.holds Try.pinned (OpenSpec.ofChange netTurnsWrong)

/-- 'gradinelaw09.NetKeeps': WHATEVER THE INPUT: true; the input reads as it did. -/
def netKeepsSpec : ChangeSpec := { name := "netKeeps", fn := fun _ => fun
  | [d1, d2] => { results := [.lit (.bool true)], args := [d1, d2] }
  | _ => none }
def netKeepsRow : OpenClaim := { program := "ytlagccfllnhgbaa", sum := "0c704f9f5ee9842688e5e3afda15c8b76c506e1bf767e817c0e9c26548160da0", func := "gradine/gradinelaw09.NetKeeps", spec := "netKeeps", apart := false }
def NetKeepsSaid : Prop := netKeepsRow.holds Try.pinned (OpenSpec.ofChange netKeepsSpec)

/-- ITS FALSE NEIGHBOUR: 'it returns false'. Refute it at one input. -/
def netKeepsWrong : ChangeSpec := { name := "netKeeps", fn := fun _ => fun
  | [d1, d2] => { results := [.lit (.bool false)], args := [d1, d2] }
  | _ => none }
def NetKeepsWrongFalsely : Prop := netKeepsRow.holds Try.pinned (OpenSpec.ofChange netKeepsWrong)

/-- 'gradinelaw09.NetActs': WHATEVER THE INPUT: true; the input reads as it did. -/
def netActsSpec : ChangeSpec := { name := "netActs", fn := fun _ => fun
  | [d1, d2] => { results := [.lit (.bool true)], args := [d1, d2] }
  | _ => none }
def netActsRow : OpenClaim := { program := "ytlagccfllnhgbaa", sum := "0c704f9f5ee9842688e5e3afda15c8b76c506e1bf767e817c0e9c26548160da0", func := "gradine/gradinelaw09.NetActs", spec := "netActs", apart := false }
def NetActsSaid : Prop := netActsRow.holds Try.pinned (OpenSpec.ofChange netActsSpec)

/-- ITS FALSE NEIGHBOUR: 'it returns false'. Refute it at one input. -/
def netActsWrong : ChangeSpec := { name := "netActs", fn := fun _ => fun
  | [d1, d2] => { results := [.lit (.bool false)], args := [d1, d2] }
  | _ => none }
def NetActsWrongFalsely : Prop := netActsRow.holds Try.pinned (OpenSpec.ofChange netActsWrong)

/-- 'gradinelaw09.NetNil': WHATEVER THE INPUT: true; the input reads as it did. -/
def netNilSpec : ChangeSpec := { name := "netNil", fn := fun _ => fun
  | [d] => { results := [.lit (.bool true)], args := [d] }
  | _ => none }
def netNilRow : OpenClaim := { program := "ytlagccfllnhgbaa", sum := "0c704f9f5ee9842688e5e3afda15c8b76c506e1bf767e817c0e9c26548160da0", func := "gradine/gradinelaw09.NetNil", spec := "netNil", apart := false }
def NetNilSaid : Prop := netNilRow.holds Try.pinned (OpenSpec.ofChange netNilSpec)

/-- ITS FALSE NEIGHBOUR: 'it returns false'. Refute it at one input. -/
def netNilWrong : ChangeSpec := { name := "netNil", fn := fun _ => fun
  | [d] => { results := [.lit (.bool false)], args := [d] }
  | _ => none }
def NetNilWrongFalsely : Prop := netNilRow.holds Try.pinned (OpenSpec.ofChange netNilWrong)

/-- 'gradinelaw17.DirForget': WHATEVER THE INPUT: true; the input reads as it did. -/
def dirForgetSpec : ChangeSpec := { name := "dirForget", fn := fun _ => fun
  | [d1, d2] => { results := [.lit (.bool true)], args := [d1, d2] }
  | _ => none }
def dirForgetRow : OpenClaim := { program := "ytlagccfllnhgbaa", sum := "0c704f9f5ee9842688e5e3afda15c8b76c506e1bf767e817c0e9c26548160da0", func := "gradine/gradinelaw17.DirForget", spec := "dirForget", apart := false }
def DirForgetSaid : Prop := dirForgetRow.holds Try.pinned (OpenSpec.ofChange dirForgetSpec)

/-- ITS FALSE NEIGHBOUR: 'it returns false'. Refute it at one input. -/
def dirForgetWrong : ChangeSpec := { name := "dirForget", fn := fun _ => fun
  | [d1, d2] => { results := [.lit (.bool false)], args := [d1, d2] }
  | _ => none }
def DirForgetWrongFalsely : Prop := dirForgetRow.holds Try.pinned (OpenSpec.ofChange dirForgetWrong)

/-- 'gradinelaw17.DirActs': WHATEVER THE INPUT: true; the input reads as it did. -/
def dirActsSpec : ChangeSpec := { name := "dirActs", fn := fun _ => fun
  | [d1, d2] => { results := [.lit (.bool true)], args := [d1, d2] }
  | _ => none }
def dirActsRow : OpenClaim := { program := "ytlagccfllnhgbaa", sum := "0c704f9f5ee9842688e5e3afda15c8b76c506e1bf767e817c0e9c26548160da0", func := "gradine/gradinelaw17.DirActs", spec := "dirActs", apart := false }
def DirActsSaid : Prop := dirActsRow.holds Try.pinned (OpenSpec.ofChange dirActsSpec)

/-- ITS FALSE NEIGHBOUR: 'it returns false'. Refute it at one input. -/
def dirActsWrong : ChangeSpec := { name := "dirActs", fn := fun _ => fun
  | [d1, d2] => { results := [.lit (.bool false)], args := [d1, d2] }
  | _ => none }
def DirActsWrongFalsely : Prop := dirActsRow.holds Try.pinned (OpenSpec.ofChange dirActsWrong)

/-- 'gradinelaw17.DirNil': WHATEVER THE INPUT: true; the input reads as it did. -/
def dirNilSpec : ChangeSpec := { name := "dirNil", fn := fun _ => fun
  | [d] => { results := [.lit (.bool true)], args := [d] }
  | _ => none }
def dirNilRow : OpenClaim := { program := "ytlagccfllnhgbaa", sum := "0c704f9f5ee9842688e5e3afda15c8b76c506e1bf767e817c0e9c26548160da0", func := "gradine/gradinelaw17.DirNil", spec := "dirNil", apart := false }
def DirNilSaid : Prop := dirNilRow.holds Try.pinned (OpenSpec.ofChange dirNilSpec)

/-- ITS FALSE NEIGHBOUR: 'it returns false'. Refute it at one input. -/
def dirNilWrong : ChangeSpec := { name := "dirNil", fn := fun _ => fun
  | [d] => { results := [.lit (.bool false)], args := [d] }
  | _ => none }
def DirNilWrongFalsely : Prop := dirNilRow.holds Try.pinned (OpenSpec.ofChange dirNilWrong)

/-- 'gradinelaw17.DirPairs': WHATEVER THE INPUT: true; the input reads as it did. -/
def dirPairsSpec : ChangeSpec := { name := "dirPairs", fn := fun _ => fun
  | [d1, d2] => { results := [.lit (.bool true)], args := [d1, d2] }
  | _ => none }
def dirPairsRow : OpenClaim := { program := "ytlagccfllnhgbaa", sum := "0c704f9f5ee9842688e5e3afda15c8b76c506e1bf767e817c0e9c26548160da0", func := "gradine/gradinelaw17.DirPairs", spec := "dirPairs", apart := false }
def DirPairsSaid : Prop := dirPairsRow.holds Try.pinned (OpenSpec.ofChange dirPairsSpec)

/-- ITS FALSE NEIGHBOUR: 'it returns false'. Refute it at one input. -/
def dirPairsWrong : ChangeSpec := { name := "dirPairs", fn := fun _ => fun
  | [d1, d2] => { results := [.lit (.bool false)], args := [d1, d2] }
  | _ => none }
def DirPairsWrongFalsely : Prop := dirPairsRow.holds Try.pinned (OpenSpec.ofChange dirPairsWrong)

/- THE SECOND FORM. 'bulk': how many values and letters a reading holds, each counted each time it is reached (what is shared counts as often as it is met; a slice's spare places count too). A statement '..UptoSaid' is the law's where the arguments, and the package variables that the reading takes, are together of bulk at most 1048576: NARROWER than '..Said'. Prove '..Said' where nothing that the law and all that it calls make is longer than what came in: it says more and counts as full. Else prove '..UptoSaid'. A law counts once. -/
mutual
def uptoBulk {H : Type} : DataW H → Nat
  | .lit (.string bytes) => bytes.length + 1
  | .lit _ => 1
  | .nil => 1
  | .ptr d => uptoBulk d + 1
  | .slice elems spare => uptoBulkAll elems + uptoBulkAll spare + 1
  | .agg parts => uptoBulkAll parts + 1
  | .iface _ d => uptoBulk d + 1
  | .map entries => uptoBulkEntries entries + 1
  | .held _ => 1
def uptoBulkAll {H : Type} : List (DataW H) → Nat
  | [] => 0
  | d :: r => uptoBulk d + uptoBulkAll r
def uptoBulkEntries {H : Type} : List (Lit × DataW H) → Nat
  | [] => 0
  | x :: r => uptoBulkEntry x + uptoBulkEntries r
def uptoBulkEntry {H : Type} : Lit × DataW H → Nat
  | (.string bytes, d) => bytes.length + uptoBulk d + 1
  | (_, d) => uptoBulk d + 1
 end
def uptoSmall : (H : Type) → List (DataW H) → Bool := fun _ ds => decide (uptoBulkAll ds ≤ 1048576)
def OpenSpec.upto (s : _root_.Go.ChangeSpec) : _root_.Go.OpenSpec := { _root_.Go.OpenSpec.ofChange s with cond := some uptoSmall }

/-- 'gradinelaw09.NetOrder', WHERE WHAT IT READS IS OF BULK AT MOST 1048576: true; the input reads as it did. -/
def netOrderUptoRow : OpenClaim := { program := "ytlagccfllnhgbaa", sum := "0c704f9f5ee9842688e5e3afda15c8b76c506e1bf767e817c0e9c26548160da0", func := "gradine/gradinelaw09.NetOrder", spec := "netOrder", apart := false, narrowed := true }
def NetOrderUptoSaid : Prop := netOrderUptoRow.holds Try.pinned (OpenSpec.upto netOrderSpec)

/-- 'gradinelaw09.NetTurns', WHERE WHAT IT READS IS OF BULK AT MOST 1048576: true; the input reads as it did. -/
def netTurnsUptoRow : OpenClaim := { program := "ytlagccfllnhgbaa", sum := "0c704f9f5ee9842688e5e3afda15c8b76c506e1bf767e817c0e9c26548160da0", func := "gradine/gradinelaw09.NetTurns", spec := "netTurns", apart := false, narrowed := true }
def NetTurnsUptoSaid : Prop := netTurnsUptoRow.holds Try.pinned (OpenSpec.upto netTurnsSpec)

/-- 'gradinelaw09.NetKeeps', WHERE WHAT IT READS IS OF BULK AT MOST 1048576: true; the input reads as it did. -/
def netKeepsUptoRow : OpenClaim := { program := "ytlagccfllnhgbaa", sum := "0c704f9f5ee9842688e5e3afda15c8b76c506e1bf767e817c0e9c26548160da0", func := "gradine/gradinelaw09.NetKeeps", spec := "netKeeps", apart := false, narrowed := true }
def NetKeepsUptoSaid : Prop := netKeepsUptoRow.holds Try.pinned (OpenSpec.upto netKeepsSpec)

/-- 'gradinelaw09.NetActs', WHERE WHAT IT READS IS OF BULK AT MOST 1048576: true; the input reads as it did. -/
def netActsUptoRow : OpenClaim := { program := "ytlagccfllnhgbaa", sum := "0c704f9f5ee9842688e5e3afda15c8b76c506e1bf767e817c0e9c26548160da0", func := "gradine/gradinelaw09.NetActs", spec := "netActs", apart := false, narrowed := true }
def NetActsUptoSaid : Prop := netActsUptoRow.holds Try.pinned (OpenSpec.upto netActsSpec)

/-- 'gradinelaw09.NetNil', WHERE WHAT IT READS IS OF BULK AT MOST 1048576: true; the input reads as it did. -/
def netNilUptoRow : OpenClaim := { program := "ytlagccfllnhgbaa", sum := "0c704f9f5ee9842688e5e3afda15c8b76c506e1bf767e817c0e9c26548160da0", func := "gradine/gradinelaw09.NetNil", spec := "netNil", apart := false, narrowed := true }
def NetNilUptoSaid : Prop := netNilUptoRow.holds Try.pinned (OpenSpec.upto netNilSpec)

/-- 'gradinelaw17.DirForget', WHERE WHAT IT READS IS OF BULK AT MOST 1048576: true; the input reads as it did. -/
def dirForgetUptoRow : OpenClaim := { program := "ytlagccfllnhgbaa", sum := "0c704f9f5ee9842688e5e3afda15c8b76c506e1bf767e817c0e9c26548160da0", func := "gradine/gradinelaw17.DirForget", spec := "dirForget", apart := false, narrowed := true }
def DirForgetUptoSaid : Prop := dirForgetUptoRow.holds Try.pinned (OpenSpec.upto dirForgetSpec)

/-- 'gradinelaw17.DirActs', WHERE WHAT IT READS IS OF BULK AT MOST 1048576: true; the input reads as it did. -/
def dirActsUptoRow : OpenClaim := { program := "ytlagccfllnhgbaa", sum := "0c704f9f5ee9842688e5e3afda15c8b76c506e1bf767e817c0e9c26548160da0", func := "gradine/gradinelaw17.DirActs", spec := "dirActs", apart := false, narrowed := true }
def DirActsUptoSaid : Prop := dirActsUptoRow.holds Try.pinned (OpenSpec.upto dirActsSpec)

/-- 'gradinelaw17.DirNil', WHERE WHAT IT READS IS OF BULK AT MOST 1048576: true; the input reads as it did. -/
def dirNilUptoRow : OpenClaim := { program := "ytlagccfllnhgbaa", sum := "0c704f9f5ee9842688e5e3afda15c8b76c506e1bf767e817c0e9c26548160da0", func := "gradine/gradinelaw17.DirNil", spec := "dirNil", apart := false, narrowed := true }
def DirNilUptoSaid : Prop := dirNilUptoRow.holds Try.pinned (OpenSpec.upto dirNilSpec)

/-- 'gradinelaw17.DirPairs', WHERE WHAT IT READS IS OF BULK AT MOST 1048576: true; the input reads as it did. -/
def dirPairsUptoRow : OpenClaim := { program := "ytlagccfllnhgbaa", sum := "0c704f9f5ee9842688e5e3afda15c8b76c506e1bf767e817c0e9c26548160da0", func := "gradine/gradinelaw17.DirPairs", spec := "dirPairs", apart := false, narrowed := true }
def DirPairsUptoSaid : Prop := dirPairsUptoRow.holds Try.pinned (OpenSpec.upto dirPairsSpec)

end Rows
end Go.Proofs.Ytlagccfllnhgbaa
