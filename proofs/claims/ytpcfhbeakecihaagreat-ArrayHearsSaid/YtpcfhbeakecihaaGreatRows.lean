/-
  No cell of these rows narrows 'for every input' (looked for: loops, veiled, ifaces, maps, wideKeys, modest, calm, conditions, laid).
  DERIVED. THE GIVEN ROWS OF THIS SEAT. 4 by the template 'for every input the law returns true; each argument reads behind the call as it read before'; 0 by the template 'total and deterministic' (their statements: YtpcfhbeakecihaaGreatTotals.lean).
  GIVEN WITH THE SEED: the statements are not yours to turn. If you find one false, say at which input.
  Laid BY PROGRAM, IN A SANDBOX (cutbox-rows.mjs): the forced cells as the released guide's own fill.sh prints them over the translation a35b44d1b669a9de… (all of the seat's roots in one cut). By AI agents, Wed Nov 11 2026. No macro, syntax, notation, axiom, sorry.
-/
import Derived.Test.YtpcfhbeakecihaaGreatChecked
import GoSem.Claim
import GoSem.ClaimJoined
import GoSem.ClaimMapViews
import Derived.JoinedTies
import Derived.KernelRfl
namespace Go.Proofs.YtpcfhbeakecihaaGreat
/- THE CELL 'sum', in the pinned program and in every row, IS THE sha256 OF THE DUMP (.gsa) THAT YtpcfhbeakecihaaGreatProg.lean LOADS. Nothing in Lean hashes anything: it is a label: what it is worth is what the hold of that sum in a sandbox is worth. -/
noncomputable def Tryz.pinned : Pinned := { name := "ytpcfhbeakecihaagreat", sum := "a35b44d1b669a9de1f737df06d40da965d6333df9b79bc5ce2ab3156cc987324", checked := Tryz.checked }
namespace Rows
def none {H : Type} : Left H := { results := [], args := [] }

/-- 'gradinelaw18.ArrayTrue': WHATEVER THE INPUT: true; the input reads as it did. -/
def arrayTrueSpec : ChangeSpec := { name := "arrayTrue", fn := fun _ => fun
  | [d1, d2] => { results := [.lit (.bool true)], args := [d1, d2] }
  | _ => none }
def arrayTrueRow : OpenClaim := { program := "ytpcfhbeakecihaagreat", sum := "a35b44d1b669a9de1f737df06d40da965d6333df9b79bc5ce2ab3156cc987324", func := "gradine/gradinelaw18.ArrayTrue", spec := "arrayTrue", unfollowed := true, recurses := true, plainKeys := false, apart := false }
def ArrayTrueSaid : Prop := arrayTrueRow.holds Tryz.pinned (OpenSpec.ofChange arrayTrueSpec)

/-- ITS FALSE NEIGHBOUR: 'it returns false'. Refute it at one input. -/
def arrayTrueWrong : ChangeSpec := { name := "arrayTrue", fn := fun _ => fun
  | [d1, d2] => { results := [.lit (.bool false)], args := [d1, d2] }
  | _ => none }
def ArrayTrueWrongFalsely : Prop := arrayTrueRow.holds Tryz.pinned (OpenSpec.ofChange arrayTrueWrong)

/-- 'gradinelaw18.ArrayBound': WHATEVER THE INPUT: true; the input reads as it did. -/
def arrayBoundSpec : ChangeSpec := { name := "arrayBound", fn := fun _ => fun
  | [d1, d2] => { results := [.lit (.bool true)], args := [d1, d2] }
  | _ => none }
def arrayBoundRow : OpenClaim := { program := "ytpcfhbeakecihaagreat", sum := "a35b44d1b669a9de1f737df06d40da965d6333df9b79bc5ce2ab3156cc987324", func := "gradine/gradinelaw18.ArrayBound", spec := "arrayBound", unfollowed := true, recurses := true, plainKeys := false, apart := false }
def ArrayBoundSaid : Prop := arrayBoundRow.holds Tryz.pinned (OpenSpec.ofChange arrayBoundSpec)

/-- ITS FALSE NEIGHBOUR: 'it returns false'. Refute it at one input. -/
def arrayBoundWrong : ChangeSpec := { name := "arrayBound", fn := fun _ => fun
  | [d1, d2] => { results := [.lit (.bool false)], args := [d1, d2] }
  | _ => none }
def ArrayBoundWrongFalsely : Prop := arrayBoundRow.holds Tryz.pinned (OpenSpec.ofChange arrayBoundWrong)

/-- 'gradinelaw18.ArrayOnce': WHATEVER THE INPUT: true; the input reads as it did. -/
def arrayOnceSpec : ChangeSpec := { name := "arrayOnce", fn := fun _ => fun
  | [d1, d2, d3] => { results := [.lit (.bool true)], args := [d1, d2, d3] }
  | _ => none }
def arrayOnceRow : OpenClaim := { program := "ytpcfhbeakecihaagreat", sum := "a35b44d1b669a9de1f737df06d40da965d6333df9b79bc5ce2ab3156cc987324", func := "gradine/gradinelaw18.ArrayOnce", spec := "arrayOnce", unfollowed := true, recurses := true, plainKeys := false, apart := false }
def ArrayOnceSaid : Prop := arrayOnceRow.holds Tryz.pinned (OpenSpec.ofChange arrayOnceSpec)

/-- ITS FALSE NEIGHBOUR: 'it returns false'. Refute it at one input. -/
def arrayOnceWrong : ChangeSpec := { name := "arrayOnce", fn := fun _ => fun
  | [d1, d2, d3] => { results := [.lit (.bool false)], args := [d1, d2, d3] }
  | _ => none }
def ArrayOnceWrongFalsely : Prop := arrayOnceRow.holds Tryz.pinned (OpenSpec.ofChange arrayOnceWrong)

/-- 'gradinelaw18.ArrayHears': WHATEVER THE INPUT: true; the input reads as it did. -/
def arrayHearsSpec : ChangeSpec := { name := "arrayHears", fn := fun _ => fun
  | [d1, d2] => { results := [.lit (.bool true)], args := [d1, d2] }
  | _ => none }
def arrayHearsRow : OpenClaim := { program := "ytpcfhbeakecihaagreat", sum := "a35b44d1b669a9de1f737df06d40da965d6333df9b79bc5ce2ab3156cc987324", func := "gradine/gradinelaw18.ArrayHears", spec := "arrayHears", unfollowed := true, recurses := true, plainKeys := false, apart := false }
def ArrayHearsSaid : Prop := arrayHearsRow.holds Tryz.pinned (OpenSpec.ofChange arrayHearsSpec)

/-- ITS FALSE NEIGHBOUR: 'it returns false'. Refute it at one input. -/
def arrayHearsWrong : ChangeSpec := { name := "arrayHears", fn := fun _ => fun
  | [d1, d2] => { results := [.lit (.bool false)], args := [d1, d2] }
  | _ => none }
def ArrayHearsWrongFalsely : Prop := arrayHearsRow.holds Tryz.pinned (OpenSpec.ofChange arrayHearsWrong)

/- THE SECOND FORM. 'bulk': how many values and letters a reading holds, each counted each time it is reached (what is shared counts as often as it is met; a slice's spare places count too). A statement '..UptoSaid' is the law's where the arguments, and the package variables that the reading takes, are together of bulk at most 1048576: NARROWER than '..Said'. Prove '..Said' where nothing that the law and all that it calls make is longer than what came in: it says more and counts as full. Else prove '..UptoSaid'. A law counts once. -/
mutual
def uptoBulk {H : Type} : DataW H → Nat
  | .lit (.string bytes) => bytes.length + 1
  | .lit _ => 1
  | .nil => 1
  | .ptr d => uptoBulk d + 1
  | .slice elems spare => uptoBulkAll elems + uptoBulkAll spare + 1
  | .agg parts => uptoBulkAll parts + 1
  | .iface _ d => uptoBulk d + 1
  | .map entries => uptoBulkEntries entries + 1
  | .held _ => 1
def uptoBulkAll {H : Type} : List (DataW H) → Nat
  | [] => 0
  | d :: r => uptoBulk d + uptoBulkAll r
def uptoBulkEntries {H : Type} : List (Lit × DataW H) → Nat
  | [] => 0
  | x :: r => uptoBulkEntry x + uptoBulkEntries r
def uptoBulkEntry {H : Type} : Lit × DataW H → Nat
  | (.string bytes, d) => bytes.length + uptoBulk d + 1
  | (_, d) => uptoBulk d + 1
 end
def uptoSmall : (H : Type) → List (DataW H) → Bool := fun _ ds => decide (uptoBulkAll ds ≤ 1048576)
def OpenSpec.upto (s : _root_.Go.ChangeSpec) : _root_.Go.OpenSpec := { _root_.Go.OpenSpec.ofChange s with cond := some uptoSmall }

/-- 'gradinelaw18.ArrayTrue', WHERE WHAT IT READS IS OF BULK AT MOST 1048576: true; the input reads as it did. -/
def arrayTrueUptoRow : OpenClaim := { program := "ytpcfhbeakecihaagreat", sum := "a35b44d1b669a9de1f737df06d40da965d6333df9b79bc5ce2ab3156cc987324", func := "gradine/gradinelaw18.ArrayTrue", spec := "arrayTrue", unfollowed := true, recurses := true, plainKeys := false, apart := false, narrowed := true }
def ArrayTrueUptoSaid : Prop := arrayTrueUptoRow.holds Tryz.pinned (OpenSpec.upto arrayTrueSpec)

/-- 'gradinelaw18.ArrayBound', WHERE WHAT IT READS IS OF BULK AT MOST 1048576: true; the input reads as it did. -/
def arrayBoundUptoRow : OpenClaim := { program := "ytpcfhbeakecihaagreat", sum := "a35b44d1b669a9de1f737df06d40da965d6333df9b79bc5ce2ab3156cc987324", func := "gradine/gradinelaw18.ArrayBound", spec := "arrayBound", unfollowed := true, recurses := true, plainKeys := false, apart := false, narrowed := true }
def ArrayBoundUptoSaid : Prop := arrayBoundUptoRow.holds Tryz.pinned (OpenSpec.upto arrayBoundSpec)

/-- 'gradinelaw18.ArrayOnce', WHERE WHAT IT READS IS OF BULK AT MOST 1048576: true; the input reads as it did. -/
def arrayOnceUptoRow : OpenClaim := { program := "ytpcfhbeakecihaagreat", sum := "a35b44d1b669a9de1f737df06d40da965d6333df9b79bc5ce2ab3156cc987324", func := "gradine/gradinelaw18.ArrayOnce", spec := "arrayOnce", unfollowed := true, recurses := true, plainKeys := false, apart := false, narrowed := true }
def ArrayOnceUptoSaid : Prop := arrayOnceUptoRow.holds Tryz.pinned (OpenSpec.upto arrayOnceSpec)

/-- 'gradinelaw18.ArrayHears', WHERE WHAT IT READS IS OF BULK AT MOST 1048576: true; the input reads as it did. -/
def arrayHearsUptoRow : OpenClaim := { program := "ytpcfhbeakecihaagreat", sum := "a35b44d1b669a9de1f737df06d40da965d6333df9b79bc5ce2ab3156cc987324", func := "gradine/gradinelaw18.ArrayHears", spec := "arrayHears", unfollowed := true, recurses := true, plainKeys := false, apart := false, narrowed := true }
def ArrayHearsUptoSaid : Prop := arrayHearsUptoRow.holds Tryz.pinned (OpenSpec.upto arrayHearsSpec)

end Rows
end Go.Proofs.YtpcfhbeakecihaaGreat
