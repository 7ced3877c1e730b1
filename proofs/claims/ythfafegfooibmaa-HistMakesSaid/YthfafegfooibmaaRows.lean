/-
  No cell of these rows narrows 'for every input' (looked for: loops, veiled, ifaces, maps, wideKeys, modest, calm, conditions, laid).
  DERIVED. THE GIVEN ROWS OF THIS SEAT. 4 by the template 'for every input the law returns true; each argument reads behind the call as it read before'; 0 by the template 'total and deterministic' (their statements: YthfafegfooibmaaTotals.lean).
  GIVEN WITH THE SEED: the statements are not yours to turn. If you find one false, say at which input.
  Laid BY PROGRAM, IN A SANDBOX (cutbox-rows.mjs): the forced cells as the released guide's own fill.sh prints them over the translation 038cc0baec6e3a48… (all of the seat's roots in one cut). By AI agents, Wed Nov 11 2026. No macro, syntax, notation, axiom, sorry.
-/
import Derived.Test.YthfafegfooibmaaChecked
import GoSem.Claim
import GoSem.ClaimJoined
import GoSem.ClaimMapViews
import Derived.JoinedTies
import Derived.KernelRfl
namespace Go.Proofs.Ythfafegfooibmaa
/- THE CELL 'sum', in the pinned program and in every row, IS THE sha256 OF THE DUMP (.gsa) THAT YthfafegfooibmaaProg.lean LOADS. Nothing in Lean hashes anything: it is a label: what it is worth is what the hold of that sum in a sandbox is worth. -/
noncomputable def Try.pinned : Pinned := { name := "ythfafegfooibmaa", sum := "038cc0baec6e3a48aee4b32565cb474194592d0b00eb7291f7b8cdb4d0d2bd9c", checked := Try.checked }
namespace Rows
def none {H : Type} : Left H := { results := [], args := [] }

/-- 'gradinelaw23.HistLinear': WHATEVER THE INPUT: true; the input reads as it did. -/
def histLinearSpec : ChangeSpec := { name := "histLinear", fn := fun _ => fun
  | [d1, d2] => { results := [.lit (.bool true)], args := [d1, d2] }
  | _ => none }
def histLinearRow : OpenClaim := { program := "ythfafegfooibmaa", sum := "038cc0baec6e3a48aee4b32565cb474194592d0b00eb7291f7b8cdb4d0d2bd9c", func := "gradine/gradinelaw23.HistLinear", spec := "histLinear", recurses := true, plainKeys := false, apart := false }
def HistLinearSaid : Prop := histLinearRow.holds Try.pinned (OpenSpec.ofChange histLinearSpec)

/-- ITS FALSE NEIGHBOUR: 'it returns false'. Refute it at one input. -/
def histLinearWrong : ChangeSpec := { name := "histLinear", fn := fun _ => fun
  | [d1, d2] => { results := [.lit (.bool false)], args := [d1, d2] }
  | _ => none }
def HistLinearWrongFalsely : Prop := histLinearRow.holds Try.pinned (OpenSpec.ofChange histLinearWrong)

/-- 'gradinelaw23.HistMakes': WHATEVER THE INPUT: true; the input reads as it did. -/
def histMakesSpec : ChangeSpec := { name := "histMakes", fn := fun _ => fun
  | [d1, d2] => { results := [.lit (.bool true)], args := [d1, d2] }
  | _ => none }
def histMakesRow : OpenClaim := { program := "ythfafegfooibmaa", sum := "038cc0baec6e3a48aee4b32565cb474194592d0b00eb7291f7b8cdb4d0d2bd9c", func := "gradine/gradinelaw23.HistMakes", spec := "histMakes", recurses := true, plainKeys := false, apart := false }
def HistMakesSaid : Prop := histMakesRow.holds Try.pinned (OpenSpec.ofChange histMakesSpec)

/-- ITS FALSE NEIGHBOUR: 'it returns false'. Refute it at one input. -/
def histMakesWrong : ChangeSpec := { name := "histMakes", fn := fun _ => fun
  | [d1, d2] => { results := [.lit (.bool false)], args := [d1, d2] }
  | _ => none }
def HistMakesWrongFalsely : Prop := histMakesRow.holds Try.pinned (OpenSpec.ofChange histMakesWrong)

/-- 'gradinelaw23.HistLess': WHATEVER THE INPUT: true; the input reads as it did. -/
def histLessSpec : ChangeSpec := { name := "histLess", fn := fun _ => fun
  | [d1, d2] => { results := [.lit (.bool true)], args := [d1, d2] }
  | _ => none }
def histLessRow : OpenClaim := { program := "ythfafegfooibmaa", sum := "038cc0baec6e3a48aee4b32565cb474194592d0b00eb7291f7b8cdb4d0d2bd9c", func := "gradine/gradinelaw23.HistLess", spec := "histLess", recurses := true, plainKeys := false, apart := false }
def HistLessSaid : Prop := histLessRow.holds Try.pinned (OpenSpec.ofChange histLessSpec)

/-- ITS FALSE NEIGHBOUR: 'it returns false'. Refute it at one input. -/
def histLessWrong : ChangeSpec := { name := "histLess", fn := fun _ => fun
  | [d1, d2] => { results := [.lit (.bool false)], args := [d1, d2] }
  | _ => none }
def HistLessWrongFalsely : Prop := histLessRow.holds Try.pinned (OpenSpec.ofChange histLessWrong)

/-- 'gradinelaw23.HistNever': WHATEVER THE INPUT: true; the input reads as it did. -/
def histNeverSpec : ChangeSpec := { name := "histNever", fn := fun _ => fun
  | [d1, d2] => { results := [.lit (.bool true)], args := [d1, d2] }
  | _ => none }
def histNeverRow : OpenClaim := { program := "ythfafegfooibmaa", sum := "038cc0baec6e3a48aee4b32565cb474194592d0b00eb7291f7b8cdb4d0d2bd9c", func := "gradine/gradinelaw23.HistNever", spec := "histNever", recurses := true, plainKeys := false, apart := false }
def HistNeverSaid : Prop := histNeverRow.holds Try.pinned (OpenSpec.ofChange histNeverSpec)

/-- ITS FALSE NEIGHBOUR: 'it returns false'. Refute it at one input. -/
def histNeverWrong : ChangeSpec := { name := "histNever", fn := fun _ => fun
  | [d1, d2] => { results := [.lit (.bool false)], args := [d1, d2] }
  | _ => none }
def HistNeverWrongFalsely : Prop := histNeverRow.holds Try.pinned (OpenSpec.ofChange histNeverWrong)

/- THE SECOND FORM. 'bulk': how many values and letters a reading holds, each counted each time it is reached (what is shared counts as often as it is met; a slice's spare places count too). A statement '..UptoSaid' is the law's where the arguments, and the package variables that the reading takes, are together of bulk at most 1048576: NARROWER than '..Said'. Prove '..Said' where nothing that the law and all that it calls make is longer than what came in: it says more and counts as full. Else prove '..UptoSaid'. A law counts once. -/
mutual
def uptoBulk {H : Type} : DataW H → Nat
  | .lit (.string bytes) => bytes.length + 1
  | .lit _ => 1
  | .nil => 1
  | .ptr d => uptoBulk d + 1
  | .slice elems spare => uptoBulkAll elems + uptoBulkAll spare + 1
  | .agg parts => uptoBulkAll parts + 1
  | .iface _ d => uptoBulk d + 1
  | .map entries => uptoBulkEntries entries + 1
  | .held _ => 1
def uptoBulkAll {H : Type} : List (DataW H) → Nat
  | [] => 0
  | d :: r => uptoBulk d + uptoBulkAll r
def uptoBulkEntries {H : Type} : List (Lit × DataW H) → Nat
  | [] => 0
  | x :: r => uptoBulkEntry x + uptoBulkEntries r
def uptoBulkEntry {H : Type} : Lit × DataW H → Nat
  | (.string bytes, d) => bytes.length + uptoBulk d + 1
  | (_, d) => uptoBulk d + 1
 end
def uptoSmall : (H : Type) → List (DataW H) → Bool := fun _ ds => decide (uptoBulkAll ds ≤ 1048576)
def OpenSpec.upto (s : _root_.Go.ChangeSpec) : _root_.Go.OpenSpec := { _root_.Go.OpenSpec.ofChange s with cond := some uptoSmall }

/-- 'gradinelaw23.HistLinear', WHERE WHAT IT READS IS OF BULK AT MOST 1048576: true; the input reads as it did. -/
def histLinearUptoRow : OpenClaim := { program := "ythfafegfooibmaa", sum := "038cc0baec6e3a48aee4b32565cb474194592d0b00eb7291f7b8cdb4d0d2bd9c", func := "gradine/gradinelaw23.HistLinear", spec := "histLinear", recurses := true, plainKeys := false, apart := false, narrowed := true }
def HistLinearUptoSaid : Prop := histLinearUptoRow.holds Try.pinned (OpenSpec.upto histLinearSpec)

/-- 'gradinelaw23.HistMakes', WHERE WHAT IT READS IS OF BULK AT MOST 1048576: true; the input reads as it did. -/
def histMakesUptoRow : OpenClaim := { program := "ythfafegfooibmaa", sum := "038cc0baec6e3a48aee4b32565cb474194592d0b00eb7291f7b8cdb4d0d2bd9c", func := "gradine/gradinelaw23.HistMakes", spec := "histMakes", recurses := true, plainKeys := false, apart := false, narrowed := true }
def HistMakesUptoSaid : Prop := histMakesUptoRow.holds Try.pinned (OpenSpec.upto histMakesSpec)

/-- 'gradinelaw23.HistLess', WHERE WHAT IT READS IS OF BULK AT MOST 1048576: true; the input reads as it did. -/
def histLessUptoRow : OpenClaim := { program := "ythfafegfooibmaa", sum := "038cc0baec6e3a48aee4b32565cb474194592d0b00eb7291f7b8cdb4d0d2bd9c", func := "gradine/gradinelaw23.HistLess", spec := "histLess", recurses := true, plainKeys := false, apart := false, narrowed := true }
def HistLessUptoSaid : Prop := histLessUptoRow.holds Try.pinned (OpenSpec.upto histLessSpec)

/-- 'gradinelaw23.HistNever', WHERE WHAT IT READS IS OF BULK AT MOST 1048576: true; the input reads as it did. -/
def histNeverUptoRow : OpenClaim := { program := "ythfafegfooibmaa", sum := "038cc0baec6e3a48aee4b32565cb474194592d0b00eb7291f7b8cdb4d0d2bd9c", func := "gradine/gradinelaw23.HistNever", spec := "histNever", recurses := true, plainKeys := false, apart := false, narrowed := true }
def HistNeverUptoSaid : Prop := histNeverUptoRow.holds Try.pinned (OpenSpec.upto histNeverSpec)

end Rows
end Go.Proofs.Ythfafegfooibmaa
