/-
  No cell of these rows narrows 'for every input' (looked for: loops, veiled, ifaces, maps, wideKeys, modest, calm, conditions, laid).
  DERIVED. THE GIVEN ROWS OF THIS SEAT. 3 by the template 'for every input the law returns true; each argument reads behind the call as it read before'; 0 by the template 'total and deterministic' (their statements: YtcphifphidcbaaaGreatTotals.lean).
  GIVEN WITH THE SEED: the statements are not yours to turn. If you find one false, say at which input.
  Laid BY PROGRAM, IN A SANDBOX (cutbox-rows.mjs): the forced cells as the released guide's own fill.sh prints them over the translation c1439fcc4dfe3689… (all of the seat's roots in one cut). By AI agents, Wed Nov 11 2026. No macro, syntax, notation, axiom, sorry.
-/
import Derived.Test.YtcphifphidcbaaaGreatChecked
import GoSem.Claim
import GoSem.ClaimJoined
import GoSem.ClaimMapViews
import Derived.JoinedTies
import Derived.KernelRfl
namespace Go.Proofs.YtcphifphidcbaaaGreat
/- THE CELL 'sum', in the pinned program and in every row, IS THE sha256 OF THE DUMP (.gsa) THAT YtcphifphidcbaaaGreatProg.lean LOADS. Nothing in Lean hashes anything: it is a label: what it is worth is what the hold of that sum in a sandbox is worth. -/
noncomputable def Tryz.pinned : Pinned := { name := "ytcphifphidcbaaagreat", sum := "c1439fcc4dfe368933aff620a575804cc31bd46f43995525e6b4a1613afc2cac", checked := Tryz.checked }
namespace Rows
def none {H : Type} : Left H := { results := [], args := [] }

/-- 'gradinelaw20.ClientNil': WHATEVER THE INPUT: true; the input reads as it did. -/
def clientNilSpec : ChangeSpec := { name := "clientNil", fn := fun _ => fun
  | [d1, d2] => { results := [.lit (.bool true)], args := [d1, d2] }
  | _ => none }
def clientNilRow : OpenClaim := { program := "ytcphifphidcbaaagreat", sum := "c1439fcc4dfe368933aff620a575804cc31bd46f43995525e6b4a1613afc2cac", func := "gradine/gradinelaw20.ClientNil", spec := "clientNil", unfollowed := true, recurses := true, plainKeys := false, apart := false }
def ClientNilSaid : Prop := clientNilRow.holds Tryz.pinned (OpenSpec.ofChange clientNilSpec)

/-- ITS FALSE NEIGHBOUR: 'it returns false'. Refute it at one input. -/
def clientNilWrong : ChangeSpec := { name := "clientNil", fn := fun _ => fun
  | [d1, d2] => { results := [.lit (.bool false)], args := [d1, d2] }
  | _ => none }
def ClientNilWrongFalsely : Prop := clientNilRow.holds Tryz.pinned (OpenSpec.ofChange clientNilWrong)

/-- 'gradinelaw18.ArrayNil': WHATEVER THE INPUT: true; the input reads as it did. -/
def arrayNilSpec : ChangeSpec := { name := "arrayNil", fn := fun _ => fun
  | [d] => { results := [.lit (.bool true)], args := [d] }
  | _ => none }
def arrayNilRow : OpenClaim := { program := "ytcphifphidcbaaagreat", sum := "c1439fcc4dfe368933aff620a575804cc31bd46f43995525e6b4a1613afc2cac", func := "gradine/gradinelaw18.ArrayNil", spec := "arrayNil", unfollowed := true, recurses := true, plainKeys := false, apart := false }
def ArrayNilSaid : Prop := arrayNilRow.holds Tryz.pinned (OpenSpec.ofChange arrayNilSpec)

/-- ITS FALSE NEIGHBOUR: 'it returns false'. Refute it at one input. -/
def arrayNilWrong : ChangeSpec := { name := "arrayNil", fn := fun _ => fun
  | [d] => { results := [.lit (.bool false)], args := [d] }
  | _ => none }
def ArrayNilWrongFalsely : Prop := arrayNilRow.holds Tryz.pinned (OpenSpec.ofChange arrayNilWrong)

/-- 'gradinelaw19.ServerNil': WHATEVER THE INPUT: true; the input reads as it did. -/
def serverNilSpec : ChangeSpec := { name := "serverNil", fn := fun _ => fun
  | [d1, d2] => { results := [.lit (.bool true)], args := [d1, d2] }
  | _ => none }
def serverNilRow : OpenClaim := { program := "ytcphifphidcbaaagreat", sum := "c1439fcc4dfe368933aff620a575804cc31bd46f43995525e6b4a1613afc2cac", func := "gradine/gradinelaw19.ServerNil", spec := "serverNil", unfollowed := true, recurses := true, plainKeys := false, apart := false }
def ServerNilSaid : Prop := serverNilRow.holds Tryz.pinned (OpenSpec.ofChange serverNilSpec)

/-- ITS FALSE NEIGHBOUR: 'it returns false'. Refute it at one input. -/
def serverNilWrong : ChangeSpec := { name := "serverNil", fn := fun _ => fun
  | [d1, d2] => { results := [.lit (.bool false)], args := [d1, d2] }
  | _ => none }
def ServerNilWrongFalsely : Prop := serverNilRow.holds Tryz.pinned (OpenSpec.ofChange serverNilWrong)

/- THE SECOND FORM. 'bulk': how many values and letters a reading holds, each counted each time it is reached (what is shared counts as often as it is met; a slice's spare places count too). A statement '..UptoSaid' is the law's where the arguments, and the package variables that the reading takes, are together of bulk at most 1048576: NARROWER than '..Said'. Prove '..Said' where nothing that the law and all that it calls make is longer than what came in: it says more and counts as full. Else prove '..UptoSaid'. A law counts once. -/
mutual
def uptoBulk {H : Type} : DataW H → Nat
  | .lit (.string bytes) => bytes.length + 1
  | .lit _ => 1
  | .nil => 1
  | .ptr d => uptoBulk d + 1
  | .slice elems spare => uptoBulkAll elems + uptoBulkAll spare + 1
  | .agg parts => uptoBulkAll parts + 1
  | .iface _ d => uptoBulk d + 1
  | .map entries => uptoBulkEntries entries + 1
  | .held _ => 1
def uptoBulkAll {H : Type} : List (DataW H) → Nat
  | [] => 0
  | d :: r => uptoBulk d + uptoBulkAll r
def uptoBulkEntries {H : Type} : List (Lit × DataW H) → Nat
  | [] => 0
  | x :: r => uptoBulkEntry x + uptoBulkEntries r
def uptoBulkEntry {H : Type} : Lit × DataW H → Nat
  | (.string bytes, d) => bytes.length + uptoBulk d + 1
  | (_, d) => uptoBulk d + 1
 end
def uptoSmall : (H : Type) → List (DataW H) → Bool := fun _ ds => decide (uptoBulkAll ds ≤ 1048576)
def OpenSpec.upto (s : _root_.Go.ChangeSpec) : _root_.Go.OpenSpec := { _root_.Go.OpenSpec.ofChange s with cond := some uptoSmall }

/-- 'gradinelaw20.ClientNil', WHERE WHAT IT READS IS OF BULK AT MOST 1048576: true; the input reads as it did. -/
def clientNilUptoRow : OpenClaim := { program := "ytcphifphidcbaaagreat", sum := "c1439fcc4dfe368933aff620a575804cc31bd46f43995525e6b4a1613afc2cac", func := "gradine/gradinelaw20.ClientNil", spec := "clientNil", unfollowed := true, recurses := true, plainKeys := false, apart := false, narrowed := true }
def ClientNilUptoSaid : Prop := clientNilUptoRow.holds Tryz.pinned (OpenSpec.upto clientNilSpec)

/-- 'gradinelaw18.ArrayNil', WHERE WHAT IT READS IS OF BULK AT MOST 1048576: true; the input reads as it did. -/
def arrayNilUptoRow : OpenClaim := { program := "ytcphifphidcbaaagreat", sum := "c1439fcc4dfe368933aff620a575804cc31bd46f43995525e6b4a1613afc2cac", func := "gradine/gradinelaw18.ArrayNil", spec := "arrayNil", unfollowed := true, recurses := true, plainKeys := false, apart := false, narrowed := true }
def ArrayNilUptoSaid : Prop := arrayNilUptoRow.holds Tryz.pinned (OpenSpec.upto arrayNilSpec)

/-- 'gradinelaw19.ServerNil', WHERE WHAT IT READS IS OF BULK AT MOST 1048576: true; the input reads as it did. -/
def serverNilUptoRow : OpenClaim := { program := "ytcphifphidcbaaagreat", sum := "c1439fcc4dfe368933aff620a575804cc31bd46f43995525e6b4a1613afc2cac", func := "gradine/gradinelaw19.ServerNil", spec := "serverNil", unfollowed := true, recurses := true, plainKeys := false, apart := false, narrowed := true }
def ServerNilUptoSaid : Prop := serverNilUptoRow.holds Tryz.pinned (OpenSpec.upto serverNilSpec)

end Rows
end Go.Proofs.YtcphifphidcbaaaGreat
