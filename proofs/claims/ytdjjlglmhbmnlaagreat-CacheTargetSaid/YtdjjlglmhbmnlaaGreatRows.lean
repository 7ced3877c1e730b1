/-
  No cell of these rows narrows 'for every input' (looked for: loops, veiled, ifaces, maps, wideKeys, modest, calm, conditions, laid).
  DERIVED. THE GIVEN ROWS OF THIS SEAT. 2 by the template 'for every input the law returns true; each argument reads behind the call as it read before'; 0 by the template 'total and deterministic' (their statements: YtdjjlglmhbmnlaaGreatTotals.lean).
  GIVEN WITH THE SEED: the statements are not yours to turn. If you find one false, say at which input.
  Laid BY PROGRAM, IN A SANDBOX (cutbox-rows.mjs): the forced cells as the released guide's own fill.sh prints them over the translation 5df596b4dbd32ca8… (all of the seat's roots in one cut). By AI agents, Wed Nov 11 2026. No macro, syntax, notation, axiom, sorry.
-/
import Derived.Test.YtdjjlglmhbmnlaaGreatChecked
import GoSem.Claim
import GoSem.ClaimJoined
import GoSem.ClaimMapViews
import Derived.JoinedTies
import Derived.KernelRfl
namespace Go.Proofs.YtdjjlglmhbmnlaaGreat
/- THE CELL 'sum', in the pinned program and in every row, IS THE sha256 OF THE DUMP (.gsa) THAT YtdjjlglmhbmnlaaGreatProg.lean LOADS. Nothing in Lean hashes anything: it is a label: what it is worth is what the hold of that sum in a sandbox is worth. -/
noncomputable def Tryz.pinned : Pinned := { name := "ytdjjlglmhbmnlaagreat", sum := "5df596b4dbd32ca85fb9ddfd7c9fd43194f3b25f48834b5ec255bf13ee20395a", checked := Tryz.checked }
namespace Rows
def none {H : Type} : Left H := { results := [], args := [] }

/-- 'gradinelaw16.CacheTarget': WHATEVER THE INPUT: true; the input reads as it did. -/
def cacheTargetSpec : ChangeSpec := { name := "cacheTarget", fn := fun _ => fun
  | [d1, d2, d3] => { results := [.lit (.bool true)], args := [d1, d2, d3] }
  | _ => none }
def cacheTargetRow : OpenClaim := { program := "ytdjjlglmhbmnlaagreat", sum := "5df596b4dbd32ca85fb9ddfd7c9fd43194f3b25f48834b5ec255bf13ee20395a", func := "gradine/gradinelaw16.CacheTarget", spec := "cacheTarget", unfollowed := true, recurses := true, apart := false }
def CacheTargetSaid : Prop := cacheTargetRow.holds Tryz.pinned (OpenSpec.ofChange cacheTargetSpec)

/-- ITS FALSE NEIGHBOUR: 'it returns false'. Refute it at one input. -/
def cacheTargetWrong : ChangeSpec := { name := "cacheTarget", fn := fun _ => fun
  | [d1, d2, d3] => { results := [.lit (.bool false)], args := [d1, d2, d3] }
  | _ => none }
def CacheTargetWrongFalsely : Prop := cacheTargetRow.holds Tryz.pinned (OpenSpec.ofChange cacheTargetWrong)

/-- 'gradinelaw16.CacheActs': WHATEVER THE INPUT: true; the input reads as it did. -/
def cacheActsSpec : ChangeSpec := { name := "cacheActs", fn := fun _ => fun
  | [d1, d2, d3] => { results := [.lit (.bool true)], args := [d1, d2, d3] }
  | _ => none }
def cacheActsRow : OpenClaim := { program := "ytdjjlglmhbmnlaagreat", sum := "5df596b4dbd32ca85fb9ddfd7c9fd43194f3b25f48834b5ec255bf13ee20395a", func := "gradine/gradinelaw16.CacheActs", spec := "cacheActs", unfollowed := true, recurses := true, apart := false }
def CacheActsSaid : Prop := cacheActsRow.holds Tryz.pinned (OpenSpec.ofChange cacheActsSpec)

/-- ITS FALSE NEIGHBOUR: 'it returns false'. Refute it at one input. -/
def cacheActsWrong : ChangeSpec := { name := "cacheActs", fn := fun _ => fun
  | [d1, d2, d3] => { results := [.lit (.bool false)], args := [d1, d2, d3] }
  | _ => none }
def CacheActsWrongFalsely : Prop := cacheActsRow.holds Tryz.pinned (OpenSpec.ofChange cacheActsWrong)

/- THE SECOND FORM. 'bulk': how many values and letters a reading holds, each counted each time it is reached (what is shared counts as often as it is met; a slice's spare places count too). A statement '..UptoSaid' is the law's where the arguments, and the package variables that the reading takes, are together of bulk at most 1048576: NARROWER than '..Said'. Prove '..Said' where nothing that the law and all that it calls make is longer than what came in: it says more and counts as full. Else prove '..UptoSaid'. A law counts once. -/
mutual
def uptoBulk {H : Type} : DataW H → Nat
  | .lit (.string bytes) => bytes.length + 1
  | .lit _ => 1
  | .nil => 1
  | .ptr d => uptoBulk d + 1
  | .slice elems spare => uptoBulkAll elems + uptoBulkAll spare + 1
  | .agg parts => uptoBulkAll parts + 1
  | .iface _ d => uptoBulk d + 1
  | .map entries => uptoBulkEntries entries + 1
  | .held _ => 1
def uptoBulkAll {H : Type} : List (DataW H) → Nat
  | [] => 0
  | d :: r => uptoBulk d + uptoBulkAll r
def uptoBulkEntries {H : Type} : List (Lit × DataW H) → Nat
  | [] => 0
  | x :: r => uptoBulkEntry x + uptoBulkEntries r
def uptoBulkEntry {H : Type} : Lit × DataW H → Nat
  | (.string bytes, d) => bytes.length + uptoBulk d + 1
  | (_, d) => uptoBulk d + 1
 end
def uptoSmall : (H : Type) → List (DataW H) → Bool := fun _ ds => decide (uptoBulkAll ds ≤ 1048576)
def OpenSpec.upto (s : _root_.Go.ChangeSpec) : _root_.Go.OpenSpec := { _root_.Go.OpenSpec.ofChange s with cond := some uptoSmall }

/-- 'gradinelaw16.CacheTarget', WHERE WHAT IT READS IS OF BULK AT MOST 1048576: true; the input reads as it did. -/
def cacheTargetUptoRow : OpenClaim := { program := "ytdjjlglmhbmnlaagreat", sum := "5df596b4dbd32ca85fb9ddfd7c9fd43194f3b25f48834b5ec255bf13ee20395a", func := "gradine/gradinelaw16.CacheTarget", spec := "cacheTarget", unfollowed := true, recurses := true, apart := false, narrowed := true }
def CacheTargetUptoSaid : Prop := cacheTargetUptoRow.holds Tryz.pinned (OpenSpec.upto cacheTargetSpec)

/-- 'gradinelaw16.CacheActs', WHERE WHAT IT READS IS OF BULK AT MOST 1048576: true; the input reads as it did. -/
def cacheActsUptoRow : OpenClaim := { program := "ytdjjlglmhbmnlaagreat", sum := "5df596b4dbd32ca85fb9ddfd7c9fd43194f3b25f48834b5ec255bf13ee20395a", func := "gradine/gradinelaw16.CacheActs", spec := "cacheActs", unfollowed := true, recurses := true, apart := false, narrowed := true }
def CacheActsUptoSaid : Prop := cacheActsUptoRow.holds Tryz.pinned (OpenSpec.upto cacheActsSpec)

end Rows
end Go.Proofs.YtdjjlglmhbmnlaaGreat
