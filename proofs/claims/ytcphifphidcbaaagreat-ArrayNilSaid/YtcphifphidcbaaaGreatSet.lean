/- A whole row is stored. No program. -/
import Derived.Test.YtcphifphidcbaaaGreatLib
import Derived.Laws.Tables
namespace Go.Proofs.YtcphifphidcbaaaGreat
open Go.RowKit
theorem Box.setRow' {w : World} {g : Nat} {t : TypeId} {cs : Array Value} (h : Box w g t cs) (cs' : Array Value) : Box (w.setRow g cs') g t cs' := setRow_heap w g cs cs' t (0, 0) h
theorem Only.setRow' {S : Nat → Prop} {a w : World} (h : Only S a w) {g : Nat} (hg : S g ∨ a.heap.size ≤ g) (cs : Array Value) : Only S a (w.setRow g cs) :=
  ⟨h.os, h.tape, h.output, by simpa [World.setRow] using h.size, fun k hk hn => by
    rw [setRow_other w g k cs (fun e => by subst e; exact hg.elim hn fun h => by omega)]
    exact h.block k hk hn⟩
end Go.Proofs.YtcphifphidcbaaaGreat
