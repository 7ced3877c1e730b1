/- What a law's walk answers. -/
import Derived.Test.YtcphifphidcbaaaGreatLib
namespace Go.Proofs.YtcphifphidcbaaaGreat
def Ret (v : Value) (S : Nat → Prop) (w : World) (e : Ending) (w' : World) : Prop := e = .returned v ∧ Only S w w'
end Go.Proofs.YtcphifphidcbaaaGreat
