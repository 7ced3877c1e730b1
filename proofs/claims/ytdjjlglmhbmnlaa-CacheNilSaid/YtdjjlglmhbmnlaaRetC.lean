/- What a law's walk answers. -/
import Derived.Test.YtdjjlglmhbmnlaaCpu
namespace Go.Proofs.Ytdjjlglmhbmnlaa
def Ret (v : Value) (S : Nat → Prop) (w : World) (e : Ending) (w' : World) : Prop := e = .returned v ∧ Only S w w'
end Go.Proofs.Ytdjjlglmhbmnlaa
