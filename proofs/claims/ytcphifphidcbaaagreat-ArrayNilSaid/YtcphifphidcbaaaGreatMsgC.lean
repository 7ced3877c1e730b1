/- A message, as cells. -/
import Derived.Test.YtcphifphidcbaaaGreatLib
import Derived.Test.YtcphifphidcbaaaGreatChecked
namespace Go.Proofs.YtcphifphidcbaaaGreat
open Go.RowKit
/-- a message but for its bytes: kind, client, slot, boot, op, block, level, round, code; whether something is granted -/
structure MsgA where
  f : Nat → Int
  g : Bool
def msgC (m : MsgA) (d : Value) : Array Value := #[.int .i64 (m.f 0), .int .i64 (m.f 1), .int .i64 (m.f 2), .int .i64 (m.f 3), .int .i64 (m.f 4), .int .i64 (m.f 5), .int .i64 (m.f 6), .int .i64 (m.f 7), .int .i64 (m.f 8), .bool m.g, d]
theorem msgC_at (m : MsgA) (d : Value) {i : Nat} (hi : i < 9) : (msgC m d)[i]? = some (.int .i64 (m.f i)) := by
  rcases (show i = 0 ∨ i = 1 ∨ i = 2 ∨ i = 3 ∨ i = 4 ∨ i = 5 ∨ i = 6 ∨ i = 7 ∨ i = 8 by omega) with rfl | rfl | rfl | rfl | rfl | rfl | rfl | rfl | rfl <;> rfl
end Go.Proofs.YtcphifphidcbaaaGreat
