/- Printed by the kit's print.sh, then CHANGED by this session: declarations that the claim has no use for, and remarks, were struck by a program (wip/gen/shake.py); in x8 one term was mended. It is no longer the print. -/
import Derived.Test.YtdjhjgfjhicbfaaWWords
import Derived.Test.YtdjhjgfjhicbfaaWLast
namespace Go.Proofs.YtdjhjgfjhicbfaaW.PrintWords
open Go.RowKit
namespace Kd
section
variable {α : Type} {d : Kd α} {e base g o n cap : Nat} {ok okp : Nat → Prop} {w W : World} {v : Value} {xs : List α}
end
section
variable {α : Type} {enc : α → Value} {h1 : ∀ x, (enc x).oneCell' = true} {e base g o n cap : Nat} {ok : Nat → Prop} {W : World} {xs : List α}
end
end Kd
end Go.Proofs.YtdjhjgfjhicbfaaW.PrintWords
