/- Printed by the kit's print.sh, then CHANGED by this session: declarations that the claim has no use for, and remarks, were struck by a program (wip/gen/shake.py); in x8 one term was mended. It is no longer the print. -/
import Derived.Test.YtdjhjgfjhicbfaaWWords
namespace Go.Proofs.YtdjhjgfjhicbfaaW.PrintWords
open Go.RowKit
section
variable {P : Program} {ops : Array Oper} {rest : List Oper} {o : Oper} {a : Act} {Q : Exit → Act → World → Prop} {W : World}
theorem gate_guard (hw : Region.wanted o (yielded ops a.tmps) = true) (h : wpList P ops Q ({ o with guard := none } :: rest) a W) : wpList P ops Q (o :: rest) a W := by
  have h1 : Region.wanted { o with guard := none } (yielded ops a.tmps) = true := rfl
  unfold wpList at h ⊢
  rw [if_pos h1] at h
  rw [if_pos hw]
  exact h
end
end Go.Proofs.YtdjhjgfjhicbfaaW.PrintWords
