/- DelimTurns: turning the two sides turns the two answers. -/
import Derived.Test.YtclondmclehiiaaPk11
import Derived.Test.YtclondmclehiiaaAmong
namespace Go.Proofs.Ytclondmclehiiaa.Pure
open Go.RowKit Go.Proofs.Ytclondmclehiiaa.P Go.Proofs.YtclondmclehiiaaW.PrintWords
set_option maxRecDepth 100000 in
theorem awake_true' : incipitlaw13_awake.f = some true := by decide +kernel
theorem DelimTurns : incipitlaw13_DelimTurns.Pure := by
  intro a0 a1 a2 _ _ _
  unfold incipitlaw13_DelimTurns.f
  rw [awake_true', flank_eq, flank_eq, flank_swap a0 a1]
  simp
end Go.Proofs.Ytclondmclehiiaa.Pure
