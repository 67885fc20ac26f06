/- DelimFlanks: the reference's flanks are the program's, and the law's own examples hold. -/
import Derived.Test.YtclondmclehiiaaPk5
import Derived.Test.YtclondmclehiiaaAmong
namespace Go.Proofs.Ytclondmclehiiaa.P
set_option maxRecDepth 100000 in
theorem awake_true : incipitlaw13_awake.f = some true := by decide +kernel
end Go.Proofs.Ytclondmclehiiaa.P
namespace Go.Proofs.Ytclondmclehiiaa.Pure
open Go.RowKit Go.Proofs.Ytclondmclehiiaa.P Go.Proofs.YtclondmclehiiaaW.PrintWords
theorem DelimFlanks : incipitlaw13_DelimFlanks.Pure := by
  intro a0 a1 a2 _ _ _
  refine ⟨42, ?_⟩
  unfold incipitlaw13_DelimFlanks.f
  rw [awake_true, flank_eq, refFlank_eq]
  simp
end Go.Proofs.Ytclondmclehiiaa.Pure
