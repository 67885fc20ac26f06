/- ClassSigns, the plain law. -/
import Derived.Test.YtbgbmphjjdiaeaaDoorPk14
import Derived.Test.YtbgbmphjjdiaeaaDoorClassP
namespace Go.Proofs.YtbgbmphjjdiaeaaDoor.P
open Go.RowKit Go.Proofs.YtbgbmphjjdiaeaaDoorW.PrintWords Go.Proofs.YtbgbmphjjdiaeaaDoorW.PrintLast Go.Proofs.YtbgbmphjjdiaeaaDoorW.PrintMore
theorem signs_fin : ∀ n : Fin 256, (if (Go.bits .and .u8 (n.val : Int) 127) > 32 then (incipitlaw03_ClassSigns.j0 1 true (Go.bits .and .u8 (n.val : Int) 127) (decide ((Go.bits .and .u8 (n.val : Int) 127) < 127))) else (incipitlaw03_ClassSigns.j0 1 true (Go.bits .and .u8 (n.val : Int) 127) false)) = some true := by decide +kernel
end Go.Proofs.YtbgbmphjjdiaeaaDoor.P
namespace Go.Proofs.YtbgbmphjjdiaeaaDoor.Pure
open Go.RowKit Go.Proofs.YtbgbmphjjdiaeaaDoor.P Go.Proofs.YtbgbmphjjdiaeaaDoorW.PrintWords Go.Proofs.YtbgbmphjjdiaeaaDoorW.PrintLast
theorem ClassSigns : incipitlaw03_ClassSigns.Pure := by
  intro b hb
  have hb2 : 0 ≤ b ∧ b < 256 := by
    have : 0 ≤ b ∧ b ≤ 255 := by simpa [Lit.wf, IntKind.min, IntKind.max, IntKind.signed, IntKind.bits] using hb
    omega
  refine ⟨1, ?_⟩
  unfold incipitlaw03_ClassSigns.f
  rw [awake03, Option.bind_some]
  have := signs_fin ⟨b.toNat, by omega⟩
  simp only at this
  rw [show ((b.toNat : Nat) : Int) = b by omega] at this
  exact this
end Go.Proofs.YtbgbmphjjdiaeaaDoor.Pure
