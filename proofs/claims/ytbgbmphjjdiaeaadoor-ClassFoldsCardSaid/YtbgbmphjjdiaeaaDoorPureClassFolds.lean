/- ClassFolds, the plain law. -/
import Derived.Test.YtbgbmphjjdiaeaaDoorPk11
import Derived.Test.YtbgbmphjjdiaeaaDoorClassP
import Derived.Test.YtbgbmphjjdiaeaaDoorRefC
namespace Go.Proofs.YtbgbmphjjdiaeaaDoor.Pure
open Go.RowKit Go.Proofs.YtbgbmphjjdiaeaaDoor.P Go.Proofs.YtbgbmphjjdiaeaaDoorW.PrintWords Go.Proofs.YtbgbmphjjdiaeaaDoorW.PrintLast
theorem ClassFolds : incipitlaw03_ClassFolds.Pure := by
  intro a _
  refine ⟨8000200, ?_⟩
  unfold incipitlaw03_ClassFolds.f
  rw [awake03, Option.bind_some]
  by_cases h : (a.size : Int) > 2000
  · rw [if_pos h]
  · have hs : a.size ≤ 2000 := by omega
    have hl := data_len a
    have ha : a = ⟨a.data.toList.toArray⟩ := by simp
    have hf : incipitref03_Fold.f 8000200 a = some ⟨(T.foldS a.data.toList).toArray⟩ := by
      have := refFold_f a.data.toList (by omega) 8000200 (by omega)
      rw [← ha] at this
      exact this
    rw [if_neg h, if_pos rfl, fold_f a (by omega), Option.bind_some, hf, Option.bind_some, if_pos rfl, label_f a (by omega), Option.bind_some, refLabel_f a (by omega) _ (Nat.le_refl _), Option.bind_some]
    simp
end Go.Proofs.YtbgbmphjjdiaeaaDoor.Pure
