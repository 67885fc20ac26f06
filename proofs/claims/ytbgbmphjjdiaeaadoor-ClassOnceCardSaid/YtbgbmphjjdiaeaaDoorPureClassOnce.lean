/- ClassOnce, the plain law. -/
import Derived.Test.YtbgbmphjjdiaeaaDoorPk12
import Derived.Test.YtbgbmphjjdiaeaaDoorClassP
namespace Go.Proofs.YtbgbmphjjdiaeaaDoor.Pure
open Go.RowKit Go.Proofs.YtbgbmphjjdiaeaaDoor.P Go.Proofs.YtbgbmphjjdiaeaaDoorW.PrintWords Go.Proofs.YtbgbmphjjdiaeaaDoorW.PrintLast
theorem ClassOnce : incipitlaw03_ClassOnce.Pure := by
  intro a _
  unfold incipitlaw03_ClassOnce.f
  rw [awake03, Option.bind_some]
  by_cases h : (a.size : Int) > 2000
  · rw [if_pos h]
  · have hs : a.size ≤ 2000 := by omega
    have hl := data_len a
    have hf := foldS_len a.data.toList
    have hb := labelS_len a.data.toList
    rw [if_neg h, fold_f a (by omega), Option.bind_some, label_f a (by omega), Option.bind_some, if_pos rfl, fold_l _ (by omega), Option.bind_some, T.foldS_twice, if_pos rfl, label_l _ (by omega), Option.bind_some, T.label_twice, if_pos rfl, label_l _ (by omega), Option.bind_some,
      T.label_fold, if_pos rfl, fold_l _ (by omega), Option.bind_some, T.foldS_label]
    simp
end Go.Proofs.YtbgbmphjjdiaeaaDoor.Pure
