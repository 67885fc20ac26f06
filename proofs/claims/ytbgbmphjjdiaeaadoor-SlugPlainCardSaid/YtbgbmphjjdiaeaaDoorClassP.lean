/- Labels and texts without capitals, in the printed functions' words. -/
import Derived.Test.YtbgbmphjjdiaeaaDoorForms
namespace Go.Proofs.YtbgbmphjjdiaeaaDoor.P
open Go.RowKit Go.Proofs.YtbgbmphjjdiaeaaDoorW.PrintWords Go.Proofs.YtbgbmphjjdiaeaaDoorW.PrintLast Go.Proofs.YtbgbmphjjdiaeaaDoorW.PrintMore
set_option linter.unusedVariables false
set_option linter.unusedSimpArgs false
theorem mk_data (l : List UInt8) : (⟨l.toArray⟩ : ByteArray).data.toList = l := by simp
theorem mk_size (l : List UInt8) : (⟨l.toArray⟩ : ByteArray).size = l.length := by simp [ByteArray.size]
theorem data_len (a : ByteArray) : a.data.toList.length = a.size := by simp
theorem foldS_len (l : List UInt8) : (T.foldS l).length ≤ 24 * l.length := by
  have h1 := encs_foldL_len (T.runes l)
  have h2 := T.runes_len l
  unfold T.foldS
  omega
theorem fold_f (a : ByteArray) (h : a.size ≤ 1073741824) : class_Fold.f a = some ⟨(T.foldS a.data.toList).toArray⟩ := by unfold class_Fold.f; rw [if_pos h]
theorem fold_l (l : List UInt8) (h : l.length ≤ 1073741824) : class_Fold.f ⟨l.toArray⟩ = some ⟨(T.foldS l).toArray⟩ := by rw [fold_f _ (by rw [mk_size]; exact h), mk_data]
end Go.Proofs.YtbgbmphjjdiaeaaDoor.P
