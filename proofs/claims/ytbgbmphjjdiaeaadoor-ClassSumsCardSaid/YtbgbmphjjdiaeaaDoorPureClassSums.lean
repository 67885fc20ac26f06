/- ClassSums, the plain law. -/
import Derived.Test.YtbgbmphjjdiaeaaDoorPk15
import Derived.Test.YtbgbmphjjdiaeaaDoorClassP
namespace Go.Proofs.YtbgbmphjjdiaeaaDoor.P
open Go.RowKit Go.Proofs.YtbgbmphjjdiaeaaDoorW.PrintWords Go.Proofs.YtbgbmphjjdiaeaaDoorW.PrintLast Go.Proofs.YtbgbmphjjdiaeaaDoorW.PrintMore
theorem mk_app (x y : List UInt8) : ((⟨x.toArray⟩ : ByteArray) ++ (⟨y.toArray⟩ : ByteArray)) = ⟨(x ++ y).toArray⟩ := by
  apply ByteArray.ext
  simp
theorem bytesOk_of {l : List Int} (h : ∀ x ∈ l, (Lit.int .u8 x).wf = true) : bytesOk l = true := by
  unfold bytesOk
  rw [List.all_eq_true]
  intro x hx
  have : 0 ≤ x ∧ x ≤ 255 := by simpa [Lit.wf, IntKind.min, IntKind.max, IntKind.signed, IntKind.bits] using h x hx
  simp
  omega
theorem clean_f (l : List Int) (h : l.length ≤ 1073741824) (hb : bytesOk l = true) : text_Clean.f l = some ⟨(T.clean (unbints l)).toArray⟩ := by unfold text_Clean.f; rw [if_pos ⟨h, hb⟩]
end Go.Proofs.YtbgbmphjjdiaeaaDoor.P
namespace Go.Proofs.YtbgbmphjjdiaeaaDoor.Pure
open Go.RowKit Go.Proofs.YtbgbmphjjdiaeaaDoor.P Go.Proofs.YtbgbmphjjdiaeaaDoorW.PrintWords Go.Proofs.YtbgbmphjjdiaeaaDoorW.PrintLast
theorem ClassSums : incipitlaw03_ClassSums.Pure := by
  intro a b _ _ ha _ _ hb
  refine ⟨1, ?_⟩
  unfold incipitlaw03_ClassSums.f
  rw [awake03, Option.bind_some]
  by_cases h1 : (a.length : Int) > 1000
  · rw [if_pos h1]; rfl
  · rw [if_neg h1]
    by_cases h2 : (b.length : Int) > 1000
    · rw [decide_eq_true h2]; rfl
    · rw [decide_eq_false h2]
      have la := T.clean_le (unbints a)
      have lb := T.clean_le (unbints b)
      have ua : (unbints a).length = a.length := by simp [unbints]
      have ub : (unbints b).length = b.length := by simp [unbints]
      have fa := foldS_len (T.clean (unbints a))
      have fb := foldS_len (T.clean (unbints b))
      rw [incipitlaw03_ClassSums.j0, if_neg (by decide), clean_f a (by omega) (bytesOk_of ha), Option.bind_some, clean_f b (by omega) (bytesOk_of hb), Option.bind_some, if_pos rfl, if_pos (by rw [mk_size, mk_size]; omega), mk_app, fold_l _ (by rw [List.length_append]; omega), Option.bind_some,
        fold_l _ (by omega), Option.bind_some, fold_l _ (by omega), Option.bind_some, if_pos (by rw [mk_size, mk_size]; omega), mk_app, T.foldS_app, T.foldS_clean (unbints a)]
      simp
end Go.Proofs.YtbgbmphjjdiaeaaDoor.Pure
