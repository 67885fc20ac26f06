/- SlugSound, the plain law. -/
import Derived.Test.YtbgbmphjjdiaeaaDoorPk19
import Derived.Test.YtbgbmphjjdiaeaaDoorSlugP
import Derived.Test.YtbgbmphjjdiaeaaDoorRefC
namespace Go.Proofs.YtbgbmphjjdiaeaaDoor.Pure
open Go.RowKit Go.Proofs.YtbgbmphjjdiaeaaDoor.P Go.Proofs.YtbgbmphjjdiaeaaDoorW.PrintWords Go.Proofs.YtbgbmphjjdiaeaaDoorW.PrintLast
set_option linter.unusedVariables false
theorem slug_prefix (l : List UInt8) (m : Nat) : ¬ ((T.slugS l).take m = [102, 110]) := by
  intro h
  have h1 := T.nameC_prefix (T.slugC l)
  rw [← T.slugS_eq] at h1
  have h2 : [102, 110] <+: T.slugS l := ⟨(T.slugS l).drop m, by rw [← h, List.take_append_drop]⟩
  have h3 : Lib.hasPrefix (T.slugS l) [102, 110] = true := List.isPrefixOf_iff_prefix.2 h2
  rw [h1] at h3
  cases h3
theorem sound_end (a : ByteArray) (hs : a.size ≤ 1000) (k : Nat) (hk : 3100 < k) (n : Int) (hn : n > 0) :
    (if n > 0 then (if 0 ≤ (mn 2 (((⟨(T.slugS a.data.toList).toArray⟩ : ByteArray)).size : Int)) then (if (mn 2 (((⟨(T.slugS a.data.toList).toArray⟩ : ByteArray)).size : Int)) ≤ (((⟨(T.slugS a.data.toList).toArray⟩ : ByteArray)).size : Int) then (if ((⟨(T.slugS a.data.toList).toArray⟩ : ByteArray).extract 0 ((mn 2 (((⟨(T.slugS a.data.toList).toArray⟩ : ByteArray)).size : Int)) : Int).toNat).toList = ([102, 110] : List UInt8) then (none) else ((incipitref03_Fold.f k a).bind fun t372 => ((slug_Slug.f t372).bind fun t373 => (if t373.toList = (⟨(T.slugS a.data.toList).toArray⟩ : ByteArray).toList then ((slug_Slug.f (⟨(T.slugS a.data.toList).toArray⟩ : ByteArray)).bind fun t374 => (some (t374.toList == (⟨(T.slugS a.data.toList).toArray⟩ : ByteArray).toList))) else (none))))) else (none)) else (none)) else (none)) = some true := by
  have hl := data_len a
  have ha : a = ⟨a.data.toList.toArray⟩ := by simp
  have h1 := slugS_len a.data.toList
  have h2 := foldS_len a.data.toList
  have hz : ((⟨(T.slugS a.data.toList).toArray⟩ : ByteArray)).size = (T.slugS a.data.toList).length := mk_size _
  have hf : incipitref03_Fold.f k a = some ⟨(T.foldS a.data.toList).toArray⟩ := by
    have := refFold_f a.data.toList (by omega) k (by omega)
    rw [← ha] at this
    exact this
  have hm : 0 ≤ mn 2 (((⟨(T.slugS a.data.toList).toArray⟩ : ByteArray)).size : Int) ∧ mn 2 (((⟨(T.slugS a.data.toList).toArray⟩ : ByteArray)).size : Int) ≤ (((⟨(T.slugS a.data.toList).toArray⟩ : ByteArray)).size : Int) := by
    unfold mn
    split <;> omega
  rw [if_pos hn, if_pos hm.1, if_pos hm.2, if_neg (by
    rw [toList_data, ByteArray.data_extract, Array.toList_extract]
    intro h
    exact slug_prefix a.data.toList _ (by simpa [List.extract_eq_take_drop] using h)), hf, Option.bind_some, slug_l _ (by omega), Option.bind_some, T.slugS_fold, if_pos rfl, slug_l _ (by omega), Option.bind_some, T.slugS_twice]
  simp
theorem sound_loop (a : ByteArray) (hs : a.size ≤ 1000) (R : List Nat) (hR : ∀ r ∈ R, T.nice r) (h0 : 0 < R.length) (hl : R.length ≤ 4294967296) : ∀ (d i k : Nat), i + d = R.length → d + 3101 < k →
    incipitlaw19_SlugSound.l0 k a true ⟨(T.slugS a.data.toList).toArray⟩ (ints R) (i : Int) = some true := by
  intro d
  induction d with
  | zero =>
    intro i k hi hk
    obtain ⟨k, rfl⟩ : ∃ q, k = q + 1 := ⟨k - 1, by omega⟩
    rw [incipitlaw19_SlugSound.l0, if_neg (by rw [ints_len]; omega), if_pos rfl]
    exact sound_end a hs k (by omega) _ (by rw [ints_len]; omega)
  | succ d ih =>
    intro i k hi hk
    obtain ⟨k, rfl⟩ : ∃ q, k = q + 1 := ⟨k - 1, by omega⟩
    have hlt : i < R.length := by omega
    have hg : R.getD i 0 = R[i] := by rw [List.getD_eq_getElem?_getD, List.getElem?_eq_getElem hlt]; rfl
    have hw : wrap64 ((i : Int) + 1) = ((i + 1 : Nat) : Int) := by unfold wrap64; omega
    obtain ⟨n1, n2, n3, n4⟩ := hR R[i] (List.getElem_mem hlt)
    have ih := ih (i + 1) k (by omega) (by omega)
    rw [incipitlaw19_SlugSound.l0, ints_rd, hg, hw]
    clear hw
    rw [if_pos (by rw [ints_len]; omega), if_pos (by omega), refSpace_f _ k (by omega), Option.bind_some, n3, if_neg (by decide), refPunct_f _ k (by omega), Option.bind_some, ih]
    by_cases hp : inSpans punctSpans (R[i] : Int) = true
    · rw [if_pos hp]
      by_cases h45 : R[i] = 45
      · rw [if_pos (by omega), if_neg (by omega)]
      · have h95 : R[i] = 95 := by
          rcases n4 with h | h | h
          · omega
          · exact h
          · rw [h] at hp; cases hp
        rw [if_neg (by omega), if_pos (by omega), if_neg (by omega)]
    · rw [if_neg hp, if_neg (by omega)]
theorem SlugSound : incipitlaw19_SlugSound.Pure := by
  intro a _
  refine ⟨8000200, ?_⟩
  unfold incipitlaw19_SlugSound.f
  rw [awake19 _ (by omega), Option.bind_some]
  by_cases h : (a.size : Int) > 1000
  · rw [if_pos h]
  · have hs : a.size ≤ 1000 := by omega
    have hl := data_len a
    have h1 := slugS_len a.data.toList
    have h2 := T.runes_len (T.slugS a.data.toList)
    have ht : text_Runes.f ⟨(T.slugS a.data.toList).toArray⟩ = some (ints (T.runes (T.slugS a.data.toList))) := by
      unfold text_Runes.f
      rw [if_pos (by rw [mk_size]; omega), mk_data]
    have h0 : 0 < (T.runes (T.slugS a.data.toList)).length := by
      rw [T.runes_slugS]
      exact List.length_pos_iff.2 (T.nameC_ne _)
    rw [if_neg h, slug_f a (by omega), Option.bind_some, ht, Option.bind_some]
    exact sound_loop a hs _ (T.runes_nice _) h0 (by omega) (T.runes (T.slugS a.data.toList)).length 0 _ (by omega) (by omega)
end Go.Proofs.YtbgbmphjjdiaeaaDoor.Pure
