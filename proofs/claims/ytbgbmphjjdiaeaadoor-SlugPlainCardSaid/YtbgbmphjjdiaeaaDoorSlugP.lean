/- The plain law of law19's examples, and of what its functions share. -/
import Derived.Test.YtbgbmphjjdiaeaaDoorPk17
import Derived.Test.YtbgbmphjjdiaeaaDoorClassP
namespace Go.Proofs.YtbgbmphjjdiaeaaDoor.P
open Go.RowKit Go.Proofs.YtbgbmphjjdiaeaaDoorW.PrintWords Go.Proofs.YtbgbmphjjdiaeaaDoorW.PrintLast
set_option linter.unusedVariables false
theorem awS : T.slugS [65, 32, 98, 33] = [97, 45, 98] := by kernel_rfl
theorem awU : T.uniq [[97], [97], [97, 45, 49]] = [[97], [97, 45, 49], [97, 45, 49, 45, 49]] := by
  have d1 : Lib.decDigits 1 = [49] := Lib.decDigits_one (by omega)
  have t1 : ∀ s, T.tryN s 1 = s ++ [45, 49] := fun s => by unfold T.tryN; rw [if_neg (by omega), d1]
  have f1 : T.freeS [] [97] = [97] := T.freeS_self (by simp)
  have f2 : T.freeS [[97]] [97] = [97, 45, 49] := by
    unfold T.freeS
    rw [T.freeN_eq (n := 1) (fun m hm => by have e : m = 0 := (by omega); subst e; rw [show T.tryN [97] 0 = [97] from rfl]; simp) (by rw [t1]; simp), t1]
    rfl
  have f3 : T.freeS [[97], [97, 45, 49]] [97, 45, 49] = [97, 45, 49, 45, 49] := by
    unfold T.freeS
    rw [T.freeN_eq (n := 1) (fun m hm => by have e : m = 0 := (by omega); subst e; rw [show T.tryN [97, 45, 49] 0 = [97, 45, 49] from rfl]; simp) (by rw [t1]; simp), t1]
    rfl
  unfold T.uniq
  rw [T.uniqL, f1, T.uniqL, List.nil_append, f2, T.uniqL, show ([[97]] ++ [[97, 45, 49]] : List (List UInt8)) = [[97], [97, 45, 49]] from rfl, f3, T.uniqL]
  rfl
theorem toList_data (s : ByteArray) : s.toList = s.data.toList := ByteArray.toList_eq s
theorem slug_f (a : ByteArray) (h : a.size ≤ 1073741824) : slug_Slug.f a = some ⟨(T.slugS a.data.toList).toArray⟩ := by unfold slug_Slug.f; rw [if_pos h]
theorem slug_l (l : List UInt8) (h : l.length ≤ 1073741824) : slug_Slug.f ⟨l.toArray⟩ = some ⟨(T.slugS l).toArray⟩ := by rw [slug_f _ (by rw [mk_size]; exact h), mk_data]
theorem nameS_len (n : List UInt8) : (T.nameS n).length ≤ n.length + 8 := by
  unfold T.nameS
  split
  · simp
  · split
    · simp
    · omega
theorem slugS_len (l : List UInt8) : (T.slugS l).length ≤ 24 * l.length + 8 := by
  have h1 := nameS_len (T.encs (T.slugL (T.foldL (T.runes l))))
  have h2 := encs_slugL_len (T.foldL (T.runes l))
  have h3 := foldL_len2 (T.runes l)
  have h4 := T.runes_len l
  show (T.nameS _).length ≤ _
  omega
theorem sameRow_loop (x : List ByteArray) (hl : x.length ≤ 4294967296) : ∀ (d i k : Nat), i + d = x.length → d < k → incipitref15_SameRow.l0 k x x (i : Int) = some true := by
  intro d
  induction d with
  | zero =>
    intro i k hi hk
    obtain ⟨k, rfl⟩ : ∃ q, k = q + 1 := ⟨k - 1, by omega⟩
    rw [incipitref15_SameRow.l0, if_neg (by omega)]
  | succ d ih =>
    intro i k hi hk
    obtain ⟨k, rfl⟩ : ∃ q, k = q + 1 := ⟨k - 1, by omega⟩
    have hw : wrap64 ((i : Int) + 1) = ((i + 1 : Nat) : Int) := by unfold wrap64; omega
    rw [incipitref15_SameRow.l0, hw]
    clear hw
    rw [if_pos (by omega), if_pos (by omega), if_pos (by omega), if_pos rfl]
    exact ih (i + 1) k (by omega) (by omega)
theorem same_self (x : List ByteArray) (hl : x.length ≤ 4294967296) (k : Nat) (hk : x.length < k) : incipitlaw19_same.f k x x = some true := by
  unfold incipitlaw19_same.f incipitref15_SameRow.f
  have := sameRow_loop x hl x.length 0 k (by omega) hk
  rw [if_pos rfl, show ((0 : Nat) : Int) = 0 from rfl] at *
  rw [this]
  rfl
theorem awake19 (k : Nat) (hk : 3 < k) : incipitlaw19_awake.f k = some true := by
  unfold incipitlaw19_awake.f
  have h1 : slug_Slug.f (⟨#[65, 32, 98, 33]⟩ : ByteArray) = some ⟨#[97, 45, 98]⟩ := by
    have := slug_l [65, 32, 98, 33] (by decide)
    rw [awS] at this
    exact this
  have h2 : slug_Unique.f ([(⟨#[97]⟩ : ByteArray), (⟨#[97]⟩ : ByteArray), (⟨#[97, 45, 49]⟩ : ByteArray)] : List ByteArray) = some [⟨#[97]⟩, ⟨#[97, 45, 49]⟩, ⟨#[97, 45, 49, 45, 49]⟩] := by
    unfold slug_Unique.f
    rw [if_pos (by decide)]
    unfold uniqB
    rw [show List.map (fun x : ByteArray => x.data.toList) [(⟨#[97]⟩ : ByteArray), (⟨#[97]⟩ : ByteArray), (⟨#[97, 45, 49]⟩ : ByteArray)] = [[97], [97], [97, 45, 49]] from rfl, awU]
    rfl
  rw [h1, Option.bind_some, if_pos (by rw [toList_data]), h2, Option.bind_some, same_self _ (by decide) k (by simpa using hk), Option.bind_some]
end Go.Proofs.YtbgbmphjjdiaeaaDoor.P
