/- SlugNames, the plain law (RefC, SlugP, FewP, OpenS merged in: a claim holds 60 files). -/
import Derived.Test.YtbgbmphjjdiaeaaDoorPk3
import Derived.Test.YtbgbmphjjdiaeaaDoorPk3
import Derived.Test.YtbgbmphjjdiaeaaDoorPk3
import Derived.Test.YtbgbmphjjdiaeaaDoorSpace
import Derived.Test.YtbgbmphjjdiaeaaDoorPk9
import Derived.Test.YtbgbmphjjdiaeaaDoorPk10
import Derived.Test.YtbgbmphjjdiaeaaDoorForms
import Derived.Test.YtbgbmphjjdiaeaaDoorClassP
import Derived.Test.YtbgbmphjjdiaeaaDoorPk17
import Derived.Test.YtbgbmphjjdiaeaaDoorPk5
import Derived.Test.YtbgbmphjjdiaeaaDoorPk0
import Derived.SliceStrings
import Derived.Deep.Slices
import Derived.WalkKit
import Derived.ProofKit
import Derived.OpenShut
import Derived.ChangeOld
import Derived.Below
import Derived.Test.YtbgbmphjjdiaeaaDoorPk18
/- The reference of law03 (and of law19): its plain laws. -/
/- The reference's kinds of characters. -/
namespace Go.Proofs.YtbgbmphjjdiaeaaDoor.P
open Go.RowKit Go.Proofs.YtbgbmphjjdiaeaaDoorW.PrintWords Go.Proofs.YtbgbmphjjdiaeaaDoorW.PrintLast Go.Proofs.YtbgbmphjjdiaeaaDoorW.PrintMore
set_option linter.unusedVariables false
set_option linter.unusedSimpArgs false
def flat : List (Int × Int) → List Int
  | [] => []
  | p :: r => p.1 :: p.2 :: flat r
theorem flat_len (l : List (Int × Int)) : (flat l).length = 2 * l.length := by
  induction l with
  | nil => rfl
  | cons p r ih => rw [flat, List.length_cons, List.length_cons, List.length_cons, ih]; omega
theorem flat_at (l : List (Int × Int)) : ∀ i : Nat, (flat l).getD (2 * i) 0 = (l.getD i (0, 0)).1 ∧ (flat l).getD (2 * i + 1) 0 = (l.getD i (0, 0)).2 := by
  induction l with
  | nil => intro i; exact ⟨rfl, rfl⟩
  | cons p r ih =>
    intro i
    cases i with
    | zero => exact ⟨rfl, rfl⟩
    | succ i =>
      have := ih i
      rw [show 2 * (i + 1) = 2 * i + 1 + 1 by omega, flat]
      exact this
theorem among_loop (l : List (Int × Int)) (x : Int) (hl : l.length ≤ 1000) : ∀ (d i k : Nat), i + d = l.length → d < k → incipitref03_among.l0 k x (flat l) ((2 * i : Nat) : Int) = some (inSpans (l.drop i) x) := by
  intro d
  induction d with
  | zero =>
    intro i k hi hk
    obtain ⟨k, rfl⟩ : ∃ q, k = q + 1 := ⟨k - 1, by omega⟩
    rw [incipitref03_among.l0, if_neg (by rw [flat_len]; unfold wrap64; omega), List.drop_of_length_le (by omega)]
    rfl
  | succ d ih =>
    intro i k hi hk
    obtain ⟨k, rfl⟩ : ∃ q, k = q + 1 := ⟨k - 1, by omega⟩
    have hlt : i < l.length := by omega
    obtain ⟨f1, f2⟩ := flat_at l i
    have hd : l.drop i = l.getD i (0, 0) :: l.drop (i + 1) := by
      rw [List.drop_eq_getElem_cons hlt, List.getD_eq_getElem?_getD, List.getElem?_eq_getElem hlt]; rfl
    have hin : inSpans (l.drop i) x = (decide ((l.getD i (0, 0)).1 ≤ x) && decide (x ≤ (l.getD i (0, 0)).2) || inSpans (l.drop (i + 1)) x) := by rw [hd]; rfl
    have w1 : wrap64 (((2 * i : Nat) : Int) + 1) = ((2 * i + 1 : Nat) : Int) := by unfold wrap64; omega
    have w2 : wrap64 (((2 * i : Nat) : Int) + 2) = ((2 * (i + 1) : Nat) : Int) := by unfold wrap64; omega
    have r1 : rd (flat l) ((2 * i : Nat) : Int) = (l.getD i (0, 0)).1 := by unfold rd; rw [Int.toNat_natCast]; exact f1
    have r2 : rd (flat l) ((2 * i + 1 : Nat) : Int) = (l.getD i (0, 0)).2 := by unfold rd; rw [Int.toNat_natCast]; exact f2
    have hi2 := ih (i + 1) k (by omega) (by omega)
    rw [incipitref03_among.l0, w1, w2, r1, r2, hi2, hin]
    have hfl := flat_len l
    clear w1 w2 r1 r2 hi2 hin f1 f2
    rw [if_pos (by omega), if_pos (by omega), if_pos (by omega)]
    by_cases c1 : (l.getD i (0, 0)).1 ≤ x
    · rw [if_pos c1, if_pos (by omega), decide_eq_true c1]
      by_cases c2 : x ≤ (l.getD i (0, 0)).2
      · rw [if_pos c2, decide_eq_true c2]; rfl
      · rw [if_neg c2, decide_eq_false c2]; rfl
    · rw [if_neg c1, decide_eq_false c1]; rfl
theorem among_f (l : List (Int × Int)) (x : Int) (hl : l.length ≤ 1000) (k : Nat) (hk : l.length < k) : incipitref03_among.f k x (flat l) = some (inSpans l x) :=
  among_loop l x hl l.length 0 k (by omega) hk
theorem refSpace_f (x : Int) (k : Nat) (hk : 10 ≤ k) : incipitref03_Space.f k x = some (inSpans spaceSpans x) := by
  unfold incipitref03_Space.f
  have := among_f spaceSpans x (by decide) k (by show 9 < k; omega)
  rw [show ([9, 10, 12, 13, 32, 32, 160, 160, 5760, 5760, 8192, 8202, 8239, 8239, 8287, 8287, 12288, 12288] : List Int) = flat spaceSpans from rfl, this]
  rfl
theorem refPunct_f (x : Int) (k : Nat) (hk : 20 ≤ k) : incipitref03_Punct.f k x = some (inSpans punctSpans x) := by
  unfold incipitref03_Punct.f
  have := among_f punctSpans x (by decide) k (by show 19 < k; omega)
  rw [show ([33, 47, 58, 64, 91, 96, 123, 126, 161, 169, 171, 172, 174, 177, 180, 180, 182, 184, 187, 187, 191, 191, 215, 215, 247, 247, 8208, 8231, 8240, 8286, 8352, 8384, 12289, 12291, 12296, 12319, 65281, 65295] : List Int) = flat punctSpans from rfl, this]
  rfl
theorem space_punct (x : Int) (h : inSpans spaceSpans x = true) : inSpans punctSpans x = false := by
  cases hp : inSpans punctSpans x with
  | false => rfl
  | true =>
    simp [inSpans, spaceSpans] at h
    simp [inSpans, punctSpans] at hp
    omega
end Go.Proofs.YtbgbmphjjdiaeaaDoor.P
/- The reference's texts without capitals, and labels. -/
namespace Go.Proofs.YtbgbmphjjdiaeaaDoor.P
open Go.RowKit Go.Proofs.YtbgbmphjjdiaeaaDoorW.PrintWords Go.Proofs.YtbgbmphjjdiaeaaDoorW.PrintLast Go.Proofs.YtbgbmphjjdiaeaaDoorW.PrintMore
set_option linter.unusedVariables false
set_option linter.unusedSimpArgs false
theorem encode_enc (r : Nat) (h : T.okR r) : Utf8.encode (r : Int) = ⟨(T.enc r).toArray⟩ := by
  have hv : Utf8.valid (r : Int) = true := by
    unfold Utf8.valid
    unfold T.okR at h
    simp
    omega
  unfold Utf8.encode
  rw [hv]
  simp only [if_true, Int.toNat_natCast]
  rcases T.enc_cases h with h1 | ⟨h1, h2⟩ | h1 | ⟨h1, h2⟩
  · rw [if_pos h1, T.enc_one h1]
  · rw [if_neg (by omega), if_pos (by omega), T.enc_two h1 h2]
  · rw [if_neg (by omega), if_neg (by omega), if_pos (by omega), T.enc_three h1]
  · rw [if_neg (by omega), if_neg (by omega), if_neg (by omega), T.enc_four h1 h2]
def capSpans : List (Int × Int) := [(65, 90), (192, 214), (216, 222), (913, 929), (931, 939), (1040, 1071)]
theorem caps_iff (r : Nat) : (inSpans capSpans (r : Int) = true) = ((65 ≤ r ∧ r ≤ 90) ∨ (192 ≤ r ∧ r ≤ 222 ∧ r ≠ 215) ∨ (913 ≤ r ∧ r ≤ 939 ∧ r ≠ 930) ∨ (1040 ≤ r ∧ r ≤ 1071)) := by
  simp only [inSpans, capSpans, List.any_cons, List.any_nil, Bool.or_false, Bool.or_eq_true, Bool.and_eq_true, decide_eq_true_eq]
  apply propext
  omega
theorem caps2_iff (r : Nat) : (inSpans [(1024, 1039)] (r : Int) = true) = (1024 ≤ r ∧ r ≤ 1039) := by
  simp only [inSpans, List.any_cons, List.any_nil, Bool.or_false, Bool.and_eq_true, decide_eq_true_eq]
  apply propext
  omega
theorem encs_one (r : Nat) : T.encs [r] = T.enc r := by simp [T.encs]
theorem refFold1_f (r : Nat) (h : T.good r) (k : Nat) (hk : 8 ≤ k) : incipitref03_fold.f k (r : Int) = some ⟨(T.encs (T.foldR r)).toArray⟩ := by
  obtain ⟨k, rfl⟩ : ∃ q, k = q + 1 := ⟨k - 1, by omega⟩
  have a1 : incipitref03_among.f k (r : Int) ([65, 90, 192, 214, 216, 222, 913, 929, 931, 939, 1040, 1071] : List Int) = some (inSpans capSpans (r : Int)) := among_f capSpans (r : Int) (by decide) k (by show 6 < k; omega)
  have a2 : incipitref03_among.f k (r : Int) ([1024, 1039] : List Int) = some (inSpans [(1024, 1039)] (r : Int)) := among_f [(1024, 1039)] (r : Int) (by decide) k (by show 1 < k; omega)
  have hb := h.1
  unfold T.okR at hb
  have ss : (⟨#[115, 115]⟩ : ByteArray) = ⟨(T.encs [115, 115]).toArray⟩ := by
    rw [T.encs_cons, encs_one, T.enc_one (by omega)]; rfl
  unfold incipitref03_fold.f T.foldR
  by_cases c0 : r = 223
  · rw [if_pos (by omega), if_pos (.inl c0), incipitref03_fold.j0, if_pos rfl, ss]
  · rw [if_neg (by omega), incipitref03_fold.j0]
    by_cases c1 : r = 7838
    · rw [if_pos (show ((r : Int) == 7838) = true from by rw [beq_iff_eq]; omega), if_pos (show r = 223 ∨ r = 7838 from .inr c1), ss]
    · rw [if_neg (show ¬ (r = 223 ∨ r = 7838) by omega), if_neg (by rw [beq_iff_eq]; omega), a1, Option.bind_some, a2]
      by_cases c3 : (65 ≤ r ∧ r ≤ 90) ∨ (192 ≤ r ∧ r ≤ 222 ∧ r ≠ 215) ∨ (913 ≤ r ∧ r ≤ 939 ∧ r ≠ 930) ∨ (1040 ≤ r ∧ r ≤ 1071)
      · rw [if_pos (by rw [caps_iff]; exact c3), if_neg (show ¬ r = 962 by omega), if_pos c3, encs_one, ← encode_enc (r + 32) (by unfold T.okR; omega)]
        congr 2
        unfold wrap32
        omega
      · rw [if_neg (by rw [caps_iff]; exact c3), Option.bind_some]
        by_cases c4 : 1024 ≤ r ∧ r ≤ 1039
        · rw [if_pos (by rw [caps2_iff]; exact c4), if_neg (show ¬ r = 962 by omega), if_neg c3, if_pos c4, encs_one, ← encode_enc (r + 80) (by unfold T.okR; omega)]
          congr 2
          unfold wrap32
          omega
        · rw [if_neg (by rw [caps2_iff]; exact c4)]
          by_cases c5 : r = 962
          · rw [if_pos (by omega), if_pos c5, encs_one, T.enc_two (by omega) (by omega)]
            rfl
          · rw [if_neg (by omega), if_neg c5, if_neg c3, if_neg c4, encs_one, encode_enc r h.1]
theorem ints_rd (R : List Nat) (i : Nat) : rd (ints R) (i : Int) = ((R.getD i 0 : Nat) : Int) := by
  unfold rd ints
  rw [Int.toNat_natCast, List.getD_eq_getElem?_getD, List.getElem?_map, List.getD_eq_getElem?_getD]
  cases R[i]? <;> rfl
theorem ints_len (R : List Nat) : (ints R).length = R.length := by simp [ints]
theorem mk_app2 (x y : List UInt8) : ((⟨x.toArray⟩ : ByteArray) ++ (⟨y.toArray⟩ : ByteArray)) = ⟨(x ++ y).toArray⟩ := by
  apply ByteArray.ext
  simp
theorem refFold_loop (R : List Nat) (hR : ∀ r ∈ R, T.good r) (hl : R.length ≤ 4294967296) : ∀ (d i k : Nat) (acc : List UInt8), i + d = R.length → d + 8 < k → acc.length + 8 * d ≤ 140737488355328 → incipitref03_Fold.l0 k ⟨acc.toArray⟩ (ints R) (i : Int) = some ⟨(acc ++ T.encs (T.foldL (R.drop i))).toArray⟩ := by
  intro d
  induction d with
  | zero =>
    intro i k acc hi hk _
    obtain ⟨k, rfl⟩ : ∃ q, k = q + 1 := ⟨k - 1, by omega⟩
    rw [incipitref03_Fold.l0, if_neg (by rw [ints_len]; omega), List.drop_of_length_le (by omega)]
    simp [T.foldL, T.encs]
  | succ d ih =>
    intro i k acc hi hk ha
    obtain ⟨k, rfl⟩ : ∃ q, k = q + 1 := ⟨k - 1, by omega⟩
    have hlt : i < R.length := by omega
    have hg : R.getD i 0 = R[i] := by rw [List.getD_eq_getElem?_getD, List.getElem?_eq_getElem hlt]; rfl
    have hw : wrap64 ((i : Int) + 1) = ((i + 1 : Nat) : Int) := by unfold wrap64; omega
    have h8 : (T.encs (T.foldR R[i])).length ≤ 8 := by have := encs_foldL_len [R[i]]; simpa [T.foldL] using this
    rw [incipitref03_Fold.l0, ints_rd, hg, hw]
    clear hw
    rw [if_pos (by rw [ints_len]; omega), if_pos (by omega), refFold1_f R[i] (hR _ (List.getElem_mem hlt)) k (by omega), Option.bind_some, if_pos (by rw [mk_size, mk_size]; omega), mk_app2, ih (i + 1) k _ (by omega) (by omega) (by rw [List.length_append]; omega), List.drop_eq_getElem_cons hlt, T.foldL_cons, T.encs_append, List.append_assoc]
theorem refFold_f (l : List UInt8) (hl : l.length ≤ 1073741824) (k : Nat) (hk : 3 * l.length + 8 < k) : incipitref03_Fold.f k ⟨l.toArray⟩ = some ⟨(T.foldS l).toArray⟩ := by
  have hr := T.runes_len l
  unfold incipitref03_Fold.f incipitref01_Runes.f
  rw [if_pos (by rw [mk_size]; exact hl), Option.bind_some, mk_data]
  have := refFold_loop (T.runes l) (T.runes_ok l) (by omega) (T.runes l).length 0 k [] (by omega) (by omega) (by simp; omega)
  rw [List.nil_append, List.drop_zero] at this
  exact this
end Go.Proofs.YtbgbmphjjdiaeaaDoor.P
/- The plain law of law19's examples, and of what its functions share. -/
namespace Go.Proofs.YtbgbmphjjdiaeaaDoor.P
open Go.RowKit Go.Proofs.YtbgbmphjjdiaeaaDoorW.PrintWords Go.Proofs.YtbgbmphjjdiaeaaDoorW.PrintLast
set_option linter.unusedVariables false
theorem awS : T.slugS [65, 32, 98, 33] = [97, 45, 98] := by kernel_rfl
theorem awU : T.uniq [[97], [97], [97, 45, 49]] = [[97], [97, 45, 49], [97, 45, 49, 45, 49]] := by
  have d1 : Lib.decDigits 1 = [49] := Lib.decDigits_one (by omega)
  have t1 : ∀ s, T.tryN s 1 = s ++ [45, 49] := fun s => by unfold T.tryN; rw [if_neg (by omega), d1]
  have f1 : T.freeS [] [97] = [97] := T.freeS_self (by simp)
  have f2 : T.freeS [[97]] [97] = [97, 45, 49] := by
    unfold T.freeS
    rw [T.freeN_eq (n := 1) (fun m hm => by have e : m = 0 := (by omega); subst e; rw [show T.tryN [97] 0 = [97] from rfl]; simp) (by rw [t1]; simp), t1]
    rfl
  have f3 : T.freeS [[97], [97, 45, 49]] [97, 45, 49] = [97, 45, 49, 45, 49] := by
    unfold T.freeS
    rw [T.freeN_eq (n := 1) (fun m hm => by have e : m = 0 := (by omega); subst e; rw [show T.tryN [97, 45, 49] 0 = [97, 45, 49] from rfl]; simp) (by rw [t1]; simp), t1]
    rfl
  unfold T.uniq
  rw [T.uniqL, f1, T.uniqL, List.nil_append, f2, T.uniqL, show ([[97]] ++ [[97, 45, 49]] : List (List UInt8)) = [[97], [97, 45, 49]] from rfl, f3, T.uniqL]
  rfl
theorem toList_data (s : ByteArray) : s.toList = s.data.toList := ByteArray.toList_eq s
theorem slug_f (a : ByteArray) (h : a.size ≤ 1073741824) : slug_Slug.f a = some ⟨(T.slugS a.data.toList).toArray⟩ := by unfold slug_Slug.f; rw [if_pos h]
theorem slug_l (l : List UInt8) (h : l.length ≤ 1073741824) : slug_Slug.f ⟨l.toArray⟩ = some ⟨(T.slugS l).toArray⟩ := by rw [slug_f _ (by rw [mk_size]; exact h), mk_data]
theorem nameS_len (n : List UInt8) : (T.nameS n).length ≤ n.length + 8 := by
  unfold T.nameS
  split
  · simp
  · split
    · simp
    · omega
theorem slugS_len (l : List UInt8) : (T.slugS l).length ≤ 24 * l.length + 8 := by
  have h1 := nameS_len (T.encs (T.slugL (T.foldL (T.runes l))))
  have h2 := encs_slugL_len (T.foldL (T.runes l))
  have h3 := foldL_len2 (T.runes l)
  have h4 := T.runes_len l
  show (T.nameS _).length ≤ _
  omega
theorem sameRow_loop (x : List ByteArray) (hl : x.length ≤ 4294967296) : ∀ (d i k : Nat), i + d = x.length → d < k → incipitref15_SameRow.l0 k x x (i : Int) = some true := by
  intro d
  induction d with
  | zero =>
    intro i k hi hk
    obtain ⟨k, rfl⟩ : ∃ q, k = q + 1 := ⟨k - 1, by omega⟩
    rw [incipitref15_SameRow.l0, if_neg (by omega)]
  | succ d ih =>
    intro i k hi hk
    obtain ⟨k, rfl⟩ : ∃ q, k = q + 1 := ⟨k - 1, by omega⟩
    have hw : wrap64 ((i : Int) + 1) = ((i + 1 : Nat) : Int) := by unfold wrap64; omega
    rw [incipitref15_SameRow.l0, hw]
    clear hw
    rw [if_pos (by omega), if_pos (by omega), if_pos (by omega), if_pos rfl]
    exact ih (i + 1) k (by omega) (by omega)
theorem same_self (x : List ByteArray) (hl : x.length ≤ 4294967296) (k : Nat) (hk : x.length < k) : incipitlaw19_same.f k x x = some true := by
  unfold incipitlaw19_same.f incipitref15_SameRow.f
  have := sameRow_loop x hl x.length 0 k (by omega) hk
  rw [if_pos rfl, show ((0 : Nat) : Int) = 0 from rfl] at *
  rw [this]
  rfl
theorem awake19 (k : Nat) (hk : 3 < k) : incipitlaw19_awake.f k = some true := by
  unfold incipitlaw19_awake.f
  have h1 : slug_Slug.f (⟨#[65, 32, 98, 33]⟩ : ByteArray) = some ⟨#[97, 45, 98]⟩ := by
    have := slug_l [65, 32, 98, 33] (by decide)
    rw [awS] at this
    exact this
  have h2 : slug_Unique.f ([(⟨#[97]⟩ : ByteArray), (⟨#[97]⟩ : ByteArray), (⟨#[97, 45, 49]⟩ : ByteArray)] : List ByteArray) = some [⟨#[97]⟩, ⟨#[97, 45, 49]⟩, ⟨#[97, 45, 49, 45, 49]⟩] := by
    unfold slug_Unique.f
    rw [if_pos (by decide)]
    unfold uniqB
    rw [show List.map (fun x : ByteArray => x.data.toList) [(⟨#[97]⟩ : ByteArray), (⟨#[97]⟩ : ByteArray), (⟨#[97, 45, 49]⟩ : ByteArray)] = [[97], [97], [97, 45, 49]] from rfl, awU]
    rfl
  rw [h1, Option.bind_some, if_pos (by rw [toList_data]), h2, Option.bind_some, same_self _ (by decide) k (by simpa using hk), Option.bind_some]
end Go.Proofs.YtbgbmphjjdiaeaaDoor.P
/- Few and short texts; names as byte strings: shared by law19's plain laws (PureSlugFirst holds the same lemmas itself). -/
namespace Go.Proofs.YtbgbmphjjdiaeaaDoor.Pure
open Go.RowKit Go.Proofs.YtbgbmphjjdiaeaaDoor.P Go.Proofs.YtbgbmphjjdiaeaaDoorW.PrintWords Go.Proofs.YtbgbmphjjdiaeaaDoorW.PrintLast
set_option linter.unusedVariables false
theorem few_loop (l : List ByteArray) (hl : l.length ≤ 60) : ∀ (d i k : Nat), i + d = l.length → d < k → ∃ b, incipitlaw19_few.l0 k l (i : Int) = some b ∧ (b = true → ∀ j : Nat, i ≤ j → j < l.length → (rdOf ByteArray.empty l (j : Int)).size ≤ 300) := by
  intro d
  induction d with
  | zero =>
    intro i k hi hk
    obtain ⟨k, rfl⟩ : ∃ q, k = q + 1 := ⟨k - 1, by omega⟩
    rw [incipitlaw19_few.l0, if_neg (by omega)]
    exact ⟨true, rfl, fun _ j h1 h2 => by omega⟩
  | succ d ih =>
    intro i k hi hk
    obtain ⟨k, rfl⟩ : ∃ q, k = q + 1 := ⟨k - 1, by omega⟩
    have hw : wrap64 ((i : Int) + 1) = ((i + 1 : Nat) : Int) := by unfold wrap64; omega
    rw [incipitlaw19_few.l0, hw]
    clear hw
    rw [if_pos (by omega), if_pos (by omega)]
    by_cases h : ((rdOf ByteArray.empty l (i : Int)).size : Int) > 300
    · rw [if_pos h]
      exact ⟨false, rfl, fun h => by cases h⟩
    · rw [if_neg h]
      obtain ⟨b, h1, h2⟩ := ih (i + 1) k (by omega) (by omega)
      refine ⟨b, h1, fun hb j j1 j2 => ?_⟩
      by_cases e : j = i
      · rw [e]; omega
      · exact h2 hb j (by omega) j2
theorem few_f (l : List ByteArray) (k : Nat) (hk : 61 < k) : ∃ b, incipitlaw19_few.f k l = some b ∧ (b = true → l.length ≤ 60 ∧ ∀ x ∈ l, x.size ≤ 300) := by
  unfold incipitlaw19_few.f
  by_cases h : (l.length : Int) > 60
  · rw [if_pos h]
    exact ⟨false, rfl, fun h => by cases h⟩
  · rw [if_neg h]
    obtain ⟨b, h1, h2⟩ := few_loop l (by omega) l.length 0 k (by omega) (by omega)
    refine ⟨b, h1, fun hb => ⟨by omega, fun x hx => ?_⟩⟩
    obtain ⟨j, hj, rfl⟩ := List.mem_iff_getElem.1 hx
    have := h2 hb j (Nat.zero_le _) hj
    rw [show rdOf ByteArray.empty l (j : Int) = l[j] from by unfold rdOf; simp [List.getD_eq_getElem?_getD, List.getElem?_eq_getElem hj]] at this
    exact this
theorem uniqL_mem : ∀ (out l : List (List UInt8)), ∀ x ∈ T.uniqL out l, x ∈ out ∨ ∃ s ∈ l, ∃ n, n ≤ out.length + l.length ∧ x = T.tryN s n
  | out, [], x, hx => .inl hx
  | out, s :: l, x, hx => by
    rcases uniqL_mem (out ++ [T.freeS out s]) l x hx with h | ⟨s2, h1, n, h2, h3⟩
    · rcases List.mem_append.1 h with h | h
      · exact .inl h
      · rw [List.mem_singleton] at h
        exact .inr ⟨s, List.mem_cons_self .., T.freeN out s, by have := (T.freeN_spec out s).1; omega, h⟩
    · refine .inr ⟨s2, List.mem_cons_of_mem _ h1, n, ?_, h3⟩
      simp at h2
      rw [List.length_cons]
      omega
theorem uniq_sizes (l : List ByteArray) (hl : l.length ≤ 98) (hz : ∀ x ∈ l, x.size ≤ 300) : ∀ x ∈ uniqB l, x.size ≤ 400 := by
  intro x hx
  obtain ⟨y, hy, rfl⟩ := List.mem_map.1 hx
  rcases uniqL_mem [] _ y hy with h | ⟨s, h1, n, h2, rfl⟩
  · cases h
  · obtain ⟨z, hz1, rfl⟩ := List.mem_map.1 h1
    have h3 := hz z hz1
    have h4 := data_len z
    have h5 := dec_len2 n (by simp at h2; omega)
    rw [show (mkB (T.tryN z.data.toList n)).size = (T.tryN z.data.toList n).length from mk_size _]
    unfold T.tryN
    split
    · omega
    · rw [List.length_append, List.length_cons]
      omega
theorem uniqB_length (l : List ByteArray) : (uniqB l).length = l.length := by
  unfold uniqB T.uniq
  rw [List.length_map, T.uniqL_length]
  simp
theorem mkB_map (u : List (List UInt8)) : (u.map mkB).map (fun x : ByteArray => x.data.toList) = u := by
  rw [List.map_map]
  conv => rhs; rw [← List.map_id u]
  exact List.map_congr_left fun x _ => by simp [mkB]
theorem uniqB_twice (l : List ByteArray) : uniqB (uniqB l) = uniqB l := by
  conv => lhs; unfold uniqB
  rw [show uniqB l = (T.uniq (l.map (fun x : ByteArray => x.data.toList))).map mkB from rfl, mkB_map, T.uniq_self (T.uniq_nodup _)]
theorem uniqB_snoc (l : List ByteArray) (s : ByteArray) : uniqB (l ++ [s]) = uniqB l ++ [mkB (T.freeS (T.uniq (l.map (fun x : ByteArray => x.data.toList))) s.data.toList)] := by
  unfold uniqB
  rw [List.map_append, List.map_cons, List.map_nil, T.uniq_snoc, List.map_append]
  rfl
theorem unique_f (l : List ByteArray) (hl : l.length ≤ 98) (hz : ∀ x ∈ l, x.size ≤ 1000) : slug_Unique.f l = some (uniqB l) := by
  unfold slug_Unique.f
  rw [if_pos ⟨hl, List.all_eq_true.2 fun x hx => decide_eq_true (by have := hz x hx; omega)⟩]
theorem rdOf_map (u : List (List UInt8)) (i : Nat) (h : i < u.length) : (rdOf ByteArray.empty (u.map mkB) (i : Int)).toList = u[i] := by
  unfold rdOf
  rw [Int.toNat_natCast, List.getD_eq_getElem?_getD, List.getElem?_map, List.getElem?_eq_getElem h, toList_data]
  simp [mkB]
end Go.Proofs.YtbgbmphjjdiaeaaDoor.Pure
/- A slice of strings that comes in is opened: a list of strings; and no length beyond its capacity. -/
namespace Go.Proofs.YtbgbmphjjdiaeaaDoor.P
open Go.ChangeShapes Go.WideShapes Go.Deep Go.RowKit Go.Proofs.YtbgbmphjjdiaeaaDoorW.PrintWords
set_option linter.unusedVariables false
theorem open_strs {H : Type} {enc : TypeId × Value → H} {W : World} {a : Option Addr} {len cap : Nat} {d : DataW H} {p : List MemPlace}
    (h : DataW.Trod enc Tryd.prog W 0 (fun _ => true) true 34 (.slice a len cap) d p) : ∃ l : List ByteArray, l.length = len ∧ len ≤ cap ∧ Kd.C Kd.string W a len l := by
  obtain ⟨fuel, hf⟩ := h
  rcases open_strings (e := 9) Tryd.underlying34 Tryd.underlying9 (by kernel_rfl) hf with ⟨hcs, _⟩ | ⟨ad, l, c, ss, hcs, _, hl, hm, hz, _, hcell, _⟩
  · simp [Value.cells] at hcs
    obtain ⟨rfl, rfl, rfl⟩ := hcs
    exact ⟨[], rfl, Nat.le_refl _, Kd.C_of_reads (d := ByteArray.empty) (by simp [ReadsOf])⟩
  · simp [Value.cells] at hcs
    obtain ⟨rfl, rfl, rfl⟩ := hcs
    rw [if_pos rfl] at hz
    refine ⟨ss.take len, by rw [List.length_take]; omega, hl, Kd.C_of_reads (d := ByteArray.empty) ?_⟩
    refine ⟨by rw [List.length_take]; omega, by have : maxLen = 9223372036854775807 := by decide
                                                omega, fun _ => ⟨ad, rfl, fun j hj => ?_⟩⟩
    rw [hcell j (by omega), List.getD_eq_getElem?_getD, List.getD_eq_getElem?_getD, List.getElem?_take, if_pos hj]
end Go.Proofs.YtbgbmphjjdiaeaaDoor.P
namespace Go.Proofs.YtbgbmphjjdiaeaaDoor.Pure
open Go.RowKit Go.Proofs.YtbgbmphjjdiaeaaDoor.P Go.Proofs.YtbgbmphjjdiaeaaDoorW.PrintWords Go.Proofs.YtbgbmphjjdiaeaaDoorW.PrintLast
set_option linter.unusedVariables false
theorem bt_byt (a : ByteArray) (i : Nat) (h : i < a.size) : bt a (i : Int) = ((a.data.toList[i]'(by simpa using h)).toNat : Int) := by
  unfold bt
  rw [dif_pos (by rw [Int.toNat_natCast]; exact h)]
  rfl
theorem slug_end (N : List UInt8) (hN : N.length ≤ 1000000) : (if (⟨N.toArray⟩ : ByteArray).toList = ([] : List UInt8) then (some (⟨#[115, 101, 99, 116, 105, 111, 110]⟩ : ByteArray)) else (if ((⟨N.toArray⟩ : ByteArray).size : Int) > 1 then (if 0 < ((⟨N.toArray⟩ : ByteArray).size : Int) then (if (bt (⟨N.toArray⟩ : ByteArray) 0) = 102 then (if 1 < ((⟨N.toArray⟩ : ByteArray).size : Int) then (if (bt (⟨N.toArray⟩ : ByteArray) 1) = 110 then (if 2 + (⟨N.toArray⟩ : ByteArray).size ≤ 9223372036854775807 then (some ((⟨#[115, 45]⟩ : ByteArray) ++ (⟨N.toArray⟩ : ByteArray))) else (none)) else (some (⟨N.toArray⟩ : ByteArray))) else (none)) else (some (⟨N.toArray⟩ : ByteArray))) else (none)) else (some (⟨N.toArray⟩ : ByteArray)))) = some ⟨(T.nameS N).toArray⟩ := by
  rw [toList_mk, mk_size]
  match N, hN with
  | [], _ => rfl
  | [c], _ =>
    rw [if_neg (by simp), if_neg (by simp), T.nameS_self (by simp) (by simp [Lib.hasPrefix, List.isPrefixOf])]
  | c :: d :: N, hN =>
    have b0 : bt (⟨(c :: d :: N).toArray⟩ : ByteArray) 0 = (c.toNat : Int) := bt_byt _ 0 (by rw [mk_size]; simp)
    have b1 : bt (⟨(c :: d :: N).toArray⟩ : ByteArray) 1 = (d.toNat : Int) := bt_byt _ 1 (by rw [mk_size]; simp)
    rw [b0, b1, if_neg (by simp), if_pos (by simp; omega), if_pos (by simp; omega)]
    by_cases hc : c = 102
    · rw [if_pos (by rw [hc]; rfl), if_pos (by simp; omega)]
      by_cases hd : d = 110
      · rw [if_pos (by rw [hd]; rfl), if_pos (by simp at hN ⊢; omega)]
        unfold T.nameS
        rw [if_neg (by simp), if_pos (by rw [hc, hd]; rfl)]
        exact congrArg some (mk_app2 [115, 45] _)
      · rw [if_neg (fun e => hd (by apply UInt8.toNat_inj.1; show d.toNat = 110; omega)), T.nameS_self (by simp) (by simp [Lib.hasPrefix, List.isPrefixOf]; intro _ h; exact hd h.symm)]
    · rw [if_neg (fun e => hc (by apply UInt8.toNat_inj.1; show c.toNat = 102; omega)), T.nameS_self (by simp) (by simp [Lib.hasPrefix, List.isPrefixOf]; intro h; exact absurd h.symm hc)]
theorem refSlug_loop (R : List Nat) (hR : ∀ r ∈ R, T.good r) (hl : R.length ≤ 100000) : ∀ (d i k : Nat) (acc : List UInt8), i + d = R.length → d + 30 < k → acc.length + 4 * d ≤ 1000000 →
    incipitref19_Slug.l0 k ⟨acc.toArray⟩ (ints R) (i : Int) = some ⟨(T.nameS (acc ++ T.encs (T.slugL (R.drop i)))).toArray⟩ := by
  intro d
  induction d with
  | zero =>
    intro i k acc hi hk ha
    obtain ⟨k, rfl⟩ : ∃ q, k = q + 1 := ⟨k - 1, by omega⟩
    rw [incipitref19_Slug.l0, if_neg (by rw [ints_len]; omega), List.drop_of_length_le (by omega), slug_end acc (by omega)]
    simp [T.slugL, T.encs]
  | succ d ih =>
    intro i k acc hi hk ha
    obtain ⟨k, rfl⟩ : ∃ q, k = q + 1 := ⟨k - 1, by omega⟩
    have hlt : i < R.length := by omega
    have hg : R.getD i 0 = R[i] := by rw [List.getD_eq_getElem?_getD, List.getElem?_eq_getElem hlt]; rfl
    have hw : wrap64 ((i : Int) + 1) = ((i + 1 : Nat) : Int) := by unfold wrap64; omega
    have hgood := hR R[i] (List.getElem_mem hlt)
    have h4 := (T.enc_pos R[i]).2
    have he : Utf8.encode ((R[i] : Nat) : Int) = ⟨(T.enc R[i]).toArray⟩ := encode_enc R[i] hgood.1
    have hen : (⟨(T.enc R[i]).toArray⟩ : ByteArray).size = (T.enc R[i]).length := mk_size _
    have hac : (⟨acc.toArray⟩ : ByteArray).size = acc.length := mk_size _
    have hd : T.slugL (R.drop i) = T.slugR R[i] ++ T.slugL (R.drop (i + 1)) := by rw [List.drop_eq_getElem_cons hlt, T.slugL_cons]
    have hskip : ∀ x : List UInt8, T.encs (T.slugR R[i]) = x → x.length ≤ 4 → incipitref19_Slug.l0 k ⟨(acc ++ x).toArray⟩ (ints R) ((i + 1 : Nat) : Int) = some ⟨(T.nameS (acc ++ T.encs (T.slugL (R.drop i)))).toArray⟩ := by
      intro x hx hxl
      rw [ih (i + 1) k _ (by omega) (by omega) (by rw [List.length_append]; omega), hd, T.encs_append, hx, List.append_assoc]
    have hself : T.slugR R[i] = [R[i]] → incipitref19_Slug.l0 k ⟨(acc ++ T.enc R[i]).toArray⟩ (ints R) ((i + 1 : Nat) : Int) = some ⟨(T.nameS (acc ++ T.encs (T.slugL (R.drop i)))).toArray⟩ := fun h => hskip _ (by rw [h, encs_one]) h4
    have hnone : T.slugR R[i] = [] → incipitref19_Slug.l0 k ⟨acc.toArray⟩ (ints R) ((i + 1 : Nat) : Int) = some ⟨(T.nameS (acc ++ T.encs (T.slugL (R.drop i)))).toArray⟩ := fun h => by
      have := hskip [] (by rw [h]; rfl) (by simp)
      rwa [List.append_nil] at this
    rw [incipitref19_Slug.l0, ints_rd, hg, hw]
    clear hw
    rw [if_pos (by rw [ints_len]; omega), if_pos (by omega), refSpace_f _ k (by omega), Option.bind_some, he]
    by_cases h1 : inSpans spaceSpans ((R[i] : Nat) : Int) = true
    · rw [if_pos h1, if_pos (by rw [hac]; omega)]
      have := hskip [45] (by rw [show T.slugR R[i] = [45] from by unfold T.slugR; rw [if_pos h1], encs_one, T.enc_one (by omega)]; rfl) (by simp)
      rw [← this]
      congr 1
    · rw [if_neg h1]
      by_cases h2 : R[i] = 45
      · rw [if_pos (by omega), if_pos (by rw [hac, hen]; omega), mk_app2]
        exact hself (by unfold T.slugR; rw [if_neg h1, if_pos (.inl h2)])
      · rw [if_neg (by omega)]
        by_cases h3 : R[i] = 95
        · rw [if_pos (by omega), if_pos (by rw [hac, hen]; omega), mk_app2]
          exact hself (by unfold T.slugR; rw [if_neg h1, if_pos (.inr h3)])
        · rw [if_neg (by omega), refPunct_f _ k (by omega), Option.bind_some]
          by_cases h5 : inSpans punctSpans ((R[i] : Nat) : Int) = true
          · rw [if_pos h5]
            exact hnone (by unfold T.slugR; rw [if_neg h1, if_neg (by omega), if_pos h5])
          · rw [if_neg h5]
            by_cases h6 : 32 ≤ R[i]
            · rw [if_pos (by omega)]
              by_cases h7 : R[i] = 127
              · rw [if_pos (by omega)]
                exact hnone (by unfold T.slugR; rw [if_neg h1, if_neg (by omega), if_neg h5, if_neg (by omega)])
              · rw [if_neg (by omega), if_pos (by rw [hac, hen]; omega), mk_app2]
                exact hself (by unfold T.slugR; rw [if_neg h1, if_neg (by omega), if_neg h5, if_pos ⟨h6, h7⟩])
            · rw [if_neg (by omega)]
              exact hnone (by unfold T.slugR; rw [if_neg h1, if_neg (by omega), if_neg h5, if_neg (by omega)])
theorem refSlug_f (a : ByteArray) (hs : a.size ≤ 1000) (k : Nat) (hk : 80000 < k) : incipitref19_Slug.f k a = some ⟨(T.slugS a.data.toList).toArray⟩ := by
  have hl := data_len a
  have ha : a = ⟨a.data.toList.toArray⟩ := by simp
  have h2 := foldS_len a.data.toList
  have h3 := T.runes_len a.data.toList
  have h4 := foldL_len2 (T.runes a.data.toList)
  have hf : incipitref03_Fold.f k a = some ⟨(T.foldS a.data.toList).toArray⟩ := by
    have := refFold_f a.data.toList (by omega) k (by omega)
    rw [← ha] at this
    exact this
  have hr : incipitref01_Runes.f ⟨(T.foldS a.data.toList).toArray⟩ = some (ints (T.foldL (T.runes a.data.toList))) := by
    unfold incipitref01_Runes.f
    rw [if_pos (by rw [mk_size]; omega), mk_data, T.runes_foldS]
  unfold incipitref19_Slug.f
  rw [hf, Option.bind_some, hr, Option.bind_some]
  have := refSlug_loop (T.foldL (T.runes a.data.toList)) (T.foldL_good (T.runes_ok _)) (by omega) (T.foldL (T.runes a.data.toList)).length 0 k [] (by omega) (by omega) (by simp; omega)
  rw [List.nil_append, List.drop_zero] at this
  exact this
/-! the reference's names -/
theorem has_loop (O : List (List UInt8)) (s : List UInt8) (hl : O.length ≤ 100000) : ∀ (d i k : Nat), i + d = O.length → d < k → incipitref19_has.l0 k (O.map mkB) (mkB s) (i : Int) = some (decide (s ∈ O.drop i)) := by
  intro d
  induction d with
  | zero =>
    intro i k hi hk
    obtain ⟨k, rfl⟩ : ∃ q, k = q + 1 := ⟨k - 1, by omega⟩
    rw [incipitref19_has.l0, if_neg (by rw [List.length_map]; omega), List.drop_of_length_le (by omega)]
    simp
  | succ d ih =>
    intro i k hi hk
    obtain ⟨k, rfl⟩ : ∃ q, k = q + 1 := ⟨k - 1, by omega⟩
    have hlt : i < O.length := by omega
    have hw : wrap64 ((i : Int) + 1) = ((i + 1 : Nat) : Int) := by unfold wrap64; omega
    rw [incipitref19_has.l0, hw, rdOf_map O i hlt]
    clear hw
    rw [if_pos (by rw [List.length_map]; omega), if_pos (by omega), show (mkB s).toList = s from toList_mk s, List.drop_eq_getElem_cons hlt]
    by_cases h : O[i] = s
    · rw [if_pos h]
      simp [h]
    · rw [if_neg h, ih (i + 1) k (by omega) (by omega)]
      refine congrArg some (decide_eq_decide.2 ?_)
      rw [List.mem_cons]
      exact ⟨.inr, fun hm => hm.resolve_left fun e => h e.symm⟩
theorem has_f (O : List (List UInt8)) (s : List UInt8) (hl : O.length ≤ 100000) (k : Nat) (hk : O.length < k) : incipitref19_has.f k (O.map mkB) (mkB s) = some (decide (s ∈ O)) := has_loop O s hl O.length 0 k (by omega) hk
theorem digit_one (n : Nat) (h : n < 10) : (⟨#[48, 49, 50, 51, 52, 53, 54, 55, 56, 57]⟩ : ByteArray).extract n (n + 1) = ⟨(Lib.decDigits n).toArray⟩ := by
  rw [Lib.decDigits_one h]
  have : n = 0 ∨ n = 1 ∨ n = 2 ∨ n = 3 ∨ n = 4 ∨ n = 5 ∨ n = 6 ∨ n = 7 ∨ n = 8 ∨ n = 9 := by omega
  rcases this with e | e | e | e | e | e | e | e | e | e <;> subst e <;> rfl
theorem digits_one (n : Nat) (h : n < 10) (k : Nat) (hk : 0 < k) : incipitref19_digits.f k (n : Int) = some ⟨(Lib.decDigits n).toArray⟩ := by
  obtain ⟨k, rfl⟩ : ∃ q, k = q + 1 := ⟨k - 1, by omega⟩
  have hw : wrap64 ((n : Int) + 1) = ((n + 1 : Nat) : Int) := by unfold wrap64; omega
  rw [incipitref19_digits.f, hw]
  clear hw
  rw [if_pos (by omega), if_pos (by omega), if_pos (by omega), if_pos (by omega), Int.toNat_natCast, Int.toNat_natCast, digit_one n h]
theorem digits_f (n : Nat) (h : n < 100) (k : Nat) (hk : 1 < k) : incipitref19_digits.f k (n : Int) = some ⟨(Lib.decDigits n).toArray⟩ := by
  by_cases h1 : n < 10
  · exact digits_one n h1 k (by omega)
  · obtain ⟨k, rfl⟩ : ∃ q, k = q + 1 := ⟨k - 1, by omega⟩
    have hw : wrap64 (Int.tdiv (n : Int) 10) = ((n / 10 : Nat) : Int) := by
      rw [show Int.tdiv (n : Int) 10 = ((n / 10 : Nat) : Int) from rfl]
      unfold wrap64
      omega
    have hm : Int.tmod (n : Int) 10 = ((n % 10 : Nat) : Int) := rfl
    have d1 := Lib.decDigits_one (i := n / 10) (by omega)
    have d2 := Lib.decDigits_one (i := n % 10) (by omega)
    rw [incipitref19_digits.f, hw, hm]
    clear hw hm
    rw [if_neg (by omega), digits_one (n / 10) (by omega) k (by omega), Option.bind_some, digits_one (n % 10) (by omega) k (by omega), Option.bind_some, d1, d2, if_pos (by rw [mk_size, mk_size]; simp), mk_app2, Lib.decDigits_two h1 h]
    rfl
theorem wstep (i : Nat) (h : i ≤ 1000000) : wrap64 ((i : Int) + 1) = ((i + 1 : Nat) : Int) := by unfold wrap64; omega
theorem wstep2 (j : Nat) (h : j ≤ 1000000) : wrap64 ((j : Int) + 1 + 1) = ((j + 1 : Nat) : Int) + 1 := by unfold wrap64; omega
theorem cat_size (s : ByteArray) (n : Nat) (hs : s.size ≤ 300) (hn : n < 100) : s.size + 1 ≤ 9223372036854775807 ∧ (s ++ (⟨#[45]⟩ : ByteArray)).size + (⟨(Lib.decDigits n).toArray⟩ : ByteArray).size ≤ 9223372036854775807 := by
  have h5 := dec_len2 n hn
  rw [ByteArray.size_append, mk_size (Lib.decDigits n)]
  have : (⟨#[45]⟩ : ByteArray).size = 1 := rfl
  omega
theorem refU_in (l0 : List ByteArray) (i : Nat) (hlt : i < l0.length) (hi : i ≤ 60) (O : List (List UInt8)) (hO : O.length ≤ 60) (s : ByteArray) (hs : s = rdOf ByteArray.empty l0 (i : Int)) (hsz : s.size ≤ 300) (N D : Nat) (hN : N ≤ 60) (f2 : ∀ m, m < N → T.tryN s.data.toList m ∈ O) (f3 : T.tryN s.data.toList N ∉ O) (Z : Option (List ByteArray))
    (hstep : ∀ k, D < k → incipitref19_Unique.l0 k l0 (O.map mkB ++ [mkB (T.tryN s.data.toList N)]) ((i + 1 : Nat) : Int) = Z) (hD : 100 ≤ D) : ∀ (e j k : Nat), j + e = N → D + 1 + e < k → incipitref19_Unique.l1 k l0 (O.map mkB) (i : Int) (mkB (T.tryN s.data.toList j)) ((j : Int) + 1) = Z := by
  intro e
  induction e with
  | zero =>
    intro j k hj hk
    obtain ⟨k, rfl⟩ : ∃ q, k = q + 1 := ⟨k - 1, by omega⟩
    have hjn : j = N := by omega
    subst hjn
    have g1 := has_f O (T.tryN s.data.toList j) (by omega) k (by omega)
    rw [decide_eq_false f3] at g1
    have g2 := hstep k (by omega)
    have g3 : (O.map mkB).length < 8796093022208 := by rw [List.length_map]; omega
    rw [incipitref19_Unique.l1, g1, Option.bind_some, if_neg (by decide), if_pos g3, wstep i (by omega)]
    exact g2
  | succ e ihe =>
    intro j k hj hk
    obtain ⟨k, rfl⟩ : ∃ q, k = q + 1 := ⟨k - 1, by omega⟩
    have g1 := has_f O (T.tryN s.data.toList j) (by omega) k (by omega)
    rw [decide_eq_true (f2 j (by omega))] at g1
    have g2 := digits_f (j + 1) (by omega) k (by omega)
    have g3 := cat_size s (j + 1) hsz (by omega)
    have h7 := ihe (j + 1) k (by omega) (by omega)
    have p0 : (0 : Int) ≤ (i : Int) := by omega
    have p1 : (i : Int) < (l0.length : Int) := by omega
    rw [incipitref19_Unique.l1, g1, Option.bind_some, if_pos rfl, if_pos p0, if_pos p1, ← hs, if_pos g3.1, wstep2 j (by omega), show ((j : Int) + 1) = ((j + 1 : Nat) : Int) from rfl, g2, Option.bind_some, if_pos g3.2, tryN_succ]
    exact h7
theorem refU (l0 : List ByteArray) (hl : l0.length ≤ 60) (hz : ∀ x ∈ l0, x.size ≤ 300) : ∀ (d i k : Nat) (O : List (List UInt8)), i + d = l0.length → 100 * d + 100 < k → O.length = i →
    incipitref19_Unique.l0 k l0 (O.map mkB) (i : Int) = some ((T.uniqL O ((l0.map (fun x : ByteArray => x.data.toList)).drop i)).map mkB) := by
  intro d
  induction d with
  | zero =>
    intro i k O hi hk hO
    obtain ⟨k, rfl⟩ : ∃ q, k = q + 1 := ⟨k - 1, by omega⟩
    rw [incipitref19_Unique.l0, if_neg (by omega), List.drop_of_length_le (by rw [List.length_map]; omega)]
    rfl
  | succ d ih =>
    intro i k O hi hk hO
    obtain ⟨k, rfl⟩ : ∃ q, k = q + 1 := ⟨k - 1, by omega⟩
    have hlt : i < l0.length := by omega
    obtain ⟨s, hs⟩ : ∃ s, s = rdOf ByteArray.empty l0 (i : Int) := ⟨_, rfl⟩
    have hsz : s.size ≤ 300 := by rw [hs]; exact hz _ (rdOf_mem l0 i hlt)
    have hdr : (l0.map (fun x : ByteArray => x.data.toList)).drop i = s.data.toList :: (l0.map (fun x : ByteArray => x.data.toList)).drop (i + 1) := by
      rw [List.drop_eq_getElem_cons (by rw [List.length_map]; omega), List.getElem_map, hs]
      congr 3
      unfold rdOf
      simp [List.getD_eq_getElem?_getD, List.getElem?_eq_getElem hlt]
    obtain ⟨f1, f2, f3⟩ := T.freeN_spec O s.data.toList
    have hfs : T.freeS O s.data.toList = T.tryN s.data.toList (T.freeN O s.data.toList) := rfl
    rw [hdr, T.uniqL, hfs]
    generalize T.freeN O s.data.toList = N at f1 f2 f3
    clear hfs hdr
    have hstep : ∀ k, 100 * d + 100 < k → incipitref19_Unique.l0 k l0 (O.map mkB ++ [mkB (T.tryN s.data.toList N)]) ((i + 1 : Nat) : Int) = some ((T.uniqL (O ++ [T.tryN s.data.toList N]) ((l0.map (fun x : ByteArray => x.data.toList)).drop (i + 1))).map mkB) := fun k hk => by
      have := ih (i + 1) k (O ++ [T.tryN s.data.toList N]) (by omega) hk (by rw [List.length_append, hO]; rfl)
      rwa [List.map_append] at this
    have := refU_in l0 i hlt (by omega) O (by omega) s hs hsz N (100 * d + 100) (by omega) f2 f3 _ hstep (by omega) N 0 k (by omega) (by omega)
    rw [tryN_zero, mkB_data] at this
    rw [incipitref19_Unique.l0, if_pos (by omega), if_pos (by omega), ← hs]
    exact this
theorem SlugNames (a0 : ByteArray) (l1 : List ByteArray) : ∃ k, incipitlaw19_SlugNames.f k a0 l1 = some true := by
  refine ⟨100000, ?_⟩
  unfold incipitlaw19_SlugNames.f
  rw [awake19 _ (by omega), Option.bind_some]
  by_cases h : (a0.size : Int) > 1000
  · rw [if_pos h, incipitlaw19_SlugNames.j0, if_pos rfl]
  · rw [if_neg h]
    obtain ⟨b, hb, hbt⟩ := few_f l1 100000 (by omega)
    rw [hb, Option.bind_some, incipitlaw19_SlugNames.j0]
    cases b with
    | false => exact if_pos rfl
    | true =>
      obtain ⟨hl, hz⟩ := hbt rfl
      have hu : incipitref19_Unique.f 99999 l1 = some (uniqB l1) := by
        unfold incipitref19_Unique.f
        have := refU l1 hl hz l1.length 0 99999 [] (by omega) (by omega) rfl
        rw [List.drop_zero] at this
        exact this
      rw [if_neg (by decide), if_pos rfl, slug_f a0 (by omega), Option.bind_some, refSlug_f a0 (by omega) _ (by omega), Option.bind_some, if_pos rfl, unique_f l1 (by omega) (fun x hx => by have := hz x hx; omega), Option.bind_some, hu, Option.bind_some, same_self _ (by rw [uniqB_length]; omega) _ (by rw [uniqB_length]; omega), Option.bind_some]
end Go.Proofs.YtbgbmphjjdiaeaaDoor.Pure
