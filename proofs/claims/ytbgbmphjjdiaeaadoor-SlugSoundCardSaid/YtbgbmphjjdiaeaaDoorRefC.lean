/- The reference of law03 (and of law19): its plain laws. -/
import Derived.Test.YtbgbmphjjdiaeaaDoorPk3
import Derived.Test.YtbgbmphjjdiaeaaDoorPk3
import Derived.Test.YtbgbmphjjdiaeaaDoorPk3
import Derived.Test.YtbgbmphjjdiaeaaDoorSpace
import Derived.Test.YtbgbmphjjdiaeaaDoorPk9
import Derived.Test.YtbgbmphjjdiaeaaDoorPk10
import Derived.Test.YtbgbmphjjdiaeaaDoorForms
import Derived.Test.YtbgbmphjjdiaeaaDoorClassP
/- The reference's kinds of characters. -/
namespace Go.Proofs.YtbgbmphjjdiaeaaDoor.P
open Go.RowKit Go.Proofs.YtbgbmphjjdiaeaaDoorW.PrintWords Go.Proofs.YtbgbmphjjdiaeaaDoorW.PrintLast Go.Proofs.YtbgbmphjjdiaeaaDoorW.PrintMore
set_option linter.unusedVariables false
set_option linter.unusedSimpArgs false
def flat : List (Int × Int) → List Int
  | [] => []
  | p :: r => p.1 :: p.2 :: flat r
theorem flat_len (l : List (Int × Int)) : (flat l).length = 2 * l.length := by
  induction l with
  | nil => rfl
  | cons p r ih => rw [flat, List.length_cons, List.length_cons, List.length_cons, ih]; omega
theorem flat_at (l : List (Int × Int)) : ∀ i : Nat, (flat l).getD (2 * i) 0 = (l.getD i (0, 0)).1 ∧ (flat l).getD (2 * i + 1) 0 = (l.getD i (0, 0)).2 := by
  induction l with
  | nil => intro i; exact ⟨rfl, rfl⟩
  | cons p r ih =>
    intro i
    cases i with
    | zero => exact ⟨rfl, rfl⟩
    | succ i =>
      have := ih i
      rw [show 2 * (i + 1) = 2 * i + 1 + 1 by omega, flat]
      exact this
theorem among_loop (l : List (Int × Int)) (x : Int) (hl : l.length ≤ 1000) : ∀ (d i k : Nat), i + d = l.length → d < k → incipitref03_among.l0 k x (flat l) ((2 * i : Nat) : Int) = some (inSpans (l.drop i) x) := by
  intro d
  induction d with
  | zero =>
    intro i k hi hk
    obtain ⟨k, rfl⟩ : ∃ q, k = q + 1 := ⟨k - 1, by omega⟩
    rw [incipitref03_among.l0, if_neg (by rw [flat_len]; unfold wrap64; omega), List.drop_of_length_le (by omega)]
    rfl
  | succ d ih =>
    intro i k hi hk
    obtain ⟨k, rfl⟩ : ∃ q, k = q + 1 := ⟨k - 1, by omega⟩
    have hlt : i < l.length := by omega
    obtain ⟨f1, f2⟩ := flat_at l i
    have hd : l.drop i = l.getD i (0, 0) :: l.drop (i + 1) := by
      rw [List.drop_eq_getElem_cons hlt, List.getD_eq_getElem?_getD, List.getElem?_eq_getElem hlt]; rfl
    have hin : inSpans (l.drop i) x = (decide ((l.getD i (0, 0)).1 ≤ x) && decide (x ≤ (l.getD i (0, 0)).2) || inSpans (l.drop (i + 1)) x) := by rw [hd]; rfl
    have w1 : wrap64 (((2 * i : Nat) : Int) + 1) = ((2 * i + 1 : Nat) : Int) := by unfold wrap64; omega
    have w2 : wrap64 (((2 * i : Nat) : Int) + 2) = ((2 * (i + 1) : Nat) : Int) := by unfold wrap64; omega
    have r1 : rd (flat l) ((2 * i : Nat) : Int) = (l.getD i (0, 0)).1 := by unfold rd; rw [Int.toNat_natCast]; exact f1
    have r2 : rd (flat l) ((2 * i + 1 : Nat) : Int) = (l.getD i (0, 0)).2 := by unfold rd; rw [Int.toNat_natCast]; exact f2
    have hi2 := ih (i + 1) k (by omega) (by omega)
    rw [incipitref03_among.l0, w1, w2, r1, r2, hi2, hin]
    have hfl := flat_len l
    clear w1 w2 r1 r2 hi2 hin f1 f2
    rw [if_pos (by omega), if_pos (by omega), if_pos (by omega)]
    by_cases c1 : (l.getD i (0, 0)).1 ≤ x
    · rw [if_pos c1, if_pos (by omega), decide_eq_true c1]
      by_cases c2 : x ≤ (l.getD i (0, 0)).2
      · rw [if_pos c2, decide_eq_true c2]; rfl
      · rw [if_neg c2, decide_eq_false c2]; rfl
    · rw [if_neg c1, decide_eq_false c1]; rfl
theorem among_f (l : List (Int × Int)) (x : Int) (hl : l.length ≤ 1000) (k : Nat) (hk : l.length < k) : incipitref03_among.f k x (flat l) = some (inSpans l x) :=
  among_loop l x hl l.length 0 k (by omega) hk
theorem refSpace_f (x : Int) (k : Nat) (hk : 10 ≤ k) : incipitref03_Space.f k x = some (inSpans spaceSpans x) := by
  unfold incipitref03_Space.f
  have := among_f spaceSpans x (by decide) k (by show 9 < k; omega)
  rw [show ([9, 10, 12, 13, 32, 32, 160, 160, 5760, 5760, 8192, 8202, 8239, 8239, 8287, 8287, 12288, 12288] : List Int) = flat spaceSpans from rfl, this]
  rfl
theorem refPunct_f (x : Int) (k : Nat) (hk : 20 ≤ k) : incipitref03_Punct.f k x = some (inSpans punctSpans x) := by
  unfold incipitref03_Punct.f
  have := among_f punctSpans x (by decide) k (by show 19 < k; omega)
  rw [show ([33, 47, 58, 64, 91, 96, 123, 126, 161, 169, 171, 172, 174, 177, 180, 180, 182, 184, 187, 187, 191, 191, 215, 215, 247, 247, 8208, 8231, 8240, 8286, 8352, 8384, 12289, 12291, 12296, 12319, 65281, 65295] : List Int) = flat punctSpans from rfl, this]
  rfl
theorem space_punct (x : Int) (h : inSpans spaceSpans x = true) : inSpans punctSpans x = false := by
  cases hp : inSpans punctSpans x with
  | false => rfl
  | true =>
    simp [inSpans, spaceSpans] at h
    simp [inSpans, punctSpans] at hp
    omega
end Go.Proofs.YtbgbmphjjdiaeaaDoor.P
/- The reference's texts without capitals, and labels. -/
namespace Go.Proofs.YtbgbmphjjdiaeaaDoor.P
open Go.RowKit Go.Proofs.YtbgbmphjjdiaeaaDoorW.PrintWords Go.Proofs.YtbgbmphjjdiaeaaDoorW.PrintLast Go.Proofs.YtbgbmphjjdiaeaaDoorW.PrintMore
set_option linter.unusedVariables false
set_option linter.unusedSimpArgs false
theorem encode_enc (r : Nat) (h : T.okR r) : Utf8.encode (r : Int) = ⟨(T.enc r).toArray⟩ := by
  have hv : Utf8.valid (r : Int) = true := by
    unfold Utf8.valid
    unfold T.okR at h
    simp
    omega
  unfold Utf8.encode
  rw [hv]
  simp only [if_true, Int.toNat_natCast]
  rcases T.enc_cases h with h1 | ⟨h1, h2⟩ | h1 | ⟨h1, h2⟩
  · rw [if_pos h1, T.enc_one h1]
  · rw [if_neg (by omega), if_pos (by omega), T.enc_two h1 h2]
  · rw [if_neg (by omega), if_neg (by omega), if_pos (by omega), T.enc_three h1]
  · rw [if_neg (by omega), if_neg (by omega), if_neg (by omega), T.enc_four h1 h2]
def capSpans : List (Int × Int) := [(65, 90), (192, 214), (216, 222), (913, 929), (931, 939), (1040, 1071)]
theorem caps_iff (r : Nat) : (inSpans capSpans (r : Int) = true) = ((65 ≤ r ∧ r ≤ 90) ∨ (192 ≤ r ∧ r ≤ 222 ∧ r ≠ 215) ∨ (913 ≤ r ∧ r ≤ 939 ∧ r ≠ 930) ∨ (1040 ≤ r ∧ r ≤ 1071)) := by
  simp only [inSpans, capSpans, List.any_cons, List.any_nil, Bool.or_false, Bool.or_eq_true, Bool.and_eq_true, decide_eq_true_eq]
  apply propext
  omega
theorem caps2_iff (r : Nat) : (inSpans [(1024, 1039)] (r : Int) = true) = (1024 ≤ r ∧ r ≤ 1039) := by
  simp only [inSpans, List.any_cons, List.any_nil, Bool.or_false, Bool.and_eq_true, decide_eq_true_eq]
  apply propext
  omega
theorem encs_one (r : Nat) : T.encs [r] = T.enc r := by simp [T.encs]
theorem refFold1_f (r : Nat) (h : T.good r) (k : Nat) (hk : 8 ≤ k) : incipitref03_fold.f k (r : Int) = some ⟨(T.encs (T.foldR r)).toArray⟩ := by
  obtain ⟨k, rfl⟩ : ∃ q, k = q + 1 := ⟨k - 1, by omega⟩
  have a1 : incipitref03_among.f k (r : Int) ([65, 90, 192, 214, 216, 222, 913, 929, 931, 939, 1040, 1071] : List Int) = some (inSpans capSpans (r : Int)) := among_f capSpans (r : Int) (by decide) k (by show 6 < k; omega)
  have a2 : incipitref03_among.f k (r : Int) ([1024, 1039] : List Int) = some (inSpans [(1024, 1039)] (r : Int)) := among_f [(1024, 1039)] (r : Int) (by decide) k (by show 1 < k; omega)
  have hb := h.1
  unfold T.okR at hb
  have ss : (⟨#[115, 115]⟩ : ByteArray) = ⟨(T.encs [115, 115]).toArray⟩ := by
    rw [T.encs_cons, encs_one, T.enc_one (by omega)]; rfl
  unfold incipitref03_fold.f T.foldR
  by_cases c0 : r = 223
  · rw [if_pos (by omega), if_pos (.inl c0), incipitref03_fold.j0, if_pos rfl, ss]
  · rw [if_neg (by omega), incipitref03_fold.j0]
    by_cases c1 : r = 7838
    · rw [if_pos (show ((r : Int) == 7838) = true from by rw [beq_iff_eq]; omega), if_pos (show r = 223 ∨ r = 7838 from .inr c1), ss]
    · rw [if_neg (show ¬ (r = 223 ∨ r = 7838) by omega), if_neg (by rw [beq_iff_eq]; omega), a1, Option.bind_some, a2]
      by_cases c3 : (65 ≤ r ∧ r ≤ 90) ∨ (192 ≤ r ∧ r ≤ 222 ∧ r ≠ 215) ∨ (913 ≤ r ∧ r ≤ 939 ∧ r ≠ 930) ∨ (1040 ≤ r ∧ r ≤ 1071)
      · rw [if_pos (by rw [caps_iff]; exact c3), if_neg (show ¬ r = 962 by omega), if_pos c3, encs_one, ← encode_enc (r + 32) (by unfold T.okR; omega)]
        congr 2
        unfold wrap32
        omega
      · rw [if_neg (by rw [caps_iff]; exact c3), Option.bind_some]
        by_cases c4 : 1024 ≤ r ∧ r ≤ 1039
        · rw [if_pos (by rw [caps2_iff]; exact c4), if_neg (show ¬ r = 962 by omega), if_neg c3, if_pos c4, encs_one, ← encode_enc (r + 80) (by unfold T.okR; omega)]
          congr 2
          unfold wrap32
          omega
        · rw [if_neg (by rw [caps2_iff]; exact c4)]
          by_cases c5 : r = 962
          · rw [if_pos (by omega), if_pos c5, encs_one, T.enc_two (by omega) (by omega)]
            rfl
          · rw [if_neg (by omega), if_neg c5, if_neg c3, if_neg c4, encs_one, encode_enc r h.1]
theorem ints_rd (R : List Nat) (i : Nat) : rd (ints R) (i : Int) = ((R.getD i 0 : Nat) : Int) := by
  unfold rd ints
  rw [Int.toNat_natCast, List.getD_eq_getElem?_getD, List.getElem?_map, List.getD_eq_getElem?_getD]
  cases R[i]? <;> rfl
theorem ints_len (R : List Nat) : (ints R).length = R.length := by simp [ints]
theorem mk_app2 (x y : List UInt8) : ((⟨x.toArray⟩ : ByteArray) ++ (⟨y.toArray⟩ : ByteArray)) = ⟨(x ++ y).toArray⟩ := by
  apply ByteArray.ext
  simp
theorem refFold_loop (R : List Nat) (hR : ∀ r ∈ R, T.good r) (hl : R.length ≤ 4294967296) : ∀ (d i k : Nat) (acc : List UInt8), i + d = R.length → d + 8 < k → acc.length + 8 * d ≤ 140737488355328 → incipitref03_Fold.l0 k ⟨acc.toArray⟩ (ints R) (i : Int) = some ⟨(acc ++ T.encs (T.foldL (R.drop i))).toArray⟩ := by
  intro d
  induction d with
  | zero =>
    intro i k acc hi hk _
    obtain ⟨k, rfl⟩ : ∃ q, k = q + 1 := ⟨k - 1, by omega⟩
    rw [incipitref03_Fold.l0, if_neg (by rw [ints_len]; omega), List.drop_of_length_le (by omega)]
    simp [T.foldL, T.encs]
  | succ d ih =>
    intro i k acc hi hk ha
    obtain ⟨k, rfl⟩ : ∃ q, k = q + 1 := ⟨k - 1, by omega⟩
    have hlt : i < R.length := by omega
    have hg : R.getD i 0 = R[i] := by rw [List.getD_eq_getElem?_getD, List.getElem?_eq_getElem hlt]; rfl
    have hw : wrap64 ((i : Int) + 1) = ((i + 1 : Nat) : Int) := by unfold wrap64; omega
    have h8 : (T.encs (T.foldR R[i])).length ≤ 8 := by have := encs_foldL_len [R[i]]; simpa [T.foldL] using this
    rw [incipitref03_Fold.l0, ints_rd, hg, hw]
    clear hw
    rw [if_pos (by rw [ints_len]; omega), if_pos (by omega), refFold1_f R[i] (hR _ (List.getElem_mem hlt)) k (by omega), Option.bind_some, if_pos (by rw [mk_size, mk_size]; omega), mk_app2, ih (i + 1) k _ (by omega) (by omega) (by rw [List.length_append]; omega), List.drop_eq_getElem_cons hlt, T.foldL_cons, T.encs_append, List.append_assoc]
theorem refFold_f (l : List UInt8) (hl : l.length ≤ 1073741824) (k : Nat) (hk : 3 * l.length + 8 < k) : incipitref03_Fold.f k ⟨l.toArray⟩ = some ⟨(T.foldS l).toArray⟩ := by
  have hr := T.runes_len l
  unfold incipitref03_Fold.f incipitref01_Runes.f
  rw [if_pos (by rw [mk_size]; exact hl), Option.bind_some, mk_data]
  have := refFold_loop (T.runes l) (T.runes_ok l) (by omega) (T.runes l).length 0 k [] (by omega) (by omega) (by simp; omega)
  rw [List.nil_append, List.drop_zero] at this
  exact this
end Go.Proofs.YtbgbmphjjdiaeaaDoor.P
