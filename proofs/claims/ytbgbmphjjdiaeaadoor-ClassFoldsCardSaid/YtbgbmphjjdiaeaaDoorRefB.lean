/- The reference's kinds of characters. -/
import Derived.Test.YtbgbmphjjdiaeaaDoorPk3
import Derived.Test.YtbgbmphjjdiaeaaDoorPk3
import Derived.Test.YtbgbmphjjdiaeaaDoorPk3
import Derived.Test.YtbgbmphjjdiaeaaDoorSpace
namespace Go.Proofs.YtbgbmphjjdiaeaaDoor.P
open Go.RowKit Go.Proofs.YtbgbmphjjdiaeaaDoorW.PrintWords Go.Proofs.YtbgbmphjjdiaeaaDoorW.PrintLast Go.Proofs.YtbgbmphjjdiaeaaDoorW.PrintMore
set_option linter.unusedVariables false
set_option linter.unusedSimpArgs false
def flat : List (Int × Int) → List Int
  | [] => []
  | p :: r => p.1 :: p.2 :: flat r
theorem flat_len (l : List (Int × Int)) : (flat l).length = 2 * l.length := by
  induction l with
  | nil => rfl
  | cons p r ih => rw [flat, List.length_cons, List.length_cons, List.length_cons, ih]; omega
theorem flat_at (l : List (Int × Int)) : ∀ i : Nat, (flat l).getD (2 * i) 0 = (l.getD i (0, 0)).1 ∧ (flat l).getD (2 * i + 1) 0 = (l.getD i (0, 0)).2 := by
  induction l with
  | nil => intro i; exact ⟨rfl, rfl⟩
  | cons p r ih =>
    intro i
    cases i with
    | zero => exact ⟨rfl, rfl⟩
    | succ i =>
      have := ih i
      rw [show 2 * (i + 1) = 2 * i + 1 + 1 by omega, flat]
      exact this
theorem among_loop (l : List (Int × Int)) (x : Int) (hl : l.length ≤ 1000) : ∀ (d i k : Nat), i + d = l.length → d < k → incipitref03_among.l0 k x (flat l) ((2 * i : Nat) : Int) = some (inSpans (l.drop i) x) := by
  intro d
  induction d with
  | zero =>
    intro i k hi hk
    obtain ⟨k, rfl⟩ : ∃ q, k = q + 1 := ⟨k - 1, by omega⟩
    rw [incipitref03_among.l0, if_neg (by rw [flat_len]; unfold wrap64; omega), List.drop_of_length_le (by omega)]
    rfl
  | succ d ih =>
    intro i k hi hk
    obtain ⟨k, rfl⟩ : ∃ q, k = q + 1 := ⟨k - 1, by omega⟩
    have hlt : i < l.length := by omega
    obtain ⟨f1, f2⟩ := flat_at l i
    have hd : l.drop i = l.getD i (0, 0) :: l.drop (i + 1) := by
      rw [List.drop_eq_getElem_cons hlt, List.getD_eq_getElem?_getD, List.getElem?_eq_getElem hlt]; rfl
    have hin : inSpans (l.drop i) x = (decide ((l.getD i (0, 0)).1 ≤ x) && decide (x ≤ (l.getD i (0, 0)).2) || inSpans (l.drop (i + 1)) x) := by rw [hd]; rfl
    have w1 : wrap64 (((2 * i : Nat) : Int) + 1) = ((2 * i + 1 : Nat) : Int) := by unfold wrap64; omega
    have w2 : wrap64 (((2 * i : Nat) : Int) + 2) = ((2 * (i + 1) : Nat) : Int) := by unfold wrap64; omega
    have r1 : rd (flat l) ((2 * i : Nat) : Int) = (l.getD i (0, 0)).1 := by unfold rd; rw [Int.toNat_natCast]; exact f1
    have r2 : rd (flat l) ((2 * i + 1 : Nat) : Int) = (l.getD i (0, 0)).2 := by unfold rd; rw [Int.toNat_natCast]; exact f2
    have hi2 := ih (i + 1) k (by omega) (by omega)
    rw [incipitref03_among.l0, w1, w2, r1, r2, hi2, hin]
    have hfl := flat_len l
    clear w1 w2 r1 r2 hi2 hin f1 f2
    rw [if_pos (by omega), if_pos (by omega), if_pos (by omega)]
    by_cases c1 : (l.getD i (0, 0)).1 ≤ x
    · rw [if_pos c1, if_pos (by omega), decide_eq_true c1]
      by_cases c2 : x ≤ (l.getD i (0, 0)).2
      · rw [if_pos c2, decide_eq_true c2]; rfl
      · rw [if_neg c2, decide_eq_false c2]; rfl
    · rw [if_neg c1, decide_eq_false c1]; rfl
theorem among_f (l : List (Int × Int)) (x : Int) (hl : l.length ≤ 1000) (k : Nat) (hk : l.length < k) : incipitref03_among.f k x (flat l) = some (inSpans l x) :=
  among_loop l x hl l.length 0 k (by omega) hk
theorem refSpace_f (x : Int) (k : Nat) (hk : 10 ≤ k) : incipitref03_Space.f k x = some (inSpans spaceSpans x) := by
  unfold incipitref03_Space.f
  have := among_f spaceSpans x (by decide) k (by show 9 < k; omega)
  rw [show ([9, 10, 12, 13, 32, 32, 160, 160, 5760, 5760, 8192, 8202, 8239, 8239, 8287, 8287, 12288, 12288] : List Int) = flat spaceSpans from rfl, this]
  rfl
theorem refPunct_f (x : Int) (k : Nat) (hk : 20 ≤ k) : incipitref03_Punct.f k x = some (inSpans punctSpans x) := by
  unfold incipitref03_Punct.f
  have := among_f punctSpans x (by decide) k (by show 19 < k; omega)
  rw [show ([33, 47, 58, 64, 91, 96, 123, 126, 161, 169, 171, 172, 174, 177, 180, 180, 182, 184, 187, 187, 191, 191, 215, 215, 247, 247, 8208, 8231, 8240, 8286, 8352, 8384, 12289, 12291, 12296, 12319, 65281, 65295] : List Int) = flat punctSpans from rfl, this]
  rfl
theorem space_punct (x : Int) (h : inSpans spaceSpans x = true) : inSpans punctSpans x = false := by
  cases hp : inSpans punctSpans x with
  | false => rfl
  | true =>
    simp [inSpans, spaceSpans] at h
    simp [inSpans, punctSpans] at hp
    omega
end Go.Proofs.YtbgbmphjjdiaeaaDoor.P
