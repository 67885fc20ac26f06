/- ClassIs, the plain law. -/
import Derived.Test.YtbgbmphjjdiaeaaDoorPk8
import Derived.Test.YtbgbmphjjdiaeaaDoorClassP
import Derived.Test.YtbgbmphjjdiaeaaDoorRefB
namespace Go.Proofs.YtbgbmphjjdiaeaaDoor.P
open Go.RowKit Go.Proofs.YtbgbmphjjdiaeaaDoorW.PrintWords Go.Proofs.YtbgbmphjjdiaeaaDoorW.PrintLast Go.Proofs.YtbgbmphjjdiaeaaDoorW.PrintMore
theorem letter_fin : ∀ n : Fin 256, class_Letter.f (n.val : Int) = some ((decide (97 ≤ (n.val : Int)) && decide ((n.val : Int) ≤ 122)) || (decide (65 ≤ (n.val : Int)) && decide ((n.val : Int) ≤ 90))) := by decide +kernel
theorem letter_f (b : Int) (h0 : 0 ≤ b) (h1 : b < 256) : class_Letter.f b = some ((decide (97 ≤ b) && decide (b ≤ 122)) || (decide (65 ≤ b) && decide (b ≤ 90))) := by
  have := letter_fin ⟨b.toNat, by omega⟩
  simp only at this
  rw [show ((b.toNat : Nat) : Int) = b by omega] at this
  exact this
theorem is_core (x b : Int) (q : Bool) (h0 : 0 ≤ b) (h1 : b < 256) (hq : q = ((decide (97 ≤ b) && decide (b ≤ 122)) || (decide (65 ≤ b) && decide (b ≤ 90)))) : incipitlaw03_ClassIs.j0 21 x b true q = some true := by
  have sp : class_Space.f x = some (inSpans spaceSpans x) := rfl
  have pu : class_Punct.f x = some (inSpans punctSpans x) := rfl
  have hdig : (if b ≥ 48 then (some ((decide (b ≤ 57)) == (decide (b ≤ 57)))) else (some ((false : Bool) == false))) = some true := by split <;> simp
  rw [incipitlaw03_ClassIs.j0, if_pos rfl, sp, pu, Option.bind_some, refSpace_f x 20 (by omega), Option.bind_some, if_pos (by simp), Option.bind_some, refPunct_f x 20 (by omega), Option.bind_some, if_pos (by simp), Option.bind_some, letter_f b h0 h1, ← hq]
  have hd : ∀ (o : Option Bool), ((class_Digit.f b).bind fun t => if b ≥ 48 then some (t == decide (b ≤ 57)) else some (t == false)) = some true := fun _ => by
    unfold class_Digit.f
    by_cases h : b ≥ 48
    · rw [if_pos h, Option.bind_some, if_pos h]; simp
    · rw [if_neg h, Option.bind_some, if_neg h]; rfl
  cases hs : inSpans spaceSpans x with
  | true =>
    rw [if_pos rfl, space_punct x hs, Option.bind_some, if_neg (by decide), Option.bind_some, if_pos (by simp)]
    exact hd none
  | false =>
    rw [if_neg (by decide), Option.bind_some, if_pos (by simp)]
    exact hd none
end Go.Proofs.YtbgbmphjjdiaeaaDoor.P
namespace Go.Proofs.YtbgbmphjjdiaeaaDoor.Pure
open Go.RowKit Go.Proofs.YtbgbmphjjdiaeaaDoor.P Go.Proofs.YtbgbmphjjdiaeaaDoorW.PrintWords Go.Proofs.YtbgbmphjjdiaeaaDoorW.PrintLast
theorem ClassIs : incipitlaw03_ClassIs.Pure := by
  intro x b _ hb
  have hb2 : 0 ≤ b ∧ b < 256 := by
    have : 0 ≤ b ∧ b ≤ 255 := by simpa [Lit.wf, IntKind.min, IntKind.max, IntKind.signed, IntKind.bits] using hb
    omega
  refine ⟨21, ?_⟩
  unfold incipitlaw03_ClassIs.f
  rw [awake03, Option.bind_some]
  by_cases h97 : b ≥ 97
  · rw [if_pos h97]
    by_cases h122 : b ≤ 122
    · rw [if_pos h122]
      exact is_core x b true hb2.1 hb2.2 (by rw [decide_eq_true (show 97 ≤ b from h97), decide_eq_true h122]; rfl)
    · rw [if_neg h122, if_pos (by omega)]
      exact is_core x b _ hb2.1 hb2.2 (by rw [decide_eq_false h122, decide_eq_true (show 65 ≤ b by omega)]; simp)
  · rw [if_neg h97]
    by_cases h65 : b ≥ 65
    · rw [if_pos h65]
      exact is_core x b _ hb2.1 hb2.2 (by rw [decide_eq_false (show ¬ 97 ≤ b from h97), decide_eq_true (show 65 ≤ b from h65)]; simp)
    · rw [if_neg h65]
      exact is_core x b _ hb2.1 hb2.2 (by rw [decide_eq_false (show ¬ 97 ≤ b from h97), decide_eq_false (show ¬ 65 ≤ b from h65)]; simp)
end Go.Proofs.YtbgbmphjjdiaeaaDoor.Pure
