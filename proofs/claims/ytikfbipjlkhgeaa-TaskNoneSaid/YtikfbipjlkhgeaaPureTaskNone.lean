import Derived.Test.YtikfbipjlkhgeaaPk10
import Derived.Test.YtikfbipjlkhgeaaMarkL
namespace Go.Proofs.Ytikfbipjlkhgeaa.P
open Go.RowKit Go.Proofs.YtikfbipjlkhgeaaW.PrintWords Go.Proofs.YtikfbipjlkhgeaaW.PrintLast
theorem awake16 : ∀ k, 20 ≤ k → incipitlaw16_awake.f k = some true := fun k hk => by
  have h : incipitlaw16_awake.f 20 = some true := by
    kernel_rfl
  obtain ⟨j, rfl⟩ := Nat.exists_eq_add_of_le hk
  clear hk
  induction j with
  | zero => exact h
  | succ j ih => exact incipitlaw16_awake.mono (20 + j) _ ih
end Go.Proofs.Ytikfbipjlkhgeaa.P
namespace Go.Proofs.Ytikfbipjlkhgeaa.Pure
open Go.RowKit Go.Proofs.Ytikfbipjlkhgeaa.P Go.Proofs.YtikfbipjlkhgeaaW.PrintWords Go.Proofs.YtikfbipjlkhgeaaW.PrintLast
theorem TaskNone : incipitlaw16_TaskNone.Pure := by
  intro s t _ _
  refine ⟨21, ?_⟩
  unfold incipitlaw16_TaskNone.f
  rw [awake16 21 (by omega)]
  simp only [Option.bind_some]
  by_cases h1 : (s.size : Int) > 500
  · rw [if_pos h1]; rfl
  · rw [if_neg h1]
    by_cases h2 : (t.size : Int) > 500
    · rw [decide_eq_true h2]; rfl
    · rw [decide_eq_false h2, incipitlaw16_TaskNone.j0.eq_2]
      have e1 : markP ((⟨#[91, 120, 93, 32]⟩ : ByteArray) ++ s) = (true, 3) := by
        have e : markP (⟨#[91, 120, 93, 32]⟩ : ByteArray) = (true, 3) := by rw [mark_data]; decide
        rw [mark_app _ _ (by rw [e]; decide), e]
      have e2 : markP ((⟨#[91, 32, 93, 9]⟩ : ByteArray) ++ t) = (false, 3) := by
        have e : markP (⟨#[91, 32, 93, 9]⟩ : ByteArray) = (false, 3) := by rw [mark_data]; decide
        rw [mark_app _ _ (by rw [e]; decide), e]
      simp only [Bool.false_eq_true, if_false]
      rw [if_pos (by omega), mark_any, mark_x]
      simp only [Option.bind_some]
      rw [if_pos (by omega), mark_any, e1]
      simp only [Option.bind_some]
      rw [if_pos (by omega), mark_any, e2]
      simp only [Option.bind_some]
      rw [mark_any]
      simp only [Option.bind_some]
      rw [if_pos (by omega), mark_any]
      simp only [Option.bind_some, if_true, Bool.false_eq_true, if_false]
      by_cases h3 : (markP s).2 = 0
      · rw [if_pos h3]
      · rw [if_neg h3, mark_app _ _ h3]
        simp
end Go.Proofs.Ytikfbipjlkhgeaa.Pure
