/- tree.may: what may stand in what, as a plain function. -/
import Derived.Test.YtikfbipjlkhgeaaPk0
import Derived.Deep.RegionHeld3
import Derived.Deep.DeepCutAuto
namespace Go.Proofs.Ytikfbipjlkhgeaa.P
open Go.RowKit Go.Proofs.YtikfbipjlkhgeaaW.PrintWords Go.Proofs.YtikfbipjlkhgeaaW.PrintLast Go.Proofs.YtikfbipjlkhgeaaW.PrintMore
set_option linter.unusedVariables false
set_option linter.unusedSimpArgs false
def blockB (k : Int) : Bool := k == 2 || (k == 3 || (k == 5 || (k == 6 || (k == 7 || (k == 8 || (k == 9 || (k == 10 || k == 13)))))))
set_option maxRecDepth 100000 in
set_option maxHeartbeats 8000000 in
theorem block_calls (k : Int) (w : World) : Calls Try.prog 77 #[.int .i64 k] w fun e w' => e = .returned (.bool (blockB k)) ∧ w' = w := by
  go_enter Try.func77, Try.ntmps77
  go_wp2_with fail
  all_goals (go_ret; exact ⟨by simp [blockB, *], rfl⟩)
def inlineB (k : Int) : Bool := decide (14 ≤ k) && decide (k ≤ 25)
set_option maxRecDepth 100000 in
set_option maxHeartbeats 8000000 in
theorem inline_calls (k : Int) (w : World) : Calls Try.prog 78 #[.int .i64 k] w fun e w' => e = .returned (.bool (inlineB k)) ∧ w' = w := by
  by_cases h1 : 14 ≤ k
  · have c1 : decide (14 ≤ k) = true := decide_eq_true h1
    go_enter Try.func78, Try.ntmps78
    go_wp2_with fail
    all_goals (go_ret; exact ⟨by simp [inlineB, c1], rfl⟩)
  · have c1 : decide (14 ≤ k) = false := decide_eq_false h1
    go_enter Try.func78, Try.ntmps78
    go_wp2_with fail
    all_goals (go_ret; exact ⟨by simp [inlineB, c1], rfl⟩)
def mayB (a k : Int) : Bool :=
  if (a == 1 || (a == 2 || (a == 4 || a == 13))) = true then blockB k else if (a == 3) = true then k == 4 else if (a == 10) = true then k == 11 else if (a == 11) = true then k == 12
  else if (a == 7 || (a == 8 || (a == 12 || (a == 18 || (a == 19 || (a == 20 || (a == 21 || a == 23))))))) = true then inlineB k else false
set_option maxRecDepth 100000 in
set_option maxHeartbeats 8000000 in
theorem may_calls (a k : Int) (w : World) : Calls Try.prog 71 #[.int .i64 a, .int .i64 k] w fun e w' => e = .returned (.bool (mayB a k)) ∧ w' = w := by
  go_enter Try.func71, Try.ntmps71
  go_wp2_with (first | (go_at_call 77; refine (block_calls k _).mono ?_; rintro e w1 ⟨rfl, rfl⟩) | (go_at_call 78; refine (inline_calls k _).mono ?_; rintro e w1 ⟨rfl, rfl⟩))
  all_goals (go_ret; exact ⟨by simp [mayB, *], rfl⟩)
end Go.Proofs.Ytikfbipjlkhgeaa.P
