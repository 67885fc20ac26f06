/- Functions of the seat as plain Lean functions, and proofs that the Go code comes to them; laid by wip/handprint.py over the kit's printer. -/
import Derived.Test.YtikfbipjlkhgeaaPk0
import Derived.Test.YtikfbipjlkhgeaaIndexByte
namespace Go.Proofs.Ytikfbipjlkhgeaa.P
open Go.RowKit Go.Proofs.YtikfbipjlkhgeaaW.PrintWords Go.Proofs.YtikfbipjlkhgeaaW.PrintLast Go.Proofs.YtikfbipjlkhgeaaW.PrintMore
attribute [local go_sem] max2_int min2_int max_two min_two max_three min_three max_four min_four   -- for this text's walks alone
set_option linter.unusedVariables false
set_option linter.unusedSimpArgs false

/-! ### task_Mark: function 35 -/
def task_Mark.j0 : Nat → ByteArray → Bool → Option (Bool × Int)
  | 0, _, _ => none
  | k + 1, x0, x12 => if x12 = true then (some (false, 0)) else (if 0 ≤ 3 then (if 3 ≤ (x0.size : Int) then (if (x0.extract 0 3).toList = ([91, 32, 93] : List UInt8) then (some (false, 3)) else (if (x0.extract 0 3).toList = ([91, 120, 93] : List UInt8) then (some (true, 3)) else (if (x0.extract 0 3).toList = ([91, 88, 93] : List UInt8) then (some (true, 3)) else (some (false, 0))))) else (none)) else (none))
def task_Mark.f (k : Nat) (a0 : ByteArray) : Option (Bool × Int) := if (a0.size : Int) ≤ 3 then (task_Mark.j0 k a0 true) else (if 3 < (a0.size : Int) then ((strings_IndexByte.f (⟨#[32, 9, 10]⟩ : ByteArray) (bt a0 3)).bind fun t204 => (task_Mark.j0 k a0 (decide (t204 < 0)))) else (none))
theorem task_Mark.mono_l : ∀ k, (∀ y0 y1, LeO (task_Mark.j0 k y0 y1) (task_Mark.j0 (k + 1) y0 y1))
  | 0 => fun _ _ r h => by simp [task_Mark.j0] at h
  | k + 1 => by
    have ih0 := task_Mark.mono_l k
    · intro y0 y1
      unfold task_Mark.j0
      repeat' first
      | (with_reducible exact ih0 _ _)
      | (with_reducible exact LeO.refl _)
      | (with_reducible exact LeO.none _)
      | (with_reducible refine LeO.ite ?_ ?_)
      | (with_reducible refine LeO.bind ?_ (fun _ => ?_))
      | exact ih0 _ _
      | exact LeO.none _
      | refine LeO.ite ?_ ?_
      | refine LeO.bind ?_ (fun _ => ?_)
theorem task_Mark.mono : ∀ a0 k, LeO (task_Mark.f k a0) (task_Mark.f (k + 1) a0) := by
  intro a0 k
  have ih0 := task_Mark.mono_l k
  unfold task_Mark.f
  repeat' first
      | (with_reducible exact ih0 _ _)
      | (with_reducible exact LeO.refl _)
      | (with_reducible exact LeO.none _)
      | (with_reducible refine LeO.ite ?_ ?_)
      | (with_reducible refine LeO.bind ?_ (fun _ => ?_))
      | exact ih0 _ _
      | exact LeO.none _
      | refine LeO.ite ?_ ?_
      | refine LeO.bind ?_ (fun _ => ?_)
set_option maxHeartbeats 8000000 in
set_option maxRecDepth 100000 in
theorem task_Mark.calls (k : Nat) (a0 : ByteArray) (r1 : Bool) (r2 : Int) (w : World) (h : task_Mark.f k a0 = some (r1, r2)) :
    Calls Try.prog 35 #[.string a0] w fun e w' => e = .returned (.tuple #[.bool r1, .int .i64 r2]) ∧ Drawn0 w w' := by
  have H : (if (a0.size : Int) ≤ 3 then (task_Mark.j0 k a0 true) else (if 3 < (a0.size : Int) then ((strings_IndexByte.f (⟨#[32, 9, 10]⟩ : ByteArray) (bt a0 3)).bind fun t204 => (task_Mark.j0 k a0 (decide (t204 < 0)))) else (none))) = some (r1, r2) := h
  clear h
  have HC2 := Aside0.mk H
  clear H
  go_enter Try.func35, Try.ntmps35
  go_upto_region 1 with (fail)
  go_cut [12] (fun v12 wc => ∃ (kq : Nat) (x12_1 : Bool), v12 = .bool x12_1 ∧ Aside0 (task_Mark.j0 kq a0 x12_1 = some (r1, r2)) ∧ Aside0 (kq ≤ k) ∧ Drawn0 w wc)
  case first =>
    have H := HC2.out
    clear HC2
    by_cases c3 : (a0.size : Int) ≤ 3
    · rw [if_pos c3] at H
      have c3b0 : decide ((a0.size : Int) ≤ 3) = true := decide_eq_true c3
      have c3b1 : decide (a0.size ≤ 3) = true := decide_eq_true (by omega)
      clear c3
      (first | rw [c3b0] | (simp only [i64_w, i32_w]; rw [c3b0]) | skip)
      have H' := Aside0.mk H
      clear H
      go_wp2
      go_meet
      case rel => exact ⟨_, (true), (by first | rfl | (simp; done) | (simp [*]; done)), H', ⟨by first | omega | exact Nat.le_refl _⟩, by repeat (first | exact Drawn0.refl _ | apply Drawn0.step)⟩
    · rw [if_neg c3] at H
      have c3b0 : decide ((a0.size : Int) ≤ 3) = false := decide_eq_false c3
      have c3b1 : decide (a0.size ≤ 3) = false := decide_eq_false (by omega)
      clear c3
      (first | rw [c3b0] | (simp only [i64_w, i32_w]; rw [c3b0]) | skip)
      by_cases c4 : 3 < (a0.size : Int)
      · rw [if_pos c4] at H
        have c4b0 : decide (3 < (a0.size : Int)) = true := decide_eq_true c4
        have c4b1 : decide (3 < a0.size) = true := decide_eq_true (by omega)
        clear c4
        replace H := Option.bind_eq_some_iff.mp H
        obtain ⟨t204, A60, H⟩ := H
        replace H : (task_Mark.j0 k a0 (decide (t204 < 0))) = some (r1, r2) := H
        have A6 := Aside0.mk A60
        clear A60
        have H' := Aside0.mk H
        clear H
        have p5 : 0 ≤ (3 : Int) := (by omega)
        have q5 : 3 < a0.size := (by have : (3 : Int) < (a0.size : Int) := of_decide_eq_true (by first | (with_reducible assumption) | assumption); omega)
        have hx5 : ∀ h : 3 < a0.size, ((a0[3]'h).toNat : Int) = bt a0 3 := bt_at a0 3
        clear p5
        have qi5 : (3 < (a0.size : Int)) = True := eq_true (of_decide_eq_true (by first | (with_reducible assumption) | assumption))
        replace q5 := eq_true q5
        go_wp2_with (first | (go_at_call 63; (with_reducible refine (strings_IndexByte.calls (⟨#[32, 9, 10]⟩ : ByteArray) (bt a0 3) t204 _ A6.out).mono ?_); rintro e w' ⟨rfl, ⟨nd, rfl⟩⟩))
        go_meet
        case rel => exact ⟨_, (decide (t204 < 0)), (by first | rfl | (simp; done) | (simp [*]; done)), H', ⟨by first | omega | exact Nat.le_refl _⟩, by repeat (first | exact Drawn0.refl _ | apply Drawn0.step)⟩
      · rw [if_neg c4] at H
        exact absurd H (by simp)
  case rest =>
    clear HC2
    try clear p2
    try clear c3
    try clear c3b0
    try clear c3b1
    try clear c4
    try clear c4b0
    try clear c4b1
    try clear p5
    try clear q5
    try clear hx5
    try clear qi5
    try clear p5
    try clear q5
    obtain ⟨kq, x12_1, rfl, HA, HJ1, ⟨mc1, rfl⟩⟩ := hcut
    cases kq with
    | zero => exact absurd HA.out (by simp [task_Mark.j0])
    | succ kj1 =>
      have H := HA.out
      clear HA
      simp only [task_Mark.j0] at H
      by_cases c7 : x12_1 = true
      · subst c7
        have H1 : (some (false, 0)) = some (r1, r2) := by rw [if_pos rfl] at H; exact H
        clear H
        have H := H1
        clear H1
        simp only [Option.some.injEq, Prod.mk.injEq] at H
        obtain ⟨rfl, rfl⟩ := H
        go_wp2
        go_ret2
        exact ⟨by first | rfl | (simp; done) | (simp [*]; done), by repeat (first | exact Drawn0.refl _ | apply Drawn0.step)⟩
      · replace c7 := Bool.eq_false_iff.mpr c7
        subst c7
        have H1 : (if 0 ≤ 3 then (if 3 ≤ (a0.size : Int) then (if (a0.extract 0 3).toList = ([91, 32, 93] : List UInt8) then (some (false, 3)) else (if (a0.extract 0 3).toList = ([91, 120, 93] : List UInt8) then (some (true, 3)) else (if (a0.extract 0 3).toList = ([91, 88, 93] : List UInt8) then (some (true, 3)) else (some (false, 0))))) else (none)) else (none)) = some (r1, r2) := by rw [if_neg (show ¬ (false = true) by decide)] at H; exact H
        clear H
        have H := H1
        clear H1
        by_cases c8 : 0 ≤ 3
        · rw [if_pos c8] at H
          have c8b0 := eq_true c8
          have c8b1 : decide (0 ≤ 3) = true := decide_eq_true c8
          clear c8
          by_cases c9 : 3 ≤ (a0.size : Int)
          · rw [if_pos c9] at H
            have c9b0 := eq_true c9
            have c9b1 : decide (3 ≤ (a0.size : Int)) = true := decide_eq_true c9
            clear c9
            by_cases c10 : (a0.extract 0 3).toList = ([91, 32, 93] : List UInt8)
            · rw [if_pos c10] at H
              have c10b0 : ((a0.extract 0 3).toList == ([91, 32, 93] : List UInt8)) = true := beq_iff_eq.mpr c10
              have c10b1 : ((a0.extract 0 3).toList != ([91, 32, 93] : List UInt8)) = false := bne_eq_false_iff_eq.mpr c10
              clear c10
              simp only [Option.some.injEq, Prod.mk.injEq] at H
              obtain ⟨rfl, rfl⟩ := H
              go_wp2
              go_ret2
              exact ⟨by first | rfl | (simp; done) | (simp [*]; done), by repeat (first | exact Drawn0.refl _ | apply Drawn0.step)⟩
            · rw [if_neg c10] at H
              have c10b0 : ((a0.extract 0 3).toList == ([91, 32, 93] : List UInt8)) = false := beq_eq_false_iff_ne.mpr c10
              have c10b1 : ((a0.extract 0 3).toList != ([91, 32, 93] : List UInt8)) = true := bne_iff_ne.mpr c10
              by_cases c11 : (a0.extract 0 3).toList = ([91, 120, 93] : List UInt8)
              · rw [if_pos c11] at H
                have c11b0 : ((a0.extract 0 3).toList == ([91, 120, 93] : List UInt8)) = true := beq_iff_eq.mpr c11
                have c11b1 : ((a0.extract 0 3).toList != ([91, 120, 93] : List UInt8)) = false := bne_eq_false_iff_eq.mpr c11
                clear c11
                simp only [Option.some.injEq, Prod.mk.injEq] at H
                obtain ⟨rfl, rfl⟩ := H
                go_wp2
                go_ret2
                exact ⟨by first | rfl | (simp; done) | (simp [*]; done), by repeat (first | exact Drawn0.refl _ | apply Drawn0.step)⟩
              · rw [if_neg c11] at H
                have c11b0 : ((a0.extract 0 3).toList == ([91, 120, 93] : List UInt8)) = false := beq_eq_false_iff_ne.mpr c11
                have c11b1 : ((a0.extract 0 3).toList != ([91, 120, 93] : List UInt8)) = true := bne_iff_ne.mpr c11
                by_cases c12 : (a0.extract 0 3).toList = ([91, 88, 93] : List UInt8)
                · rw [if_pos c12] at H
                  have c12b0 : ((a0.extract 0 3).toList == ([91, 88, 93] : List UInt8)) = true := beq_iff_eq.mpr c12
                  have c12b1 : ((a0.extract 0 3).toList != ([91, 88, 93] : List UInt8)) = false := bne_eq_false_iff_eq.mpr c12
                  clear c12
                  simp only [Option.some.injEq, Prod.mk.injEq] at H
                  obtain ⟨rfl, rfl⟩ := H
                  go_wp2
                  go_ret2
                  exact ⟨by first | rfl | (simp; done) | (simp [*]; done), by repeat (first | exact Drawn0.refl _ | apply Drawn0.step)⟩
                · rw [if_neg c12] at H
                  have c12b0 : ((a0.extract 0 3).toList == ([91, 88, 93] : List UInt8)) = false := beq_eq_false_iff_ne.mpr c12
                  have c12b1 : ((a0.extract 0 3).toList != ([91, 88, 93] : List UInt8)) = true := bne_iff_ne.mpr c12
                  simp only [Option.some.injEq, Prod.mk.injEq] at H
                  obtain ⟨rfl, rfl⟩ := H
                  go_wp2
                  go_ret2
                  exact ⟨by first | rfl | (simp; done) | (simp [*]; done), by repeat (first | exact Drawn0.refl _ | apply Drawn0.step)⟩
          · rw [if_neg c9] at H
            exact absurd H (by simp)
        · rw [if_neg c8] at H
          exact absurd H (by simp)

end Go.Proofs.Ytikfbipjlkhgeaa.P
