/- Functions of the seat as plain Lean functions, and proofs that the Go code comes to them; laid by wip/handprint.py over the kit's printer. -/
import Derived.Test.YtikfbipjlkhgeaaPk0
import Derived.Test.YtikfbipjlkhgeaaApply
import Derived.Test.YtikfbipjlkhgeaaPk5
import Derived.Test.YtikfbipjlkhgeaaPk8
namespace Go.Proofs.Ytikfbipjlkhgeaa.P
open Go.RowKit Go.Proofs.YtikfbipjlkhgeaaW.PrintWords Go.Proofs.YtikfbipjlkhgeaaW.PrintLast Go.Proofs.YtikfbipjlkhgeaaW.PrintMore
attribute [local go_sem] max2_int min2_int max_two min_two max_three min_three max_four min_four   -- for this text's walks alone
set_option linter.unusedVariables false
set_option linter.unusedSimpArgs false

/-! ### incipitlaw16_TaskItems: function 8 -/
def incipitlaw16_TaskItems.j0 : Nat → ByteArray → Bool → ByteArray → List (S24) → List (S24) → Bool → Option (Bool)
  | 0, _, _, _, _, _, _ => none
  | k + 1, x0, x5, x6, x7, x8, x64 => if x64 = true then (none) else (if 0 < (x8.length : Int) then (if 0 < (((rd_T24 x8 0).f6).length : Int) then (if 0 < (((rd_T24 ((rd_T24 x8 0).f6) 0).f6).length : Int) then (if 0 < (x7.length : Int) then (if 0 < (((rd_T24 x7 0).f6).length : Int) then ((task_Apply.f ((rd_T24 ((rd_T24 x7 0).f6) 0).f6)).bind fun t254 => (if x5 = true then (if 0 < (((rd_T24 ((rd_T24 ((rd_T24 x8 0).f6) 0).f6) 0).f6).length : Int) then (if ((rd_T24 ((rd_T24 ((rd_T24 ((rd_T24 x8 0).f6) 0).f6) 0).f6) 0).f0) = 25 then (if (((rd_T24 ((rd_T24 ((rd_T24 ((rd_T24 x8 0).f6) 0).f6) 0).f6) 0).f5) == (x6.toList != ([91, 32, 93] : List UInt8))) = true then (if 1 < (((rd_T24 ((rd_T24 ((rd_T24 x8 0).f6) 0).f6) 0).f6).length : Int) then (if 1 + x0.size ≤ 9223372036854775807 then (if ((rd_T24 ((rd_T24 ((rd_T24 ((rd_T24 x8 0).f6) 0).f6) 0).f6) 1).f1).toList = ((⟨#[32]⟩ : ByteArray) ++ x0).toList then ((incipitref06_SameAll.f k t254 ((rd_T24 ((rd_T24 x7 0).f6) 0).f6)).bind fun t262 => (if t262 = true then (if x6.size + 1 ≤ 9223372036854775807 then (if (x6 ++ (⟨#[32]⟩ : ByteArray)).size + x0.size ≤ 9223372036854775807 then ((incipitlaw16_item.f ((x6 ++ (⟨#[32]⟩ : ByteArray)) ++ x0)).bind fun t263 => ((incipitref06_SameAll.f k x7 t263).bind fun t266 => (some t266))) else (none)) else (none)) else (none))) else (none)) else (none)) else (none)) else (none)) else (none)) else (none)) else (none))) else (none)) else (none)) else (none)) else (none)) else (none))
def incipitlaw16_TaskItems.f (k : Nat) (a0 : ByteArray) (a1 : Int) : Option (Bool) := (incipitlaw16_awake.f k).bind fun t232 => (if (a0.size : Int) > 500 then (some t232) else ((some (([(⟨#[91, 32, 93]⟩ : ByteArray), (⟨#[91, 120, 93]⟩ : ByteArray), (⟨#[91, 88, 93]⟩ : ByteArray)] : List ByteArray) : List ByteArray)).bind fun y233 => (if 0 ≤ (Int.tmod (Go.bits .and .i64 a1 65535) 3) then (if (Int.tmod (Go.bits .and .i64 a1 65535) 3) < (y233.length : Int) then (if (rdOf ByteArray.empty y233 (Int.tmod (Go.bits .and .i64 a1 65535) 3)).size + 1 ≤ 9223372036854775807 then (if ((rdOf ByteArray.empty y233 (Int.tmod (Go.bits .and .i64 a1 65535) 3)) ++ (⟨#[32]⟩ : ByteArray)).size + a0.size ≤ 9223372036854775807 then ((incipitlaw16_item.f (((rdOf ByteArray.empty y233 (Int.tmod (Go.bits .and .i64 a1 65535) 3)) ++ (⟨#[32]⟩ : ByteArray)) ++ a0)).bind fun t237 => ((task_Apply.f t237).bind fun t240 => (if (t240.length : Int) = 1 then (if 0 < (t240.length : Int) then (if (((rd_T24 t240 0).f6).length : Int) = 1 then (if 0 < (((rd_T24 t240 0).f6).length : Int) then (if (((rd_T24 ((rd_T24 t240 0).f6) 0).f6).length : Int) = 1 then (if 0 < (((rd_T24 ((rd_T24 t240 0).f6) 0).f6).length : Int) then (incipitlaw16_TaskItems.j0 k a0 t232 (rdOf ByteArray.empty y233 (Int.tmod (Go.bits .and .i64 a1 65535) 3)) t237 t240 ((((rd_T24 ((rd_T24 ((rd_T24 t240 0).f6) 0).f6) 0).f6).length : Int) != 2)) else (none)) else (incipitlaw16_TaskItems.j0 k a0 t232 (rdOf ByteArray.empty y233 (Int.tmod (Go.bits .and .i64 a1 65535) 3)) t237 t240 true)) else (none)) else (incipitlaw16_TaskItems.j0 k a0 t232 (rdOf ByteArray.empty y233 (Int.tmod (Go.bits .and .i64 a1 65535) 3)) t237 t240 true)) else (none)) else (incipitlaw16_TaskItems.j0 k a0 t232 (rdOf ByteArray.empty y233 (Int.tmod (Go.bits .and .i64 a1 65535) 3)) t237 t240 true)))) else (none)) else (none)) else (none)) else (none))))
theorem incipitlaw16_TaskItems.mono_l : ∀ k, (∀ y0 y1 y2 y3 y4 y5, LeO (incipitlaw16_TaskItems.j0 k y0 y1 y2 y3 y4 y5) (incipitlaw16_TaskItems.j0 (k + 1) y0 y1 y2 y3 y4 y5))
  | 0 => fun _ _ _ _ _ _ r h => by simp [incipitlaw16_TaskItems.j0] at h
  | k + 1 => by
    have ih0 := incipitlaw16_TaskItems.mono_l k
    · intro y0 y1 y2 y3 y4 y5
      unfold incipitlaw16_TaskItems.j0
      repeat' first
      | (with_reducible exact ih0 _ _ _ _ _ _)
      | (with_reducible exact incipitlaw16_awake.mono _)
      | (with_reducible exact incipitref06_SameAll.mono _ _ _)
      | (with_reducible exact LeO.refl _)
      | (with_reducible exact LeO.none _)
      | (with_reducible refine LeO.ite ?_ ?_)
      | (with_reducible refine LeO.bind ?_ (fun _ => ?_))
      | exact ih0 _ _ _ _ _ _
      | exact incipitlaw16_awake.mono _
      | exact incipitref06_SameAll.mono _ _ _
      | exact LeO.none _
      | refine LeO.ite ?_ ?_
      | refine LeO.bind ?_ (fun _ => ?_)
theorem incipitlaw16_TaskItems.mono : ∀ a0 a1 k, LeO (incipitlaw16_TaskItems.f k a0 a1) (incipitlaw16_TaskItems.f (k + 1) a0 a1) := by
  intro a0 a1 k
  have ih0 := incipitlaw16_TaskItems.mono_l k
  unfold incipitlaw16_TaskItems.f
  repeat' first
      | (with_reducible exact ih0 _ _ _ _ _ _)
      | (with_reducible exact incipitlaw16_awake.mono _)
      | (with_reducible exact incipitref06_SameAll.mono _ _ _)
      | (with_reducible exact LeO.refl _)
      | (with_reducible exact LeO.none _)
      | (with_reducible refine LeO.ite ?_ ?_)
      | (with_reducible refine LeO.bind ?_ (fun _ => ?_))
      | exact ih0 _ _ _ _ _ _
      | exact incipitlaw16_awake.mono _
      | exact incipitref06_SameAll.mono _ _ _
      | exact LeO.none _
      | refine LeO.ite ?_ ?_
      | refine LeO.bind ?_ (fun _ => ?_)
set_option maxHeartbeats 8000000 in
set_option maxRecDepth 100000 in
theorem incipitlaw16_TaskItems.calls (k : Nat) (a0 : ByteArray) (a1 : Int) (r : Bool) (w : World) (h : incipitlaw16_TaskItems.f k a0 a1 = some r) :
    Calls Try.prog 8 #[.string a0, .int .i64 a1] w fun e w' => e = .returned (.bool r) ∧ Below w.heap.size w w' := by
  have HB := Aside0.mk (Below.refl w.heap.size w)
  have H : ((incipitlaw16_awake.f k).bind fun t232 => (if (a0.size : Int) > 500 then (some t232) else ((some (([(⟨#[91, 32, 93]⟩ : ByteArray), (⟨#[91, 120, 93]⟩ : ByteArray), (⟨#[91, 88, 93]⟩ : ByteArray)] : List ByteArray) : List ByteArray)).bind fun y233 => (if 0 ≤ (Int.tmod (Go.bits .and .i64 a1 65535) 3) then (if (Int.tmod (Go.bits .and .i64 a1 65535) 3) < (y233.length : Int) then (if (rdOf ByteArray.empty y233 (Int.tmod (Go.bits .and .i64 a1 65535) 3)).size + 1 ≤ 9223372036854775807 then (if ((rdOf ByteArray.empty y233 (Int.tmod (Go.bits .and .i64 a1 65535) 3)) ++ (⟨#[32]⟩ : ByteArray)).size + a0.size ≤ 9223372036854775807 then ((incipitlaw16_item.f (((rdOf ByteArray.empty y233 (Int.tmod (Go.bits .and .i64 a1 65535) 3)) ++ (⟨#[32]⟩ : ByteArray)) ++ a0)).bind fun t237 => ((task_Apply.f t237).bind fun t240 => (if (t240.length : Int) = 1 then (if 0 < (t240.length : Int) then (if (((rd_T24 t240 0).f6).length : Int) = 1 then (if 0 < (((rd_T24 t240 0).f6).length : Int) then (if (((rd_T24 ((rd_T24 t240 0).f6) 0).f6).length : Int) = 1 then (if 0 < (((rd_T24 ((rd_T24 t240 0).f6) 0).f6).length : Int) then (incipitlaw16_TaskItems.j0 k a0 t232 (rdOf ByteArray.empty y233 (Int.tmod (Go.bits .and .i64 a1 65535) 3)) t237 t240 ((((rd_T24 ((rd_T24 ((rd_T24 t240 0).f6) 0).f6) 0).f6).length : Int) != 2)) else (none)) else (incipitlaw16_TaskItems.j0 k a0 t232 (rdOf ByteArray.empty y233 (Int.tmod (Go.bits .and .i64 a1 65535) 3)) t237 t240 true)) else (none)) else (incipitlaw16_TaskItems.j0 k a0 t232 (rdOf ByteArray.empty y233 (Int.tmod (Go.bits .and .i64 a1 65535) 3)) t237 t240 true)) else (none)) else (incipitlaw16_TaskItems.j0 k a0 t232 (rdOf ByteArray.empty y233 (Int.tmod (Go.bits .and .i64 a1 65535) 3)) t237 t240 true)))) else (none)) else (none)) else (none)) else (none))))) = some r := h
  clear h
  replace H := Option.bind_eq_some_iff.mp H
  obtain ⟨t232, A30, H⟩ := H
  replace H : (if (a0.size : Int) > 500 then (some t232) else ((some (([(⟨#[91, 32, 93]⟩ : ByteArray), (⟨#[91, 120, 93]⟩ : ByteArray), (⟨#[91, 88, 93]⟩ : ByteArray)] : List ByteArray) : List ByteArray)).bind fun y233 => (if 0 ≤ (Int.tmod (Go.bits .and .i64 a1 65535) 3) then (if (Int.tmod (Go.bits .and .i64 a1 65535) 3) < (y233.length : Int) then (if (rdOf ByteArray.empty y233 (Int.tmod (Go.bits .and .i64 a1 65535) 3)).size + 1 ≤ 9223372036854775807 then (if ((rdOf ByteArray.empty y233 (Int.tmod (Go.bits .and .i64 a1 65535) 3)) ++ (⟨#[32]⟩ : ByteArray)).size + a0.size ≤ 9223372036854775807 then ((incipitlaw16_item.f (((rdOf ByteArray.empty y233 (Int.tmod (Go.bits .and .i64 a1 65535) 3)) ++ (⟨#[32]⟩ : ByteArray)) ++ a0)).bind fun t237 => ((task_Apply.f t237).bind fun t240 => (if (t240.length : Int) = 1 then (if 0 < (t240.length : Int) then (if (((rd_T24 t240 0).f6).length : Int) = 1 then (if 0 < (((rd_T24 t240 0).f6).length : Int) then (if (((rd_T24 ((rd_T24 t240 0).f6) 0).f6).length : Int) = 1 then (if 0 < (((rd_T24 ((rd_T24 t240 0).f6) 0).f6).length : Int) then (incipitlaw16_TaskItems.j0 k a0 t232 (rdOf ByteArray.empty y233 (Int.tmod (Go.bits .and .i64 a1 65535) 3)) t237 t240 ((((rd_T24 ((rd_T24 ((rd_T24 t240 0).f6) 0).f6) 0).f6).length : Int) != 2)) else (none)) else (incipitlaw16_TaskItems.j0 k a0 t232 (rdOf ByteArray.empty y233 (Int.tmod (Go.bits .and .i64 a1 65535) 3)) t237 t240 true)) else (none)) else (incipitlaw16_TaskItems.j0 k a0 t232 (rdOf ByteArray.empty y233 (Int.tmod (Go.bits .and .i64 a1 65535) 3)) t237 t240 true)) else (none)) else (incipitlaw16_TaskItems.j0 k a0 t232 (rdOf ByteArray.empty y233 (Int.tmod (Go.bits .and .i64 a1 65535) 3)) t237 t240 true)))) else (none)) else (none)) else (none)) else (none)))) = some r := H
  have A3 := Aside0.mk A30
  clear A30
  by_cases c4 : (a0.size : Int) > 500
  · rw [if_pos c4] at H
    have c4b0 : decide (500 < (a0.size : Int)) = true := decide_eq_true c4
    have c4b1 : decide (500 < a0.size) = true := decide_eq_true (by omega)
    clear c4
    obtain rfl := Option.some.inj H
    go_enter Try.func8, Try.ntmps8
    go_wp2_with (first | ((with_reducible refine gate_callee (f := 30) rfl ?_); refine goesL_ (some 11) rfl rfl Try.func30 (by kernel_rfl) rfl #[] rfl (by (try simp only [List.map_toArray, List.map_cons, List.map_nil]); first | done | rfl | (simp only [List.length_drop, List.length_take]; rfl)) ?_; (with_reducible refine (incipitlaw16_awake.calls k  t232 _ A3.out).mono ?_); rintro e w5 ⟨rfl, hb⟩; refine ⟨_, rfl, ?_⟩; have n0_ := Aside0.mk (below_step (by repeat (first | (with_reducible first | exact HB.out | apply below_alloc | apply pw_below_drewN | apply below_drew1) | exact HB.out)) hb); clear HB; have HB := n0_; clear n0_; (try clear hb); (try clear hb2); (try clear hk); (try clear hi)))
    go_ret
    exact ⟨by first | rfl | (simp [errW_none, errW_some] <;> rfl) | (simp [*, errW_none, errW_some] <;> rfl), by repeat (first | (with_reducible first | exact HB.out | apply below_alloc | apply pw_below_drewN | apply below_drew1) | exact HB.out)⟩
  · rw [if_neg c4] at H
    have c4b0 : decide (500 < (a0.size : Int)) = false := decide_eq_false c4
    have c4b1 : decide (500 < a0.size) = false := decide_eq_false (by omega)
    clear c4
    obtain ⟨y233, hy233⟩ : ∃ y_ : List ByteArray, y_ = (([(⟨#[91, 32, 93]⟩ : ByteArray), (⟨#[91, 120, 93]⟩ : ByteArray), (⟨#[91, 88, 93]⟩ : ByteArray)] : List ByteArray)) := ⟨_, rfl⟩
    replace H : (if 0 ≤ (Int.tmod (Go.bits .and .i64 a1 65535) 3) then (if (Int.tmod (Go.bits .and .i64 a1 65535) 3) < (y233.length : Int) then (if (rdOf ByteArray.empty y233 (Int.tmod (Go.bits .and .i64 a1 65535) 3)).size + 1 ≤ 9223372036854775807 then (if ((rdOf ByteArray.empty y233 (Int.tmod (Go.bits .and .i64 a1 65535) 3)) ++ (⟨#[32]⟩ : ByteArray)).size + a0.size ≤ 9223372036854775807 then ((incipitlaw16_item.f (((rdOf ByteArray.empty y233 (Int.tmod (Go.bits .and .i64 a1 65535) 3)) ++ (⟨#[32]⟩ : ByteArray)) ++ a0)).bind fun t237 => ((task_Apply.f t237).bind fun t240 => (if (t240.length : Int) = 1 then (if 0 < (t240.length : Int) then (if (((rd_T24 t240 0).f6).length : Int) = 1 then (if 0 < (((rd_T24 t240 0).f6).length : Int) then (if (((rd_T24 ((rd_T24 t240 0).f6) 0).f6).length : Int) = 1 then (if 0 < (((rd_T24 ((rd_T24 t240 0).f6) 0).f6).length : Int) then (incipitlaw16_TaskItems.j0 k a0 t232 (rdOf ByteArray.empty y233 (Int.tmod (Go.bits .and .i64 a1 65535) 3)) t237 t240 ((((rd_T24 ((rd_T24 ((rd_T24 t240 0).f6) 0).f6) 0).f6).length : Int) != 2)) else (none)) else (incipitlaw16_TaskItems.j0 k a0 t232 (rdOf ByteArray.empty y233 (Int.tmod (Go.bits .and .i64 a1 65535) 3)) t237 t240 true)) else (none)) else (incipitlaw16_TaskItems.j0 k a0 t232 (rdOf ByteArray.empty y233 (Int.tmod (Go.bits .and .i64 a1 65535) 3)) t237 t240 true)) else (none)) else (incipitlaw16_TaskItems.j0 k a0 t232 (rdOf ByteArray.empty y233 (Int.tmod (Go.bits .and .i64 a1 65535) 3)) t237 t240 true)))) else (none)) else (none)) else (none)) else (none)) = some r := by first | (rw [hy233]; with_reducible exact H) | (have H2_ := (Option.bind_some _ _).symm.trans H; rw [hy233]; with_reducible exact H2_) | (have H2_ := (Option.bind_some _ _).symm.trans H; with_reducible exact H2_) | with_reducible exact H | (rw [hy233]; exact H) | exact H
    have Ny233 := Aside0.mk hy233
    clear hy233
    obtain ⟨ji6, hji6⟩ : ∃ j_ : Int, (Int.tmod (Go.bits .and .i64 a1 65535) 3) = j_ := ⟨_, rfl⟩
    replace H : (if 0 ≤ (ji6) then (if (ji6) < (y233.length : Int) then (if (rdOf ByteArray.empty y233 (ji6)).size + 1 ≤ 9223372036854775807 then (if ((rdOf ByteArray.empty y233 (ji6)) ++ (⟨#[32]⟩ : ByteArray)).size + a0.size ≤ 9223372036854775807 then ((incipitlaw16_item.f (((rdOf ByteArray.empty y233 (ji6)) ++ (⟨#[32]⟩ : ByteArray)) ++ a0)).bind fun t237 => ((task_Apply.f t237).bind fun t240 => (if (t240.length : Int) = 1 then (if 0 < (t240.length : Int) then (if (((rd_T24 t240 0).f6).length : Int) = 1 then (if 0 < (((rd_T24 t240 0).f6).length : Int) then (if (((rd_T24 ((rd_T24 t240 0).f6) 0).f6).length : Int) = 1 then (if 0 < (((rd_T24 ((rd_T24 t240 0).f6) 0).f6).length : Int) then (incipitlaw16_TaskItems.j0 k a0 t232 (rdOf ByteArray.empty y233 (ji6)) t237 t240 ((((rd_T24 ((rd_T24 ((rd_T24 t240 0).f6) 0).f6) 0).f6).length : Int) != 2)) else (none)) else (incipitlaw16_TaskItems.j0 k a0 t232 (rdOf ByteArray.empty y233 (ji6)) t237 t240 true)) else (none)) else (incipitlaw16_TaskItems.j0 k a0 t232 (rdOf ByteArray.empty y233 (ji6)) t237 t240 true)) else (none)) else (incipitlaw16_TaskItems.j0 k a0 t232 (rdOf ByteArray.empty y233 (ji6)) t237 t240 true)))) else (none)) else (none)) else (none)) else (none)) = some r := by first | (rw [hji6] at H; exact H) | (simp only [hji6] at H ⊢; exact H)
    (try rw [hji6] at A3)
    by_cases c7 : 0 ≤ (ji6)
    · rw [if_pos c7] at H
      have c7b0 : decide (0 ≤ (ji6)) = true := decide_eq_true c7
      clear c7
      by_cases c8 : (ji6) < (y233.length : Int)
      · rw [if_pos c8] at H
        have c8b0 : decide ((ji6) < (y233.length : Int)) = true := decide_eq_true c8
        clear c8
        by_cases c9 : (rdOf ByteArray.empty y233 (ji6)).size + 1 ≤ 9223372036854775807
        · rw [if_pos c9] at H
          have c9b0 := eq_true c9
          have c9b1 : decide ((rdOf ByteArray.empty y233 (ji6)).size + 1 ≤ 9223372036854775807) = true := decide_eq_true c9
          try have c9b2 : (9223372036854775807 < (rdOf ByteArray.empty y233 (ji6)).size + 1) = False := eq_false (Nat.not_lt.2 c9)
          by_cases c10 : ((rdOf ByteArray.empty y233 (ji6)) ++ (⟨#[32]⟩ : ByteArray)).size + a0.size ≤ 9223372036854775807
          · rw [if_pos c10] at H
            have c10b0 := eq_true c10
            have c10b1 : decide (((rdOf ByteArray.empty y233 (ji6)) ++ (⟨#[32]⟩ : ByteArray)).size + a0.size ≤ 9223372036854775807) = true := decide_eq_true c10
            try have c10b2 : (9223372036854775807 < ((rdOf ByteArray.empty y233 (ji6)) ++ (⟨#[32]⟩ : ByteArray)).size + a0.size) = False := eq_false (Nat.not_lt.2 c10)
            replace H := Option.bind_eq_some_iff.mp H
            obtain ⟨t237, A110, H⟩ := H
            replace H : ((task_Apply.f t237).bind fun t240 => (if (t240.length : Int) = 1 then (if 0 < (t240.length : Int) then (if (((rd_T24 t240 0).f6).length : Int) = 1 then (if 0 < (((rd_T24 t240 0).f6).length : Int) then (if (((rd_T24 ((rd_T24 t240 0).f6) 0).f6).length : Int) = 1 then (if 0 < (((rd_T24 ((rd_T24 t240 0).f6) 0).f6).length : Int) then (incipitlaw16_TaskItems.j0 k a0 t232 (rdOf ByteArray.empty y233 (ji6)) t237 t240 ((((rd_T24 ((rd_T24 ((rd_T24 t240 0).f6) 0).f6) 0).f6).length : Int) != 2)) else (none)) else (incipitlaw16_TaskItems.j0 k a0 t232 (rdOf ByteArray.empty y233 (ji6)) t237 t240 true)) else (none)) else (incipitlaw16_TaskItems.j0 k a0 t232 (rdOf ByteArray.empty y233 (ji6)) t237 t240 true)) else (none)) else (incipitlaw16_TaskItems.j0 k a0 t232 (rdOf ByteArray.empty y233 (ji6)) t237 t240 true))) = some r := H
            have A11 := Aside0.mk A110
            clear A110
            replace H := Option.bind_eq_some_iff.mp H
            obtain ⟨t240, A120, H⟩ := H
            replace H : (if (t240.length : Int) = 1 then (if 0 < (t240.length : Int) then (if (((rd_T24 t240 0).f6).length : Int) = 1 then (if 0 < (((rd_T24 t240 0).f6).length : Int) then (if (((rd_T24 ((rd_T24 t240 0).f6) 0).f6).length : Int) = 1 then (if 0 < (((rd_T24 ((rd_T24 t240 0).f6) 0).f6).length : Int) then (incipitlaw16_TaskItems.j0 k a0 t232 (rdOf ByteArray.empty y233 (ji6)) t237 t240 ((((rd_T24 ((rd_T24 ((rd_T24 t240 0).f6) 0).f6) 0).f6).length : Int) != 2)) else (none)) else (incipitlaw16_TaskItems.j0 k a0 t232 (rdOf ByteArray.empty y233 (ji6)) t237 t240 true)) else (none)) else (incipitlaw16_TaskItems.j0 k a0 t232 (rdOf ByteArray.empty y233 (ji6)) t237 t240 true)) else (none)) else (incipitlaw16_TaskItems.j0 k a0 t232 (rdOf ByteArray.empty y233 (ji6)) t237 t240 true)) = some r := H
            have A12 := Aside0.mk A120
            clear A120
            have HC13 := Aside0.mk H
            clear H
            go_enter Try.func8, Try.ntmps8
            go_upto_region 7 with (first | ((with_reducible refine gate_callee (f := 30) rfl ?_); refine goesL_ (some 11) rfl rfl Try.func30 (by kernel_rfl) rfl #[] rfl (by (try simp only [List.map_toArray, List.map_cons, List.map_nil]); first | done | rfl | (simp only [List.length_drop, List.length_take]; rfl)) ?_; (with_reducible refine (incipitlaw16_awake.calls k  t232 _ A3.out).mono ?_); rintro e w14 ⟨rfl, hb⟩; refine ⟨_, rfl, ?_⟩; have n0_ := Aside0.mk (below_step (by repeat (first | (with_reducible first | exact HB.out | apply below_alloc | apply pw_below_drewN | apply below_drew1) | exact HB.out)) hb); clear HB; have HB := n0_; clear n0_; (try clear hb); (try clear hb2); (try clear hk); (try clear hi)) | ((with_reducible refine gate_dst (N := 16) rfl ?_); (try (refine gate_guard (by rfl) ?_; dsimp only)); refine Kd.R_lit Kd.string _ 9 ?hg (N := 16) ?hd (xs := ([(⟨#[91, 32, 93]⟩ : ByteArray), (⟨#[91, 120, 93]⟩ : ByteArray), (⟨#[91, 88, 93]⟩ : ByteArray)] : List ByteArray)) (inner := [.string (⟨#[91, 32, 93]⟩ : ByteArray), .string (⟨#[91, 120, 93]⟩ : ByteArray), .string (⟨#[91, 88, 93]⟩ : ByteArray)]) (ok := fun _ => True) (okp := fun _ => True) ?hr ?hp (fun _ hk => hk) trivial (Below.refl _ _) (Nat.le_refl _) (by simp) ?_; (case hd => rfl); (case hg => rfl); (case hr => first | (go_simp; done) | (go_simp; rfl)); (case hp => exact (Reps.one (show Kd.M Kd.string _ _ _ (⟨#[91, 32, 93]⟩ : ByteArray) [.string (⟨#[91, 32, 93]⟩ : ByteArray)] from rfl) (Reps.one (show Kd.M Kd.string _ _ _ (⟨#[91, 120, 93]⟩ : ByteArray) [.string (⟨#[91, 120, 93]⟩ : ByteArray)] from rfl) (Reps.one (show Kd.M Kd.string _ _ _ (⟨#[91, 88, 93]⟩ : ByteArray) [.string (⟨#[91, 88, 93]⟩ : ByteArray)] from rfl) (Reps.none _ _))))); intro v234 w15 ho16 hb hg_ hnew_; clear hg_ hnew_; (first | rw [← Ny233.out] at ho16 | (simp only [Int.reduceToNat] at ho16; rw [← Ny233.out] at ho16)); have n0_ := Aside0.mk (Kd.R_lower ho16 (below_size (by repeat (first | (with_reducible first | exact HB.out | apply below_alloc | apply pw_below_drewN | apply below_drew1) | exact HB.out)))); have n1_ := Aside0.mk (below_step (by repeat (first | (with_reducible first | exact HB.out | apply below_alloc | apply pw_below_drewN | apply below_drew1) | exact HB.out)) hb); clear HB; have HO235 := n0_; have HB := n1_; clear n0_ n1_; clear hb ho16; obtain ⟨Ao17, co17, eo17⟩ := Kd.R_slice HO235.out; subst eo17; have p236 : 0 ≤ ((ji6) : Int) := of_decide_eq_true (by first | (with_reducible assumption) | assumption); have q236 : (ji6) < (y233.length : Int) := of_decide_eq_true (by first | (with_reducible assumption) | assumption); obtain ⟨ad236, e236, hx236_0⟩ := Kd.at_string (Kd.R_reads' HO235.out).2.2 (ji6) p236 q236; cases e236; replace p236 := eq_true p236; replace q236 := eq_true q236) | ((with_reducible refine gate_callee (f := 34) rfl ?_); refine goesL_ (some 26) rfl rfl Try.func34 (by kernel_rfl) rfl #[.string (((rdOf ByteArray.empty y233 (ji6)) ++ (⟨#[32]⟩ : ByteArray)) ++ a0)] rfl (by (try simp only [List.map_toArray, List.map_cons, List.map_nil]); first | done | (simp only [hji6]; rfl) | rfl | (simp only [List.length_drop, List.length_take]; rfl)) ?_; (with_reducible refine (incipitlaw16_item.calls (((rdOf ByteArray.empty y233 (ji6)) ++ (⟨#[32]⟩ : ByteArray)) ++ a0) t237 _ A11.out).mono ?_); rintro e w18 ⟨v238, rfl, ho0, hb⟩; refine ⟨_, rfl, ?_⟩; have n0_ := Aside0.mk (Kd.R_below (by (with_reducible repeat (first | apply Kd.R_alloc | apply Kd.R_drewN | apply Kd.R_drew)); exact HO235.out) hb); have n1_ := Aside0.mk (Kd.N_lower (Kd.N_mono (ok' := fun k_ => some k_ ≠ (.slice (some ad236) y233.length co17 : Value).ownBlock) ho0 (fun k_ hk_ => (Kd.fresh' (Kd.R_lt (by (with_reducible repeat (first | apply Kd.R_alloc | apply Kd.R_drewN | apply Kd.R_drew)); exact HO235.out)) k_ hk_))) (below_size (by repeat (first | (with_reducible first | exact HB.out | apply below_alloc | apply pw_below_drewN | apply below_drew1) | exact HB.out)))); have n2_ := Aside0.mk (below_step (by repeat (first | (with_reducible first | exact HB.out | apply below_alloc | apply pw_below_drewN | apply below_drew1) | exact HB.out)) hb); clear HO235; clear HB; have HO235 := n0_; have HO239 := n1_; have HB := n2_; clear n0_ n1_ n2_; (try clear hb); (try clear hb2); (try clear hk); (try clear hi); (try clear ho0); obtain ⟨Ao19, co19, eo19⟩ := Kd.N_slice HO239.out; subst eo19) | ((with_reducible refine gate_callee (f := 31) rfl ?_); refine goesL_ (some 28) rfl rfl Try.func31 (by kernel_rfl) rfl #[.slice Ao19 t237.length co19] rfl (by (try simp only [List.map_toArray, List.map_cons, List.map_nil]); first | done | rfl | (simp only [List.length_drop, List.length_take]; rfl)) ?_; (with_reducible refine (task_Apply.calls _ _ t237 t240 _ ?side1 ?side2 A12.out).mono ?_); (case side1 => repeat (first | exact (Kd.N_reads' HO239.out).2.2 | (with_reducible refine Kd.C_alloc ?_ _) | (with_reducible refine Kd.C_drewN ?_ _) | (with_reducible refine Kd.C_drew ?_))); (case side2 => exact (Kd.N_reads' HO239.out).2.1); rintro e w20 ⟨v241, rfl, ho0, hb⟩; refine ⟨_, rfl, ?_⟩; have n0_ := Aside0.mk (Kd.R_below (by (with_reducible repeat (first | apply Kd.R_alloc | apply Kd.R_drewN | apply Kd.R_drew)); exact HO235.out) hb); have n1_ := Aside0.mk (Kd.N_elder' (by (with_reducible repeat (first | apply Kd.N_alloc | apply Kd.N_drewN | apply Kd.N_drew)); exact HO239.out) (Kd.N_base ho0) hb); have n2_ := Aside0.mk (Kd.N_lower (Kd.N_mono (ok' := fun k_ => some k_ ≠ (.slice (some ad236) y233.length co17 : Value).ownBlock ∧ some k_ ≠ (.slice Ao19 t237.length co19 : Value).ownBlock) ho0 (fun k_ hk_ => ⟨(Kd.fresh' (Kd.R_lt (by (with_reducible repeat (first | apply Kd.R_alloc | apply Kd.R_drewN | apply Kd.R_drew)); exact HO235.out)) k_ hk_), (Kd.fresh' (Kd.N_lt (by (with_reducible repeat (first | apply Kd.N_alloc | apply Kd.N_drewN | apply Kd.N_drew)); exact HO239.out)) k_ hk_)⟩)) (below_size (by repeat (first | (with_reducible first | exact HB.out | apply below_alloc | apply pw_below_drewN | apply below_drew1) | exact HB.out)))); have n3_ := Aside0.mk (below_step (by repeat (first | (with_reducible first | exact HB.out | apply below_alloc | apply pw_below_drewN | apply below_drew1) | exact HB.out)) hb); clear HO235; clear HO239; clear HB; have HO235 := n0_; have HO239 := n1_; have HO242 := n2_; have HB := n3_; clear n0_ n1_ n2_ n3_; (try clear hb); (try clear hb2); (try clear hk); (try clear hi); (try clear ho0)))
            (try simp only [Act.put, List.setIfInBounds_toArray, List.set_cons_zero, List.set_cons_succ])
            go_cut [64] (fun v64 wc => ∃ (kq : Nat) (x64_12 : Bool), v64 = .bool x64_12 ∧ Aside0 (incipitlaw16_TaskItems.j0 kq a0 t232 (rdOf ByteArray.empty y233 (ji6)) t237 t240 x64_12 = some r) ∧ Aside0 (kq ≤ k) ∧ Aside0 (Kd.N k24 24 wc w.heap.size (fun k_ => some k_ ≠ (v241 : Value).ownBlock) (.slice Ao19 t237.length co19) t237) ∧ Aside0 (Kd.N k24 24 wc w.heap.size (fun k_ => some k_ ≠ ((.slice Ao19 t237.length co19) : Value).ownBlock) v241 t240) ∧ Aside0 (Below w.heap.size w wc))
            case first =>
              have H := HC13.out
              clear HC13
              by_cases c21 : (t240.length : Int) = 1
              · rw [if_pos c21] at H
                have c21b0 : ((t240.length : Int) == 1) = true := beq_iff_eq.mpr c21
                have c21b1 : ((t240.length : Int) != 1) = false := bne_eq_false_iff_eq.mpr c21
                clear c21
                (first | rw [c21b0] | (simp only [i64_w, i32_w]; rw [c21b0]) | skip)
                by_cases c22 : 0 < (t240.length : Int)
                · rw [if_pos c22] at H
                  have c22b0 : decide (0 < (t240.length : Int)) = true := decide_eq_true c22
                  have c22b1 : decide (0 < t240.length) = true := decide_eq_true (by omega)
                  clear c22
                  by_cases c23 : (((rd_T24 t240 0).f6).length : Int) = 1
                  · rw [if_pos c23] at H
                    have c23b0 : ((((rd_T24 t240 0).f6).length : Int) == 1) = true := beq_iff_eq.mpr c23
                    have c23b1 : ((((rd_T24 t240 0).f6).length : Int) != 1) = false := bne_eq_false_iff_eq.mpr c23
                    clear c23
                    by_cases c24 : 0 < (((rd_T24 t240 0).f6).length : Int)
                    · rw [if_pos c24] at H
                      have c24b0 : decide (0 < (((rd_T24 t240 0).f6).length : Int)) = true := decide_eq_true c24
                      have c24b1 : decide (0 < ((rd_T24 t240 0).f6).length) = true := decide_eq_true (by omega)
                      clear c24
                      by_cases c25 : (((rd_T24 ((rd_T24 t240 0).f6) 0).f6).length : Int) = 1
                      · rw [if_pos c25] at H
                        have c25b0 : ((((rd_T24 ((rd_T24 t240 0).f6) 0).f6).length : Int) == 1) = true := beq_iff_eq.mpr c25
                        have c25b1 : ((((rd_T24 ((rd_T24 t240 0).f6) 0).f6).length : Int) != 1) = false := bne_eq_false_iff_eq.mpr c25
                        clear c25
                        by_cases c26 : 0 < (((rd_T24 ((rd_T24 t240 0).f6) 0).f6).length : Int)
                        · rw [if_pos c26] at H
                          have c26b0 : decide (0 < (((rd_T24 ((rd_T24 t240 0).f6) 0).f6).length : Int)) = true := decide_eq_true c26
                          have c26b1 : decide (0 < ((rd_T24 ((rd_T24 t240 0).f6) 0).f6).length) = true := decide_eq_true (by omega)
                          clear c26
                          have H' := Aside0.mk H
                          clear H
                          obtain ⟨Ao27, co27, eo27⟩ := Kd.N_slice HO242.out
                          subst eo27
                          have p243 : 0 ≤ (0 : Int) := (by omega)
                          have q243 : 0 < (t240.length : Int) := of_decide_eq_true (by first | (with_reducible assumption) | assumption)
                          obtain ⟨ad243, A243_6, c243_6, e243, hx243_0, hx243_1, hx243_2, hx243_3, hx243_4, hx243_5, hx243_6, hl243_6, hi243_6⟩ := at_T24 (Kd.N_reads' HO242.out).2.2 0 p243 q243
                          cases e243
                          obtain ⟨ce243, hce243, hMe243, hcc243⟩ := Kd.N_get HO242.out z24 0 p243 (by first | exact q243 | exact of_decide_eq_true (by first | (with_reducible assumption) | assumption) | (have e_ := (Kd.N_reads' HO242.out).1; omega))
                          obtain ⟨ua243_6, uc243_6, rfl, ul243_6, ge243_6⟩ := k24_openF hMe243
                          have hv243_6 := hcc243 6 _ rfl
                          rw [add_field _ _ 6 (by omega)] at hv243_6
                          replace hv243_6 := Option.some.inj (hv243_6.symm.trans hx243_6)
                          injection hv243_6 with hva_ hvn_ hvc_
                          rw [hva_] at ge243_6
                          rw [hvc_] at ul243_6
                          have HL243_6 := Aside0.mk (show Kd.V k24 24 _ w.heap.size _ _ ((rd_T24 t240 0).f6) from Kd.V_mk ul243_6 ge243_6)
                          clear hva_ hvn_ hvc_ ge243_6 ul243_6
                          clear hcc243 hce243
                          have qi243 : (0 < t240.length) = True := eq_true (by omega)
                          (try rw [show ((0 : Int)).toNat = 0 from rfl] at hx243_0)
                          (try rw [show 0 * 7 = 0 from rfl] at hx243_0)
                          (try rw [Addr.add_zero'] at hx243_0)
                          (try rw [show ((0 : Int)).toNat = 0 from rfl] at hx243_1)
                          (try rw [show 0 * 7 = 0 from rfl] at hx243_1)
                          (try rw [Addr.add_zero'] at hx243_1)
                          (try rw [show ((0 : Int)).toNat = 0 from rfl] at hx243_2)
                          (try rw [show 0 * 7 = 0 from rfl] at hx243_2)
                          (try rw [Addr.add_zero'] at hx243_2)
                          (try rw [show ((0 : Int)).toNat = 0 from rfl] at hx243_3)
                          (try rw [show 0 * 7 = 0 from rfl] at hx243_3)
                          (try rw [Addr.add_zero'] at hx243_3)
                          (try rw [show ((0 : Int)).toNat = 0 from rfl] at hx243_4)
                          (try rw [show 0 * 7 = 0 from rfl] at hx243_4)
                          (try rw [Addr.add_zero'] at hx243_4)
                          (try rw [show ((0 : Int)).toNat = 0 from rfl] at hx243_5)
                          (try rw [show 0 * 7 = 0 from rfl] at hx243_5)
                          (try rw [Addr.add_zero'] at hx243_5)
                          (try rw [show ((0 : Int)).toNat = 0 from rfl] at hx243_6)
                          (try rw [show 0 * 7 = 0 from rfl] at hx243_6)
                          (try rw [Addr.add_zero'] at hx243_6)
                          have HR243_6 := Aside0.mk hi243_6
                          have HC243_6 := Aside0.mk hl243_6
                          clear hi243_6 hl243_6
                          replace p243 := eq_true p243
                          replace q243 := eq_true q243
                          have p244 : 0 ≤ (0 : Int) := (by omega)
                          have q244 : 0 < (t240.length : Int) := of_decide_eq_true (by first | (with_reducible assumption) | assumption)
                          obtain ⟨ad244, A244_6, c244_6, e244, hx244_0, hx244_1, hx244_2, hx244_3, hx244_4, hx244_5, hx244_6, hl244_6, hi244_6⟩ := at_T24 (Kd.N_reads' HO242.out).2.2 0 p244 q244
                          obtain rfl : ad243 = ad244 := (by injection e244)
                          obtain ⟨ce244, hce244, hMe244, hcc244⟩ := Kd.N_get HO242.out z24 0 p244 (by first | exact q244 | exact of_decide_eq_true (by first | (with_reducible assumption) | assumption) | (have e_ := (Kd.N_reads' HO242.out).1; omega))
                          obtain ⟨ua244_6, uc244_6, rfl, ul244_6, ge244_6⟩ := k24_openF hMe244
                          have hv244_6 := hcc244 6 _ rfl
                          rw [add_field _ _ 6 (by omega)] at hv244_6
                          replace hv244_6 := Option.some.inj (hv244_6.symm.trans hx244_6)
                          injection hv244_6 with hva_ hvn_ hvc_
                          rw [hva_] at ge244_6
                          rw [hvc_] at ul244_6
                          have HL244_6 := Aside0.mk (show Kd.V k24 24 _ w.heap.size _ _ ((rd_T24 t240 0).f6) from Kd.V_mk ul244_6 ge244_6)
                          clear hva_ hvn_ hvc_ ge244_6 ul244_6
                          clear hcc244 hce244
                          have qi244 : (0 < t240.length) = True := eq_true (by omega)
                          (try rw [show ((0 : Int)).toNat = 0 from rfl] at hx244_0)
                          (try rw [show 0 * 7 = 0 from rfl] at hx244_0)
                          (try rw [Addr.add_zero'] at hx244_0)
                          (try rw [show ((0 : Int)).toNat = 0 from rfl] at hx244_1)
                          (try rw [show 0 * 7 = 0 from rfl] at hx244_1)
                          (try rw [Addr.add_zero'] at hx244_1)
                          (try rw [show ((0 : Int)).toNat = 0 from rfl] at hx244_2)
                          (try rw [show 0 * 7 = 0 from rfl] at hx244_2)
                          (try rw [Addr.add_zero'] at hx244_2)
                          (try rw [show ((0 : Int)).toNat = 0 from rfl] at hx244_3)
                          (try rw [show 0 * 7 = 0 from rfl] at hx244_3)
                          (try rw [Addr.add_zero'] at hx244_3)
                          (try rw [show ((0 : Int)).toNat = 0 from rfl] at hx244_4)
                          (try rw [show 0 * 7 = 0 from rfl] at hx244_4)
                          (try rw [Addr.add_zero'] at hx244_4)
                          (try rw [show ((0 : Int)).toNat = 0 from rfl] at hx244_5)
                          (try rw [show 0 * 7 = 0 from rfl] at hx244_5)
                          (try rw [Addr.add_zero'] at hx244_5)
                          (try rw [show ((0 : Int)).toNat = 0 from rfl] at hx244_6)
                          (try rw [show 0 * 7 = 0 from rfl] at hx244_6)
                          (try rw [Addr.add_zero'] at hx244_6)
                          have HR244_6 := Aside0.mk hi244_6
                          have HC244_6 := Aside0.mk hl244_6
                          clear hi244_6 hl244_6
                          replace p244 := eq_true p244
                          replace q244 := eq_true q244
                          have ea_ := Option.some.inj (hx243_6.symm.trans hx244_6)
                          injection ea_ with ea_ en_ ec_
                          subst ea_
                          subst ec_
                          clear en_
                          have p245 : 0 ≤ (0 : Int) := (by omega)
                          have q245 : 0 < (((rd_T24 t240 0).f6).length : Int) := of_decide_eq_true (by first | (with_reducible assumption) | assumption)
                          obtain ⟨ad245, A245_6, c245_6, e245, hx245_0, hx245_1, hx245_2, hx245_3, hx245_4, hx245_5, hx245_6, hl245_6, hi245_6⟩ := at_T24 (by repeat (first | (with_reducible exact HR244_6.out) | (with_reducible refine Kd.C_alloc ?_ _) | (with_reducible refine Kd.C_drewN ?_ _) | (with_reducible refine Kd.C_drew ?_) | exact HR244_6.out)) 0 p245 q245
                          cases e245
                          obtain ⟨ce245, hce245, hMe245, hcc245⟩ := Kd.V_get HL244_6.out z24 0 p245 (by first | exact q245 | exact of_decide_eq_true (by first | (with_reducible assumption) | assumption) | (have e_ := (Kd.V_reads' HL244_6.out).1; omega))
                          obtain ⟨ua245_6, uc245_6, rfl, ul245_6, ge245_6⟩ := k24_openF hMe245
                          have hv245_6 := hcc245 6 _ rfl
                          rw [add_field _ _ 6 (by omega)] at hv245_6
                          replace hv245_6 := Option.some.inj (hv245_6.symm.trans hx245_6)
                          injection hv245_6 with hva_ hvn_ hvc_
                          rw [hva_] at ge245_6
                          rw [hvc_] at ul245_6
                          have HL245_6 := Aside0.mk (show Kd.V k24 24 _ w.heap.size _ _ ((rd_T24 ((rd_T24 t240 0).f6) 0).f6) from Kd.V_mk ul245_6 ge245_6)
                          clear hva_ hvn_ hvc_ ge245_6 ul245_6
                          clear hcc245 hce245
                          have qi245 : (0 < ((rd_T24 t240 0).f6).length) = True := eq_true (by omega)
                          (try rw [show ((0 : Int)).toNat = 0 from rfl] at hx245_0)
                          (try rw [show 0 * 7 = 0 from rfl] at hx245_0)
                          (try rw [Addr.add_zero'] at hx245_0)
                          (try rw [show ((0 : Int)).toNat = 0 from rfl] at hx245_1)
                          (try rw [show 0 * 7 = 0 from rfl] at hx245_1)
                          (try rw [Addr.add_zero'] at hx245_1)
                          (try rw [show ((0 : Int)).toNat = 0 from rfl] at hx245_2)
                          (try rw [show 0 * 7 = 0 from rfl] at hx245_2)
                          (try rw [Addr.add_zero'] at hx245_2)
                          (try rw [show ((0 : Int)).toNat = 0 from rfl] at hx245_3)
                          (try rw [show 0 * 7 = 0 from rfl] at hx245_3)
                          (try rw [Addr.add_zero'] at hx245_3)
                          (try rw [show ((0 : Int)).toNat = 0 from rfl] at hx245_4)
                          (try rw [show 0 * 7 = 0 from rfl] at hx245_4)
                          (try rw [Addr.add_zero'] at hx245_4)
                          (try rw [show ((0 : Int)).toNat = 0 from rfl] at hx245_5)
                          (try rw [show 0 * 7 = 0 from rfl] at hx245_5)
                          (try rw [Addr.add_zero'] at hx245_5)
                          (try rw [show ((0 : Int)).toNat = 0 from rfl] at hx245_6)
                          (try rw [show 0 * 7 = 0 from rfl] at hx245_6)
                          (try rw [Addr.add_zero'] at hx245_6)
                          have HR245_6 := Aside0.mk hi245_6
                          have HC245_6 := Aside0.mk hl245_6
                          clear hi245_6 hl245_6
                          replace p245 := eq_true p245
                          replace q245 := eq_true q245
                          have p246 : 0 ≤ (0 : Int) := (by omega)
                          have q246 : 0 < (t240.length : Int) := of_decide_eq_true (by first | (with_reducible assumption) | assumption)
                          obtain ⟨ad246, A246_6, c246_6, e246, hx246_0, hx246_1, hx246_2, hx246_3, hx246_4, hx246_5, hx246_6, hl246_6, hi246_6⟩ := at_T24 (Kd.N_reads' HO242.out).2.2 0 p246 q246
                          obtain rfl : ad243 = ad246 := (by injection e246)
                          obtain ⟨ce246, hce246, hMe246, hcc246⟩ := Kd.N_get HO242.out z24 0 p246 (by first | exact q246 | exact of_decide_eq_true (by first | (with_reducible assumption) | assumption) | (have e_ := (Kd.N_reads' HO242.out).1; omega))
                          obtain ⟨ua246_6, uc246_6, rfl, ul246_6, ge246_6⟩ := k24_openF hMe246
                          have hv246_6 := hcc246 6 _ rfl
                          rw [add_field _ _ 6 (by omega)] at hv246_6
                          replace hv246_6 := Option.some.inj (hv246_6.symm.trans hx246_6)
                          injection hv246_6 with hva_ hvn_ hvc_
                          rw [hva_] at ge246_6
                          rw [hvc_] at ul246_6
                          have HL246_6 := Aside0.mk (show Kd.V k24 24 _ w.heap.size _ _ ((rd_T24 t240 0).f6) from Kd.V_mk ul246_6 ge246_6)
                          clear hva_ hvn_ hvc_ ge246_6 ul246_6
                          clear hcc246 hce246
                          have qi246 : (0 < t240.length) = True := eq_true (by omega)
                          (try rw [show ((0 : Int)).toNat = 0 from rfl] at hx246_0)
                          (try rw [show 0 * 7 = 0 from rfl] at hx246_0)
                          (try rw [Addr.add_zero'] at hx246_0)
                          (try rw [show ((0 : Int)).toNat = 0 from rfl] at hx246_1)
                          (try rw [show 0 * 7 = 0 from rfl] at hx246_1)
                          (try rw [Addr.add_zero'] at hx246_1)
                          (try rw [show ((0 : Int)).toNat = 0 from rfl] at hx246_2)
                          (try rw [show 0 * 7 = 0 from rfl] at hx246_2)
                          (try rw [Addr.add_zero'] at hx246_2)
                          (try rw [show ((0 : Int)).toNat = 0 from rfl] at hx246_3)
                          (try rw [show 0 * 7 = 0 from rfl] at hx246_3)
                          (try rw [Addr.add_zero'] at hx246_3)
                          (try rw [show ((0 : Int)).toNat = 0 from rfl] at hx246_4)
                          (try rw [show 0 * 7 = 0 from rfl] at hx246_4)
                          (try rw [Addr.add_zero'] at hx246_4)
                          (try rw [show ((0 : Int)).toNat = 0 from rfl] at hx246_5)
                          (try rw [show 0 * 7 = 0 from rfl] at hx246_5)
                          (try rw [Addr.add_zero'] at hx246_5)
                          (try rw [show ((0 : Int)).toNat = 0 from rfl] at hx246_6)
                          (try rw [show 0 * 7 = 0 from rfl] at hx246_6)
                          (try rw [Addr.add_zero'] at hx246_6)
                          have HR246_6 := Aside0.mk hi246_6
                          have HC246_6 := Aside0.mk hl246_6
                          clear hi246_6 hl246_6
                          replace p246 := eq_true p246
                          replace q246 := eq_true q246
                          have ea_ := Option.some.inj (hx243_6.symm.trans hx246_6)
                          injection ea_ with ea_ en_ ec_
                          subst ea_
                          subst ec_
                          clear en_
                          have p247 : 0 ≤ (0 : Int) := (by omega)
                          have q247 : 0 < (((rd_T24 t240 0).f6).length : Int) := of_decide_eq_true (by first | (with_reducible assumption) | assumption)
                          obtain ⟨ad247, A247_6, c247_6, e247, hx247_0, hx247_1, hx247_2, hx247_3, hx247_4, hx247_5, hx247_6, hl247_6, hi247_6⟩ := at_T24 (by repeat (first | (with_reducible exact HR246_6.out) | (with_reducible refine Kd.C_alloc ?_ _) | (with_reducible refine Kd.C_drewN ?_ _) | (with_reducible refine Kd.C_drew ?_) | exact HR246_6.out)) 0 p247 q247
                          cases e247
                          obtain ⟨ce247, hce247, hMe247, hcc247⟩ := Kd.V_get HL246_6.out z24 0 p247 (by first | exact q247 | exact of_decide_eq_true (by first | (with_reducible assumption) | assumption) | (have e_ := (Kd.V_reads' HL246_6.out).1; omega))
                          obtain ⟨ua247_6, uc247_6, rfl, ul247_6, ge247_6⟩ := k24_openF hMe247
                          have hv247_6 := hcc247 6 _ rfl
                          rw [add_field _ _ 6 (by omega)] at hv247_6
                          replace hv247_6 := Option.some.inj (hv247_6.symm.trans hx247_6)
                          injection hv247_6 with hva_ hvn_ hvc_
                          rw [hva_] at ge247_6
                          rw [hvc_] at ul247_6
                          have HL247_6 := Aside0.mk (show Kd.V k24 24 _ w.heap.size _ _ ((rd_T24 ((rd_T24 t240 0).f6) 0).f6) from Kd.V_mk ul247_6 ge247_6)
                          clear hva_ hvn_ hvc_ ge247_6 ul247_6
                          clear hcc247 hce247
                          have qi247 : (0 < ((rd_T24 t240 0).f6).length) = True := eq_true (by omega)
                          (try rw [show ((0 : Int)).toNat = 0 from rfl] at hx247_0)
                          (try rw [show 0 * 7 = 0 from rfl] at hx247_0)
                          (try rw [Addr.add_zero'] at hx247_0)
                          (try rw [show ((0 : Int)).toNat = 0 from rfl] at hx247_1)
                          (try rw [show 0 * 7 = 0 from rfl] at hx247_1)
                          (try rw [Addr.add_zero'] at hx247_1)
                          (try rw [show ((0 : Int)).toNat = 0 from rfl] at hx247_2)
                          (try rw [show 0 * 7 = 0 from rfl] at hx247_2)
                          (try rw [Addr.add_zero'] at hx247_2)
                          (try rw [show ((0 : Int)).toNat = 0 from rfl] at hx247_3)
                          (try rw [show 0 * 7 = 0 from rfl] at hx247_3)
                          (try rw [Addr.add_zero'] at hx247_3)
                          (try rw [show ((0 : Int)).toNat = 0 from rfl] at hx247_4)
                          (try rw [show 0 * 7 = 0 from rfl] at hx247_4)
                          (try rw [Addr.add_zero'] at hx247_4)
                          (try rw [show ((0 : Int)).toNat = 0 from rfl] at hx247_5)
                          (try rw [show 0 * 7 = 0 from rfl] at hx247_5)
                          (try rw [Addr.add_zero'] at hx247_5)
                          (try rw [show ((0 : Int)).toNat = 0 from rfl] at hx247_6)
                          (try rw [show 0 * 7 = 0 from rfl] at hx247_6)
                          (try rw [Addr.add_zero'] at hx247_6)
                          have HR247_6 := Aside0.mk hi247_6
                          have HC247_6 := Aside0.mk hl247_6
                          clear hi247_6 hl247_6
                          replace p247 := eq_true p247
                          replace q247 := eq_true q247
                          have ea_ := Option.some.inj (hx245_6.symm.trans hx247_6)
                          injection ea_ with ea_ en_ ec_
                          subst ea_
                          subst ec_
                          clear en_
                          have p248 : 0 ≤ (0 : Int) := (by omega)
                          have q248 : 0 < (((rd_T24 ((rd_T24 t240 0).f6) 0).f6).length : Int) := of_decide_eq_true (by first | (with_reducible assumption) | assumption)
                          obtain ⟨ad248, A248_6, c248_6, e248, hx248_0, hx248_1, hx248_2, hx248_3, hx248_4, hx248_5, hx248_6, hl248_6, hi248_6⟩ := at_T24 (by repeat (first | (with_reducible exact HR247_6.out) | (with_reducible refine Kd.C_alloc ?_ _) | (with_reducible refine Kd.C_drewN ?_ _) | (with_reducible refine Kd.C_drew ?_) | exact HR247_6.out)) 0 p248 q248
                          cases e248
                          obtain ⟨ce248, hce248, hMe248, hcc248⟩ := Kd.V_get HL247_6.out z24 0 p248 (by first | exact q248 | exact of_decide_eq_true (by first | (with_reducible assumption) | assumption) | (have e_ := (Kd.V_reads' HL247_6.out).1; omega))
                          obtain ⟨ua248_6, uc248_6, rfl, ul248_6, ge248_6⟩ := k24_openF hMe248
                          have hv248_6 := hcc248 6 _ rfl
                          rw [add_field _ _ 6 (by omega)] at hv248_6
                          replace hv248_6 := Option.some.inj (hv248_6.symm.trans hx248_6)
                          injection hv248_6 with hva_ hvn_ hvc_
                          rw [hva_] at ge248_6
                          rw [hvc_] at ul248_6
                          have HL248_6 := Aside0.mk (show Kd.V k24 24 _ w.heap.size _ _ ((rd_T24 ((rd_T24 ((rd_T24 t240 0).f6) 0).f6) 0).f6) from Kd.V_mk ul248_6 ge248_6)
                          clear hva_ hvn_ hvc_ ge248_6 ul248_6
                          clear hcc248 hce248
                          have qi248 : (0 < ((rd_T24 ((rd_T24 t240 0).f6) 0).f6).length) = True := eq_true (by omega)
                          (try rw [show ((0 : Int)).toNat = 0 from rfl] at hx248_0)
                          (try rw [show 0 * 7 = 0 from rfl] at hx248_0)
                          (try rw [Addr.add_zero'] at hx248_0)
                          (try rw [show ((0 : Int)).toNat = 0 from rfl] at hx248_1)
                          (try rw [show 0 * 7 = 0 from rfl] at hx248_1)
                          (try rw [Addr.add_zero'] at hx248_1)
                          (try rw [show ((0 : Int)).toNat = 0 from rfl] at hx248_2)
                          (try rw [show 0 * 7 = 0 from rfl] at hx248_2)
                          (try rw [Addr.add_zero'] at hx248_2)
                          (try rw [show ((0 : Int)).toNat = 0 from rfl] at hx248_3)
                          (try rw [show 0 * 7 = 0 from rfl] at hx248_3)
                          (try rw [Addr.add_zero'] at hx248_3)
                          (try rw [show ((0 : Int)).toNat = 0 from rfl] at hx248_4)
                          (try rw [show 0 * 7 = 0 from rfl] at hx248_4)
                          (try rw [Addr.add_zero'] at hx248_4)
                          (try rw [show ((0 : Int)).toNat = 0 from rfl] at hx248_5)
                          (try rw [show 0 * 7 = 0 from rfl] at hx248_5)
                          (try rw [Addr.add_zero'] at hx248_5)
                          (try rw [show ((0 : Int)).toNat = 0 from rfl] at hx248_6)
                          (try rw [show 0 * 7 = 0 from rfl] at hx248_6)
                          (try rw [Addr.add_zero'] at hx248_6)
                          have HR248_6 := Aside0.mk hi248_6
                          have HC248_6 := Aside0.mk hl248_6
                          clear hi248_6 hl248_6
                          replace p248 := eq_true p248
                          replace q248 := eq_true q248
                          go_wp2
                          go_meet
                          case rel => exact ⟨_, (((((rd_T24 ((rd_T24 ((rd_T24 t240 0).f6) 0).f6) 0).f6).length : Int) != 2)), (by first | rfl | (simp; done) | (simp [*]; done)), H', ⟨by first | omega | exact Nat.le_refl _⟩, ⟨by (with_reducible repeat (first | apply Kd.N_alloc | apply Kd.N_drewN | apply Kd.N_drew)); exact Kd.N_mono HO239.out (fun _ hk => hk.2)⟩, ⟨by (with_reducible repeat (first | apply Kd.N_alloc | apply Kd.N_drewN | apply Kd.N_drew)); exact Kd.N_mono HO242.out (fun _ hk => hk.2)⟩, ⟨by repeat (first | (with_reducible first | exact HB.out | apply below_alloc | apply pw_below_drewN | apply below_drew1) | exact HB.out)⟩⟩
                        · rw [if_neg c26] at H
                          exact absurd H (by simp)
                      · rw [if_neg c25] at H
                        have c25b0 : ((((rd_T24 ((rd_T24 t240 0).f6) 0).f6).length : Int) == 1) = false := beq_eq_false_iff_ne.mpr c25
                        have c25b1 : ((((rd_T24 ((rd_T24 t240 0).f6) 0).f6).length : Int) != 1) = true := bne_iff_ne.mpr c25
                        have H' := Aside0.mk H
                        clear H
                        obtain ⟨Ao28, co28, eo28⟩ := Kd.N_slice HO242.out
                        subst eo28
                        have p243 : 0 ≤ (0 : Int) := (by omega)
                        have q243 : 0 < (t240.length : Int) := of_decide_eq_true (by first | (with_reducible assumption) | assumption)
                        obtain ⟨ad243, A243_6, c243_6, e243, hx243_0, hx243_1, hx243_2, hx243_3, hx243_4, hx243_5, hx243_6, hl243_6, hi243_6⟩ := at_T24 (Kd.N_reads' HO242.out).2.2 0 p243 q243
                        cases e243
                        obtain ⟨ce243, hce243, hMe243, hcc243⟩ := Kd.N_get HO242.out z24 0 p243 (by first | exact q243 | exact of_decide_eq_true (by first | (with_reducible assumption) | assumption) | (have e_ := (Kd.N_reads' HO242.out).1; omega))
                        obtain ⟨ua243_6, uc243_6, rfl, ul243_6, ge243_6⟩ := k24_openF hMe243
                        have hv243_6 := hcc243 6 _ rfl
                        rw [add_field _ _ 6 (by omega)] at hv243_6
                        replace hv243_6 := Option.some.inj (hv243_6.symm.trans hx243_6)
                        injection hv243_6 with hva_ hvn_ hvc_
                        rw [hva_] at ge243_6
                        rw [hvc_] at ul243_6
                        have HL243_6 := Aside0.mk (show Kd.V k24 24 _ w.heap.size _ _ ((rd_T24 t240 0).f6) from Kd.V_mk ul243_6 ge243_6)
                        clear hva_ hvn_ hvc_ ge243_6 ul243_6
                        clear hcc243 hce243
                        have qi243 : (0 < t240.length) = True := eq_true (by omega)
                        (try rw [show ((0 : Int)).toNat = 0 from rfl] at hx243_0)
                        (try rw [show 0 * 7 = 0 from rfl] at hx243_0)
                        (try rw [Addr.add_zero'] at hx243_0)
                        (try rw [show ((0 : Int)).toNat = 0 from rfl] at hx243_1)
                        (try rw [show 0 * 7 = 0 from rfl] at hx243_1)
                        (try rw [Addr.add_zero'] at hx243_1)
                        (try rw [show ((0 : Int)).toNat = 0 from rfl] at hx243_2)
                        (try rw [show 0 * 7 = 0 from rfl] at hx243_2)
                        (try rw [Addr.add_zero'] at hx243_2)
                        (try rw [show ((0 : Int)).toNat = 0 from rfl] at hx243_3)
                        (try rw [show 0 * 7 = 0 from rfl] at hx243_3)
                        (try rw [Addr.add_zero'] at hx243_3)
                        (try rw [show ((0 : Int)).toNat = 0 from rfl] at hx243_4)
                        (try rw [show 0 * 7 = 0 from rfl] at hx243_4)
                        (try rw [Addr.add_zero'] at hx243_4)
                        (try rw [show ((0 : Int)).toNat = 0 from rfl] at hx243_5)
                        (try rw [show 0 * 7 = 0 from rfl] at hx243_5)
                        (try rw [Addr.add_zero'] at hx243_5)
                        (try rw [show ((0 : Int)).toNat = 0 from rfl] at hx243_6)
                        (try rw [show 0 * 7 = 0 from rfl] at hx243_6)
                        (try rw [Addr.add_zero'] at hx243_6)
                        have HR243_6 := Aside0.mk hi243_6
                        have HC243_6 := Aside0.mk hl243_6
                        clear hi243_6 hl243_6
                        replace p243 := eq_true p243
                        replace q243 := eq_true q243
                        have p244 : 0 ≤ (0 : Int) := (by omega)
                        have q244 : 0 < (t240.length : Int) := of_decide_eq_true (by first | (with_reducible assumption) | assumption)
                        obtain ⟨ad244, A244_6, c244_6, e244, hx244_0, hx244_1, hx244_2, hx244_3, hx244_4, hx244_5, hx244_6, hl244_6, hi244_6⟩ := at_T24 (Kd.N_reads' HO242.out).2.2 0 p244 q244
                        obtain rfl : ad243 = ad244 := (by injection e244)
                        obtain ⟨ce244, hce244, hMe244, hcc244⟩ := Kd.N_get HO242.out z24 0 p244 (by first | exact q244 | exact of_decide_eq_true (by first | (with_reducible assumption) | assumption) | (have e_ := (Kd.N_reads' HO242.out).1; omega))
                        obtain ⟨ua244_6, uc244_6, rfl, ul244_6, ge244_6⟩ := k24_openF hMe244
                        have hv244_6 := hcc244 6 _ rfl
                        rw [add_field _ _ 6 (by omega)] at hv244_6
                        replace hv244_6 := Option.some.inj (hv244_6.symm.trans hx244_6)
                        injection hv244_6 with hva_ hvn_ hvc_
                        rw [hva_] at ge244_6
                        rw [hvc_] at ul244_6
                        have HL244_6 := Aside0.mk (show Kd.V k24 24 _ w.heap.size _ _ ((rd_T24 t240 0).f6) from Kd.V_mk ul244_6 ge244_6)
                        clear hva_ hvn_ hvc_ ge244_6 ul244_6
                        clear hcc244 hce244
                        have qi244 : (0 < t240.length) = True := eq_true (by omega)
                        (try rw [show ((0 : Int)).toNat = 0 from rfl] at hx244_0)
                        (try rw [show 0 * 7 = 0 from rfl] at hx244_0)
                        (try rw [Addr.add_zero'] at hx244_0)
                        (try rw [show ((0 : Int)).toNat = 0 from rfl] at hx244_1)
                        (try rw [show 0 * 7 = 0 from rfl] at hx244_1)
                        (try rw [Addr.add_zero'] at hx244_1)
                        (try rw [show ((0 : Int)).toNat = 0 from rfl] at hx244_2)
                        (try rw [show 0 * 7 = 0 from rfl] at hx244_2)
                        (try rw [Addr.add_zero'] at hx244_2)
                        (try rw [show ((0 : Int)).toNat = 0 from rfl] at hx244_3)
                        (try rw [show 0 * 7 = 0 from rfl] at hx244_3)
                        (try rw [Addr.add_zero'] at hx244_3)
                        (try rw [show ((0 : Int)).toNat = 0 from rfl] at hx244_4)
                        (try rw [show 0 * 7 = 0 from rfl] at hx244_4)
                        (try rw [Addr.add_zero'] at hx244_4)
                        (try rw [show ((0 : Int)).toNat = 0 from rfl] at hx244_5)
                        (try rw [show 0 * 7 = 0 from rfl] at hx244_5)
                        (try rw [Addr.add_zero'] at hx244_5)
                        (try rw [show ((0 : Int)).toNat = 0 from rfl] at hx244_6)
                        (try rw [show 0 * 7 = 0 from rfl] at hx244_6)
                        (try rw [Addr.add_zero'] at hx244_6)
                        have HR244_6 := Aside0.mk hi244_6
                        have HC244_6 := Aside0.mk hl244_6
                        clear hi244_6 hl244_6
                        replace p244 := eq_true p244
                        replace q244 := eq_true q244
                        have ea_ := Option.some.inj (hx243_6.symm.trans hx244_6)
                        injection ea_ with ea_ en_ ec_
                        subst ea_
                        subst ec_
                        clear en_
                        have p245 : 0 ≤ (0 : Int) := (by omega)
                        have q245 : 0 < (((rd_T24 t240 0).f6).length : Int) := of_decide_eq_true (by first | (with_reducible assumption) | assumption)
                        obtain ⟨ad245, A245_6, c245_6, e245, hx245_0, hx245_1, hx245_2, hx245_3, hx245_4, hx245_5, hx245_6, hl245_6, hi245_6⟩ := at_T24 (by repeat (first | (with_reducible exact HR244_6.out) | (with_reducible refine Kd.C_alloc ?_ _) | (with_reducible refine Kd.C_drewN ?_ _) | (with_reducible refine Kd.C_drew ?_) | exact HR244_6.out)) 0 p245 q245
                        cases e245
                        obtain ⟨ce245, hce245, hMe245, hcc245⟩ := Kd.V_get HL244_6.out z24 0 p245 (by first | exact q245 | exact of_decide_eq_true (by first | (with_reducible assumption) | assumption) | (have e_ := (Kd.V_reads' HL244_6.out).1; omega))
                        obtain ⟨ua245_6, uc245_6, rfl, ul245_6, ge245_6⟩ := k24_openF hMe245
                        have hv245_6 := hcc245 6 _ rfl
                        rw [add_field _ _ 6 (by omega)] at hv245_6
                        replace hv245_6 := Option.some.inj (hv245_6.symm.trans hx245_6)
                        injection hv245_6 with hva_ hvn_ hvc_
                        rw [hva_] at ge245_6
                        rw [hvc_] at ul245_6
                        have HL245_6 := Aside0.mk (show Kd.V k24 24 _ w.heap.size _ _ ((rd_T24 ((rd_T24 t240 0).f6) 0).f6) from Kd.V_mk ul245_6 ge245_6)
                        clear hva_ hvn_ hvc_ ge245_6 ul245_6
                        clear hcc245 hce245
                        have qi245 : (0 < ((rd_T24 t240 0).f6).length) = True := eq_true (by omega)
                        (try rw [show ((0 : Int)).toNat = 0 from rfl] at hx245_0)
                        (try rw [show 0 * 7 = 0 from rfl] at hx245_0)
                        (try rw [Addr.add_zero'] at hx245_0)
                        (try rw [show ((0 : Int)).toNat = 0 from rfl] at hx245_1)
                        (try rw [show 0 * 7 = 0 from rfl] at hx245_1)
                        (try rw [Addr.add_zero'] at hx245_1)
                        (try rw [show ((0 : Int)).toNat = 0 from rfl] at hx245_2)
                        (try rw [show 0 * 7 = 0 from rfl] at hx245_2)
                        (try rw [Addr.add_zero'] at hx245_2)
                        (try rw [show ((0 : Int)).toNat = 0 from rfl] at hx245_3)
                        (try rw [show 0 * 7 = 0 from rfl] at hx245_3)
                        (try rw [Addr.add_zero'] at hx245_3)
                        (try rw [show ((0 : Int)).toNat = 0 from rfl] at hx245_4)
                        (try rw [show 0 * 7 = 0 from rfl] at hx245_4)
                        (try rw [Addr.add_zero'] at hx245_4)
                        (try rw [show ((0 : Int)).toNat = 0 from rfl] at hx245_5)
                        (try rw [show 0 * 7 = 0 from rfl] at hx245_5)
                        (try rw [Addr.add_zero'] at hx245_5)
                        (try rw [show ((0 : Int)).toNat = 0 from rfl] at hx245_6)
                        (try rw [show 0 * 7 = 0 from rfl] at hx245_6)
                        (try rw [Addr.add_zero'] at hx245_6)
                        have HR245_6 := Aside0.mk hi245_6
                        have HC245_6 := Aside0.mk hl245_6
                        clear hi245_6 hl245_6
                        replace p245 := eq_true p245
                        replace q245 := eq_true q245
                        go_wp2
                        go_meet
                        case rel => exact ⟨_, (true), (by first | rfl | (simp; done) | (simp [*]; done)), H', ⟨by first | omega | exact Nat.le_refl _⟩, ⟨by (with_reducible repeat (first | apply Kd.N_alloc | apply Kd.N_drewN | apply Kd.N_drew)); exact Kd.N_mono HO239.out (fun _ hk => hk.2)⟩, ⟨by (with_reducible repeat (first | apply Kd.N_alloc | apply Kd.N_drewN | apply Kd.N_drew)); exact Kd.N_mono HO242.out (fun _ hk => hk.2)⟩, ⟨by repeat (first | (with_reducible first | exact HB.out | apply below_alloc | apply pw_below_drewN | apply below_drew1) | exact HB.out)⟩⟩
                    · rw [if_neg c24] at H
                      exact absurd H (by simp)
                  · rw [if_neg c23] at H
                    have c23b0 : ((((rd_T24 t240 0).f6).length : Int) == 1) = false := beq_eq_false_iff_ne.mpr c23
                    have c23b1 : ((((rd_T24 t240 0).f6).length : Int) != 1) = true := bne_iff_ne.mpr c23
                    have H' := Aside0.mk H
                    clear H
                    obtain ⟨Ao29, co29, eo29⟩ := Kd.N_slice HO242.out
                    subst eo29
                    have p243 : 0 ≤ (0 : Int) := (by omega)
                    have q243 : 0 < (t240.length : Int) := of_decide_eq_true (by first | (with_reducible assumption) | assumption)
                    obtain ⟨ad243, A243_6, c243_6, e243, hx243_0, hx243_1, hx243_2, hx243_3, hx243_4, hx243_5, hx243_6, hl243_6, hi243_6⟩ := at_T24 (Kd.N_reads' HO242.out).2.2 0 p243 q243
                    cases e243
                    obtain ⟨ce243, hce243, hMe243, hcc243⟩ := Kd.N_get HO242.out z24 0 p243 (by first | exact q243 | exact of_decide_eq_true (by first | (with_reducible assumption) | assumption) | (have e_ := (Kd.N_reads' HO242.out).1; omega))
                    obtain ⟨ua243_6, uc243_6, rfl, ul243_6, ge243_6⟩ := k24_openF hMe243
                    have hv243_6 := hcc243 6 _ rfl
                    rw [add_field _ _ 6 (by omega)] at hv243_6
                    replace hv243_6 := Option.some.inj (hv243_6.symm.trans hx243_6)
                    injection hv243_6 with hva_ hvn_ hvc_
                    rw [hva_] at ge243_6
                    rw [hvc_] at ul243_6
                    have HL243_6 := Aside0.mk (show Kd.V k24 24 _ w.heap.size _ _ ((rd_T24 t240 0).f6) from Kd.V_mk ul243_6 ge243_6)
                    clear hva_ hvn_ hvc_ ge243_6 ul243_6
                    clear hcc243 hce243
                    have qi243 : (0 < t240.length) = True := eq_true (by omega)
                    (try rw [show ((0 : Int)).toNat = 0 from rfl] at hx243_0)
                    (try rw [show 0 * 7 = 0 from rfl] at hx243_0)
                    (try rw [Addr.add_zero'] at hx243_0)
                    (try rw [show ((0 : Int)).toNat = 0 from rfl] at hx243_1)
                    (try rw [show 0 * 7 = 0 from rfl] at hx243_1)
                    (try rw [Addr.add_zero'] at hx243_1)
                    (try rw [show ((0 : Int)).toNat = 0 from rfl] at hx243_2)
                    (try rw [show 0 * 7 = 0 from rfl] at hx243_2)
                    (try rw [Addr.add_zero'] at hx243_2)
                    (try rw [show ((0 : Int)).toNat = 0 from rfl] at hx243_3)
                    (try rw [show 0 * 7 = 0 from rfl] at hx243_3)
                    (try rw [Addr.add_zero'] at hx243_3)
                    (try rw [show ((0 : Int)).toNat = 0 from rfl] at hx243_4)
                    (try rw [show 0 * 7 = 0 from rfl] at hx243_4)
                    (try rw [Addr.add_zero'] at hx243_4)
                    (try rw [show ((0 : Int)).toNat = 0 from rfl] at hx243_5)
                    (try rw [show 0 * 7 = 0 from rfl] at hx243_5)
                    (try rw [Addr.add_zero'] at hx243_5)
                    (try rw [show ((0 : Int)).toNat = 0 from rfl] at hx243_6)
                    (try rw [show 0 * 7 = 0 from rfl] at hx243_6)
                    (try rw [Addr.add_zero'] at hx243_6)
                    have HR243_6 := Aside0.mk hi243_6
                    have HC243_6 := Aside0.mk hl243_6
                    clear hi243_6 hl243_6
                    replace p243 := eq_true p243
                    replace q243 := eq_true q243
                    go_wp2
                    go_meet
                    case rel => exact ⟨_, (true), (by first | rfl | (simp; done) | (simp [*]; done)), H', ⟨by first | omega | exact Nat.le_refl _⟩, ⟨by (with_reducible repeat (first | apply Kd.N_alloc | apply Kd.N_drewN | apply Kd.N_drew)); exact Kd.N_mono HO239.out (fun _ hk => hk.2)⟩, ⟨by (with_reducible repeat (first | apply Kd.N_alloc | apply Kd.N_drewN | apply Kd.N_drew)); exact Kd.N_mono HO242.out (fun _ hk => hk.2)⟩, ⟨by repeat (first | (with_reducible first | exact HB.out | apply below_alloc | apply pw_below_drewN | apply below_drew1) | exact HB.out)⟩⟩
                · rw [if_neg c22] at H
                  exact absurd H (by simp)
              · rw [if_neg c21] at H
                have c21b0 : ((t240.length : Int) == 1) = false := beq_eq_false_iff_ne.mpr c21
                have c21b1 : ((t240.length : Int) != 1) = true := bne_iff_ne.mpr c21
                (first | rw [c21b0] | (simp only [i64_w, i32_w]; rw [c21b0]) | skip)
                have H' := Aside0.mk H
                clear H
                obtain ⟨Ao30, co30, eo30⟩ := Kd.N_slice HO242.out
                subst eo30
                go_wp2
                go_meet
                case rel => exact ⟨_, (true), (by first | rfl | (simp; done) | (simp [*]; done)), H', ⟨by first | omega | exact Nat.le_refl _⟩, ⟨by (with_reducible repeat (first | apply Kd.N_alloc | apply Kd.N_drewN | apply Kd.N_drew)); exact Kd.N_mono HO239.out (fun _ hk => hk.2)⟩, ⟨by (with_reducible repeat (first | apply Kd.N_alloc | apply Kd.N_drewN | apply Kd.N_drew)); exact Kd.N_mono HO242.out (fun _ hk => hk.2)⟩, ⟨by repeat (first | (with_reducible first | exact HB.out | apply below_alloc | apply pw_below_drewN | apply below_drew1) | exact HB.out)⟩⟩
            case rest =>
              clear HC13
              try clear c1
              try clear c2
              try clear p2
              try clear q2
              try clear hx2
              try clear qi2
              try clear c3
              try clear c4
              try clear c4b0
              try clear c4b1
              try clear c7
              try clear c7b0
              try clear c8
              try clear c8b0
              try clear c9
              try clear c9b0
              try clear c9b1
              try clear c9b2
              try clear c10
              try clear c10b0
              try clear c10b1
              try clear c10b2
              try clear c21
              try clear c21b0
              try clear c21b1
              try clear c22
              try clear c22b0
              try clear c22b1
              try clear c23
              try clear c23b0
              try clear c23b1
              try clear p23
              try clear q23
              try clear hx23
              try clear c24
              try clear c24b0
              try clear c24b1
              try clear p24
              try clear q24
              try clear hx24
              try clear qi24
              try clear c25
              try clear c25b0
              try clear c25b1
              try clear c26
              try clear c26b0
              try clear c26b1
              try clear c30
              try clear hx236_0
              try clear hx243_0
              try clear hx243_1
              try clear hx243_2
              try clear hx243_3
              try clear hx243_4
              try clear hx243_5
              try clear hx243_6
              try clear hx244_0
              try clear hx244_1
              try clear hx244_2
              try clear hx244_3
              try clear hx244_4
              try clear hx244_5
              try clear hx244_6
              try clear hx245_0
              try clear hx245_1
              try clear hx245_2
              try clear hx245_3
              try clear hx245_4
              try clear hx245_5
              try clear hx245_6
              try clear hx246_0
              try clear hx246_1
              try clear hx246_2
              try clear hx246_3
              try clear hx246_4
              try clear hx246_5
              try clear hx246_6
              try clear hx247_0
              try clear hx247_1
              try clear hx247_2
              try clear hx247_3
              try clear hx247_4
              try clear hx247_5
              try clear hx247_6
              try clear hx248_0
              try clear hx248_1
              try clear hx248_2
              try clear hx248_3
              try clear hx248_4
              try clear hx248_5
              try clear hx248_6
              try clear p236
              try clear p243
              try clear p244
              try clear p245
              try clear p246
              try clear p247
              try clear p248
              try clear q236
              try clear q243
              try clear q244
              try clear q245
              try clear q246
              try clear q247
              try clear q248
              obtain ⟨kq, x64_12, rfl, HA, HJ12, HO_7, HO_8, HB⟩ := hcut
              cases kq with
              | zero => exact absurd HA.out (by simp [incipitlaw16_TaskItems.j0])
              | succ kj12 =>
                have H := HA.out
                clear HA
                simp only [incipitlaw16_TaskItems.j0] at H
                by_cases c31 : x64_12 = true
                · subst c31
                  have H1 : (none) = some r := by rw [if_pos rfl] at H; exact H
                  clear H
                  have H := H1
                  clear H1
                  exact absurd H (by simp)
                · replace c31 := Bool.eq_false_iff.mpr c31
                  subst c31
                  have H1 : (if 0 < (t240.length : Int) then (if 0 < (((rd_T24 t240 0).f6).length : Int) then (if 0 < (((rd_T24 ((rd_T24 t240 0).f6) 0).f6).length : Int) then (if 0 < (t237.length : Int) then (if 0 < (((rd_T24 t237 0).f6).length : Int) then ((task_Apply.f ((rd_T24 ((rd_T24 t237 0).f6) 0).f6)).bind fun t254 => (if t232 = true then (if 0 < (((rd_T24 ((rd_T24 ((rd_T24 t240 0).f6) 0).f6) 0).f6).length : Int) then (if ((rd_T24 ((rd_T24 ((rd_T24 ((rd_T24 t240 0).f6) 0).f6) 0).f6) 0).f0) = 25 then (if (((rd_T24 ((rd_T24 ((rd_T24 ((rd_T24 t240 0).f6) 0).f6) 0).f6) 0).f5) == ((rdOf ByteArray.empty y233 (ji6)).toList != ([91, 32, 93] : List UInt8))) = true then (if 1 < (((rd_T24 ((rd_T24 ((rd_T24 t240 0).f6) 0).f6) 0).f6).length : Int) then (if 1 + a0.size ≤ 9223372036854775807 then (if ((rd_T24 ((rd_T24 ((rd_T24 ((rd_T24 t240 0).f6) 0).f6) 0).f6) 1).f1).toList = ((⟨#[32]⟩ : ByteArray) ++ a0).toList then ((incipitref06_SameAll.f kj12 t254 ((rd_T24 ((rd_T24 t237 0).f6) 0).f6)).bind fun t262 => (if t262 = true then (if (rdOf ByteArray.empty y233 (ji6)).size + 1 ≤ 9223372036854775807 then (if ((rdOf ByteArray.empty y233 (ji6)) ++ (⟨#[32]⟩ : ByteArray)).size + a0.size ≤ 9223372036854775807 then ((incipitlaw16_item.f (((rdOf ByteArray.empty y233 (ji6)) ++ (⟨#[32]⟩ : ByteArray)) ++ a0)).bind fun t263 => ((incipitref06_SameAll.f kj12 t237 t263).bind fun t266 => (some t266))) else (none)) else (none)) else (none))) else (none)) else (none)) else (none)) else (none)) else (none)) else (none)) else (none))) else (none)) else (none)) else (none)) else (none)) else (none)) = some r := by rw [if_neg (show ¬ (false = true) by decide)] at H; exact H
                  clear H
                  have H := H1
                  clear H1
                  by_cases c32 : 0 < (t240.length : Int)
                  · rw [if_pos c32] at H
                    have c32b0 : decide (0 < (t240.length : Int)) = true := decide_eq_true c32
                    have c32b1 : decide (0 < t240.length) = true := decide_eq_true (by omega)
                    clear c32
                    by_cases c33 : 0 < (((rd_T24 t240 0).f6).length : Int)
                    · rw [if_pos c33] at H
                      have c33b0 : decide (0 < (((rd_T24 t240 0).f6).length : Int)) = true := decide_eq_true c33
                      have c33b1 : decide (0 < ((rd_T24 t240 0).f6).length) = true := decide_eq_true (by omega)
                      clear c33
                      by_cases c34 : 0 < (((rd_T24 ((rd_T24 t240 0).f6) 0).f6).length : Int)
                      · rw [if_pos c34] at H
                        have c34b0 : decide (0 < (((rd_T24 ((rd_T24 t240 0).f6) 0).f6).length : Int)) = true := decide_eq_true c34
                        have c34b1 : decide (0 < ((rd_T24 ((rd_T24 t240 0).f6) 0).f6).length) = true := decide_eq_true (by omega)
                        clear c34
                        by_cases c35 : 0 < (t237.length : Int)
                        · rw [if_pos c35] at H
                          have c35b0 : decide (0 < (t237.length : Int)) = true := decide_eq_true c35
                          have c35b1 : decide (0 < t237.length) = true := decide_eq_true (by omega)
                          clear c35
                          by_cases c36 : 0 < (((rd_T24 t237 0).f6).length : Int)
                          · rw [if_pos c36] at H
                            have c36b0 : decide (0 < (((rd_T24 t237 0).f6).length : Int)) = true := decide_eq_true c36
                            have c36b1 : decide (0 < ((rd_T24 t237 0).f6).length) = true := decide_eq_true (by omega)
                            clear c36
                            replace H := Option.bind_eq_some_iff.mp H
                            obtain ⟨t254, A370, H⟩ := H
                            replace H : (if t232 = true then (if 0 < (((rd_T24 ((rd_T24 ((rd_T24 t240 0).f6) 0).f6) 0).f6).length : Int) then (if ((rd_T24 ((rd_T24 ((rd_T24 ((rd_T24 t240 0).f6) 0).f6) 0).f6) 0).f0) = 25 then (if (((rd_T24 ((rd_T24 ((rd_T24 ((rd_T24 t240 0).f6) 0).f6) 0).f6) 0).f5) == ((rdOf ByteArray.empty y233 (ji6)).toList != ([91, 32, 93] : List UInt8))) = true then (if 1 < (((rd_T24 ((rd_T24 ((rd_T24 t240 0).f6) 0).f6) 0).f6).length : Int) then (if 1 + a0.size ≤ 9223372036854775807 then (if ((rd_T24 ((rd_T24 ((rd_T24 ((rd_T24 t240 0).f6) 0).f6) 0).f6) 1).f1).toList = ((⟨#[32]⟩ : ByteArray) ++ a0).toList then ((incipitref06_SameAll.f kj12 t254 ((rd_T24 ((rd_T24 t237 0).f6) 0).f6)).bind fun t262 => (if t262 = true then (if (rdOf ByteArray.empty y233 (ji6)).size + 1 ≤ 9223372036854775807 then (if ((rdOf ByteArray.empty y233 (ji6)) ++ (⟨#[32]⟩ : ByteArray)).size + a0.size ≤ 9223372036854775807 then ((incipitlaw16_item.f (((rdOf ByteArray.empty y233 (ji6)) ++ (⟨#[32]⟩ : ByteArray)) ++ a0)).bind fun t263 => ((incipitref06_SameAll.f kj12 t237 t263).bind fun t266 => (some t266))) else (none)) else (none)) else (none))) else (none)) else (none)) else (none)) else (none)) else (none)) else (none)) else (none)) = some r := H
                            have A37 := Aside0.mk A370
                            clear A370
                            by_cases c38 : t232 = true
                            · subst c38
                              have H1 : (if 0 < (((rd_T24 ((rd_T24 ((rd_T24 t240 0).f6) 0).f6) 0).f6).length : Int) then (if ((rd_T24 ((rd_T24 ((rd_T24 ((rd_T24 t240 0).f6) 0).f6) 0).f6) 0).f0) = 25 then (if (((rd_T24 ((rd_T24 ((rd_T24 ((rd_T24 t240 0).f6) 0).f6) 0).f6) 0).f5) == ((rdOf ByteArray.empty y233 (ji6)).toList != ([91, 32, 93] : List UInt8))) = true then (if 1 < (((rd_T24 ((rd_T24 ((rd_T24 t240 0).f6) 0).f6) 0).f6).length : Int) then (if 1 + a0.size ≤ 9223372036854775807 then (if ((rd_T24 ((rd_T24 ((rd_T24 ((rd_T24 t240 0).f6) 0).f6) 0).f6) 1).f1).toList = ((⟨#[32]⟩ : ByteArray) ++ a0).toList then ((incipitref06_SameAll.f kj12 t254 ((rd_T24 ((rd_T24 t237 0).f6) 0).f6)).bind fun t262 => (if t262 = true then (if (rdOf ByteArray.empty y233 (ji6)).size + 1 ≤ 9223372036854775807 then (if ((rdOf ByteArray.empty y233 (ji6)) ++ (⟨#[32]⟩ : ByteArray)).size + a0.size ≤ 9223372036854775807 then ((incipitlaw16_item.f (((rdOf ByteArray.empty y233 (ji6)) ++ (⟨#[32]⟩ : ByteArray)) ++ a0)).bind fun t263 => ((incipitref06_SameAll.f kj12 t237 t263).bind fun t266 => (some t266))) else (none)) else (none)) else (none))) else (none)) else (none)) else (none)) else (none)) else (none)) else (none)) = some r := by rw [if_pos rfl] at H; exact H
                              clear H
                              have H := H1
                              clear H1
                              by_cases c39 : 0 < (((rd_T24 ((rd_T24 ((rd_T24 t240 0).f6) 0).f6) 0).f6).length : Int)
                              · rw [if_pos c39] at H
                                have c39b0 : decide (0 < (((rd_T24 ((rd_T24 ((rd_T24 t240 0).f6) 0).f6) 0).f6).length : Int)) = true := decide_eq_true c39
                                have c39b1 : decide (0 < ((rd_T24 ((rd_T24 ((rd_T24 t240 0).f6) 0).f6) 0).f6).length) = true := decide_eq_true (by omega)
                                clear c39
                                by_cases c40 : ((rd_T24 ((rd_T24 ((rd_T24 ((rd_T24 t240 0).f6) 0).f6) 0).f6) 0).f0) = 25
                                · rw [if_pos c40] at H
                                  have c40b0 : (((rd_T24 ((rd_T24 ((rd_T24 ((rd_T24 t240 0).f6) 0).f6) 0).f6) 0).f0) == 25) = true := beq_iff_eq.mpr c40
                                  have c40b1 : (((rd_T24 ((rd_T24 ((rd_T24 ((rd_T24 t240 0).f6) 0).f6) 0).f6) 0).f0) != 25) = false := bne_eq_false_iff_eq.mpr c40
                                  clear c40
                                  by_cases c41 : (((rd_T24 ((rd_T24 ((rd_T24 ((rd_T24 t240 0).f6) 0).f6) 0).f6) 0).f5) == ((rdOf ByteArray.empty y233 (ji6)).toList != ([91, 32, 93] : List UInt8))) = true
                                  · rw [if_pos c41] at H
                                    have c41b0 : (((rd_T24 ((rd_T24 ((rd_T24 ((rd_T24 t240 0).f6) 0).f6) 0).f6) 0).f5) == ((rdOf ByteArray.empty y233 (ji6)).toList != ([91, 32, 93] : List UInt8))) = true := c41
                                    (try (have c41b1 : decide (((rd_T24 ((rd_T24 ((rd_T24 ((rd_T24 t240 0).f6) 0).f6) 0).f6) 0).f5) = ((rdOf ByteArray.empty y233 (ji6)).toList != ([91, 32, 93] : List UInt8))) = true := by simpa using c41))
                                    (try (have c41b2 : (((rd_T24 ((rd_T24 ((rd_T24 ((rd_T24 t240 0).f6) 0).f6) 0).f6) 0).f5) == ((rdOf ByteArray.empty y233 (ji6)).toList != ([91, 32, 93] : List UInt8))) = true := by simpa using c41))
                                    clear c41
                                    by_cases c42 : 1 < (((rd_T24 ((rd_T24 ((rd_T24 t240 0).f6) 0).f6) 0).f6).length : Int)
                                    · rw [if_pos c42] at H
                                      have c42b0 : decide (1 < (((rd_T24 ((rd_T24 ((rd_T24 t240 0).f6) 0).f6) 0).f6).length : Int)) = true := decide_eq_true c42
                                      have c42b1 : decide (1 < ((rd_T24 ((rd_T24 ((rd_T24 t240 0).f6) 0).f6) 0).f6).length) = true := decide_eq_true (by omega)
                                      clear c42
                                      by_cases c43 : 1 + a0.size ≤ 9223372036854775807
                                      · rw [if_pos c43] at H
                                        have c43b0 := eq_true c43
                                        have c43b1 : decide (1 + a0.size ≤ 9223372036854775807) = true := decide_eq_true c43
                                        try have c43b2 : (9223372036854775807 < 1 + a0.size) = False := eq_false (Nat.not_lt.2 c43)
                                        by_cases c44 : ((rd_T24 ((rd_T24 ((rd_T24 ((rd_T24 t240 0).f6) 0).f6) 0).f6) 1).f1).toList = ((⟨#[32]⟩ : ByteArray) ++ a0).toList
                                        · rw [if_pos c44] at H
                                          have c44b0 : (((rd_T24 ((rd_T24 ((rd_T24 ((rd_T24 t240 0).f6) 0).f6) 0).f6) 1).f1).toList == ((⟨#[32]⟩ : ByteArray) ++ a0).toList) = true := beq_iff_eq.mpr c44
                                          have c44b1 : (((rd_T24 ((rd_T24 ((rd_T24 ((rd_T24 t240 0).f6) 0).f6) 0).f6) 1).f1).toList != ((⟨#[32]⟩ : ByteArray) ++ a0).toList) = false := bne_eq_false_iff_eq.mpr c44
                                          clear c44
                                          replace H := Option.bind_eq_some_iff.mp H
                                          obtain ⟨t262, A450, H⟩ := H
                                          replace H : (if t262 = true then (if (rdOf ByteArray.empty y233 (ji6)).size + 1 ≤ 9223372036854775807 then (if ((rdOf ByteArray.empty y233 (ji6)) ++ (⟨#[32]⟩ : ByteArray)).size + a0.size ≤ 9223372036854775807 then ((incipitlaw16_item.f (((rdOf ByteArray.empty y233 (ji6)) ++ (⟨#[32]⟩ : ByteArray)) ++ a0)).bind fun t263 => ((incipitref06_SameAll.f kj12 t237 t263).bind fun t266 => (some t266))) else (none)) else (none)) else (none)) = some r := H
                                          have A45 := Aside0.mk A450
                                          clear A450
                                          by_cases c46 : t262 = true
                                          · subst c46
                                            have H1 : (if (rdOf ByteArray.empty y233 (ji6)).size + 1 ≤ 9223372036854775807 then (if ((rdOf ByteArray.empty y233 (ji6)) ++ (⟨#[32]⟩ : ByteArray)).size + a0.size ≤ 9223372036854775807 then ((incipitlaw16_item.f (((rdOf ByteArray.empty y233 (ji6)) ++ (⟨#[32]⟩ : ByteArray)) ++ a0)).bind fun t263 => ((incipitref06_SameAll.f kj12 t237 t263).bind fun t266 => (some t266))) else (none)) else (none)) = some r := by rw [if_pos rfl] at H; exact H
                                            clear H
                                            have H := H1
                                            clear H1
                                            by_cases c47 : (rdOf ByteArray.empty y233 (ji6)).size + 1 ≤ 9223372036854775807
                                            · rw [if_pos c47] at H
                                              have c47b0 := eq_true c47
                                              have c47b1 : decide ((rdOf ByteArray.empty y233 (ji6)).size + 1 ≤ 9223372036854775807) = true := decide_eq_true c47
                                              try have c47b2 : (9223372036854775807 < (rdOf ByteArray.empty y233 (ji6)).size + 1) = False := eq_false (Nat.not_lt.2 c47)
                                              by_cases c48 : ((rdOf ByteArray.empty y233 (ji6)) ++ (⟨#[32]⟩ : ByteArray)).size + a0.size ≤ 9223372036854775807
                                              · rw [if_pos c48] at H
                                                have c48b0 := eq_true c48
                                                have c48b1 : decide (((rdOf ByteArray.empty y233 (ji6)) ++ (⟨#[32]⟩ : ByteArray)).size + a0.size ≤ 9223372036854775807) = true := decide_eq_true c48
                                                try have c48b2 : (9223372036854775807 < ((rdOf ByteArray.empty y233 (ji6)) ++ (⟨#[32]⟩ : ByteArray)).size + a0.size) = False := eq_false (Nat.not_lt.2 c48)
                                                replace H := Option.bind_eq_some_iff.mp H
                                                obtain ⟨t263, A490, H⟩ := H
                                                replace H : ((incipitref06_SameAll.f kj12 t237 t263).bind fun t266 => (some t266)) = some r := H
                                                have A49 := Aside0.mk A490
                                                clear A490
                                                replace H := Option.bind_eq_some_iff.mp H
                                                obtain ⟨t266, A500, H⟩ := H
                                                replace H : (some t266) = some r := H
                                                have A50 := Aside0.mk A500
                                                clear A500
                                                obtain rfl := Option.some.inj H
                                                obtain ⟨Ao51, co51, eo51⟩ := Kd.N_slice HO_8.out
                                                subst eo51
                                                have p249 : 0 ≤ (0 : Int) := (by omega)
                                                have q249 : 0 < (t240.length : Int) := of_decide_eq_true (by first | (with_reducible assumption) | assumption)
                                                obtain ⟨ad249, A249_6, c249_6, e249, hx249_0, hx249_1, hx249_2, hx249_3, hx249_4, hx249_5, hx249_6, hl249_6, hi249_6⟩ := at_T24 (Kd.N_reads' HO_8.out).2.2 0 p249 q249
                                                cases e249
                                                obtain ⟨ce249, hce249, hMe249, hcc249⟩ := Kd.N_get HO_8.out z24 0 p249 (by first | exact q249 | exact of_decide_eq_true (by first | (with_reducible assumption) | assumption) | (have e_ := (Kd.N_reads' HO_8.out).1; omega))
                                                obtain ⟨ua249_6, uc249_6, rfl, ul249_6, ge249_6⟩ := k24_openF hMe249
                                                have hv249_6 := hcc249 6 _ rfl
                                                rw [add_field _ _ 6 (by omega)] at hv249_6
                                                replace hv249_6 := Option.some.inj (hv249_6.symm.trans hx249_6)
                                                injection hv249_6 with hva_ hvn_ hvc_
                                                rw [hva_] at ge249_6
                                                rw [hvc_] at ul249_6
                                                have HL249_6 := Aside0.mk (show Kd.V k24 24 _ w.heap.size _ _ ((rd_T24 t240 0).f6) from Kd.V_mk ul249_6 ge249_6)
                                                clear hva_ hvn_ hvc_ ge249_6 ul249_6
                                                clear hcc249 hce249
                                                have qi249 : (0 < t240.length) = True := eq_true (by omega)
                                                (try rw [show ((0 : Int)).toNat = 0 from rfl] at hx249_0)
                                                (try rw [show 0 * 7 = 0 from rfl] at hx249_0)
                                                (try rw [Addr.add_zero'] at hx249_0)
                                                (try rw [show ((0 : Int)).toNat = 0 from rfl] at hx249_1)
                                                (try rw [show 0 * 7 = 0 from rfl] at hx249_1)
                                                (try rw [Addr.add_zero'] at hx249_1)
                                                (try rw [show ((0 : Int)).toNat = 0 from rfl] at hx249_2)
                                                (try rw [show 0 * 7 = 0 from rfl] at hx249_2)
                                                (try rw [Addr.add_zero'] at hx249_2)
                                                (try rw [show ((0 : Int)).toNat = 0 from rfl] at hx249_3)
                                                (try rw [show 0 * 7 = 0 from rfl] at hx249_3)
                                                (try rw [Addr.add_zero'] at hx249_3)
                                                (try rw [show ((0 : Int)).toNat = 0 from rfl] at hx249_4)
                                                (try rw [show 0 * 7 = 0 from rfl] at hx249_4)
                                                (try rw [Addr.add_zero'] at hx249_4)
                                                (try rw [show ((0 : Int)).toNat = 0 from rfl] at hx249_5)
                                                (try rw [show 0 * 7 = 0 from rfl] at hx249_5)
                                                (try rw [Addr.add_zero'] at hx249_5)
                                                (try rw [show ((0 : Int)).toNat = 0 from rfl] at hx249_6)
                                                (try rw [show 0 * 7 = 0 from rfl] at hx249_6)
                                                (try rw [Addr.add_zero'] at hx249_6)
                                                have HR249_6 := Aside0.mk hi249_6
                                                have HC249_6 := Aside0.mk hl249_6
                                                clear hi249_6 hl249_6
                                                replace p249 := eq_true p249
                                                replace q249 := eq_true q249
                                                have p250 : 0 ≤ (0 : Int) := (by omega)
                                                have q250 : 0 < (((rd_T24 t240 0).f6).length : Int) := of_decide_eq_true (by first | (with_reducible assumption) | assumption)
                                                obtain ⟨ad250, A250_6, c250_6, e250, hx250_0, hx250_1, hx250_2, hx250_3, hx250_4, hx250_5, hx250_6, hl250_6, hi250_6⟩ := at_T24 (by repeat (first | (with_reducible exact HR249_6.out) | (with_reducible refine Kd.C_alloc ?_ _) | (with_reducible refine Kd.C_drewN ?_ _) | (with_reducible refine Kd.C_drew ?_) | exact HR249_6.out)) 0 p250 q250
                                                cases e250
                                                obtain ⟨ce250, hce250, hMe250, hcc250⟩ := Kd.V_get HL249_6.out z24 0 p250 (by first | exact q250 | exact of_decide_eq_true (by first | (with_reducible assumption) | assumption) | (have e_ := (Kd.V_reads' HL249_6.out).1; omega))
                                                obtain ⟨ua250_6, uc250_6, rfl, ul250_6, ge250_6⟩ := k24_openF hMe250
                                                have hv250_6 := hcc250 6 _ rfl
                                                rw [add_field _ _ 6 (by omega)] at hv250_6
                                                replace hv250_6 := Option.some.inj (hv250_6.symm.trans hx250_6)
                                                injection hv250_6 with hva_ hvn_ hvc_
                                                rw [hva_] at ge250_6
                                                rw [hvc_] at ul250_6
                                                have HL250_6 := Aside0.mk (show Kd.V k24 24 _ w.heap.size _ _ ((rd_T24 ((rd_T24 t240 0).f6) 0).f6) from Kd.V_mk ul250_6 ge250_6)
                                                clear hva_ hvn_ hvc_ ge250_6 ul250_6
                                                clear hcc250 hce250
                                                have qi250 : (0 < ((rd_T24 t240 0).f6).length) = True := eq_true (by omega)
                                                (try rw [show ((0 : Int)).toNat = 0 from rfl] at hx250_0)
                                                (try rw [show 0 * 7 = 0 from rfl] at hx250_0)
                                                (try rw [Addr.add_zero'] at hx250_0)
                                                (try rw [show ((0 : Int)).toNat = 0 from rfl] at hx250_1)
                                                (try rw [show 0 * 7 = 0 from rfl] at hx250_1)
                                                (try rw [Addr.add_zero'] at hx250_1)
                                                (try rw [show ((0 : Int)).toNat = 0 from rfl] at hx250_2)
                                                (try rw [show 0 * 7 = 0 from rfl] at hx250_2)
                                                (try rw [Addr.add_zero'] at hx250_2)
                                                (try rw [show ((0 : Int)).toNat = 0 from rfl] at hx250_3)
                                                (try rw [show 0 * 7 = 0 from rfl] at hx250_3)
                                                (try rw [Addr.add_zero'] at hx250_3)
                                                (try rw [show ((0 : Int)).toNat = 0 from rfl] at hx250_4)
                                                (try rw [show 0 * 7 = 0 from rfl] at hx250_4)
                                                (try rw [Addr.add_zero'] at hx250_4)
                                                (try rw [show ((0 : Int)).toNat = 0 from rfl] at hx250_5)
                                                (try rw [show 0 * 7 = 0 from rfl] at hx250_5)
                                                (try rw [Addr.add_zero'] at hx250_5)
                                                (try rw [show ((0 : Int)).toNat = 0 from rfl] at hx250_6)
                                                (try rw [show 0 * 7 = 0 from rfl] at hx250_6)
                                                (try rw [Addr.add_zero'] at hx250_6)
                                                have HR250_6 := Aside0.mk hi250_6
                                                have HC250_6 := Aside0.mk hl250_6
                                                clear hi250_6 hl250_6
                                                replace p250 := eq_true p250
                                                replace q250 := eq_true q250
                                                have p251 : 0 ≤ (0 : Int) := (by omega)
                                                have q251 : 0 < (((rd_T24 ((rd_T24 t240 0).f6) 0).f6).length : Int) := of_decide_eq_true (by first | (with_reducible assumption) | assumption)
                                                obtain ⟨ad251, A251_6, c251_6, e251, hx251_0, hx251_1, hx251_2, hx251_3, hx251_4, hx251_5, hx251_6, hl251_6, hi251_6⟩ := at_T24 (by repeat (first | (with_reducible exact HR250_6.out) | (with_reducible refine Kd.C_alloc ?_ _) | (with_reducible refine Kd.C_drewN ?_ _) | (with_reducible refine Kd.C_drew ?_) | exact HR250_6.out)) 0 p251 q251
                                                cases e251
                                                obtain ⟨ce251, hce251, hMe251, hcc251⟩ := Kd.V_get HL250_6.out z24 0 p251 (by first | exact q251 | exact of_decide_eq_true (by first | (with_reducible assumption) | assumption) | (have e_ := (Kd.V_reads' HL250_6.out).1; omega))
                                                obtain ⟨ua251_6, uc251_6, rfl, ul251_6, ge251_6⟩ := k24_openF hMe251
                                                have hv251_6 := hcc251 6 _ rfl
                                                rw [add_field _ _ 6 (by omega)] at hv251_6
                                                replace hv251_6 := Option.some.inj (hv251_6.symm.trans hx251_6)
                                                injection hv251_6 with hva_ hvn_ hvc_
                                                rw [hva_] at ge251_6
                                                rw [hvc_] at ul251_6
                                                have HL251_6 := Aside0.mk (show Kd.V k24 24 _ w.heap.size _ _ ((rd_T24 ((rd_T24 ((rd_T24 t240 0).f6) 0).f6) 0).f6) from Kd.V_mk ul251_6 ge251_6)
                                                clear hva_ hvn_ hvc_ ge251_6 ul251_6
                                                clear hcc251 hce251
                                                have qi251 : (0 < ((rd_T24 ((rd_T24 t240 0).f6) 0).f6).length) = True := eq_true (by omega)
                                                (try rw [show ((0 : Int)).toNat = 0 from rfl] at hx251_0)
                                                (try rw [show 0 * 7 = 0 from rfl] at hx251_0)
                                                (try rw [Addr.add_zero'] at hx251_0)
                                                (try rw [show ((0 : Int)).toNat = 0 from rfl] at hx251_1)
                                                (try rw [show 0 * 7 = 0 from rfl] at hx251_1)
                                                (try rw [Addr.add_zero'] at hx251_1)
                                                (try rw [show ((0 : Int)).toNat = 0 from rfl] at hx251_2)
                                                (try rw [show 0 * 7 = 0 from rfl] at hx251_2)
                                                (try rw [Addr.add_zero'] at hx251_2)
                                                (try rw [show ((0 : Int)).toNat = 0 from rfl] at hx251_3)
                                                (try rw [show 0 * 7 = 0 from rfl] at hx251_3)
                                                (try rw [Addr.add_zero'] at hx251_3)
                                                (try rw [show ((0 : Int)).toNat = 0 from rfl] at hx251_4)
                                                (try rw [show 0 * 7 = 0 from rfl] at hx251_4)
                                                (try rw [Addr.add_zero'] at hx251_4)
                                                (try rw [show ((0 : Int)).toNat = 0 from rfl] at hx251_5)
                                                (try rw [show 0 * 7 = 0 from rfl] at hx251_5)
                                                (try rw [Addr.add_zero'] at hx251_5)
                                                (try rw [show ((0 : Int)).toNat = 0 from rfl] at hx251_6)
                                                (try rw [show 0 * 7 = 0 from rfl] at hx251_6)
                                                (try rw [Addr.add_zero'] at hx251_6)
                                                have HR251_6 := Aside0.mk hi251_6
                                                have HC251_6 := Aside0.mk hl251_6
                                                clear hi251_6 hl251_6
                                                replace p251 := eq_true p251
                                                replace q251 := eq_true q251
                                                have p252 : 0 ≤ (0 : Int) := (by omega)
                                                have q252 : 0 < (t237.length : Int) := of_decide_eq_true (by first | (with_reducible assumption) | assumption)
                                                obtain ⟨ad252, A252_6, c252_6, e252, hx252_0, hx252_1, hx252_2, hx252_3, hx252_4, hx252_5, hx252_6, hl252_6, hi252_6⟩ := at_T24 (Kd.N_reads' HO_7.out).2.2 0 p252 q252
                                                cases e252
                                                obtain ⟨ce252, hce252, hMe252, hcc252⟩ := Kd.N_get HO_7.out z24 0 p252 (by first | exact q252 | exact of_decide_eq_true (by first | (with_reducible assumption) | assumption) | (have e_ := (Kd.N_reads' HO_7.out).1; omega))
                                                obtain ⟨ua252_6, uc252_6, rfl, ul252_6, ge252_6⟩ := k24_openF hMe252
                                                have hv252_6 := hcc252 6 _ rfl
                                                rw [add_field _ _ 6 (by omega)] at hv252_6
                                                replace hv252_6 := Option.some.inj (hv252_6.symm.trans hx252_6)
                                                injection hv252_6 with hva_ hvn_ hvc_
                                                rw [hva_] at ge252_6
                                                rw [hvc_] at ul252_6
                                                have HL252_6 := Aside0.mk (show Kd.V k24 24 _ w.heap.size _ _ ((rd_T24 t237 0).f6) from Kd.V_mk ul252_6 ge252_6)
                                                clear hva_ hvn_ hvc_ ge252_6 ul252_6
                                                clear hcc252 hce252
                                                have qi252 : (0 < t237.length) = True := eq_true (by omega)
                                                (try rw [show ((0 : Int)).toNat = 0 from rfl] at hx252_0)
                                                (try rw [show 0 * 7 = 0 from rfl] at hx252_0)
                                                (try rw [Addr.add_zero'] at hx252_0)
                                                (try rw [show ((0 : Int)).toNat = 0 from rfl] at hx252_1)
                                                (try rw [show 0 * 7 = 0 from rfl] at hx252_1)
                                                (try rw [Addr.add_zero'] at hx252_1)
                                                (try rw [show ((0 : Int)).toNat = 0 from rfl] at hx252_2)
                                                (try rw [show 0 * 7 = 0 from rfl] at hx252_2)
                                                (try rw [Addr.add_zero'] at hx252_2)
                                                (try rw [show ((0 : Int)).toNat = 0 from rfl] at hx252_3)
                                                (try rw [show 0 * 7 = 0 from rfl] at hx252_3)
                                                (try rw [Addr.add_zero'] at hx252_3)
                                                (try rw [show ((0 : Int)).toNat = 0 from rfl] at hx252_4)
                                                (try rw [show 0 * 7 = 0 from rfl] at hx252_4)
                                                (try rw [Addr.add_zero'] at hx252_4)
                                                (try rw [show ((0 : Int)).toNat = 0 from rfl] at hx252_5)
                                                (try rw [show 0 * 7 = 0 from rfl] at hx252_5)
                                                (try rw [Addr.add_zero'] at hx252_5)
                                                (try rw [show ((0 : Int)).toNat = 0 from rfl] at hx252_6)
                                                (try rw [show 0 * 7 = 0 from rfl] at hx252_6)
                                                (try rw [Addr.add_zero'] at hx252_6)
                                                have HR252_6 := Aside0.mk hi252_6
                                                have HC252_6 := Aside0.mk hl252_6
                                                clear hi252_6 hl252_6
                                                replace p252 := eq_true p252
                                                replace q252 := eq_true q252
                                                have p253 : 0 ≤ (0 : Int) := (by omega)
                                                have q253 : 0 < (((rd_T24 t237 0).f6).length : Int) := of_decide_eq_true (by first | (with_reducible assumption) | assumption)
                                                obtain ⟨ad253, A253_6, c253_6, e253, hx253_0, hx253_1, hx253_2, hx253_3, hx253_4, hx253_5, hx253_6, hl253_6, hi253_6⟩ := at_T24 (by repeat (first | (with_reducible exact HR252_6.out) | (with_reducible refine Kd.C_alloc ?_ _) | (with_reducible refine Kd.C_drewN ?_ _) | (with_reducible refine Kd.C_drew ?_) | exact HR252_6.out)) 0 p253 q253
                                                cases e253
                                                obtain ⟨ce253, hce253, hMe253, hcc253⟩ := Kd.V_get HL252_6.out z24 0 p253 (by first | exact q253 | exact of_decide_eq_true (by first | (with_reducible assumption) | assumption) | (have e_ := (Kd.V_reads' HL252_6.out).1; omega))
                                                obtain ⟨ua253_6, uc253_6, rfl, ul253_6, ge253_6⟩ := k24_openF hMe253
                                                have hv253_6 := hcc253 6 _ rfl
                                                rw [add_field _ _ 6 (by omega)] at hv253_6
                                                replace hv253_6 := Option.some.inj (hv253_6.symm.trans hx253_6)
                                                injection hv253_6 with hva_ hvn_ hvc_
                                                rw [hva_] at ge253_6
                                                rw [hvc_] at ul253_6
                                                have HL253_6 := Aside0.mk (show Kd.V k24 24 _ w.heap.size _ _ ((rd_T24 ((rd_T24 t237 0).f6) 0).f6) from Kd.V_mk ul253_6 ge253_6)
                                                clear hva_ hvn_ hvc_ ge253_6 ul253_6
                                                clear hcc253 hce253
                                                have qi253 : (0 < ((rd_T24 t237 0).f6).length) = True := eq_true (by omega)
                                                (try rw [show ((0 : Int)).toNat = 0 from rfl] at hx253_0)
                                                (try rw [show 0 * 7 = 0 from rfl] at hx253_0)
                                                (try rw [Addr.add_zero'] at hx253_0)
                                                (try rw [show ((0 : Int)).toNat = 0 from rfl] at hx253_1)
                                                (try rw [show 0 * 7 = 0 from rfl] at hx253_1)
                                                (try rw [Addr.add_zero'] at hx253_1)
                                                (try rw [show ((0 : Int)).toNat = 0 from rfl] at hx253_2)
                                                (try rw [show 0 * 7 = 0 from rfl] at hx253_2)
                                                (try rw [Addr.add_zero'] at hx253_2)
                                                (try rw [show ((0 : Int)).toNat = 0 from rfl] at hx253_3)
                                                (try rw [show 0 * 7 = 0 from rfl] at hx253_3)
                                                (try rw [Addr.add_zero'] at hx253_3)
                                                (try rw [show ((0 : Int)).toNat = 0 from rfl] at hx253_4)
                                                (try rw [show 0 * 7 = 0 from rfl] at hx253_4)
                                                (try rw [Addr.add_zero'] at hx253_4)
                                                (try rw [show ((0 : Int)).toNat = 0 from rfl] at hx253_5)
                                                (try rw [show 0 * 7 = 0 from rfl] at hx253_5)
                                                (try rw [Addr.add_zero'] at hx253_5)
                                                (try rw [show ((0 : Int)).toNat = 0 from rfl] at hx253_6)
                                                (try rw [show 0 * 7 = 0 from rfl] at hx253_6)
                                                (try rw [Addr.add_zero'] at hx253_6)
                                                have HR253_6 := Aside0.mk hi253_6
                                                have HC253_6 := Aside0.mk hl253_6
                                                clear hi253_6 hl253_6
                                                replace p253 := eq_true p253
                                                replace q253 := eq_true q253
                                                go_wp2_with (first | ((with_reducible refine gate_callee (f := 31) rfl ?_); refine goesL_ (some 82) rfl rfl Try.func31 (by kernel_rfl) rfl #[.slice A253_6 ((rd_T24 ((rd_T24 t237 0).f6) 0).f6).length c253_6] rfl (by (try simp only [List.map_toArray, List.map_cons, List.map_nil]); first | done | rfl | (simp only [List.length_drop, List.length_take]; rfl)) ?_; (with_reducible refine (task_Apply.calls _ _ ((rd_T24 ((rd_T24 t237 0).f6) 0).f6) t254 _ ?side1 ?side2 A37.out).mono ?_); (case side1 => repeat (first | exact (by repeat (first | (with_reducible exact HR253_6.out) | (with_reducible refine Kd.C_alloc ?_ _) | (with_reducible refine Kd.C_drewN ?_ _) | (with_reducible refine Kd.C_drew ?_) | exact HR253_6.out)) | (with_reducible refine Kd.C_alloc ?_ _) | (with_reducible refine Kd.C_drewN ?_ _) | (with_reducible refine Kd.C_drew ?_))); (case side2 => exact HC253_6.out); rintro e w52 ⟨v255, rfl, ho0, hb⟩; refine ⟨_, rfl, ?_⟩; have n0_ := Aside0.mk (Kd.N_elder' (by (with_reducible repeat (first | apply Kd.N_alloc | apply Kd.N_drewN | apply Kd.N_drew)); exact HO_7.out) (Kd.N_base ho0) hb); have n1_ := Aside0.mk (Kd.N_elder' (by (with_reducible repeat (first | apply Kd.N_alloc | apply Kd.N_drewN | apply Kd.N_drew)); exact HO_8.out) (Kd.N_base ho0) hb); have n2_ := Aside0.mk (Kd.V_elder' (by (with_reducible repeat (first | apply Kd.V_alloc | apply Kd.V_drewN | apply Kd.V_drew)); exact HL249_6.out) (Kd.N_base ho0) hb); have n3_ := Aside0.mk (Kd.V_elder' (by (with_reducible repeat (first | apply Kd.V_alloc | apply Kd.V_drewN | apply Kd.V_drew)); exact HL250_6.out) (Kd.N_base ho0) hb); have n4_ := Aside0.mk (Kd.V_elder' (by (with_reducible repeat (first | apply Kd.V_alloc | apply Kd.V_drewN | apply Kd.V_drew)); exact HL251_6.out) (Kd.N_base ho0) hb); have n5_ := Aside0.mk (Kd.V_elder' (by (with_reducible repeat (first | apply Kd.V_alloc | apply Kd.V_drewN | apply Kd.V_drew)); exact HL252_6.out) (Kd.N_base ho0) hb); have n6_ := Aside0.mk (Kd.V_elder' (by (with_reducible repeat (first | apply Kd.V_alloc | apply Kd.V_drewN | apply Kd.V_drew)); exact HL253_6.out) (Kd.N_base ho0) hb); have n7_ := Aside0.mk (Kd.N_lower (Kd.N_mono (ok' := fun k_ => some k_ ≠ (.slice (some ad252) t237.length co19 : Value).ownBlock ∧ some k_ ≠ (.slice (some ad249) t240.length co51 : Value).ownBlock) ho0 (fun k_ hk_ => ⟨(Kd.fresh' (Kd.N_lt (by (with_reducible repeat (first | apply Kd.N_alloc | apply Kd.N_drewN | apply Kd.N_drew)); exact HO_7.out)) k_ hk_), (Kd.fresh' (Kd.N_lt (by (with_reducible repeat (first | apply Kd.N_alloc | apply Kd.N_drewN | apply Kd.N_drew)); exact HO_8.out)) k_ hk_)⟩)) (below_size (by repeat (first | (with_reducible first | exact HB.out | apply below_alloc | apply pw_below_drewN | apply below_drew1) | exact HB.out)))); have n8_ := Aside0.mk (Kd.C_below (by repeat (first | (with_reducible exact HR249_6.out) | (with_reducible refine Kd.C_alloc ?_ _) | (with_reducible refine Kd.C_drewN ?_ _) | (with_reducible refine Kd.C_drew ?_) | exact HR249_6.out)) hb); have n9_ := Aside0.mk (Kd.C_below (by repeat (first | (with_reducible exact HR250_6.out) | (with_reducible refine Kd.C_alloc ?_ _) | (with_reducible refine Kd.C_drewN ?_ _) | (with_reducible refine Kd.C_drew ?_) | exact HR250_6.out)) hb); have n10_ := Aside0.mk (Kd.C_below (by repeat (first | (with_reducible exact HR251_6.out) | (with_reducible refine Kd.C_alloc ?_ _) | (with_reducible refine Kd.C_drewN ?_ _) | (with_reducible refine Kd.C_drew ?_) | exact HR251_6.out)) hb); have n11_ := Aside0.mk (Kd.C_below (by repeat (first | (with_reducible exact HR252_6.out) | (with_reducible refine Kd.C_alloc ?_ _) | (with_reducible refine Kd.C_drewN ?_ _) | (with_reducible refine Kd.C_drew ?_) | exact HR252_6.out)) hb); have n12_ := Aside0.mk (Kd.C_below (by repeat (first | (with_reducible exact HR253_6.out) | (with_reducible refine Kd.C_alloc ?_ _) | (with_reducible refine Kd.C_drewN ?_ _) | (with_reducible refine Kd.C_drew ?_) | exact HR253_6.out)) hb); have n13_ := Aside0.mk (below_step (by repeat (first | (with_reducible first | exact HB.out | apply below_alloc | apply pw_below_drewN | apply below_drew1) | exact HB.out)) hb); clear HO_7; clear HO_8; clear HL249_6; clear HL250_6; clear HL251_6; clear HL252_6; clear HL253_6; clear HR249_6; clear HR250_6; clear HR251_6; clear HR252_6; clear HR253_6; clear HB; have HO_7 := n0_; have HO_8 := n1_; have HL249_6 := n2_; have HL250_6 := n3_; have HL251_6 := n4_; have HL252_6 := n5_; have HL253_6 := n6_; have HO256 := n7_; have HR249_6 := n8_; have HR250_6 := n9_; have HR251_6 := n10_; have HR252_6 := n11_; have HR253_6 := n12_; have HB := n13_; clear n0_ n1_ n2_ n3_ n4_ n5_ n6_ n7_ n8_ n9_ n10_ n11_ n12_ n13_; (try clear hb); (try clear hb2); (try clear hk); (try clear hi); (try clear ho0); have p257 : 0 ≤ (0 : Int) := (by omega); have q257 : 0 < (((rd_T24 ((rd_T24 ((rd_T24 t240 0).f6) 0).f6) 0).f6).length : Int) := of_decide_eq_true (by first | (with_reducible assumption) | assumption); obtain ⟨ad257, A257_6, c257_6, e257, hx257_0, hx257_1, hx257_2, hx257_3, hx257_4, hx257_5, hx257_6, hl257_6, hi257_6⟩ := at_T24 (by repeat (first | (with_reducible exact HR251_6.out) | (with_reducible refine Kd.C_alloc ?_ _) | (with_reducible refine Kd.C_drewN ?_ _) | (with_reducible refine Kd.C_drew ?_) | exact HR251_6.out)) 0 p257 q257; cases e257; obtain ⟨ce257, hce257, hMe257, hcc257⟩ := Kd.V_get HL251_6.out z24 0 p257 (by first | exact q257 | exact of_decide_eq_true (by first | (with_reducible assumption) | assumption) | (have e_ := (Kd.V_reads' HL251_6.out).1; omega)); obtain ⟨ua257_6, uc257_6, rfl, ul257_6, ge257_6⟩ := k24_openF hMe257; have hv257_6 := hcc257 6 _ rfl; rw [add_field _ _ 6 (by omega)] at hv257_6; replace hv257_6 := Option.some.inj (hv257_6.symm.trans hx257_6); injection hv257_6 with hva_ hvn_ hvc_; rw [hva_] at ge257_6; rw [hvc_] at ul257_6; have HL257_6 := Aside0.mk (show Kd.V k24 24 _ w.heap.size _ _ ((rd_T24 ((rd_T24 ((rd_T24 ((rd_T24 t240 0).f6) 0).f6) 0).f6) 0).f6) from Kd.V_mk ul257_6 ge257_6); clear hva_ hvn_ hvc_ ge257_6 ul257_6; clear hcc257 hce257; have qi257 : (0 < ((rd_T24 ((rd_T24 ((rd_T24 t240 0).f6) 0).f6) 0).f6).length) = True := eq_true (by omega); (try rw [show ((0 : Int)).toNat = 0 from rfl] at hx257_0); (try rw [show 0 * 7 = 0 from rfl] at hx257_0); (try rw [Addr.add_zero'] at hx257_0); (try rw [show ((0 : Int)).toNat = 0 from rfl] at hx257_1); (try rw [show 0 * 7 = 0 from rfl] at hx257_1); (try rw [Addr.add_zero'] at hx257_1); (try rw [show ((0 : Int)).toNat = 0 from rfl] at hx257_2); (try rw [show 0 * 7 = 0 from rfl] at hx257_2); (try rw [Addr.add_zero'] at hx257_2); (try rw [show ((0 : Int)).toNat = 0 from rfl] at hx257_3); (try rw [show 0 * 7 = 0 from rfl] at hx257_3); (try rw [Addr.add_zero'] at hx257_3); (try rw [show ((0 : Int)).toNat = 0 from rfl] at hx257_4); (try rw [show 0 * 7 = 0 from rfl] at hx257_4); (try rw [Addr.add_zero'] at hx257_4); (try rw [show ((0 : Int)).toNat = 0 from rfl] at hx257_5); (try rw [show 0 * 7 = 0 from rfl] at hx257_5); (try rw [Addr.add_zero'] at hx257_5); (try rw [show ((0 : Int)).toNat = 0 from rfl] at hx257_6); (try rw [show 0 * 7 = 0 from rfl] at hx257_6); (try rw [Addr.add_zero'] at hx257_6); have HR257_6 := Aside0.mk hi257_6; have HC257_6 := Aside0.mk hl257_6; clear hi257_6 hl257_6; replace p257 := eq_true p257; replace q257 := eq_true q257; have p258 : 0 ≤ (0 : Int) := (by omega); have q258 : 0 < (((rd_T24 ((rd_T24 ((rd_T24 t240 0).f6) 0).f6) 0).f6).length : Int) := of_decide_eq_true (by first | (with_reducible assumption) | assumption); obtain ⟨ad258, A258_6, c258_6, e258, hx258_0, hx258_1, hx258_2, hx258_3, hx258_4, hx258_5, hx258_6, hl258_6, hi258_6⟩ := at_T24 (by repeat (first | (with_reducible exact HR251_6.out) | (with_reducible refine Kd.C_alloc ?_ _) | (with_reducible refine Kd.C_drewN ?_ _) | (with_reducible refine Kd.C_drew ?_) | exact HR251_6.out)) 0 p258 q258; obtain rfl : ad257 = ad258 := (by injection e258); obtain ⟨ce258, hce258, hMe258, hcc258⟩ := Kd.V_get HL251_6.out z24 0 p258 (by first | exact q258 | exact of_decide_eq_true (by first | (with_reducible assumption) | assumption) | (have e_ := (Kd.V_reads' HL251_6.out).1; omega)); obtain ⟨ua258_6, uc258_6, rfl, ul258_6, ge258_6⟩ := k24_openF hMe258; have hv258_6 := hcc258 6 _ rfl; rw [add_field _ _ 6 (by omega)] at hv258_6; replace hv258_6 := Option.some.inj (hv258_6.symm.trans hx258_6); injection hv258_6 with hva_ hvn_ hvc_; rw [hva_] at ge258_6; rw [hvc_] at ul258_6; have HL258_6 := Aside0.mk (show Kd.V k24 24 _ w.heap.size _ _ ((rd_T24 ((rd_T24 ((rd_T24 ((rd_T24 t240 0).f6) 0).f6) 0).f6) 0).f6) from Kd.V_mk ul258_6 ge258_6); clear hva_ hvn_ hvc_ ge258_6 ul258_6; clear hcc258 hce258; have qi258 : (0 < ((rd_T24 ((rd_T24 ((rd_T24 t240 0).f6) 0).f6) 0).f6).length) = True := eq_true (by omega); (try rw [show ((0 : Int)).toNat = 0 from rfl] at hx258_0); (try rw [show 0 * 7 = 0 from rfl] at hx258_0); (try rw [Addr.add_zero'] at hx258_0); (try rw [show ((0 : Int)).toNat = 0 from rfl] at hx258_1); (try rw [show 0 * 7 = 0 from rfl] at hx258_1); (try rw [Addr.add_zero'] at hx258_1); (try rw [show ((0 : Int)).toNat = 0 from rfl] at hx258_2); (try rw [show 0 * 7 = 0 from rfl] at hx258_2); (try rw [Addr.add_zero'] at hx258_2); (try rw [show ((0 : Int)).toNat = 0 from rfl] at hx258_3); (try rw [show 0 * 7 = 0 from rfl] at hx258_3); (try rw [Addr.add_zero'] at hx258_3); (try rw [show ((0 : Int)).toNat = 0 from rfl] at hx258_4); (try rw [show 0 * 7 = 0 from rfl] at hx258_4); (try rw [Addr.add_zero'] at hx258_4); (try rw [show ((0 : Int)).toNat = 0 from rfl] at hx258_5); (try rw [show 0 * 7 = 0 from rfl] at hx258_5); (try rw [Addr.add_zero'] at hx258_5); (try rw [show ((0 : Int)).toNat = 0 from rfl] at hx258_6); (try rw [show 0 * 7 = 0 from rfl] at hx258_6); (try rw [Addr.add_zero'] at hx258_6); have HR258_6 := Aside0.mk hi258_6; have HC258_6 := Aside0.mk hl258_6; clear hi258_6 hl258_6; replace p258 := eq_true p258; replace q258 := eq_true q258; have ea_ := Option.some.inj (hx257_6.symm.trans hx258_6); injection ea_ with ea_ en_ ec_; subst ea_; subst ec_; clear en_; have p259 : 0 ≤ (1 : Int) := (by omega); have q259 : 1 < (((rd_T24 ((rd_T24 ((rd_T24 t240 0).f6) 0).f6) 0).f6).length : Int) := of_decide_eq_true (by first | (with_reducible assumption) | assumption); obtain ⟨ad259, A259_6, c259_6, e259, hx259_0, hx259_1, hx259_2, hx259_3, hx259_4, hx259_5, hx259_6, hl259_6, hi259_6⟩ := at_T24 (by repeat (first | (with_reducible exact HR251_6.out) | (with_reducible refine Kd.C_alloc ?_ _) | (with_reducible refine Kd.C_drewN ?_ _) | (with_reducible refine Kd.C_drew ?_) | exact HR251_6.out)) 1 p259 q259; obtain rfl : ad257 = ad259 := (by injection e259); obtain ⟨ce259, hce259, hMe259, hcc259⟩ := Kd.V_get HL251_6.out z24 1 p259 (by first | exact q259 | exact of_decide_eq_true (by first | (with_reducible assumption) | assumption) | (have e_ := (Kd.V_reads' HL251_6.out).1; omega)); obtain ⟨ua259_6, uc259_6, rfl, ul259_6, ge259_6⟩ := k24_openF hMe259; have hv259_6 := hcc259 6 _ rfl; rw [add_field _ _ 6 (by omega)] at hv259_6; replace hv259_6 := Option.some.inj (hv259_6.symm.trans hx259_6); injection hv259_6 with hva_ hvn_ hvc_; rw [hva_] at ge259_6; rw [hvc_] at ul259_6; have HL259_6 := Aside0.mk (show Kd.V k24 24 _ w.heap.size _ _ ((rd_T24 ((rd_T24 ((rd_T24 ((rd_T24 t240 0).f6) 0).f6) 0).f6) 1).f6) from Kd.V_mk ul259_6 ge259_6); clear hva_ hvn_ hvc_ ge259_6 ul259_6; clear hcc259 hce259; (try simp only [show (1 : Int).toNat = 1 from rfl, Nat.reduceMul, Nat.reduceEqDiff, Go.Addr.add, ↓reduceIte] at hx259_0); (try simp only [show (1 : Int).toNat = 1 from rfl, Nat.reduceMul, Nat.reduceEqDiff, Go.Addr.add, ↓reduceIte] at hx259_1); (try simp only [show (1 : Int).toNat = 1 from rfl, Nat.reduceMul, Nat.reduceEqDiff, Go.Addr.add, ↓reduceIte] at hx259_2); (try simp only [show (1 : Int).toNat = 1 from rfl, Nat.reduceMul, Nat.reduceEqDiff, Go.Addr.add, ↓reduceIte] at hx259_3); (try simp only [show (1 : Int).toNat = 1 from rfl, Nat.reduceMul, Nat.reduceEqDiff, Go.Addr.add, ↓reduceIte] at hx259_4); (try simp only [show (1 : Int).toNat = 1 from rfl, Nat.reduceMul, Nat.reduceEqDiff, Go.Addr.add, ↓reduceIte] at hx259_5); (try simp only [show (1 : Int).toNat = 1 from rfl, Nat.reduceMul, Nat.reduceEqDiff, Go.Addr.add, ↓reduceIte] at hx259_6); have qi259 : (1 < ((rd_T24 ((rd_T24 ((rd_T24 t240 0).f6) 0).f6) 0).f6).length) = True := eq_true (by omega); (try rw [show ((1 : Int)).toNat = 1 from rfl] at hx259_0); (try rw [show 1 * 7 = 7 from rfl] at hx259_0); (try rw [show ((1 : Int)).toNat = 1 from rfl] at hx259_1); (try rw [show 1 * 7 = 7 from rfl] at hx259_1); (try rw [show ((1 : Int)).toNat = 1 from rfl] at hx259_2); (try rw [show 1 * 7 = 7 from rfl] at hx259_2); (try rw [show ((1 : Int)).toNat = 1 from rfl] at hx259_3); (try rw [show 1 * 7 = 7 from rfl] at hx259_3); (try rw [show ((1 : Int)).toNat = 1 from rfl] at hx259_4); (try rw [show 1 * 7 = 7 from rfl] at hx259_4); (try rw [show ((1 : Int)).toNat = 1 from rfl] at hx259_5); (try rw [show 1 * 7 = 7 from rfl] at hx259_5); (try rw [show ((1 : Int)).toNat = 1 from rfl] at hx259_6); (try rw [show 1 * 7 = 7 from rfl] at hx259_6); have HR259_6 := Aside0.mk hi259_6; have HC259_6 := Aside0.mk hl259_6; clear hi259_6 hl259_6; replace p259 := eq_true p259; replace q259 := eq_true q259; have p260 : 0 ≤ (0 : Int) := (by omega); have q260 : 0 < (t237.length : Int) := of_decide_eq_true (by first | (with_reducible assumption) | assumption); obtain ⟨ad260, A260_6, c260_6, e260, hx260_0, hx260_1, hx260_2, hx260_3, hx260_4, hx260_5, hx260_6, hl260_6, hi260_6⟩ := at_T24 (Kd.N_reads' HO_7.out).2.2 0 p260 q260; obtain rfl : ad252 = ad260 := (by injection e260); obtain ⟨ce260, hce260, hMe260, hcc260⟩ := Kd.N_get HO_7.out z24 0 p260 (by first | exact q260 | exact of_decide_eq_true (by first | (with_reducible assumption) | assumption) | (have e_ := (Kd.N_reads' HO_7.out).1; omega)); obtain ⟨ua260_6, uc260_6, rfl, ul260_6, ge260_6⟩ := k24_openF hMe260; have hv260_6 := hcc260 6 _ rfl; rw [add_field _ _ 6 (by omega)] at hv260_6; replace hv260_6 := Option.some.inj (hv260_6.symm.trans hx260_6); injection hv260_6 with hva_ hvn_ hvc_; rw [hva_] at ge260_6; rw [hvc_] at ul260_6; have HL260_6 := Aside0.mk (show Kd.V k24 24 _ w.heap.size _ _ ((rd_T24 t237 0).f6) from Kd.V_mk ul260_6 ge260_6); clear hva_ hvn_ hvc_ ge260_6 ul260_6; clear hcc260 hce260; have qi260 : (0 < t237.length) = True := eq_true (by omega); (try rw [show ((0 : Int)).toNat = 0 from rfl] at hx260_0); (try rw [show 0 * 7 = 0 from rfl] at hx260_0); (try rw [Addr.add_zero'] at hx260_0); (try rw [show ((0 : Int)).toNat = 0 from rfl] at hx260_1); (try rw [show 0 * 7 = 0 from rfl] at hx260_1); (try rw [Addr.add_zero'] at hx260_1); (try rw [show ((0 : Int)).toNat = 0 from rfl] at hx260_2); (try rw [show 0 * 7 = 0 from rfl] at hx260_2); (try rw [Addr.add_zero'] at hx260_2); (try rw [show ((0 : Int)).toNat = 0 from rfl] at hx260_3); (try rw [show 0 * 7 = 0 from rfl] at hx260_3); (try rw [Addr.add_zero'] at hx260_3); (try rw [show ((0 : Int)).toNat = 0 from rfl] at hx260_4); (try rw [show 0 * 7 = 0 from rfl] at hx260_4); (try rw [Addr.add_zero'] at hx260_4); (try rw [show ((0 : Int)).toNat = 0 from rfl] at hx260_5); (try rw [show 0 * 7 = 0 from rfl] at hx260_5); (try rw [Addr.add_zero'] at hx260_5); (try rw [show ((0 : Int)).toNat = 0 from rfl] at hx260_6); (try rw [show 0 * 7 = 0 from rfl] at hx260_6); (try rw [Addr.add_zero'] at hx260_6); have HR260_6 := Aside0.mk hi260_6; have HC260_6 := Aside0.mk hl260_6; clear hi260_6 hl260_6; replace p260 := eq_true p260; replace q260 := eq_true q260; have p261 : 0 ≤ (0 : Int) := (by omega); have q261 : 0 < (((rd_T24 t237 0).f6).length : Int) := of_decide_eq_true (by first | (with_reducible assumption) | assumption); obtain ⟨ad261, A261_6, c261_6, e261, hx261_0, hx261_1, hx261_2, hx261_3, hx261_4, hx261_5, hx261_6, hl261_6, hi261_6⟩ := at_T24 (by repeat (first | (with_reducible exact HR260_6.out) | (with_reducible refine Kd.C_alloc ?_ _) | (with_reducible refine Kd.C_drewN ?_ _) | (with_reducible refine Kd.C_drew ?_) | exact HR260_6.out)) 0 p261 q261; cases e261; obtain ⟨ce261, hce261, hMe261, hcc261⟩ := Kd.V_get HL260_6.out z24 0 p261 (by first | exact q261 | exact of_decide_eq_true (by first | (with_reducible assumption) | assumption) | (have e_ := (Kd.V_reads' HL260_6.out).1; omega)); obtain ⟨ua261_6, uc261_6, rfl, ul261_6, ge261_6⟩ := k24_openF hMe261; have hv261_6 := hcc261 6 _ rfl; rw [add_field _ _ 6 (by omega)] at hv261_6; replace hv261_6 := Option.some.inj (hv261_6.symm.trans hx261_6); injection hv261_6 with hva_ hvn_ hvc_; rw [hva_] at ge261_6; rw [hvc_] at ul261_6; have HL261_6 := Aside0.mk (show Kd.V k24 24 _ w.heap.size _ _ ((rd_T24 ((rd_T24 t237 0).f6) 0).f6) from Kd.V_mk ul261_6 ge261_6); clear hva_ hvn_ hvc_ ge261_6 ul261_6; clear hcc261 hce261; have qi261 : (0 < ((rd_T24 t237 0).f6).length) = True := eq_true (by omega); (try rw [show ((0 : Int)).toNat = 0 from rfl] at hx261_0); (try rw [show 0 * 7 = 0 from rfl] at hx261_0); (try rw [Addr.add_zero'] at hx261_0); (try rw [show ((0 : Int)).toNat = 0 from rfl] at hx261_1); (try rw [show 0 * 7 = 0 from rfl] at hx261_1); (try rw [Addr.add_zero'] at hx261_1); (try rw [show ((0 : Int)).toNat = 0 from rfl] at hx261_2); (try rw [show 0 * 7 = 0 from rfl] at hx261_2); (try rw [Addr.add_zero'] at hx261_2); (try rw [show ((0 : Int)).toNat = 0 from rfl] at hx261_3); (try rw [show 0 * 7 = 0 from rfl] at hx261_3); (try rw [Addr.add_zero'] at hx261_3); (try rw [show ((0 : Int)).toNat = 0 from rfl] at hx261_4); (try rw [show 0 * 7 = 0 from rfl] at hx261_4); (try rw [Addr.add_zero'] at hx261_4); (try rw [show ((0 : Int)).toNat = 0 from rfl] at hx261_5); (try rw [show 0 * 7 = 0 from rfl] at hx261_5); (try rw [Addr.add_zero'] at hx261_5); (try rw [show ((0 : Int)).toNat = 0 from rfl] at hx261_6); (try rw [show 0 * 7 = 0 from rfl] at hx261_6); (try rw [Addr.add_zero'] at hx261_6); have HR261_6 := Aside0.mk hi261_6; have HC261_6 := Aside0.mk hl261_6; clear hi261_6 hl261_6; replace p261 := eq_true p261; replace q261 := eq_true q261; obtain ⟨Ao53, co53, eo53⟩ := Kd.N_slice HO256.out; subst eo53) | (go_at_call 33; (with_reducible refine (incipitref06_SameAll.calls kj12 _ _ t254 _ _ ((rd_T24 ((rd_T24 t237 0).f6) 0).f6) true _ ?side1 ?side2 ?side3 ?side4 A45.out).mono ?_); (case side1 => repeat (first | exact (Kd.N_reads' HO256.out).2.2 | (with_reducible refine Kd.C_alloc ?_ _) | (with_reducible refine Kd.C_drewN ?_ _) | (with_reducible refine Kd.C_drew ?_))); (case side2 => exact (Kd.N_reads' HO256.out).2.1); (case side3 => repeat (first | exact (by repeat (first | (with_reducible exact HR261_6.out) | (with_reducible refine Kd.C_alloc ?_ _) | (with_reducible refine Kd.C_drewN ?_ _) | (with_reducible refine Kd.C_drew ?_) | exact HR261_6.out)) | (with_reducible refine Kd.C_alloc ?_ _) | (with_reducible refine Kd.C_drewN ?_ _) | (with_reducible refine Kd.C_drew ?_))); (case side4 => exact HC261_6.out); rintro e w54 ⟨rfl, hb⟩; have n0_ := Aside0.mk (Kd.N_below (by (with_reducible repeat (first | apply Kd.N_alloc | apply Kd.N_drewN | apply Kd.N_drew)); exact HO_7.out) hb); have n1_ := Aside0.mk (Kd.N_below (by (with_reducible repeat (first | apply Kd.N_alloc | apply Kd.N_drewN | apply Kd.N_drew)); exact HO_8.out) hb); have n2_ := Aside0.mk (Kd.V_below (by (with_reducible repeat (first | apply Kd.V_alloc | apply Kd.V_drewN | apply Kd.V_drew)); exact HL249_6.out) hb); have n3_ := Aside0.mk (Kd.V_below (by (with_reducible repeat (first | apply Kd.V_alloc | apply Kd.V_drewN | apply Kd.V_drew)); exact HL250_6.out) hb); have n4_ := Aside0.mk (Kd.V_below (by (with_reducible repeat (first | apply Kd.V_alloc | apply Kd.V_drewN | apply Kd.V_drew)); exact HL251_6.out) hb); have n5_ := Aside0.mk (Kd.V_below (by (with_reducible repeat (first | apply Kd.V_alloc | apply Kd.V_drewN | apply Kd.V_drew)); exact HL252_6.out) hb); have n6_ := Aside0.mk (Kd.V_below (by (with_reducible repeat (first | apply Kd.V_alloc | apply Kd.V_drewN | apply Kd.V_drew)); exact HL253_6.out) hb); have n7_ := Aside0.mk (Kd.N_below (by (with_reducible repeat (first | apply Kd.N_alloc | apply Kd.N_drewN | apply Kd.N_drew)); exact HO256.out) hb); have n8_ := Aside0.mk (Kd.V_below (by (with_reducible repeat (first | apply Kd.V_alloc | apply Kd.V_drewN | apply Kd.V_drew)); exact HL257_6.out) hb); have n9_ := Aside0.mk (Kd.V_below (by (with_reducible repeat (first | apply Kd.V_alloc | apply Kd.V_drewN | apply Kd.V_drew)); exact HL258_6.out) hb); have n10_ := Aside0.mk (Kd.V_below (by (with_reducible repeat (first | apply Kd.V_alloc | apply Kd.V_drewN | apply Kd.V_drew)); exact HL259_6.out) hb); have n11_ := Aside0.mk (Kd.V_below (by (with_reducible repeat (first | apply Kd.V_alloc | apply Kd.V_drewN | apply Kd.V_drew)); exact HL260_6.out) hb); have n12_ := Aside0.mk (Kd.V_below (by (with_reducible repeat (first | apply Kd.V_alloc | apply Kd.V_drewN | apply Kd.V_drew)); exact HL261_6.out) hb); have n13_ := Aside0.mk (Kd.C_below (by repeat (first | (with_reducible exact HR249_6.out) | (with_reducible refine Kd.C_alloc ?_ _) | (with_reducible refine Kd.C_drewN ?_ _) | (with_reducible refine Kd.C_drew ?_) | exact HR249_6.out)) hb); have n14_ := Aside0.mk (Kd.C_below (by repeat (first | (with_reducible exact HR250_6.out) | (with_reducible refine Kd.C_alloc ?_ _) | (with_reducible refine Kd.C_drewN ?_ _) | (with_reducible refine Kd.C_drew ?_) | exact HR250_6.out)) hb); have n15_ := Aside0.mk (Kd.C_below (by repeat (first | (with_reducible exact HR251_6.out) | (with_reducible refine Kd.C_alloc ?_ _) | (with_reducible refine Kd.C_drewN ?_ _) | (with_reducible refine Kd.C_drew ?_) | exact HR251_6.out)) hb); have n16_ := Aside0.mk (Kd.C_below (by repeat (first | (with_reducible exact HR252_6.out) | (with_reducible refine Kd.C_alloc ?_ _) | (with_reducible refine Kd.C_drewN ?_ _) | (with_reducible refine Kd.C_drew ?_) | exact HR252_6.out)) hb); have n17_ := Aside0.mk (Kd.C_below (by repeat (first | (with_reducible exact HR253_6.out) | (with_reducible refine Kd.C_alloc ?_ _) | (with_reducible refine Kd.C_drewN ?_ _) | (with_reducible refine Kd.C_drew ?_) | exact HR253_6.out)) hb); have n18_ := Aside0.mk (Kd.C_below (by repeat (first | (with_reducible exact HR257_6.out) | (with_reducible refine Kd.C_alloc ?_ _) | (with_reducible refine Kd.C_drewN ?_ _) | (with_reducible refine Kd.C_drew ?_) | exact HR257_6.out)) hb); have n19_ := Aside0.mk (Kd.C_below (by repeat (first | (with_reducible exact HR258_6.out) | (with_reducible refine Kd.C_alloc ?_ _) | (with_reducible refine Kd.C_drewN ?_ _) | (with_reducible refine Kd.C_drew ?_) | exact HR258_6.out)) hb); have n20_ := Aside0.mk (Kd.C_below (by repeat (first | (with_reducible exact HR259_6.out) | (with_reducible refine Kd.C_alloc ?_ _) | (with_reducible refine Kd.C_drewN ?_ _) | (with_reducible refine Kd.C_drew ?_) | exact HR259_6.out)) hb); have n21_ := Aside0.mk (Kd.C_below (by repeat (first | (with_reducible exact HR260_6.out) | (with_reducible refine Kd.C_alloc ?_ _) | (with_reducible refine Kd.C_drewN ?_ _) | (with_reducible refine Kd.C_drew ?_) | exact HR260_6.out)) hb); have n22_ := Aside0.mk (Kd.C_below (by repeat (first | (with_reducible exact HR261_6.out) | (with_reducible refine Kd.C_alloc ?_ _) | (with_reducible refine Kd.C_drewN ?_ _) | (with_reducible refine Kd.C_drew ?_) | exact HR261_6.out)) hb); have n23_ := Aside0.mk (below_step (by repeat (first | (with_reducible first | exact HB.out | apply below_alloc | apply pw_below_drewN | apply below_drew1) | exact HB.out)) hb); clear HO_7; clear HO_8; clear HL249_6; clear HL250_6; clear HL251_6; clear HL252_6; clear HL253_6; clear HO256; clear HL257_6; clear HL258_6; clear HL259_6; clear HL260_6; clear HL261_6; clear HR249_6; clear HR250_6; clear HR251_6; clear HR252_6; clear HR253_6; clear HR257_6; clear HR258_6; clear HR259_6; clear HR260_6; clear HR261_6; clear HB; have HO_7 := n0_; have HO_8 := n1_; have HL249_6 := n2_; have HL250_6 := n3_; have HL251_6 := n4_; have HL252_6 := n5_; have HL253_6 := n6_; have HO256 := n7_; have HL257_6 := n8_; have HL258_6 := n9_; have HL259_6 := n10_; have HL260_6 := n11_; have HL261_6 := n12_; have HR249_6 := n13_; have HR250_6 := n14_; have HR251_6 := n15_; have HR252_6 := n16_; have HR253_6 := n17_; have HR257_6 := n18_; have HR258_6 := n19_; have HR259_6 := n20_; have HR260_6 := n21_; have HR261_6 := n22_; have HB := n23_; clear n0_ n1_ n2_ n3_ n4_ n5_ n6_ n7_ n8_ n9_ n10_ n11_ n12_ n13_ n14_ n15_ n16_ n17_ n18_ n19_ n20_ n21_ n22_ n23_; (try clear hb); (try clear hb2); (try clear hk); (try clear hi)) | (go_at_call 34; (with_reducible refine (incipitlaw16_item.calls (((rdOf ByteArray.empty y233 (ji6)) ++ (⟨#[32]⟩ : ByteArray)) ++ a0) t263 _ A49.out).mono ?_); rintro e w55 ⟨v264, rfl, ho0, hb⟩; have n0_ := Aside0.mk (Kd.N_elder' (by (with_reducible repeat (first | apply Kd.N_alloc | apply Kd.N_drewN | apply Kd.N_drew)); exact HO_7.out) (Kd.N_base ho0) hb); have n1_ := Aside0.mk (Kd.N_elder' (by (with_reducible repeat (first | apply Kd.N_alloc | apply Kd.N_drewN | apply Kd.N_drew)); exact HO_8.out) (Kd.N_base ho0) hb); have n2_ := Aside0.mk (Kd.V_elder' (by (with_reducible repeat (first | apply Kd.V_alloc | apply Kd.V_drewN | apply Kd.V_drew)); exact HL249_6.out) (Kd.N_base ho0) hb); have n3_ := Aside0.mk (Kd.V_elder' (by (with_reducible repeat (first | apply Kd.V_alloc | apply Kd.V_drewN | apply Kd.V_drew)); exact HL250_6.out) (Kd.N_base ho0) hb); have n4_ := Aside0.mk (Kd.V_elder' (by (with_reducible repeat (first | apply Kd.V_alloc | apply Kd.V_drewN | apply Kd.V_drew)); exact HL251_6.out) (Kd.N_base ho0) hb); have n5_ := Aside0.mk (Kd.V_elder' (by (with_reducible repeat (first | apply Kd.V_alloc | apply Kd.V_drewN | apply Kd.V_drew)); exact HL252_6.out) (Kd.N_base ho0) hb); have n6_ := Aside0.mk (Kd.V_elder' (by (with_reducible repeat (first | apply Kd.V_alloc | apply Kd.V_drewN | apply Kd.V_drew)); exact HL253_6.out) (Kd.N_base ho0) hb); have n7_ := Aside0.mk (Kd.N_elder' (by (with_reducible repeat (first | apply Kd.N_alloc | apply Kd.N_drewN | apply Kd.N_drew)); exact HO256.out) (Kd.N_base ho0) hb); have n8_ := Aside0.mk (Kd.V_elder' (by (with_reducible repeat (first | apply Kd.V_alloc | apply Kd.V_drewN | apply Kd.V_drew)); exact HL257_6.out) (Kd.N_base ho0) hb); have n9_ := Aside0.mk (Kd.V_elder' (by (with_reducible repeat (first | apply Kd.V_alloc | apply Kd.V_drewN | apply Kd.V_drew)); exact HL258_6.out) (Kd.N_base ho0) hb); have n10_ := Aside0.mk (Kd.V_elder' (by (with_reducible repeat (first | apply Kd.V_alloc | apply Kd.V_drewN | apply Kd.V_drew)); exact HL259_6.out) (Kd.N_base ho0) hb); have n11_ := Aside0.mk (Kd.V_elder' (by (with_reducible repeat (first | apply Kd.V_alloc | apply Kd.V_drewN | apply Kd.V_drew)); exact HL260_6.out) (Kd.N_base ho0) hb); have n12_ := Aside0.mk (Kd.V_elder' (by (with_reducible repeat (first | apply Kd.V_alloc | apply Kd.V_drewN | apply Kd.V_drew)); exact HL261_6.out) (Kd.N_base ho0) hb); have n13_ := Aside0.mk (Kd.N_lower (Kd.N_mono (ok' := fun k_ => some k_ ≠ (.slice (some ad252) t237.length co19 : Value).ownBlock ∧ some k_ ≠ (.slice (some ad249) t240.length co51 : Value).ownBlock ∧ some k_ ≠ (.slice Ao53 t254.length co53 : Value).ownBlock) ho0 (fun k_ hk_ => ⟨(Kd.fresh' (Kd.N_lt (by (with_reducible repeat (first | apply Kd.N_alloc | apply Kd.N_drewN | apply Kd.N_drew)); exact HO_7.out)) k_ hk_), (Kd.fresh' (Kd.N_lt (by (with_reducible repeat (first | apply Kd.N_alloc | apply Kd.N_drewN | apply Kd.N_drew)); exact HO_8.out)) k_ hk_), (Kd.fresh' (Kd.N_lt (by (with_reducible repeat (first | apply Kd.N_alloc | apply Kd.N_drewN | apply Kd.N_drew)); exact HO256.out)) k_ hk_)⟩)) (below_size (by repeat (first | (with_reducible first | exact HB.out | apply below_alloc | apply pw_below_drewN | apply below_drew1) | exact HB.out)))); have n14_ := Aside0.mk (Kd.C_below (by repeat (first | (with_reducible exact HR249_6.out) | (with_reducible refine Kd.C_alloc ?_ _) | (with_reducible refine Kd.C_drewN ?_ _) | (with_reducible refine Kd.C_drew ?_) | exact HR249_6.out)) hb); have n15_ := Aside0.mk (Kd.C_below (by repeat (first | (with_reducible exact HR250_6.out) | (with_reducible refine Kd.C_alloc ?_ _) | (with_reducible refine Kd.C_drewN ?_ _) | (with_reducible refine Kd.C_drew ?_) | exact HR250_6.out)) hb); have n16_ := Aside0.mk (Kd.C_below (by repeat (first | (with_reducible exact HR251_6.out) | (with_reducible refine Kd.C_alloc ?_ _) | (with_reducible refine Kd.C_drewN ?_ _) | (with_reducible refine Kd.C_drew ?_) | exact HR251_6.out)) hb); have n17_ := Aside0.mk (Kd.C_below (by repeat (first | (with_reducible exact HR252_6.out) | (with_reducible refine Kd.C_alloc ?_ _) | (with_reducible refine Kd.C_drewN ?_ _) | (with_reducible refine Kd.C_drew ?_) | exact HR252_6.out)) hb); have n18_ := Aside0.mk (Kd.C_below (by repeat (first | (with_reducible exact HR253_6.out) | (with_reducible refine Kd.C_alloc ?_ _) | (with_reducible refine Kd.C_drewN ?_ _) | (with_reducible refine Kd.C_drew ?_) | exact HR253_6.out)) hb); have n19_ := Aside0.mk (Kd.C_below (by repeat (first | (with_reducible exact HR257_6.out) | (with_reducible refine Kd.C_alloc ?_ _) | (with_reducible refine Kd.C_drewN ?_ _) | (with_reducible refine Kd.C_drew ?_) | exact HR257_6.out)) hb); have n20_ := Aside0.mk (Kd.C_below (by repeat (first | (with_reducible exact HR258_6.out) | (with_reducible refine Kd.C_alloc ?_ _) | (with_reducible refine Kd.C_drewN ?_ _) | (with_reducible refine Kd.C_drew ?_) | exact HR258_6.out)) hb); have n21_ := Aside0.mk (Kd.C_below (by repeat (first | (with_reducible exact HR259_6.out) | (with_reducible refine Kd.C_alloc ?_ _) | (with_reducible refine Kd.C_drewN ?_ _) | (with_reducible refine Kd.C_drew ?_) | exact HR259_6.out)) hb); have n22_ := Aside0.mk (Kd.C_below (by repeat (first | (with_reducible exact HR260_6.out) | (with_reducible refine Kd.C_alloc ?_ _) | (with_reducible refine Kd.C_drewN ?_ _) | (with_reducible refine Kd.C_drew ?_) | exact HR260_6.out)) hb); have n23_ := Aside0.mk (Kd.C_below (by repeat (first | (with_reducible exact HR261_6.out) | (with_reducible refine Kd.C_alloc ?_ _) | (with_reducible refine Kd.C_drewN ?_ _) | (with_reducible refine Kd.C_drew ?_) | exact HR261_6.out)) hb); have n24_ := Aside0.mk (below_step (by repeat (first | (with_reducible first | exact HB.out | apply below_alloc | apply pw_below_drewN | apply below_drew1) | exact HB.out)) hb); clear HO_7; clear HO_8; clear HL249_6; clear HL250_6; clear HL251_6; clear HL252_6; clear HL253_6; clear HO256; clear HL257_6; clear HL258_6; clear HL259_6; clear HL260_6; clear HL261_6; clear HR249_6; clear HR250_6; clear HR251_6; clear HR252_6; clear HR253_6; clear HR257_6; clear HR258_6; clear HR259_6; clear HR260_6; clear HR261_6; clear HB; have HO_7 := n0_; have HO_8 := n1_; have HL249_6 := n2_; have HL250_6 := n3_; have HL251_6 := n4_; have HL252_6 := n5_; have HL253_6 := n6_; have HO256 := n7_; have HL257_6 := n8_; have HL258_6 := n9_; have HL259_6 := n10_; have HL260_6 := n11_; have HL261_6 := n12_; have HO265 := n13_; have HR249_6 := n14_; have HR250_6 := n15_; have HR251_6 := n16_; have HR252_6 := n17_; have HR253_6 := n18_; have HR257_6 := n19_; have HR258_6 := n20_; have HR259_6 := n21_; have HR260_6 := n22_; have HR261_6 := n23_; have HB := n24_; clear n0_ n1_ n2_ n3_ n4_ n5_ n6_ n7_ n8_ n9_ n10_ n11_ n12_ n13_ n14_ n15_ n16_ n17_ n18_ n19_ n20_ n21_ n22_ n23_ n24_; (try clear hb); (try clear hb2); (try clear hk); (try clear hi); (try clear ho0); obtain ⟨Ao56, co56, eo56⟩ := Kd.N_slice HO265.out; subst eo56) | (go_at_call 33; (with_reducible refine (incipitref06_SameAll.calls kj12 _ _ t237 _ _ t263 t266 _ ?side1 ?side2 ?side3 ?side4 A50.out).mono ?_); (case side1 => repeat (first | exact (Kd.N_reads' HO_7.out).2.2 | (with_reducible refine Kd.C_alloc ?_ _) | (with_reducible refine Kd.C_drewN ?_ _) | (with_reducible refine Kd.C_drew ?_))); (case side2 => exact (Kd.N_reads' HO_7.out).2.1); (case side3 => repeat (first | exact (Kd.N_reads' HO265.out).2.2 | (with_reducible refine Kd.C_alloc ?_ _) | (with_reducible refine Kd.C_drewN ?_ _) | (with_reducible refine Kd.C_drew ?_))); (case side4 => exact (Kd.N_reads' HO265.out).2.1); rintro e w57 ⟨rfl, hb⟩; have n0_ := Aside0.mk (Kd.N_below (by (with_reducible repeat (first | apply Kd.N_alloc | apply Kd.N_drewN | apply Kd.N_drew)); exact HO_7.out) hb); have n1_ := Aside0.mk (Kd.N_below (by (with_reducible repeat (first | apply Kd.N_alloc | apply Kd.N_drewN | apply Kd.N_drew)); exact HO_8.out) hb); have n2_ := Aside0.mk (Kd.V_below (by (with_reducible repeat (first | apply Kd.V_alloc | apply Kd.V_drewN | apply Kd.V_drew)); exact HL249_6.out) hb); have n3_ := Aside0.mk (Kd.V_below (by (with_reducible repeat (first | apply Kd.V_alloc | apply Kd.V_drewN | apply Kd.V_drew)); exact HL250_6.out) hb); have n4_ := Aside0.mk (Kd.V_below (by (with_reducible repeat (first | apply Kd.V_alloc | apply Kd.V_drewN | apply Kd.V_drew)); exact HL251_6.out) hb); have n5_ := Aside0.mk (Kd.V_below (by (with_reducible repeat (first | apply Kd.V_alloc | apply Kd.V_drewN | apply Kd.V_drew)); exact HL252_6.out) hb); have n6_ := Aside0.mk (Kd.V_below (by (with_reducible repeat (first | apply Kd.V_alloc | apply Kd.V_drewN | apply Kd.V_drew)); exact HL253_6.out) hb); have n7_ := Aside0.mk (Kd.N_below (by (with_reducible repeat (first | apply Kd.N_alloc | apply Kd.N_drewN | apply Kd.N_drew)); exact HO256.out) hb); have n8_ := Aside0.mk (Kd.V_below (by (with_reducible repeat (first | apply Kd.V_alloc | apply Kd.V_drewN | apply Kd.V_drew)); exact HL257_6.out) hb); have n9_ := Aside0.mk (Kd.V_below (by (with_reducible repeat (first | apply Kd.V_alloc | apply Kd.V_drewN | apply Kd.V_drew)); exact HL258_6.out) hb); have n10_ := Aside0.mk (Kd.V_below (by (with_reducible repeat (first | apply Kd.V_alloc | apply Kd.V_drewN | apply Kd.V_drew)); exact HL259_6.out) hb); have n11_ := Aside0.mk (Kd.V_below (by (with_reducible repeat (first | apply Kd.V_alloc | apply Kd.V_drewN | apply Kd.V_drew)); exact HL260_6.out) hb); have n12_ := Aside0.mk (Kd.V_below (by (with_reducible repeat (first | apply Kd.V_alloc | apply Kd.V_drewN | apply Kd.V_drew)); exact HL261_6.out) hb); have n13_ := Aside0.mk (Kd.N_below (by (with_reducible repeat (first | apply Kd.N_alloc | apply Kd.N_drewN | apply Kd.N_drew)); exact HO265.out) hb); have n14_ := Aside0.mk (Kd.C_below (by repeat (first | (with_reducible exact HR249_6.out) | (with_reducible refine Kd.C_alloc ?_ _) | (with_reducible refine Kd.C_drewN ?_ _) | (with_reducible refine Kd.C_drew ?_) | exact HR249_6.out)) hb); have n15_ := Aside0.mk (Kd.C_below (by repeat (first | (with_reducible exact HR250_6.out) | (with_reducible refine Kd.C_alloc ?_ _) | (with_reducible refine Kd.C_drewN ?_ _) | (with_reducible refine Kd.C_drew ?_) | exact HR250_6.out)) hb); have n16_ := Aside0.mk (Kd.C_below (by repeat (first | (with_reducible exact HR251_6.out) | (with_reducible refine Kd.C_alloc ?_ _) | (with_reducible refine Kd.C_drewN ?_ _) | (with_reducible refine Kd.C_drew ?_) | exact HR251_6.out)) hb); have n17_ := Aside0.mk (Kd.C_below (by repeat (first | (with_reducible exact HR252_6.out) | (with_reducible refine Kd.C_alloc ?_ _) | (with_reducible refine Kd.C_drewN ?_ _) | (with_reducible refine Kd.C_drew ?_) | exact HR252_6.out)) hb); have n18_ := Aside0.mk (Kd.C_below (by repeat (first | (with_reducible exact HR253_6.out) | (with_reducible refine Kd.C_alloc ?_ _) | (with_reducible refine Kd.C_drewN ?_ _) | (with_reducible refine Kd.C_drew ?_) | exact HR253_6.out)) hb); have n19_ := Aside0.mk (Kd.C_below (by repeat (first | (with_reducible exact HR257_6.out) | (with_reducible refine Kd.C_alloc ?_ _) | (with_reducible refine Kd.C_drewN ?_ _) | (with_reducible refine Kd.C_drew ?_) | exact HR257_6.out)) hb); have n20_ := Aside0.mk (Kd.C_below (by repeat (first | (with_reducible exact HR258_6.out) | (with_reducible refine Kd.C_alloc ?_ _) | (with_reducible refine Kd.C_drewN ?_ _) | (with_reducible refine Kd.C_drew ?_) | exact HR258_6.out)) hb); have n21_ := Aside0.mk (Kd.C_below (by repeat (first | (with_reducible exact HR259_6.out) | (with_reducible refine Kd.C_alloc ?_ _) | (with_reducible refine Kd.C_drewN ?_ _) | (with_reducible refine Kd.C_drew ?_) | exact HR259_6.out)) hb); have n22_ := Aside0.mk (Kd.C_below (by repeat (first | (with_reducible exact HR260_6.out) | (with_reducible refine Kd.C_alloc ?_ _) | (with_reducible refine Kd.C_drewN ?_ _) | (with_reducible refine Kd.C_drew ?_) | exact HR260_6.out)) hb); have n23_ := Aside0.mk (Kd.C_below (by repeat (first | (with_reducible exact HR261_6.out) | (with_reducible refine Kd.C_alloc ?_ _) | (with_reducible refine Kd.C_drewN ?_ _) | (with_reducible refine Kd.C_drew ?_) | exact HR261_6.out)) hb); have n24_ := Aside0.mk (below_step (by repeat (first | (with_reducible first | exact HB.out | apply below_alloc | apply pw_below_drewN | apply below_drew1) | exact HB.out)) hb); clear HO_7; clear HO_8; clear HL249_6; clear HL250_6; clear HL251_6; clear HL252_6; clear HL253_6; clear HO256; clear HL257_6; clear HL258_6; clear HL259_6; clear HL260_6; clear HL261_6; clear HO265; clear HR249_6; clear HR250_6; clear HR251_6; clear HR252_6; clear HR253_6; clear HR257_6; clear HR258_6; clear HR259_6; clear HR260_6; clear HR261_6; clear HB; have HO_7 := n0_; have HO_8 := n1_; have HL249_6 := n2_; have HL250_6 := n3_; have HL251_6 := n4_; have HL252_6 := n5_; have HL253_6 := n6_; have HO256 := n7_; have HL257_6 := n8_; have HL258_6 := n9_; have HL259_6 := n10_; have HL260_6 := n11_; have HL261_6 := n12_; have HO265 := n13_; have HR249_6 := n14_; have HR250_6 := n15_; have HR251_6 := n16_; have HR252_6 := n17_; have HR253_6 := n18_; have HR257_6 := n19_; have HR258_6 := n20_; have HR259_6 := n21_; have HR260_6 := n22_; have HR261_6 := n23_; have HB := n24_; clear n0_ n1_ n2_ n3_ n4_ n5_ n6_ n7_ n8_ n9_ n10_ n11_ n12_ n13_ n14_ n15_ n16_ n17_ n18_ n19_ n20_ n21_ n22_ n23_ n24_; (try clear hb); (try clear hb2); (try clear hk); (try clear hi)))
                                                all_goals go_ret
                                                all_goals first | (exfalso; have e_ := beq_iff_eq.mp c41b0; rename_i h_; first | exact h_ e_ | exact h_ (e_.trans rfl) | (apply h_; rw [e_]; simp [bne])) | (exact ⟨by first | rfl | (simp [errW_none, errW_some] <;> rfl) | (simp only [← hji6]; first | rfl | (simp [errW_none, errW_some] <;> rfl)) | (simp [*, errW_none, errW_some] <;> rfl), by repeat (first | (with_reducible first | exact HB.out | apply below_alloc | apply pw_below_drewN | apply below_drew1) | exact HB.out)⟩)
                                              · rw [if_neg c48] at H
                                                exact absurd H (by simp)
                                            · rw [if_neg c47] at H
                                              exact absurd H (by simp)
                                          · replace c46 := Bool.eq_false_iff.mpr c46
                                            subst c46
                                            have H1 : (none) = some r := by rw [if_neg (show ¬ (false = true) by decide)] at H; exact H
                                            clear H
                                            have H := H1
                                            clear H1
                                            exact absurd H (by simp)
                                        · rw [if_neg c44] at H
                                          exact absurd H (by simp)
                                      · rw [if_neg c43] at H
                                        exact absurd H (by simp)
                                    · rw [if_neg c42] at H
                                      exact absurd H (by simp)
                                  · rw [if_neg c41] at H
                                    exact absurd H (by simp)
                                · rw [if_neg c40] at H
                                  exact absurd H (by simp)
                              · rw [if_neg c39] at H
                                exact absurd H (by simp)
                            · replace c38 := Bool.eq_false_iff.mpr c38
                              subst c38
                              have H1 : (none) = some r := by rw [if_neg (show ¬ (false = true) by decide)] at H; exact H
                              clear H
                              have H := H1
                              clear H1
                              exact absurd H (by simp)
                          · rw [if_neg c36] at H
                            exact absurd H (by simp)
                        · rw [if_neg c35] at H
                          exact absurd H (by simp)
                      · rw [if_neg c34] at H
                        exact absurd H (by simp)
                    · rw [if_neg c33] at H
                      exact absurd H (by simp)
                  · rw [if_neg c32] at H
                    exact absurd H (by simp)
          · rw [if_neg c10] at H
            exact absurd H (by simp)
        · rw [if_neg c9] at H
          exact absurd H (by simp)
      · rw [if_neg c8] at H
        exact absurd H (by simp)
    · rw [if_neg c7] at H
      exact absurd H (by simp)

/-- THE ONE PURE STATEMENT of incipitlaw16_TaskItems: yours. -/
def incipitlaw16_TaskItems.Pure : Prop := ∀ (a0 : ByteArray) (a1 : Int), a0.size ≤ 140737488351232 → (Lit.int .i64 a1).wf = true → ∃ k, incipitlaw16_TaskItems.f k a0 a1 = some true
theorem incipitlaw16_TaskItems.walk (P : incipitlaw16_TaskItems.Pure) (a0 : ByteArray) (a1 : Int) (w : World) (w0 : a0.size ≤ 140737488351232) (w1 : (Lit.int .i64 a1).wf = true) :
    Calls Try.prog 8 #[.string a0, .int .i64 a1] w fun e w' => e = .returned (.bool true) ∧ Below w.heap.size w w' := by
  obtain ⟨k, h⟩ := P a0 a1 w0 w1
  refine (incipitlaw16_TaskItems.calls k a0 a1 true w h).mono ?_
  rintro e w' ⟨rfl, hd⟩
  exact ⟨rfl, hd⟩

end Go.Proofs.Ytikfbipjlkhgeaa.P
