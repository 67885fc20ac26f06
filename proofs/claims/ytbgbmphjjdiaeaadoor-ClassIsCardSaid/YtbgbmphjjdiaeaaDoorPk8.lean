/- Functions of the seat as plain Lean functions, and proofs that the Go code comes to them; laid by wip/handprint.py over the kit's printer. -/
import Derived.Test.YtbgbmphjjdiaeaaDoorPk0
import Derived.Test.YtbgbmphjjdiaeaaDoorClean
import Derived.Test.YtbgbmphjjdiaeaaDoorPk3
import Derived.Test.YtbgbmphjjdiaeaaDoorPk7
import Derived.Test.YtbgbmphjjdiaeaaDoorSpace
namespace Go.Proofs.YtbgbmphjjdiaeaaDoor.P
open Go.RowKit Go.Proofs.YtbgbmphjjdiaeaaDoorW.PrintWords Go.Proofs.YtbgbmphjjdiaeaaDoorW.PrintLast Go.Proofs.YtbgbmphjjdiaeaaDoorW.PrintMore
attribute [local go_sem] max2_int min2_int max_two min_two max_three min_three max_four min_four   -- for this text's walks alone
set_option linter.unusedVariables false
set_option linter.unusedSimpArgs false

/-! ### incipitlaw03_ClassIs: function 5 -/
def incipitlaw03_ClassIs.j0 : Nat → Int → Int → Bool → Bool → Option (Bool)
  | 0, _, _, _, _ => none
  | k + 1, x0, x1, x5, x6 => if x5 = true then ((class_Space.f x0).bind fun t183 => ((incipitref03_Space.f k x0).bind fun t184 => (if (t183 == t184) = true then ((class_Punct.f x0).bind fun t185 => ((incipitref03_Punct.f k x0).bind fun t186 => (if (t185 == t186) = true then ((class_Space.f x0).bind fun t187 => (if t187 = true then ((class_Punct.f x0).bind fun t188 => (if t188 = true then (none) else ((class_Letter.f x1).bind fun t189 => (if (t189 == x6) = true then ((class_Digit.f x1).bind fun t190 => (if x1 ≥ 48 then (some (t190 == (decide (x1 ≤ 57)))) else (some (t190 == false)))) else (none))))) else ((class_Letter.f x1).bind fun t191 => (if (t191 == x6) = true then ((class_Digit.f x1).bind fun t192 => (if x1 ≥ 48 then (some (t192 == (decide (x1 ≤ 57)))) else (some (t192 == false)))) else (none))))) else (none)))) else (none)))) else (none)
def incipitlaw03_ClassIs.f (k : Nat) (a0 : Int) (a1 : Int) : Option (Bool) := (incipitlaw03_awake.f).bind fun t182 => (if a1 ≥ 97 then (if a1 ≤ 122 then (incipitlaw03_ClassIs.j0 k a0 a1 t182 true) else (if a1 ≥ 65 then (incipitlaw03_ClassIs.j0 k a0 a1 t182 (decide (a1 ≤ 90))) else (incipitlaw03_ClassIs.j0 k a0 a1 t182 false))) else (if a1 ≥ 65 then (incipitlaw03_ClassIs.j0 k a0 a1 t182 (decide (a1 ≤ 90))) else (incipitlaw03_ClassIs.j0 k a0 a1 t182 false)))
theorem incipitlaw03_ClassIs.mono_l : ∀ k, (∀ y0 y1 y2 y3, LeO (incipitlaw03_ClassIs.j0 k y0 y1 y2 y3) (incipitlaw03_ClassIs.j0 (k + 1) y0 y1 y2 y3))
  | 0 => fun _ _ _ _ r h => by simp [incipitlaw03_ClassIs.j0] at h
  | k + 1 => by
    have ih0 := incipitlaw03_ClassIs.mono_l k
    · intro y0 y1 y2 y3
      unfold incipitlaw03_ClassIs.j0
      repeat' first
      | (with_reducible exact ih0 _ _ _ _)
      | (with_reducible exact incipitref03_Punct.mono _ _)
      | (with_reducible exact incipitref03_Space.mono _ _)
      | (with_reducible exact LeO.refl _)
      | (with_reducible exact LeO.none _)
      | (with_reducible refine LeO.ite ?_ ?_)
      | (with_reducible refine LeO.bind ?_ (fun _ => ?_))
      | exact ih0 _ _ _ _
      | exact incipitref03_Punct.mono _ _
      | exact incipitref03_Space.mono _ _
      | exact LeO.none _
      | refine LeO.ite ?_ ?_
      | refine LeO.bind ?_ (fun _ => ?_)
theorem incipitlaw03_ClassIs.mono : ∀ a0 a1 k, LeO (incipitlaw03_ClassIs.f k a0 a1) (incipitlaw03_ClassIs.f (k + 1) a0 a1) := by
  intro a0 a1 k
  have ih0 := incipitlaw03_ClassIs.mono_l k
  unfold incipitlaw03_ClassIs.f
  repeat' first
      | (with_reducible exact ih0 _ _ _ _)
      | (with_reducible exact incipitref03_Punct.mono _ _)
      | (with_reducible exact incipitref03_Space.mono _ _)
      | (with_reducible exact LeO.refl _)
      | (with_reducible exact LeO.none _)
      | (with_reducible refine LeO.ite ?_ ?_)
      | (with_reducible refine LeO.bind ?_ (fun _ => ?_))
      | exact ih0 _ _ _ _
      | exact incipitref03_Punct.mono _ _
      | exact incipitref03_Space.mono _ _
      | exact LeO.none _
      | refine LeO.ite ?_ ?_
      | refine LeO.bind ?_ (fun _ => ?_)
set_option maxHeartbeats 8000000 in
set_option maxRecDepth 100000 in
theorem incipitlaw03_ClassIs.calls (k : Nat) (a0 : Int) (a1 : Int) (r : Bool) (w : World) (h : incipitlaw03_ClassIs.f k a0 a1 = some r) (hT : Tabs w) :
    Calls Tryd.prog 5 #[.int .i32 a0, .int .u8 a1] w fun e w' => e = .returned (.bool r) ∧ Below w.heap.size w w' := by
  have HT := Aside0.mk hT
  clear hT
  have HB := Aside0.mk (Below.refl w.heap.size w)
  have H : ((incipitlaw03_awake.f).bind fun t182 => (if a1 ≥ 97 then (if a1 ≤ 122 then (incipitlaw03_ClassIs.j0 k a0 a1 t182 true) else (if a1 ≥ 65 then (incipitlaw03_ClassIs.j0 k a0 a1 t182 (decide (a1 ≤ 90))) else (incipitlaw03_ClassIs.j0 k a0 a1 t182 false))) else (if a1 ≥ 65 then (incipitlaw03_ClassIs.j0 k a0 a1 t182 (decide (a1 ≤ 90))) else (incipitlaw03_ClassIs.j0 k a0 a1 t182 false)))) = some r := h
  clear h
  replace H := Option.bind_eq_some_iff.mp H
  obtain ⟨t182, A30, H⟩ := H
  replace H : (if a1 ≥ 97 then (if a1 ≤ 122 then (incipitlaw03_ClassIs.j0 k a0 a1 t182 true) else (if a1 ≥ 65 then (incipitlaw03_ClassIs.j0 k a0 a1 t182 (decide (a1 ≤ 90))) else (incipitlaw03_ClassIs.j0 k a0 a1 t182 false))) else (if a1 ≥ 65 then (incipitlaw03_ClassIs.j0 k a0 a1 t182 (decide (a1 ≤ 90))) else (incipitlaw03_ClassIs.j0 k a0 a1 t182 false))) = some r := H
  have A3 := Aside0.mk A30
  clear A30
  have HC4 := Aside0.mk H
  clear H
  go_enter Tryd.func5, Tryd.ntmps5
  go_upto_region 2 with (first | ((with_reducible refine gate_callee (f := 24) rfl ?_); refine goesL_ (some 7) rfl rfl Tryd.func24 (by kernel_rfl) rfl #[] rfl (by (try simp only [List.map_toArray, List.map_cons, List.map_nil]); first | done | rfl | (simp only [List.length_drop, List.length_take]; rfl)) ?_; (with_reducible refine (incipitlaw03_awake.calls  _ _ A3.out (Tabs.below HT.out (by repeat (first | (with_reducible first | exact HB.out | apply below_alloc | apply pw_below_drewN | apply below_drew1) | exact HB.out)))).mono ?_); rintro e w5 ⟨rfl, hb⟩; refine ⟨_, rfl, ?_⟩; have n0_ := Aside0.mk (below_step (by repeat (first | (with_reducible first | exact HB.out | apply below_alloc | apply pw_below_drewN | apply below_drew1) | exact HB.out)) hb); clear HB; have HB := n0_; clear n0_; (try clear hb); (try clear hb2); (try clear hk); (try clear hi)))
  (try simp only [Act.put, List.setIfInBounds_toArray, List.set_cons_zero, List.set_cons_succ])
  go_cut [6] (fun v6 wc => ∃ (kq : Nat) (x6_3 : Bool), v6 = .bool x6_3 ∧ Aside0 (incipitlaw03_ClassIs.j0 kq a0 a1 t182 x6_3 = some r) ∧ Aside0 (kq ≤ k) ∧ Aside0 (Below w.heap.size w wc))
  case first =>
    have H := HC4.out
    clear HC4
    by_cases c6 : a1 ≥ 97
    · rw [if_pos c6] at H
      have c6b0 : decide (97 ≤ a1) = true := decide_eq_true c6
      clear c6
      (first | rw [c6b0] | (simp only [i64_w, i32_w]; rw [c6b0]) | skip)
      by_cases c7 : a1 ≤ 122
      · rw [if_pos c7] at H
        have c7b0 : decide (a1 ≤ 122) = true := decide_eq_true c7
        clear c7
        have H' := Aside0.mk H
        clear H
        go_wp2
        go_meet
        case rel => exact ⟨_, (true), (by first | rfl | (simp; done) | (simp [*]; done)), H', ⟨by first | omega | exact Nat.le_refl _⟩, ⟨by repeat (first | (with_reducible first | exact HB.out | apply below_alloc | apply pw_below_drewN | apply below_drew1) | exact HB.out)⟩⟩
      · rw [if_neg c7] at H
        have c7b0 : decide (a1 ≤ 122) = false := decide_eq_false c7
        clear c7
        by_cases c8 : a1 ≥ 65
        · rw [if_pos c8] at H
          have c8b0 : decide (65 ≤ a1) = true := decide_eq_true c8
          clear c8
          have H' := Aside0.mk H
          clear H
          go_wp2
          go_meet
          case rel => exact ⟨_, (decide (a1 ≤ 90)), (by first | rfl | (simp; done) | (simp [*]; done)), H', ⟨by first | omega | exact Nat.le_refl _⟩, ⟨by repeat (first | (with_reducible first | exact HB.out | apply below_alloc | apply pw_below_drewN | apply below_drew1) | exact HB.out)⟩⟩
        · rw [if_neg c8] at H
          have c8b0 : decide (65 ≤ a1) = false := decide_eq_false c8
          clear c8
          have H' := Aside0.mk H
          clear H
          go_wp2
          go_meet
          case rel => exact ⟨_, (false), (by first | rfl | (simp; done) | (simp [*]; done)), H', ⟨by first | omega | exact Nat.le_refl _⟩, ⟨by repeat (first | (with_reducible first | exact HB.out | apply below_alloc | apply pw_below_drewN | apply below_drew1) | exact HB.out)⟩⟩
    · rw [if_neg c6] at H
      have c6b0 : decide (97 ≤ a1) = false := decide_eq_false c6
      clear c6
      (first | rw [c6b0] | (simp only [i64_w, i32_w]; rw [c6b0]) | skip)
      by_cases c9 : a1 ≥ 65
      · rw [if_pos c9] at H
        have c9b0 : decide (65 ≤ a1) = true := decide_eq_true c9
        clear c9
        have H' := Aside0.mk H
        clear H
        go_wp2
        go_meet
        case rel => exact ⟨_, (decide (a1 ≤ 90)), (by first | rfl | (simp; done) | (simp [*]; done)), H', ⟨by first | omega | exact Nat.le_refl _⟩, ⟨by repeat (first | (with_reducible first | exact HB.out | apply below_alloc | apply pw_below_drewN | apply below_drew1) | exact HB.out)⟩⟩
      · rw [if_neg c9] at H
        have c9b0 : decide (65 ≤ a1) = false := decide_eq_false c9
        clear c9
        have H' := Aside0.mk H
        clear H
        go_wp2
        go_meet
        case rel => exact ⟨_, (false), (by first | rfl | (simp; done) | (simp [*]; done)), H', ⟨by first | omega | exact Nat.le_refl _⟩, ⟨by repeat (first | (with_reducible first | exact HB.out | apply below_alloc | apply pw_below_drewN | apply below_drew1) | exact HB.out)⟩⟩
  case rest =>
    clear HC4
    try clear c2
    try clear p2
    try clear c5
    try clear c6
    try clear c6b0
    try clear c7
    try clear c7b0
    try clear c8
    try clear c8b0
    try clear c9
    try clear c9b0
    obtain ⟨kq, x6_3, rfl, HA, HJ3, HB⟩ := hcut
    cases kq with
    | zero => exact absurd HA.out (by simp [incipitlaw03_ClassIs.j0])
    | succ kj3 =>
      have H := HA.out
      clear HA
      simp only [incipitlaw03_ClassIs.j0] at H
      by_cases c10 : t182 = true
      · subst c10
        have H1 : ((class_Space.f a0).bind fun t183 => ((incipitref03_Space.f kj3 a0).bind fun t184 => (if (t183 == t184) = true then ((class_Punct.f a0).bind fun t185 => ((incipitref03_Punct.f kj3 a0).bind fun t186 => (if (t185 == t186) = true then ((class_Space.f a0).bind fun t187 => (if t187 = true then ((class_Punct.f a0).bind fun t188 => (if t188 = true then (none) else ((class_Letter.f a1).bind fun t189 => (if (t189 == x6_3) = true then ((class_Digit.f a1).bind fun t190 => (if a1 ≥ 48 then (some (t190 == (decide (a1 ≤ 57)))) else (some (t190 == false)))) else (none))))) else ((class_Letter.f a1).bind fun t191 => (if (t191 == x6_3) = true then ((class_Digit.f a1).bind fun t192 => (if a1 ≥ 48 then (some (t192 == (decide (a1 ≤ 57)))) else (some (t192 == false)))) else (none))))) else (none)))) else (none)))) = some r := by rw [if_pos rfl] at H; exact H
        clear H
        have H := H1
        clear H1
        replace H := Option.bind_eq_some_iff.mp H
        obtain ⟨t183, A110, H⟩ := H
        replace H : ((incipitref03_Space.f kj3 a0).bind fun t184 => (if (t183 == t184) = true then ((class_Punct.f a0).bind fun t185 => ((incipitref03_Punct.f kj3 a0).bind fun t186 => (if (t185 == t186) = true then ((class_Space.f a0).bind fun t187 => (if t187 = true then ((class_Punct.f a0).bind fun t188 => (if t188 = true then (none) else ((class_Letter.f a1).bind fun t189 => (if (t189 == x6_3) = true then ((class_Digit.f a1).bind fun t190 => (if a1 ≥ 48 then (some (t190 == (decide (a1 ≤ 57)))) else (some (t190 == false)))) else (none))))) else ((class_Letter.f a1).bind fun t191 => (if (t191 == x6_3) = true then ((class_Digit.f a1).bind fun t192 => (if a1 ≥ 48 then (some (t192 == (decide (a1 ≤ 57)))) else (some (t192 == false)))) else (none))))) else (none)))) else (none))) = some r := H
        have A11 := Aside0.mk A110
        clear A110
        replace H := Option.bind_eq_some_iff.mp H
        obtain ⟨t184, A120, H⟩ := H
        replace H : (if (t183 == t184) = true then ((class_Punct.f a0).bind fun t185 => ((incipitref03_Punct.f kj3 a0).bind fun t186 => (if (t185 == t186) = true then ((class_Space.f a0).bind fun t187 => (if t187 = true then ((class_Punct.f a0).bind fun t188 => (if t188 = true then (none) else ((class_Letter.f a1).bind fun t189 => (if (t189 == x6_3) = true then ((class_Digit.f a1).bind fun t190 => (if a1 ≥ 48 then (some (t190 == (decide (a1 ≤ 57)))) else (some (t190 == false)))) else (none))))) else ((class_Letter.f a1).bind fun t191 => (if (t191 == x6_3) = true then ((class_Digit.f a1).bind fun t192 => (if a1 ≥ 48 then (some (t192 == (decide (a1 ≤ 57)))) else (some (t192 == false)))) else (none))))) else (none)))) else (none)) = some r := H
        have A12 := Aside0.mk A120
        clear A120
        by_cases c13 : (t183 == t184) = true
        · rw [if_pos c13] at H
          have c13b0 : (t183 == t184) = true := c13
          (try (have c13b1 : decide (t183 = t184) = true := by simpa using c13))
          (try (have c13b2 : (t183 == t184) = true := by simpa using c13))
          clear c13
          replace H := Option.bind_eq_some_iff.mp H
          obtain ⟨t185, A140, H⟩ := H
          replace H : ((incipitref03_Punct.f kj3 a0).bind fun t186 => (if (t185 == t186) = true then ((class_Space.f a0).bind fun t187 => (if t187 = true then ((class_Punct.f a0).bind fun t188 => (if t188 = true then (none) else ((class_Letter.f a1).bind fun t189 => (if (t189 == x6_3) = true then ((class_Digit.f a1).bind fun t190 => (if a1 ≥ 48 then (some (t190 == (decide (a1 ≤ 57)))) else (some (t190 == false)))) else (none))))) else ((class_Letter.f a1).bind fun t191 => (if (t191 == x6_3) = true then ((class_Digit.f a1).bind fun t192 => (if a1 ≥ 48 then (some (t192 == (decide (a1 ≤ 57)))) else (some (t192 == false)))) else (none))))) else (none))) = some r := H
          have A14 := Aside0.mk A140
          clear A140
          replace H := Option.bind_eq_some_iff.mp H
          obtain ⟨t186, A150, H⟩ := H
          replace H : (if (t185 == t186) = true then ((class_Space.f a0).bind fun t187 => (if t187 = true then ((class_Punct.f a0).bind fun t188 => (if t188 = true then (none) else ((class_Letter.f a1).bind fun t189 => (if (t189 == x6_3) = true then ((class_Digit.f a1).bind fun t190 => (if a1 ≥ 48 then (some (t190 == (decide (a1 ≤ 57)))) else (some (t190 == false)))) else (none))))) else ((class_Letter.f a1).bind fun t191 => (if (t191 == x6_3) = true then ((class_Digit.f a1).bind fun t192 => (if a1 ≥ 48 then (some (t192 == (decide (a1 ≤ 57)))) else (some (t192 == false)))) else (none))))) else (none)) = some r := H
          have A15 := Aside0.mk A150
          clear A150
          by_cases c16 : (t185 == t186) = true
          · rw [if_pos c16] at H
            have c16b0 : (t185 == t186) = true := c16
            (try (have c16b1 : decide (t185 = t186) = true := by simpa using c16))
            (try (have c16b2 : (t185 == t186) = true := by simpa using c16))
            clear c16
            replace H := Option.bind_eq_some_iff.mp H
            obtain ⟨t187, A170, H⟩ := H
            replace H : (if t187 = true then ((class_Punct.f a0).bind fun t188 => (if t188 = true then (none) else ((class_Letter.f a1).bind fun t189 => (if (t189 == x6_3) = true then ((class_Digit.f a1).bind fun t190 => (if a1 ≥ 48 then (some (t190 == (decide (a1 ≤ 57)))) else (some (t190 == false)))) else (none))))) else ((class_Letter.f a1).bind fun t191 => (if (t191 == x6_3) = true then ((class_Digit.f a1).bind fun t192 => (if a1 ≥ 48 then (some (t192 == (decide (a1 ≤ 57)))) else (some (t192 == false)))) else (none)))) = some r := H
            have A17 := Aside0.mk A170
            clear A170
            by_cases c18 : t187 = true
            · subst c18
              have H1 : ((class_Punct.f a0).bind fun t188 => (if t188 = true then (none) else ((class_Letter.f a1).bind fun t189 => (if (t189 == x6_3) = true then ((class_Digit.f a1).bind fun t190 => (if a1 ≥ 48 then (some (t190 == (decide (a1 ≤ 57)))) else (some (t190 == false)))) else (none))))) = some r := by rw [if_pos rfl] at H; exact H
              clear H
              have H := H1
              clear H1
              replace H := Option.bind_eq_some_iff.mp H
              obtain ⟨t188, A190, H⟩ := H
              replace H : (if t188 = true then (none) else ((class_Letter.f a1).bind fun t189 => (if (t189 == x6_3) = true then ((class_Digit.f a1).bind fun t190 => (if a1 ≥ 48 then (some (t190 == (decide (a1 ≤ 57)))) else (some (t190 == false)))) else (none)))) = some r := H
              have A19 := Aside0.mk A190
              clear A190
              by_cases c20 : t188 = true
              · subst c20
                have H1 : (none) = some r := by rw [if_pos rfl] at H; exact H
                clear H
                have H := H1
                clear H1
                exact absurd H (by simp)
              · replace c20 := Bool.eq_false_iff.mpr c20
                subst c20
                have H1 : ((class_Letter.f a1).bind fun t189 => (if (t189 == x6_3) = true then ((class_Digit.f a1).bind fun t190 => (if a1 ≥ 48 then (some (t190 == (decide (a1 ≤ 57)))) else (some (t190 == false)))) else (none))) = some r := by rw [if_neg (show ¬ (false = true) by decide)] at H; exact H
                clear H
                have H := H1
                clear H1
                replace H := Option.bind_eq_some_iff.mp H
                obtain ⟨t189, A210, H⟩ := H
                replace H : (if (t189 == x6_3) = true then ((class_Digit.f a1).bind fun t190 => (if a1 ≥ 48 then (some (t190 == (decide (a1 ≤ 57)))) else (some (t190 == false)))) else (none)) = some r := H
                have A21 := Aside0.mk A210
                clear A210
                by_cases c22 : (t189 == x6_3) = true
                · rw [if_pos c22] at H
                  have c22b0 : (t189 == x6_3) = true := c22
                  (try (have c22b1 : decide (t189 = x6_3) = true := by simpa using c22))
                  (try (have c22b2 : (t189 == x6_3) = true := by simpa using c22))
                  clear c22
                  replace H := Option.bind_eq_some_iff.mp H
                  obtain ⟨t190, A230, H⟩ := H
                  replace H : (if a1 ≥ 48 then (some (t190 == (decide (a1 ≤ 57)))) else (some (t190 == false))) = some r := H
                  have A23 := Aside0.mk A230
                  clear A230
                  by_cases c24 : a1 ≥ 48
                  · rw [if_pos c24] at H
                    have c24b0 : decide (48 ≤ a1) = true := decide_eq_true c24
                    clear c24
                    obtain rfl := Option.some.inj H
                    (try (have e_ := Option.some.inj (A3.out.symm.trans A11.out); first | subst e_ | cases e_))
                    (try (have e_ := Option.some.inj (A3.out.symm.trans A12.out); first | subst e_ | cases e_))
                    (try (have e_ := Option.some.inj (A11.out.symm.trans A12.out); first | subst e_ | cases e_))
                    (try (have e_ := Option.some.inj (A3.out.symm.trans A14.out); first | subst e_ | cases e_))
                    (try (have e_ := Option.some.inj (A11.out.symm.trans A14.out); first | subst e_ | cases e_))
                    (try (have e_ := Option.some.inj (A12.out.symm.trans A14.out); first | subst e_ | cases e_))
                    (try (have e_ := Option.some.inj (A3.out.symm.trans A15.out); first | subst e_ | cases e_))
                    (try (have e_ := Option.some.inj (A11.out.symm.trans A15.out); first | subst e_ | cases e_))
                    (try (have e_ := Option.some.inj (A12.out.symm.trans A15.out); first | subst e_ | cases e_))
                    (try (have e_ := Option.some.inj (A14.out.symm.trans A15.out); first | subst e_ | cases e_))
                    (try (have e_ := Option.some.inj (A3.out.symm.trans A17.out); first | subst e_ | cases e_))
                    (try (have e_ := Option.some.inj (A11.out.symm.trans A17.out); first | subst e_ | cases e_))
                    (try (have e_ := Option.some.inj (A12.out.symm.trans A17.out); first | subst e_ | cases e_))
                    (try (have e_ := Option.some.inj (A14.out.symm.trans A17.out); first | subst e_ | cases e_))
                    (try (have e_ := Option.some.inj (A15.out.symm.trans A17.out); first | subst e_ | cases e_))
                    (try (have e_ := Option.some.inj (A3.out.symm.trans A19.out); first | subst e_ | cases e_))
                    (try (have e_ := Option.some.inj (A11.out.symm.trans A19.out); first | subst e_ | cases e_))
                    (try (have e_ := Option.some.inj (A12.out.symm.trans A19.out); first | subst e_ | cases e_))
                    (try (have e_ := Option.some.inj (A14.out.symm.trans A19.out); first | subst e_ | cases e_))
                    (try (have e_ := Option.some.inj (A15.out.symm.trans A19.out); first | subst e_ | cases e_))
                    (try (have e_ := Option.some.inj (A17.out.symm.trans A19.out); first | subst e_ | cases e_))
                    (try (have e_ := Option.some.inj (A3.out.symm.trans A21.out); first | subst e_ | cases e_))
                    (try (have e_ := Option.some.inj (A11.out.symm.trans A21.out); first | subst e_ | cases e_))
                    (try (have e_ := Option.some.inj (A12.out.symm.trans A21.out); first | subst e_ | cases e_))
                    (try (have e_ := Option.some.inj (A14.out.symm.trans A21.out); first | subst e_ | cases e_))
                    (try (have e_ := Option.some.inj (A15.out.symm.trans A21.out); first | subst e_ | cases e_))
                    (try (have e_ := Option.some.inj (A17.out.symm.trans A21.out); first | subst e_ | cases e_))
                    (try (have e_ := Option.some.inj (A19.out.symm.trans A21.out); first | subst e_ | cases e_))
                    (try (have e_ := Option.some.inj (A3.out.symm.trans A23.out); first | subst e_ | cases e_))
                    (try (have e_ := Option.some.inj (A11.out.symm.trans A23.out); first | subst e_ | cases e_))
                    (try (have e_ := Option.some.inj (A12.out.symm.trans A23.out); first | subst e_ | cases e_))
                    (try (have e_ := Option.some.inj (A14.out.symm.trans A23.out); first | subst e_ | cases e_))
                    (try (have e_ := Option.some.inj (A15.out.symm.trans A23.out); first | subst e_ | cases e_))
                    (try (have e_ := Option.some.inj (A17.out.symm.trans A23.out); first | subst e_ | cases e_))
                    (try (have e_ := Option.some.inj (A19.out.symm.trans A23.out); first | subst e_ | cases e_))
                    (try (have e_ := Option.some.inj (A21.out.symm.trans A23.out); first | subst e_ | cases e_))
                    all_goals go_wp2_with (first | (go_at_call 25; (with_reducible refine (class_Space.calls a0 _ _ A11.out).mono ?_); rintro e w25 ⟨rfl, hb⟩; have n0_ := Aside0.mk (below_step (by repeat (first | (with_reducible first | exact HB.out | apply below_alloc | apply pw_below_drewN | apply below_drew1) | exact HB.out)) hb); clear HB; have HB := n0_; clear n0_; (try clear hb); (try clear hb2); (try clear hk); (try clear hi)) | (go_at_call 26; (with_reducible refine (incipitref03_Space.calls kj3 a0 _ _ A12.out).mono ?_); rintro e w26 ⟨rfl, hb⟩; have n0_ := Aside0.mk (below_step (by repeat (first | (with_reducible first | exact HB.out | apply below_alloc | apply pw_below_drewN | apply below_drew1) | exact HB.out)) hb); clear HB; have HB := n0_; clear n0_; (try clear hb); (try clear hb2); (try clear hk); (try clear hi)) | (go_at_call 27; (with_reducible refine (class_Punct.calls a0 _ _ A14.out).mono ?_); rintro e w27 ⟨rfl, hb⟩; have n0_ := Aside0.mk (below_step (by repeat (first | (with_reducible first | exact HB.out | apply below_alloc | apply pw_below_drewN | apply below_drew1) | exact HB.out)) hb); clear HB; have HB := n0_; clear n0_; (try clear hb); (try clear hb2); (try clear hk); (try clear hi)) | (go_at_call 28; (with_reducible refine (incipitref03_Punct.calls kj3 a0 _ _ A15.out).mono ?_); rintro e w28 ⟨rfl, hb⟩; have n0_ := Aside0.mk (below_step (by repeat (first | (with_reducible first | exact HB.out | apply below_alloc | apply pw_below_drewN | apply below_drew1) | exact HB.out)) hb); clear HB; have HB := n0_; clear n0_; (try clear hb); (try clear hb2); (try clear hk); (try clear hi)) | (go_at_call 25; (with_reducible refine (class_Space.calls a0 true _ A17.out).mono ?_); rintro e w29 ⟨rfl, hb⟩; have n0_ := Aside0.mk (below_step (by repeat (first | (with_reducible first | exact HB.out | apply below_alloc | apply pw_below_drewN | apply below_drew1) | exact HB.out)) hb); clear HB; have HB := n0_; clear n0_; (try clear hb); (try clear hb2); (try clear hk); (try clear hi)) | (go_at_call 27; (with_reducible refine (class_Punct.calls a0 false _ A19.out).mono ?_); rintro e w30 ⟨rfl, hb⟩; have n0_ := Aside0.mk (below_step (by repeat (first | (with_reducible first | exact HB.out | apply below_alloc | apply pw_below_drewN | apply below_drew1) | exact HB.out)) hb); clear HB; have HB := n0_; clear n0_; (try clear hb); (try clear hb2); (try clear hk); (try clear hi)) | (go_at_call 29; (with_reducible refine (class_Letter.calls a1 _ _ A21.out).mono ?_); rintro e w' ⟨rfl, ⟨nd, rfl⟩⟩) | (go_at_call 30; (with_reducible refine (class_Digit.calls a1 _ _ A23.out).mono ?_); rintro e w' ⟨rfl, ⟨nd, rfl⟩⟩))
                    all_goals go_ret
                    all_goals exact ⟨by first | rfl | (simp [errW_none, errW_some] <;> rfl) | (simp [*, errW_none, errW_some] <;> rfl), by repeat (first | (with_reducible first | exact HB.out | apply below_alloc | apply pw_below_drewN | apply below_drew1) | exact HB.out)⟩
                  · rw [if_neg c24] at H
                    have c24b0 : decide (48 ≤ a1) = false := decide_eq_false c24
                    clear c24
                    obtain rfl := Option.some.inj H
                    (try (have e_ := Option.some.inj (A3.out.symm.trans A11.out); first | subst e_ | cases e_))
                    (try (have e_ := Option.some.inj (A3.out.symm.trans A12.out); first | subst e_ | cases e_))
                    (try (have e_ := Option.some.inj (A11.out.symm.trans A12.out); first | subst e_ | cases e_))
                    (try (have e_ := Option.some.inj (A3.out.symm.trans A14.out); first | subst e_ | cases e_))
                    (try (have e_ := Option.some.inj (A11.out.symm.trans A14.out); first | subst e_ | cases e_))
                    (try (have e_ := Option.some.inj (A12.out.symm.trans A14.out); first | subst e_ | cases e_))
                    (try (have e_ := Option.some.inj (A3.out.symm.trans A15.out); first | subst e_ | cases e_))
                    (try (have e_ := Option.some.inj (A11.out.symm.trans A15.out); first | subst e_ | cases e_))
                    (try (have e_ := Option.some.inj (A12.out.symm.trans A15.out); first | subst e_ | cases e_))
                    (try (have e_ := Option.some.inj (A14.out.symm.trans A15.out); first | subst e_ | cases e_))
                    (try (have e_ := Option.some.inj (A3.out.symm.trans A17.out); first | subst e_ | cases e_))
                    (try (have e_ := Option.some.inj (A11.out.symm.trans A17.out); first | subst e_ | cases e_))
                    (try (have e_ := Option.some.inj (A12.out.symm.trans A17.out); first | subst e_ | cases e_))
                    (try (have e_ := Option.some.inj (A14.out.symm.trans A17.out); first | subst e_ | cases e_))
                    (try (have e_ := Option.some.inj (A15.out.symm.trans A17.out); first | subst e_ | cases e_))
                    (try (have e_ := Option.some.inj (A3.out.symm.trans A19.out); first | subst e_ | cases e_))
                    (try (have e_ := Option.some.inj (A11.out.symm.trans A19.out); first | subst e_ | cases e_))
                    (try (have e_ := Option.some.inj (A12.out.symm.trans A19.out); first | subst e_ | cases e_))
                    (try (have e_ := Option.some.inj (A14.out.symm.trans A19.out); first | subst e_ | cases e_))
                    (try (have e_ := Option.some.inj (A15.out.symm.trans A19.out); first | subst e_ | cases e_))
                    (try (have e_ := Option.some.inj (A17.out.symm.trans A19.out); first | subst e_ | cases e_))
                    (try (have e_ := Option.some.inj (A3.out.symm.trans A21.out); first | subst e_ | cases e_))
                    (try (have e_ := Option.some.inj (A11.out.symm.trans A21.out); first | subst e_ | cases e_))
                    (try (have e_ := Option.some.inj (A12.out.symm.trans A21.out); first | subst e_ | cases e_))
                    (try (have e_ := Option.some.inj (A14.out.symm.trans A21.out); first | subst e_ | cases e_))
                    (try (have e_ := Option.some.inj (A15.out.symm.trans A21.out); first | subst e_ | cases e_))
                    (try (have e_ := Option.some.inj (A17.out.symm.trans A21.out); first | subst e_ | cases e_))
                    (try (have e_ := Option.some.inj (A19.out.symm.trans A21.out); first | subst e_ | cases e_))
                    (try (have e_ := Option.some.inj (A3.out.symm.trans A23.out); first | subst e_ | cases e_))
                    (try (have e_ := Option.some.inj (A11.out.symm.trans A23.out); first | subst e_ | cases e_))
                    (try (have e_ := Option.some.inj (A12.out.symm.trans A23.out); first | subst e_ | cases e_))
                    (try (have e_ := Option.some.inj (A14.out.symm.trans A23.out); first | subst e_ | cases e_))
                    (try (have e_ := Option.some.inj (A15.out.symm.trans A23.out); first | subst e_ | cases e_))
                    (try (have e_ := Option.some.inj (A17.out.symm.trans A23.out); first | subst e_ | cases e_))
                    (try (have e_ := Option.some.inj (A19.out.symm.trans A23.out); first | subst e_ | cases e_))
                    (try (have e_ := Option.some.inj (A21.out.symm.trans A23.out); first | subst e_ | cases e_))
                    all_goals go_wp2_with (first | (go_at_call 25; (with_reducible refine (class_Space.calls a0 _ _ A11.out).mono ?_); rintro e w31 ⟨rfl, hb⟩; have n0_ := Aside0.mk (below_step (by repeat (first | (with_reducible first | exact HB.out | apply below_alloc | apply pw_below_drewN | apply below_drew1) | exact HB.out)) hb); clear HB; have HB := n0_; clear n0_; (try clear hb); (try clear hb2); (try clear hk); (try clear hi)) | (go_at_call 26; (with_reducible refine (incipitref03_Space.calls kj3 a0 _ _ A12.out).mono ?_); rintro e w32 ⟨rfl, hb⟩; have n0_ := Aside0.mk (below_step (by repeat (first | (with_reducible first | exact HB.out | apply below_alloc | apply pw_below_drewN | apply below_drew1) | exact HB.out)) hb); clear HB; have HB := n0_; clear n0_; (try clear hb); (try clear hb2); (try clear hk); (try clear hi)) | (go_at_call 27; (with_reducible refine (class_Punct.calls a0 _ _ A14.out).mono ?_); rintro e w33 ⟨rfl, hb⟩; have n0_ := Aside0.mk (below_step (by repeat (first | (with_reducible first | exact HB.out | apply below_alloc | apply pw_below_drewN | apply below_drew1) | exact HB.out)) hb); clear HB; have HB := n0_; clear n0_; (try clear hb); (try clear hb2); (try clear hk); (try clear hi)) | (go_at_call 28; (with_reducible refine (incipitref03_Punct.calls kj3 a0 _ _ A15.out).mono ?_); rintro e w34 ⟨rfl, hb⟩; have n0_ := Aside0.mk (below_step (by repeat (first | (with_reducible first | exact HB.out | apply below_alloc | apply pw_below_drewN | apply below_drew1) | exact HB.out)) hb); clear HB; have HB := n0_; clear n0_; (try clear hb); (try clear hb2); (try clear hk); (try clear hi)) | (go_at_call 25; (with_reducible refine (class_Space.calls a0 true _ A17.out).mono ?_); rintro e w35 ⟨rfl, hb⟩; have n0_ := Aside0.mk (below_step (by repeat (first | (with_reducible first | exact HB.out | apply below_alloc | apply pw_below_drewN | apply below_drew1) | exact HB.out)) hb); clear HB; have HB := n0_; clear n0_; (try clear hb); (try clear hb2); (try clear hk); (try clear hi)) | (go_at_call 27; (with_reducible refine (class_Punct.calls a0 false _ A19.out).mono ?_); rintro e w36 ⟨rfl, hb⟩; have n0_ := Aside0.mk (below_step (by repeat (first | (with_reducible first | exact HB.out | apply below_alloc | apply pw_below_drewN | apply below_drew1) | exact HB.out)) hb); clear HB; have HB := n0_; clear n0_; (try clear hb); (try clear hb2); (try clear hk); (try clear hi)) | (go_at_call 29; (with_reducible refine (class_Letter.calls a1 _ _ A21.out).mono ?_); rintro e w' ⟨rfl, ⟨nd, rfl⟩⟩) | (go_at_call 30; (with_reducible refine (class_Digit.calls a1 _ _ A23.out).mono ?_); rintro e w' ⟨rfl, ⟨nd, rfl⟩⟩))
                    all_goals go_ret
                    all_goals exact ⟨by first | rfl | (simp [errW_none, errW_some] <;> rfl) | (simp [*, errW_none, errW_some] <;> rfl), by repeat (first | (with_reducible first | exact HB.out | apply below_alloc | apply pw_below_drewN | apply below_drew1) | exact HB.out)⟩
                · rw [if_neg c22] at H
                  exact absurd H (by simp)
            · replace c18 := Bool.eq_false_iff.mpr c18
              subst c18
              have H1 : ((class_Letter.f a1).bind fun t191 => (if (t191 == x6_3) = true then ((class_Digit.f a1).bind fun t192 => (if a1 ≥ 48 then (some (t192 == (decide (a1 ≤ 57)))) else (some (t192 == false)))) else (none))) = some r := by rw [if_neg (show ¬ (false = true) by decide)] at H; exact H
              clear H
              have H := H1
              clear H1
              replace H := Option.bind_eq_some_iff.mp H
              obtain ⟨t191, A370, H⟩ := H
              replace H : (if (t191 == x6_3) = true then ((class_Digit.f a1).bind fun t192 => (if a1 ≥ 48 then (some (t192 == (decide (a1 ≤ 57)))) else (some (t192 == false)))) else (none)) = some r := H
              have A37 := Aside0.mk A370
              clear A370
              by_cases c38 : (t191 == x6_3) = true
              · rw [if_pos c38] at H
                have c38b0 : (t191 == x6_3) = true := c38
                (try (have c38b1 : decide (t191 = x6_3) = true := by simpa using c38))
                (try (have c38b2 : (t191 == x6_3) = true := by simpa using c38))
                clear c38
                replace H := Option.bind_eq_some_iff.mp H
                obtain ⟨t192, A390, H⟩ := H
                replace H : (if a1 ≥ 48 then (some (t192 == (decide (a1 ≤ 57)))) else (some (t192 == false))) = some r := H
                have A39 := Aside0.mk A390
                clear A390
                by_cases c40 : a1 ≥ 48
                · rw [if_pos c40] at H
                  have c40b0 : decide (48 ≤ a1) = true := decide_eq_true c40
                  clear c40
                  obtain rfl := Option.some.inj H
                  (try (have e_ := Option.some.inj (A3.out.symm.trans A11.out); first | subst e_ | cases e_))
                  (try (have e_ := Option.some.inj (A3.out.symm.trans A12.out); first | subst e_ | cases e_))
                  (try (have e_ := Option.some.inj (A11.out.symm.trans A12.out); first | subst e_ | cases e_))
                  (try (have e_ := Option.some.inj (A3.out.symm.trans A14.out); first | subst e_ | cases e_))
                  (try (have e_ := Option.some.inj (A11.out.symm.trans A14.out); first | subst e_ | cases e_))
                  (try (have e_ := Option.some.inj (A12.out.symm.trans A14.out); first | subst e_ | cases e_))
                  (try (have e_ := Option.some.inj (A3.out.symm.trans A15.out); first | subst e_ | cases e_))
                  (try (have e_ := Option.some.inj (A11.out.symm.trans A15.out); first | subst e_ | cases e_))
                  (try (have e_ := Option.some.inj (A12.out.symm.trans A15.out); first | subst e_ | cases e_))
                  (try (have e_ := Option.some.inj (A14.out.symm.trans A15.out); first | subst e_ | cases e_))
                  (try (have e_ := Option.some.inj (A3.out.symm.trans A17.out); first | subst e_ | cases e_))
                  (try (have e_ := Option.some.inj (A11.out.symm.trans A17.out); first | subst e_ | cases e_))
                  (try (have e_ := Option.some.inj (A12.out.symm.trans A17.out); first | subst e_ | cases e_))
                  (try (have e_ := Option.some.inj (A14.out.symm.trans A17.out); first | subst e_ | cases e_))
                  (try (have e_ := Option.some.inj (A15.out.symm.trans A17.out); first | subst e_ | cases e_))
                  (try (have e_ := Option.some.inj (A3.out.symm.trans A37.out); first | subst e_ | cases e_))
                  (try (have e_ := Option.some.inj (A11.out.symm.trans A37.out); first | subst e_ | cases e_))
                  (try (have e_ := Option.some.inj (A12.out.symm.trans A37.out); first | subst e_ | cases e_))
                  (try (have e_ := Option.some.inj (A14.out.symm.trans A37.out); first | subst e_ | cases e_))
                  (try (have e_ := Option.some.inj (A15.out.symm.trans A37.out); first | subst e_ | cases e_))
                  (try (have e_ := Option.some.inj (A17.out.symm.trans A37.out); first | subst e_ | cases e_))
                  (try (have e_ := Option.some.inj (A3.out.symm.trans A39.out); first | subst e_ | cases e_))
                  (try (have e_ := Option.some.inj (A11.out.symm.trans A39.out); first | subst e_ | cases e_))
                  (try (have e_ := Option.some.inj (A12.out.symm.trans A39.out); first | subst e_ | cases e_))
                  (try (have e_ := Option.some.inj (A14.out.symm.trans A39.out); first | subst e_ | cases e_))
                  (try (have e_ := Option.some.inj (A15.out.symm.trans A39.out); first | subst e_ | cases e_))
                  (try (have e_ := Option.some.inj (A17.out.symm.trans A39.out); first | subst e_ | cases e_))
                  (try (have e_ := Option.some.inj (A37.out.symm.trans A39.out); first | subst e_ | cases e_))
                  all_goals go_wp2_with (first | (go_at_call 25; (with_reducible refine (class_Space.calls a0 _ _ A11.out).mono ?_); rintro e w41 ⟨rfl, hb⟩; have n0_ := Aside0.mk (below_step (by repeat (first | (with_reducible first | exact HB.out | apply below_alloc | apply pw_below_drewN | apply below_drew1) | exact HB.out)) hb); clear HB; have HB := n0_; clear n0_; (try clear hb); (try clear hb2); (try clear hk); (try clear hi)) | (go_at_call 26; (with_reducible refine (incipitref03_Space.calls kj3 a0 _ _ A12.out).mono ?_); rintro e w42 ⟨rfl, hb⟩; have n0_ := Aside0.mk (below_step (by repeat (first | (with_reducible first | exact HB.out | apply below_alloc | apply pw_below_drewN | apply below_drew1) | exact HB.out)) hb); clear HB; have HB := n0_; clear n0_; (try clear hb); (try clear hb2); (try clear hk); (try clear hi)) | (go_at_call 27; (with_reducible refine (class_Punct.calls a0 _ _ A14.out).mono ?_); rintro e w43 ⟨rfl, hb⟩; have n0_ := Aside0.mk (below_step (by repeat (first | (with_reducible first | exact HB.out | apply below_alloc | apply pw_below_drewN | apply below_drew1) | exact HB.out)) hb); clear HB; have HB := n0_; clear n0_; (try clear hb); (try clear hb2); (try clear hk); (try clear hi)) | (go_at_call 28; (with_reducible refine (incipitref03_Punct.calls kj3 a0 _ _ A15.out).mono ?_); rintro e w44 ⟨rfl, hb⟩; have n0_ := Aside0.mk (below_step (by repeat (first | (with_reducible first | exact HB.out | apply below_alloc | apply pw_below_drewN | apply below_drew1) | exact HB.out)) hb); clear HB; have HB := n0_; clear n0_; (try clear hb); (try clear hb2); (try clear hk); (try clear hi)) | (go_at_call 25; (with_reducible refine (class_Space.calls a0 false _ A17.out).mono ?_); rintro e w45 ⟨rfl, hb⟩; have n0_ := Aside0.mk (below_step (by repeat (first | (with_reducible first | exact HB.out | apply below_alloc | apply pw_below_drewN | apply below_drew1) | exact HB.out)) hb); clear HB; have HB := n0_; clear n0_; (try clear hb); (try clear hb2); (try clear hk); (try clear hi)) | (go_at_call 29; (with_reducible refine (class_Letter.calls a1 _ _ A37.out).mono ?_); rintro e w' ⟨rfl, ⟨nd, rfl⟩⟩) | (go_at_call 30; (with_reducible refine (class_Digit.calls a1 _ _ A39.out).mono ?_); rintro e w' ⟨rfl, ⟨nd, rfl⟩⟩))
                  all_goals go_ret
                  all_goals exact ⟨by first | rfl | (simp [errW_none, errW_some] <;> rfl) | (simp [*, errW_none, errW_some] <;> rfl), by repeat (first | (with_reducible first | exact HB.out | apply below_alloc | apply pw_below_drewN | apply below_drew1) | exact HB.out)⟩
                · rw [if_neg c40] at H
                  have c40b0 : decide (48 ≤ a1) = false := decide_eq_false c40
                  clear c40
                  obtain rfl := Option.some.inj H
                  (try (have e_ := Option.some.inj (A3.out.symm.trans A11.out); first | subst e_ | cases e_))
                  (try (have e_ := Option.some.inj (A3.out.symm.trans A12.out); first | subst e_ | cases e_))
                  (try (have e_ := Option.some.inj (A11.out.symm.trans A12.out); first | subst e_ | cases e_))
                  (try (have e_ := Option.some.inj (A3.out.symm.trans A14.out); first | subst e_ | cases e_))
                  (try (have e_ := Option.some.inj (A11.out.symm.trans A14.out); first | subst e_ | cases e_))
                  (try (have e_ := Option.some.inj (A12.out.symm.trans A14.out); first | subst e_ | cases e_))
                  (try (have e_ := Option.some.inj (A3.out.symm.trans A15.out); first | subst e_ | cases e_))
                  (try (have e_ := Option.some.inj (A11.out.symm.trans A15.out); first | subst e_ | cases e_))
                  (try (have e_ := Option.some.inj (A12.out.symm.trans A15.out); first | subst e_ | cases e_))
                  (try (have e_ := Option.some.inj (A14.out.symm.trans A15.out); first | subst e_ | cases e_))
                  (try (have e_ := Option.some.inj (A3.out.symm.trans A17.out); first | subst e_ | cases e_))
                  (try (have e_ := Option.some.inj (A11.out.symm.trans A17.out); first | subst e_ | cases e_))
                  (try (have e_ := Option.some.inj (A12.out.symm.trans A17.out); first | subst e_ | cases e_))
                  (try (have e_ := Option.some.inj (A14.out.symm.trans A17.out); first | subst e_ | cases e_))
                  (try (have e_ := Option.some.inj (A15.out.symm.trans A17.out); first | subst e_ | cases e_))
                  (try (have e_ := Option.some.inj (A3.out.symm.trans A37.out); first | subst e_ | cases e_))
                  (try (have e_ := Option.some.inj (A11.out.symm.trans A37.out); first | subst e_ | cases e_))
                  (try (have e_ := Option.some.inj (A12.out.symm.trans A37.out); first | subst e_ | cases e_))
                  (try (have e_ := Option.some.inj (A14.out.symm.trans A37.out); first | subst e_ | cases e_))
                  (try (have e_ := Option.some.inj (A15.out.symm.trans A37.out); first | subst e_ | cases e_))
                  (try (have e_ := Option.some.inj (A17.out.symm.trans A37.out); first | subst e_ | cases e_))
                  (try (have e_ := Option.some.inj (A3.out.symm.trans A39.out); first | subst e_ | cases e_))
                  (try (have e_ := Option.some.inj (A11.out.symm.trans A39.out); first | subst e_ | cases e_))
                  (try (have e_ := Option.some.inj (A12.out.symm.trans A39.out); first | subst e_ | cases e_))
                  (try (have e_ := Option.some.inj (A14.out.symm.trans A39.out); first | subst e_ | cases e_))
                  (try (have e_ := Option.some.inj (A15.out.symm.trans A39.out); first | subst e_ | cases e_))
                  (try (have e_ := Option.some.inj (A17.out.symm.trans A39.out); first | subst e_ | cases e_))
                  (try (have e_ := Option.some.inj (A37.out.symm.trans A39.out); first | subst e_ | cases e_))
                  all_goals go_wp2_with (first | (go_at_call 25; (with_reducible refine (class_Space.calls a0 _ _ A11.out).mono ?_); rintro e w46 ⟨rfl, hb⟩; have n0_ := Aside0.mk (below_step (by repeat (first | (with_reducible first | exact HB.out | apply below_alloc | apply pw_below_drewN | apply below_drew1) | exact HB.out)) hb); clear HB; have HB := n0_; clear n0_; (try clear hb); (try clear hb2); (try clear hk); (try clear hi)) | (go_at_call 26; (with_reducible refine (incipitref03_Space.calls kj3 a0 _ _ A12.out).mono ?_); rintro e w47 ⟨rfl, hb⟩; have n0_ := Aside0.mk (below_step (by repeat (first | (with_reducible first | exact HB.out | apply below_alloc | apply pw_below_drewN | apply below_drew1) | exact HB.out)) hb); clear HB; have HB := n0_; clear n0_; (try clear hb); (try clear hb2); (try clear hk); (try clear hi)) | (go_at_call 27; (with_reducible refine (class_Punct.calls a0 _ _ A14.out).mono ?_); rintro e w48 ⟨rfl, hb⟩; have n0_ := Aside0.mk (below_step (by repeat (first | (with_reducible first | exact HB.out | apply below_alloc | apply pw_below_drewN | apply below_drew1) | exact HB.out)) hb); clear HB; have HB := n0_; clear n0_; (try clear hb); (try clear hb2); (try clear hk); (try clear hi)) | (go_at_call 28; (with_reducible refine (incipitref03_Punct.calls kj3 a0 _ _ A15.out).mono ?_); rintro e w49 ⟨rfl, hb⟩; have n0_ := Aside0.mk (below_step (by repeat (first | (with_reducible first | exact HB.out | apply below_alloc | apply pw_below_drewN | apply below_drew1) | exact HB.out)) hb); clear HB; have HB := n0_; clear n0_; (try clear hb); (try clear hb2); (try clear hk); (try clear hi)) | (go_at_call 25; (with_reducible refine (class_Space.calls a0 false _ A17.out).mono ?_); rintro e w50 ⟨rfl, hb⟩; have n0_ := Aside0.mk (below_step (by repeat (first | (with_reducible first | exact HB.out | apply below_alloc | apply pw_below_drewN | apply below_drew1) | exact HB.out)) hb); clear HB; have HB := n0_; clear n0_; (try clear hb); (try clear hb2); (try clear hk); (try clear hi)) | (go_at_call 29; (with_reducible refine (class_Letter.calls a1 _ _ A37.out).mono ?_); rintro e w' ⟨rfl, ⟨nd, rfl⟩⟩) | (go_at_call 30; (with_reducible refine (class_Digit.calls a1 _ _ A39.out).mono ?_); rintro e w' ⟨rfl, ⟨nd, rfl⟩⟩))
                  all_goals go_ret
                  all_goals exact ⟨by first | rfl | (simp [errW_none, errW_some] <;> rfl) | (simp [*, errW_none, errW_some] <;> rfl), by repeat (first | (with_reducible first | exact HB.out | apply below_alloc | apply pw_below_drewN | apply below_drew1) | exact HB.out)⟩
              · rw [if_neg c38] at H
                exact absurd H (by simp)
          · rw [if_neg c16] at H
            exact absurd H (by simp)
        · rw [if_neg c13] at H
          exact absurd H (by simp)
      · replace c10 := Bool.eq_false_iff.mpr c10
        subst c10
        have H1 : (none) = some r := by rw [if_neg (show ¬ (false = true) by decide)] at H; exact H
        clear H
        have H := H1
        clear H1
        exact absurd H (by simp)

/-- THE ONE PURE STATEMENT of incipitlaw03_ClassIs: yours. -/
def incipitlaw03_ClassIs.Pure : Prop := ∀ (a0 : Int) (a1 : Int), (Lit.int .i32 a0).wf = true → (Lit.int .u8 a1).wf = true → ∃ k, incipitlaw03_ClassIs.f k a0 a1 = some true
theorem incipitlaw03_ClassIs.walk (P : incipitlaw03_ClassIs.Pure) (a0 : Int) (a1 : Int) (w : World) (w0 : (Lit.int .i32 a0).wf = true) (w1 : (Lit.int .u8 a1).wf = true) (hT : Tabs w) :
    Calls Tryd.prog 5 #[.int .i32 a0, .int .u8 a1] w fun e w' => e = .returned (.bool true) ∧ Below w.heap.size w w' := by
  have HT := Aside0.mk hT
  clear hT
  obtain ⟨k, h⟩ := P a0 a1 w0 w1
  refine (incipitlaw03_ClassIs.calls k a0 a1 true w h HT.out).mono ?_
  rintro e w' ⟨rfl, hd⟩
  exact ⟨rfl, hd⟩

end Go.Proofs.YtbgbmphjjdiaeaaDoor.P
