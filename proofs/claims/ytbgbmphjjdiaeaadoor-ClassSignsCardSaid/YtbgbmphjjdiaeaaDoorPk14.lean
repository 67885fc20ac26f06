/- Functions of the seat as plain Lean functions, and proofs that the Go code comes to them; laid by wip/handprint.py over the kit's printer. -/
import Derived.Test.YtbgbmphjjdiaeaaDoorPk0
import Derived.Test.YtbgbmphjjdiaeaaDoorClean
import Derived.Test.YtbgbmphjjdiaeaaDoorPk3
import Derived.Test.YtbgbmphjjdiaeaaDoorPk7
import Derived.Test.YtbgbmphjjdiaeaaDoorSpace
namespace Go.Proofs.YtbgbmphjjdiaeaaDoor.P
open Go.RowKit Go.Proofs.YtbgbmphjjdiaeaaDoorW.PrintWords Go.Proofs.YtbgbmphjjdiaeaaDoorW.PrintLast Go.Proofs.YtbgbmphjjdiaeaaDoorW.PrintMore
attribute [local go_sem] max2_int min2_int max_two min_two max_three min_three max_four min_four   -- for this text's walks alone
set_option linter.unusedVariables false
set_option linter.unusedSimpArgs false

/-! ### incipitlaw03_ClassSigns: function 9 -/
def incipitlaw03_ClassSigns.j0 : Nat → Bool → Int → Bool → Option (Bool)
  | 0, _, _, _ => none
  | k + 1, x3, x4, x5 => if x3 = true then ((class_Punct.f (wrap32 (x4))).bind fun t294 => (if x5 = true then ((class_Letter.f x4).bind fun t295 => (if t295 = true then (if (t294 == false) = true then ((class_Letter.f x4).bind fun t296 => (if t296 = true then ((class_Letter.f (Go.bits .xor .u8 x4 32)).bind fun t297 => (if t297 = true then ((class_Letter.f x4).bind fun t298 => (if t298 = true then ((class_Digit.f x4).bind fun t299 => (some (!t299))) else (some (!false)))) else (none))) else ((class_Letter.f x4).bind fun t300 => (if t300 = true then ((class_Digit.f x4).bind fun t301 => (some (!t301))) else (some (!false)))))) else (none)) else ((class_Digit.f x4).bind fun t302 => (if (t294 == (!t302)) = true then ((class_Letter.f x4).bind fun t303 => (if t303 = true then ((class_Letter.f (Go.bits .xor .u8 x4 32)).bind fun t304 => (if t304 = true then ((class_Letter.f x4).bind fun t305 => (if t305 = true then ((class_Digit.f x4).bind fun t306 => (some (!t306))) else (some (!false)))) else (none))) else ((class_Letter.f x4).bind fun t307 => (if t307 = true then ((class_Digit.f x4).bind fun t308 => (some (!t308))) else (some (!false)))))) else (none))))) else (if (t294 == false) = true then ((class_Letter.f x4).bind fun t309 => (if t309 = true then ((class_Letter.f (Go.bits .xor .u8 x4 32)).bind fun t310 => (if t310 = true then ((class_Letter.f x4).bind fun t311 => (if t311 = true then ((class_Digit.f x4).bind fun t312 => (some (!t312))) else (some (!false)))) else (none))) else ((class_Letter.f x4).bind fun t313 => (if t313 = true then ((class_Digit.f x4).bind fun t314 => (some (!t314))) else (some (!false)))))) else (none)))) else (none)
def incipitlaw03_ClassSigns.f (k : Nat) (a0 : Int) : Option (Bool) := (incipitlaw03_awake.f).bind fun t293 => (if (Go.bits .and .u8 a0 127) > 32 then (incipitlaw03_ClassSigns.j0 k t293 (Go.bits .and .u8 a0 127) (decide ((Go.bits .and .u8 a0 127) < 127))) else (incipitlaw03_ClassSigns.j0 k t293 (Go.bits .and .u8 a0 127) false))
theorem incipitlaw03_ClassSigns.mono_l : ∀ k, (∀ y0 y1 y2, LeO (incipitlaw03_ClassSigns.j0 k y0 y1 y2) (incipitlaw03_ClassSigns.j0 (k + 1) y0 y1 y2))
  | 0 => fun _ _ _ r h => by simp [incipitlaw03_ClassSigns.j0] at h
  | k + 1 => by
    have ih0 := incipitlaw03_ClassSigns.mono_l k
    · intro y0 y1 y2
      unfold incipitlaw03_ClassSigns.j0
      repeat' first
      | (with_reducible exact ih0 _ _ _)
      | (with_reducible exact LeO.refl _)
      | (with_reducible exact LeO.none _)
      | (with_reducible refine LeO.ite ?_ ?_)
      | (with_reducible refine LeO.bind ?_ (fun _ => ?_))
      | exact ih0 _ _ _
      | exact LeO.none _
      | refine LeO.ite ?_ ?_
      | refine LeO.bind ?_ (fun _ => ?_)
theorem incipitlaw03_ClassSigns.mono : ∀ a0 k, LeO (incipitlaw03_ClassSigns.f k a0) (incipitlaw03_ClassSigns.f (k + 1) a0) := by
  intro a0 k
  have ih0 := incipitlaw03_ClassSigns.mono_l k
  unfold incipitlaw03_ClassSigns.f
  repeat' first
      | (with_reducible exact ih0 _ _ _)
      | (with_reducible exact LeO.refl _)
      | (with_reducible exact LeO.none _)
      | (with_reducible refine LeO.ite ?_ ?_)
      | (with_reducible refine LeO.bind ?_ (fun _ => ?_))
      | exact ih0 _ _ _
      | exact LeO.none _
      | refine LeO.ite ?_ ?_
      | refine LeO.bind ?_ (fun _ => ?_)
set_option maxHeartbeats 8000000 in
set_option maxRecDepth 100000 in
theorem incipitlaw03_ClassSigns.calls (k : Nat) (a0 : Int) (r : Bool) (w : World) (h : incipitlaw03_ClassSigns.f k a0 = some r) (hT : Tabs w) :
    Calls Tryd.prog 9 #[.int .u8 a0] w fun e w' => e = .returned (.bool r) ∧ Below w.heap.size w w' := by
  have HT := Aside0.mk hT
  clear hT
  have HB := Aside0.mk (Below.refl w.heap.size w)
  have H : ((incipitlaw03_awake.f).bind fun t293 => (if (Go.bits .and .u8 a0 127) > 32 then (incipitlaw03_ClassSigns.j0 k t293 (Go.bits .and .u8 a0 127) (decide ((Go.bits .and .u8 a0 127) < 127))) else (incipitlaw03_ClassSigns.j0 k t293 (Go.bits .and .u8 a0 127) false))) = some r := h
  clear h
  replace H := Option.bind_eq_some_iff.mp H
  obtain ⟨t293, A20, H⟩ := H
  replace H : (if (Go.bits .and .u8 a0 127) > 32 then (incipitlaw03_ClassSigns.j0 k t293 (Go.bits .and .u8 a0 127) (decide ((Go.bits .and .u8 a0 127) < 127))) else (incipitlaw03_ClassSigns.j0 k t293 (Go.bits .and .u8 a0 127) false)) = some r := H
  have A2 := Aside0.mk A20
  clear A20
  have HC3 := Aside0.mk H
  clear H
  go_enter Tryd.func9, Tryd.ntmps9
  go_upto_region 3 with (first | ((with_reducible refine gate_callee (f := 24) rfl ?_); refine goesL_ (some 6) rfl rfl Tryd.func24 (by kernel_rfl) rfl #[] rfl (by (try simp only [List.map_toArray, List.map_cons, List.map_nil]); first | done | rfl | (simp only [List.length_drop, List.length_take]; rfl)) ?_; (with_reducible refine (incipitlaw03_awake.calls  _ _ A2.out (Tabs.below HT.out (by repeat (first | (with_reducible first | exact HB.out | apply below_alloc | apply pw_below_drewN | apply below_drew1) | exact HB.out)))).mono ?_); rintro e w4 ⟨rfl, hb⟩; refine ⟨_, rfl, ?_⟩; have n0_ := Aside0.mk (below_step (by repeat (first | (with_reducible first | exact HB.out | apply below_alloc | apply pw_below_drewN | apply below_drew1) | exact HB.out)) hb); clear HB; have HB := n0_; clear n0_; (try clear hb); (try clear hb2); (try clear hk); (try clear hi)))
  (try simp only [Act.put, List.setIfInBounds_toArray, List.set_cons_zero, List.set_cons_succ])
  go_cut [5] (fun v5 wc => ∃ (kq : Nat) (x5_2 : Bool), v5 = .bool x5_2 ∧ Aside0 (incipitlaw03_ClassSigns.j0 kq t293 (Go.bits .and .u8 a0 127) x5_2 = some r) ∧ Aside0 (kq ≤ k) ∧ Aside0 (Below w.heap.size w wc))
  case first =>
    have H := HC3.out
    clear HC3
    by_cases c5 : (Go.bits .and .u8 a0 127) > 32
    · rw [if_pos c5] at H
      have c5b0 : decide (32 < (Go.bits .and .u8 a0 127)) = true := decide_eq_true c5
      clear c5
      (first | rw [c5b0] | (simp only [i64_w, i32_w]; rw [c5b0]) | skip)
      have H' := Aside0.mk H
      clear H
      go_wp2
      go_meet
      case rel => exact ⟨_, (decide ((Go.bits .and .u8 a0 127) < 127)), (by first | rfl | (simp; done) | (simp [*]; done)), H', ⟨by first | omega | exact Nat.le_refl _⟩, ⟨by repeat (first | (with_reducible first | exact HB.out | apply below_alloc | apply pw_below_drewN | apply below_drew1) | exact HB.out)⟩⟩
    · rw [if_neg c5] at H
      have c5b0 : decide (32 < (Go.bits .and .u8 a0 127)) = false := decide_eq_false c5
      clear c5
      (first | rw [c5b0] | (simp only [i64_w, i32_w]; rw [c5b0]) | skip)
      have H' := Aside0.mk H
      clear H
      go_wp2
      go_meet
      case rel => exact ⟨_, (false), (by first | rfl | (simp; done) | (simp [*]; done)), H', ⟨by first | omega | exact Nat.le_refl _⟩, ⟨by repeat (first | (with_reducible first | exact HB.out | apply below_alloc | apply pw_below_drewN | apply below_drew1) | exact HB.out)⟩⟩
  case rest =>
    clear HC3
    try clear c2
    try clear p2
    try clear c5
    try clear c5b0
    obtain ⟨kq, x5_2, rfl, HA, HJ2, HB⟩ := hcut
    cases kq with
    | zero => exact absurd HA.out (by simp [incipitlaw03_ClassSigns.j0])
    | succ kj2 =>
      have H := HA.out
      clear HA
      simp only [incipitlaw03_ClassSigns.j0] at H
      by_cases c6 : t293 = true
      · subst c6
        have H1 : ((class_Punct.f (wrap32 ((Go.bits .and .u8 a0 127)))).bind fun t294 => (if x5_2 = true then ((class_Letter.f (Go.bits .and .u8 a0 127)).bind fun t295 => (if t295 = true then (if (t294 == false) = true then ((class_Letter.f (Go.bits .and .u8 a0 127)).bind fun t296 => (if t296 = true then ((class_Letter.f (Go.bits .xor .u8 (Go.bits .and .u8 a0 127) 32)).bind fun t297 => (if t297 = true then ((class_Letter.f (Go.bits .and .u8 a0 127)).bind fun t298 => (if t298 = true then ((class_Digit.f (Go.bits .and .u8 a0 127)).bind fun t299 => (some (!t299))) else (some (!false)))) else (none))) else ((class_Letter.f (Go.bits .and .u8 a0 127)).bind fun t300 => (if t300 = true then ((class_Digit.f (Go.bits .and .u8 a0 127)).bind fun t301 => (some (!t301))) else (some (!false)))))) else (none)) else ((class_Digit.f (Go.bits .and .u8 a0 127)).bind fun t302 => (if (t294 == (!t302)) = true then ((class_Letter.f (Go.bits .and .u8 a0 127)).bind fun t303 => (if t303 = true then ((class_Letter.f (Go.bits .xor .u8 (Go.bits .and .u8 a0 127) 32)).bind fun t304 => (if t304 = true then ((class_Letter.f (Go.bits .and .u8 a0 127)).bind fun t305 => (if t305 = true then ((class_Digit.f (Go.bits .and .u8 a0 127)).bind fun t306 => (some (!t306))) else (some (!false)))) else (none))) else ((class_Letter.f (Go.bits .and .u8 a0 127)).bind fun t307 => (if t307 = true then ((class_Digit.f (Go.bits .and .u8 a0 127)).bind fun t308 => (some (!t308))) else (some (!false)))))) else (none))))) else (if (t294 == false) = true then ((class_Letter.f (Go.bits .and .u8 a0 127)).bind fun t309 => (if t309 = true then ((class_Letter.f (Go.bits .xor .u8 (Go.bits .and .u8 a0 127) 32)).bind fun t310 => (if t310 = true then ((class_Letter.f (Go.bits .and .u8 a0 127)).bind fun t311 => (if t311 = true then ((class_Digit.f (Go.bits .and .u8 a0 127)).bind fun t312 => (some (!t312))) else (some (!false)))) else (none))) else ((class_Letter.f (Go.bits .and .u8 a0 127)).bind fun t313 => (if t313 = true then ((class_Digit.f (Go.bits .and .u8 a0 127)).bind fun t314 => (some (!t314))) else (some (!false)))))) else (none)))) = some r := by rw [if_pos rfl] at H; exact H
        clear H
        have H := H1
        clear H1
        replace H := Option.bind_eq_some_iff.mp H
        obtain ⟨t294, A70, H⟩ := H
        replace H : (if x5_2 = true then ((class_Letter.f (Go.bits .and .u8 a0 127)).bind fun t295 => (if t295 = true then (if (t294 == false) = true then ((class_Letter.f (Go.bits .and .u8 a0 127)).bind fun t296 => (if t296 = true then ((class_Letter.f (Go.bits .xor .u8 (Go.bits .and .u8 a0 127) 32)).bind fun t297 => (if t297 = true then ((class_Letter.f (Go.bits .and .u8 a0 127)).bind fun t298 => (if t298 = true then ((class_Digit.f (Go.bits .and .u8 a0 127)).bind fun t299 => (some (!t299))) else (some (!false)))) else (none))) else ((class_Letter.f (Go.bits .and .u8 a0 127)).bind fun t300 => (if t300 = true then ((class_Digit.f (Go.bits .and .u8 a0 127)).bind fun t301 => (some (!t301))) else (some (!false)))))) else (none)) else ((class_Digit.f (Go.bits .and .u8 a0 127)).bind fun t302 => (if (t294 == (!t302)) = true then ((class_Letter.f (Go.bits .and .u8 a0 127)).bind fun t303 => (if t303 = true then ((class_Letter.f (Go.bits .xor .u8 (Go.bits .and .u8 a0 127) 32)).bind fun t304 => (if t304 = true then ((class_Letter.f (Go.bits .and .u8 a0 127)).bind fun t305 => (if t305 = true then ((class_Digit.f (Go.bits .and .u8 a0 127)).bind fun t306 => (some (!t306))) else (some (!false)))) else (none))) else ((class_Letter.f (Go.bits .and .u8 a0 127)).bind fun t307 => (if t307 = true then ((class_Digit.f (Go.bits .and .u8 a0 127)).bind fun t308 => (some (!t308))) else (some (!false)))))) else (none))))) else (if (t294 == false) = true then ((class_Letter.f (Go.bits .and .u8 a0 127)).bind fun t309 => (if t309 = true then ((class_Letter.f (Go.bits .xor .u8 (Go.bits .and .u8 a0 127) 32)).bind fun t310 => (if t310 = true then ((class_Letter.f (Go.bits .and .u8 a0 127)).bind fun t311 => (if t311 = true then ((class_Digit.f (Go.bits .and .u8 a0 127)).bind fun t312 => (some (!t312))) else (some (!false)))) else (none))) else ((class_Letter.f (Go.bits .and .u8 a0 127)).bind fun t313 => (if t313 = true then ((class_Digit.f (Go.bits .and .u8 a0 127)).bind fun t314 => (some (!t314))) else (some (!false)))))) else (none))) = some r := H
        have A7 := Aside0.mk A70
        clear A70
        by_cases c8 : x5_2 = true
        · subst c8
          have H1 : ((class_Letter.f (Go.bits .and .u8 a0 127)).bind fun t295 => (if t295 = true then (if (t294 == false) = true then ((class_Letter.f (Go.bits .and .u8 a0 127)).bind fun t296 => (if t296 = true then ((class_Letter.f (Go.bits .xor .u8 (Go.bits .and .u8 a0 127) 32)).bind fun t297 => (if t297 = true then ((class_Letter.f (Go.bits .and .u8 a0 127)).bind fun t298 => (if t298 = true then ((class_Digit.f (Go.bits .and .u8 a0 127)).bind fun t299 => (some (!t299))) else (some (!false)))) else (none))) else ((class_Letter.f (Go.bits .and .u8 a0 127)).bind fun t300 => (if t300 = true then ((class_Digit.f (Go.bits .and .u8 a0 127)).bind fun t301 => (some (!t301))) else (some (!false)))))) else (none)) else ((class_Digit.f (Go.bits .and .u8 a0 127)).bind fun t302 => (if (t294 == (!t302)) = true then ((class_Letter.f (Go.bits .and .u8 a0 127)).bind fun t303 => (if t303 = true then ((class_Letter.f (Go.bits .xor .u8 (Go.bits .and .u8 a0 127) 32)).bind fun t304 => (if t304 = true then ((class_Letter.f (Go.bits .and .u8 a0 127)).bind fun t305 => (if t305 = true then ((class_Digit.f (Go.bits .and .u8 a0 127)).bind fun t306 => (some (!t306))) else (some (!false)))) else (none))) else ((class_Letter.f (Go.bits .and .u8 a0 127)).bind fun t307 => (if t307 = true then ((class_Digit.f (Go.bits .and .u8 a0 127)).bind fun t308 => (some (!t308))) else (some (!false)))))) else (none))))) = some r := by rw [if_pos rfl] at H; exact H
          clear H
          have H := H1
          clear H1
          replace H := Option.bind_eq_some_iff.mp H
          obtain ⟨t295, A90, H⟩ := H
          replace H : (if t295 = true then (if (t294 == false) = true then ((class_Letter.f (Go.bits .and .u8 a0 127)).bind fun t296 => (if t296 = true then ((class_Letter.f (Go.bits .xor .u8 (Go.bits .and .u8 a0 127) 32)).bind fun t297 => (if t297 = true then ((class_Letter.f (Go.bits .and .u8 a0 127)).bind fun t298 => (if t298 = true then ((class_Digit.f (Go.bits .and .u8 a0 127)).bind fun t299 => (some (!t299))) else (some (!false)))) else (none))) else ((class_Letter.f (Go.bits .and .u8 a0 127)).bind fun t300 => (if t300 = true then ((class_Digit.f (Go.bits .and .u8 a0 127)).bind fun t301 => (some (!t301))) else (some (!false)))))) else (none)) else ((class_Digit.f (Go.bits .and .u8 a0 127)).bind fun t302 => (if (t294 == (!t302)) = true then ((class_Letter.f (Go.bits .and .u8 a0 127)).bind fun t303 => (if t303 = true then ((class_Letter.f (Go.bits .xor .u8 (Go.bits .and .u8 a0 127) 32)).bind fun t304 => (if t304 = true then ((class_Letter.f (Go.bits .and .u8 a0 127)).bind fun t305 => (if t305 = true then ((class_Digit.f (Go.bits .and .u8 a0 127)).bind fun t306 => (some (!t306))) else (some (!false)))) else (none))) else ((class_Letter.f (Go.bits .and .u8 a0 127)).bind fun t307 => (if t307 = true then ((class_Digit.f (Go.bits .and .u8 a0 127)).bind fun t308 => (some (!t308))) else (some (!false)))))) else (none)))) = some r := H
          have A9 := Aside0.mk A90
          clear A90
          by_cases c10 : t295 = true
          · subst c10
            have H1 : (if (t294 == false) = true then ((class_Letter.f (Go.bits .and .u8 a0 127)).bind fun t296 => (if t296 = true then ((class_Letter.f (Go.bits .xor .u8 (Go.bits .and .u8 a0 127) 32)).bind fun t297 => (if t297 = true then ((class_Letter.f (Go.bits .and .u8 a0 127)).bind fun t298 => (if t298 = true then ((class_Digit.f (Go.bits .and .u8 a0 127)).bind fun t299 => (some (!t299))) else (some (!false)))) else (none))) else ((class_Letter.f (Go.bits .and .u8 a0 127)).bind fun t300 => (if t300 = true then ((class_Digit.f (Go.bits .and .u8 a0 127)).bind fun t301 => (some (!t301))) else (some (!false)))))) else (none)) = some r := by rw [if_pos rfl] at H; exact H
            clear H
            have H := H1
            clear H1
            by_cases c11 : (t294 == false) = true
            · rw [if_pos c11] at H
              have c11b0 : (t294 == false) = true := c11
              (try (have c11b1 : decide (t294 = false) = true := by simpa using c11))
              (try (have c11b2 : (t294 == false) = true := by simpa using c11))
              clear c11
              replace H := Option.bind_eq_some_iff.mp H
              obtain ⟨t296, A120, H⟩ := H
              replace H : (if t296 = true then ((class_Letter.f (Go.bits .xor .u8 (Go.bits .and .u8 a0 127) 32)).bind fun t297 => (if t297 = true then ((class_Letter.f (Go.bits .and .u8 a0 127)).bind fun t298 => (if t298 = true then ((class_Digit.f (Go.bits .and .u8 a0 127)).bind fun t299 => (some (!t299))) else (some (!false)))) else (none))) else ((class_Letter.f (Go.bits .and .u8 a0 127)).bind fun t300 => (if t300 = true then ((class_Digit.f (Go.bits .and .u8 a0 127)).bind fun t301 => (some (!t301))) else (some (!false))))) = some r := H
              have A12 := Aside0.mk A120
              clear A120
              by_cases c13 : t296 = true
              · subst c13
                have H1 : ((class_Letter.f (Go.bits .xor .u8 (Go.bits .and .u8 a0 127) 32)).bind fun t297 => (if t297 = true then ((class_Letter.f (Go.bits .and .u8 a0 127)).bind fun t298 => (if t298 = true then ((class_Digit.f (Go.bits .and .u8 a0 127)).bind fun t299 => (some (!t299))) else (some (!false)))) else (none))) = some r := by rw [if_pos rfl] at H; exact H
                clear H
                have H := H1
                clear H1
                replace H := Option.bind_eq_some_iff.mp H
                obtain ⟨t297, A140, H⟩ := H
                replace H : (if t297 = true then ((class_Letter.f (Go.bits .and .u8 a0 127)).bind fun t298 => (if t298 = true then ((class_Digit.f (Go.bits .and .u8 a0 127)).bind fun t299 => (some (!t299))) else (some (!false)))) else (none)) = some r := H
                have A14 := Aside0.mk A140
                clear A140
                by_cases c15 : t297 = true
                · subst c15
                  have H1 : ((class_Letter.f (Go.bits .and .u8 a0 127)).bind fun t298 => (if t298 = true then ((class_Digit.f (Go.bits .and .u8 a0 127)).bind fun t299 => (some (!t299))) else (some (!false)))) = some r := by rw [if_pos rfl] at H; exact H
                  clear H
                  have H := H1
                  clear H1
                  replace H := Option.bind_eq_some_iff.mp H
                  obtain ⟨t298, A160, H⟩ := H
                  replace H : (if t298 = true then ((class_Digit.f (Go.bits .and .u8 a0 127)).bind fun t299 => (some (!t299))) else (some (!false))) = some r := H
                  have A16 := Aside0.mk A160
                  clear A160
                  by_cases c17 : t298 = true
                  · subst c17
                    have H1 : ((class_Digit.f (Go.bits .and .u8 a0 127)).bind fun t299 => (some (!t299))) = some r := by rw [if_pos rfl] at H; exact H
                    clear H
                    have H := H1
                    clear H1
                    replace H := Option.bind_eq_some_iff.mp H
                    obtain ⟨t299, A180, H⟩ := H
                    replace H : (some (!t299)) = some r := H
                    have A18 := Aside0.mk A180
                    clear A180
                    obtain rfl := Option.some.inj H
                    (try (have e_ := Option.some.inj (A2.out.symm.trans A7.out); first | subst e_ | cases e_))
                    (try (have e_ := Option.some.inj (A2.out.symm.trans A9.out); first | subst e_ | cases e_))
                    (try (have e_ := Option.some.inj (A7.out.symm.trans A9.out); first | subst e_ | cases e_))
                    (try (have e_ := Option.some.inj (A2.out.symm.trans A12.out); first | subst e_ | cases e_))
                    (try (have e_ := Option.some.inj (A7.out.symm.trans A12.out); first | subst e_ | cases e_))
                    (try (have e_ := Option.some.inj (A9.out.symm.trans A12.out); first | subst e_ | cases e_))
                    (try (have e_ := Option.some.inj (A2.out.symm.trans A14.out); first | subst e_ | cases e_))
                    (try (have e_ := Option.some.inj (A7.out.symm.trans A14.out); first | subst e_ | cases e_))
                    (try (have e_ := Option.some.inj (A9.out.symm.trans A14.out); first | subst e_ | cases e_))
                    (try (have e_ := Option.some.inj (A12.out.symm.trans A14.out); first | subst e_ | cases e_))
                    (try (have e_ := Option.some.inj (A2.out.symm.trans A16.out); first | subst e_ | cases e_))
                    (try (have e_ := Option.some.inj (A7.out.symm.trans A16.out); first | subst e_ | cases e_))
                    (try (have e_ := Option.some.inj (A9.out.symm.trans A16.out); first | subst e_ | cases e_))
                    (try (have e_ := Option.some.inj (A12.out.symm.trans A16.out); first | subst e_ | cases e_))
                    (try (have e_ := Option.some.inj (A14.out.symm.trans A16.out); first | subst e_ | cases e_))
                    (try (have e_ := Option.some.inj (A2.out.symm.trans A18.out); first | subst e_ | cases e_))
                    (try (have e_ := Option.some.inj (A7.out.symm.trans A18.out); first | subst e_ | cases e_))
                    (try (have e_ := Option.some.inj (A9.out.symm.trans A18.out); first | subst e_ | cases e_))
                    (try (have e_ := Option.some.inj (A12.out.symm.trans A18.out); first | subst e_ | cases e_))
                    (try (have e_ := Option.some.inj (A14.out.symm.trans A18.out); first | subst e_ | cases e_))
                    (try (have e_ := Option.some.inj (A16.out.symm.trans A18.out); first | subst e_ | cases e_))
                    all_goals go_wp2_with (first | (go_at_call 27; (with_reducible refine (class_Punct.calls (wrap32 ((Go.bits .and .u8 a0 127))) _ _ A7.out).mono ?_); rintro e w19 ⟨rfl, hb⟩; have n0_ := Aside0.mk (below_step (by repeat (first | (with_reducible first | exact HB.out | apply below_alloc | apply pw_below_drewN | apply below_drew1) | exact HB.out)) hb); clear HB; have HB := n0_; clear n0_; (try clear hb); (try clear hb2); (try clear hk); (try clear hi)) | (go_at_call 29; (with_reducible refine (class_Letter.calls (Go.bits .and .u8 a0 127) true _ A9.out).mono ?_); rintro e w' ⟨rfl, ⟨nd, rfl⟩⟩) | (go_at_call 29; (with_reducible refine (class_Letter.calls (Go.bits .and .u8 a0 127) true _ A12.out).mono ?_); rintro e w' ⟨rfl, ⟨nd, rfl⟩⟩) | (go_at_call 29; (with_reducible refine (class_Letter.calls (Go.bits .xor .u8 (Go.bits .and .u8 a0 127) 32) true _ A14.out).mono ?_); rintro e w' ⟨rfl, ⟨nd, rfl⟩⟩) | (go_at_call 29; (with_reducible refine (class_Letter.calls (Go.bits .and .u8 a0 127) true _ A16.out).mono ?_); rintro e w' ⟨rfl, ⟨nd, rfl⟩⟩) | (go_at_call 30; (with_reducible refine (class_Digit.calls (Go.bits .and .u8 a0 127) _ _ A18.out).mono ?_); rintro e w' ⟨rfl, ⟨nd, rfl⟩⟩))
                    all_goals go_ret
                    all_goals exact ⟨by first | rfl | (simp [errW_none, errW_some] <;> rfl) | (simp [*, errW_none, errW_some] <;> rfl), by repeat (first | (with_reducible first | exact HB.out | apply below_alloc | apply pw_below_drewN | apply below_drew1) | exact HB.out)⟩
                  · replace c17 := Bool.eq_false_iff.mpr c17
                    subst c17
                    have H1 : (some (!false)) = some r := by rw [if_neg (show ¬ (false = true) by decide)] at H; exact H
                    clear H
                    have H := H1
                    clear H1
                    obtain rfl := Option.some.inj H
                    (try (have e_ := Option.some.inj (A2.out.symm.trans A7.out); first | subst e_ | cases e_))
                    (try (have e_ := Option.some.inj (A2.out.symm.trans A9.out); first | subst e_ | cases e_))
                    (try (have e_ := Option.some.inj (A7.out.symm.trans A9.out); first | subst e_ | cases e_))
                    (try (have e_ := Option.some.inj (A2.out.symm.trans A12.out); first | subst e_ | cases e_))
                    (try (have e_ := Option.some.inj (A7.out.symm.trans A12.out); first | subst e_ | cases e_))
                    (try (have e_ := Option.some.inj (A9.out.symm.trans A12.out); first | subst e_ | cases e_))
                    (try (have e_ := Option.some.inj (A2.out.symm.trans A14.out); first | subst e_ | cases e_))
                    (try (have e_ := Option.some.inj (A7.out.symm.trans A14.out); first | subst e_ | cases e_))
                    (try (have e_ := Option.some.inj (A9.out.symm.trans A14.out); first | subst e_ | cases e_))
                    (try (have e_ := Option.some.inj (A12.out.symm.trans A14.out); first | subst e_ | cases e_))
                    (try (have e_ := Option.some.inj (A2.out.symm.trans A16.out); first | subst e_ | cases e_))
                    (try (have e_ := Option.some.inj (A7.out.symm.trans A16.out); first | subst e_ | cases e_))
                    (try (have e_ := Option.some.inj (A9.out.symm.trans A16.out); first | subst e_ | cases e_))
                    (try (have e_ := Option.some.inj (A12.out.symm.trans A16.out); first | subst e_ | cases e_))
                    (try (have e_ := Option.some.inj (A14.out.symm.trans A16.out); first | subst e_ | cases e_))
                    all_goals go_wp2_with (first | (go_at_call 27; (with_reducible refine (class_Punct.calls (wrap32 ((Go.bits .and .u8 a0 127))) _ _ A7.out).mono ?_); rintro e w20 ⟨rfl, hb⟩; have n0_ := Aside0.mk (below_step (by repeat (first | (with_reducible first | exact HB.out | apply below_alloc | apply pw_below_drewN | apply below_drew1) | exact HB.out)) hb); clear HB; have HB := n0_; clear n0_; (try clear hb); (try clear hb2); (try clear hk); (try clear hi)) | (go_at_call 29; (with_reducible refine (class_Letter.calls (Go.bits .and .u8 a0 127) true _ A9.out).mono ?_); rintro e w' ⟨rfl, ⟨nd, rfl⟩⟩) | (go_at_call 29; (with_reducible refine (class_Letter.calls (Go.bits .and .u8 a0 127) true _ A12.out).mono ?_); rintro e w' ⟨rfl, ⟨nd, rfl⟩⟩) | (go_at_call 29; (with_reducible refine (class_Letter.calls (Go.bits .xor .u8 (Go.bits .and .u8 a0 127) 32) true _ A14.out).mono ?_); rintro e w' ⟨rfl, ⟨nd, rfl⟩⟩) | (go_at_call 29; (with_reducible refine (class_Letter.calls (Go.bits .and .u8 a0 127) false _ A16.out).mono ?_); rintro e w' ⟨rfl, ⟨nd, rfl⟩⟩))
                    all_goals go_ret
                    all_goals exact ⟨by first | rfl | (simp [errW_none, errW_some] <;> rfl) | (simp [*, errW_none, errW_some] <;> rfl), by repeat (first | (with_reducible first | exact HB.out | apply below_alloc | apply pw_below_drewN | apply below_drew1) | exact HB.out)⟩
                · replace c15 := Bool.eq_false_iff.mpr c15
                  subst c15
                  have H1 : (none) = some r := by rw [if_neg (show ¬ (false = true) by decide)] at H; exact H
                  clear H
                  have H := H1
                  clear H1
                  exact absurd H (by simp)
              · replace c13 := Bool.eq_false_iff.mpr c13
                subst c13
                have H1 : ((class_Letter.f (Go.bits .and .u8 a0 127)).bind fun t300 => (if t300 = true then ((class_Digit.f (Go.bits .and .u8 a0 127)).bind fun t301 => (some (!t301))) else (some (!false)))) = some r := by rw [if_neg (show ¬ (false = true) by decide)] at H; exact H
                clear H
                have H := H1
                clear H1
                replace H := Option.bind_eq_some_iff.mp H
                obtain ⟨t300, A210, H⟩ := H
                replace H : (if t300 = true then ((class_Digit.f (Go.bits .and .u8 a0 127)).bind fun t301 => (some (!t301))) else (some (!false))) = some r := H
                have A21 := Aside0.mk A210
                clear A210
                by_cases c22 : t300 = true
                · subst c22
                  have H1 : ((class_Digit.f (Go.bits .and .u8 a0 127)).bind fun t301 => (some (!t301))) = some r := by rw [if_pos rfl] at H; exact H
                  clear H
                  have H := H1
                  clear H1
                  replace H := Option.bind_eq_some_iff.mp H
                  obtain ⟨t301, A230, H⟩ := H
                  replace H : (some (!t301)) = some r := H
                  have A23 := Aside0.mk A230
                  clear A230
                  obtain rfl := Option.some.inj H
                  (try (have e_ := Option.some.inj (A2.out.symm.trans A7.out); first | subst e_ | cases e_))
                  (try (have e_ := Option.some.inj (A2.out.symm.trans A9.out); first | subst e_ | cases e_))
                  (try (have e_ := Option.some.inj (A7.out.symm.trans A9.out); first | subst e_ | cases e_))
                  (try (have e_ := Option.some.inj (A2.out.symm.trans A12.out); first | subst e_ | cases e_))
                  (try (have e_ := Option.some.inj (A7.out.symm.trans A12.out); first | subst e_ | cases e_))
                  (try (have e_ := Option.some.inj (A9.out.symm.trans A12.out); first | subst e_ | cases e_))
                  (try (have e_ := Option.some.inj (A2.out.symm.trans A21.out); first | subst e_ | cases e_))
                  (try (have e_ := Option.some.inj (A7.out.symm.trans A21.out); first | subst e_ | cases e_))
                  (try (have e_ := Option.some.inj (A9.out.symm.trans A21.out); first | subst e_ | cases e_))
                  (try (have e_ := Option.some.inj (A12.out.symm.trans A21.out); first | subst e_ | cases e_))
                  (try (have e_ := Option.some.inj (A2.out.symm.trans A23.out); first | subst e_ | cases e_))
                  (try (have e_ := Option.some.inj (A7.out.symm.trans A23.out); first | subst e_ | cases e_))
                  (try (have e_ := Option.some.inj (A9.out.symm.trans A23.out); first | subst e_ | cases e_))
                  (try (have e_ := Option.some.inj (A12.out.symm.trans A23.out); first | subst e_ | cases e_))
                  (try (have e_ := Option.some.inj (A21.out.symm.trans A23.out); first | subst e_ | cases e_))
                  all_goals go_wp2_with (first | (go_at_call 27; (with_reducible refine (class_Punct.calls (wrap32 ((Go.bits .and .u8 a0 127))) _ _ A7.out).mono ?_); rintro e w24 ⟨rfl, hb⟩; have n0_ := Aside0.mk (below_step (by repeat (first | (with_reducible first | exact HB.out | apply below_alloc | apply pw_below_drewN | apply below_drew1) | exact HB.out)) hb); clear HB; have HB := n0_; clear n0_; (try clear hb); (try clear hb2); (try clear hk); (try clear hi)) | (go_at_call 29; (with_reducible refine (class_Letter.calls (Go.bits .and .u8 a0 127) true _ A9.out).mono ?_); rintro e w' ⟨rfl, ⟨nd, rfl⟩⟩) | (go_at_call 29; (with_reducible refine (class_Letter.calls (Go.bits .and .u8 a0 127) false _ A12.out).mono ?_); rintro e w' ⟨rfl, ⟨nd, rfl⟩⟩) | (go_at_call 29; (with_reducible refine (class_Letter.calls (Go.bits .and .u8 a0 127) true _ A21.out).mono ?_); rintro e w' ⟨rfl, ⟨nd, rfl⟩⟩) | (go_at_call 30; (with_reducible refine (class_Digit.calls (Go.bits .and .u8 a0 127) _ _ A23.out).mono ?_); rintro e w' ⟨rfl, ⟨nd, rfl⟩⟩))
                  all_goals go_ret
                  all_goals exact ⟨by first | rfl | (simp [errW_none, errW_some] <;> rfl) | (simp [*, errW_none, errW_some] <;> rfl), by repeat (first | (with_reducible first | exact HB.out | apply below_alloc | apply pw_below_drewN | apply below_drew1) | exact HB.out)⟩
                · replace c22 := Bool.eq_false_iff.mpr c22
                  subst c22
                  have H1 : (some (!false)) = some r := by rw [if_neg (show ¬ (false = true) by decide)] at H; exact H
                  clear H
                  have H := H1
                  clear H1
                  obtain rfl := Option.some.inj H
                  (try (have e_ := Option.some.inj (A2.out.symm.trans A7.out); first | subst e_ | cases e_))
                  (try (have e_ := Option.some.inj (A2.out.symm.trans A9.out); first | subst e_ | cases e_))
                  (try (have e_ := Option.some.inj (A7.out.symm.trans A9.out); first | subst e_ | cases e_))
                  (try (have e_ := Option.some.inj (A2.out.symm.trans A12.out); first | subst e_ | cases e_))
                  (try (have e_ := Option.some.inj (A7.out.symm.trans A12.out); first | subst e_ | cases e_))
                  (try (have e_ := Option.some.inj (A9.out.symm.trans A12.out); first | subst e_ | cases e_))
                  (try (have e_ := Option.some.inj (A2.out.symm.trans A21.out); first | subst e_ | cases e_))
                  (try (have e_ := Option.some.inj (A7.out.symm.trans A21.out); first | subst e_ | cases e_))
                  (try (have e_ := Option.some.inj (A9.out.symm.trans A21.out); first | subst e_ | cases e_))
                  (try (have e_ := Option.some.inj (A12.out.symm.trans A21.out); first | subst e_ | cases e_))
                  all_goals go_wp2_with (first | (go_at_call 27; (with_reducible refine (class_Punct.calls (wrap32 ((Go.bits .and .u8 a0 127))) _ _ A7.out).mono ?_); rintro e w25 ⟨rfl, hb⟩; have n0_ := Aside0.mk (below_step (by repeat (first | (with_reducible first | exact HB.out | apply below_alloc | apply pw_below_drewN | apply below_drew1) | exact HB.out)) hb); clear HB; have HB := n0_; clear n0_; (try clear hb); (try clear hb2); (try clear hk); (try clear hi)) | (go_at_call 29; (with_reducible refine (class_Letter.calls (Go.bits .and .u8 a0 127) true _ A9.out).mono ?_); rintro e w' ⟨rfl, ⟨nd, rfl⟩⟩) | (go_at_call 29; (with_reducible refine (class_Letter.calls (Go.bits .and .u8 a0 127) false _ A12.out).mono ?_); rintro e w' ⟨rfl, ⟨nd, rfl⟩⟩) | (go_at_call 29; (with_reducible refine (class_Letter.calls (Go.bits .and .u8 a0 127) false _ A21.out).mono ?_); rintro e w' ⟨rfl, ⟨nd, rfl⟩⟩))
                  all_goals go_ret
                  all_goals exact ⟨by first | rfl | (simp [errW_none, errW_some] <;> rfl) | (simp [*, errW_none, errW_some] <;> rfl), by repeat (first | (with_reducible first | exact HB.out | apply below_alloc | apply pw_below_drewN | apply below_drew1) | exact HB.out)⟩
            · rw [if_neg c11] at H
              exact absurd H (by simp)
          · replace c10 := Bool.eq_false_iff.mpr c10
            subst c10
            have H1 : ((class_Digit.f (Go.bits .and .u8 a0 127)).bind fun t302 => (if (t294 == (!t302)) = true then ((class_Letter.f (Go.bits .and .u8 a0 127)).bind fun t303 => (if t303 = true then ((class_Letter.f (Go.bits .xor .u8 (Go.bits .and .u8 a0 127) 32)).bind fun t304 => (if t304 = true then ((class_Letter.f (Go.bits .and .u8 a0 127)).bind fun t305 => (if t305 = true then ((class_Digit.f (Go.bits .and .u8 a0 127)).bind fun t306 => (some (!t306))) else (some (!false)))) else (none))) else ((class_Letter.f (Go.bits .and .u8 a0 127)).bind fun t307 => (if t307 = true then ((class_Digit.f (Go.bits .and .u8 a0 127)).bind fun t308 => (some (!t308))) else (some (!false)))))) else (none))) = some r := by rw [if_neg (show ¬ (false = true) by decide)] at H; exact H
            clear H
            have H := H1
            clear H1
            replace H := Option.bind_eq_some_iff.mp H
            obtain ⟨t302, A260, H⟩ := H
            replace H : (if (t294 == (!t302)) = true then ((class_Letter.f (Go.bits .and .u8 a0 127)).bind fun t303 => (if t303 = true then ((class_Letter.f (Go.bits .xor .u8 (Go.bits .and .u8 a0 127) 32)).bind fun t304 => (if t304 = true then ((class_Letter.f (Go.bits .and .u8 a0 127)).bind fun t305 => (if t305 = true then ((class_Digit.f (Go.bits .and .u8 a0 127)).bind fun t306 => (some (!t306))) else (some (!false)))) else (none))) else ((class_Letter.f (Go.bits .and .u8 a0 127)).bind fun t307 => (if t307 = true then ((class_Digit.f (Go.bits .and .u8 a0 127)).bind fun t308 => (some (!t308))) else (some (!false)))))) else (none)) = some r := H
            have A26 := Aside0.mk A260
            clear A260
            by_cases c27 : (t294 == (!t302)) = true
            · rw [if_pos c27] at H
              have c27b0 : (t294 == (!t302)) = true := c27
              (try (have c27b1 : decide (t294 = (!t302)) = true := by simpa using c27))
              (try (have c27b2 : (t294 == (!t302)) = true := by simpa using c27))
              clear c27
              replace H := Option.bind_eq_some_iff.mp H
              obtain ⟨t303, A280, H⟩ := H
              replace H : (if t303 = true then ((class_Letter.f (Go.bits .xor .u8 (Go.bits .and .u8 a0 127) 32)).bind fun t304 => (if t304 = true then ((class_Letter.f (Go.bits .and .u8 a0 127)).bind fun t305 => (if t305 = true then ((class_Digit.f (Go.bits .and .u8 a0 127)).bind fun t306 => (some (!t306))) else (some (!false)))) else (none))) else ((class_Letter.f (Go.bits .and .u8 a0 127)).bind fun t307 => (if t307 = true then ((class_Digit.f (Go.bits .and .u8 a0 127)).bind fun t308 => (some (!t308))) else (some (!false))))) = some r := H
              have A28 := Aside0.mk A280
              clear A280
              by_cases c29 : t303 = true
              · subst c29
                have H1 : ((class_Letter.f (Go.bits .xor .u8 (Go.bits .and .u8 a0 127) 32)).bind fun t304 => (if t304 = true then ((class_Letter.f (Go.bits .and .u8 a0 127)).bind fun t305 => (if t305 = true then ((class_Digit.f (Go.bits .and .u8 a0 127)).bind fun t306 => (some (!t306))) else (some (!false)))) else (none))) = some r := by rw [if_pos rfl] at H; exact H
                clear H
                have H := H1
                clear H1
                replace H := Option.bind_eq_some_iff.mp H
                obtain ⟨t304, A300, H⟩ := H
                replace H : (if t304 = true then ((class_Letter.f (Go.bits .and .u8 a0 127)).bind fun t305 => (if t305 = true then ((class_Digit.f (Go.bits .and .u8 a0 127)).bind fun t306 => (some (!t306))) else (some (!false)))) else (none)) = some r := H
                have A30 := Aside0.mk A300
                clear A300
                by_cases c31 : t304 = true
                · subst c31
                  have H1 : ((class_Letter.f (Go.bits .and .u8 a0 127)).bind fun t305 => (if t305 = true then ((class_Digit.f (Go.bits .and .u8 a0 127)).bind fun t306 => (some (!t306))) else (some (!false)))) = some r := by rw [if_pos rfl] at H; exact H
                  clear H
                  have H := H1
                  clear H1
                  replace H := Option.bind_eq_some_iff.mp H
                  obtain ⟨t305, A320, H⟩ := H
                  replace H : (if t305 = true then ((class_Digit.f (Go.bits .and .u8 a0 127)).bind fun t306 => (some (!t306))) else (some (!false))) = some r := H
                  have A32 := Aside0.mk A320
                  clear A320
                  by_cases c33 : t305 = true
                  · subst c33
                    have H1 : ((class_Digit.f (Go.bits .and .u8 a0 127)).bind fun t306 => (some (!t306))) = some r := by rw [if_pos rfl] at H; exact H
                    clear H
                    have H := H1
                    clear H1
                    replace H := Option.bind_eq_some_iff.mp H
                    obtain ⟨t306, A340, H⟩ := H
                    replace H : (some (!t306)) = some r := H
                    have A34 := Aside0.mk A340
                    clear A340
                    obtain rfl := Option.some.inj H
                    (try (have e_ := Option.some.inj (A2.out.symm.trans A7.out); first | subst e_ | cases e_))
                    (try (have e_ := Option.some.inj (A2.out.symm.trans A9.out); first | subst e_ | cases e_))
                    (try (have e_ := Option.some.inj (A7.out.symm.trans A9.out); first | subst e_ | cases e_))
                    (try (have e_ := Option.some.inj (A2.out.symm.trans A26.out); first | subst e_ | cases e_))
                    (try (have e_ := Option.some.inj (A7.out.symm.trans A26.out); first | subst e_ | cases e_))
                    (try (have e_ := Option.some.inj (A9.out.symm.trans A26.out); first | subst e_ | cases e_))
                    (try (have e_ := Option.some.inj (A2.out.symm.trans A28.out); first | subst e_ | cases e_))
                    (try (have e_ := Option.some.inj (A7.out.symm.trans A28.out); first | subst e_ | cases e_))
                    (try (have e_ := Option.some.inj (A9.out.symm.trans A28.out); first | subst e_ | cases e_))
                    (try (have e_ := Option.some.inj (A26.out.symm.trans A28.out); first | subst e_ | cases e_))
                    (try (have e_ := Option.some.inj (A2.out.symm.trans A30.out); first | subst e_ | cases e_))
                    (try (have e_ := Option.some.inj (A7.out.symm.trans A30.out); first | subst e_ | cases e_))
                    (try (have e_ := Option.some.inj (A9.out.symm.trans A30.out); first | subst e_ | cases e_))
                    (try (have e_ := Option.some.inj (A26.out.symm.trans A30.out); first | subst e_ | cases e_))
                    (try (have e_ := Option.some.inj (A28.out.symm.trans A30.out); first | subst e_ | cases e_))
                    (try (have e_ := Option.some.inj (A2.out.symm.trans A32.out); first | subst e_ | cases e_))
                    (try (have e_ := Option.some.inj (A7.out.symm.trans A32.out); first | subst e_ | cases e_))
                    (try (have e_ := Option.some.inj (A9.out.symm.trans A32.out); first | subst e_ | cases e_))
                    (try (have e_ := Option.some.inj (A26.out.symm.trans A32.out); first | subst e_ | cases e_))
                    (try (have e_ := Option.some.inj (A28.out.symm.trans A32.out); first | subst e_ | cases e_))
                    (try (have e_ := Option.some.inj (A30.out.symm.trans A32.out); first | subst e_ | cases e_))
                    (try (have e_ := Option.some.inj (A2.out.symm.trans A34.out); first | subst e_ | cases e_))
                    (try (have e_ := Option.some.inj (A7.out.symm.trans A34.out); first | subst e_ | cases e_))
                    (try (have e_ := Option.some.inj (A9.out.symm.trans A34.out); first | subst e_ | cases e_))
                    (try (have e_ := Option.some.inj (A26.out.symm.trans A34.out); first | subst e_ | cases e_))
                    (try (have e_ := Option.some.inj (A28.out.symm.trans A34.out); first | subst e_ | cases e_))
                    (try (have e_ := Option.some.inj (A30.out.symm.trans A34.out); first | subst e_ | cases e_))
                    (try (have e_ := Option.some.inj (A32.out.symm.trans A34.out); first | subst e_ | cases e_))
                    all_goals go_wp2_with (first | (go_at_call 27; (with_reducible refine (class_Punct.calls (wrap32 ((Go.bits .and .u8 a0 127))) _ _ A7.out).mono ?_); rintro e w35 ⟨rfl, hb⟩; have n0_ := Aside0.mk (below_step (by repeat (first | (with_reducible first | exact HB.out | apply below_alloc | apply pw_below_drewN | apply below_drew1) | exact HB.out)) hb); clear HB; have HB := n0_; clear n0_; (try clear hb); (try clear hb2); (try clear hk); (try clear hi)) | (go_at_call 29; (with_reducible refine (class_Letter.calls (Go.bits .and .u8 a0 127) false _ A9.out).mono ?_); rintro e w' ⟨rfl, ⟨nd, rfl⟩⟩) | (go_at_call 30; (with_reducible refine (class_Digit.calls (Go.bits .and .u8 a0 127) _ _ A26.out).mono ?_); rintro e w' ⟨rfl, ⟨nd, rfl⟩⟩) | (go_at_call 29; (with_reducible refine (class_Letter.calls (Go.bits .and .u8 a0 127) true _ A28.out).mono ?_); rintro e w' ⟨rfl, ⟨nd, rfl⟩⟩) | (go_at_call 29; (with_reducible refine (class_Letter.calls (Go.bits .xor .u8 (Go.bits .and .u8 a0 127) 32) true _ A30.out).mono ?_); rintro e w' ⟨rfl, ⟨nd, rfl⟩⟩) | (go_at_call 29; (with_reducible refine (class_Letter.calls (Go.bits .and .u8 a0 127) true _ A32.out).mono ?_); rintro e w' ⟨rfl, ⟨nd, rfl⟩⟩) | (go_at_call 30; (with_reducible refine (class_Digit.calls (Go.bits .and .u8 a0 127) _ _ A34.out).mono ?_); rintro e w' ⟨rfl, ⟨nd, rfl⟩⟩))
                    all_goals go_ret
                    all_goals exact ⟨by first | rfl | (simp [errW_none, errW_some] <;> rfl) | (simp [*, errW_none, errW_some] <;> rfl), by repeat (first | (with_reducible first | exact HB.out | apply below_alloc | apply pw_below_drewN | apply below_drew1) | exact HB.out)⟩
                  · replace c33 := Bool.eq_false_iff.mpr c33
                    subst c33
                    have H1 : (some (!false)) = some r := by rw [if_neg (show ¬ (false = true) by decide)] at H; exact H
                    clear H
                    have H := H1
                    clear H1
                    obtain rfl := Option.some.inj H
                    (try (have e_ := Option.some.inj (A2.out.symm.trans A7.out); first | subst e_ | cases e_))
                    (try (have e_ := Option.some.inj (A2.out.symm.trans A9.out); first | subst e_ | cases e_))
                    (try (have e_ := Option.some.inj (A7.out.symm.trans A9.out); first | subst e_ | cases e_))
                    (try (have e_ := Option.some.inj (A2.out.symm.trans A26.out); first | subst e_ | cases e_))
                    (try (have e_ := Option.some.inj (A7.out.symm.trans A26.out); first | subst e_ | cases e_))
                    (try (have e_ := Option.some.inj (A9.out.symm.trans A26.out); first | subst e_ | cases e_))
                    (try (have e_ := Option.some.inj (A2.out.symm.trans A28.out); first | subst e_ | cases e_))
                    (try (have e_ := Option.some.inj (A7.out.symm.trans A28.out); first | subst e_ | cases e_))
                    (try (have e_ := Option.some.inj (A9.out.symm.trans A28.out); first | subst e_ | cases e_))
                    (try (have e_ := Option.some.inj (A26.out.symm.trans A28.out); first | subst e_ | cases e_))
                    (try (have e_ := Option.some.inj (A2.out.symm.trans A30.out); first | subst e_ | cases e_))
                    (try (have e_ := Option.some.inj (A7.out.symm.trans A30.out); first | subst e_ | cases e_))
                    (try (have e_ := Option.some.inj (A9.out.symm.trans A30.out); first | subst e_ | cases e_))
                    (try (have e_ := Option.some.inj (A26.out.symm.trans A30.out); first | subst e_ | cases e_))
                    (try (have e_ := Option.some.inj (A28.out.symm.trans A30.out); first | subst e_ | cases e_))
                    (try (have e_ := Option.some.inj (A2.out.symm.trans A32.out); first | subst e_ | cases e_))
                    (try (have e_ := Option.some.inj (A7.out.symm.trans A32.out); first | subst e_ | cases e_))
                    (try (have e_ := Option.some.inj (A9.out.symm.trans A32.out); first | subst e_ | cases e_))
                    (try (have e_ := Option.some.inj (A26.out.symm.trans A32.out); first | subst e_ | cases e_))
                    (try (have e_ := Option.some.inj (A28.out.symm.trans A32.out); first | subst e_ | cases e_))
                    (try (have e_ := Option.some.inj (A30.out.symm.trans A32.out); first | subst e_ | cases e_))
                    all_goals go_wp2_with (first | (go_at_call 27; (with_reducible refine (class_Punct.calls (wrap32 ((Go.bits .and .u8 a0 127))) _ _ A7.out).mono ?_); rintro e w36 ⟨rfl, hb⟩; have n0_ := Aside0.mk (below_step (by repeat (first | (with_reducible first | exact HB.out | apply below_alloc | apply pw_below_drewN | apply below_drew1) | exact HB.out)) hb); clear HB; have HB := n0_; clear n0_; (try clear hb); (try clear hb2); (try clear hk); (try clear hi)) | (go_at_call 29; (with_reducible refine (class_Letter.calls (Go.bits .and .u8 a0 127) false _ A9.out).mono ?_); rintro e w' ⟨rfl, ⟨nd, rfl⟩⟩) | (go_at_call 30; (with_reducible refine (class_Digit.calls (Go.bits .and .u8 a0 127) _ _ A26.out).mono ?_); rintro e w' ⟨rfl, ⟨nd, rfl⟩⟩) | (go_at_call 29; (with_reducible refine (class_Letter.calls (Go.bits .and .u8 a0 127) true _ A28.out).mono ?_); rintro e w' ⟨rfl, ⟨nd, rfl⟩⟩) | (go_at_call 29; (with_reducible refine (class_Letter.calls (Go.bits .xor .u8 (Go.bits .and .u8 a0 127) 32) true _ A30.out).mono ?_); rintro e w' ⟨rfl, ⟨nd, rfl⟩⟩) | (go_at_call 29; (with_reducible refine (class_Letter.calls (Go.bits .and .u8 a0 127) false _ A32.out).mono ?_); rintro e w' ⟨rfl, ⟨nd, rfl⟩⟩))
                    all_goals go_ret
                    all_goals exact ⟨by first | rfl | (simp [errW_none, errW_some] <;> rfl) | (simp [*, errW_none, errW_some] <;> rfl), by repeat (first | (with_reducible first | exact HB.out | apply below_alloc | apply pw_below_drewN | apply below_drew1) | exact HB.out)⟩
                · replace c31 := Bool.eq_false_iff.mpr c31
                  subst c31
                  have H1 : (none) = some r := by rw [if_neg (show ¬ (false = true) by decide)] at H; exact H
                  clear H
                  have H := H1
                  clear H1
                  exact absurd H (by simp)
              · replace c29 := Bool.eq_false_iff.mpr c29
                subst c29
                have H1 : ((class_Letter.f (Go.bits .and .u8 a0 127)).bind fun t307 => (if t307 = true then ((class_Digit.f (Go.bits .and .u8 a0 127)).bind fun t308 => (some (!t308))) else (some (!false)))) = some r := by rw [if_neg (show ¬ (false = true) by decide)] at H; exact H
                clear H
                have H := H1
                clear H1
                replace H := Option.bind_eq_some_iff.mp H
                obtain ⟨t307, A370, H⟩ := H
                replace H : (if t307 = true then ((class_Digit.f (Go.bits .and .u8 a0 127)).bind fun t308 => (some (!t308))) else (some (!false))) = some r := H
                have A37 := Aside0.mk A370
                clear A370
                by_cases c38 : t307 = true
                · subst c38
                  have H1 : ((class_Digit.f (Go.bits .and .u8 a0 127)).bind fun t308 => (some (!t308))) = some r := by rw [if_pos rfl] at H; exact H
                  clear H
                  have H := H1
                  clear H1
                  replace H := Option.bind_eq_some_iff.mp H
                  obtain ⟨t308, A390, H⟩ := H
                  replace H : (some (!t308)) = some r := H
                  have A39 := Aside0.mk A390
                  clear A390
                  obtain rfl := Option.some.inj H
                  (try (have e_ := Option.some.inj (A2.out.symm.trans A7.out); first | subst e_ | cases e_))
                  (try (have e_ := Option.some.inj (A2.out.symm.trans A9.out); first | subst e_ | cases e_))
                  (try (have e_ := Option.some.inj (A7.out.symm.trans A9.out); first | subst e_ | cases e_))
                  (try (have e_ := Option.some.inj (A2.out.symm.trans A26.out); first | subst e_ | cases e_))
                  (try (have e_ := Option.some.inj (A7.out.symm.trans A26.out); first | subst e_ | cases e_))
                  (try (have e_ := Option.some.inj (A9.out.symm.trans A26.out); first | subst e_ | cases e_))
                  (try (have e_ := Option.some.inj (A2.out.symm.trans A28.out); first | subst e_ | cases e_))
                  (try (have e_ := Option.some.inj (A7.out.symm.trans A28.out); first | subst e_ | cases e_))
                  (try (have e_ := Option.some.inj (A9.out.symm.trans A28.out); first | subst e_ | cases e_))
                  (try (have e_ := Option.some.inj (A26.out.symm.trans A28.out); first | subst e_ | cases e_))
                  (try (have e_ := Option.some.inj (A2.out.symm.trans A37.out); first | subst e_ | cases e_))
                  (try (have e_ := Option.some.inj (A7.out.symm.trans A37.out); first | subst e_ | cases e_))
                  (try (have e_ := Option.some.inj (A9.out.symm.trans A37.out); first | subst e_ | cases e_))
                  (try (have e_ := Option.some.inj (A26.out.symm.trans A37.out); first | subst e_ | cases e_))
                  (try (have e_ := Option.some.inj (A28.out.symm.trans A37.out); first | subst e_ | cases e_))
                  (try (have e_ := Option.some.inj (A2.out.symm.trans A39.out); first | subst e_ | cases e_))
                  (try (have e_ := Option.some.inj (A7.out.symm.trans A39.out); first | subst e_ | cases e_))
                  (try (have e_ := Option.some.inj (A9.out.symm.trans A39.out); first | subst e_ | cases e_))
                  (try (have e_ := Option.some.inj (A26.out.symm.trans A39.out); first | subst e_ | cases e_))
                  (try (have e_ := Option.some.inj (A28.out.symm.trans A39.out); first | subst e_ | cases e_))
                  (try (have e_ := Option.some.inj (A37.out.symm.trans A39.out); first | subst e_ | cases e_))
                  all_goals go_wp2_with (first | (go_at_call 27; (with_reducible refine (class_Punct.calls (wrap32 ((Go.bits .and .u8 a0 127))) _ _ A7.out).mono ?_); rintro e w40 ⟨rfl, hb⟩; have n0_ := Aside0.mk (below_step (by repeat (first | (with_reducible first | exact HB.out | apply below_alloc | apply pw_below_drewN | apply below_drew1) | exact HB.out)) hb); clear HB; have HB := n0_; clear n0_; (try clear hb); (try clear hb2); (try clear hk); (try clear hi)) | (go_at_call 29; (with_reducible refine (class_Letter.calls (Go.bits .and .u8 a0 127) false _ A9.out).mono ?_); rintro e w' ⟨rfl, ⟨nd, rfl⟩⟩) | (go_at_call 30; (with_reducible refine (class_Digit.calls (Go.bits .and .u8 a0 127) _ _ A26.out).mono ?_); rintro e w' ⟨rfl, ⟨nd, rfl⟩⟩) | (go_at_call 29; (with_reducible refine (class_Letter.calls (Go.bits .and .u8 a0 127) false _ A28.out).mono ?_); rintro e w' ⟨rfl, ⟨nd, rfl⟩⟩) | (go_at_call 29; (with_reducible refine (class_Letter.calls (Go.bits .and .u8 a0 127) true _ A37.out).mono ?_); rintro e w' ⟨rfl, ⟨nd, rfl⟩⟩) | (go_at_call 30; (with_reducible refine (class_Digit.calls (Go.bits .and .u8 a0 127) _ _ A39.out).mono ?_); rintro e w' ⟨rfl, ⟨nd, rfl⟩⟩))
                  all_goals go_ret
                  all_goals exact ⟨by first | rfl | (simp [errW_none, errW_some] <;> rfl) | (simp [*, errW_none, errW_some] <;> rfl), by repeat (first | (with_reducible first | exact HB.out | apply below_alloc | apply pw_below_drewN | apply below_drew1) | exact HB.out)⟩
                · replace c38 := Bool.eq_false_iff.mpr c38
                  subst c38
                  have H1 : (some (!false)) = some r := by rw [if_neg (show ¬ (false = true) by decide)] at H; exact H
                  clear H
                  have H := H1
                  clear H1
                  obtain rfl := Option.some.inj H
                  (try (have e_ := Option.some.inj (A2.out.symm.trans A7.out); first | subst e_ | cases e_))
                  (try (have e_ := Option.some.inj (A2.out.symm.trans A9.out); first | subst e_ | cases e_))
                  (try (have e_ := Option.some.inj (A7.out.symm.trans A9.out); first | subst e_ | cases e_))
                  (try (have e_ := Option.some.inj (A2.out.symm.trans A26.out); first | subst e_ | cases e_))
                  (try (have e_ := Option.some.inj (A7.out.symm.trans A26.out); first | subst e_ | cases e_))
                  (try (have e_ := Option.some.inj (A9.out.symm.trans A26.out); first | subst e_ | cases e_))
                  (try (have e_ := Option.some.inj (A2.out.symm.trans A28.out); first | subst e_ | cases e_))
                  (try (have e_ := Option.some.inj (A7.out.symm.trans A28.out); first | subst e_ | cases e_))
                  (try (have e_ := Option.some.inj (A9.out.symm.trans A28.out); first | subst e_ | cases e_))
                  (try (have e_ := Option.some.inj (A26.out.symm.trans A28.out); first | subst e_ | cases e_))
                  (try (have e_ := Option.some.inj (A2.out.symm.trans A37.out); first | subst e_ | cases e_))
                  (try (have e_ := Option.some.inj (A7.out.symm.trans A37.out); first | subst e_ | cases e_))
                  (try (have e_ := Option.some.inj (A9.out.symm.trans A37.out); first | subst e_ | cases e_))
                  (try (have e_ := Option.some.inj (A26.out.symm.trans A37.out); first | subst e_ | cases e_))
                  (try (have e_ := Option.some.inj (A28.out.symm.trans A37.out); first | subst e_ | cases e_))
                  all_goals go_wp2_with (first | (go_at_call 27; (with_reducible refine (class_Punct.calls (wrap32 ((Go.bits .and .u8 a0 127))) _ _ A7.out).mono ?_); rintro e w41 ⟨rfl, hb⟩; have n0_ := Aside0.mk (below_step (by repeat (first | (with_reducible first | exact HB.out | apply below_alloc | apply pw_below_drewN | apply below_drew1) | exact HB.out)) hb); clear HB; have HB := n0_; clear n0_; (try clear hb); (try clear hb2); (try clear hk); (try clear hi)) | (go_at_call 29; (with_reducible refine (class_Letter.calls (Go.bits .and .u8 a0 127) false _ A9.out).mono ?_); rintro e w' ⟨rfl, ⟨nd, rfl⟩⟩) | (go_at_call 30; (with_reducible refine (class_Digit.calls (Go.bits .and .u8 a0 127) _ _ A26.out).mono ?_); rintro e w' ⟨rfl, ⟨nd, rfl⟩⟩) | (go_at_call 29; (with_reducible refine (class_Letter.calls (Go.bits .and .u8 a0 127) false _ A28.out).mono ?_); rintro e w' ⟨rfl, ⟨nd, rfl⟩⟩) | (go_at_call 29; (with_reducible refine (class_Letter.calls (Go.bits .and .u8 a0 127) false _ A37.out).mono ?_); rintro e w' ⟨rfl, ⟨nd, rfl⟩⟩))
                  all_goals go_ret
                  all_goals exact ⟨by first | rfl | (simp [errW_none, errW_some] <;> rfl) | (simp [*, errW_none, errW_some] <;> rfl), by repeat (first | (with_reducible first | exact HB.out | apply below_alloc | apply pw_below_drewN | apply below_drew1) | exact HB.out)⟩
            · rw [if_neg c27] at H
              exact absurd H (by simp)
        · replace c8 := Bool.eq_false_iff.mpr c8
          subst c8
          have H1 : (if (t294 == false) = true then ((class_Letter.f (Go.bits .and .u8 a0 127)).bind fun t309 => (if t309 = true then ((class_Letter.f (Go.bits .xor .u8 (Go.bits .and .u8 a0 127) 32)).bind fun t310 => (if t310 = true then ((class_Letter.f (Go.bits .and .u8 a0 127)).bind fun t311 => (if t311 = true then ((class_Digit.f (Go.bits .and .u8 a0 127)).bind fun t312 => (some (!t312))) else (some (!false)))) else (none))) else ((class_Letter.f (Go.bits .and .u8 a0 127)).bind fun t313 => (if t313 = true then ((class_Digit.f (Go.bits .and .u8 a0 127)).bind fun t314 => (some (!t314))) else (some (!false)))))) else (none)) = some r := by rw [if_neg (show ¬ (false = true) by decide)] at H; exact H
          clear H
          have H := H1
          clear H1
          by_cases c42 : (t294 == false) = true
          · rw [if_pos c42] at H
            have c42b0 : (t294 == false) = true := c42
            (try (have c42b1 : decide (t294 = false) = true := by simpa using c42))
            (try (have c42b2 : (t294 == false) = true := by simpa using c42))
            clear c42
            replace H := Option.bind_eq_some_iff.mp H
            obtain ⟨t309, A430, H⟩ := H
            replace H : (if t309 = true then ((class_Letter.f (Go.bits .xor .u8 (Go.bits .and .u8 a0 127) 32)).bind fun t310 => (if t310 = true then ((class_Letter.f (Go.bits .and .u8 a0 127)).bind fun t311 => (if t311 = true then ((class_Digit.f (Go.bits .and .u8 a0 127)).bind fun t312 => (some (!t312))) else (some (!false)))) else (none))) else ((class_Letter.f (Go.bits .and .u8 a0 127)).bind fun t313 => (if t313 = true then ((class_Digit.f (Go.bits .and .u8 a0 127)).bind fun t314 => (some (!t314))) else (some (!false))))) = some r := H
            have A43 := Aside0.mk A430
            clear A430
            by_cases c44 : t309 = true
            · subst c44
              have H1 : ((class_Letter.f (Go.bits .xor .u8 (Go.bits .and .u8 a0 127) 32)).bind fun t310 => (if t310 = true then ((class_Letter.f (Go.bits .and .u8 a0 127)).bind fun t311 => (if t311 = true then ((class_Digit.f (Go.bits .and .u8 a0 127)).bind fun t312 => (some (!t312))) else (some (!false)))) else (none))) = some r := by rw [if_pos rfl] at H; exact H
              clear H
              have H := H1
              clear H1
              replace H := Option.bind_eq_some_iff.mp H
              obtain ⟨t310, A450, H⟩ := H
              replace H : (if t310 = true then ((class_Letter.f (Go.bits .and .u8 a0 127)).bind fun t311 => (if t311 = true then ((class_Digit.f (Go.bits .and .u8 a0 127)).bind fun t312 => (some (!t312))) else (some (!false)))) else (none)) = some r := H
              have A45 := Aside0.mk A450
              clear A450
              by_cases c46 : t310 = true
              · subst c46
                have H1 : ((class_Letter.f (Go.bits .and .u8 a0 127)).bind fun t311 => (if t311 = true then ((class_Digit.f (Go.bits .and .u8 a0 127)).bind fun t312 => (some (!t312))) else (some (!false)))) = some r := by rw [if_pos rfl] at H; exact H
                clear H
                have H := H1
                clear H1
                replace H := Option.bind_eq_some_iff.mp H
                obtain ⟨t311, A470, H⟩ := H
                replace H : (if t311 = true then ((class_Digit.f (Go.bits .and .u8 a0 127)).bind fun t312 => (some (!t312))) else (some (!false))) = some r := H
                have A47 := Aside0.mk A470
                clear A470
                by_cases c48 : t311 = true
                · subst c48
                  have H1 : ((class_Digit.f (Go.bits .and .u8 a0 127)).bind fun t312 => (some (!t312))) = some r := by rw [if_pos rfl] at H; exact H
                  clear H
                  have H := H1
                  clear H1
                  replace H := Option.bind_eq_some_iff.mp H
                  obtain ⟨t312, A490, H⟩ := H
                  replace H : (some (!t312)) = some r := H
                  have A49 := Aside0.mk A490
                  clear A490
                  obtain rfl := Option.some.inj H
                  (try (have e_ := Option.some.inj (A2.out.symm.trans A7.out); first | subst e_ | cases e_))
                  (try (have e_ := Option.some.inj (A2.out.symm.trans A43.out); first | subst e_ | cases e_))
                  (try (have e_ := Option.some.inj (A7.out.symm.trans A43.out); first | subst e_ | cases e_))
                  (try (have e_ := Option.some.inj (A2.out.symm.trans A45.out); first | subst e_ | cases e_))
                  (try (have e_ := Option.some.inj (A7.out.symm.trans A45.out); first | subst e_ | cases e_))
                  (try (have e_ := Option.some.inj (A43.out.symm.trans A45.out); first | subst e_ | cases e_))
                  (try (have e_ := Option.some.inj (A2.out.symm.trans A47.out); first | subst e_ | cases e_))
                  (try (have e_ := Option.some.inj (A7.out.symm.trans A47.out); first | subst e_ | cases e_))
                  (try (have e_ := Option.some.inj (A43.out.symm.trans A47.out); first | subst e_ | cases e_))
                  (try (have e_ := Option.some.inj (A45.out.symm.trans A47.out); first | subst e_ | cases e_))
                  (try (have e_ := Option.some.inj (A2.out.symm.trans A49.out); first | subst e_ | cases e_))
                  (try (have e_ := Option.some.inj (A7.out.symm.trans A49.out); first | subst e_ | cases e_))
                  (try (have e_ := Option.some.inj (A43.out.symm.trans A49.out); first | subst e_ | cases e_))
                  (try (have e_ := Option.some.inj (A45.out.symm.trans A49.out); first | subst e_ | cases e_))
                  (try (have e_ := Option.some.inj (A47.out.symm.trans A49.out); first | subst e_ | cases e_))
                  all_goals go_wp2_with (first | (go_at_call 27; (with_reducible refine (class_Punct.calls (wrap32 ((Go.bits .and .u8 a0 127))) _ _ A7.out).mono ?_); rintro e w50 ⟨rfl, hb⟩; have n0_ := Aside0.mk (below_step (by repeat (first | (with_reducible first | exact HB.out | apply below_alloc | apply pw_below_drewN | apply below_drew1) | exact HB.out)) hb); clear HB; have HB := n0_; clear n0_; (try clear hb); (try clear hb2); (try clear hk); (try clear hi)) | (go_at_call 29; (with_reducible refine (class_Letter.calls (Go.bits .and .u8 a0 127) true _ A43.out).mono ?_); rintro e w' ⟨rfl, ⟨nd, rfl⟩⟩) | (go_at_call 29; (with_reducible refine (class_Letter.calls (Go.bits .xor .u8 (Go.bits .and .u8 a0 127) 32) true _ A45.out).mono ?_); rintro e w' ⟨rfl, ⟨nd, rfl⟩⟩) | (go_at_call 29; (with_reducible refine (class_Letter.calls (Go.bits .and .u8 a0 127) true _ A47.out).mono ?_); rintro e w' ⟨rfl, ⟨nd, rfl⟩⟩) | (go_at_call 30; (with_reducible refine (class_Digit.calls (Go.bits .and .u8 a0 127) _ _ A49.out).mono ?_); rintro e w' ⟨rfl, ⟨nd, rfl⟩⟩))
                  all_goals go_ret
                  all_goals exact ⟨by first | rfl | (simp [errW_none, errW_some] <;> rfl) | (simp [*, errW_none, errW_some] <;> rfl), by repeat (first | (with_reducible first | exact HB.out | apply below_alloc | apply pw_below_drewN | apply below_drew1) | exact HB.out)⟩
                · replace c48 := Bool.eq_false_iff.mpr c48
                  subst c48
                  have H1 : (some (!false)) = some r := by rw [if_neg (show ¬ (false = true) by decide)] at H; exact H
                  clear H
                  have H := H1
                  clear H1
                  obtain rfl := Option.some.inj H
                  (try (have e_ := Option.some.inj (A2.out.symm.trans A7.out); first | subst e_ | cases e_))
                  (try (have e_ := Option.some.inj (A2.out.symm.trans A43.out); first | subst e_ | cases e_))
                  (try (have e_ := Option.some.inj (A7.out.symm.trans A43.out); first | subst e_ | cases e_))
                  (try (have e_ := Option.some.inj (A2.out.symm.trans A45.out); first | subst e_ | cases e_))
                  (try (have e_ := Option.some.inj (A7.out.symm.trans A45.out); first | subst e_ | cases e_))
                  (try (have e_ := Option.some.inj (A43.out.symm.trans A45.out); first | subst e_ | cases e_))
                  (try (have e_ := Option.some.inj (A2.out.symm.trans A47.out); first | subst e_ | cases e_))
                  (try (have e_ := Option.some.inj (A7.out.symm.trans A47.out); first | subst e_ | cases e_))
                  (try (have e_ := Option.some.inj (A43.out.symm.trans A47.out); first | subst e_ | cases e_))
                  (try (have e_ := Option.some.inj (A45.out.symm.trans A47.out); first | subst e_ | cases e_))
                  all_goals go_wp2_with (first | (go_at_call 27; (with_reducible refine (class_Punct.calls (wrap32 ((Go.bits .and .u8 a0 127))) _ _ A7.out).mono ?_); rintro e w51 ⟨rfl, hb⟩; have n0_ := Aside0.mk (below_step (by repeat (first | (with_reducible first | exact HB.out | apply below_alloc | apply pw_below_drewN | apply below_drew1) | exact HB.out)) hb); clear HB; have HB := n0_; clear n0_; (try clear hb); (try clear hb2); (try clear hk); (try clear hi)) | (go_at_call 29; (with_reducible refine (class_Letter.calls (Go.bits .and .u8 a0 127) true _ A43.out).mono ?_); rintro e w' ⟨rfl, ⟨nd, rfl⟩⟩) | (go_at_call 29; (with_reducible refine (class_Letter.calls (Go.bits .xor .u8 (Go.bits .and .u8 a0 127) 32) true _ A45.out).mono ?_); rintro e w' ⟨rfl, ⟨nd, rfl⟩⟩) | (go_at_call 29; (with_reducible refine (class_Letter.calls (Go.bits .and .u8 a0 127) false _ A47.out).mono ?_); rintro e w' ⟨rfl, ⟨nd, rfl⟩⟩))
                  all_goals go_ret
                  all_goals exact ⟨by first | rfl | (simp [errW_none, errW_some] <;> rfl) | (simp [*, errW_none, errW_some] <;> rfl), by repeat (first | (with_reducible first | exact HB.out | apply below_alloc | apply pw_below_drewN | apply below_drew1) | exact HB.out)⟩
              · replace c46 := Bool.eq_false_iff.mpr c46
                subst c46
                have H1 : (none) = some r := by rw [if_neg (show ¬ (false = true) by decide)] at H; exact H
                clear H
                have H := H1
                clear H1
                exact absurd H (by simp)
            · replace c44 := Bool.eq_false_iff.mpr c44
              subst c44
              have H1 : ((class_Letter.f (Go.bits .and .u8 a0 127)).bind fun t313 => (if t313 = true then ((class_Digit.f (Go.bits .and .u8 a0 127)).bind fun t314 => (some (!t314))) else (some (!false)))) = some r := by rw [if_neg (show ¬ (false = true) by decide)] at H; exact H
              clear H
              have H := H1
              clear H1
              replace H := Option.bind_eq_some_iff.mp H
              obtain ⟨t313, A520, H⟩ := H
              replace H : (if t313 = true then ((class_Digit.f (Go.bits .and .u8 a0 127)).bind fun t314 => (some (!t314))) else (some (!false))) = some r := H
              have A52 := Aside0.mk A520
              clear A520
              by_cases c53 : t313 = true
              · subst c53
                have H1 : ((class_Digit.f (Go.bits .and .u8 a0 127)).bind fun t314 => (some (!t314))) = some r := by rw [if_pos rfl] at H; exact H
                clear H
                have H := H1
                clear H1
                replace H := Option.bind_eq_some_iff.mp H
                obtain ⟨t314, A540, H⟩ := H
                replace H : (some (!t314)) = some r := H
                have A54 := Aside0.mk A540
                clear A540
                obtain rfl := Option.some.inj H
                (try (have e_ := Option.some.inj (A2.out.symm.trans A7.out); first | subst e_ | cases e_))
                (try (have e_ := Option.some.inj (A2.out.symm.trans A43.out); first | subst e_ | cases e_))
                (try (have e_ := Option.some.inj (A7.out.symm.trans A43.out); first | subst e_ | cases e_))
                (try (have e_ := Option.some.inj (A2.out.symm.trans A52.out); first | subst e_ | cases e_))
                (try (have e_ := Option.some.inj (A7.out.symm.trans A52.out); first | subst e_ | cases e_))
                (try (have e_ := Option.some.inj (A43.out.symm.trans A52.out); first | subst e_ | cases e_))
                (try (have e_ := Option.some.inj (A2.out.symm.trans A54.out); first | subst e_ | cases e_))
                (try (have e_ := Option.some.inj (A7.out.symm.trans A54.out); first | subst e_ | cases e_))
                (try (have e_ := Option.some.inj (A43.out.symm.trans A54.out); first | subst e_ | cases e_))
                (try (have e_ := Option.some.inj (A52.out.symm.trans A54.out); first | subst e_ | cases e_))
                all_goals go_wp2_with (first | (go_at_call 27; (with_reducible refine (class_Punct.calls (wrap32 ((Go.bits .and .u8 a0 127))) _ _ A7.out).mono ?_); rintro e w55 ⟨rfl, hb⟩; have n0_ := Aside0.mk (below_step (by repeat (first | (with_reducible first | exact HB.out | apply below_alloc | apply pw_below_drewN | apply below_drew1) | exact HB.out)) hb); clear HB; have HB := n0_; clear n0_; (try clear hb); (try clear hb2); (try clear hk); (try clear hi)) | (go_at_call 29; (with_reducible refine (class_Letter.calls (Go.bits .and .u8 a0 127) false _ A43.out).mono ?_); rintro e w' ⟨rfl, ⟨nd, rfl⟩⟩) | (go_at_call 29; (with_reducible refine (class_Letter.calls (Go.bits .and .u8 a0 127) true _ A52.out).mono ?_); rintro e w' ⟨rfl, ⟨nd, rfl⟩⟩) | (go_at_call 30; (with_reducible refine (class_Digit.calls (Go.bits .and .u8 a0 127) _ _ A54.out).mono ?_); rintro e w' ⟨rfl, ⟨nd, rfl⟩⟩))
                all_goals go_ret
                all_goals exact ⟨by first | rfl | (simp [errW_none, errW_some] <;> rfl) | (simp [*, errW_none, errW_some] <;> rfl), by repeat (first | (with_reducible first | exact HB.out | apply below_alloc | apply pw_below_drewN | apply below_drew1) | exact HB.out)⟩
              · replace c53 := Bool.eq_false_iff.mpr c53
                subst c53
                have H1 : (some (!false)) = some r := by rw [if_neg (show ¬ (false = true) by decide)] at H; exact H
                clear H
                have H := H1
                clear H1
                obtain rfl := Option.some.inj H
                (try (have e_ := Option.some.inj (A2.out.symm.trans A7.out); first | subst e_ | cases e_))
                (try (have e_ := Option.some.inj (A2.out.symm.trans A43.out); first | subst e_ | cases e_))
                (try (have e_ := Option.some.inj (A7.out.symm.trans A43.out); first | subst e_ | cases e_))
                (try (have e_ := Option.some.inj (A2.out.symm.trans A52.out); first | subst e_ | cases e_))
                (try (have e_ := Option.some.inj (A7.out.symm.trans A52.out); first | subst e_ | cases e_))
                (try (have e_ := Option.some.inj (A43.out.symm.trans A52.out); first | subst e_ | cases e_))
                all_goals go_wp2_with (first | (go_at_call 27; (with_reducible refine (class_Punct.calls (wrap32 ((Go.bits .and .u8 a0 127))) _ _ A7.out).mono ?_); rintro e w56 ⟨rfl, hb⟩; have n0_ := Aside0.mk (below_step (by repeat (first | (with_reducible first | exact HB.out | apply below_alloc | apply pw_below_drewN | apply below_drew1) | exact HB.out)) hb); clear HB; have HB := n0_; clear n0_; (try clear hb); (try clear hb2); (try clear hk); (try clear hi)) | (go_at_call 29; (with_reducible refine (class_Letter.calls (Go.bits .and .u8 a0 127) false _ A43.out).mono ?_); rintro e w' ⟨rfl, ⟨nd, rfl⟩⟩) | (go_at_call 29; (with_reducible refine (class_Letter.calls (Go.bits .and .u8 a0 127) false _ A52.out).mono ?_); rintro e w' ⟨rfl, ⟨nd, rfl⟩⟩))
                all_goals go_ret
                all_goals exact ⟨by first | rfl | (simp [errW_none, errW_some] <;> rfl) | (simp [*, errW_none, errW_some] <;> rfl), by repeat (first | (with_reducible first | exact HB.out | apply below_alloc | apply pw_below_drewN | apply below_drew1) | exact HB.out)⟩
          · rw [if_neg c42] at H
            exact absurd H (by simp)
      · replace c6 := Bool.eq_false_iff.mpr c6
        subst c6
        have H1 : (none) = some r := by rw [if_neg (show ¬ (false = true) by decide)] at H; exact H
        clear H
        have H := H1
        clear H1
        exact absurd H (by simp)

/-- THE ONE PURE STATEMENT of incipitlaw03_ClassSigns: yours. -/
def incipitlaw03_ClassSigns.Pure : Prop := ∀ (a0 : Int), (Lit.int .u8 a0).wf = true → ∃ k, incipitlaw03_ClassSigns.f k a0 = some true
theorem incipitlaw03_ClassSigns.walk (P : incipitlaw03_ClassSigns.Pure) (a0 : Int) (w : World) (w0 : (Lit.int .u8 a0).wf = true) (hT : Tabs w) :
    Calls Tryd.prog 9 #[.int .u8 a0] w fun e w' => e = .returned (.bool true) ∧ Below w.heap.size w w' := by
  have HT := Aside0.mk hT
  clear hT
  obtain ⟨k, h⟩ := P a0 w0
  refine (incipitlaw03_ClassSigns.calls k a0 true w h HT.out).mono ?_
  rintro e w' ⟨rfl, hd⟩
  exact ⟨rfl, hd⟩

end Go.Proofs.YtbgbmphjjdiaeaaDoor.P
