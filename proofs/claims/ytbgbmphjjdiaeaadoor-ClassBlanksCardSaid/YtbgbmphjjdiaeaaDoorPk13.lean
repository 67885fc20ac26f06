/- Functions of the seat as plain Lean functions, and proofs that the Go code comes to them; laid by wip/handprint.py over the kit's printer. -/
import Derived.Test.YtbgbmphjjdiaeaaDoorPk0
import Derived.Test.YtbgbmphjjdiaeaaDoorClean
import Derived.Test.YtbgbmphjjdiaeaaDoorForms
import Derived.Test.YtbgbmphjjdiaeaaDoorPk7
namespace Go.Proofs.YtbgbmphjjdiaeaaDoor.P
open Go.RowKit Go.Proofs.YtbgbmphjjdiaeaaDoorW.PrintWords Go.Proofs.YtbgbmphjjdiaeaaDoorW.PrintLast Go.Proofs.YtbgbmphjjdiaeaaDoorW.PrintMore
attribute [local go_sem] max2_int min2_int max_two min_two max_three min_three max_four min_four   -- for this text's walks alone
set_option linter.unusedVariables false
set_option linter.unusedSimpArgs false

/-! ### incipitlaw03_ClassBlanks: function 8 -/
def incipitlaw03_ClassBlanks.j0 : Nat → ByteArray → ByteArray → Int → Bool → Bool → Option (Bool)
  | 0, _, _, _, _, _ => none
  | k + 1, x0, x1, x2, x7, x17 => if x17 = true then (some x7) else ((some (([(⟨#[32]⟩ : ByteArray), (⟨#[9]⟩ : ByteArray), (⟨#[10, 32, 13]⟩ : ByteArray), (⟨#[11, 12, 32, 32]⟩ : ByteArray)] : List ByteArray) : List ByteArray)).bind fun y287 => (if 0 ≤ (Go.bits .and .i64 x2 3) then (if (Go.bits .and .i64 x2 3) < (y287.length : Int) then (if x7 = true then (if (rdOf ByteArray.empty y287 (Go.bits .and .i64 x2 3)).size + x0.size ≤ 9223372036854775807 then (if ((rdOf ByteArray.empty y287 (Go.bits .and .i64 x2 3)) ++ x0).size + (rdOf ByteArray.empty y287 (Go.bits .and .i64 x2 3)).size ≤ 9223372036854775807 then (if (((rdOf ByteArray.empty y287 (Go.bits .and .i64 x2 3)) ++ x0) ++ (rdOf ByteArray.empty y287 (Go.bits .and .i64 x2 3))).size + x1.size ≤ 9223372036854775807 then (if ((((rdOf ByteArray.empty y287 (Go.bits .and .i64 x2 3)) ++ x0) ++ (rdOf ByteArray.empty y287 (Go.bits .and .i64 x2 3))) ++ x1).size + (rdOf ByteArray.empty y287 (Go.bits .and .i64 x2 3)).size ≤ 9223372036854775807 then ((class_Label.f (((((rdOf ByteArray.empty y287 (Go.bits .and .i64 x2 3)) ++ x0) ++ (rdOf ByteArray.empty y287 (Go.bits .and .i64 x2 3))) ++ x1) ++ (rdOf ByteArray.empty y287 (Go.bits .and .i64 x2 3)))).bind fun t291 => (if x0.size + 1 ≤ 9223372036854775807 then (if (x0 ++ (⟨#[32]⟩ : ByteArray)).size + x1.size ≤ 9223372036854775807 then ((class_Label.f ((x0 ++ (⟨#[32]⟩ : ByteArray)) ++ x1)).bind fun t292 => (some (t291.toList == t292.toList))) else (none)) else (none))) else (none)) else (none)) else (none)) else (none)) else (none)) else (none)) else (none)))
def incipitlaw03_ClassBlanks.f (k : Nat) (a0 : ByteArray) (a1 : ByteArray) (a2 : Int) : Option (Bool) := (incipitlaw03_awake.f).bind fun t286 => (if (a0.size : Int) > 500 then (incipitlaw03_ClassBlanks.j0 k a0 a1 a2 t286 true) else (incipitlaw03_ClassBlanks.j0 k a0 a1 a2 t286 (decide ((a1.size : Int) > 500))))
theorem incipitlaw03_ClassBlanks.mono_l : ∀ k, (∀ y0 y1 y2 y3 y4, LeO (incipitlaw03_ClassBlanks.j0 k y0 y1 y2 y3 y4) (incipitlaw03_ClassBlanks.j0 (k + 1) y0 y1 y2 y3 y4))
  | 0 => fun _ _ _ _ _ r h => by simp [incipitlaw03_ClassBlanks.j0] at h
  | k + 1 => by
    have ih0 := incipitlaw03_ClassBlanks.mono_l k
    · intro y0 y1 y2 y3 y4
      unfold incipitlaw03_ClassBlanks.j0
      repeat' first
      | (with_reducible exact ih0 _ _ _ _ _)
      | (with_reducible exact LeO.refl _)
      | (with_reducible exact LeO.none _)
      | (with_reducible refine LeO.ite ?_ ?_)
      | (with_reducible refine LeO.bind ?_ (fun _ => ?_))
      | exact ih0 _ _ _ _ _
      | exact LeO.none _
      | refine LeO.ite ?_ ?_
      | refine LeO.bind ?_ (fun _ => ?_)
theorem incipitlaw03_ClassBlanks.mono : ∀ a0 a1 a2 k, LeO (incipitlaw03_ClassBlanks.f k a0 a1 a2) (incipitlaw03_ClassBlanks.f (k + 1) a0 a1 a2) := by
  intro a0 a1 a2 k
  have ih0 := incipitlaw03_ClassBlanks.mono_l k
  unfold incipitlaw03_ClassBlanks.f
  repeat' first
      | (with_reducible exact ih0 _ _ _ _ _)
      | (with_reducible exact LeO.refl _)
      | (with_reducible exact LeO.none _)
      | (with_reducible refine LeO.ite ?_ ?_)
      | (with_reducible refine LeO.bind ?_ (fun _ => ?_))
      | exact ih0 _ _ _ _ _
      | exact LeO.none _
      | refine LeO.ite ?_ ?_
      | refine LeO.bind ?_ (fun _ => ?_)
set_option maxHeartbeats 8000000 in
set_option maxRecDepth 100000 in
theorem incipitlaw03_ClassBlanks.calls (k : Nat) (a0 : ByteArray) (a1 : ByteArray) (a2 : Int) (r : Bool) (w : World) (h : incipitlaw03_ClassBlanks.f k a0 a1 a2 = some r) (hT : Tabs w) :
    Calls Tryd.prog 8 #[.string a0, .string a1, .int .i64 a2] w fun e w' => e = .returned (.bool r) ∧ Below w.heap.size w w' := by
  have HT := Aside0.mk hT
  clear hT
  have HB := Aside0.mk (Below.refl w.heap.size w)
  have H : ((incipitlaw03_awake.f).bind fun t286 => (if (a0.size : Int) > 500 then (incipitlaw03_ClassBlanks.j0 k a0 a1 a2 t286 true) else (incipitlaw03_ClassBlanks.j0 k a0 a1 a2 t286 (decide ((a1.size : Int) > 500))))) = some r := h
  clear h
  replace H := Option.bind_eq_some_iff.mp H
  obtain ⟨t286, A40, H⟩ := H
  replace H : (if (a0.size : Int) > 500 then (incipitlaw03_ClassBlanks.j0 k a0 a1 a2 t286 true) else (incipitlaw03_ClassBlanks.j0 k a0 a1 a2 t286 (decide ((a1.size : Int) > 500)))) = some r := H
  have A4 := Aside0.mk A40
  clear A40
  have HC5 := Aside0.mk H
  clear H
  go_enter Tryd.func8, Tryd.ntmps8
  go_upto_region 2 with (first | ((with_reducible refine gate_callee (f := 24) rfl ?_); refine goesL_ (some 9) rfl rfl Tryd.func24 (by kernel_rfl) rfl #[] rfl (by (try simp only [List.map_toArray, List.map_cons, List.map_nil]); first | done | rfl | (simp only [List.length_drop, List.length_take]; rfl)) ?_; (with_reducible refine (incipitlaw03_awake.calls  t286 _ A4.out (Tabs.below HT.out (by repeat (first | (with_reducible first | exact HB.out | apply below_alloc | apply pw_below_drewN | apply below_drew1) | exact HB.out)))).mono ?_); rintro e w6 ⟨rfl, hb⟩; refine ⟨_, rfl, ?_⟩; have n0_ := Aside0.mk (below_step (by repeat (first | (with_reducible first | exact HB.out | apply below_alloc | apply pw_below_drewN | apply below_drew1) | exact HB.out)) hb); clear HB; have HB := n0_; clear n0_; (try clear hb); (try clear hb2); (try clear hk); (try clear hi)))
  (try simp only [Act.put, List.setIfInBounds_toArray, List.set_cons_zero, List.set_cons_succ])
  go_cut [17] (fun v17 wc => ∃ (kq : Nat) (x17_4 : Bool), v17 = .bool x17_4 ∧ Aside0 (incipitlaw03_ClassBlanks.j0 kq a0 a1 a2 t286 x17_4 = some r) ∧ Aside0 (kq ≤ k) ∧ Aside0 (Below w.heap.size w wc))
  case first =>
    have H := HC5.out
    clear HC5
    by_cases c7 : (a0.size : Int) > 500
    · rw [if_pos c7] at H
      have c7b0 : decide (500 < (a0.size : Int)) = true := decide_eq_true c7
      have c7b1 : decide (500 < a0.size) = true := decide_eq_true (by omega)
      clear c7
      (first | rw [c7b0] | (simp only [i64_w, i32_w]; rw [c7b0]) | skip)
      have H' := Aside0.mk H
      clear H
      go_wp2
      go_meet
      case rel => exact ⟨_, (true), (by first | rfl | (simp; done) | (simp [*]; done)), H', ⟨by first | omega | exact Nat.le_refl _⟩, ⟨by repeat (first | (with_reducible first | exact HB.out | apply below_alloc | apply pw_below_drewN | apply below_drew1) | exact HB.out)⟩⟩
    · rw [if_neg c7] at H
      have c7b0 : decide (500 < (a0.size : Int)) = false := decide_eq_false c7
      have c7b1 : decide (500 < a0.size) = false := decide_eq_false (by omega)
      clear c7
      (first | rw [c7b0] | (simp only [i64_w, i32_w]; rw [c7b0]) | skip)
      have H' := Aside0.mk H
      clear H
      go_wp2
      go_meet
      case rel => exact ⟨_, (decide ((a1.size : Int) > 500)), (by first | rfl | (simp; done) | (simp [*]; done)), H', ⟨by first | omega | exact Nat.le_refl _⟩, ⟨by repeat (first | (with_reducible first | exact HB.out | apply below_alloc | apply pw_below_drewN | apply below_drew1) | exact HB.out)⟩⟩
  case rest =>
    clear HC5
    try clear c2
    try clear p2
    try clear c7
    try clear c7b0
    try clear c7b1
    obtain ⟨kq, x17_4, rfl, HA, HJ4, HB⟩ := hcut
    cases kq with
    | zero => exact absurd HA.out (by simp [incipitlaw03_ClassBlanks.j0])
    | succ kj4 =>
      have H := HA.out
      clear HA
      simp only [incipitlaw03_ClassBlanks.j0] at H
      by_cases c8 : x17_4 = true
      · subst c8
        have H1 : (some t286) = some r := by rw [if_pos rfl] at H; exact H
        clear H
        have H := H1
        clear H1
        obtain rfl := Option.some.inj H
        go_wp2
        go_ret
        exact ⟨by first | rfl | (simp [errW_none, errW_some] <;> rfl) | (simp [*, errW_none, errW_some] <;> rfl), by repeat (first | (with_reducible first | exact HB.out | apply below_alloc | apply pw_below_drewN | apply below_drew1) | exact HB.out)⟩
      · replace c8 := Bool.eq_false_iff.mpr c8
        subst c8
        have H1 : ((some (([(⟨#[32]⟩ : ByteArray), (⟨#[9]⟩ : ByteArray), (⟨#[10, 32, 13]⟩ : ByteArray), (⟨#[11, 12, 32, 32]⟩ : ByteArray)] : List ByteArray) : List ByteArray)).bind fun y287 => (if 0 ≤ (Go.bits .and .i64 a2 3) then (if (Go.bits .and .i64 a2 3) < (y287.length : Int) then (if t286 = true then (if (rdOf ByteArray.empty y287 (Go.bits .and .i64 a2 3)).size + a0.size ≤ 9223372036854775807 then (if ((rdOf ByteArray.empty y287 (Go.bits .and .i64 a2 3)) ++ a0).size + (rdOf ByteArray.empty y287 (Go.bits .and .i64 a2 3)).size ≤ 9223372036854775807 then (if (((rdOf ByteArray.empty y287 (Go.bits .and .i64 a2 3)) ++ a0) ++ (rdOf ByteArray.empty y287 (Go.bits .and .i64 a2 3))).size + a1.size ≤ 9223372036854775807 then (if ((((rdOf ByteArray.empty y287 (Go.bits .and .i64 a2 3)) ++ a0) ++ (rdOf ByteArray.empty y287 (Go.bits .and .i64 a2 3))) ++ a1).size + (rdOf ByteArray.empty y287 (Go.bits .and .i64 a2 3)).size ≤ 9223372036854775807 then ((class_Label.f (((((rdOf ByteArray.empty y287 (Go.bits .and .i64 a2 3)) ++ a0) ++ (rdOf ByteArray.empty y287 (Go.bits .and .i64 a2 3))) ++ a1) ++ (rdOf ByteArray.empty y287 (Go.bits .and .i64 a2 3)))).bind fun t291 => (if a0.size + 1 ≤ 9223372036854775807 then (if (a0 ++ (⟨#[32]⟩ : ByteArray)).size + a1.size ≤ 9223372036854775807 then ((class_Label.f ((a0 ++ (⟨#[32]⟩ : ByteArray)) ++ a1)).bind fun t292 => (some (t291.toList == t292.toList))) else (none)) else (none))) else (none)) else (none)) else (none)) else (none)) else (none)) else (none)) else (none))) = some r := by rw [if_neg (show ¬ (false = true) by decide)] at H; exact H
        clear H
        have H := H1
        clear H1
        obtain ⟨y287, hy287⟩ : ∃ y_ : List ByteArray, y_ = (([(⟨#[32]⟩ : ByteArray), (⟨#[9]⟩ : ByteArray), (⟨#[10, 32, 13]⟩ : ByteArray), (⟨#[11, 12, 32, 32]⟩ : ByteArray)] : List ByteArray)) := ⟨_, rfl⟩
        replace H : (if 0 ≤ (Go.bits .and .i64 a2 3) then (if (Go.bits .and .i64 a2 3) < (y287.length : Int) then (if t286 = true then (if (rdOf ByteArray.empty y287 (Go.bits .and .i64 a2 3)).size + a0.size ≤ 9223372036854775807 then (if ((rdOf ByteArray.empty y287 (Go.bits .and .i64 a2 3)) ++ a0).size + (rdOf ByteArray.empty y287 (Go.bits .and .i64 a2 3)).size ≤ 9223372036854775807 then (if (((rdOf ByteArray.empty y287 (Go.bits .and .i64 a2 3)) ++ a0) ++ (rdOf ByteArray.empty y287 (Go.bits .and .i64 a2 3))).size + a1.size ≤ 9223372036854775807 then (if ((((rdOf ByteArray.empty y287 (Go.bits .and .i64 a2 3)) ++ a0) ++ (rdOf ByteArray.empty y287 (Go.bits .and .i64 a2 3))) ++ a1).size + (rdOf ByteArray.empty y287 (Go.bits .and .i64 a2 3)).size ≤ 9223372036854775807 then ((class_Label.f (((((rdOf ByteArray.empty y287 (Go.bits .and .i64 a2 3)) ++ a0) ++ (rdOf ByteArray.empty y287 (Go.bits .and .i64 a2 3))) ++ a1) ++ (rdOf ByteArray.empty y287 (Go.bits .and .i64 a2 3)))).bind fun t291 => (if a0.size + 1 ≤ 9223372036854775807 then (if (a0 ++ (⟨#[32]⟩ : ByteArray)).size + a1.size ≤ 9223372036854775807 then ((class_Label.f ((a0 ++ (⟨#[32]⟩ : ByteArray)) ++ a1)).bind fun t292 => (some (t291.toList == t292.toList))) else (none)) else (none))) else (none)) else (none)) else (none)) else (none)) else (none)) else (none)) else (none)) = some r := by first | (rw [hy287]; with_reducible exact H) | (have H2_ := (Option.bind_some _ _).symm.trans H; rw [hy287]; with_reducible exact H2_) | (have H2_ := (Option.bind_some _ _).symm.trans H; with_reducible exact H2_) | with_reducible exact H | (rw [hy287]; exact H) | exact H
        have Ny287 := Aside0.mk hy287
        clear hy287
        by_cases c9 : 0 ≤ (Go.bits .and .i64 a2 3)
        · rw [if_pos c9] at H
          have c9b0 : decide (0 ≤ (Go.bits .and .i64 a2 3)) = true := decide_eq_true c9
          clear c9
          by_cases c10 : (Go.bits .and .i64 a2 3) < (y287.length : Int)
          · rw [if_pos c10] at H
            have c10b0 : decide ((Go.bits .and .i64 a2 3) < (y287.length : Int)) = true := decide_eq_true c10
            clear c10
            by_cases c11 : t286 = true
            · subst c11
              have H1 : (if (rdOf ByteArray.empty y287 (Go.bits .and .i64 a2 3)).size + a0.size ≤ 9223372036854775807 then (if ((rdOf ByteArray.empty y287 (Go.bits .and .i64 a2 3)) ++ a0).size + (rdOf ByteArray.empty y287 (Go.bits .and .i64 a2 3)).size ≤ 9223372036854775807 then (if (((rdOf ByteArray.empty y287 (Go.bits .and .i64 a2 3)) ++ a0) ++ (rdOf ByteArray.empty y287 (Go.bits .and .i64 a2 3))).size + a1.size ≤ 9223372036854775807 then (if ((((rdOf ByteArray.empty y287 (Go.bits .and .i64 a2 3)) ++ a0) ++ (rdOf ByteArray.empty y287 (Go.bits .and .i64 a2 3))) ++ a1).size + (rdOf ByteArray.empty y287 (Go.bits .and .i64 a2 3)).size ≤ 9223372036854775807 then ((class_Label.f (((((rdOf ByteArray.empty y287 (Go.bits .and .i64 a2 3)) ++ a0) ++ (rdOf ByteArray.empty y287 (Go.bits .and .i64 a2 3))) ++ a1) ++ (rdOf ByteArray.empty y287 (Go.bits .and .i64 a2 3)))).bind fun t291 => (if a0.size + 1 ≤ 9223372036854775807 then (if (a0 ++ (⟨#[32]⟩ : ByteArray)).size + a1.size ≤ 9223372036854775807 then ((class_Label.f ((a0 ++ (⟨#[32]⟩ : ByteArray)) ++ a1)).bind fun t292 => (some (t291.toList == t292.toList))) else (none)) else (none))) else (none)) else (none)) else (none)) else (none)) = some r := by rw [if_pos rfl] at H; exact H
              clear H
              have H := H1
              clear H1
              by_cases c12 : (rdOf ByteArray.empty y287 (Go.bits .and .i64 a2 3)).size + a0.size ≤ 9223372036854775807
              · rw [if_pos c12] at H
                have c12b0 := eq_true c12
                have c12b1 : decide ((rdOf ByteArray.empty y287 (Go.bits .and .i64 a2 3)).size + a0.size ≤ 9223372036854775807) = true := decide_eq_true c12
                try have c12b2 : (9223372036854775807 < (rdOf ByteArray.empty y287 (Go.bits .and .i64 a2 3)).size + a0.size) = False := eq_false (Nat.not_lt.2 c12)
                by_cases c13 : ((rdOf ByteArray.empty y287 (Go.bits .and .i64 a2 3)) ++ a0).size + (rdOf ByteArray.empty y287 (Go.bits .and .i64 a2 3)).size ≤ 9223372036854775807
                · rw [if_pos c13] at H
                  have c13b0 := eq_true c13
                  have c13b1 : decide (((rdOf ByteArray.empty y287 (Go.bits .and .i64 a2 3)) ++ a0).size + (rdOf ByteArray.empty y287 (Go.bits .and .i64 a2 3)).size ≤ 9223372036854775807) = true := decide_eq_true c13
                  try have c13b2 : (9223372036854775807 < ((rdOf ByteArray.empty y287 (Go.bits .and .i64 a2 3)) ++ a0).size + (rdOf ByteArray.empty y287 (Go.bits .and .i64 a2 3)).size) = False := eq_false (Nat.not_lt.2 c13)
                  by_cases c14 : (((rdOf ByteArray.empty y287 (Go.bits .and .i64 a2 3)) ++ a0) ++ (rdOf ByteArray.empty y287 (Go.bits .and .i64 a2 3))).size + a1.size ≤ 9223372036854775807
                  · rw [if_pos c14] at H
                    have c14b0 := eq_true c14
                    have c14b1 : decide ((((rdOf ByteArray.empty y287 (Go.bits .and .i64 a2 3)) ++ a0) ++ (rdOf ByteArray.empty y287 (Go.bits .and .i64 a2 3))).size + a1.size ≤ 9223372036854775807) = true := decide_eq_true c14
                    try have c14b2 : (9223372036854775807 < (((rdOf ByteArray.empty y287 (Go.bits .and .i64 a2 3)) ++ a0) ++ (rdOf ByteArray.empty y287 (Go.bits .and .i64 a2 3))).size + a1.size) = False := eq_false (Nat.not_lt.2 c14)
                    by_cases c15 : ((((rdOf ByteArray.empty y287 (Go.bits .and .i64 a2 3)) ++ a0) ++ (rdOf ByteArray.empty y287 (Go.bits .and .i64 a2 3))) ++ a1).size + (rdOf ByteArray.empty y287 (Go.bits .and .i64 a2 3)).size ≤ 9223372036854775807
                    · rw [if_pos c15] at H
                      have c15b0 := eq_true c15
                      have c15b1 : decide (((((rdOf ByteArray.empty y287 (Go.bits .and .i64 a2 3)) ++ a0) ++ (rdOf ByteArray.empty y287 (Go.bits .and .i64 a2 3))) ++ a1).size + (rdOf ByteArray.empty y287 (Go.bits .and .i64 a2 3)).size ≤ 9223372036854775807) = true := decide_eq_true c15
                      try have c15b2 : (9223372036854775807 < ((((rdOf ByteArray.empty y287 (Go.bits .and .i64 a2 3)) ++ a0) ++ (rdOf ByteArray.empty y287 (Go.bits .and .i64 a2 3))) ++ a1).size + (rdOf ByteArray.empty y287 (Go.bits .and .i64 a2 3)).size) = False := eq_false (Nat.not_lt.2 c15)
                      replace H := Option.bind_eq_some_iff.mp H
                      obtain ⟨t291, A160, H⟩ := H
                      replace H : (if a0.size + 1 ≤ 9223372036854775807 then (if (a0 ++ (⟨#[32]⟩ : ByteArray)).size + a1.size ≤ 9223372036854775807 then ((class_Label.f ((a0 ++ (⟨#[32]⟩ : ByteArray)) ++ a1)).bind fun t292 => (some (t291.toList == t292.toList))) else (none)) else (none)) = some r := H
                      have A16 := Aside0.mk A160
                      clear A160
                      by_cases c17 : a0.size + 1 ≤ 9223372036854775807
                      · rw [if_pos c17] at H
                        have c17b0 := eq_true c17
                        have c17b1 : decide (a0.size + 1 ≤ 9223372036854775807) = true := decide_eq_true c17
                        try have c17b2 : (9223372036854775807 < a0.size + 1) = False := eq_false (Nat.not_lt.2 c17)
                        by_cases c18 : (a0 ++ (⟨#[32]⟩ : ByteArray)).size + a1.size ≤ 9223372036854775807
                        · rw [if_pos c18] at H
                          have c18b0 := eq_true c18
                          have c18b1 : decide ((a0 ++ (⟨#[32]⟩ : ByteArray)).size + a1.size ≤ 9223372036854775807) = true := decide_eq_true c18
                          try have c18b2 : (9223372036854775807 < (a0 ++ (⟨#[32]⟩ : ByteArray)).size + a1.size) = False := eq_false (Nat.not_lt.2 c18)
                          replace H := Option.bind_eq_some_iff.mp H
                          obtain ⟨t292, A190, H⟩ := H
                          replace H : (some (t291.toList == t292.toList)) = some r := H
                          have A19 := Aside0.mk A190
                          clear A190
                          obtain rfl := Option.some.inj H
                          go_wp2_with (first | ((with_reducible refine gate_dst (N := 19) rfl ?_); (try (refine gate_guard (by rfl) ?_; dsimp only)); refine Kd.R_lit Kd.string _ 9 ?hg (N := 19) ?hd (xs := ([(⟨#[32]⟩ : ByteArray), (⟨#[9]⟩ : ByteArray), (⟨#[10, 32, 13]⟩ : ByteArray), (⟨#[11, 12, 32, 32]⟩ : ByteArray)] : List ByteArray)) (inner := [.string (⟨#[32]⟩ : ByteArray), .string (⟨#[9]⟩ : ByteArray), .string (⟨#[10, 32, 13]⟩ : ByteArray), .string (⟨#[11, 12, 32, 32]⟩ : ByteArray)]) (ok := fun _ => True) (okp := fun _ => True) ?hr ?hp (fun _ hk => hk) trivial (Below.refl _ _) (Nat.le_refl _) (by simp) ?_; (case hd => rfl); (case hg => rfl); (case hr => first | (go_simp; done) | (go_simp; rfl)); (case hp => exact (Reps.one (show Kd.M Kd.string _ _ _ (⟨#[32]⟩ : ByteArray) [.string (⟨#[32]⟩ : ByteArray)] from rfl) (Reps.one (show Kd.M Kd.string _ _ _ (⟨#[9]⟩ : ByteArray) [.string (⟨#[9]⟩ : ByteArray)] from rfl) (Reps.one (show Kd.M Kd.string _ _ _ (⟨#[10, 32, 13]⟩ : ByteArray) [.string (⟨#[10, 32, 13]⟩ : ByteArray)] from rfl) (Reps.one (show Kd.M Kd.string _ _ _ (⟨#[11, 12, 32, 32]⟩ : ByteArray) [.string (⟨#[11, 12, 32, 32]⟩ : ByteArray)] from rfl) (Reps.none _ _)))))); intro v288 w20 ho21 hb hg_ hnew_; clear hg_ hnew_; (first | rw [← Ny287.out] at ho21 | (simp only [Int.reduceToNat] at ho21; rw [← Ny287.out] at ho21)); have n0_ := Aside0.mk (Kd.R_lower ho21 (below_size (by repeat (first | (with_reducible first | exact HB.out | apply below_alloc | apply pw_below_drewN | apply below_drew1) | exact HB.out)))); have n1_ := Aside0.mk (below_step (by repeat (first | (with_reducible first | exact HB.out | apply below_alloc | apply pw_below_drewN | apply below_drew1) | exact HB.out)) hb); clear HB; have HO289 := n0_; have HB := n1_; clear n0_ n1_; clear hb ho21; obtain ⟨Ao22, co22, eo22⟩ := Kd.R_slice HO289.out; subst eo22; have p290 : 0 ≤ ((Go.bits .and .i64 a2 3) : Int) := of_decide_eq_true (by first | (with_reducible assumption) | assumption); have q290 : (Go.bits .and .i64 a2 3) < (y287.length : Int) := of_decide_eq_true (by first | (with_reducible assumption) | assumption); obtain ⟨ad290, e290, hx290_0⟩ := Kd.at_string (Kd.R_reads' HO289.out).2.2 (Go.bits .and .i64 a2 3) p290 q290; cases e290; replace p290 := eq_true p290; replace q290 := eq_true q290) | (go_at_call 33; (with_reducible refine (class_Label.calls (((((rdOf ByteArray.empty y287 (Go.bits .and .i64 a2 3)) ++ a0) ++ (rdOf ByteArray.empty y287 (Go.bits .and .i64 a2 3))) ++ a1) ++ (rdOf ByteArray.empty y287 (Go.bits .and .i64 a2 3))) t291 _ A16.out (Tabs.below HT.out (by repeat (first | (with_reducible first | exact HB.out | apply below_alloc | apply pw_below_drewN | apply below_drew1) | exact HB.out)))).mono ?_); rintro e w23 ⟨rfl, hb⟩; have n0_ := Aside0.mk (Kd.R_below (by (with_reducible repeat (first | apply Kd.R_alloc | apply Kd.R_drewN | apply Kd.R_drew)); exact HO289.out) hb); have n1_ := Aside0.mk (below_step (by repeat (first | (with_reducible first | exact HB.out | apply below_alloc | apply pw_below_drewN | apply below_drew1) | exact HB.out)) hb); clear HO289; clear HB; have HO289 := n0_; have HB := n1_; clear n0_ n1_; (try clear hb); (try clear hb2); (try clear hk); (try clear hi)) | (go_at_call 33; (with_reducible refine (class_Label.calls ((a0 ++ (⟨#[32]⟩ : ByteArray)) ++ a1) t292 _ A19.out (Tabs.below HT.out (by repeat (first | (with_reducible first | exact HB.out | apply below_alloc | apply pw_below_drewN | apply below_drew1) | exact HB.out)))).mono ?_); rintro e w24 ⟨rfl, hb⟩; have n0_ := Aside0.mk (Kd.R_below (by (with_reducible repeat (first | apply Kd.R_alloc | apply Kd.R_drewN | apply Kd.R_drew)); exact HO289.out) hb); have n1_ := Aside0.mk (below_step (by repeat (first | (with_reducible first | exact HB.out | apply below_alloc | apply pw_below_drewN | apply below_drew1) | exact HB.out)) hb); clear HO289; clear HB; have HO289 := n0_; have HB := n1_; clear n0_ n1_; (try clear hb); (try clear hb2); (try clear hk); (try clear hi)))
                          go_ret
                          exact ⟨by first | rfl | (simp [errW_none, errW_some] <;> rfl) | (simp [*, errW_none, errW_some] <;> rfl), by repeat (first | (with_reducible first | exact HB.out | apply below_alloc | apply pw_below_drewN | apply below_drew1) | exact HB.out)⟩
                        · rw [if_neg c18] at H
                          exact absurd H (by simp)
                      · rw [if_neg c17] at H
                        exact absurd H (by simp)
                    · rw [if_neg c15] at H
                      exact absurd H (by simp)
                  · rw [if_neg c14] at H
                    exact absurd H (by simp)
                · rw [if_neg c13] at H
                  exact absurd H (by simp)
              · rw [if_neg c12] at H
                exact absurd H (by simp)
            · replace c11 := Bool.eq_false_iff.mpr c11
              subst c11
              have H1 : (none) = some r := by rw [if_neg (show ¬ (false = true) by decide)] at H; exact H
              clear H
              have H := H1
              clear H1
              exact absurd H (by simp)
          · rw [if_neg c10] at H
            exact absurd H (by simp)
        · rw [if_neg c9] at H
          exact absurd H (by simp)

/-- THE ONE PURE STATEMENT of incipitlaw03_ClassBlanks: yours. -/
def incipitlaw03_ClassBlanks.Pure : Prop := ∀ (a0 : ByteArray) (a1 : ByteArray) (a2 : Int), a0.size ≤ 140737488351232 → a1.size ≤ 140737488351232 → (Lit.int .i64 a2).wf = true → ∃ k, incipitlaw03_ClassBlanks.f k a0 a1 a2 = some true
theorem incipitlaw03_ClassBlanks.walk (P : incipitlaw03_ClassBlanks.Pure) (a0 : ByteArray) (a1 : ByteArray) (a2 : Int) (w : World) (w0 : a0.size ≤ 140737488351232) (w1 : a1.size ≤ 140737488351232) (w2 : (Lit.int .i64 a2).wf = true) (hT : Tabs w) :
    Calls Tryd.prog 8 #[.string a0, .string a1, .int .i64 a2] w fun e w' => e = .returned (.bool true) ∧ Below w.heap.size w w' := by
  have HT := Aside0.mk hT
  clear hT
  obtain ⟨k, h⟩ := P a0 a1 a2 w0 w1 w2
  refine (incipitlaw03_ClassBlanks.calls k a0 a1 a2 true w h HT.out).mono ?_
  rintro e w' ⟨rfl, hd⟩
  exact ⟨rfl, hd⟩

end Go.Proofs.YtbgbmphjjdiaeaaDoor.P
