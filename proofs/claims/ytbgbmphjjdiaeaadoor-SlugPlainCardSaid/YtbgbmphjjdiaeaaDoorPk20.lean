/- Functions of the seat as plain Lean functions, and proofs that the Go code comes to them; laid by wip/handprint.py over the kit's printer. -/
import Derived.Test.YtbgbmphjjdiaeaaDoorPk0
import Derived.Test.YtbgbmphjjdiaeaaDoorClean
import Derived.Test.YtbgbmphjjdiaeaaDoorForms19
import Derived.Test.YtbgbmphjjdiaeaaDoorPk17
namespace Go.Proofs.YtbgbmphjjdiaeaaDoor.P
open Go.RowKit Go.Proofs.YtbgbmphjjdiaeaaDoorW.PrintWords Go.Proofs.YtbgbmphjjdiaeaaDoorW.PrintLast Go.Proofs.YtbgbmphjjdiaeaaDoorW.PrintMore
attribute [local go_sem] max2_int min2_int max_two min_two max_three min_three max_four min_four   -- for this text's walks alone
set_option linter.unusedVariables false
set_option linter.unusedSimpArgs false

/-! ### incipitlaw19_SlugPlain: function 13 -/
mutual
def incipitlaw19_SlugPlain.j0 : Nat → ByteArray → ByteArray → Int → Bool → Bool → Option (Bool)
  | 0, _, _, _, _, _ => none
  | k + 1, x0, x1, x2, x7, x26 => if x26 = true then (some x7) else (incipitlaw19_SlugPlain.l0 k x0 x1 x2 x7 0)
def incipitlaw19_SlugPlain.l0 : Nat → ByteArray → ByteArray → Int → Bool → Int → Option (Bool)
  | 0, _, _, _, _, _ => none
  | k + 1, x0, x1, x2, x7, x8 => if x0.size + x1.size ≤ 9223372036854775807 then (if x8 < ((x0 ++ x1).size : Int) then (if 0 ≤ x8 then (if (bt (x0 ++ x1) x8) < 97 then (if (bt (x0 ++ x1) x8) < 48 then (if (bt (x0 ++ x1) x8) = 45 then (incipitlaw19_SlugPlain.l0 k x0 x1 x2 x7 (wrap64 (x8 + 1))) else (some x7)) else (if (bt (x0 ++ x1) x8) > 57 then (if (bt (x0 ++ x1) x8) = 45 then (incipitlaw19_SlugPlain.l0 k x0 x1 x2 x7 (wrap64 (x8 + 1))) else (some x7)) else (incipitlaw19_SlugPlain.l0 k x0 x1 x2 x7 (wrap64 (x8 + 1))))) else (if (bt (x0 ++ x1) x8) > 122 then (if (bt (x0 ++ x1) x8) < 48 then (if (bt (x0 ++ x1) x8) = 45 then (incipitlaw19_SlugPlain.l0 k x0 x1 x2 x7 (wrap64 (x8 + 1))) else (some x7)) else (if (bt (x0 ++ x1) x8) > 57 then (if (bt (x0 ++ x1) x8) = 45 then (incipitlaw19_SlugPlain.l0 k x0 x1 x2 x7 (wrap64 (x8 + 1))) else (some x7)) else (incipitlaw19_SlugPlain.l0 k x0 x1 x2 x7 (wrap64 (x8 + 1))))) else (incipitlaw19_SlugPlain.l0 k x0 x1 x2 x7 (wrap64 (x8 + 1))))) else (none)) else (if 0 < (x0.size : Int) then (if (bt x0 0) = 102 then (some x7) else (if 0 ≤ (Go.bits .and .i64 x2 7) then (if (Go.bits .and .i64 x2 7) ≤ 7 then (if x7 = true then ((slug_Slug.f x0).bind fun t385 => (if t385.toList = x0.toList then (if x0.size + ((⟨#[32, 32, 32, 32, 32, 32, 32]⟩ : ByteArray).extract 0 ((Go.bits .and .i64 x2 7) : Int).toNat).size ≤ 9223372036854775807 then (if (x0 ++ ((⟨#[32, 32, 32, 32, 32, 32, 32]⟩ : ByteArray).extract 0 ((Go.bits .and .i64 x2 7) : Int).toNat)).size + x1.size ≤ 9223372036854775807 then ((slug_Slug.f ((x0 ++ ((⟨#[32, 32, 32, 32, 32, 32, 32]⟩ : ByteArray).extract 0 ((Go.bits .and .i64 x2 7) : Int).toNat)) ++ x1)).bind fun t386 => (if x0.size + ((⟨#[45, 45, 45, 45, 45, 45, 45]⟩ : ByteArray).extract 0 ((Go.bits .and .i64 x2 7) : Int).toNat).size ≤ 9223372036854775807 then (if (x0 ++ ((⟨#[45, 45, 45, 45, 45, 45, 45]⟩ : ByteArray).extract 0 ((Go.bits .and .i64 x2 7) : Int).toNat)).size + x1.size ≤ 9223372036854775807 then (if t386.toList = ((x0 ++ ((⟨#[45, 45, 45, 45, 45, 45, 45]⟩ : ByteArray).extract 0 ((Go.bits .and .i64 x2 7) : Int).toNat)) ++ x1).toList then (if 2 + x0.size ≤ 9223372036854775807 then ((slug_Slug.f ((⟨#[102, 110]⟩ : ByteArray) ++ x0)).bind fun t387 => (if 4 + x0.size ≤ 9223372036854775807 then (if t387.toList = ((⟨#[115, 45, 102, 110]⟩ : ByteArray) ++ x0).toList then (if 1 + x0.size ≤ 9223372036854775807 then (if ((⟨#[33]⟩ : ByteArray) ++ x0).size + 1 ≤ 9223372036854775807 then ((slug_Slug.f (((⟨#[33]⟩ : ByteArray) ++ x0) ++ (⟨#[63]⟩ : ByteArray))).bind fun t388 => (some (t388.toList == x0.toList))) else (none)) else (none)) else (none)) else (none))) else (none)) else (none)) else (none)) else (none))) else (none)) else (none)) else (none))) else (none)) else (none)) else (none))) else (none))) else (none)
end
def incipitlaw19_SlugPlain.f (k : Nat) (a0 : ByteArray) (a1 : ByteArray) (a2 : Int) : Option (Bool) := (incipitlaw19_awake.f k).bind fun t384 => (if a0.toList = ([] : List UInt8) then (incipitlaw19_SlugPlain.j0 k a0 a1 a2 t384 true) else (if a1.toList = ([] : List UInt8) then (incipitlaw19_SlugPlain.j0 k a0 a1 a2 t384 true) else (incipitlaw19_SlugPlain.j0 k a0 a1 a2 t384 (decide ((wrap64 ((a0.size : Int) + (a1.size : Int))) > 300)))))
theorem incipitlaw19_SlugPlain.mono_l : ∀ k, (∀ y0 y1 y2 y3 y4, LeO (incipitlaw19_SlugPlain.j0 k y0 y1 y2 y3 y4) (incipitlaw19_SlugPlain.j0 (k + 1) y0 y1 y2 y3 y4)) ∧ (∀ y0 y1 y2 y3 y4, LeO (incipitlaw19_SlugPlain.l0 k y0 y1 y2 y3 y4) (incipitlaw19_SlugPlain.l0 (k + 1) y0 y1 y2 y3 y4))
  | 0 => ⟨fun _ _ _ _ _ r h => by simp [incipitlaw19_SlugPlain.j0] at h, fun _ _ _ _ _ r h => by simp [incipitlaw19_SlugPlain.l0] at h⟩
  | k + 1 => by
    obtain ⟨ih0, ih1⟩ := incipitlaw19_SlugPlain.mono_l k
    refine ⟨?_, ?_⟩
    · intro y0 y1 y2 y3 y4
      unfold incipitlaw19_SlugPlain.j0
      repeat' first
      | (with_reducible exact ih0 _ _ _ _ _)
      | (with_reducible exact ih1 _ _ _ _ _)
      | (with_reducible exact incipitlaw19_awake.mono _)
      | (with_reducible exact LeO.refl _)
      | (with_reducible exact LeO.none _)
      | (with_reducible refine LeO.ite ?_ ?_)
      | (with_reducible refine LeO.bind ?_ (fun _ => ?_))
      | exact ih0 _ _ _ _ _
      | exact ih1 _ _ _ _ _
      | exact incipitlaw19_awake.mono _
      | exact LeO.none _
      | refine LeO.ite ?_ ?_
      | refine LeO.bind ?_ (fun _ => ?_)
    · intro y0 y1 y2 y3 y4
      unfold incipitlaw19_SlugPlain.l0
      repeat' first
      | (with_reducible exact ih0 _ _ _ _ _)
      | (with_reducible exact ih1 _ _ _ _ _)
      | (with_reducible exact incipitlaw19_awake.mono _)
      | (with_reducible exact LeO.refl _)
      | (with_reducible exact LeO.none _)
      | (with_reducible refine LeO.ite ?_ ?_)
      | (with_reducible refine LeO.bind ?_ (fun _ => ?_))
      | exact ih0 _ _ _ _ _
      | exact ih1 _ _ _ _ _
      | exact incipitlaw19_awake.mono _
      | exact LeO.none _
      | refine LeO.ite ?_ ?_
      | refine LeO.bind ?_ (fun _ => ?_)
theorem incipitlaw19_SlugPlain.mono : ∀ a0 a1 a2 k, LeO (incipitlaw19_SlugPlain.f k a0 a1 a2) (incipitlaw19_SlugPlain.f (k + 1) a0 a1 a2) := by
  intro a0 a1 a2 k
  obtain ⟨ih0, ih1⟩ := incipitlaw19_SlugPlain.mono_l k
  unfold incipitlaw19_SlugPlain.f
  repeat' first
      | (with_reducible exact ih0 _ _ _ _ _)
      | (with_reducible exact ih1 _ _ _ _ _)
      | (with_reducible exact incipitlaw19_awake.mono _)
      | (with_reducible exact LeO.refl _)
      | (with_reducible exact LeO.none _)
      | (with_reducible refine LeO.ite ?_ ?_)
      | (with_reducible refine LeO.bind ?_ (fun _ => ?_))
      | exact ih0 _ _ _ _ _
      | exact ih1 _ _ _ _ _
      | exact incipitlaw19_awake.mono _
      | exact LeO.none _
      | refine LeO.ite ?_ ?_
      | refine LeO.bind ?_ (fun _ => ?_)
set_option maxHeartbeats 8000000 in
set_option maxRecDepth 100000 in
theorem incipitlaw19_SlugPlain.calls (k : Nat) (a0 : ByteArray) (a1 : ByteArray) (a2 : Int) (r : Bool) (w : World) (h : incipitlaw19_SlugPlain.f k a0 a1 a2 = some r) (hT : Tabs w) :
    Calls Tryd.prog 13 #[.string a0, .string a1, .int .i64 a2] w fun e w' => e = .returned (.bool r) ∧ Below w.heap.size w w' := by
  have HT := Aside0.mk hT
  clear hT
  have HB := Aside0.mk (Below.refl w.heap.size w)
  have H : ((incipitlaw19_awake.f k).bind fun t384 => (if a0.toList = ([] : List UInt8) then (incipitlaw19_SlugPlain.j0 k a0 a1 a2 t384 true) else (if a1.toList = ([] : List UInt8) then (incipitlaw19_SlugPlain.j0 k a0 a1 a2 t384 true) else (incipitlaw19_SlugPlain.j0 k a0 a1 a2 t384 (decide ((wrap64 ((a0.size : Int) + (a1.size : Int))) > 300)))))) = some r := h
  clear h
  replace H := Option.bind_eq_some_iff.mp H
  obtain ⟨t384, A40, H⟩ := H
  replace H : (if a0.toList = ([] : List UInt8) then (incipitlaw19_SlugPlain.j0 k a0 a1 a2 t384 true) else (if a1.toList = ([] : List UInt8) then (incipitlaw19_SlugPlain.j0 k a0 a1 a2 t384 true) else (incipitlaw19_SlugPlain.j0 k a0 a1 a2 t384 (decide ((wrap64 ((a0.size : Int) + (a1.size : Int))) > 300))))) = some r := H
  have A4 := Aside0.mk A40
  clear A40
  have HC5 := Aside0.mk H
  clear H
  go_enter Tryd.func13, Tryd.ntmps13
  go_upto_region 2 with (first | ((with_reducible refine gate_callee (f := 36) rfl ?_); refine goesL_ (some 12) rfl rfl Tryd.func36 (by kernel_rfl) rfl #[] rfl (by (try simp only [List.map_toArray, List.map_cons, List.map_nil]); first | done | rfl | (simp only [List.length_drop, List.length_take]; rfl)) ?_; (with_reducible refine (incipitlaw19_awake.calls k  t384 _ A4.out (Tabs.below HT.out (by repeat (first | (with_reducible first | exact HB.out | apply below_alloc | apply pw_below_drewN | apply below_drew1) | exact HB.out)))).mono ?_); rintro e w6 ⟨rfl, hb⟩; refine ⟨_, rfl, ?_⟩; have n0_ := Aside0.mk (below_step (by repeat (first | (with_reducible first | exact HB.out | apply below_alloc | apply pw_below_drewN | apply below_drew1) | exact HB.out)) hb); clear HB; have HB := n0_; clear n0_; (try clear hb); (try clear hb2); (try clear hk); (try clear hi)))
  (try simp only [Act.put, List.setIfInBounds_toArray, List.set_cons_zero, List.set_cons_succ])
  go_cut [26] (fun v26 wc => ∃ (kq : Nat) (x26_4 : Bool), v26 = .bool x26_4 ∧ Aside0 (incipitlaw19_SlugPlain.j0 kq a0 a1 a2 t384 x26_4 = some r) ∧ Aside0 (kq ≤ k) ∧ Aside0 (Below w.heap.size w wc))
  case first =>
    have H := HC5.out
    clear HC5
    by_cases c7 : a0.toList = ([] : List UInt8)
    · rw [if_pos c7] at H
      have c7b0 : (a0.toList == ([] : List UInt8)) = true := beq_iff_eq.mpr c7
      have c7b1 : (a0.toList != ([] : List UInt8)) = false := bne_eq_false_iff_eq.mpr c7
      clear c7
      (first | rw [c7b0] | (simp only [i64_w, i32_w]; rw [c7b0]) | skip)
      have H' := Aside0.mk H
      clear H
      go_wp2
      go_meet
      case rel => exact ⟨_, (true), (by first | rfl | (simp; done) | (simp [*]; done)), H', ⟨by first | omega | exact Nat.le_refl _⟩, ⟨by repeat (first | (with_reducible first | exact HB.out | apply below_alloc | apply pw_below_drewN | apply below_drew1) | exact HB.out)⟩⟩
    · rw [if_neg c7] at H
      have c7b0 : (a0.toList == ([] : List UInt8)) = false := beq_eq_false_iff_ne.mpr c7
      have c7b1 : (a0.toList != ([] : List UInt8)) = true := bne_iff_ne.mpr c7
      (first | rw [c7b0] | (simp only [i64_w, i32_w]; rw [c7b0]) | skip)
      by_cases c8 : a1.toList = ([] : List UInt8)
      · rw [if_pos c8] at H
        have c8b0 : (a1.toList == ([] : List UInt8)) = true := beq_iff_eq.mpr c8
        have c8b1 : (a1.toList != ([] : List UInt8)) = false := bne_eq_false_iff_eq.mpr c8
        clear c8
        have H' := Aside0.mk H
        clear H
        go_wp2
        go_meet
        case rel => exact ⟨_, (true), (by first | rfl | (simp; done) | (simp [*]; done)), H', ⟨by first | omega | exact Nat.le_refl _⟩, ⟨by repeat (first | (with_reducible first | exact HB.out | apply below_alloc | apply pw_below_drewN | apply below_drew1) | exact HB.out)⟩⟩
      · rw [if_neg c8] at H
        have c8b0 : (a1.toList == ([] : List UInt8)) = false := beq_eq_false_iff_ne.mpr c8
        have c8b1 : (a1.toList != ([] : List UInt8)) = true := bne_iff_ne.mpr c8
        have H' := Aside0.mk H
        clear H
        go_wp2
        go_meet
        case rel => exact ⟨_, (decide ((wrap64 ((a0.size : Int) + (a1.size : Int))) > 300)), (by first | rfl | (simp; done) | (simp [*]; done)), H', ⟨by first | omega | exact Nat.le_refl _⟩, ⟨by repeat (first | (with_reducible first | exact HB.out | apply below_alloc | apply pw_below_drewN | apply below_drew1) | exact HB.out)⟩⟩
  case rest =>
    clear HC5
    try clear c1
    try clear p2
    try clear c3
    try clear p6
    try clear c7
    try clear c7b0
    try clear c7b1
    try clear c8
    try clear c8b0
    try clear c8b1
    obtain ⟨kq, x26_4, rfl, HA, HJ4, HB⟩ := hcut
    cases kq with
    | zero => exact absurd HA.out (by simp [incipitlaw19_SlugPlain.j0])
    | succ kj4 =>
      have H := HA.out
      clear HA
      simp only [incipitlaw19_SlugPlain.j0] at H
      by_cases c9 : x26_4 = true
      · subst c9
        have H1 : (some t384) = some r := by rw [if_pos rfl] at H; exact H
        clear H
        have H := H1
        clear H1
        obtain rfl := Option.some.inj H
        go_wp2
        go_ret
        exact ⟨by first | rfl | (simp [errW_none, errW_some] <;> rfl) | (simp [*, errW_none, errW_some] <;> rfl), by repeat (first | (with_reducible first | exact HB.out | apply below_alloc | apply pw_below_drewN | apply below_drew1) | exact HB.out)⟩
      · replace c9 := Bool.eq_false_iff.mpr c9
        subst c9
        have H1 : (incipitlaw19_SlugPlain.l0 kj4 a0 a1 a2 t384 0) = some r := by rw [if_neg (show ¬ (false = true) by decide)] at H; exact H
        clear H
        have H := H1
        clear H1
        have H' := Aside0.mk H
        clear H
        go_wp2
        go_loopg [8] kj4 (fun kq v8 w' => ∃ (x8_2 : Int), v8 = .int .i64 x8_2 ∧ Aside0 (incipitlaw19_SlugPlain.l0 kq a0 a1 a2 t384 x8_2 = some r) ∧ Aside0 (kq ≤ kj4) ∧ Aside0 (Below w.heap.size w w'))
        case atStart => exact ⟨(0), (by first | rfl | (simp; done) | (simp [*]; done)), H', ⟨Nat.le_refl _⟩, ⟨by repeat (first | (with_reducible first | exact HB.out | apply below_alloc | apply pw_below_drewN | apply below_drew1) | exact HB.out)⟩⟩
        case round =>
          clear H'
          try clear c1
          try clear p2
          try clear c3
          try clear p6
          try clear c7
          try clear c7b0
          try clear c7b1
          try clear c8
          try clear c8b0
          try clear c8b1
          try clear c9
          try clear p2
          try clear p6
          obtain ⟨x8_2, rfl, HA, HK2, HB⟩ := hrel
          cases gk with
          | zero => exact absurd HA.out (by simp [incipitlaw19_SlugPlain.l0])
          | succ k2 =>
            have H := HA.out
            clear HA
            simp only [incipitlaw19_SlugPlain.l0] at H
            by_cases c10 : a0.size + a1.size ≤ 9223372036854775807
            · rw [if_pos c10] at H
              have c10b0 := eq_true c10
              have c10b1 : decide (a0.size + a1.size ≤ 9223372036854775807) = true := decide_eq_true c10
              try have c10b2 : (9223372036854775807 < a0.size + a1.size) = False := eq_false (Nat.not_lt.2 c10)
              by_cases c11 : x8_2 < ((a0 ++ a1).size : Int)
              · rw [if_pos c11] at H
                have c11b0 : decide (x8_2 < ((a0 ++ a1).size : Int)) = true := decide_eq_true c11
                have c11s : decide (x8_2 < (a0.size : Int) + (a1.size : Int)) = true := decide_eq_true (by have h_ := c11; rw [ByteArray.size_append] at h_; omega)
                clear c11
                by_cases c12 : 0 ≤ x8_2
                · rw [if_pos c12] at H
                  have c12b0 : decide (0 ≤ x8_2) = true := decide_eq_true c12
                  clear c12
                  by_cases c14 : (bt (a0 ++ a1) x8_2) < 97
                  · rw [if_pos c14] at H
                    have c14b0 : decide ((bt (a0 ++ a1) x8_2) < 97) = true := decide_eq_true c14
                    clear c14
                    by_cases c15 : (bt (a0 ++ a1) x8_2) < 48
                    · rw [if_pos c15] at H
                      have c15b0 : decide ((bt (a0 ++ a1) x8_2) < 48) = true := decide_eq_true c15
                      clear c15
                      by_cases c16 : (bt (a0 ++ a1) x8_2) = 45
                      · rw [if_pos c16] at H
                        have c16b0 : ((bt (a0 ++ a1) x8_2) == 45) = true := beq_iff_eq.mpr c16
                        have c16b1 : ((bt (a0 ++ a1) x8_2) != 45) = false := bne_eq_false_iff_eq.mpr c16
                        clear c16
                        have H' := Aside0.mk H
                        clear H
                        have p13 : 0 ≤ (x8_2 : Int) := of_decide_eq_true (by first | (with_reducible assumption) | assumption)
                        have q13 : x8_2 < ((a0 ++ a1).size : Int) := of_decide_eq_true (by first | (with_reducible assumption) | assumption)
                        have q13s : (x8_2 < (a0.size : Int) + (a1.size : Int)) = True := eq_true (by have h_ := q13; rw [ByteArray.size_append] at h_; omega)
                        have hx13 := bt_at (a0 ++ a1) x8_2
                        replace p13 := eq_true p13
                        replace q13 := eq_true q13
                        go_wp2
                        go_roundg k2
                        case measure => have := HJ4.out; have := HK2.out; omega
                        case rel => exact ⟨(wrap64 (x8_2 + 1)), (by first | rfl | (simp; done) | (simp [*]; done)), H', ⟨by have := HJ4.out; have := HK2.out; omega⟩, ⟨by repeat (first | (with_reducible first | exact HB.out | apply below_alloc | apply pw_below_drewN | apply below_drew1) | exact HB.out)⟩⟩
                      · rw [if_neg c16] at H
                        have c16b0 : ((bt (a0 ++ a1) x8_2) == 45) = false := beq_eq_false_iff_ne.mpr c16
                        have c16b1 : ((bt (a0 ++ a1) x8_2) != 45) = true := bne_iff_ne.mpr c16
                        obtain rfl := Option.some.inj H
                        have p13 : 0 ≤ (x8_2 : Int) := of_decide_eq_true (by first | (with_reducible assumption) | assumption)
                        have q13 : x8_2 < ((a0 ++ a1).size : Int) := of_decide_eq_true (by first | (with_reducible assumption) | assumption)
                        have q13s : (x8_2 < (a0.size : Int) + (a1.size : Int)) = True := eq_true (by have h_ := q13; rw [ByteArray.size_append] at h_; omega)
                        have hx13 := bt_at (a0 ++ a1) x8_2
                        replace p13 := eq_true p13
                        replace q13 := eq_true q13
                        go_wp2
                        go_ret
                        exact ⟨by first | rfl | (simp [errW_none, errW_some] <;> rfl) | (simp [*, errW_none, errW_some] <;> rfl), by repeat (first | (with_reducible first | exact HB.out | apply below_alloc | apply pw_below_drewN | apply below_drew1) | exact HB.out)⟩
                    · rw [if_neg c15] at H
                      have c15b0 : decide ((bt (a0 ++ a1) x8_2) < 48) = false := decide_eq_false c15
                      clear c15
                      by_cases c17 : (bt (a0 ++ a1) x8_2) > 57
                      · rw [if_pos c17] at H
                        have c17b0 : decide (57 < (bt (a0 ++ a1) x8_2)) = true := decide_eq_true c17
                        clear c17
                        by_cases c18 : (bt (a0 ++ a1) x8_2) = 45
                        · rw [if_pos c18] at H
                          have c18b0 : ((bt (a0 ++ a1) x8_2) == 45) = true := beq_iff_eq.mpr c18
                          have c18b1 : ((bt (a0 ++ a1) x8_2) != 45) = false := bne_eq_false_iff_eq.mpr c18
                          clear c18
                          have H' := Aside0.mk H
                          clear H
                          have p13 : 0 ≤ (x8_2 : Int) := of_decide_eq_true (by first | (with_reducible assumption) | assumption)
                          have q13 : x8_2 < ((a0 ++ a1).size : Int) := of_decide_eq_true (by first | (with_reducible assumption) | assumption)
                          have q13s : (x8_2 < (a0.size : Int) + (a1.size : Int)) = True := eq_true (by have h_ := q13; rw [ByteArray.size_append] at h_; omega)
                          have hx13 := bt_at (a0 ++ a1) x8_2
                          replace p13 := eq_true p13
                          replace q13 := eq_true q13
                          go_wp2
                          go_roundg k2
                          case measure => have := HJ4.out; have := HK2.out; omega
                          case rel => exact ⟨(wrap64 (x8_2 + 1)), (by first | rfl | (simp; done) | (simp [*]; done)), H', ⟨by have := HJ4.out; have := HK2.out; omega⟩, ⟨by repeat (first | (with_reducible first | exact HB.out | apply below_alloc | apply pw_below_drewN | apply below_drew1) | exact HB.out)⟩⟩
                        · rw [if_neg c18] at H
                          have c18b0 : ((bt (a0 ++ a1) x8_2) == 45) = false := beq_eq_false_iff_ne.mpr c18
                          have c18b1 : ((bt (a0 ++ a1) x8_2) != 45) = true := bne_iff_ne.mpr c18
                          obtain rfl := Option.some.inj H
                          have p13 : 0 ≤ (x8_2 : Int) := of_decide_eq_true (by first | (with_reducible assumption) | assumption)
                          have q13 : x8_2 < ((a0 ++ a1).size : Int) := of_decide_eq_true (by first | (with_reducible assumption) | assumption)
                          have q13s : (x8_2 < (a0.size : Int) + (a1.size : Int)) = True := eq_true (by have h_ := q13; rw [ByteArray.size_append] at h_; omega)
                          have hx13 := bt_at (a0 ++ a1) x8_2
                          replace p13 := eq_true p13
                          replace q13 := eq_true q13
                          go_wp2
                          go_ret
                          exact ⟨by first | rfl | (simp [errW_none, errW_some] <;> rfl) | (simp [*, errW_none, errW_some] <;> rfl), by repeat (first | (with_reducible first | exact HB.out | apply below_alloc | apply pw_below_drewN | apply below_drew1) | exact HB.out)⟩
                      · rw [if_neg c17] at H
                        have c17b0 : decide (57 < (bt (a0 ++ a1) x8_2)) = false := decide_eq_false c17
                        clear c17
                        have H' := Aside0.mk H
                        clear H
                        have p13 : 0 ≤ (x8_2 : Int) := of_decide_eq_true (by first | (with_reducible assumption) | assumption)
                        have q13 : x8_2 < ((a0 ++ a1).size : Int) := of_decide_eq_true (by first | (with_reducible assumption) | assumption)
                        have q13s : (x8_2 < (a0.size : Int) + (a1.size : Int)) = True := eq_true (by have h_ := q13; rw [ByteArray.size_append] at h_; omega)
                        have hx13 := bt_at (a0 ++ a1) x8_2
                        replace p13 := eq_true p13
                        replace q13 := eq_true q13
                        go_wp2
                        go_roundg k2
                        case measure => have := HJ4.out; have := HK2.out; omega
                        case rel => exact ⟨(wrap64 (x8_2 + 1)), (by first | rfl | (simp; done) | (simp [*]; done)), H', ⟨by have := HJ4.out; have := HK2.out; omega⟩, ⟨by repeat (first | (with_reducible first | exact HB.out | apply below_alloc | apply pw_below_drewN | apply below_drew1) | exact HB.out)⟩⟩
                  · rw [if_neg c14] at H
                    have c14b0 : decide ((bt (a0 ++ a1) x8_2) < 97) = false := decide_eq_false c14
                    clear c14
                    by_cases c19 : (bt (a0 ++ a1) x8_2) > 122
                    · rw [if_pos c19] at H
                      have c19b0 : decide (122 < (bt (a0 ++ a1) x8_2)) = true := decide_eq_true c19
                      clear c19
                      by_cases c20 : (bt (a0 ++ a1) x8_2) < 48
                      · rw [if_pos c20] at H
                        have c20b0 : decide ((bt (a0 ++ a1) x8_2) < 48) = true := decide_eq_true c20
                        clear c20
                        by_cases c21 : (bt (a0 ++ a1) x8_2) = 45
                        · rw [if_pos c21] at H
                          have c21b0 : ((bt (a0 ++ a1) x8_2) == 45) = true := beq_iff_eq.mpr c21
                          have c21b1 : ((bt (a0 ++ a1) x8_2) != 45) = false := bne_eq_false_iff_eq.mpr c21
                          clear c21
                          have H' := Aside0.mk H
                          clear H
                          have p13 : 0 ≤ (x8_2 : Int) := of_decide_eq_true (by first | (with_reducible assumption) | assumption)
                          have q13 : x8_2 < ((a0 ++ a1).size : Int) := of_decide_eq_true (by first | (with_reducible assumption) | assumption)
                          have q13s : (x8_2 < (a0.size : Int) + (a1.size : Int)) = True := eq_true (by have h_ := q13; rw [ByteArray.size_append] at h_; omega)
                          have hx13 := bt_at (a0 ++ a1) x8_2
                          replace p13 := eq_true p13
                          replace q13 := eq_true q13
                          go_wp2
                          go_roundg k2
                          case measure => have := HJ4.out; have := HK2.out; omega
                          case rel => exact ⟨(wrap64 (x8_2 + 1)), (by first | rfl | (simp; done) | (simp [*]; done)), H', ⟨by have := HJ4.out; have := HK2.out; omega⟩, ⟨by repeat (first | (with_reducible first | exact HB.out | apply below_alloc | apply pw_below_drewN | apply below_drew1) | exact HB.out)⟩⟩
                        · rw [if_neg c21] at H
                          have c21b0 : ((bt (a0 ++ a1) x8_2) == 45) = false := beq_eq_false_iff_ne.mpr c21
                          have c21b1 : ((bt (a0 ++ a1) x8_2) != 45) = true := bne_iff_ne.mpr c21
                          obtain rfl := Option.some.inj H
                          have p13 : 0 ≤ (x8_2 : Int) := of_decide_eq_true (by first | (with_reducible assumption) | assumption)
                          have q13 : x8_2 < ((a0 ++ a1).size : Int) := of_decide_eq_true (by first | (with_reducible assumption) | assumption)
                          have q13s : (x8_2 < (a0.size : Int) + (a1.size : Int)) = True := eq_true (by have h_ := q13; rw [ByteArray.size_append] at h_; omega)
                          have hx13 := bt_at (a0 ++ a1) x8_2
                          replace p13 := eq_true p13
                          replace q13 := eq_true q13
                          go_wp2
                          go_ret
                          exact ⟨by first | rfl | (simp [errW_none, errW_some] <;> rfl) | (simp [*, errW_none, errW_some] <;> rfl), by repeat (first | (with_reducible first | exact HB.out | apply below_alloc | apply pw_below_drewN | apply below_drew1) | exact HB.out)⟩
                      · rw [if_neg c20] at H
                        have c20b0 : decide ((bt (a0 ++ a1) x8_2) < 48) = false := decide_eq_false c20
                        clear c20
                        by_cases c22 : (bt (a0 ++ a1) x8_2) > 57
                        · rw [if_pos c22] at H
                          have c22b0 : decide (57 < (bt (a0 ++ a1) x8_2)) = true := decide_eq_true c22
                          clear c22
                          by_cases c23 : (bt (a0 ++ a1) x8_2) = 45
                          · rw [if_pos c23] at H
                            have c23b0 : ((bt (a0 ++ a1) x8_2) == 45) = true := beq_iff_eq.mpr c23
                            have c23b1 : ((bt (a0 ++ a1) x8_2) != 45) = false := bne_eq_false_iff_eq.mpr c23
                            clear c23
                            have H' := Aside0.mk H
                            clear H
                            have p13 : 0 ≤ (x8_2 : Int) := of_decide_eq_true (by first | (with_reducible assumption) | assumption)
                            have q13 : x8_2 < ((a0 ++ a1).size : Int) := of_decide_eq_true (by first | (with_reducible assumption) | assumption)
                            have q13s : (x8_2 < (a0.size : Int) + (a1.size : Int)) = True := eq_true (by have h_ := q13; rw [ByteArray.size_append] at h_; omega)
                            have hx13 := bt_at (a0 ++ a1) x8_2
                            replace p13 := eq_true p13
                            replace q13 := eq_true q13
                            go_wp2
                            go_roundg k2
                            case measure => have := HJ4.out; have := HK2.out; omega
                            case rel => exact ⟨(wrap64 (x8_2 + 1)), (by first | rfl | (simp; done) | (simp [*]; done)), H', ⟨by have := HJ4.out; have := HK2.out; omega⟩, ⟨by repeat (first | (with_reducible first | exact HB.out | apply below_alloc | apply pw_below_drewN | apply below_drew1) | exact HB.out)⟩⟩
                          · rw [if_neg c23] at H
                            have c23b0 : ((bt (a0 ++ a1) x8_2) == 45) = false := beq_eq_false_iff_ne.mpr c23
                            have c23b1 : ((bt (a0 ++ a1) x8_2) != 45) = true := bne_iff_ne.mpr c23
                            obtain rfl := Option.some.inj H
                            have p13 : 0 ≤ (x8_2 : Int) := of_decide_eq_true (by first | (with_reducible assumption) | assumption)
                            have q13 : x8_2 < ((a0 ++ a1).size : Int) := of_decide_eq_true (by first | (with_reducible assumption) | assumption)
                            have q13s : (x8_2 < (a0.size : Int) + (a1.size : Int)) = True := eq_true (by have h_ := q13; rw [ByteArray.size_append] at h_; omega)
                            have hx13 := bt_at (a0 ++ a1) x8_2
                            replace p13 := eq_true p13
                            replace q13 := eq_true q13
                            go_wp2
                            go_ret
                            exact ⟨by first | rfl | (simp [errW_none, errW_some] <;> rfl) | (simp [*, errW_none, errW_some] <;> rfl), by repeat (first | (with_reducible first | exact HB.out | apply below_alloc | apply pw_below_drewN | apply below_drew1) | exact HB.out)⟩
                        · rw [if_neg c22] at H
                          have c22b0 : decide (57 < (bt (a0 ++ a1) x8_2)) = false := decide_eq_false c22
                          clear c22
                          have H' := Aside0.mk H
                          clear H
                          have p13 : 0 ≤ (x8_2 : Int) := of_decide_eq_true (by first | (with_reducible assumption) | assumption)
                          have q13 : x8_2 < ((a0 ++ a1).size : Int) := of_decide_eq_true (by first | (with_reducible assumption) | assumption)
                          have q13s : (x8_2 < (a0.size : Int) + (a1.size : Int)) = True := eq_true (by have h_ := q13; rw [ByteArray.size_append] at h_; omega)
                          have hx13 := bt_at (a0 ++ a1) x8_2
                          replace p13 := eq_true p13
                          replace q13 := eq_true q13
                          go_wp2
                          go_roundg k2
                          case measure => have := HJ4.out; have := HK2.out; omega
                          case rel => exact ⟨(wrap64 (x8_2 + 1)), (by first | rfl | (simp; done) | (simp [*]; done)), H', ⟨by have := HJ4.out; have := HK2.out; omega⟩, ⟨by repeat (first | (with_reducible first | exact HB.out | apply below_alloc | apply pw_below_drewN | apply below_drew1) | exact HB.out)⟩⟩
                    · rw [if_neg c19] at H
                      have c19b0 : decide (122 < (bt (a0 ++ a1) x8_2)) = false := decide_eq_false c19
                      clear c19
                      have H' := Aside0.mk H
                      clear H
                      have p13 : 0 ≤ (x8_2 : Int) := of_decide_eq_true (by first | (with_reducible assumption) | assumption)
                      have q13 : x8_2 < ((a0 ++ a1).size : Int) := of_decide_eq_true (by first | (with_reducible assumption) | assumption)
                      have q13s : (x8_2 < (a0.size : Int) + (a1.size : Int)) = True := eq_true (by have h_ := q13; rw [ByteArray.size_append] at h_; omega)
                      have hx13 := bt_at (a0 ++ a1) x8_2
                      replace p13 := eq_true p13
                      replace q13 := eq_true q13
                      go_wp2
                      go_roundg k2
                      case measure => have := HJ4.out; have := HK2.out; omega
                      case rel => exact ⟨(wrap64 (x8_2 + 1)), (by first | rfl | (simp; done) | (simp [*]; done)), H', ⟨by have := HJ4.out; have := HK2.out; omega⟩, ⟨by repeat (first | (with_reducible first | exact HB.out | apply below_alloc | apply pw_below_drewN | apply below_drew1) | exact HB.out)⟩⟩
                · rw [if_neg c12] at H
                  exact absurd H (by simp)
              · rw [if_neg c11] at H
                have c11b0 : decide (x8_2 < ((a0 ++ a1).size : Int)) = false := decide_eq_false c11
                have c11s : decide (x8_2 < (a0.size : Int) + (a1.size : Int)) = false := decide_eq_false (by have h_ := c11; rw [ByteArray.size_append] at h_; omega)
                clear c11
                by_cases c24 : 0 < (a0.size : Int)
                · rw [if_pos c24] at H
                  have c24b0 : decide (0 < (a0.size : Int)) = true := decide_eq_true c24
                  have c24b1 : decide (0 < a0.size) = true := decide_eq_true (by omega)
                  clear c24
                  by_cases c26 : (bt a0 0) = 102
                  · rw [if_pos c26] at H
                    have c26b0 : ((bt a0 0) == 102) = true := beq_iff_eq.mpr c26
                    have c26b1 : ((bt a0 0) != 102) = false := bne_eq_false_iff_eq.mpr c26
                    clear c26
                    obtain rfl := Option.some.inj H
                    have p25 : 0 ≤ (0 : Int) := (by omega)
                    have q25 : 0 < a0.size := (by have : (0 : Int) < (a0.size : Int) := of_decide_eq_true (by first | (with_reducible assumption) | assumption); omega)
                    have hx25 : ∀ h : 0 < a0.size, ((a0[0]'h).toNat : Int) = bt a0 0 := bt_at a0 0
                    clear p25
                    have qi25 : (0 < (a0.size : Int)) = True := eq_true (of_decide_eq_true (by first | (with_reducible assumption) | assumption))
                    replace q25 := eq_true q25
                    go_wp2
                    go_ret
                    exact ⟨by first | rfl | (simp [errW_none, errW_some] <;> rfl) | (simp [*, errW_none, errW_some] <;> rfl), by repeat (first | (with_reducible first | exact HB.out | apply below_alloc | apply pw_below_drewN | apply below_drew1) | exact HB.out)⟩
                  · rw [if_neg c26] at H
                    have c26b0 : ((bt a0 0) == 102) = false := beq_eq_false_iff_ne.mpr c26
                    have c26b1 : ((bt a0 0) != 102) = true := bne_iff_ne.mpr c26
                    by_cases c27 : 0 ≤ (Go.bits .and .i64 a2 7)
                    · rw [if_pos c27] at H
                      have c27b0 := eq_true c27
                      have c27b1 : decide (0 ≤ (Go.bits .and .i64 a2 7)) = true := decide_eq_true c27
                      clear c27
                      by_cases c28 : (Go.bits .and .i64 a2 7) ≤ 7
                      · rw [if_pos c28] at H
                        have c28b0 := eq_true c28
                        have c28b1 : decide ((Go.bits .and .i64 a2 7) ≤ 7) = true := decide_eq_true c28
                        clear c28
                        have c29b0 := eq_true (of_decide_eq_true (by first | (with_reducible assumption) | assumption) : 0 ≤ (Go.bits .and .i64 a2 7))
                        have c30b0 := eq_true (of_decide_eq_true (by first | (with_reducible assumption) | assumption) : (Go.bits .and .i64 a2 7) ≤ 7)
                        by_cases c31 : t384 = true
                        · subst c31
                          have H1 : ((slug_Slug.f a0).bind fun t385 => (if t385.toList = a0.toList then (if a0.size + ((⟨#[32, 32, 32, 32, 32, 32, 32]⟩ : ByteArray).extract 0 ((Go.bits .and .i64 a2 7) : Int).toNat).size ≤ 9223372036854775807 then (if (a0 ++ ((⟨#[32, 32, 32, 32, 32, 32, 32]⟩ : ByteArray).extract 0 ((Go.bits .and .i64 a2 7) : Int).toNat)).size + a1.size ≤ 9223372036854775807 then ((slug_Slug.f ((a0 ++ ((⟨#[32, 32, 32, 32, 32, 32, 32]⟩ : ByteArray).extract 0 ((Go.bits .and .i64 a2 7) : Int).toNat)) ++ a1)).bind fun t386 => (if a0.size + ((⟨#[45, 45, 45, 45, 45, 45, 45]⟩ : ByteArray).extract 0 ((Go.bits .and .i64 a2 7) : Int).toNat).size ≤ 9223372036854775807 then (if (a0 ++ ((⟨#[45, 45, 45, 45, 45, 45, 45]⟩ : ByteArray).extract 0 ((Go.bits .and .i64 a2 7) : Int).toNat)).size + a1.size ≤ 9223372036854775807 then (if t386.toList = ((a0 ++ ((⟨#[45, 45, 45, 45, 45, 45, 45]⟩ : ByteArray).extract 0 ((Go.bits .and .i64 a2 7) : Int).toNat)) ++ a1).toList then (if 2 + a0.size ≤ 9223372036854775807 then ((slug_Slug.f ((⟨#[102, 110]⟩ : ByteArray) ++ a0)).bind fun t387 => (if 4 + a0.size ≤ 9223372036854775807 then (if t387.toList = ((⟨#[115, 45, 102, 110]⟩ : ByteArray) ++ a0).toList then (if 1 + a0.size ≤ 9223372036854775807 then (if ((⟨#[33]⟩ : ByteArray) ++ a0).size + 1 ≤ 9223372036854775807 then ((slug_Slug.f (((⟨#[33]⟩ : ByteArray) ++ a0) ++ (⟨#[63]⟩ : ByteArray))).bind fun t388 => (some (t388.toList == a0.toList))) else (none)) else (none)) else (none)) else (none))) else (none)) else (none)) else (none)) else (none))) else (none)) else (none)) else (none))) = some r := by rw [if_pos rfl] at H; exact H
                          clear H
                          have H := H1
                          clear H1
                          replace H := Option.bind_eq_some_iff.mp H
                          obtain ⟨t385, A320, H⟩ := H
                          replace H : (if t385.toList = a0.toList then (if a0.size + ((⟨#[32, 32, 32, 32, 32, 32, 32]⟩ : ByteArray).extract 0 ((Go.bits .and .i64 a2 7) : Int).toNat).size ≤ 9223372036854775807 then (if (a0 ++ ((⟨#[32, 32, 32, 32, 32, 32, 32]⟩ : ByteArray).extract 0 ((Go.bits .and .i64 a2 7) : Int).toNat)).size + a1.size ≤ 9223372036854775807 then ((slug_Slug.f ((a0 ++ ((⟨#[32, 32, 32, 32, 32, 32, 32]⟩ : ByteArray).extract 0 ((Go.bits .and .i64 a2 7) : Int).toNat)) ++ a1)).bind fun t386 => (if a0.size + ((⟨#[45, 45, 45, 45, 45, 45, 45]⟩ : ByteArray).extract 0 ((Go.bits .and .i64 a2 7) : Int).toNat).size ≤ 9223372036854775807 then (if (a0 ++ ((⟨#[45, 45, 45, 45, 45, 45, 45]⟩ : ByteArray).extract 0 ((Go.bits .and .i64 a2 7) : Int).toNat)).size + a1.size ≤ 9223372036854775807 then (if t386.toList = ((a0 ++ ((⟨#[45, 45, 45, 45, 45, 45, 45]⟩ : ByteArray).extract 0 ((Go.bits .and .i64 a2 7) : Int).toNat)) ++ a1).toList then (if 2 + a0.size ≤ 9223372036854775807 then ((slug_Slug.f ((⟨#[102, 110]⟩ : ByteArray) ++ a0)).bind fun t387 => (if 4 + a0.size ≤ 9223372036854775807 then (if t387.toList = ((⟨#[115, 45, 102, 110]⟩ : ByteArray) ++ a0).toList then (if 1 + a0.size ≤ 9223372036854775807 then (if ((⟨#[33]⟩ : ByteArray) ++ a0).size + 1 ≤ 9223372036854775807 then ((slug_Slug.f (((⟨#[33]⟩ : ByteArray) ++ a0) ++ (⟨#[63]⟩ : ByteArray))).bind fun t388 => (some (t388.toList == a0.toList))) else (none)) else (none)) else (none)) else (none))) else (none)) else (none)) else (none)) else (none))) else (none)) else (none)) else (none)) = some r := H
                          have A32 := Aside0.mk A320
                          clear A320
                          by_cases c33 : t385.toList = a0.toList
                          · rw [if_pos c33] at H
                            have c33b0 : (t385.toList == a0.toList) = true := beq_iff_eq.mpr c33
                            have c33b1 : (t385.toList != a0.toList) = false := bne_eq_false_iff_eq.mpr c33
                            clear c33
                            by_cases c34 : a0.size + ((⟨#[32, 32, 32, 32, 32, 32, 32]⟩ : ByteArray).extract 0 ((Go.bits .and .i64 a2 7) : Int).toNat).size ≤ 9223372036854775807
                            · rw [if_pos c34] at H
                              have c34b0 := eq_true c34
                              have c34b1 : decide (a0.size + ((⟨#[32, 32, 32, 32, 32, 32, 32]⟩ : ByteArray).extract 0 ((Go.bits .and .i64 a2 7) : Int).toNat).size ≤ 9223372036854775807) = true := decide_eq_true c34
                              try have c34b2 : (9223372036854775807 < a0.size + ((⟨#[32, 32, 32, 32, 32, 32, 32]⟩ : ByteArray).extract 0 ((Go.bits .and .i64 a2 7) : Int).toNat).size) = False := eq_false (Nat.not_lt.2 c34)
                              by_cases c35 : (a0 ++ ((⟨#[32, 32, 32, 32, 32, 32, 32]⟩ : ByteArray).extract 0 ((Go.bits .and .i64 a2 7) : Int).toNat)).size + a1.size ≤ 9223372036854775807
                              · rw [if_pos c35] at H
                                have c35b0 := eq_true c35
                                have c35b1 : decide ((a0 ++ ((⟨#[32, 32, 32, 32, 32, 32, 32]⟩ : ByteArray).extract 0 ((Go.bits .and .i64 a2 7) : Int).toNat)).size + a1.size ≤ 9223372036854775807) = true := decide_eq_true c35
                                try have c35b2 : (9223372036854775807 < (a0 ++ ((⟨#[32, 32, 32, 32, 32, 32, 32]⟩ : ByteArray).extract 0 ((Go.bits .and .i64 a2 7) : Int).toNat)).size + a1.size) = False := eq_false (Nat.not_lt.2 c35)
                                replace H := Option.bind_eq_some_iff.mp H
                                obtain ⟨t386, A360, H⟩ := H
                                replace H : (if a0.size + ((⟨#[45, 45, 45, 45, 45, 45, 45]⟩ : ByteArray).extract 0 ((Go.bits .and .i64 a2 7) : Int).toNat).size ≤ 9223372036854775807 then (if (a0 ++ ((⟨#[45, 45, 45, 45, 45, 45, 45]⟩ : ByteArray).extract 0 ((Go.bits .and .i64 a2 7) : Int).toNat)).size + a1.size ≤ 9223372036854775807 then (if t386.toList = ((a0 ++ ((⟨#[45, 45, 45, 45, 45, 45, 45]⟩ : ByteArray).extract 0 ((Go.bits .and .i64 a2 7) : Int).toNat)) ++ a1).toList then (if 2 + a0.size ≤ 9223372036854775807 then ((slug_Slug.f ((⟨#[102, 110]⟩ : ByteArray) ++ a0)).bind fun t387 => (if 4 + a0.size ≤ 9223372036854775807 then (if t387.toList = ((⟨#[115, 45, 102, 110]⟩ : ByteArray) ++ a0).toList then (if 1 + a0.size ≤ 9223372036854775807 then (if ((⟨#[33]⟩ : ByteArray) ++ a0).size + 1 ≤ 9223372036854775807 then ((slug_Slug.f (((⟨#[33]⟩ : ByteArray) ++ a0) ++ (⟨#[63]⟩ : ByteArray))).bind fun t388 => (some (t388.toList == a0.toList))) else (none)) else (none)) else (none)) else (none))) else (none)) else (none)) else (none)) else (none)) = some r := H
                                have A36 := Aside0.mk A360
                                clear A360
                                by_cases c37 : a0.size + ((⟨#[45, 45, 45, 45, 45, 45, 45]⟩ : ByteArray).extract 0 ((Go.bits .and .i64 a2 7) : Int).toNat).size ≤ 9223372036854775807
                                · rw [if_pos c37] at H
                                  have c37b0 := eq_true c37
                                  have c37b1 : decide (a0.size + ((⟨#[45, 45, 45, 45, 45, 45, 45]⟩ : ByteArray).extract 0 ((Go.bits .and .i64 a2 7) : Int).toNat).size ≤ 9223372036854775807) = true := decide_eq_true c37
                                  try have c37b2 : (9223372036854775807 < a0.size + ((⟨#[45, 45, 45, 45, 45, 45, 45]⟩ : ByteArray).extract 0 ((Go.bits .and .i64 a2 7) : Int).toNat).size) = False := eq_false (Nat.not_lt.2 c37)
                                  by_cases c38 : (a0 ++ ((⟨#[45, 45, 45, 45, 45, 45, 45]⟩ : ByteArray).extract 0 ((Go.bits .and .i64 a2 7) : Int).toNat)).size + a1.size ≤ 9223372036854775807
                                  · rw [if_pos c38] at H
                                    have c38b0 := eq_true c38
                                    have c38b1 : decide ((a0 ++ ((⟨#[45, 45, 45, 45, 45, 45, 45]⟩ : ByteArray).extract 0 ((Go.bits .and .i64 a2 7) : Int).toNat)).size + a1.size ≤ 9223372036854775807) = true := decide_eq_true c38
                                    try have c38b2 : (9223372036854775807 < (a0 ++ ((⟨#[45, 45, 45, 45, 45, 45, 45]⟩ : ByteArray).extract 0 ((Go.bits .and .i64 a2 7) : Int).toNat)).size + a1.size) = False := eq_false (Nat.not_lt.2 c38)
                                    by_cases c39 : t386.toList = ((a0 ++ ((⟨#[45, 45, 45, 45, 45, 45, 45]⟩ : ByteArray).extract 0 ((Go.bits .and .i64 a2 7) : Int).toNat)) ++ a1).toList
                                    · rw [if_pos c39] at H
                                      have c39b0 : (t386.toList == ((a0 ++ ((⟨#[45, 45, 45, 45, 45, 45, 45]⟩ : ByteArray).extract 0 ((Go.bits .and .i64 a2 7) : Int).toNat)) ++ a1).toList) = true := beq_iff_eq.mpr c39
                                      have c39b1 : (t386.toList != ((a0 ++ ((⟨#[45, 45, 45, 45, 45, 45, 45]⟩ : ByteArray).extract 0 ((Go.bits .and .i64 a2 7) : Int).toNat)) ++ a1).toList) = false := bne_eq_false_iff_eq.mpr c39
                                      clear c39
                                      by_cases c40 : 2 + a0.size ≤ 9223372036854775807
                                      · rw [if_pos c40] at H
                                        have c40b0 := eq_true c40
                                        have c40b1 : decide (2 + a0.size ≤ 9223372036854775807) = true := decide_eq_true c40
                                        try have c40b2 : (9223372036854775807 < 2 + a0.size) = False := eq_false (Nat.not_lt.2 c40)
                                        replace H := Option.bind_eq_some_iff.mp H
                                        obtain ⟨t387, A410, H⟩ := H
                                        replace H : (if 4 + a0.size ≤ 9223372036854775807 then (if t387.toList = ((⟨#[115, 45, 102, 110]⟩ : ByteArray) ++ a0).toList then (if 1 + a0.size ≤ 9223372036854775807 then (if ((⟨#[33]⟩ : ByteArray) ++ a0).size + 1 ≤ 9223372036854775807 then ((slug_Slug.f (((⟨#[33]⟩ : ByteArray) ++ a0) ++ (⟨#[63]⟩ : ByteArray))).bind fun t388 => (some (t388.toList == a0.toList))) else (none)) else (none)) else (none)) else (none)) = some r := H
                                        have A41 := Aside0.mk A410
                                        clear A410
                                        by_cases c42 : 4 + a0.size ≤ 9223372036854775807
                                        · rw [if_pos c42] at H
                                          have c42b0 := eq_true c42
                                          have c42b1 : decide (4 + a0.size ≤ 9223372036854775807) = true := decide_eq_true c42
                                          try have c42b2 : (9223372036854775807 < 4 + a0.size) = False := eq_false (Nat.not_lt.2 c42)
                                          by_cases c43 : t387.toList = ((⟨#[115, 45, 102, 110]⟩ : ByteArray) ++ a0).toList
                                          · rw [if_pos c43] at H
                                            have c43b0 : (t387.toList == ((⟨#[115, 45, 102, 110]⟩ : ByteArray) ++ a0).toList) = true := beq_iff_eq.mpr c43
                                            have c43b1 : (t387.toList != ((⟨#[115, 45, 102, 110]⟩ : ByteArray) ++ a0).toList) = false := bne_eq_false_iff_eq.mpr c43
                                            clear c43
                                            by_cases c44 : 1 + a0.size ≤ 9223372036854775807
                                            · rw [if_pos c44] at H
                                              have c44b0 := eq_true c44
                                              have c44b1 : decide (1 + a0.size ≤ 9223372036854775807) = true := decide_eq_true c44
                                              try have c44b2 : (9223372036854775807 < 1 + a0.size) = False := eq_false (Nat.not_lt.2 c44)
                                              by_cases c45 : ((⟨#[33]⟩ : ByteArray) ++ a0).size + 1 ≤ 9223372036854775807
                                              · rw [if_pos c45] at H
                                                have c45b0 := eq_true c45
                                                have c45b1 : decide (((⟨#[33]⟩ : ByteArray) ++ a0).size + 1 ≤ 9223372036854775807) = true := decide_eq_true c45
                                                try have c45b2 : (9223372036854775807 < ((⟨#[33]⟩ : ByteArray) ++ a0).size + 1) = False := eq_false (Nat.not_lt.2 c45)
                                                replace H := Option.bind_eq_some_iff.mp H
                                                obtain ⟨t388, A460, H⟩ := H
                                                replace H : (some (t388.toList == a0.toList)) = some r := H
                                                have A46 := Aside0.mk A460
                                                clear A460
                                                obtain rfl := Option.some.inj H
                                                have p25 : 0 ≤ (0 : Int) := (by omega)
                                                have q25 : 0 < a0.size := (by have : (0 : Int) < (a0.size : Int) := of_decide_eq_true (by first | (with_reducible assumption) | assumption); omega)
                                                have hx25 : ∀ h : 0 < a0.size, ((a0[0]'h).toNat : Int) = bt a0 0 := bt_at a0 0
                                                clear p25
                                                have qi25 : (0 < (a0.size : Int)) = True := eq_true (of_decide_eq_true (by first | (with_reducible assumption) | assumption))
                                                replace q25 := eq_true q25
                                                go_wp2_with (first | (go_at_call 38; (with_reducible refine (slug_Slug.calls a0 t385 _ A32.out (Tabs.below HT.out (by repeat (first | (with_reducible first | exact HB.out | apply below_alloc | apply pw_below_drewN | apply below_drew1) | exact HB.out)))).mono ?_); rintro e w47 ⟨rfl, hb⟩; have n0_ := Aside0.mk (below_step (by repeat (first | (with_reducible first | exact HB.out | apply below_alloc | apply pw_below_drewN | apply below_drew1) | exact HB.out)) hb); clear HB; have HB := n0_; clear n0_; (try clear hb); (try clear hb2); (try clear hk); (try clear hi)) | (go_at_call 38; (with_reducible refine (slug_Slug.calls ((a0 ++ ((⟨#[32, 32, 32, 32, 32, 32, 32]⟩ : ByteArray).extract 0 ((Go.bits .and .i64 a2 7) : Int).toNat)) ++ a1) t386 _ A36.out (Tabs.below HT.out (by repeat (first | (with_reducible first | exact HB.out | apply below_alloc | apply pw_below_drewN | apply below_drew1) | exact HB.out)))).mono ?_); rintro e w48 ⟨rfl, hb⟩; have n0_ := Aside0.mk (below_step (by repeat (first | (with_reducible first | exact HB.out | apply below_alloc | apply pw_below_drewN | apply below_drew1) | exact HB.out)) hb); clear HB; have HB := n0_; clear n0_; (try clear hb); (try clear hb2); (try clear hk); (try clear hi)) | (go_at_call 38; (with_reducible refine (slug_Slug.calls ((⟨#[102, 110]⟩ : ByteArray) ++ a0) t387 _ A41.out (Tabs.below HT.out (by repeat (first | (with_reducible first | exact HB.out | apply below_alloc | apply pw_below_drewN | apply below_drew1) | exact HB.out)))).mono ?_); rintro e w49 ⟨rfl, hb⟩; have n0_ := Aside0.mk (below_step (by repeat (first | (with_reducible first | exact HB.out | apply below_alloc | apply pw_below_drewN | apply below_drew1) | exact HB.out)) hb); clear HB; have HB := n0_; clear n0_; (try clear hb); (try clear hb2); (try clear hk); (try clear hi)) | (go_at_call 38; (with_reducible refine (slug_Slug.calls (((⟨#[33]⟩ : ByteArray) ++ a0) ++ (⟨#[63]⟩ : ByteArray)) t388 _ A46.out (Tabs.below HT.out (by repeat (first | (with_reducible first | exact HB.out | apply below_alloc | apply pw_below_drewN | apply below_drew1) | exact HB.out)))).mono ?_); rintro e w50 ⟨rfl, hb⟩; have n0_ := Aside0.mk (below_step (by repeat (first | (with_reducible first | exact HB.out | apply below_alloc | apply pw_below_drewN | apply below_drew1) | exact HB.out)) hb); clear HB; have HB := n0_; clear n0_; (try clear hb); (try clear hb2); (try clear hk); (try clear hi)))
                                                go_ret
                                                exact ⟨by first | rfl | (simp [errW_none, errW_some] <;> rfl) | (simp [*, errW_none, errW_some] <;> rfl), by repeat (first | (with_reducible first | exact HB.out | apply below_alloc | apply pw_below_drewN | apply below_drew1) | exact HB.out)⟩
                                              · rw [if_neg c45] at H
                                                exact absurd H (by simp)
                                            · rw [if_neg c44] at H
                                              exact absurd H (by simp)
                                          · rw [if_neg c43] at H
                                            exact absurd H (by simp)
                                        · rw [if_neg c42] at H
                                          exact absurd H (by simp)
                                      · rw [if_neg c40] at H
                                        exact absurd H (by simp)
                                    · rw [if_neg c39] at H
                                      exact absurd H (by simp)
                                  · rw [if_neg c38] at H
                                    exact absurd H (by simp)
                                · rw [if_neg c37] at H
                                  exact absurd H (by simp)
                              · rw [if_neg c35] at H
                                exact absurd H (by simp)
                            · rw [if_neg c34] at H
                              exact absurd H (by simp)
                          · rw [if_neg c33] at H
                            exact absurd H (by simp)
                        · replace c31 := Bool.eq_false_iff.mpr c31
                          subst c31
                          have H1 : (none) = some r := by rw [if_neg (show ¬ (false = true) by decide)] at H; exact H
                          clear H
                          have H := H1
                          clear H1
                          exact absurd H (by simp)
                      · rw [if_neg c28] at H
                        exact absurd H (by simp)
                    · rw [if_neg c27] at H
                      exact absurd H (by simp)
                · rw [if_neg c24] at H
                  exact absurd H (by simp)
            · rw [if_neg c10] at H
              exact absurd H (by simp)

/-- THE ONE PURE STATEMENT of incipitlaw19_SlugPlain: yours. -/
def incipitlaw19_SlugPlain.Pure : Prop := ∀ (a0 : ByteArray) (a1 : ByteArray) (a2 : Int), a0.size ≤ 140737488351232 → a1.size ≤ 140737488351232 → (Lit.int .i64 a2).wf = true → ∃ k, incipitlaw19_SlugPlain.f k a0 a1 a2 = some true
theorem incipitlaw19_SlugPlain.walk (P : incipitlaw19_SlugPlain.Pure) (a0 : ByteArray) (a1 : ByteArray) (a2 : Int) (w : World) (w0 : a0.size ≤ 140737488351232) (w1 : a1.size ≤ 140737488351232) (w2 : (Lit.int .i64 a2).wf = true) (hT : Tabs w) :
    Calls Tryd.prog 13 #[.string a0, .string a1, .int .i64 a2] w fun e w' => e = .returned (.bool true) ∧ Below w.heap.size w w' := by
  have HT := Aside0.mk hT
  clear hT
  obtain ⟨k, h⟩ := P a0 a1 a2 w0 w1 w2
  refine (incipitlaw19_SlugPlain.calls k a0 a1 a2 true w h HT.out).mono ?_
  rintro e w' ⟨rfl, hd⟩
  exact ⟨rfl, hd⟩

end Go.Proofs.YtbgbmphjjdiaeaaDoor.P
