/- Functions of the seat as plain Lean functions, and proofs that the Go code comes to them; laid by wip/handprint.py over the kit's printer. -/
import Derived.Test.YtbgbmphjjdiaeaaDoorPk0
import Derived.Test.YtbgbmphjjdiaeaaDoorForms
import Derived.Test.YtbgbmphjjdiaeaaDoorPk10
import Derived.Test.YtbgbmphjjdiaeaaDoorPk3
namespace Go.Proofs.YtbgbmphjjdiaeaaDoor.P
open Go.RowKit Go.Proofs.YtbgbmphjjdiaeaaDoorW.PrintWords Go.Proofs.YtbgbmphjjdiaeaaDoorW.PrintLast Go.Proofs.YtbgbmphjjdiaeaaDoorW.PrintMore
attribute [local go_sem] max2_int min2_int max_two min_two max_three min_three max_four min_four   -- for this text's walks alone
set_option linter.unusedVariables false
set_option linter.unusedSimpArgs false

/-! ### incipitref19_Slug: function 39 -/
def incipitref19_Slug.l0 : Nat → ByteArray → List Int → Int → Option (ByteArray)
  | 0, _, _, _ => none
  | k + 1, x3, x4, x5 => if x5 < (x4.length : Int) then (if 0 ≤ x5 then ((incipitref03_Space.f k (rd x4 x5)).bind fun t344 => (if t344 = true then (if x3.size + 1 ≤ 9223372036854775807 then (incipitref19_Slug.l0 k (x3 ++ (⟨#[45]⟩ : ByteArray)) x4 (wrap64 (x5 + 1))) else (none)) else (if (rd x4 x5) = 45 then (if x3.size + (Utf8.encode (rd x4 x5)).size ≤ 9223372036854775807 then (incipitref19_Slug.l0 k (x3 ++ (Utf8.encode (rd x4 x5))) x4 (wrap64 (x5 + 1))) else (none)) else (if (rd x4 x5) = 95 then (if x3.size + (Utf8.encode (rd x4 x5)).size ≤ 9223372036854775807 then (incipitref19_Slug.l0 k (x3 ++ (Utf8.encode (rd x4 x5))) x4 (wrap64 (x5 + 1))) else (none)) else ((incipitref03_Punct.f k (rd x4 x5)).bind fun t345 => (if t345 = true then (incipitref19_Slug.l0 k x3 x4 (wrap64 (x5 + 1))) else (if (rd x4 x5) ≥ 32 then (if (rd x4 x5) = 127 then (incipitref19_Slug.l0 k x3 x4 (wrap64 (x5 + 1))) else (if x3.size + (Utf8.encode (rd x4 x5)).size ≤ 9223372036854775807 then (incipitref19_Slug.l0 k (x3 ++ (Utf8.encode (rd x4 x5))) x4 (wrap64 (x5 + 1))) else (none))) else (incipitref19_Slug.l0 k x3 x4 (wrap64 (x5 + 1)))))))))) else (none)) else (if x3.toList = ([] : List UInt8) then (some (⟨#[115, 101, 99, 116, 105, 111, 110]⟩ : ByteArray)) else (if (x3.size : Int) > 1 then (if 0 < (x3.size : Int) then (if (bt x3 0) = 102 then (if 1 < (x3.size : Int) then (if (bt x3 1) = 110 then (if 2 + x3.size ≤ 9223372036854775807 then (some ((⟨#[115, 45]⟩ : ByteArray) ++ x3)) else (none)) else (some x3)) else (none)) else (some x3)) else (none)) else (some x3)))
def incipitref19_Slug.f (k : Nat) (a0 : ByteArray) : Option (ByteArray) := (incipitref03_Fold.f k a0).bind fun t339 => ((incipitref01_Runes.f t339).bind fun t340 => (incipitref19_Slug.l0 k (⟨#[]⟩ : ByteArray) t340 0))
theorem incipitref19_Slug.mono_l : ∀ k, (∀ y0 y1 y2, LeO (incipitref19_Slug.l0 k y0 y1 y2) (incipitref19_Slug.l0 (k + 1) y0 y1 y2))
  | 0 => fun _ _ _ r h => by simp [incipitref19_Slug.l0] at h
  | k + 1 => by
    have ih0 := incipitref19_Slug.mono_l k
    · intro y0 y1 y2
      unfold incipitref19_Slug.l0
      repeat' first
      | (with_reducible exact ih0 _ _ _)
      | (with_reducible exact incipitref03_Fold.mono _ _)
      | (with_reducible exact incipitref03_Punct.mono _ _)
      | (with_reducible exact incipitref03_Space.mono _ _)
      | (with_reducible exact LeO.refl _)
      | (with_reducible exact LeO.none _)
      | (with_reducible refine LeO.ite ?_ ?_)
      | (with_reducible refine LeO.bind ?_ (fun _ => ?_))
      | exact ih0 _ _ _
      | exact incipitref03_Fold.mono _ _
      | exact incipitref03_Punct.mono _ _
      | exact incipitref03_Space.mono _ _
      | exact LeO.none _
      | refine LeO.ite ?_ ?_
      | refine LeO.bind ?_ (fun _ => ?_)
theorem incipitref19_Slug.mono : ∀ a0 k, LeO (incipitref19_Slug.f k a0) (incipitref19_Slug.f (k + 1) a0) := by
  intro a0 k
  have ih0 := incipitref19_Slug.mono_l k
  unfold incipitref19_Slug.f
  repeat' first
      | (with_reducible exact ih0 _ _ _)
      | (with_reducible exact incipitref03_Fold.mono _ _)
      | (with_reducible exact incipitref03_Punct.mono _ _)
      | (with_reducible exact incipitref03_Space.mono _ _)
      | (with_reducible exact LeO.refl _)
      | (with_reducible exact LeO.none _)
      | (with_reducible refine LeO.ite ?_ ?_)
      | (with_reducible refine LeO.bind ?_ (fun _ => ?_))
      | exact ih0 _ _ _
      | exact incipitref03_Fold.mono _ _
      | exact incipitref03_Punct.mono _ _
      | exact incipitref03_Space.mono _ _
      | exact LeO.none _
      | refine LeO.ite ?_ ?_
      | refine LeO.bind ?_ (fun _ => ?_)
set_option maxHeartbeats 8000000 in
set_option maxRecDepth 100000 in
theorem incipitref19_Slug.calls (k : Nat) (a0 : ByteArray) (r : ByteArray) (w : World) (h : incipitref19_Slug.f k a0 = some r) :
    Calls Tryd.prog 39 #[.string a0] w fun e w' => e = .returned (.string r) ∧ Below w.heap.size w w' := by
  have HB := Aside0.mk (Below.refl w.heap.size w)
  have H : ((incipitref03_Fold.f k a0).bind fun t339 => ((incipitref01_Runes.f t339).bind fun t340 => (incipitref19_Slug.l0 k (⟨#[]⟩ : ByteArray) t340 0))) = some r := h
  clear h
  replace H := Option.bind_eq_some_iff.mp H
  obtain ⟨t339, A20, H⟩ := H
  replace H : ((incipitref01_Runes.f t339).bind fun t340 => (incipitref19_Slug.l0 k (⟨#[]⟩ : ByteArray) t340 0)) = some r := H
  have A2 := Aside0.mk A20
  clear A20
  replace H := Option.bind_eq_some_iff.mp H
  obtain ⟨t340, A30, H⟩ := H
  replace H : (incipitref19_Slug.l0 k (⟨#[]⟩ : ByteArray) t340 0) = some r := H
  have A3 := Aside0.mk A30
  clear A30
  have H' := Aside0.mk H
  clear H
  go_enter Tryd.func39, Tryd.ntmps39
  go_wp2_with (first | ((with_reducible refine gate_callee (f := 32) rfl ?_); refine goesL_ (some 8) rfl rfl Tryd.func32 (by kernel_rfl) rfl #[.string a0] rfl (by (try simp only [List.map_toArray, List.map_cons, List.map_nil]); first | done | rfl | (simp only [List.length_drop, List.length_take]; rfl)) ?_; (with_reducible refine (incipitref03_Fold.calls k a0 t339 _ A2.out).mono ?_); rintro e w4 ⟨rfl, hb⟩; refine ⟨_, rfl, ?_⟩; have n0_ := Aside0.mk (below_step (by repeat (first | (with_reducible first | exact HB.out | apply below_alloc | apply pw_below_drewN | apply below_drew1) | exact HB.out)) hb); clear HB; have HB := n0_; clear n0_; (try clear hb); (try clear hb2); (try clear hk); (try clear hi)) | ((with_reducible refine gate_callee (f := 57) rfl ?_); refine goesL_ (some 9) rfl rfl Tryd.func57 (by kernel_rfl) rfl #[.string t339] rfl (by (try simp only [List.map_toArray, List.map_cons, List.map_nil]); first | done | rfl | (simp only [List.length_drop, List.length_take]; rfl)) ?_; (with_reducible refine (incipitref01_Runes.calls t339 t340 _ A3.out).mono ?_); rintro e w5 ⟨v341, rfl, ho0, hb⟩; refine ⟨_, rfl, ?_⟩; have n0_ := Aside0.mk (Kd.R_lower ho0 (below_size (by repeat (first | (with_reducible first | exact HB.out | apply below_alloc | apply pw_below_drewN | apply below_drew1) | exact HB.out)))); have n1_ := Aside0.mk (below_step (by repeat (first | (with_reducible first | exact HB.out | apply below_alloc | apply pw_below_drewN | apply below_drew1) | exact HB.out)) hb); clear HB; have HO342 := n0_; have HB := n1_; clear n0_ n1_; (try clear hb); (try clear hb2); (try clear hk); (try clear hi); (try clear ho0)))
  go_loopg [3, 5] k (fun kq v3 v5 w' => ∃ (x3_1 : ByteArray) (x5_1 : Int), v3 = .string x3_1 ∧ v5 = .int .i64 x5_1 ∧ Aside0 (incipitref19_Slug.l0 kq x3_1 t340 x5_1 = some r) ∧ Aside0 (kq ≤ k) ∧ Aside0 (Kd.R (Kd.int .i32) 21 w' w.heap.size (fun _ => True) v341 t340) ∧ Aside0 (Below w.heap.size w w'))
  case atStart => exact ⟨((⟨#[]⟩ : ByteArray)), (0), (by first | rfl | (simp; done) | (simp [*]; done)), (by first | rfl | (simp; done) | (simp [*]; done)), H', ⟨Nat.le_refl _⟩, ⟨by (with_reducible repeat (first | apply Kd.R_alloc | apply Kd.R_drewN | apply Kd.R_drew)); exact HO342.out⟩, ⟨by repeat (first | (with_reducible first | exact HB.out | apply below_alloc | apply pw_below_drewN | apply below_drew1) | exact HB.out)⟩⟩
  case round =>
    clear H'
    try clear p2
    try clear c3
    try clear c5
    obtain ⟨x3_1, x5_1, rfl, rfl, HA, HK1, HO_4, HB⟩ := hrel
    cases gk with
    | zero => exact absurd HA.out (by simp [incipitref19_Slug.l0])
    | succ k1 =>
      have H := HA.out
      clear HA
      simp only [incipitref19_Slug.l0] at H
      by_cases c6 : x5_1 < (t340.length : Int)
      · rw [if_pos c6] at H
        have c6b0 : decide (x5_1 < (t340.length : Int)) = true := decide_eq_true c6
        clear c6
        by_cases c7 : 0 ≤ x5_1
        · rw [if_pos c7] at H
          have c7b0 : decide (0 ≤ x5_1) = true := decide_eq_true c7
          clear c7
          replace H := Option.bind_eq_some_iff.mp H
          obtain ⟨t344, A80, H⟩ := H
          replace H : (if t344 = true then (if x3_1.size + 1 ≤ 9223372036854775807 then (incipitref19_Slug.l0 k1 (x3_1 ++ (⟨#[45]⟩ : ByteArray)) t340 (wrap64 (x5_1 + 1))) else (none)) else (if (rd t340 x5_1) = 45 then (if x3_1.size + (Utf8.encode (rd t340 x5_1)).size ≤ 9223372036854775807 then (incipitref19_Slug.l0 k1 (x3_1 ++ (Utf8.encode (rd t340 x5_1))) t340 (wrap64 (x5_1 + 1))) else (none)) else (if (rd t340 x5_1) = 95 then (if x3_1.size + (Utf8.encode (rd t340 x5_1)).size ≤ 9223372036854775807 then (incipitref19_Slug.l0 k1 (x3_1 ++ (Utf8.encode (rd t340 x5_1))) t340 (wrap64 (x5_1 + 1))) else (none)) else ((incipitref03_Punct.f k1 (rd t340 x5_1)).bind fun t345 => (if t345 = true then (incipitref19_Slug.l0 k1 x3_1 t340 (wrap64 (x5_1 + 1))) else (if (rd t340 x5_1) ≥ 32 then (if (rd t340 x5_1) = 127 then (incipitref19_Slug.l0 k1 x3_1 t340 (wrap64 (x5_1 + 1))) else (if x3_1.size + (Utf8.encode (rd t340 x5_1)).size ≤ 9223372036854775807 then (incipitref19_Slug.l0 k1 (x3_1 ++ (Utf8.encode (rd t340 x5_1))) t340 (wrap64 (x5_1 + 1))) else (none))) else (incipitref19_Slug.l0 k1 x3_1 t340 (wrap64 (x5_1 + 1))))))))) = some r := H
          have A8 := Aside0.mk A80
          clear A80
          by_cases c9 : t344 = true
          · subst c9
            have H1 : (if x3_1.size + 1 ≤ 9223372036854775807 then (incipitref19_Slug.l0 k1 (x3_1 ++ (⟨#[45]⟩ : ByteArray)) t340 (wrap64 (x5_1 + 1))) else (none)) = some r := by rw [if_pos rfl] at H; exact H
            clear H
            have H := H1
            clear H1
            by_cases c10 : x3_1.size + 1 ≤ 9223372036854775807
            · rw [if_pos c10] at H
              have c10b0 := eq_true c10
              have c10b1 : decide (x3_1.size + 1 ≤ 9223372036854775807) = true := decide_eq_true c10
              try have c10b2 : (9223372036854775807 < x3_1.size + 1) = False := eq_false (Nat.not_lt.2 c10)
              have H' := Aside0.mk H
              clear H
              obtain ⟨Ao11, co11, eo11⟩ := Kd.R_slice HO_4.out
              subst eo11
              have p343 : 0 ≤ (x5_1 : Int) := of_decide_eq_true (by first | (with_reducible assumption) | assumption)
              have q343 : x5_1 < (t340.length : Int) := of_decide_eq_true (by first | (with_reducible assumption) | assumption)
              obtain ⟨ad343, e343, hx343_0⟩ := Kd.at_int (Kd.R_reads' HO_4.out).2.2 x5_1 p343 q343
              cases e343
              replace p343 := eq_true p343
              replace q343 := eq_true q343
              go_wp2_with (first | ((with_reducible refine gate_callee (f := 26) rfl ?_); refine goesL_ (some 21) rfl rfl Tryd.func26 (by kernel_rfl) rfl #[.int .i32 (rd t340 x5_1)] rfl (by (try simp only [List.map_toArray, List.map_cons, List.map_nil]); first | done | rfl | (simp only [List.length_drop, List.length_take]; rfl)) ?_; (with_reducible refine (incipitref03_Space.calls k1 (rd t340 x5_1) true _ A8.out).mono ?_); rintro e w12 ⟨rfl, hb⟩; refine ⟨_, rfl, ?_⟩; have n0_ := Aside0.mk (Kd.R_below (by (with_reducible repeat (first | apply Kd.R_alloc | apply Kd.R_drewN | apply Kd.R_drew)); exact HO_4.out) hb); have n1_ := Aside0.mk (below_step (by repeat (first | (with_reducible first | exact HB.out | apply below_alloc | apply pw_below_drewN | apply below_drew1) | exact HB.out)) hb); clear HO_4; clear HB; have HO_4 := n0_; have HB := n1_; clear n0_ n1_; (try clear hb); (try clear hb2); (try clear hk); (try clear hi)))
              go_roundg k1
              case measure => have := HK1.out; omega
              case rel => exact ⟨(x3_1 ++ (⟨#[45]⟩ : ByteArray)), (wrap64 (x5_1 + 1)), (by first | rfl | (simp; done) | (simp [*]; done)), (by first | rfl | (simp; done) | (simp [*]; done)), H', ⟨by have := HK1.out; omega⟩, ⟨by (with_reducible repeat (first | apply Kd.R_alloc | apply Kd.R_drewN | apply Kd.R_drew)); exact HO_4.out⟩, ⟨by repeat (first | (with_reducible first | exact HB.out | apply below_alloc | apply pw_below_drewN | apply below_drew1) | exact HB.out)⟩⟩
            · rw [if_neg c10] at H
              exact absurd H (by simp)
          · replace c9 := Bool.eq_false_iff.mpr c9
            subst c9
            have H1 : (if (rd t340 x5_1) = 45 then (if x3_1.size + (Utf8.encode (rd t340 x5_1)).size ≤ 9223372036854775807 then (incipitref19_Slug.l0 k1 (x3_1 ++ (Utf8.encode (rd t340 x5_1))) t340 (wrap64 (x5_1 + 1))) else (none)) else (if (rd t340 x5_1) = 95 then (if x3_1.size + (Utf8.encode (rd t340 x5_1)).size ≤ 9223372036854775807 then (incipitref19_Slug.l0 k1 (x3_1 ++ (Utf8.encode (rd t340 x5_1))) t340 (wrap64 (x5_1 + 1))) else (none)) else ((incipitref03_Punct.f k1 (rd t340 x5_1)).bind fun t345 => (if t345 = true then (incipitref19_Slug.l0 k1 x3_1 t340 (wrap64 (x5_1 + 1))) else (if (rd t340 x5_1) ≥ 32 then (if (rd t340 x5_1) = 127 then (incipitref19_Slug.l0 k1 x3_1 t340 (wrap64 (x5_1 + 1))) else (if x3_1.size + (Utf8.encode (rd t340 x5_1)).size ≤ 9223372036854775807 then (incipitref19_Slug.l0 k1 (x3_1 ++ (Utf8.encode (rd t340 x5_1))) t340 (wrap64 (x5_1 + 1))) else (none))) else (incipitref19_Slug.l0 k1 x3_1 t340 (wrap64 (x5_1 + 1)))))))) = some r := by rw [if_neg (show ¬ (false = true) by decide)] at H; exact H
            clear H
            have H := H1
            clear H1
            by_cases c13 : (rd t340 x5_1) = 45
            · rw [if_pos c13] at H
              have c13b0 : ((rd t340 x5_1) == 45) = true := beq_iff_eq.mpr c13
              have c13b1 : ((rd t340 x5_1) != 45) = false := bne_eq_false_iff_eq.mpr c13
              clear c13
              by_cases c14 : x3_1.size + (Utf8.encode (rd t340 x5_1)).size ≤ 9223372036854775807
              · rw [if_pos c14] at H
                have c14b0 := eq_true c14
                have c14b1 : decide (x3_1.size + (Utf8.encode (rd t340 x5_1)).size ≤ 9223372036854775807) = true := decide_eq_true c14
                try have c14b2 : (9223372036854775807 < x3_1.size + (Utf8.encode (rd t340 x5_1)).size) = False := eq_false (Nat.not_lt.2 c14)
                have H' := Aside0.mk H
                clear H
                obtain ⟨Ao15, co15, eo15⟩ := Kd.R_slice HO_4.out
                subst eo15
                have p343 : 0 ≤ (x5_1 : Int) := of_decide_eq_true (by first | (with_reducible assumption) | assumption)
                have q343 : x5_1 < (t340.length : Int) := of_decide_eq_true (by first | (with_reducible assumption) | assumption)
                obtain ⟨ad343, e343, hx343_0⟩ := Kd.at_int (Kd.R_reads' HO_4.out).2.2 x5_1 p343 q343
                cases e343
                replace p343 := eq_true p343
                replace q343 := eq_true q343
                go_wp2_with (first | ((with_reducible refine gate_callee (f := 26) rfl ?_); refine goesL_ (some 21) rfl rfl Tryd.func26 (by kernel_rfl) rfl #[.int .i32 (rd t340 x5_1)] rfl (by (try simp only [List.map_toArray, List.map_cons, List.map_nil]); first | done | rfl | (simp only [List.length_drop, List.length_take]; rfl)) ?_; (with_reducible refine (incipitref03_Space.calls k1 (rd t340 x5_1) false _ A8.out).mono ?_); rintro e w16 ⟨rfl, hb⟩; refine ⟨_, rfl, ?_⟩; have n0_ := Aside0.mk (Kd.R_below (by (with_reducible repeat (first | apply Kd.R_alloc | apply Kd.R_drewN | apply Kd.R_drew)); exact HO_4.out) hb); have n1_ := Aside0.mk (below_step (by repeat (first | (with_reducible first | exact HB.out | apply below_alloc | apply pw_below_drewN | apply below_drew1) | exact HB.out)) hb); clear HO_4; clear HB; have HO_4 := n0_; have HB := n1_; clear n0_ n1_; (try clear hb); (try clear hb2); (try clear hk); (try clear hi)))
                go_roundg k1
                case measure => have := HK1.out; omega
                case rel => exact ⟨(x3_1 ++ (Utf8.encode (rd t340 x5_1))), (wrap64 (x5_1 + 1)), (by first | rfl | (simp; done) | (simp [*]; done)), (by first | rfl | (simp; done) | (simp [*]; done)), H', ⟨by have := HK1.out; omega⟩, ⟨by (with_reducible repeat (first | apply Kd.R_alloc | apply Kd.R_drewN | apply Kd.R_drew)); exact HO_4.out⟩, ⟨by repeat (first | (with_reducible first | exact HB.out | apply below_alloc | apply pw_below_drewN | apply below_drew1) | exact HB.out)⟩⟩
              · rw [if_neg c14] at H
                exact absurd H (by simp)
            · rw [if_neg c13] at H
              have c13b0 : ((rd t340 x5_1) == 45) = false := beq_eq_false_iff_ne.mpr c13
              have c13b1 : ((rd t340 x5_1) != 45) = true := bne_iff_ne.mpr c13
              by_cases c17 : (rd t340 x5_1) = 95
              · rw [if_pos c17] at H
                have c17b0 : ((rd t340 x5_1) == 95) = true := beq_iff_eq.mpr c17
                have c17b1 : ((rd t340 x5_1) != 95) = false := bne_eq_false_iff_eq.mpr c17
                clear c17
                by_cases c18 : x3_1.size + (Utf8.encode (rd t340 x5_1)).size ≤ 9223372036854775807
                · rw [if_pos c18] at H
                  have c18b0 := eq_true c18
                  have c18b1 : decide (x3_1.size + (Utf8.encode (rd t340 x5_1)).size ≤ 9223372036854775807) = true := decide_eq_true c18
                  try have c18b2 : (9223372036854775807 < x3_1.size + (Utf8.encode (rd t340 x5_1)).size) = False := eq_false (Nat.not_lt.2 c18)
                  have H' := Aside0.mk H
                  clear H
                  obtain ⟨Ao19, co19, eo19⟩ := Kd.R_slice HO_4.out
                  subst eo19
                  have p343 : 0 ≤ (x5_1 : Int) := of_decide_eq_true (by first | (with_reducible assumption) | assumption)
                  have q343 : x5_1 < (t340.length : Int) := of_decide_eq_true (by first | (with_reducible assumption) | assumption)
                  obtain ⟨ad343, e343, hx343_0⟩ := Kd.at_int (Kd.R_reads' HO_4.out).2.2 x5_1 p343 q343
                  cases e343
                  replace p343 := eq_true p343
                  replace q343 := eq_true q343
                  go_wp2_with (first | ((with_reducible refine gate_callee (f := 26) rfl ?_); refine goesL_ (some 21) rfl rfl Tryd.func26 (by kernel_rfl) rfl #[.int .i32 (rd t340 x5_1)] rfl (by (try simp only [List.map_toArray, List.map_cons, List.map_nil]); first | done | rfl | (simp only [List.length_drop, List.length_take]; rfl)) ?_; (with_reducible refine (incipitref03_Space.calls k1 (rd t340 x5_1) false _ A8.out).mono ?_); rintro e w20 ⟨rfl, hb⟩; refine ⟨_, rfl, ?_⟩; have n0_ := Aside0.mk (Kd.R_below (by (with_reducible repeat (first | apply Kd.R_alloc | apply Kd.R_drewN | apply Kd.R_drew)); exact HO_4.out) hb); have n1_ := Aside0.mk (below_step (by repeat (first | (with_reducible first | exact HB.out | apply below_alloc | apply pw_below_drewN | apply below_drew1) | exact HB.out)) hb); clear HO_4; clear HB; have HO_4 := n0_; have HB := n1_; clear n0_ n1_; (try clear hb); (try clear hb2); (try clear hk); (try clear hi)))
                  go_roundg k1
                  case measure => have := HK1.out; omega
                  case rel => exact ⟨(x3_1 ++ (Utf8.encode (rd t340 x5_1))), (wrap64 (x5_1 + 1)), (by first | rfl | (simp; done) | (simp [*]; done)), (by first | rfl | (simp; done) | (simp [*]; done)), H', ⟨by have := HK1.out; omega⟩, ⟨by (with_reducible repeat (first | apply Kd.R_alloc | apply Kd.R_drewN | apply Kd.R_drew)); exact HO_4.out⟩, ⟨by repeat (first | (with_reducible first | exact HB.out | apply below_alloc | apply pw_below_drewN | apply below_drew1) | exact HB.out)⟩⟩
                · rw [if_neg c18] at H
                  exact absurd H (by simp)
              · rw [if_neg c17] at H
                have c17b0 : ((rd t340 x5_1) == 95) = false := beq_eq_false_iff_ne.mpr c17
                have c17b1 : ((rd t340 x5_1) != 95) = true := bne_iff_ne.mpr c17
                replace H := Option.bind_eq_some_iff.mp H
                obtain ⟨t345, A210, H⟩ := H
                replace H : (if t345 = true then (incipitref19_Slug.l0 k1 x3_1 t340 (wrap64 (x5_1 + 1))) else (if (rd t340 x5_1) ≥ 32 then (if (rd t340 x5_1) = 127 then (incipitref19_Slug.l0 k1 x3_1 t340 (wrap64 (x5_1 + 1))) else (if x3_1.size + (Utf8.encode (rd t340 x5_1)).size ≤ 9223372036854775807 then (incipitref19_Slug.l0 k1 (x3_1 ++ (Utf8.encode (rd t340 x5_1))) t340 (wrap64 (x5_1 + 1))) else (none))) else (incipitref19_Slug.l0 k1 x3_1 t340 (wrap64 (x5_1 + 1))))) = some r := H
                have A21 := Aside0.mk A210
                clear A210
                by_cases c22 : t345 = true
                · subst c22
                  have H1 : (incipitref19_Slug.l0 k1 x3_1 t340 (wrap64 (x5_1 + 1))) = some r := by rw [if_pos rfl] at H; exact H
                  clear H
                  have H := H1
                  clear H1
                  have H' := Aside0.mk H
                  clear H
                  obtain ⟨Ao23, co23, eo23⟩ := Kd.R_slice HO_4.out
                  subst eo23
                  have p343 : 0 ≤ (x5_1 : Int) := of_decide_eq_true (by first | (with_reducible assumption) | assumption)
                  have q343 : x5_1 < (t340.length : Int) := of_decide_eq_true (by first | (with_reducible assumption) | assumption)
                  obtain ⟨ad343, e343, hx343_0⟩ := Kd.at_int (Kd.R_reads' HO_4.out).2.2 x5_1 p343 q343
                  cases e343
                  replace p343 := eq_true p343
                  replace q343 := eq_true q343
                  go_wp2_with (first | ((with_reducible refine gate_callee (f := 26) rfl ?_); refine goesL_ (some 21) rfl rfl Tryd.func26 (by kernel_rfl) rfl #[.int .i32 (rd t340 x5_1)] rfl (by (try simp only [List.map_toArray, List.map_cons, List.map_nil]); first | done | rfl | (simp only [List.length_drop, List.length_take]; rfl)) ?_; (with_reducible refine (incipitref03_Space.calls k1 (rd t340 x5_1) false _ A8.out).mono ?_); rintro e w24 ⟨rfl, hb⟩; refine ⟨_, rfl, ?_⟩; have n0_ := Aside0.mk (Kd.R_below (by (with_reducible repeat (first | apply Kd.R_alloc | apply Kd.R_drewN | apply Kd.R_drew)); exact HO_4.out) hb); have n1_ := Aside0.mk (below_step (by repeat (first | (with_reducible first | exact HB.out | apply below_alloc | apply pw_below_drewN | apply below_drew1) | exact HB.out)) hb); clear HO_4; clear HB; have HO_4 := n0_; have HB := n1_; clear n0_ n1_; (try clear hb); (try clear hb2); (try clear hk); (try clear hi)) | (go_at_call 28; (with_reducible refine (incipitref03_Punct.calls k1 (rd t340 x5_1) true _ A21.out).mono ?_); rintro e w25 ⟨rfl, hb⟩; have n0_ := Aside0.mk (Kd.R_below (by (with_reducible repeat (first | apply Kd.R_alloc | apply Kd.R_drewN | apply Kd.R_drew)); exact HO_4.out) hb); have n1_ := Aside0.mk (below_step (by repeat (first | (with_reducible first | exact HB.out | apply below_alloc | apply pw_below_drewN | apply below_drew1) | exact HB.out)) hb); clear HO_4; clear HB; have HO_4 := n0_; have HB := n1_; clear n0_ n1_; (try clear hb); (try clear hb2); (try clear hk); (try clear hi)))
                  go_roundg k1
                  case measure => have := HK1.out; omega
                  case rel => exact ⟨(x3_1), (wrap64 (x5_1 + 1)), (by first | rfl | (simp; done) | (simp [*]; done)), (by first | rfl | (simp; done) | (simp [*]; done)), H', ⟨by have := HK1.out; omega⟩, ⟨by (with_reducible repeat (first | apply Kd.R_alloc | apply Kd.R_drewN | apply Kd.R_drew)); exact HO_4.out⟩, ⟨by repeat (first | (with_reducible first | exact HB.out | apply below_alloc | apply pw_below_drewN | apply below_drew1) | exact HB.out)⟩⟩
                · replace c22 := Bool.eq_false_iff.mpr c22
                  subst c22
                  have H1 : (if (rd t340 x5_1) ≥ 32 then (if (rd t340 x5_1) = 127 then (incipitref19_Slug.l0 k1 x3_1 t340 (wrap64 (x5_1 + 1))) else (if x3_1.size + (Utf8.encode (rd t340 x5_1)).size ≤ 9223372036854775807 then (incipitref19_Slug.l0 k1 (x3_1 ++ (Utf8.encode (rd t340 x5_1))) t340 (wrap64 (x5_1 + 1))) else (none))) else (incipitref19_Slug.l0 k1 x3_1 t340 (wrap64 (x5_1 + 1)))) = some r := by rw [if_neg (show ¬ (false = true) by decide)] at H; exact H
                  clear H
                  have H := H1
                  clear H1
                  by_cases c26 : (rd t340 x5_1) ≥ 32
                  · rw [if_pos c26] at H
                    have c26b0 : decide (32 ≤ (rd t340 x5_1)) = true := decide_eq_true c26
                    clear c26
                    by_cases c27 : (rd t340 x5_1) = 127
                    · rw [if_pos c27] at H
                      have c27b0 : ((rd t340 x5_1) == 127) = true := beq_iff_eq.mpr c27
                      have c27b1 : ((rd t340 x5_1) != 127) = false := bne_eq_false_iff_eq.mpr c27
                      clear c27
                      have H' := Aside0.mk H
                      clear H
                      obtain ⟨Ao28, co28, eo28⟩ := Kd.R_slice HO_4.out
                      subst eo28
                      have p343 : 0 ≤ (x5_1 : Int) := of_decide_eq_true (by first | (with_reducible assumption) | assumption)
                      have q343 : x5_1 < (t340.length : Int) := of_decide_eq_true (by first | (with_reducible assumption) | assumption)
                      obtain ⟨ad343, e343, hx343_0⟩ := Kd.at_int (Kd.R_reads' HO_4.out).2.2 x5_1 p343 q343
                      cases e343
                      replace p343 := eq_true p343
                      replace q343 := eq_true q343
                      go_wp2_with (first | ((with_reducible refine gate_callee (f := 26) rfl ?_); refine goesL_ (some 21) rfl rfl Tryd.func26 (by kernel_rfl) rfl #[.int .i32 (rd t340 x5_1)] rfl (by (try simp only [List.map_toArray, List.map_cons, List.map_nil]); first | done | rfl | (simp only [List.length_drop, List.length_take]; rfl)) ?_; (with_reducible refine (incipitref03_Space.calls k1 (rd t340 x5_1) false _ A8.out).mono ?_); rintro e w29 ⟨rfl, hb⟩; refine ⟨_, rfl, ?_⟩; have n0_ := Aside0.mk (Kd.R_below (by (with_reducible repeat (first | apply Kd.R_alloc | apply Kd.R_drewN | apply Kd.R_drew)); exact HO_4.out) hb); have n1_ := Aside0.mk (below_step (by repeat (first | (with_reducible first | exact HB.out | apply below_alloc | apply pw_below_drewN | apply below_drew1) | exact HB.out)) hb); clear HO_4; clear HB; have HO_4 := n0_; have HB := n1_; clear n0_ n1_; (try clear hb); (try clear hb2); (try clear hk); (try clear hi)) | (go_at_call 28; (with_reducible refine (incipitref03_Punct.calls k1 (rd t340 x5_1) false _ A21.out).mono ?_); rintro e w30 ⟨rfl, hb⟩; have n0_ := Aside0.mk (Kd.R_below (by (with_reducible repeat (first | apply Kd.R_alloc | apply Kd.R_drewN | apply Kd.R_drew)); exact HO_4.out) hb); have n1_ := Aside0.mk (below_step (by repeat (first | (with_reducible first | exact HB.out | apply below_alloc | apply pw_below_drewN | apply below_drew1) | exact HB.out)) hb); clear HO_4; clear HB; have HO_4 := n0_; have HB := n1_; clear n0_ n1_; (try clear hb); (try clear hb2); (try clear hk); (try clear hi)))
                      go_roundg k1
                      case measure => have := HK1.out; omega
                      case rel => exact ⟨(x3_1), (wrap64 (x5_1 + 1)), (by first | rfl | (simp; done) | (simp [*]; done)), (by first | rfl | (simp; done) | (simp [*]; done)), H', ⟨by have := HK1.out; omega⟩, ⟨by (with_reducible repeat (first | apply Kd.R_alloc | apply Kd.R_drewN | apply Kd.R_drew)); exact HO_4.out⟩, ⟨by repeat (first | (with_reducible first | exact HB.out | apply below_alloc | apply pw_below_drewN | apply below_drew1) | exact HB.out)⟩⟩
                    · rw [if_neg c27] at H
                      have c27b0 : ((rd t340 x5_1) == 127) = false := beq_eq_false_iff_ne.mpr c27
                      have c27b1 : ((rd t340 x5_1) != 127) = true := bne_iff_ne.mpr c27
                      by_cases c31 : x3_1.size + (Utf8.encode (rd t340 x5_1)).size ≤ 9223372036854775807
                      · rw [if_pos c31] at H
                        have c31b0 := eq_true c31
                        have c31b1 : decide (x3_1.size + (Utf8.encode (rd t340 x5_1)).size ≤ 9223372036854775807) = true := decide_eq_true c31
                        try have c31b2 : (9223372036854775807 < x3_1.size + (Utf8.encode (rd t340 x5_1)).size) = False := eq_false (Nat.not_lt.2 c31)
                        have H' := Aside0.mk H
                        clear H
                        obtain ⟨Ao32, co32, eo32⟩ := Kd.R_slice HO_4.out
                        subst eo32
                        have p343 : 0 ≤ (x5_1 : Int) := of_decide_eq_true (by first | (with_reducible assumption) | assumption)
                        have q343 : x5_1 < (t340.length : Int) := of_decide_eq_true (by first | (with_reducible assumption) | assumption)
                        obtain ⟨ad343, e343, hx343_0⟩ := Kd.at_int (Kd.R_reads' HO_4.out).2.2 x5_1 p343 q343
                        cases e343
                        replace p343 := eq_true p343
                        replace q343 := eq_true q343
                        go_wp2_with (first | ((with_reducible refine gate_callee (f := 26) rfl ?_); refine goesL_ (some 21) rfl rfl Tryd.func26 (by kernel_rfl) rfl #[.int .i32 (rd t340 x5_1)] rfl (by (try simp only [List.map_toArray, List.map_cons, List.map_nil]); first | done | rfl | (simp only [List.length_drop, List.length_take]; rfl)) ?_; (with_reducible refine (incipitref03_Space.calls k1 (rd t340 x5_1) false _ A8.out).mono ?_); rintro e w33 ⟨rfl, hb⟩; refine ⟨_, rfl, ?_⟩; have n0_ := Aside0.mk (Kd.R_below (by (with_reducible repeat (first | apply Kd.R_alloc | apply Kd.R_drewN | apply Kd.R_drew)); exact HO_4.out) hb); have n1_ := Aside0.mk (below_step (by repeat (first | (with_reducible first | exact HB.out | apply below_alloc | apply pw_below_drewN | apply below_drew1) | exact HB.out)) hb); clear HO_4; clear HB; have HO_4 := n0_; have HB := n1_; clear n0_ n1_; (try clear hb); (try clear hb2); (try clear hk); (try clear hi)) | (go_at_call 28; (with_reducible refine (incipitref03_Punct.calls k1 (rd t340 x5_1) false _ A21.out).mono ?_); rintro e w34 ⟨rfl, hb⟩; have n0_ := Aside0.mk (Kd.R_below (by (with_reducible repeat (first | apply Kd.R_alloc | apply Kd.R_drewN | apply Kd.R_drew)); exact HO_4.out) hb); have n1_ := Aside0.mk (below_step (by repeat (first | (with_reducible first | exact HB.out | apply below_alloc | apply pw_below_drewN | apply below_drew1) | exact HB.out)) hb); clear HO_4; clear HB; have HO_4 := n0_; have HB := n1_; clear n0_ n1_; (try clear hb); (try clear hb2); (try clear hk); (try clear hi)))
                        go_roundg k1
                        case measure => have := HK1.out; omega
                        case rel => exact ⟨(x3_1 ++ (Utf8.encode (rd t340 x5_1))), (wrap64 (x5_1 + 1)), (by first | rfl | (simp; done) | (simp [*]; done)), (by first | rfl | (simp; done) | (simp [*]; done)), H', ⟨by have := HK1.out; omega⟩, ⟨by (with_reducible repeat (first | apply Kd.R_alloc | apply Kd.R_drewN | apply Kd.R_drew)); exact HO_4.out⟩, ⟨by repeat (first | (with_reducible first | exact HB.out | apply below_alloc | apply pw_below_drewN | apply below_drew1) | exact HB.out)⟩⟩
                      · rw [if_neg c31] at H
                        exact absurd H (by simp)
                  · rw [if_neg c26] at H
                    have c26b0 : decide (32 ≤ (rd t340 x5_1)) = false := decide_eq_false c26
                    clear c26
                    have H' := Aside0.mk H
                    clear H
                    obtain ⟨Ao35, co35, eo35⟩ := Kd.R_slice HO_4.out
                    subst eo35
                    have p343 : 0 ≤ (x5_1 : Int) := of_decide_eq_true (by first | (with_reducible assumption) | assumption)
                    have q343 : x5_1 < (t340.length : Int) := of_decide_eq_true (by first | (with_reducible assumption) | assumption)
                    obtain ⟨ad343, e343, hx343_0⟩ := Kd.at_int (Kd.R_reads' HO_4.out).2.2 x5_1 p343 q343
                    cases e343
                    replace p343 := eq_true p343
                    replace q343 := eq_true q343
                    go_wp2_with (first | ((with_reducible refine gate_callee (f := 26) rfl ?_); refine goesL_ (some 21) rfl rfl Tryd.func26 (by kernel_rfl) rfl #[.int .i32 (rd t340 x5_1)] rfl (by (try simp only [List.map_toArray, List.map_cons, List.map_nil]); first | done | rfl | (simp only [List.length_drop, List.length_take]; rfl)) ?_; (with_reducible refine (incipitref03_Space.calls k1 (rd t340 x5_1) false _ A8.out).mono ?_); rintro e w36 ⟨rfl, hb⟩; refine ⟨_, rfl, ?_⟩; have n0_ := Aside0.mk (Kd.R_below (by (with_reducible repeat (first | apply Kd.R_alloc | apply Kd.R_drewN | apply Kd.R_drew)); exact HO_4.out) hb); have n1_ := Aside0.mk (below_step (by repeat (first | (with_reducible first | exact HB.out | apply below_alloc | apply pw_below_drewN | apply below_drew1) | exact HB.out)) hb); clear HO_4; clear HB; have HO_4 := n0_; have HB := n1_; clear n0_ n1_; (try clear hb); (try clear hb2); (try clear hk); (try clear hi)) | (go_at_call 28; (with_reducible refine (incipitref03_Punct.calls k1 (rd t340 x5_1) false _ A21.out).mono ?_); rintro e w37 ⟨rfl, hb⟩; have n0_ := Aside0.mk (Kd.R_below (by (with_reducible repeat (first | apply Kd.R_alloc | apply Kd.R_drewN | apply Kd.R_drew)); exact HO_4.out) hb); have n1_ := Aside0.mk (below_step (by repeat (first | (with_reducible first | exact HB.out | apply below_alloc | apply pw_below_drewN | apply below_drew1) | exact HB.out)) hb); clear HO_4; clear HB; have HO_4 := n0_; have HB := n1_; clear n0_ n1_; (try clear hb); (try clear hb2); (try clear hk); (try clear hi)))
                    go_roundg k1
                    case measure => have := HK1.out; omega
                    case rel => exact ⟨(x3_1), (wrap64 (x5_1 + 1)), (by first | rfl | (simp; done) | (simp [*]; done)), (by first | rfl | (simp; done) | (simp [*]; done)), H', ⟨by have := HK1.out; omega⟩, ⟨by (with_reducible repeat (first | apply Kd.R_alloc | apply Kd.R_drewN | apply Kd.R_drew)); exact HO_4.out⟩, ⟨by repeat (first | (with_reducible first | exact HB.out | apply below_alloc | apply pw_below_drewN | apply below_drew1) | exact HB.out)⟩⟩
        · rw [if_neg c7] at H
          exact absurd H (by simp)
      · rw [if_neg c6] at H
        have c6b0 : decide (x5_1 < (t340.length : Int)) = false := decide_eq_false c6
        clear c6
        by_cases c38 : x3_1.toList = ([] : List UInt8)
        · rw [if_pos c38] at H
          have c38b0 : (x3_1.toList == ([] : List UInt8)) = true := beq_iff_eq.mpr c38
          have c38b1 : (x3_1.toList != ([] : List UInt8)) = false := bne_eq_false_iff_eq.mpr c38
          clear c38
          obtain rfl := Option.some.inj H
          obtain ⟨Ao39, co39, eo39⟩ := Kd.R_slice HO_4.out
          subst eo39
          go_wp2
          go_ret
          exact ⟨by first | rfl | (simp [errW_none, errW_some] <;> rfl) | (simp [*, errW_none, errW_some] <;> rfl), by repeat (first | (with_reducible first | exact HB.out | apply below_alloc | apply pw_below_drewN | apply below_drew1) | exact HB.out)⟩
        · rw [if_neg c38] at H
          have c38b0 : (x3_1.toList == ([] : List UInt8)) = false := beq_eq_false_iff_ne.mpr c38
          have c38b1 : (x3_1.toList != ([] : List UInt8)) = true := bne_iff_ne.mpr c38
          by_cases c40 : (x3_1.size : Int) > 1
          · rw [if_pos c40] at H
            have c40b0 : decide (1 < (x3_1.size : Int)) = true := decide_eq_true c40
            have c40b1 : decide (1 < x3_1.size) = true := decide_eq_true (by omega)
            clear c40
            by_cases c41 : 0 < (x3_1.size : Int)
            · rw [if_pos c41] at H
              have c41b0 : decide (0 < (x3_1.size : Int)) = true := decide_eq_true c41
              have c41b1 : decide (0 < x3_1.size) = true := decide_eq_true (by omega)
              clear c41
              by_cases c43 : (bt x3_1 0) = 102
              · rw [if_pos c43] at H
                have c43b0 : ((bt x3_1 0) == 102) = true := beq_iff_eq.mpr c43
                have c43b1 : ((bt x3_1 0) != 102) = false := bne_eq_false_iff_eq.mpr c43
                clear c43
                by_cases c44 : 1 < (x3_1.size : Int)
                · rw [if_pos c44] at H
                  have c44b0 : decide (1 < (x3_1.size : Int)) = true := decide_eq_true c44
                  have c44b1 : decide (1 < x3_1.size) = true := decide_eq_true (by omega)
                  clear c44
                  by_cases c46 : (bt x3_1 1) = 110
                  · rw [if_pos c46] at H
                    have c46b0 : ((bt x3_1 1) == 110) = true := beq_iff_eq.mpr c46
                    have c46b1 : ((bt x3_1 1) != 110) = false := bne_eq_false_iff_eq.mpr c46
                    clear c46
                    by_cases c47 : 2 + x3_1.size ≤ 9223372036854775807
                    · rw [if_pos c47] at H
                      have c47b0 := eq_true c47
                      have c47b1 : decide (2 + x3_1.size ≤ 9223372036854775807) = true := decide_eq_true c47
                      try have c47b2 : (9223372036854775807 < 2 + x3_1.size) = False := eq_false (Nat.not_lt.2 c47)
                      obtain rfl := Option.some.inj H
                      obtain ⟨Ao48, co48, eo48⟩ := Kd.R_slice HO_4.out
                      subst eo48
                      have p42 : 0 ≤ (0 : Int) := (by omega)
                      have q42 : 0 < x3_1.size := (by have : (0 : Int) < (x3_1.size : Int) := of_decide_eq_true (by first | (with_reducible assumption) | assumption); omega)
                      have hx42 : ∀ h : 0 < x3_1.size, ((x3_1[0]'h).toNat : Int) = bt x3_1 0 := bt_at x3_1 0
                      clear p42
                      have qi42 : (0 < (x3_1.size : Int)) = True := eq_true (of_decide_eq_true (by first | (with_reducible assumption) | assumption))
                      replace q42 := eq_true q42
                      have p45 : 0 ≤ (1 : Int) := (by omega)
                      have q45 : 1 < x3_1.size := (by have : (1 : Int) < (x3_1.size : Int) := of_decide_eq_true (by first | (with_reducible assumption) | assumption); omega)
                      have hx45 : ∀ h : 1 < x3_1.size, ((x3_1[1]'h).toNat : Int) = bt x3_1 1 := bt_at x3_1 1
                      clear p45
                      have qi45 : (1 < (x3_1.size : Int)) = True := eq_true (of_decide_eq_true (by first | (with_reducible assumption) | assumption))
                      replace q45 := eq_true q45
                      go_wp2
                      go_ret
                      exact ⟨by first | rfl | (simp [errW_none, errW_some] <;> rfl) | (simp [*, errW_none, errW_some] <;> rfl), by repeat (first | (with_reducible first | exact HB.out | apply below_alloc | apply pw_below_drewN | apply below_drew1) | exact HB.out)⟩
                    · rw [if_neg c47] at H
                      exact absurd H (by simp)
                  · rw [if_neg c46] at H
                    have c46b0 : ((bt x3_1 1) == 110) = false := beq_eq_false_iff_ne.mpr c46
                    have c46b1 : ((bt x3_1 1) != 110) = true := bne_iff_ne.mpr c46
                    obtain rfl := Option.some.inj H
                    obtain ⟨Ao49, co49, eo49⟩ := Kd.R_slice HO_4.out
                    subst eo49
                    have p42 : 0 ≤ (0 : Int) := (by omega)
                    have q42 : 0 < x3_1.size := (by have : (0 : Int) < (x3_1.size : Int) := of_decide_eq_true (by first | (with_reducible assumption) | assumption); omega)
                    have hx42 : ∀ h : 0 < x3_1.size, ((x3_1[0]'h).toNat : Int) = bt x3_1 0 := bt_at x3_1 0
                    clear p42
                    have qi42 : (0 < (x3_1.size : Int)) = True := eq_true (of_decide_eq_true (by first | (with_reducible assumption) | assumption))
                    replace q42 := eq_true q42
                    have p45 : 0 ≤ (1 : Int) := (by omega)
                    have q45 : 1 < x3_1.size := (by have : (1 : Int) < (x3_1.size : Int) := of_decide_eq_true (by first | (with_reducible assumption) | assumption); omega)
                    have hx45 : ∀ h : 1 < x3_1.size, ((x3_1[1]'h).toNat : Int) = bt x3_1 1 := bt_at x3_1 1
                    clear p45
                    have qi45 : (1 < (x3_1.size : Int)) = True := eq_true (of_decide_eq_true (by first | (with_reducible assumption) | assumption))
                    replace q45 := eq_true q45
                    go_wp2
                    go_ret
                    exact ⟨by first | rfl | (simp [errW_none, errW_some] <;> rfl) | (simp [*, errW_none, errW_some] <;> rfl), by repeat (first | (with_reducible first | exact HB.out | apply below_alloc | apply pw_below_drewN | apply below_drew1) | exact HB.out)⟩
                · rw [if_neg c44] at H
                  exact absurd H (by simp)
              · rw [if_neg c43] at H
                have c43b0 : ((bt x3_1 0) == 102) = false := beq_eq_false_iff_ne.mpr c43
                have c43b1 : ((bt x3_1 0) != 102) = true := bne_iff_ne.mpr c43
                obtain rfl := Option.some.inj H
                obtain ⟨Ao50, co50, eo50⟩ := Kd.R_slice HO_4.out
                subst eo50
                have p42 : 0 ≤ (0 : Int) := (by omega)
                have q42 : 0 < x3_1.size := (by have : (0 : Int) < (x3_1.size : Int) := of_decide_eq_true (by first | (with_reducible assumption) | assumption); omega)
                have hx42 : ∀ h : 0 < x3_1.size, ((x3_1[0]'h).toNat : Int) = bt x3_1 0 := bt_at x3_1 0
                clear p42
                have qi42 : (0 < (x3_1.size : Int)) = True := eq_true (of_decide_eq_true (by first | (with_reducible assumption) | assumption))
                replace q42 := eq_true q42
                go_wp2
                go_ret
                exact ⟨by first | rfl | (simp [errW_none, errW_some] <;> rfl) | (simp [*, errW_none, errW_some] <;> rfl), by repeat (first | (with_reducible first | exact HB.out | apply below_alloc | apply pw_below_drewN | apply below_drew1) | exact HB.out)⟩
            · rw [if_neg c41] at H
              exact absurd H (by simp)
          · rw [if_neg c40] at H
            have c40b0 : decide (1 < (x3_1.size : Int)) = false := decide_eq_false c40
            have c40b1 : decide (1 < x3_1.size) = false := decide_eq_false (by omega)
            clear c40
            obtain rfl := Option.some.inj H
            obtain ⟨Ao51, co51, eo51⟩ := Kd.R_slice HO_4.out
            subst eo51
            go_wp2
            go_ret
            exact ⟨by first | rfl | (simp [errW_none, errW_some] <;> rfl) | (simp [*, errW_none, errW_some] <;> rfl), by repeat (first | (with_reducible first | exact HB.out | apply below_alloc | apply pw_below_drewN | apply below_drew1) | exact HB.out)⟩

end Go.Proofs.YtbgbmphjjdiaeaaDoor.P
