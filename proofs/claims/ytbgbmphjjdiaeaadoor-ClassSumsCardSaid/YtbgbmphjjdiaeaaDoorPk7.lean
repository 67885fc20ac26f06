/- Functions of the seat as plain Lean functions, and proofs that the Go code comes to them; laid by wip/handprint.py over the kit's printer. -/
import Derived.Test.YtbgbmphjjdiaeaaDoorPk0
import Derived.Test.YtbgbmphjjdiaeaaDoorClean
import Derived.Test.YtbgbmphjjdiaeaaDoorForms
import Derived.Test.YtbgbmphjjdiaeaaDoorPk3
import Derived.Test.YtbgbmphjjdiaeaaDoorSpace
namespace Go.Proofs.YtbgbmphjjdiaeaaDoor.P
open Go.RowKit Go.Proofs.YtbgbmphjjdiaeaaDoorW.PrintWords Go.Proofs.YtbgbmphjjdiaeaaDoorW.PrintLast Go.Proofs.YtbgbmphjjdiaeaaDoorW.PrintMore
attribute [local go_sem] max2_int min2_int max_two min_two max_three min_three max_four min_four   -- for this text's walks alone
set_option linter.unusedVariables false
set_option linter.unusedSimpArgs false

/-! ### incipitlaw03_awake: function 24 -/
def incipitlaw03_awake.f  : Option (Bool) := (class_Fold.f (⟨#[195, 132, 66, 225, 186, 158]⟩ : ByteArray)).bind fun t166 => (if t166.toList = ([195, 164, 98, 115, 115] : List UInt8) then ((class_Label.f (⟨#[32, 65, 10, 32, 98]⟩ : ByteArray)).bind fun t167 => (if t167.toList = ([97, 32, 98] : List UInt8) then ((class_Space.f 160).bind fun t168 => (if t168 = true then ((class_Punct.f 33).bind fun t169 => (if t169 = true then ((class_Letter.f 122).bind fun t170 => (if t170 = true then ((class_Digit.f 48).bind fun t171 => (some t171)) else (none))) else (none))) else (none))) else (none))) else (none))
set_option maxHeartbeats 8000000 in
set_option maxRecDepth 100000 in
theorem incipitlaw03_awake.calls  (r : Bool) (w : World) (h : incipitlaw03_awake.f  = some r) (hT : Tabs w) :
    Calls Tryd.prog 24 #[] w fun e w' => e = .returned (.bool r) ∧ Below w.heap.size w w' := by
  have HT := Aside0.mk hT
  clear hT
  have HB := Aside0.mk (Below.refl w.heap.size w)
  have H : ((class_Fold.f (⟨#[195, 132, 66, 225, 186, 158]⟩ : ByteArray)).bind fun t166 => (if t166.toList = ([195, 164, 98, 115, 115] : List UInt8) then ((class_Label.f (⟨#[32, 65, 10, 32, 98]⟩ : ByteArray)).bind fun t167 => (if t167.toList = ([97, 32, 98] : List UInt8) then ((class_Space.f 160).bind fun t168 => (if t168 = true then ((class_Punct.f 33).bind fun t169 => (if t169 = true then ((class_Letter.f 122).bind fun t170 => (if t170 = true then ((class_Digit.f 48).bind fun t171 => (some t171)) else (none))) else (none))) else (none))) else (none))) else (none))) = some r := h
  clear h
  replace H := Option.bind_eq_some_iff.mp H
  obtain ⟨t166, A10, H⟩ := H
  replace H : (if t166.toList = ([195, 164, 98, 115, 115] : List UInt8) then ((class_Label.f (⟨#[32, 65, 10, 32, 98]⟩ : ByteArray)).bind fun t167 => (if t167.toList = ([97, 32, 98] : List UInt8) then ((class_Space.f 160).bind fun t168 => (if t168 = true then ((class_Punct.f 33).bind fun t169 => (if t169 = true then ((class_Letter.f 122).bind fun t170 => (if t170 = true then ((class_Digit.f 48).bind fun t171 => (some t171)) else (none))) else (none))) else (none))) else (none))) else (none)) = some r := H
  have A1 := Aside0.mk A10
  clear A10
  by_cases c2 : t166.toList = ([195, 164, 98, 115, 115] : List UInt8)
  · rw [if_pos c2] at H
    have c2b0 : (t166.toList == ([195, 164, 98, 115, 115] : List UInt8)) = true := beq_iff_eq.mpr c2
    have c2b1 : (t166.toList != ([195, 164, 98, 115, 115] : List UInt8)) = false := bne_eq_false_iff_eq.mpr c2
    clear c2
    replace H := Option.bind_eq_some_iff.mp H
    obtain ⟨t167, A30, H⟩ := H
    replace H : (if t167.toList = ([97, 32, 98] : List UInt8) then ((class_Space.f 160).bind fun t168 => (if t168 = true then ((class_Punct.f 33).bind fun t169 => (if t169 = true then ((class_Letter.f 122).bind fun t170 => (if t170 = true then ((class_Digit.f 48).bind fun t171 => (some t171)) else (none))) else (none))) else (none))) else (none)) = some r := H
    have A3 := Aside0.mk A30
    clear A30
    by_cases c4 : t167.toList = ([97, 32, 98] : List UInt8)
    · rw [if_pos c4] at H
      have c4b0 : (t167.toList == ([97, 32, 98] : List UInt8)) = true := beq_iff_eq.mpr c4
      have c4b1 : (t167.toList != ([97, 32, 98] : List UInt8)) = false := bne_eq_false_iff_eq.mpr c4
      clear c4
      replace H := Option.bind_eq_some_iff.mp H
      obtain ⟨t168, A50, H⟩ := H
      replace H : (if t168 = true then ((class_Punct.f 33).bind fun t169 => (if t169 = true then ((class_Letter.f 122).bind fun t170 => (if t170 = true then ((class_Digit.f 48).bind fun t171 => (some t171)) else (none))) else (none))) else (none)) = some r := H
      have A5 := Aside0.mk A50
      clear A50
      by_cases c6 : t168 = true
      · subst c6
        have H1 : ((class_Punct.f 33).bind fun t169 => (if t169 = true then ((class_Letter.f 122).bind fun t170 => (if t170 = true then ((class_Digit.f 48).bind fun t171 => (some t171)) else (none))) else (none))) = some r := by rw [if_pos rfl] at H; exact H
        clear H
        have H := H1
        clear H1
        replace H := Option.bind_eq_some_iff.mp H
        obtain ⟨t169, A70, H⟩ := H
        replace H : (if t169 = true then ((class_Letter.f 122).bind fun t170 => (if t170 = true then ((class_Digit.f 48).bind fun t171 => (some t171)) else (none))) else (none)) = some r := H
        have A7 := Aside0.mk A70
        clear A70
        by_cases c8 : t169 = true
        · subst c8
          have H1 : ((class_Letter.f 122).bind fun t170 => (if t170 = true then ((class_Digit.f 48).bind fun t171 => (some t171)) else (none))) = some r := by rw [if_pos rfl] at H; exact H
          clear H
          have H := H1
          clear H1
          replace H := Option.bind_eq_some_iff.mp H
          obtain ⟨t170, A90, H⟩ := H
          replace H : (if t170 = true then ((class_Digit.f 48).bind fun t171 => (some t171)) else (none)) = some r := H
          have A9 := Aside0.mk A90
          clear A90
          by_cases c10 : t170 = true
          · subst c10
            have H1 : ((class_Digit.f 48).bind fun t171 => (some t171)) = some r := by rw [if_pos rfl] at H; exact H
            clear H
            have H := H1
            clear H1
            replace H := Option.bind_eq_some_iff.mp H
            obtain ⟨t171, A110, H⟩ := H
            replace H : (some t171) = some r := H
            have A11 := Aside0.mk A110
            clear A110
            obtain rfl := Option.some.inj H
            go_enter Tryd.func24, Tryd.ntmps24
            go_wp2_with (first | ((with_reducible refine gate_callee (f := 31) rfl ?_); refine goesL_ (some 1) rfl rfl Tryd.func31 (by kernel_rfl) rfl #[.string (⟨#[195, 132, 66, 225, 186, 158]⟩ : ByteArray)] rfl (by (try simp only [List.map_toArray, List.map_cons, List.map_nil]); first | done | rfl | (simp only [List.length_drop, List.length_take]; rfl)) ?_; (with_reducible refine (class_Fold.calls (⟨#[195, 132, 66, 225, 186, 158]⟩ : ByteArray) t166 _ A1.out (Tabs.below HT.out (by repeat (first | (with_reducible first | exact HB.out | apply below_alloc | apply pw_below_drewN | apply below_drew1) | exact HB.out)))).mono ?_); rintro e w12 ⟨rfl, hb⟩; refine ⟨_, rfl, ?_⟩; have n0_ := Aside0.mk (below_step (by repeat (first | (with_reducible first | exact HB.out | apply below_alloc | apply pw_below_drewN | apply below_drew1) | exact HB.out)) hb); clear HB; have HB := n0_; clear n0_; (try clear hb); (try clear hb2); (try clear hk); (try clear hi)) | (go_at_call 33; (with_reducible refine (class_Label.calls (⟨#[32, 65, 10, 32, 98]⟩ : ByteArray) t167 _ A3.out (Tabs.below HT.out (by repeat (first | (with_reducible first | exact HB.out | apply below_alloc | apply pw_below_drewN | apply below_drew1) | exact HB.out)))).mono ?_); rintro e w13 ⟨rfl, hb⟩; have n0_ := Aside0.mk (below_step (by repeat (first | (with_reducible first | exact HB.out | apply below_alloc | apply pw_below_drewN | apply below_drew1) | exact HB.out)) hb); clear HB; have HB := n0_; clear n0_; (try clear hb); (try clear hb2); (try clear hk); (try clear hi)) | (go_at_call 25; (with_reducible refine (class_Space.calls 160 true _ A5.out).mono ?_); rintro e w14 ⟨rfl, hb⟩; have n0_ := Aside0.mk (below_step (by repeat (first | (with_reducible first | exact HB.out | apply below_alloc | apply pw_below_drewN | apply below_drew1) | exact HB.out)) hb); clear HB; have HB := n0_; clear n0_; (try clear hb); (try clear hb2); (try clear hk); (try clear hi)) | (go_at_call 27; (with_reducible refine (class_Punct.calls 33 true _ A7.out).mono ?_); rintro e w15 ⟨rfl, hb⟩; have n0_ := Aside0.mk (below_step (by repeat (first | (with_reducible first | exact HB.out | apply below_alloc | apply pw_below_drewN | apply below_drew1) | exact HB.out)) hb); clear HB; have HB := n0_; clear n0_; (try clear hb); (try clear hb2); (try clear hk); (try clear hi)) | (go_at_call 29; (with_reducible refine (class_Letter.calls 122 true _ A9.out).mono ?_); rintro e w' ⟨rfl, ⟨nd, rfl⟩⟩) | (go_at_call 30; (with_reducible refine (class_Digit.calls 48 t171 _ A11.out).mono ?_); rintro e w' ⟨rfl, ⟨nd, rfl⟩⟩))
            go_ret
            exact ⟨by first | rfl | (simp [errW_none, errW_some] <;> rfl) | (simp [*, errW_none, errW_some] <;> rfl), by repeat (first | (with_reducible first | exact HB.out | apply below_alloc | apply pw_below_drewN | apply below_drew1) | exact HB.out)⟩
          · replace c10 := Bool.eq_false_iff.mpr c10
            subst c10
            have H1 : (none) = some r := by rw [if_neg (show ¬ (false = true) by decide)] at H; exact H
            clear H
            have H := H1
            clear H1
            exact absurd H (by simp)
        · replace c8 := Bool.eq_false_iff.mpr c8
          subst c8
          have H1 : (none) = some r := by rw [if_neg (show ¬ (false = true) by decide)] at H; exact H
          clear H
          have H := H1
          clear H1
          exact absurd H (by simp)
      · replace c6 := Bool.eq_false_iff.mpr c6
        subst c6
        have H1 : (none) = some r := by rw [if_neg (show ¬ (false = true) by decide)] at H; exact H
        clear H
        have H := H1
        clear H1
        exact absurd H (by simp)
    · rw [if_neg c4] at H
      exact absurd H (by simp)
  · rw [if_neg c2] at H
    exact absurd H (by simp)

end Go.Proofs.YtbgbmphjjdiaeaaDoor.P
