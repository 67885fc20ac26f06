/- Functions of the seat as plain Lean functions, and proofs that the Go code comes to them; laid by wip/handprint.py over the kit's printer. -/
import Derived.Test.YtbgbmphjjdiaeaaDoorPk0
import Derived.Test.YtbgbmphjjdiaeaaDoorClean
import Derived.Test.YtbgbmphjjdiaeaaDoorForms
import Derived.Test.YtbgbmphjjdiaeaaDoorPk7
namespace Go.Proofs.YtbgbmphjjdiaeaaDoor.P
open Go.RowKit Go.Proofs.YtbgbmphjjdiaeaaDoorW.PrintWords Go.Proofs.YtbgbmphjjdiaeaaDoorW.PrintLast Go.Proofs.YtbgbmphjjdiaeaaDoorW.PrintMore
attribute [local go_sem] max2_int min2_int max_two min_two max_three min_three max_four min_four   -- for this text's walks alone
set_option linter.unusedVariables false
set_option linter.unusedSimpArgs false

/-! ### incipitlaw03_ClassOnce: function 7 -/
def incipitlaw03_ClassOnce.f (a0 : ByteArray) : Option (Bool) := (incipitlaw03_awake.f).bind fun t279 => (if (a0.size : Int) > 2000 then (some t279) else ((class_Fold.f a0).bind fun t280 => ((class_Label.f a0).bind fun t281 => (if t279 = true then ((class_Fold.f t280).bind fun t282 => (if t282.toList = t280.toList then ((class_Label.f t281).bind fun t283 => (if t283.toList = t281.toList then ((class_Label.f t280).bind fun t284 => (if t284.toList = t281.toList then ((class_Fold.f t281).bind fun t285 => (some (t285.toList == t281.toList))) else (none))) else (none))) else (none))) else (none)))))
set_option maxHeartbeats 8000000 in
set_option maxRecDepth 100000 in
theorem incipitlaw03_ClassOnce.calls (a0 : ByteArray) (r : Bool) (w : World) (h : incipitlaw03_ClassOnce.f a0 = some r) (hT : Tabs w) :
    Calls Tryd.prog 7 #[.string a0] w fun e w' => e = .returned (.bool r) ∧ Below w.heap.size w w' := by
  have HT := Aside0.mk hT
  clear hT
  have HB := Aside0.mk (Below.refl w.heap.size w)
  have H : ((incipitlaw03_awake.f).bind fun t279 => (if (a0.size : Int) > 2000 then (some t279) else ((class_Fold.f a0).bind fun t280 => ((class_Label.f a0).bind fun t281 => (if t279 = true then ((class_Fold.f t280).bind fun t282 => (if t282.toList = t280.toList then ((class_Label.f t281).bind fun t283 => (if t283.toList = t281.toList then ((class_Label.f t280).bind fun t284 => (if t284.toList = t281.toList then ((class_Fold.f t281).bind fun t285 => (some (t285.toList == t281.toList))) else (none))) else (none))) else (none))) else (none)))))) = some r := h
  clear h
  replace H := Option.bind_eq_some_iff.mp H
  obtain ⟨t279, A20, H⟩ := H
  replace H : (if (a0.size : Int) > 2000 then (some t279) else ((class_Fold.f a0).bind fun t280 => ((class_Label.f a0).bind fun t281 => (if t279 = true then ((class_Fold.f t280).bind fun t282 => (if t282.toList = t280.toList then ((class_Label.f t281).bind fun t283 => (if t283.toList = t281.toList then ((class_Label.f t280).bind fun t284 => (if t284.toList = t281.toList then ((class_Fold.f t281).bind fun t285 => (some (t285.toList == t281.toList))) else (none))) else (none))) else (none))) else (none))))) = some r := H
  have A2 := Aside0.mk A20
  clear A20
  by_cases c3 : (a0.size : Int) > 2000
  · rw [if_pos c3] at H
    have c3b0 : decide (2000 < (a0.size : Int)) = true := decide_eq_true c3
    have c3b1 : decide (2000 < a0.size) = true := decide_eq_true (by omega)
    clear c3
    obtain rfl := Option.some.inj H
    go_enter Tryd.func7, Tryd.ntmps7
    go_wp2_with (first | ((with_reducible refine gate_callee (f := 24) rfl ?_); refine goesL_ (some 6) rfl rfl Tryd.func24 (by kernel_rfl) rfl #[] rfl (by (try simp only [List.map_toArray, List.map_cons, List.map_nil]); first | done | rfl | (simp only [List.length_drop, List.length_take]; rfl)) ?_; (with_reducible refine (incipitlaw03_awake.calls  t279 _ A2.out (Tabs.below HT.out (by repeat (first | (with_reducible first | exact HB.out | apply below_alloc | apply pw_below_drewN | apply below_drew1) | exact HB.out)))).mono ?_); rintro e w4 ⟨rfl, hb⟩; refine ⟨_, rfl, ?_⟩; have n0_ := Aside0.mk (below_step (by repeat (first | (with_reducible first | exact HB.out | apply below_alloc | apply pw_below_drewN | apply below_drew1) | exact HB.out)) hb); clear HB; have HB := n0_; clear n0_; (try clear hb); (try clear hb2); (try clear hk); (try clear hi)))
    go_ret
    exact ⟨by first | rfl | (simp [errW_none, errW_some] <;> rfl) | (simp [*, errW_none, errW_some] <;> rfl), by repeat (first | (with_reducible first | exact HB.out | apply below_alloc | apply pw_below_drewN | apply below_drew1) | exact HB.out)⟩
  · rw [if_neg c3] at H
    have c3b0 : decide (2000 < (a0.size : Int)) = false := decide_eq_false c3
    have c3b1 : decide (2000 < a0.size) = false := decide_eq_false (by omega)
    clear c3
    replace H := Option.bind_eq_some_iff.mp H
    obtain ⟨t280, A50, H⟩ := H
    replace H : ((class_Label.f a0).bind fun t281 => (if t279 = true then ((class_Fold.f t280).bind fun t282 => (if t282.toList = t280.toList then ((class_Label.f t281).bind fun t283 => (if t283.toList = t281.toList then ((class_Label.f t280).bind fun t284 => (if t284.toList = t281.toList then ((class_Fold.f t281).bind fun t285 => (some (t285.toList == t281.toList))) else (none))) else (none))) else (none))) else (none))) = some r := H
    have A5 := Aside0.mk A50
    clear A50
    replace H := Option.bind_eq_some_iff.mp H
    obtain ⟨t281, A60, H⟩ := H
    replace H : (if t279 = true then ((class_Fold.f t280).bind fun t282 => (if t282.toList = t280.toList then ((class_Label.f t281).bind fun t283 => (if t283.toList = t281.toList then ((class_Label.f t280).bind fun t284 => (if t284.toList = t281.toList then ((class_Fold.f t281).bind fun t285 => (some (t285.toList == t281.toList))) else (none))) else (none))) else (none))) else (none)) = some r := H
    have A6 := Aside0.mk A60
    clear A60
    by_cases c7 : t279 = true
    · subst c7
      have H1 : ((class_Fold.f t280).bind fun t282 => (if t282.toList = t280.toList then ((class_Label.f t281).bind fun t283 => (if t283.toList = t281.toList then ((class_Label.f t280).bind fun t284 => (if t284.toList = t281.toList then ((class_Fold.f t281).bind fun t285 => (some (t285.toList == t281.toList))) else (none))) else (none))) else (none))) = some r := by rw [if_pos rfl] at H; exact H
      clear H
      have H := H1
      clear H1
      replace H := Option.bind_eq_some_iff.mp H
      obtain ⟨t282, A80, H⟩ := H
      replace H : (if t282.toList = t280.toList then ((class_Label.f t281).bind fun t283 => (if t283.toList = t281.toList then ((class_Label.f t280).bind fun t284 => (if t284.toList = t281.toList then ((class_Fold.f t281).bind fun t285 => (some (t285.toList == t281.toList))) else (none))) else (none))) else (none)) = some r := H
      have A8 := Aside0.mk A80
      clear A80
      by_cases c9 : t282.toList = t280.toList
      · rw [if_pos c9] at H
        have c9b0 : (t282.toList == t280.toList) = true := beq_iff_eq.mpr c9
        have c9b1 : (t282.toList != t280.toList) = false := bne_eq_false_iff_eq.mpr c9
        clear c9
        replace H := Option.bind_eq_some_iff.mp H
        obtain ⟨t283, A100, H⟩ := H
        replace H : (if t283.toList = t281.toList then ((class_Label.f t280).bind fun t284 => (if t284.toList = t281.toList then ((class_Fold.f t281).bind fun t285 => (some (t285.toList == t281.toList))) else (none))) else (none)) = some r := H
        have A10 := Aside0.mk A100
        clear A100
        by_cases c11 : t283.toList = t281.toList
        · rw [if_pos c11] at H
          have c11b0 : (t283.toList == t281.toList) = true := beq_iff_eq.mpr c11
          have c11b1 : (t283.toList != t281.toList) = false := bne_eq_false_iff_eq.mpr c11
          clear c11
          replace H := Option.bind_eq_some_iff.mp H
          obtain ⟨t284, A120, H⟩ := H
          replace H : (if t284.toList = t281.toList then ((class_Fold.f t281).bind fun t285 => (some (t285.toList == t281.toList))) else (none)) = some r := H
          have A12 := Aside0.mk A120
          clear A120
          by_cases c13 : t284.toList = t281.toList
          · rw [if_pos c13] at H
            have c13b0 : (t284.toList == t281.toList) = true := beq_iff_eq.mpr c13
            have c13b1 : (t284.toList != t281.toList) = false := bne_eq_false_iff_eq.mpr c13
            clear c13
            replace H := Option.bind_eq_some_iff.mp H
            obtain ⟨t285, A140, H⟩ := H
            replace H : (some (t285.toList == t281.toList)) = some r := H
            have A14 := Aside0.mk A140
            clear A140
            obtain rfl := Option.some.inj H
            go_enter Tryd.func7, Tryd.ntmps7
            go_wp2_with (first | ((with_reducible refine gate_callee (f := 24) rfl ?_); refine goesL_ (some 6) rfl rfl Tryd.func24 (by kernel_rfl) rfl #[] rfl (by (try simp only [List.map_toArray, List.map_cons, List.map_nil]); first | done | rfl | (simp only [List.length_drop, List.length_take]; rfl)) ?_; (with_reducible refine (incipitlaw03_awake.calls  true _ A2.out (Tabs.below HT.out (by repeat (first | (with_reducible first | exact HB.out | apply below_alloc | apply pw_below_drewN | apply below_drew1) | exact HB.out)))).mono ?_); rintro e w15 ⟨rfl, hb⟩; refine ⟨_, rfl, ?_⟩; have n0_ := Aside0.mk (below_step (by repeat (first | (with_reducible first | exact HB.out | apply below_alloc | apply pw_below_drewN | apply below_drew1) | exact HB.out)) hb); clear HB; have HB := n0_; clear n0_; (try clear hb); (try clear hb2); (try clear hk); (try clear hi)) | ((with_reducible refine gate_callee (f := 31) rfl ?_); refine goesL_ (some 12) rfl rfl Tryd.func31 (by kernel_rfl) rfl #[.string a0] rfl (by (try simp only [List.map_toArray, List.map_cons, List.map_nil]); first | done | rfl | (simp only [List.length_drop, List.length_take]; rfl)) ?_; (with_reducible refine (class_Fold.calls a0 t280 _ A5.out (Tabs.below HT.out (by repeat (first | (with_reducible first | exact HB.out | apply below_alloc | apply pw_below_drewN | apply below_drew1) | exact HB.out)))).mono ?_); rintro e w16 ⟨rfl, hb⟩; refine ⟨_, rfl, ?_⟩; have n0_ := Aside0.mk (below_step (by repeat (first | (with_reducible first | exact HB.out | apply below_alloc | apply pw_below_drewN | apply below_drew1) | exact HB.out)) hb); clear HB; have HB := n0_; clear n0_; (try clear hb); (try clear hb2); (try clear hk); (try clear hi)) | ((with_reducible refine gate_callee (f := 33) rfl ?_); refine goesL_ (some 14) rfl rfl Tryd.func33 (by kernel_rfl) rfl #[.string a0] rfl (by (try simp only [List.map_toArray, List.map_cons, List.map_nil]); first | done | rfl | (simp only [List.length_drop, List.length_take]; rfl)) ?_; (with_reducible refine (class_Label.calls a0 t281 _ A6.out (Tabs.below HT.out (by repeat (first | (with_reducible first | exact HB.out | apply below_alloc | apply pw_below_drewN | apply below_drew1) | exact HB.out)))).mono ?_); rintro e w17 ⟨rfl, hb⟩; refine ⟨_, rfl, ?_⟩; have n0_ := Aside0.mk (below_step (by repeat (first | (with_reducible first | exact HB.out | apply below_alloc | apply pw_below_drewN | apply below_drew1) | exact HB.out)) hb); clear HB; have HB := n0_; clear n0_; (try clear hb); (try clear hb2); (try clear hk); (try clear hi)) | (go_at_call 31; (with_reducible refine (class_Fold.calls t280 t282 _ A8.out (Tabs.below HT.out (by repeat (first | (with_reducible first | exact HB.out | apply below_alloc | apply pw_below_drewN | apply below_drew1) | exact HB.out)))).mono ?_); rintro e w18 ⟨rfl, hb⟩; have n0_ := Aside0.mk (below_step (by repeat (first | (with_reducible first | exact HB.out | apply below_alloc | apply pw_below_drewN | apply below_drew1) | exact HB.out)) hb); clear HB; have HB := n0_; clear n0_; (try clear hb); (try clear hb2); (try clear hk); (try clear hi)) | (go_at_call 33; (with_reducible refine (class_Label.calls t281 t283 _ A10.out (Tabs.below HT.out (by repeat (first | (with_reducible first | exact HB.out | apply below_alloc | apply pw_below_drewN | apply below_drew1) | exact HB.out)))).mono ?_); rintro e w19 ⟨rfl, hb⟩; have n0_ := Aside0.mk (below_step (by repeat (first | (with_reducible first | exact HB.out | apply below_alloc | apply pw_below_drewN | apply below_drew1) | exact HB.out)) hb); clear HB; have HB := n0_; clear n0_; (try clear hb); (try clear hb2); (try clear hk); (try clear hi)) | (go_at_call 33; (with_reducible refine (class_Label.calls t280 t284 _ A12.out (Tabs.below HT.out (by repeat (first | (with_reducible first | exact HB.out | apply below_alloc | apply pw_below_drewN | apply below_drew1) | exact HB.out)))).mono ?_); rintro e w20 ⟨rfl, hb⟩; have n0_ := Aside0.mk (below_step (by repeat (first | (with_reducible first | exact HB.out | apply below_alloc | apply pw_below_drewN | apply below_drew1) | exact HB.out)) hb); clear HB; have HB := n0_; clear n0_; (try clear hb); (try clear hb2); (try clear hk); (try clear hi)) | (go_at_call 31; (with_reducible refine (class_Fold.calls t281 t285 _ A14.out (Tabs.below HT.out (by repeat (first | (with_reducible first | exact HB.out | apply below_alloc | apply pw_below_drewN | apply below_drew1) | exact HB.out)))).mono ?_); rintro e w21 ⟨rfl, hb⟩; have n0_ := Aside0.mk (below_step (by repeat (first | (with_reducible first | exact HB.out | apply below_alloc | apply pw_below_drewN | apply below_drew1) | exact HB.out)) hb); clear HB; have HB := n0_; clear n0_; (try clear hb); (try clear hb2); (try clear hk); (try clear hi)))
            go_ret
            exact ⟨by first | rfl | (simp [errW_none, errW_some] <;> rfl) | (simp [*, errW_none, errW_some] <;> rfl), by repeat (first | (with_reducible first | exact HB.out | apply below_alloc | apply pw_below_drewN | apply below_drew1) | exact HB.out)⟩
          · rw [if_neg c13] at H
            exact absurd H (by simp)
        · rw [if_neg c11] at H
          exact absurd H (by simp)
      · rw [if_neg c9] at H
        exact absurd H (by simp)
    · replace c7 := Bool.eq_false_iff.mpr c7
      subst c7
      have H1 : (none) = some r := by rw [if_neg (show ¬ (false = true) by decide)] at H; exact H
      clear H
      have H := H1
      clear H1
      exact absurd H (by simp)

/-- THE ONE PURE STATEMENT of incipitlaw03_ClassOnce: yours. -/
def incipitlaw03_ClassOnce.Pure : Prop := ∀ (a0 : ByteArray), a0.size ≤ 140737488351232 → incipitlaw03_ClassOnce.f a0 = some true
theorem incipitlaw03_ClassOnce.walk (P : incipitlaw03_ClassOnce.Pure) (a0 : ByteArray) (w : World) (w0 : a0.size ≤ 140737488351232) (hT : Tabs w) :
    Calls Tryd.prog 7 #[.string a0] w fun e w' => e = .returned (.bool true) ∧ Below w.heap.size w w' := by
  have HT := Aside0.mk hT
  clear hT
  have h := P a0 w0
  refine (incipitlaw03_ClassOnce.calls a0 true w h HT.out).mono ?_
  rintro e w' ⟨rfl, hd⟩
  exact ⟨rfl, hd⟩

end Go.Proofs.YtbgbmphjjdiaeaaDoor.P
