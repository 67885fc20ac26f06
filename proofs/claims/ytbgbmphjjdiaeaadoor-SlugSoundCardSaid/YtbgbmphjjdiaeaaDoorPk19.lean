/- Functions of the seat as plain Lean functions, and proofs that the Go code comes to them; laid by wip/handprint.py over the kit's printer. -/
import Derived.Test.YtbgbmphjjdiaeaaDoorPk0
import Derived.Test.YtbgbmphjjdiaeaaDoorClean
import Derived.Test.YtbgbmphjjdiaeaaDoorForms19
import Derived.Test.YtbgbmphjjdiaeaaDoorPk10
import Derived.Test.YtbgbmphjjdiaeaaDoorPk17
import Derived.Test.YtbgbmphjjdiaeaaDoorPk3
import Derived.Test.YtbgbmphjjdiaeaaDoorRunes
namespace Go.Proofs.YtbgbmphjjdiaeaaDoor.P
open Go.RowKit Go.Proofs.YtbgbmphjjdiaeaaDoorW.PrintWords Go.Proofs.YtbgbmphjjdiaeaaDoorW.PrintLast Go.Proofs.YtbgbmphjjdiaeaaDoorW.PrintMore
attribute [local go_sem] max2_int min2_int max_two min_two max_three min_three max_four min_four   -- for this text's walks alone
set_option linter.unusedVariables false
set_option linter.unusedSimpArgs false

/-! ### incipitlaw19_SlugSound: function 12 -/
def incipitlaw19_SlugSound.l0 : Nat → ByteArray → Bool → ByteArray → List Int → Int → Option (Bool)
  | 0, _, _, _, _, _ => none
  | k + 1, x0, x3, x4, x5, x6 => if x6 < (x5.length : Int) then (if 0 ≤ x6 then ((incipitref03_Space.f k (rd x5 x6)).bind fun t376 => (if t376 = true then (none) else ((incipitref03_Punct.f k (rd x5 x6)).bind fun t378 => (if t378 = true then (if (rd x5 x6) = 45 then (if (rd x5 x6) < 32 then (none) else (incipitlaw19_SlugSound.l0 k x0 x3 x4 x5 (wrap64 (x6 + 1)))) else (if (rd x5 x6) = 95 then (if (rd x5 x6) < 32 then (none) else (incipitlaw19_SlugSound.l0 k x0 x3 x4 x5 (wrap64 (x6 + 1)))) else (none))) else (if (rd x5 x6) < 32 then (none) else (incipitlaw19_SlugSound.l0 k x0 x3 x4 x5 (wrap64 (x6 + 1)))))))) else (none)) else (if x3 = true then (if (x5.length : Int) > 0 then (if 0 ≤ (mn 2 (x4.size : Int)) then (if (mn 2 (x4.size : Int)) ≤ (x4.size : Int) then (if (x4.extract 0 ((mn 2 (x4.size : Int)) : Int).toNat).toList = ([102, 110] : List UInt8) then (none) else ((incipitref03_Fold.f k x0).bind fun t372 => ((slug_Slug.f t372).bind fun t373 => (if t373.toList = x4.toList then ((slug_Slug.f x4).bind fun t374 => (some (t374.toList == x4.toList))) else (none))))) else (none)) else (none)) else (none)) else (none))
def incipitlaw19_SlugSound.f (k : Nat) (a0 : ByteArray) : Option (Bool) := (incipitlaw19_awake.f k).bind fun t367 => (if (a0.size : Int) > 1000 then (some t367) else ((slug_Slug.f a0).bind fun t368 => ((text_Runes.f t368).bind fun t369 => (incipitlaw19_SlugSound.l0 k a0 t367 t368 t369 0))))
theorem incipitlaw19_SlugSound.mono_l : ∀ k, (∀ y0 y1 y2 y3 y4, LeO (incipitlaw19_SlugSound.l0 k y0 y1 y2 y3 y4) (incipitlaw19_SlugSound.l0 (k + 1) y0 y1 y2 y3 y4))
  | 0 => fun _ _ _ _ _ r h => by simp [incipitlaw19_SlugSound.l0] at h
  | k + 1 => by
    have ih0 := incipitlaw19_SlugSound.mono_l k
    · intro y0 y1 y2 y3 y4
      unfold incipitlaw19_SlugSound.l0
      repeat' first
      | (with_reducible exact ih0 _ _ _ _ _)
      | (with_reducible exact incipitlaw19_awake.mono _)
      | (with_reducible exact incipitref03_Fold.mono _ _)
      | (with_reducible exact incipitref03_Punct.mono _ _)
      | (with_reducible exact incipitref03_Space.mono _ _)
      | (with_reducible exact LeO.refl _)
      | (with_reducible exact LeO.none _)
      | (with_reducible refine LeO.ite ?_ ?_)
      | (with_reducible refine LeO.bind ?_ (fun _ => ?_))
      | exact ih0 _ _ _ _ _
      | exact incipitlaw19_awake.mono _
      | exact incipitref03_Fold.mono _ _
      | exact incipitref03_Punct.mono _ _
      | exact incipitref03_Space.mono _ _
      | exact LeO.none _
      | refine LeO.ite ?_ ?_
      | refine LeO.bind ?_ (fun _ => ?_)
theorem incipitlaw19_SlugSound.mono : ∀ a0 k, LeO (incipitlaw19_SlugSound.f k a0) (incipitlaw19_SlugSound.f (k + 1) a0) := by
  intro a0 k
  have ih0 := incipitlaw19_SlugSound.mono_l k
  unfold incipitlaw19_SlugSound.f
  repeat' first
      | (with_reducible exact ih0 _ _ _ _ _)
      | (with_reducible exact incipitlaw19_awake.mono _)
      | (with_reducible exact incipitref03_Fold.mono _ _)
      | (with_reducible exact incipitref03_Punct.mono _ _)
      | (with_reducible exact incipitref03_Space.mono _ _)
      | (with_reducible exact LeO.refl _)
      | (with_reducible exact LeO.none _)
      | (with_reducible refine LeO.ite ?_ ?_)
      | (with_reducible refine LeO.bind ?_ (fun _ => ?_))
      | exact ih0 _ _ _ _ _
      | exact incipitlaw19_awake.mono _
      | exact incipitref03_Fold.mono _ _
      | exact incipitref03_Punct.mono _ _
      | exact incipitref03_Space.mono _ _
      | exact LeO.none _
      | refine LeO.ite ?_ ?_
      | refine LeO.bind ?_ (fun _ => ?_)
set_option maxHeartbeats 8000000 in
set_option maxRecDepth 100000 in
theorem incipitlaw19_SlugSound.calls (k : Nat) (a0 : ByteArray) (r : Bool) (w : World) (h : incipitlaw19_SlugSound.f k a0 = some r) (hT : Tabs w) :
    Calls Tryd.prog 12 #[.string a0] w fun e w' => e = .returned (.bool r) ∧ Below w.heap.size w w' := by
  have HT := Aside0.mk hT
  clear hT
  have HB := Aside0.mk (Below.refl w.heap.size w)
  have H : ((incipitlaw19_awake.f k).bind fun t367 => (if (a0.size : Int) > 1000 then (some t367) else ((slug_Slug.f a0).bind fun t368 => ((text_Runes.f t368).bind fun t369 => (incipitlaw19_SlugSound.l0 k a0 t367 t368 t369 0))))) = some r := h
  clear h
  replace H := Option.bind_eq_some_iff.mp H
  obtain ⟨t367, A20, H⟩ := H
  replace H : (if (a0.size : Int) > 1000 then (some t367) else ((slug_Slug.f a0).bind fun t368 => ((text_Runes.f t368).bind fun t369 => (incipitlaw19_SlugSound.l0 k a0 t367 t368 t369 0)))) = some r := H
  have A2 := Aside0.mk A20
  clear A20
  by_cases c3 : (a0.size : Int) > 1000
  · rw [if_pos c3] at H
    have c3b0 : decide (1000 < (a0.size : Int)) = true := decide_eq_true c3
    have c3b1 : decide (1000 < a0.size) = true := decide_eq_true (by omega)
    clear c3
    obtain rfl := Option.some.inj H
    go_enter Tryd.func12, Tryd.ntmps12
    go_wp2_with (first | ((with_reducible refine gate_callee (f := 36) rfl ?_); refine goesL_ (some 7) rfl rfl Tryd.func36 (by kernel_rfl) rfl #[] rfl (by (try simp only [List.map_toArray, List.map_cons, List.map_nil]); first | done | rfl | (simp only [List.length_drop, List.length_take]; rfl)) ?_; (with_reducible refine (incipitlaw19_awake.calls k  t367 _ A2.out (Tabs.below HT.out (by repeat (first | (with_reducible first | exact HB.out | apply below_alloc | apply pw_below_drewN | apply below_drew1) | exact HB.out)))).mono ?_); rintro e w4 ⟨rfl, hb⟩; refine ⟨_, rfl, ?_⟩; have n0_ := Aside0.mk (below_step (by repeat (first | (with_reducible first | exact HB.out | apply below_alloc | apply pw_below_drewN | apply below_drew1) | exact HB.out)) hb); clear HB; have HB := n0_; clear n0_; (try clear hb); (try clear hb2); (try clear hk); (try clear hi)))
    go_ret
    exact ⟨by first | rfl | (simp [errW_none, errW_some] <;> rfl) | (simp [*, errW_none, errW_some] <;> rfl), by repeat (first | (with_reducible first | exact HB.out | apply below_alloc | apply pw_below_drewN | apply below_drew1) | exact HB.out)⟩
  · rw [if_neg c3] at H
    have c3b0 : decide (1000 < (a0.size : Int)) = false := decide_eq_false c3
    have c3b1 : decide (1000 < a0.size) = false := decide_eq_false (by omega)
    clear c3
    replace H := Option.bind_eq_some_iff.mp H
    obtain ⟨t368, A50, H⟩ := H
    replace H : ((text_Runes.f t368).bind fun t369 => (incipitlaw19_SlugSound.l0 k a0 t367 t368 t369 0)) = some r := H
    have A5 := Aside0.mk A50
    clear A50
    replace H := Option.bind_eq_some_iff.mp H
    obtain ⟨t369, A60, H⟩ := H
    replace H : (incipitlaw19_SlugSound.l0 k a0 t367 t368 t369 0) = some r := H
    have A6 := Aside0.mk A60
    clear A60
    have H' := Aside0.mk H
    clear H
    go_enter Tryd.func12, Tryd.ntmps12
    go_wp2_with (first | ((with_reducible refine gate_callee (f := 36) rfl ?_); refine goesL_ (some 7) rfl rfl Tryd.func36 (by kernel_rfl) rfl #[] rfl (by (try simp only [List.map_toArray, List.map_cons, List.map_nil]); first | done | rfl | (simp only [List.length_drop, List.length_take]; rfl)) ?_; (with_reducible refine (incipitlaw19_awake.calls k  t367 _ A2.out (Tabs.below HT.out (by repeat (first | (with_reducible first | exact HB.out | apply below_alloc | apply pw_below_drewN | apply below_drew1) | exact HB.out)))).mono ?_); rintro e w7 ⟨rfl, hb⟩; refine ⟨_, rfl, ?_⟩; have n0_ := Aside0.mk (below_step (by repeat (first | (with_reducible first | exact HB.out | apply below_alloc | apply pw_below_drewN | apply below_drew1) | exact HB.out)) hb); clear HB; have HB := n0_; clear n0_; (try clear hb); (try clear hb2); (try clear hk); (try clear hi)) | ((with_reducible refine gate_callee (f := 38) rfl ?_); refine goesL_ (some 13) rfl rfl Tryd.func38 (by kernel_rfl) rfl #[.string a0] rfl (by (try simp only [List.map_toArray, List.map_cons, List.map_nil]); first | done | rfl | (simp only [List.length_drop, List.length_take]; rfl)) ?_; (with_reducible refine (slug_Slug.calls a0 t368 _ A5.out (Tabs.below HT.out (by repeat (first | (with_reducible first | exact HB.out | apply below_alloc | apply pw_below_drewN | apply below_drew1) | exact HB.out)))).mono ?_); rintro e w8 ⟨rfl, hb⟩; refine ⟨_, rfl, ?_⟩; have n0_ := Aside0.mk (below_step (by repeat (first | (with_reducible first | exact HB.out | apply below_alloc | apply pw_below_drewN | apply below_drew1) | exact HB.out)) hb); clear HB; have HB := n0_; clear n0_; (try clear hb); (try clear hb2); (try clear hk); (try clear hi)) | ((with_reducible refine gate_callee (f := 43) rfl ?_); refine goesL_ (some 15) rfl rfl Tryd.func43 (by kernel_rfl) rfl #[.string t368] rfl (by (try simp only [List.map_toArray, List.map_cons, List.map_nil]); first | done | rfl | (simp only [List.length_drop, List.length_take]; rfl)) ?_; (with_reducible refine (text_Runes.calls t368 t369 _ A6.out (Tabs.below HT.out (by repeat (first | (with_reducible first | exact HB.out | apply below_alloc | apply pw_below_drewN | apply below_drew1) | exact HB.out)))).mono ?_); rintro e w9 ⟨v370, rfl, ho0, hb⟩; refine ⟨_, rfl, ?_⟩; have n0_ := Aside0.mk (Kd.R_lower ho0 (below_size (by repeat (first | (with_reducible first | exact HB.out | apply below_alloc | apply pw_below_drewN | apply below_drew1) | exact HB.out)))); have n1_ := Aside0.mk (below_step (by repeat (first | (with_reducible first | exact HB.out | apply below_alloc | apply pw_below_drewN | apply below_drew1) | exact HB.out)) hb); clear HB; have HO371 := n0_; have HB := n1_; clear n0_ n1_; (try clear hb); (try clear hb2); (try clear hk); (try clear hi); (try clear ho0)))
    go_loopg [6] k (fun kq v6 w' => ∃ (x6_1 : Int), v6 = .int .i64 x6_1 ∧ Aside0 (incipitlaw19_SlugSound.l0 kq a0 t367 t368 t369 x6_1 = some r) ∧ Aside0 (kq ≤ k) ∧ Aside0 (Kd.R (Kd.int .i32) 21 w' w.heap.size (fun _ => True) v370 t369) ∧ Aside0 (Below w.heap.size w w'))
    case atStart => exact ⟨(0), (by first | rfl | (simp; done) | (simp [*]; done)), H', ⟨Nat.le_refl _⟩, ⟨by (with_reducible repeat (first | apply Kd.R_alloc | apply Kd.R_drewN | apply Kd.R_drew)); exact HO371.out⟩, ⟨by repeat (first | (with_reducible first | exact HB.out | apply below_alloc | apply pw_below_drewN | apply below_drew1) | exact HB.out)⟩⟩
    case round =>
      clear H'
      try clear c1
      try clear p2
      try clear c3
      try clear c3b0
      try clear c3b1
      try clear c4
      obtain ⟨x6_1, rfl, HA, HK1, HO_5, HB⟩ := hrel
      cases gk with
      | zero => exact absurd HA.out (by simp [incipitlaw19_SlugSound.l0])
      | succ k1 =>
        have H := HA.out
        clear HA
        simp only [incipitlaw19_SlugSound.l0] at H
        by_cases c10 : x6_1 < (t369.length : Int)
        · rw [if_pos c10] at H
          have c10b0 : decide (x6_1 < (t369.length : Int)) = true := decide_eq_true c10
          clear c10
          by_cases c11 : 0 ≤ x6_1
          · rw [if_pos c11] at H
            have c11b0 : decide (0 ≤ x6_1) = true := decide_eq_true c11
            clear c11
            replace H := Option.bind_eq_some_iff.mp H
            obtain ⟨t376, A120, H⟩ := H
            replace H : (if t376 = true then (none) else ((incipitref03_Punct.f k1 (rd t369 x6_1)).bind fun t378 => (if t378 = true then (if (rd t369 x6_1) = 45 then (if (rd t369 x6_1) < 32 then (none) else (incipitlaw19_SlugSound.l0 k1 a0 t367 t368 t369 (wrap64 (x6_1 + 1)))) else (if (rd t369 x6_1) = 95 then (if (rd t369 x6_1) < 32 then (none) else (incipitlaw19_SlugSound.l0 k1 a0 t367 t368 t369 (wrap64 (x6_1 + 1)))) else (none))) else (if (rd t369 x6_1) < 32 then (none) else (incipitlaw19_SlugSound.l0 k1 a0 t367 t368 t369 (wrap64 (x6_1 + 1))))))) = some r := H
            have A12 := Aside0.mk A120
            clear A120
            by_cases c13 : t376 = true
            · subst c13
              have H1 : (none) = some r := by rw [if_pos rfl] at H; exact H
              clear H
              have H := H1
              clear H1
              exact absurd H (by simp)
            · replace c13 := Bool.eq_false_iff.mpr c13
              subst c13
              have H1 : ((incipitref03_Punct.f k1 (rd t369 x6_1)).bind fun t378 => (if t378 = true then (if (rd t369 x6_1) = 45 then (if (rd t369 x6_1) < 32 then (none) else (incipitlaw19_SlugSound.l0 k1 a0 t367 t368 t369 (wrap64 (x6_1 + 1)))) else (if (rd t369 x6_1) = 95 then (if (rd t369 x6_1) < 32 then (none) else (incipitlaw19_SlugSound.l0 k1 a0 t367 t368 t369 (wrap64 (x6_1 + 1)))) else (none))) else (if (rd t369 x6_1) < 32 then (none) else (incipitlaw19_SlugSound.l0 k1 a0 t367 t368 t369 (wrap64 (x6_1 + 1)))))) = some r := by rw [if_neg (show ¬ (false = true) by decide)] at H; exact H
              clear H
              have H := H1
              clear H1
              replace H := Option.bind_eq_some_iff.mp H
              obtain ⟨t378, A140, H⟩ := H
              replace H : (if t378 = true then (if (rd t369 x6_1) = 45 then (if (rd t369 x6_1) < 32 then (none) else (incipitlaw19_SlugSound.l0 k1 a0 t367 t368 t369 (wrap64 (x6_1 + 1)))) else (if (rd t369 x6_1) = 95 then (if (rd t369 x6_1) < 32 then (none) else (incipitlaw19_SlugSound.l0 k1 a0 t367 t368 t369 (wrap64 (x6_1 + 1)))) else (none))) else (if (rd t369 x6_1) < 32 then (none) else (incipitlaw19_SlugSound.l0 k1 a0 t367 t368 t369 (wrap64 (x6_1 + 1))))) = some r := H
              have A14 := Aside0.mk A140
              clear A140
              by_cases c15 : t378 = true
              · subst c15
                have H1 : (if (rd t369 x6_1) = 45 then (if (rd t369 x6_1) < 32 then (none) else (incipitlaw19_SlugSound.l0 k1 a0 t367 t368 t369 (wrap64 (x6_1 + 1)))) else (if (rd t369 x6_1) = 95 then (if (rd t369 x6_1) < 32 then (none) else (incipitlaw19_SlugSound.l0 k1 a0 t367 t368 t369 (wrap64 (x6_1 + 1)))) else (none))) = some r := by rw [if_pos rfl] at H; exact H
                clear H
                have H := H1
                clear H1
                by_cases c16 : (rd t369 x6_1) = 45
                · rw [if_pos c16] at H
                  have c16b0 : ((rd t369 x6_1) == 45) = true := beq_iff_eq.mpr c16
                  have c16b1 : ((rd t369 x6_1) != 45) = false := bne_eq_false_iff_eq.mpr c16
                  clear c16
                  by_cases c17 : (rd t369 x6_1) < 32
                  · rw [if_pos c17] at H
                    exact absurd H (by simp)
                  · rw [if_neg c17] at H
                    have c17b0 : decide ((rd t369 x6_1) < 32) = false := decide_eq_false c17
                    clear c17
                    have H' := Aside0.mk H
                    clear H
                    obtain ⟨Ao18, co18, eo18⟩ := Kd.R_slice HO_5.out
                    subst eo18
                    have p375 : 0 ≤ (x6_1 : Int) := of_decide_eq_true (by first | (with_reducible assumption) | assumption)
                    have q375 : x6_1 < (t369.length : Int) := of_decide_eq_true (by first | (with_reducible assumption) | assumption)
                    obtain ⟨ad375, e375, hx375_0⟩ := Kd.at_int (Kd.R_reads' HO_5.out).2.2 x6_1 p375 q375
                    cases e375
                    replace p375 := eq_true p375
                    replace q375 := eq_true q375
                    go_wp2_with (first | ((with_reducible refine gate_callee (f := 26) rfl ?_); refine goesL_ (some 26) rfl rfl Tryd.func26 (by kernel_rfl) rfl #[.int .i32 (rd t369 x6_1)] rfl (by (try simp only [List.map_toArray, List.map_cons, List.map_nil]); first | done | rfl | (simp only [List.length_drop, List.length_take]; rfl)) ?_; (with_reducible refine (incipitref03_Space.calls k1 (rd t369 x6_1) false _ A12.out).mono ?_); rintro e w19 ⟨rfl, hb⟩; refine ⟨_, rfl, ?_⟩; have n0_ := Aside0.mk (Kd.R_below (by (with_reducible repeat (first | apply Kd.R_alloc | apply Kd.R_drewN | apply Kd.R_drew)); exact HO_5.out) hb); have n1_ := Aside0.mk (below_step (by repeat (first | (with_reducible first | exact HB.out | apply below_alloc | apply pw_below_drewN | apply below_drew1) | exact HB.out)) hb); clear HO_5; clear HB; have HO_5 := n0_; have HB := n1_; clear n0_ n1_; (try clear hb); (try clear hb2); (try clear hk); (try clear hi); have p377 : 0 ≤ (x6_1 : Int) := of_decide_eq_true (by first | (with_reducible assumption) | assumption); have q377 : x6_1 < (t369.length : Int) := of_decide_eq_true (by first | (with_reducible assumption) | assumption); obtain ⟨ad377, e377, hx377_0⟩ := Kd.at_int (Kd.R_reads' HO_5.out).2.2 x6_1 p377 q377; obtain rfl : ad375 = ad377 := (by injection e377); replace p377 := eq_true p377; replace q377 := eq_true q377) | (go_at_call 28; (with_reducible refine (incipitref03_Punct.calls k1 (rd t369 x6_1) true _ A14.out).mono ?_); rintro e w20 ⟨rfl, hb⟩; have n0_ := Aside0.mk (Kd.R_below (by (with_reducible repeat (first | apply Kd.R_alloc | apply Kd.R_drewN | apply Kd.R_drew)); exact HO_5.out) hb); have n1_ := Aside0.mk (below_step (by repeat (first | (with_reducible first | exact HB.out | apply below_alloc | apply pw_below_drewN | apply below_drew1) | exact HB.out)) hb); clear HO_5; clear HB; have HO_5 := n0_; have HB := n1_; clear n0_ n1_; (try clear hb); (try clear hb2); (try clear hk); (try clear hi); have p379 : 0 ≤ (x6_1 : Int) := of_decide_eq_true (by first | (with_reducible assumption) | assumption); have q379 : x6_1 < (t369.length : Int) := of_decide_eq_true (by first | (with_reducible assumption) | assumption); obtain ⟨ad379, e379, hx379_0⟩ := Kd.at_int (Kd.R_reads' HO_5.out).2.2 x6_1 p379 q379; obtain rfl : ad375 = ad379 := (by injection e379); replace p379 := eq_true p379; replace q379 := eq_true q379; have p380 : 0 ≤ (x6_1 : Int) := of_decide_eq_true (by first | (with_reducible assumption) | assumption); have q380 : x6_1 < (t369.length : Int) := of_decide_eq_true (by first | (with_reducible assumption) | assumption); obtain ⟨ad380, e380, hx380_0⟩ := Kd.at_int (Kd.R_reads' HO_5.out).2.2 x6_1 p380 q380; obtain rfl : ad375 = ad380 := (by injection e380); replace p380 := eq_true p380; replace q380 := eq_true q380))
                    go_roundg k1
                    case measure => have := HK1.out; omega
                    case rel => exact ⟨(wrap64 (x6_1 + 1)), (by first | rfl | (simp; done) | (simp [*]; done)), H', ⟨by have := HK1.out; omega⟩, ⟨by (with_reducible repeat (first | apply Kd.R_alloc | apply Kd.R_drewN | apply Kd.R_drew)); exact HO_5.out⟩, ⟨by repeat (first | (with_reducible first | exact HB.out | apply below_alloc | apply pw_below_drewN | apply below_drew1) | exact HB.out)⟩⟩
                · rw [if_neg c16] at H
                  have c16b0 : ((rd t369 x6_1) == 45) = false := beq_eq_false_iff_ne.mpr c16
                  have c16b1 : ((rd t369 x6_1) != 45) = true := bne_iff_ne.mpr c16
                  by_cases c21 : (rd t369 x6_1) = 95
                  · rw [if_pos c21] at H
                    have c21b0 : ((rd t369 x6_1) == 95) = true := beq_iff_eq.mpr c21
                    have c21b1 : ((rd t369 x6_1) != 95) = false := bne_eq_false_iff_eq.mpr c21
                    clear c21
                    by_cases c22 : (rd t369 x6_1) < 32
                    · rw [if_pos c22] at H
                      exact absurd H (by simp)
                    · rw [if_neg c22] at H
                      have c22b0 : decide ((rd t369 x6_1) < 32) = false := decide_eq_false c22
                      clear c22
                      have H' := Aside0.mk H
                      clear H
                      obtain ⟨Ao23, co23, eo23⟩ := Kd.R_slice HO_5.out
                      subst eo23
                      have p375 : 0 ≤ (x6_1 : Int) := of_decide_eq_true (by first | (with_reducible assumption) | assumption)
                      have q375 : x6_1 < (t369.length : Int) := of_decide_eq_true (by first | (with_reducible assumption) | assumption)
                      obtain ⟨ad375, e375, hx375_0⟩ := Kd.at_int (Kd.R_reads' HO_5.out).2.2 x6_1 p375 q375
                      cases e375
                      replace p375 := eq_true p375
                      replace q375 := eq_true q375
                      go_wp2_with (first | ((with_reducible refine gate_callee (f := 26) rfl ?_); refine goesL_ (some 26) rfl rfl Tryd.func26 (by kernel_rfl) rfl #[.int .i32 (rd t369 x6_1)] rfl (by (try simp only [List.map_toArray, List.map_cons, List.map_nil]); first | done | rfl | (simp only [List.length_drop, List.length_take]; rfl)) ?_; (with_reducible refine (incipitref03_Space.calls k1 (rd t369 x6_1) false _ A12.out).mono ?_); rintro e w24 ⟨rfl, hb⟩; refine ⟨_, rfl, ?_⟩; have n0_ := Aside0.mk (Kd.R_below (by (with_reducible repeat (first | apply Kd.R_alloc | apply Kd.R_drewN | apply Kd.R_drew)); exact HO_5.out) hb); have n1_ := Aside0.mk (below_step (by repeat (first | (with_reducible first | exact HB.out | apply below_alloc | apply pw_below_drewN | apply below_drew1) | exact HB.out)) hb); clear HO_5; clear HB; have HO_5 := n0_; have HB := n1_; clear n0_ n1_; (try clear hb); (try clear hb2); (try clear hk); (try clear hi); have p377 : 0 ≤ (x6_1 : Int) := of_decide_eq_true (by first | (with_reducible assumption) | assumption); have q377 : x6_1 < (t369.length : Int) := of_decide_eq_true (by first | (with_reducible assumption) | assumption); obtain ⟨ad377, e377, hx377_0⟩ := Kd.at_int (Kd.R_reads' HO_5.out).2.2 x6_1 p377 q377; obtain rfl : ad375 = ad377 := (by injection e377); replace p377 := eq_true p377; replace q377 := eq_true q377) | (go_at_call 28; (with_reducible refine (incipitref03_Punct.calls k1 (rd t369 x6_1) true _ A14.out).mono ?_); rintro e w25 ⟨rfl, hb⟩; have n0_ := Aside0.mk (Kd.R_below (by (with_reducible repeat (first | apply Kd.R_alloc | apply Kd.R_drewN | apply Kd.R_drew)); exact HO_5.out) hb); have n1_ := Aside0.mk (below_step (by repeat (first | (with_reducible first | exact HB.out | apply below_alloc | apply pw_below_drewN | apply below_drew1) | exact HB.out)) hb); clear HO_5; clear HB; have HO_5 := n0_; have HB := n1_; clear n0_ n1_; (try clear hb); (try clear hb2); (try clear hk); (try clear hi); have p379 : 0 ≤ (x6_1 : Int) := of_decide_eq_true (by first | (with_reducible assumption) | assumption); have q379 : x6_1 < (t369.length : Int) := of_decide_eq_true (by first | (with_reducible assumption) | assumption); obtain ⟨ad379, e379, hx379_0⟩ := Kd.at_int (Kd.R_reads' HO_5.out).2.2 x6_1 p379 q379; obtain rfl : ad375 = ad379 := (by injection e379); replace p379 := eq_true p379; replace q379 := eq_true q379; have p381 : 0 ≤ (x6_1 : Int) := of_decide_eq_true (by first | (with_reducible assumption) | assumption); have q381 : x6_1 < (t369.length : Int) := of_decide_eq_true (by first | (with_reducible assumption) | assumption); obtain ⟨ad381, e381, hx381_0⟩ := Kd.at_int (Kd.R_reads' HO_5.out).2.2 x6_1 p381 q381; obtain rfl : ad375 = ad381 := (by injection e381); replace p381 := eq_true p381; replace q381 := eq_true q381; have p382 : 0 ≤ (x6_1 : Int) := of_decide_eq_true (by first | (with_reducible assumption) | assumption); have q382 : x6_1 < (t369.length : Int) := of_decide_eq_true (by first | (with_reducible assumption) | assumption); obtain ⟨ad382, e382, hx382_0⟩ := Kd.at_int (Kd.R_reads' HO_5.out).2.2 x6_1 p382 q382; obtain rfl : ad375 = ad382 := (by injection e382); replace p382 := eq_true p382; replace q382 := eq_true q382))
                      go_roundg k1
                      case measure => have := HK1.out; omega
                      case rel => exact ⟨(wrap64 (x6_1 + 1)), (by first | rfl | (simp; done) | (simp [*]; done)), H', ⟨by have := HK1.out; omega⟩, ⟨by (with_reducible repeat (first | apply Kd.R_alloc | apply Kd.R_drewN | apply Kd.R_drew)); exact HO_5.out⟩, ⟨by repeat (first | (with_reducible first | exact HB.out | apply below_alloc | apply pw_below_drewN | apply below_drew1) | exact HB.out)⟩⟩
                  · rw [if_neg c21] at H
                    exact absurd H (by simp)
              · replace c15 := Bool.eq_false_iff.mpr c15
                subst c15
                have H1 : (if (rd t369 x6_1) < 32 then (none) else (incipitlaw19_SlugSound.l0 k1 a0 t367 t368 t369 (wrap64 (x6_1 + 1)))) = some r := by rw [if_neg (show ¬ (false = true) by decide)] at H; exact H
                clear H
                have H := H1
                clear H1
                by_cases c26 : (rd t369 x6_1) < 32
                · rw [if_pos c26] at H
                  exact absurd H (by simp)
                · rw [if_neg c26] at H
                  have c26b0 : decide ((rd t369 x6_1) < 32) = false := decide_eq_false c26
                  clear c26
                  have H' := Aside0.mk H
                  clear H
                  obtain ⟨Ao27, co27, eo27⟩ := Kd.R_slice HO_5.out
                  subst eo27
                  have p375 : 0 ≤ (x6_1 : Int) := of_decide_eq_true (by first | (with_reducible assumption) | assumption)
                  have q375 : x6_1 < (t369.length : Int) := of_decide_eq_true (by first | (with_reducible assumption) | assumption)
                  obtain ⟨ad375, e375, hx375_0⟩ := Kd.at_int (Kd.R_reads' HO_5.out).2.2 x6_1 p375 q375
                  cases e375
                  replace p375 := eq_true p375
                  replace q375 := eq_true q375
                  go_wp2_with (first | ((with_reducible refine gate_callee (f := 26) rfl ?_); refine goesL_ (some 26) rfl rfl Tryd.func26 (by kernel_rfl) rfl #[.int .i32 (rd t369 x6_1)] rfl (by (try simp only [List.map_toArray, List.map_cons, List.map_nil]); first | done | rfl | (simp only [List.length_drop, List.length_take]; rfl)) ?_; (with_reducible refine (incipitref03_Space.calls k1 (rd t369 x6_1) false _ A12.out).mono ?_); rintro e w28 ⟨rfl, hb⟩; refine ⟨_, rfl, ?_⟩; have n0_ := Aside0.mk (Kd.R_below (by (with_reducible repeat (first | apply Kd.R_alloc | apply Kd.R_drewN | apply Kd.R_drew)); exact HO_5.out) hb); have n1_ := Aside0.mk (below_step (by repeat (first | (with_reducible first | exact HB.out | apply below_alloc | apply pw_below_drewN | apply below_drew1) | exact HB.out)) hb); clear HO_5; clear HB; have HO_5 := n0_; have HB := n1_; clear n0_ n1_; (try clear hb); (try clear hb2); (try clear hk); (try clear hi); have p377 : 0 ≤ (x6_1 : Int) := of_decide_eq_true (by first | (with_reducible assumption) | assumption); have q377 : x6_1 < (t369.length : Int) := of_decide_eq_true (by first | (with_reducible assumption) | assumption); obtain ⟨ad377, e377, hx377_0⟩ := Kd.at_int (Kd.R_reads' HO_5.out).2.2 x6_1 p377 q377; obtain rfl : ad375 = ad377 := (by injection e377); replace p377 := eq_true p377; replace q377 := eq_true q377) | (go_at_call 28; (with_reducible refine (incipitref03_Punct.calls k1 (rd t369 x6_1) false _ A14.out).mono ?_); rintro e w29 ⟨rfl, hb⟩; have n0_ := Aside0.mk (Kd.R_below (by (with_reducible repeat (first | apply Kd.R_alloc | apply Kd.R_drewN | apply Kd.R_drew)); exact HO_5.out) hb); have n1_ := Aside0.mk (below_step (by repeat (first | (with_reducible first | exact HB.out | apply below_alloc | apply pw_below_drewN | apply below_drew1) | exact HB.out)) hb); clear HO_5; clear HB; have HO_5 := n0_; have HB := n1_; clear n0_ n1_; (try clear hb); (try clear hb2); (try clear hk); (try clear hi); have p383 : 0 ≤ (x6_1 : Int) := of_decide_eq_true (by first | (with_reducible assumption) | assumption); have q383 : x6_1 < (t369.length : Int) := of_decide_eq_true (by first | (with_reducible assumption) | assumption); obtain ⟨ad383, e383, hx383_0⟩ := Kd.at_int (Kd.R_reads' HO_5.out).2.2 x6_1 p383 q383; obtain rfl : ad375 = ad383 := (by injection e383); replace p383 := eq_true p383; replace q383 := eq_true q383))
                  go_roundg k1
                  case measure => have := HK1.out; omega
                  case rel => exact ⟨(wrap64 (x6_1 + 1)), (by first | rfl | (simp; done) | (simp [*]; done)), H', ⟨by have := HK1.out; omega⟩, ⟨by (with_reducible repeat (first | apply Kd.R_alloc | apply Kd.R_drewN | apply Kd.R_drew)); exact HO_5.out⟩, ⟨by repeat (first | (with_reducible first | exact HB.out | apply below_alloc | apply pw_below_drewN | apply below_drew1) | exact HB.out)⟩⟩
          · rw [if_neg c11] at H
            exact absurd H (by simp)
        · rw [if_neg c10] at H
          have c10b0 : decide (x6_1 < (t369.length : Int)) = false := decide_eq_false c10
          clear c10
          by_cases c30 : t367 = true
          · subst c30
            have H1 : (if (t369.length : Int) > 0 then (if 0 ≤ (mn 2 (t368.size : Int)) then (if (mn 2 (t368.size : Int)) ≤ (t368.size : Int) then (if (t368.extract 0 ((mn 2 (t368.size : Int)) : Int).toNat).toList = ([102, 110] : List UInt8) then (none) else ((incipitref03_Fold.f k1 a0).bind fun t372 => ((slug_Slug.f t372).bind fun t373 => (if t373.toList = t368.toList then ((slug_Slug.f t368).bind fun t374 => (some (t374.toList == t368.toList))) else (none))))) else (none)) else (none)) else (none)) = some r := by rw [if_pos rfl] at H; exact H
            clear H
            have H := H1
            clear H1
            by_cases c31 : (t369.length : Int) > 0
            · rw [if_pos c31] at H
              have c31b0 : decide (0 < (t369.length : Int)) = true := decide_eq_true c31
              have c31b1 : decide (0 < t369.length) = true := decide_eq_true (by omega)
              clear c31
              obtain ⟨ji32, hji32⟩ : ∃ j_ : Int, (mn 2 (t368.size : Int)) = j_ := ⟨_, rfl⟩
              replace H : (if 0 ≤ (ji32) then (if (ji32) ≤ (t368.size : Int) then (if (t368.extract 0 ((ji32) : Int).toNat).toList = ([102, 110] : List UInt8) then (none) else ((incipitref03_Fold.f k1 a0).bind fun t372 => ((slug_Slug.f t372).bind fun t373 => (if t373.toList = t368.toList then ((slug_Slug.f t368).bind fun t374 => (some (t374.toList == t368.toList))) else (none))))) else (none)) else (none)) = some r := by first | (rw [hji32] at H; exact H) | (simp only [hji32] at H ⊢; exact H)
              have hji32_ : (if (t368.size : Int) < 2 then (t368.size : Int) else 2) = ji32 := hji32
              by_cases c33 : 0 ≤ (ji32)
              · rw [if_pos c33] at H
                have c33b0 := eq_true c33
                have c33b1 : decide (0 ≤ (ji32)) = true := decide_eq_true c33
                clear c33
                by_cases c34 : (ji32) ≤ (t368.size : Int)
                · rw [if_pos c34] at H
                  have c34b0 := eq_true c34
                  have c34b1 : decide ((ji32) ≤ (t368.size : Int)) = true := decide_eq_true c34
                  clear c34
                  by_cases c35 : (t368.extract 0 ((ji32) : Int).toNat).toList = ([102, 110] : List UInt8)
                  · rw [if_pos c35] at H
                    exact absurd H (by simp)
                  · rw [if_neg c35] at H
                    have c35b0 : ((t368.extract 0 ((ji32) : Int).toNat).toList == ([102, 110] : List UInt8)) = false := beq_eq_false_iff_ne.mpr c35
                    have c35b1 : ((t368.extract 0 ((ji32) : Int).toNat).toList != ([102, 110] : List UInt8)) = true := bne_iff_ne.mpr c35
                    replace H := Option.bind_eq_some_iff.mp H
                    obtain ⟨t372, A360, H⟩ := H
                    replace H : ((slug_Slug.f t372).bind fun t373 => (if t373.toList = t368.toList then ((slug_Slug.f t368).bind fun t374 => (some (t374.toList == t368.toList))) else (none))) = some r := H
                    have A36 := Aside0.mk A360
                    clear A360
                    replace H := Option.bind_eq_some_iff.mp H
                    obtain ⟨t373, A370, H⟩ := H
                    replace H : (if t373.toList = t368.toList then ((slug_Slug.f t368).bind fun t374 => (some (t374.toList == t368.toList))) else (none)) = some r := H
                    have A37 := Aside0.mk A370
                    clear A370
                    by_cases c38 : t373.toList = t368.toList
                    · rw [if_pos c38] at H
                      have c38b0 : (t373.toList == t368.toList) = true := beq_iff_eq.mpr c38
                      have c38b1 : (t373.toList != t368.toList) = false := bne_eq_false_iff_eq.mpr c38
                      clear c38
                      replace H := Option.bind_eq_some_iff.mp H
                      obtain ⟨t374, A390, H⟩ := H
                      replace H : (some (t374.toList == t368.toList)) = some r := H
                      have A39 := Aside0.mk A390
                      clear A390
                      obtain rfl := Option.some.inj H
                      obtain ⟨Ao40, co40, eo40⟩ := Kd.R_slice HO_5.out
                      subst eo40
                      go_wp2_with (first | (go_at_call 32; (with_reducible refine (incipitref03_Fold.calls k1 a0 t372 _ A36.out).mono ?_); rintro e w41 ⟨rfl, hb⟩; have n0_ := Aside0.mk (Kd.R_below (by (with_reducible repeat (first | apply Kd.R_alloc | apply Kd.R_drewN | apply Kd.R_drew)); exact HO_5.out) hb); have n1_ := Aside0.mk (below_step (by repeat (first | (with_reducible first | exact HB.out | apply below_alloc | apply pw_below_drewN | apply below_drew1) | exact HB.out)) hb); clear HO_5; clear HB; have HO_5 := n0_; have HB := n1_; clear n0_ n1_; (try clear hb); (try clear hb2); (try clear hk); (try clear hi)) | (go_at_call 38; (with_reducible refine (slug_Slug.calls t372 t373 _ A37.out (Tabs.below HT.out (by repeat (first | (with_reducible first | exact HB.out | apply below_alloc | apply pw_below_drewN | apply below_drew1) | exact HB.out)))).mono ?_); rintro e w42 ⟨rfl, hb⟩; have n0_ := Aside0.mk (Kd.R_below (by (with_reducible repeat (first | apply Kd.R_alloc | apply Kd.R_drewN | apply Kd.R_drew)); exact HO_5.out) hb); have n1_ := Aside0.mk (below_step (by repeat (first | (with_reducible first | exact HB.out | apply below_alloc | apply pw_below_drewN | apply below_drew1) | exact HB.out)) hb); clear HO_5; clear HB; have HO_5 := n0_; have HB := n1_; clear n0_ n1_; (try clear hb); (try clear hb2); (try clear hk); (try clear hi)) | (go_at_call 38; (with_reducible refine (slug_Slug.calls t368 t374 _ A39.out (Tabs.below HT.out (by repeat (first | (with_reducible first | exact HB.out | apply below_alloc | apply pw_below_drewN | apply below_drew1) | exact HB.out)))).mono ?_); rintro e w43 ⟨rfl, hb⟩; have n0_ := Aside0.mk (Kd.R_below (by (with_reducible repeat (first | apply Kd.R_alloc | apply Kd.R_drewN | apply Kd.R_drew)); exact HO_5.out) hb); have n1_ := Aside0.mk (below_step (by repeat (first | (with_reducible first | exact HB.out | apply below_alloc | apply pw_below_drewN | apply below_drew1) | exact HB.out)) hb); clear HO_5; clear HB; have HO_5 := n0_; have HB := n1_; clear n0_ n1_; (try clear hb); (try clear hb2); (try clear hk); (try clear hi)))
                      go_ret
                      exact ⟨by first | rfl | (simp [errW_none, errW_some] <;> rfl) | (simp only [← hji32]; first | rfl | (simp [errW_none, errW_some] <;> rfl)) | (simp [*, errW_none, errW_some] <;> rfl), by repeat (first | (with_reducible first | exact HB.out | apply below_alloc | apply pw_below_drewN | apply below_drew1) | exact HB.out)⟩
                    · rw [if_neg c38] at H
                      exact absurd H (by simp)
                · rw [if_neg c34] at H
                  exact absurd H (by simp)
              · rw [if_neg c33] at H
                exact absurd H (by simp)
            · rw [if_neg c31] at H
              exact absurd H (by simp)
          · replace c30 := Bool.eq_false_iff.mpr c30
            subst c30
            have H1 : (none) = some r := by rw [if_neg (show ¬ (false = true) by decide)] at H; exact H
            clear H
            have H := H1
            clear H1
            exact absurd H (by simp)

/-- THE ONE PURE STATEMENT of incipitlaw19_SlugSound: yours. -/
def incipitlaw19_SlugSound.Pure : Prop := ∀ (a0 : ByteArray), a0.size ≤ 140737488351232 → ∃ k, incipitlaw19_SlugSound.f k a0 = some true
theorem incipitlaw19_SlugSound.walk (P : incipitlaw19_SlugSound.Pure) (a0 : ByteArray) (w : World) (w0 : a0.size ≤ 140737488351232) (hT : Tabs w) :
    Calls Tryd.prog 12 #[.string a0] w fun e w' => e = .returned (.bool true) ∧ Below w.heap.size w w' := by
  have HT := Aside0.mk hT
  clear hT
  obtain ⟨k, h⟩ := P a0 w0
  refine (incipitlaw19_SlugSound.calls k a0 true w h HT.out).mono ?_
  rintro e w' ⟨rfl, hd⟩
  exact ⟨rfl, hd⟩

end Go.Proofs.YtbgbmphjjdiaeaaDoor.P
