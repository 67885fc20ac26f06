/- Functions of the seat as plain Lean functions, and proofs that the Go code comes to them; laid by wip/handprint.py over the kit's printer. -/
import Derived.Test.YtclondmclehiiaaPk0
import Derived.Test.YtclondmclehiiaaMatch
import Derived.Test.YtclondmclehiiaaPk4
namespace Go.Proofs.Ytclondmclehiiaa.P
open Go.RowKit Go.Proofs.YtclondmclehiiaaW.PrintWords Go.Proofs.YtclondmclehiiaaW.PrintLast Go.Proofs.YtclondmclehiiaaW.PrintMore
attribute [local go_sem] max2_int min2_int max_two min_two max_three min_three max_four min_four   -- for this text's walks alone
set_option linter.unusedVariables false
set_option linter.unusedSimpArgs false

/-! ### incipitlaw13_DelimDeep: function 7 -/
def incipitlaw13_DelimDeep.l0 : Nat → Bool → List (S40) → Int → Int → Option (Bool)
  | 0, _, _, _, _ => none
  | k + 1, x5, x8, x9, x10 => if x10 < (x8.length : Int) then (if x10 = (wrap64 (Int.tdiv x9 2)) then (if 0 ≤ x10 then (if ((rd_T40 x8 x10).f2) = 1 then (if ((rd_T40 x8 x10).f0) = 0 then (if ((rd_T40 x8 x10).f1) = 1 then (incipitlaw13_DelimDeep.l0 k x5 x8 x9 (wrap64 (x10 + 1))) else (some false)) else (some false)) else (some false)) else (none)) else (if 0 ≤ x10 then (if ((rd_T40 x8 x10).f2) = 2 then (if ((rd_T40 x8 x10).f0) = 0 then (if ((rd_T40 x8 x10).f1) = 1 then (incipitlaw13_DelimDeep.l0 k x5 x8 x9 (wrap64 (x10 + 1))) else (some false)) else (some false)) else (some false)) else (none))) else (some x5)
def incipitlaw13_DelimDeep.f (k : Nat) (a0 : Int) (a1 : Int) : Option (Bool) := (incipitlaw13_awake.f).bind fun t242 => ((delim_Match.f (([(⟨42, wrap64 (1 + (Go.bits .and .i64 a0 63)), true, false⟩ : S28), (⟨42, wrap64 (1 + (Go.bits .and .i64 a1 63)), false, true⟩ : S28)] : List (S28)))).bind fun t246 => (if (t246.length : Int) = (wrap64 (Int.tdiv (wrap64 ((mn (wrap64 (1 + (Go.bits .and .i64 a0 63))) (wrap64 (1 + (Go.bits .and .i64 a1 63)))) + 1)) 2)) then (incipitlaw13_DelimDeep.l0 k t242 t246 (mn (wrap64 (1 + (Go.bits .and .i64 a0 63))) (wrap64 (1 + (Go.bits .and .i64 a1 63)))) 0) else (some false)))
theorem incipitlaw13_DelimDeep.mono_l : ∀ k, (∀ y0 y1 y2 y3, LeO (incipitlaw13_DelimDeep.l0 k y0 y1 y2 y3) (incipitlaw13_DelimDeep.l0 (k + 1) y0 y1 y2 y3))
  | 0 => fun _ _ _ _ r h => by simp [incipitlaw13_DelimDeep.l0] at h
  | k + 1 => by
    have ih0 := incipitlaw13_DelimDeep.mono_l k
    · intro y0 y1 y2 y3
      unfold incipitlaw13_DelimDeep.l0
      repeat' first
      | (with_reducible exact ih0 _ _ _ _)
      | (with_reducible exact LeO.refl _)
      | (with_reducible exact LeO.none _)
      | (with_reducible refine LeO.ite ?_ ?_)
      | (with_reducible refine LeO.bind ?_ (fun _ => ?_))
      | exact ih0 _ _ _ _
      | exact LeO.none _
      | refine LeO.ite ?_ ?_
      | refine LeO.bind ?_ (fun _ => ?_)
theorem incipitlaw13_DelimDeep.mono : ∀ a0 a1 k, LeO (incipitlaw13_DelimDeep.f k a0 a1) (incipitlaw13_DelimDeep.f (k + 1) a0 a1) := by
  intro a0 a1 k
  have ih0 := incipitlaw13_DelimDeep.mono_l k
  unfold incipitlaw13_DelimDeep.f
  repeat' first
      | (with_reducible exact ih0 _ _ _ _)
      | (with_reducible exact LeO.refl _)
      | (with_reducible exact LeO.none _)
      | (with_reducible refine LeO.ite ?_ ?_)
      | (with_reducible refine LeO.bind ?_ (fun _ => ?_))
      | exact ih0 _ _ _ _
      | exact LeO.none _
      | refine LeO.ite ?_ ?_
      | refine LeO.bind ?_ (fun _ => ?_)
set_option maxHeartbeats 8000000 in
set_option maxRecDepth 100000 in
theorem incipitlaw13_DelimDeep.calls (k : Nat) (a0 : Int) (a1 : Int) (r : Bool) (w : World) (h : incipitlaw13_DelimDeep.f k a0 a1 = some r) :
    Calls Try.prog 7 #[.int .i64 a0, .int .i64 a1] w fun e w' => e = .returned (.bool r) ∧ Below w.heap.size w w' := by
  have hu28 := Try.underlying28
  have HB := Aside0.mk (Below.refl w.heap.size w)
  have H : ((incipitlaw13_awake.f).bind fun t242 => ((delim_Match.f (([(⟨42, wrap64 (1 + (Go.bits .and .i64 a0 63)), true, false⟩ : S28), (⟨42, wrap64 (1 + (Go.bits .and .i64 a1 63)), false, true⟩ : S28)] : List (S28)))).bind fun t246 => (if (t246.length : Int) = (wrap64 (Int.tdiv (wrap64 ((mn (wrap64 (1 + (Go.bits .and .i64 a0 63))) (wrap64 (1 + (Go.bits .and .i64 a1 63)))) + 1)) 2)) then (incipitlaw13_DelimDeep.l0 k t242 t246 (mn (wrap64 (1 + (Go.bits .and .i64 a0 63))) (wrap64 (1 + (Go.bits .and .i64 a1 63)))) 0) else (some false)))) = some r := h
  clear h
  replace H := Option.bind_eq_some_iff.mp H
  obtain ⟨t242, A30, H⟩ := H
  replace H : ((delim_Match.f (([(⟨42, wrap64 (1 + (Go.bits .and .i64 a0 63)), true, false⟩ : S28), (⟨42, wrap64 (1 + (Go.bits .and .i64 a1 63)), false, true⟩ : S28)] : List (S28)))).bind fun t246 => (if (t246.length : Int) = (wrap64 (Int.tdiv (wrap64 ((mn (wrap64 (1 + (Go.bits .and .i64 a0 63))) (wrap64 (1 + (Go.bits .and .i64 a1 63)))) + 1)) 2)) then (incipitlaw13_DelimDeep.l0 k t242 t246 (mn (wrap64 (1 + (Go.bits .and .i64 a0 63))) (wrap64 (1 + (Go.bits .and .i64 a1 63)))) 0) else (some false))) = some r := H
  have A3 := Aside0.mk A30
  clear A30
  obtain ⟨y243, hy243⟩ : ∃ y_ : List (S28), y_ = (([(⟨42, wrap64 (1 + (Go.bits .and .i64 a0 63)), true, false⟩ : S28), (⟨42, wrap64 (1 + (Go.bits .and .i64 a1 63)), false, true⟩ : S28)] : List (S28))) := ⟨_, rfl⟩
  replace H : ((delim_Match.f y243).bind fun t246 => (if (t246.length : Int) = (wrap64 (Int.tdiv (wrap64 ((mn (wrap64 (1 + (Go.bits .and .i64 a0 63))) (wrap64 (1 + (Go.bits .and .i64 a1 63)))) + 1)) 2)) then (incipitlaw13_DelimDeep.l0 k t242 t246 (mn (wrap64 (1 + (Go.bits .and .i64 a0 63))) (wrap64 (1 + (Go.bits .and .i64 a1 63)))) 0) else (some false))) = some r := by first | (rw [hy243]; with_reducible exact H) | (have H2_ := (Option.bind_some _ _).symm.trans H; rw [hy243]; with_reducible exact H2_) | (have H2_ := (Option.bind_some _ _).symm.trans H; with_reducible exact H2_) | with_reducible exact H | (rw [hy243]; exact H) | exact H
  have Ny243 := Aside0.mk hy243
  clear hy243
  replace H := Option.bind_eq_some_iff.mp H
  obtain ⟨t246, A40, H⟩ := H
  replace H : (if (t246.length : Int) = (wrap64 (Int.tdiv (wrap64 ((mn (wrap64 (1 + (Go.bits .and .i64 a0 63))) (wrap64 (1 + (Go.bits .and .i64 a1 63)))) + 1)) 2)) then (incipitlaw13_DelimDeep.l0 k t242 t246 (mn (wrap64 (1 + (Go.bits .and .i64 a0 63))) (wrap64 (1 + (Go.bits .and .i64 a1 63)))) 0) else (some false)) = some r := H
  have A4 := Aside0.mk A40
  clear A40
  obtain ⟨ji5, hji5⟩ : ∃ j_ : Int, (mn (wrap64 (1 + (Go.bits .and .i64 a0 63))) (wrap64 (1 + (Go.bits .and .i64 a1 63)))) = j_ := ⟨_, rfl⟩
  replace H : (if (t246.length : Int) = (wrap64 (Int.tdiv (wrap64 ((ji5) + 1)) 2)) then (incipitlaw13_DelimDeep.l0 k t242 t246 ji5 0) else (some false)) = some r := by first | (rw [hji5] at H; exact H) | (simp only [hji5] at H ⊢; exact H)
  (try rw [hji5] at A3)
  (try rw [hji5] at A4)
  have hji5_ : (if (wrap64 (1 + (Go.bits .and .i64 a1 63))) < (wrap64 (1 + (Go.bits .and .i64 a0 63))) then (wrap64 (1 + (Go.bits .and .i64 a1 63))) else (wrap64 (1 + (Go.bits .and .i64 a0 63)))) = ji5 := hji5
  by_cases c6 : (t246.length : Int) = (wrap64 (Int.tdiv (wrap64 ((ji5) + 1)) 2))
  · rw [if_pos c6] at H
    have c6b0 : ((t246.length : Int) == (wrap64 (Int.tdiv (wrap64 ((ji5) + 1)) 2))) = true := beq_iff_eq.mpr c6
    have c6b1 : ((t246.length : Int) != (wrap64 (Int.tdiv (wrap64 ((ji5) + 1)) 2))) = false := bne_eq_false_iff_eq.mpr c6
    clear c6
    have H' := Aside0.mk H
    clear H
    go_enter Try.func7, Try.ntmps7
    go_wp2_with (first | ((with_reducible refine gate_callee (f := 10) rfl ?_); refine goesL_ (some 12) rfl rfl Try.func10 (by kernel_rfl) rfl #[] rfl (by (try simp only [List.map_toArray, List.map_cons, List.map_nil]); first | done | rfl | (simp only [List.length_drop, List.length_take]; rfl)) ?_; (with_reducible refine (incipitlaw13_awake.calls  t242 _ A3.out).mono ?_); rintro e w7 ⟨rfl, hb⟩; refine ⟨_, rfl, ?_⟩; have n0_ := Aside0.mk (below_step (by repeat (first | (with_reducible first | exact HB.out | apply below_alloc | apply pw_below_drewN | apply below_drew1) | exact HB.out)) hb); clear HB; have HB := n0_; clear n0_; (try clear hb); (try clear hb2); (try clear hk); (try clear hi)) | ((with_reducible refine gate_dst (N := 23) rfl ?_); refine Kd.R_lit k28 _ 28 ?hg (N := 23) ?hd (xs := ([(⟨42, wrap64 (1 + (Go.bits .and .i64 a0 63)), true, false⟩ : S28), (⟨42, wrap64 (1 + (Go.bits .and .i64 a1 63)), false, true⟩ : S28)] : List (S28))) (inner := [.int .u8 42, .int .i64 (wrap64 (1 + (Go.bits .and .i64 a0 63))), .bool true, .bool false, .int .u8 42, .int .i64 (wrap64 (1 + (Go.bits .and .i64 a1 63))), .bool false, .bool true]) (ok := fun _ => True) (okp := fun _ => True) ?hr ?hp (fun _ hk => hk) trivial (Below.refl _ _) (Nat.le_refl _) (by simp) ?_; (case hd => rfl); (case hg => rfl); (case hr => first | (go_simp; done) | (go_simp; rfl)); (case hp => exact (Reps.c4 (show Kd.M k28 _ _ _ (⟨42, wrap64 (1 + (Go.bits .and .i64 a0 63)), true, false⟩ : S28) [.int .u8 42, .int .i64 (wrap64 (1 + (Go.bits .and .i64 a0 63))), .bool true, .bool false] from (k28_mkM _ _ _ (⟨42, wrap64 (1 + (Go.bits .and .i64 a0 63)), true, false⟩ : S28) )) (Reps.c4 (show Kd.M k28 _ _ _ (⟨42, wrap64 (1 + (Go.bits .and .i64 a1 63)), false, true⟩ : S28) [.int .u8 42, .int .i64 (wrap64 (1 + (Go.bits .and .i64 a1 63))), .bool false, .bool true] from (k28_mkM _ _ _ (⟨42, wrap64 (1 + (Go.bits .and .i64 a1 63)), false, true⟩ : S28) )) (Reps.none _ _)))); intro v244 w8 ho9 hb hg_ hnew_; clear hg_ hnew_; (first | rw [← Ny243.out] at ho9 | (simp only [Int.reduceToNat] at ho9; rw [← Ny243.out] at ho9)); have n0_ := Aside0.mk (Kd.R_lower ho9 (below_size (by repeat (first | (with_reducible first | exact HB.out | apply below_alloc | apply pw_below_drewN | apply below_drew1) | exact HB.out)))); have n1_ := Aside0.mk (below_step (by repeat (first | (with_reducible first | exact HB.out | apply below_alloc | apply pw_below_drewN | apply below_drew1) | exact HB.out)) hb); clear HB; have HO245 := n0_; have HB := n1_; clear n0_ n1_; clear hb ho9; obtain ⟨Ao10, co10, eo10⟩ := Kd.R_slice HO245.out; subst eo10) | ((with_reducible refine gate_callee (f := 15) rfl ?_); refine goesL_ (some 24) rfl rfl Try.func15 (by kernel_rfl) rfl #[.slice Ao10 y243.length co10] rfl (by (try simp only [List.map_toArray, List.map_cons, List.map_nil]); first | done | rfl | (simp only [List.length_drop, List.length_take]; rfl)) ?_; (with_reducible refine (delim_Match.calls _ _ y243 t246 _ ?side1 ?side2 A4.out).mono ?_); (case side1 => repeat (first | exact (Kd.R_reads' HO245.out).2.2 | (with_reducible refine Kd.C_alloc ?_ _) | (with_reducible refine Kd.C_drewN ?_ _) | (with_reducible refine Kd.C_drew ?_))); (case side2 => exact (Kd.R_reads' HO245.out).2.1); rintro e w11 ⟨v247, rfl, ho0, hb⟩; refine ⟨_, rfl, ?_⟩; have n0_ := Aside0.mk (Kd.R_below (by (with_reducible repeat (first | apply Kd.R_alloc | apply Kd.R_drewN | apply Kd.R_drew)); exact HO245.out) hb); have n1_ := Aside0.mk (Kd.R_lower ho0 (below_size (by repeat (first | (with_reducible first | exact HB.out | apply below_alloc | apply pw_below_drewN | apply below_drew1) | exact HB.out)))); have n2_ := Aside0.mk (below_step (by repeat (first | (with_reducible first | exact HB.out | apply below_alloc | apply pw_below_drewN | apply below_drew1) | exact HB.out)) hb); clear HO245; clear HB; have HO245 := n0_; have HO248 := n1_; have HB := n2_; clear n0_ n1_ n2_; (try clear hb); (try clear hb2); (try clear hk); (try clear hi); (try clear ho0); obtain ⟨Ao12, co12, eo12⟩ := Kd.R_slice HO248.out; subst eo12))
    go_loopg [10] k (fun kq v10 w' => ∃ (x10_1 : Int), v10 = .int .i64 x10_1 ∧ Aside0 (incipitlaw13_DelimDeep.l0 kq t242 t246 ji5 x10_1 = some r) ∧ Aside0 (kq ≤ k) ∧ Aside0 (Kd.R k40 40 w' w.heap.size (fun _ => True) (.slice Ao12 t246.length co12) t246) ∧ Aside0 (Below w.heap.size w w'))
    case atStart => exact ⟨(0), (by first | rfl | (simp; done) | (simp [*]; done)), H', ⟨Nat.le_refl _⟩, ⟨by (with_reducible repeat (first | apply Kd.R_alloc | apply Kd.R_drewN | apply Kd.R_drew)); exact HO248.out⟩, ⟨by repeat (first | (with_reducible first | exact HB.out | apply below_alloc | apply pw_below_drewN | apply below_drew1) | exact HB.out)⟩⟩
    case round =>
      clear H'
      try clear c1
      try clear p2
      try clear c4
      try clear c6
      try clear c6b0
      try clear c6b1
      try clear p6
      try clear c7
      try clear c10
      obtain ⟨x10_1, rfl, HA, HK1, HO_8, HB⟩ := hrel
      cases gk with
      | zero => exact absurd HA.out (by simp [incipitlaw13_DelimDeep.l0])
      | succ k1 =>
        have H := HA.out
        clear HA
        simp only [incipitlaw13_DelimDeep.l0] at H
        by_cases c13 : x10_1 < (t246.length : Int)
        · rw [if_pos c13] at H
          have c13b0 : decide (x10_1 < (t246.length : Int)) = true := decide_eq_true c13
          clear c13
          by_cases c14 : x10_1 = (wrap64 (Int.tdiv ji5 2))
          · rw [if_pos c14] at H
            have c14b0 : (x10_1 == (wrap64 (Int.tdiv ji5 2))) = true := beq_iff_eq.mpr c14
            have c14b1 : (x10_1 != (wrap64 (Int.tdiv ji5 2))) = false := bne_eq_false_iff_eq.mpr c14
            clear c14
            by_cases c15 : 0 ≤ x10_1
            · rw [if_pos c15] at H
              have c15b0 : decide (0 ≤ x10_1) = true := decide_eq_true c15
              clear c15
              by_cases c16 : ((rd_T40 t246 x10_1).f2) = 1
              · rw [if_pos c16] at H
                have c16b0 : (((rd_T40 t246 x10_1).f2) == 1) = true := beq_iff_eq.mpr c16
                have c16b1 : (((rd_T40 t246 x10_1).f2) != 1) = false := bne_eq_false_iff_eq.mpr c16
                clear c16
                by_cases c17 : ((rd_T40 t246 x10_1).f0) = 0
                · rw [if_pos c17] at H
                  have c17b0 : (((rd_T40 t246 x10_1).f0) == 0) = true := beq_iff_eq.mpr c17
                  have c17b1 : (((rd_T40 t246 x10_1).f0) != 0) = false := bne_eq_false_iff_eq.mpr c17
                  clear c17
                  by_cases c18 : ((rd_T40 t246 x10_1).f1) = 1
                  · rw [if_pos c18] at H
                    have c18b0 : (((rd_T40 t246 x10_1).f1) == 1) = true := beq_iff_eq.mpr c18
                    have c18b1 : (((rd_T40 t246 x10_1).f1) != 1) = false := bne_eq_false_iff_eq.mpr c18
                    clear c18
                    have H' := Aside0.mk H
                    clear H
                    have p249 : 0 ≤ (x10_1 : Int) := of_decide_eq_true (by first | (with_reducible assumption) | assumption)
                    have q249 : x10_1 < (t246.length : Int) := of_decide_eq_true (by first | (with_reducible assumption) | assumption)
                    obtain ⟨ad249, e249, hx249_0, hx249_1, hx249_2⟩ := at_T40 (Kd.R_reads' HO_8.out).2.2 x10_1 p249 q249
                    cases e249
                    replace p249 := eq_true p249
                    replace q249 := eq_true q249
                    have p250 : 0 ≤ (x10_1 : Int) := of_decide_eq_true (by first | (with_reducible assumption) | assumption)
                    have q250 : x10_1 < (t246.length : Int) := of_decide_eq_true (by first | (with_reducible assumption) | assumption)
                    obtain ⟨ad250, e250, hx250_0, hx250_1, hx250_2⟩ := at_T40 (Kd.R_reads' HO_8.out).2.2 x10_1 p250 q250
                    obtain rfl : ad249 = ad250 := (by injection e250)
                    replace p250 := eq_true p250
                    replace q250 := eq_true q250
                    have p251 : 0 ≤ (x10_1 : Int) := of_decide_eq_true (by first | (with_reducible assumption) | assumption)
                    have q251 : x10_1 < (t246.length : Int) := of_decide_eq_true (by first | (with_reducible assumption) | assumption)
                    obtain ⟨ad251, e251, hx251_0, hx251_1, hx251_2⟩ := at_T40 (Kd.R_reads' HO_8.out).2.2 x10_1 p251 q251
                    obtain rfl : ad249 = ad251 := (by injection e251)
                    replace p251 := eq_true p251
                    replace q251 := eq_true q251
                    go_wp2
                    go_roundg k1
                    case measure => have := HK1.out; omega
                    case rel => exact ⟨(wrap64 (x10_1 + 1)), (by first | rfl | (simp; done) | (simp [*]; done)), H', ⟨by have := HK1.out; omega⟩, ⟨by (with_reducible repeat (first | apply Kd.R_alloc | apply Kd.R_drewN | apply Kd.R_drew)); exact HO_8.out⟩, ⟨by repeat (first | (with_reducible first | exact HB.out | apply below_alloc | apply pw_below_drewN | apply below_drew1) | exact HB.out)⟩⟩
                  · rw [if_neg c18] at H
                    have c18b0 : (((rd_T40 t246 x10_1).f1) == 1) = false := beq_eq_false_iff_ne.mpr c18
                    have c18b1 : (((rd_T40 t246 x10_1).f1) != 1) = true := bne_iff_ne.mpr c18
                    obtain rfl := Option.some.inj H
                    have p249 : 0 ≤ (x10_1 : Int) := of_decide_eq_true (by first | (with_reducible assumption) | assumption)
                    have q249 : x10_1 < (t246.length : Int) := of_decide_eq_true (by first | (with_reducible assumption) | assumption)
                    obtain ⟨ad249, e249, hx249_0, hx249_1, hx249_2⟩ := at_T40 (Kd.R_reads' HO_8.out).2.2 x10_1 p249 q249
                    cases e249
                    replace p249 := eq_true p249
                    replace q249 := eq_true q249
                    have p250 : 0 ≤ (x10_1 : Int) := of_decide_eq_true (by first | (with_reducible assumption) | assumption)
                    have q250 : x10_1 < (t246.length : Int) := of_decide_eq_true (by first | (with_reducible assumption) | assumption)
                    obtain ⟨ad250, e250, hx250_0, hx250_1, hx250_2⟩ := at_T40 (Kd.R_reads' HO_8.out).2.2 x10_1 p250 q250
                    obtain rfl : ad249 = ad250 := (by injection e250)
                    replace p250 := eq_true p250
                    replace q250 := eq_true q250
                    have p251 : 0 ≤ (x10_1 : Int) := of_decide_eq_true (by first | (with_reducible assumption) | assumption)
                    have q251 : x10_1 < (t246.length : Int) := of_decide_eq_true (by first | (with_reducible assumption) | assumption)
                    obtain ⟨ad251, e251, hx251_0, hx251_1, hx251_2⟩ := at_T40 (Kd.R_reads' HO_8.out).2.2 x10_1 p251 q251
                    obtain rfl : ad249 = ad251 := (by injection e251)
                    replace p251 := eq_true p251
                    replace q251 := eq_true q251
                    go_wp2
                    go_ret
                    exact ⟨by first | rfl | (simp [errW_none, errW_some] <;> rfl) | (simp only [← hji5]; first | rfl | (simp [errW_none, errW_some] <;> rfl)) | (simp [*, errW_none, errW_some] <;> rfl), by repeat (first | (with_reducible first | exact HB.out | apply below_alloc | apply pw_below_drewN | apply below_drew1) | exact HB.out)⟩
                · rw [if_neg c17] at H
                  have c17b0 : (((rd_T40 t246 x10_1).f0) == 0) = false := beq_eq_false_iff_ne.mpr c17
                  have c17b1 : (((rd_T40 t246 x10_1).f0) != 0) = true := bne_iff_ne.mpr c17
                  obtain rfl := Option.some.inj H
                  have p249 : 0 ≤ (x10_1 : Int) := of_decide_eq_true (by first | (with_reducible assumption) | assumption)
                  have q249 : x10_1 < (t246.length : Int) := of_decide_eq_true (by first | (with_reducible assumption) | assumption)
                  obtain ⟨ad249, e249, hx249_0, hx249_1, hx249_2⟩ := at_T40 (Kd.R_reads' HO_8.out).2.2 x10_1 p249 q249
                  cases e249
                  replace p249 := eq_true p249
                  replace q249 := eq_true q249
                  have p250 : 0 ≤ (x10_1 : Int) := of_decide_eq_true (by first | (with_reducible assumption) | assumption)
                  have q250 : x10_1 < (t246.length : Int) := of_decide_eq_true (by first | (with_reducible assumption) | assumption)
                  obtain ⟨ad250, e250, hx250_0, hx250_1, hx250_2⟩ := at_T40 (Kd.R_reads' HO_8.out).2.2 x10_1 p250 q250
                  obtain rfl : ad249 = ad250 := (by injection e250)
                  replace p250 := eq_true p250
                  replace q250 := eq_true q250
                  go_wp2
                  go_ret
                  exact ⟨by first | rfl | (simp [errW_none, errW_some] <;> rfl) | (simp only [← hji5]; first | rfl | (simp [errW_none, errW_some] <;> rfl)) | (simp [*, errW_none, errW_some] <;> rfl), by repeat (first | (with_reducible first | exact HB.out | apply below_alloc | apply pw_below_drewN | apply below_drew1) | exact HB.out)⟩
              · rw [if_neg c16] at H
                have c16b0 : (((rd_T40 t246 x10_1).f2) == 1) = false := beq_eq_false_iff_ne.mpr c16
                have c16b1 : (((rd_T40 t246 x10_1).f2) != 1) = true := bne_iff_ne.mpr c16
                obtain rfl := Option.some.inj H
                have p249 : 0 ≤ (x10_1 : Int) := of_decide_eq_true (by first | (with_reducible assumption) | assumption)
                have q249 : x10_1 < (t246.length : Int) := of_decide_eq_true (by first | (with_reducible assumption) | assumption)
                obtain ⟨ad249, e249, hx249_0, hx249_1, hx249_2⟩ := at_T40 (Kd.R_reads' HO_8.out).2.2 x10_1 p249 q249
                cases e249
                replace p249 := eq_true p249
                replace q249 := eq_true q249
                go_wp2
                go_ret
                exact ⟨by first | rfl | (simp [errW_none, errW_some] <;> rfl) | (simp only [← hji5]; first | rfl | (simp [errW_none, errW_some] <;> rfl)) | (simp [*, errW_none, errW_some] <;> rfl), by repeat (first | (with_reducible first | exact HB.out | apply below_alloc | apply pw_below_drewN | apply below_drew1) | exact HB.out)⟩
            · rw [if_neg c15] at H
              exact absurd H (by simp)
          · rw [if_neg c14] at H
            have c14b0 : (x10_1 == (wrap64 (Int.tdiv ji5 2))) = false := beq_eq_false_iff_ne.mpr c14
            have c14b1 : (x10_1 != (wrap64 (Int.tdiv ji5 2))) = true := bne_iff_ne.mpr c14
            by_cases c19 : 0 ≤ x10_1
            · rw [if_pos c19] at H
              have c19b0 : decide (0 ≤ x10_1) = true := decide_eq_true c19
              clear c19
              by_cases c20 : ((rd_T40 t246 x10_1).f2) = 2
              · rw [if_pos c20] at H
                have c20b0 : (((rd_T40 t246 x10_1).f2) == 2) = true := beq_iff_eq.mpr c20
                have c20b1 : (((rd_T40 t246 x10_1).f2) != 2) = false := bne_eq_false_iff_eq.mpr c20
                clear c20
                by_cases c21 : ((rd_T40 t246 x10_1).f0) = 0
                · rw [if_pos c21] at H
                  have c21b0 : (((rd_T40 t246 x10_1).f0) == 0) = true := beq_iff_eq.mpr c21
                  have c21b1 : (((rd_T40 t246 x10_1).f0) != 0) = false := bne_eq_false_iff_eq.mpr c21
                  clear c21
                  by_cases c22 : ((rd_T40 t246 x10_1).f1) = 1
                  · rw [if_pos c22] at H
                    have c22b0 : (((rd_T40 t246 x10_1).f1) == 1) = true := beq_iff_eq.mpr c22
                    have c22b1 : (((rd_T40 t246 x10_1).f1) != 1) = false := bne_eq_false_iff_eq.mpr c22
                    clear c22
                    have H' := Aside0.mk H
                    clear H
                    have p252 : 0 ≤ (x10_1 : Int) := of_decide_eq_true (by first | (with_reducible assumption) | assumption)
                    have q252 : x10_1 < (t246.length : Int) := of_decide_eq_true (by first | (with_reducible assumption) | assumption)
                    obtain ⟨ad252, e252, hx252_0, hx252_1, hx252_2⟩ := at_T40 (Kd.R_reads' HO_8.out).2.2 x10_1 p252 q252
                    cases e252
                    replace p252 := eq_true p252
                    replace q252 := eq_true q252
                    have p253 : 0 ≤ (x10_1 : Int) := of_decide_eq_true (by first | (with_reducible assumption) | assumption)
                    have q253 : x10_1 < (t246.length : Int) := of_decide_eq_true (by first | (with_reducible assumption) | assumption)
                    obtain ⟨ad253, e253, hx253_0, hx253_1, hx253_2⟩ := at_T40 (Kd.R_reads' HO_8.out).2.2 x10_1 p253 q253
                    obtain rfl : ad252 = ad253 := (by injection e253)
                    replace p253 := eq_true p253
                    replace q253 := eq_true q253
                    have p254 : 0 ≤ (x10_1 : Int) := of_decide_eq_true (by first | (with_reducible assumption) | assumption)
                    have q254 : x10_1 < (t246.length : Int) := of_decide_eq_true (by first | (with_reducible assumption) | assumption)
                    obtain ⟨ad254, e254, hx254_0, hx254_1, hx254_2⟩ := at_T40 (Kd.R_reads' HO_8.out).2.2 x10_1 p254 q254
                    obtain rfl : ad252 = ad254 := (by injection e254)
                    replace p254 := eq_true p254
                    replace q254 := eq_true q254
                    go_wp2
                    go_roundg k1
                    case measure => have := HK1.out; omega
                    case rel => exact ⟨(wrap64 (x10_1 + 1)), (by first | rfl | (simp; done) | (simp [*]; done)), H', ⟨by have := HK1.out; omega⟩, ⟨by (with_reducible repeat (first | apply Kd.R_alloc | apply Kd.R_drewN | apply Kd.R_drew)); exact HO_8.out⟩, ⟨by repeat (first | (with_reducible first | exact HB.out | apply below_alloc | apply pw_below_drewN | apply below_drew1) | exact HB.out)⟩⟩
                  · rw [if_neg c22] at H
                    have c22b0 : (((rd_T40 t246 x10_1).f1) == 1) = false := beq_eq_false_iff_ne.mpr c22
                    have c22b1 : (((rd_T40 t246 x10_1).f1) != 1) = true := bne_iff_ne.mpr c22
                    obtain rfl := Option.some.inj H
                    have p252 : 0 ≤ (x10_1 : Int) := of_decide_eq_true (by first | (with_reducible assumption) | assumption)
                    have q252 : x10_1 < (t246.length : Int) := of_decide_eq_true (by first | (with_reducible assumption) | assumption)
                    obtain ⟨ad252, e252, hx252_0, hx252_1, hx252_2⟩ := at_T40 (Kd.R_reads' HO_8.out).2.2 x10_1 p252 q252
                    cases e252
                    replace p252 := eq_true p252
                    replace q252 := eq_true q252
                    have p253 : 0 ≤ (x10_1 : Int) := of_decide_eq_true (by first | (with_reducible assumption) | assumption)
                    have q253 : x10_1 < (t246.length : Int) := of_decide_eq_true (by first | (with_reducible assumption) | assumption)
                    obtain ⟨ad253, e253, hx253_0, hx253_1, hx253_2⟩ := at_T40 (Kd.R_reads' HO_8.out).2.2 x10_1 p253 q253
                    obtain rfl : ad252 = ad253 := (by injection e253)
                    replace p253 := eq_true p253
                    replace q253 := eq_true q253
                    have p254 : 0 ≤ (x10_1 : Int) := of_decide_eq_true (by first | (with_reducible assumption) | assumption)
                    have q254 : x10_1 < (t246.length : Int) := of_decide_eq_true (by first | (with_reducible assumption) | assumption)
                    obtain ⟨ad254, e254, hx254_0, hx254_1, hx254_2⟩ := at_T40 (Kd.R_reads' HO_8.out).2.2 x10_1 p254 q254
                    obtain rfl : ad252 = ad254 := (by injection e254)
                    replace p254 := eq_true p254
                    replace q254 := eq_true q254
                    go_wp2
                    go_ret
                    exact ⟨by first | rfl | (simp [errW_none, errW_some] <;> rfl) | (simp only [← hji5]; first | rfl | (simp [errW_none, errW_some] <;> rfl)) | (simp [*, errW_none, errW_some] <;> rfl), by repeat (first | (with_reducible first | exact HB.out | apply below_alloc | apply pw_below_drewN | apply below_drew1) | exact HB.out)⟩
                · rw [if_neg c21] at H
                  have c21b0 : (((rd_T40 t246 x10_1).f0) == 0) = false := beq_eq_false_iff_ne.mpr c21
                  have c21b1 : (((rd_T40 t246 x10_1).f0) != 0) = true := bne_iff_ne.mpr c21
                  obtain rfl := Option.some.inj H
                  have p252 : 0 ≤ (x10_1 : Int) := of_decide_eq_true (by first | (with_reducible assumption) | assumption)
                  have q252 : x10_1 < (t246.length : Int) := of_decide_eq_true (by first | (with_reducible assumption) | assumption)
                  obtain ⟨ad252, e252, hx252_0, hx252_1, hx252_2⟩ := at_T40 (Kd.R_reads' HO_8.out).2.2 x10_1 p252 q252
                  cases e252
                  replace p252 := eq_true p252
                  replace q252 := eq_true q252
                  have p253 : 0 ≤ (x10_1 : Int) := of_decide_eq_true (by first | (with_reducible assumption) | assumption)
                  have q253 : x10_1 < (t246.length : Int) := of_decide_eq_true (by first | (with_reducible assumption) | assumption)
                  obtain ⟨ad253, e253, hx253_0, hx253_1, hx253_2⟩ := at_T40 (Kd.R_reads' HO_8.out).2.2 x10_1 p253 q253
                  obtain rfl : ad252 = ad253 := (by injection e253)
                  replace p253 := eq_true p253
                  replace q253 := eq_true q253
                  go_wp2
                  go_ret
                  exact ⟨by first | rfl | (simp [errW_none, errW_some] <;> rfl) | (simp only [← hji5]; first | rfl | (simp [errW_none, errW_some] <;> rfl)) | (simp [*, errW_none, errW_some] <;> rfl), by repeat (first | (with_reducible first | exact HB.out | apply below_alloc | apply pw_below_drewN | apply below_drew1) | exact HB.out)⟩
              · rw [if_neg c20] at H
                have c20b0 : (((rd_T40 t246 x10_1).f2) == 2) = false := beq_eq_false_iff_ne.mpr c20
                have c20b1 : (((rd_T40 t246 x10_1).f2) != 2) = true := bne_iff_ne.mpr c20
                obtain rfl := Option.some.inj H
                have p252 : 0 ≤ (x10_1 : Int) := of_decide_eq_true (by first | (with_reducible assumption) | assumption)
                have q252 : x10_1 < (t246.length : Int) := of_decide_eq_true (by first | (with_reducible assumption) | assumption)
                obtain ⟨ad252, e252, hx252_0, hx252_1, hx252_2⟩ := at_T40 (Kd.R_reads' HO_8.out).2.2 x10_1 p252 q252
                cases e252
                replace p252 := eq_true p252
                replace q252 := eq_true q252
                go_wp2
                go_ret
                exact ⟨by first | rfl | (simp [errW_none, errW_some] <;> rfl) | (simp only [← hji5]; first | rfl | (simp [errW_none, errW_some] <;> rfl)) | (simp [*, errW_none, errW_some] <;> rfl), by repeat (first | (with_reducible first | exact HB.out | apply below_alloc | apply pw_below_drewN | apply below_drew1) | exact HB.out)⟩
            · rw [if_neg c19] at H
              exact absurd H (by simp)
        · rw [if_neg c13] at H
          have c13b0 : decide (x10_1 < (t246.length : Int)) = false := decide_eq_false c13
          clear c13
          obtain rfl := Option.some.inj H
          go_wp2
          go_ret
          exact ⟨by first | rfl | (simp [errW_none, errW_some] <;> rfl) | (simp only [← hji5]; first | rfl | (simp [errW_none, errW_some] <;> rfl)) | (simp [*, errW_none, errW_some] <;> rfl), by repeat (first | (with_reducible first | exact HB.out | apply below_alloc | apply pw_below_drewN | apply below_drew1) | exact HB.out)⟩
  · rw [if_neg c6] at H
    have c6b0 : ((t246.length : Int) == (wrap64 (Int.tdiv (wrap64 ((ji5) + 1)) 2))) = false := beq_eq_false_iff_ne.mpr c6
    have c6b1 : ((t246.length : Int) != (wrap64 (Int.tdiv (wrap64 ((ji5) + 1)) 2))) = true := bne_iff_ne.mpr c6
    obtain rfl := Option.some.inj H
    go_enter Try.func7, Try.ntmps7
    go_wp2_with (first | ((with_reducible refine gate_callee (f := 10) rfl ?_); refine goesL_ (some 12) rfl rfl Try.func10 (by kernel_rfl) rfl #[] rfl (by (try simp only [List.map_toArray, List.map_cons, List.map_nil]); first | done | rfl | (simp only [List.length_drop, List.length_take]; rfl)) ?_; (with_reducible refine (incipitlaw13_awake.calls  t242 _ A3.out).mono ?_); rintro e w23 ⟨rfl, hb⟩; refine ⟨_, rfl, ?_⟩; have n0_ := Aside0.mk (below_step (by repeat (first | (with_reducible first | exact HB.out | apply below_alloc | apply pw_below_drewN | apply below_drew1) | exact HB.out)) hb); clear HB; have HB := n0_; clear n0_; (try clear hb); (try clear hb2); (try clear hk); (try clear hi)) | ((with_reducible refine gate_dst (N := 23) rfl ?_); refine Kd.R_lit k28 _ 28 ?hg (N := 23) ?hd (xs := ([(⟨42, wrap64 (1 + (Go.bits .and .i64 a0 63)), true, false⟩ : S28), (⟨42, wrap64 (1 + (Go.bits .and .i64 a1 63)), false, true⟩ : S28)] : List (S28))) (inner := [.int .u8 42, .int .i64 (wrap64 (1 + (Go.bits .and .i64 a0 63))), .bool true, .bool false, .int .u8 42, .int .i64 (wrap64 (1 + (Go.bits .and .i64 a1 63))), .bool false, .bool true]) (ok := fun _ => True) (okp := fun _ => True) ?hr ?hp (fun _ hk => hk) trivial (Below.refl _ _) (Nat.le_refl _) (by simp) ?_; (case hd => rfl); (case hg => rfl); (case hr => first | (go_simp; done) | (go_simp; rfl)); (case hp => exact (Reps.c4 (show Kd.M k28 _ _ _ (⟨42, wrap64 (1 + (Go.bits .and .i64 a0 63)), true, false⟩ : S28) [.int .u8 42, .int .i64 (wrap64 (1 + (Go.bits .and .i64 a0 63))), .bool true, .bool false] from (k28_mkM _ _ _ (⟨42, wrap64 (1 + (Go.bits .and .i64 a0 63)), true, false⟩ : S28) )) (Reps.c4 (show Kd.M k28 _ _ _ (⟨42, wrap64 (1 + (Go.bits .and .i64 a1 63)), false, true⟩ : S28) [.int .u8 42, .int .i64 (wrap64 (1 + (Go.bits .and .i64 a1 63))), .bool false, .bool true] from (k28_mkM _ _ _ (⟨42, wrap64 (1 + (Go.bits .and .i64 a1 63)), false, true⟩ : S28) )) (Reps.none _ _)))); intro v244 w24 ho25 hb hg_ hnew_; clear hg_ hnew_; (first | rw [← Ny243.out] at ho25 | (simp only [Int.reduceToNat] at ho25; rw [← Ny243.out] at ho25)); have n0_ := Aside0.mk (Kd.R_lower ho25 (below_size (by repeat (first | (with_reducible first | exact HB.out | apply below_alloc | apply pw_below_drewN | apply below_drew1) | exact HB.out)))); have n1_ := Aside0.mk (below_step (by repeat (first | (with_reducible first | exact HB.out | apply below_alloc | apply pw_below_drewN | apply below_drew1) | exact HB.out)) hb); clear HB; have HO245 := n0_; have HB := n1_; clear n0_ n1_; clear hb ho25; obtain ⟨Ao26, co26, eo26⟩ := Kd.R_slice HO245.out; subst eo26) | ((with_reducible refine gate_callee (f := 15) rfl ?_); refine goesL_ (some 24) rfl rfl Try.func15 (by kernel_rfl) rfl #[.slice Ao26 y243.length co26] rfl (by (try simp only [List.map_toArray, List.map_cons, List.map_nil]); first | done | rfl | (simp only [List.length_drop, List.length_take]; rfl)) ?_; (with_reducible refine (delim_Match.calls _ _ y243 t246 _ ?side1 ?side2 A4.out).mono ?_); (case side1 => repeat (first | exact (Kd.R_reads' HO245.out).2.2 | (with_reducible refine Kd.C_alloc ?_ _) | (with_reducible refine Kd.C_drewN ?_ _) | (with_reducible refine Kd.C_drew ?_))); (case side2 => exact (Kd.R_reads' HO245.out).2.1); rintro e w27 ⟨v247, rfl, ho0, hb⟩; refine ⟨_, rfl, ?_⟩; have n0_ := Aside0.mk (Kd.R_below (by (with_reducible repeat (first | apply Kd.R_alloc | apply Kd.R_drewN | apply Kd.R_drew)); exact HO245.out) hb); have n1_ := Aside0.mk (Kd.R_lower ho0 (below_size (by repeat (first | (with_reducible first | exact HB.out | apply below_alloc | apply pw_below_drewN | apply below_drew1) | exact HB.out)))); have n2_ := Aside0.mk (below_step (by repeat (first | (with_reducible first | exact HB.out | apply below_alloc | apply pw_below_drewN | apply below_drew1) | exact HB.out)) hb); clear HO245; clear HB; have HO245 := n0_; have HO248 := n1_; have HB := n2_; clear n0_ n1_ n2_; (try clear hb); (try clear hb2); (try clear hk); (try clear hi); (try clear ho0); obtain ⟨Ao28, co28, eo28⟩ := Kd.R_slice HO248.out; subst eo28))
    go_ret
    exact ⟨by first | rfl | (simp [errW_none, errW_some] <;> rfl) | (simp only [← hji5]; first | rfl | (simp [errW_none, errW_some] <;> rfl)) | (simp [*, errW_none, errW_some] <;> rfl), by repeat (first | (with_reducible first | exact HB.out | apply below_alloc | apply pw_below_drewN | apply below_drew1) | exact HB.out)⟩

/-- THE ONE PURE STATEMENT of incipitlaw13_DelimDeep: yours. -/
def incipitlaw13_DelimDeep.Pure : Prop := ∀ (a0 : Int) (a1 : Int), (Lit.int .i64 a0).wf = true → (Lit.int .i64 a1).wf = true → ∃ k, incipitlaw13_DelimDeep.f k a0 a1 = some true
theorem incipitlaw13_DelimDeep.walk (P : incipitlaw13_DelimDeep.Pure) (a0 : Int) (a1 : Int) (w : World) (w0 : (Lit.int .i64 a0).wf = true) (w1 : (Lit.int .i64 a1).wf = true) :
    Calls Try.prog 7 #[.int .i64 a0, .int .i64 a1] w fun e w' => e = .returned (.bool true) ∧ Below w.heap.size w w' := by
  obtain ⟨k, h⟩ := P a0 a1 w0 w1
  refine (incipitlaw13_DelimDeep.calls k a0 a1 true w h).mono ?_
  rintro e w' ⟨rfl, hd⟩
  exact ⟨rfl, hd⟩

end Go.Proofs.Ytclondmclehiiaa.P
