/- Functions of the seat as plain Lean functions, and proofs that the Go code comes to them; laid by wip/handprint.py over the kit's printer. -/
import Derived.Test.YtclondmclehiiaaPk0
import Derived.Test.YtclondmclehiiaaMatch
import Derived.Test.YtclondmclehiiaaPk4
namespace Go.Proofs.Ytclondmclehiiaa.P
open Go.RowKit Go.Proofs.YtclondmclehiiaaW.PrintWords Go.Proofs.YtclondmclehiiaaW.PrintLast Go.Proofs.YtclondmclehiiaaW.PrintMore
attribute [local go_sem] max2_int min2_int max_two min_two max_three min_three max_four min_four   -- for this text's walks alone
set_option linter.unusedVariables false
set_option linter.unusedSimpArgs false

/-! ### incipitlaw13_DelimNone: function 9 -/
def incipitlaw13_DelimNone.l0 : Nat → Bool → Bool → List (S28) → List (S28) → Int → Option (Bool)
  | 0, _, _, _, _, _ => none
  | k + 1, x1, x5, x6, x7, x8 => if x8 < (x6.length : Int) then (if 0 ≤ x8 then ((some (x6.set (x8 : Int).toNat (⟨(rd_T28 x6 x8).f0, (rd_T28 x6 x8).f1, x1, (rd_T28 x6 x8).f3⟩ : S28) : List (S28))).bind fun y312 => (if x8 < (x7.length : Int) then (incipitlaw13_DelimNone.l0 k x1 x5 (y312.set (x8 : Int).toNat (⟨(rd_T28 y312 x8).f0, (rd_T28 y312 x8).f1, (rd_T28 y312 x8).f2, !x1⟩ : S28)) (x7.set (x8 : Int).toNat (⟨(x8) % 256, (rd_T28 x7 x8).f1, (rd_T28 x7 x8).f2, (rd_T28 x7 x8).f3⟩ : S28)) (wrap64 (x8 + 1))) else (none))) else (none)) else (if x5 = true then ((delim_Match.f x6).bind fun t315 => (if (t315.length : Int) = 0 then ((delim_Match.f x7).bind fun t318 => (some ((t318.length : Int) == 0))) else (some false))) else (some false))
def incipitlaw13_DelimNone.f (k : Nat) (l0 : List (S28)) (a1 : Bool) : Option (Bool) := (incipitlaw13_awake.f).bind fun t299 => (if (l0.length : Int) > 60 then (some t299) else ((some (([] : List (S28)) : List (S28))).bind fun y300 => (if y300.length + l0.length < 5864062014805 then ((some (([] : List (S28)) : List (S28))).bind fun y306 => (if y306.length + l0.length < 5864062014805 then (incipitlaw13_DelimNone.l0 k a1 t299 (y300 ++ l0) (y306 ++ l0) 0) else (none))) else (none))))
theorem incipitlaw13_DelimNone.mono_l : ∀ k, (∀ y0 y1 y2 y3 y4, LeO (incipitlaw13_DelimNone.l0 k y0 y1 y2 y3 y4) (incipitlaw13_DelimNone.l0 (k + 1) y0 y1 y2 y3 y4))
  | 0 => fun _ _ _ _ _ r h => by simp [incipitlaw13_DelimNone.l0] at h
  | k + 1 => by
    have ih0 := incipitlaw13_DelimNone.mono_l k
    · intro y0 y1 y2 y3 y4
      unfold incipitlaw13_DelimNone.l0
      repeat' first
      | (with_reducible exact ih0 _ _ _ _ _)
      | (with_reducible exact LeO.refl _)
      | (with_reducible exact LeO.none _)
      | (with_reducible refine LeO.ite ?_ ?_)
      | (with_reducible refine LeO.bind ?_ (fun _ => ?_))
      | exact ih0 _ _ _ _ _
      | exact LeO.none _
      | refine LeO.ite ?_ ?_
      | refine LeO.bind ?_ (fun _ => ?_)
theorem incipitlaw13_DelimNone.mono : ∀ a0 a1 k, LeO (incipitlaw13_DelimNone.f k a0 a1) (incipitlaw13_DelimNone.f (k + 1) a0 a1) := by
  intro a0 a1 k
  have ih0 := incipitlaw13_DelimNone.mono_l k
  unfold incipitlaw13_DelimNone.f
  repeat' first
      | (with_reducible exact ih0 _ _ _ _ _)
      | (with_reducible exact LeO.refl _)
      | (with_reducible exact LeO.none _)
      | (with_reducible refine LeO.ite ?_ ?_)
      | (with_reducible refine LeO.bind ?_ (fun _ => ?_))
      | exact ih0 _ _ _ _ _
      | exact LeO.none _
      | refine LeO.ite ?_ ?_
      | refine LeO.bind ?_ (fun _ => ?_)
set_option maxHeartbeats 8000000 in
set_option maxRecDepth 100000 in
theorem incipitlaw13_DelimNone.calls (k : Nat) (A0 : Option Addr) (c0 : Nat) (l0 : List (S28)) (a1 : Bool) (r : Bool) (w : World) (hr0 : Kd.C k28 w A0 l0.length l0) (hc0 : l0.length ≤ c0) (h : incipitlaw13_DelimNone.f k l0 a1 = some r) :
    Calls Try.prog 9 #[.slice A0 l0.length c0, .bool a1] w fun e w' => e = .returned (.bool r) ∧ Below w.heap.size w w' := by
  have HR0 := Aside0.mk hr0
  have HC0 := Aside0.mk hc0
  clear hr0 hc0
  have HB := Aside0.mk (Below.refl w.heap.size w)
  have H : ((incipitlaw13_awake.f).bind fun t299 => (if (l0.length : Int) > 60 then (some t299) else ((some (([] : List (S28)) : List (S28))).bind fun y300 => (if y300.length + l0.length < 5864062014805 then ((some (([] : List (S28)) : List (S28))).bind fun y306 => (if y306.length + l0.length < 5864062014805 then (incipitlaw13_DelimNone.l0 k a1 t299 (y300 ++ l0) (y306 ++ l0) 0) else (none))) else (none))))) = some r := h
  clear h
  replace H := Option.bind_eq_some_iff.mp H
  obtain ⟨t299, A30, H⟩ := H
  replace H : (if (l0.length : Int) > 60 then (some t299) else ((some (([] : List (S28)) : List (S28))).bind fun y300 => (if y300.length + l0.length < 5864062014805 then ((some (([] : List (S28)) : List (S28))).bind fun y306 => (if y306.length + l0.length < 5864062014805 then (incipitlaw13_DelimNone.l0 k a1 t299 (y300 ++ l0) (y306 ++ l0) 0) else (none))) else (none)))) = some r := H
  have A3 := Aside0.mk A30
  clear A30
  by_cases c4 : (l0.length : Int) > 60
  · rw [if_pos c4] at H
    have c4b0 : decide (60 < (l0.length : Int)) = true := decide_eq_true c4
    have c4b1 : decide (60 < l0.length) = true := decide_eq_true (by omega)
    clear c4
    obtain rfl := Option.some.inj H
    go_enter Try.func9, Try.ntmps9
    go_wp2_with (first | ((with_reducible refine gate_callee (f := 10) rfl ?_); refine goesL_ (some 9) rfl rfl Try.func10 (by kernel_rfl) rfl #[] rfl (by (try simp only [List.map_toArray, List.map_cons, List.map_nil]); first | done | rfl | (simp only [List.length_drop, List.length_take]; rfl)) ?_; (with_reducible refine (incipitlaw13_awake.calls  t299 _ A3.out).mono ?_); rintro e w5 ⟨rfl, hb⟩; refine ⟨_, rfl, ?_⟩; have n0_ := Aside0.mk (below_step (by repeat (first | (with_reducible first | exact HB.out | apply below_alloc | apply pw_below_drewN | apply below_drew1) | exact HB.out)) hb); clear HB; have HB := n0_; clear n0_; (try clear hb); (try clear hb2); (try clear hk); (try clear hi)))
    go_ret
    exact ⟨by first | rfl | (simp [errW_none, errW_some] <;> rfl) | (simp [*, errW_none, errW_some] <;> rfl), by repeat (first | (with_reducible first | exact HB.out | apply below_alloc | apply pw_below_drewN | apply below_drew1) | exact HB.out)⟩
  · rw [if_neg c4] at H
    have c4b0 : decide (60 < (l0.length : Int)) = false := decide_eq_false c4
    have c4b1 : decide (60 < l0.length) = false := decide_eq_false (by omega)
    clear c4
    obtain ⟨y300, hy300⟩ : ∃ y_ : List (S28), y_ = (([] : List (S28))) := ⟨_, rfl⟩
    replace H : (if y300.length + l0.length < 5864062014805 then ((some (([] : List (S28)) : List (S28))).bind fun y306 => (if y306.length + l0.length < 5864062014805 then (incipitlaw13_DelimNone.l0 k a1 t299 (y300 ++ l0) (y306 ++ l0) 0) else (none))) else (none)) = some r := by first | (rw [hy300]; with_reducible exact H) | (have H2_ := (Option.bind_some _ _).symm.trans H; rw [hy300]; with_reducible exact H2_) | (have H2_ := (Option.bind_some _ _).symm.trans H; with_reducible exact H2_) | with_reducible exact H | (rw [hy300]; exact H) | exact H
    have Ny300 := Aside0.mk hy300
    clear hy300
    by_cases c6 : y300.length + l0.length < 5864062014805
    · rw [if_pos c6] at H
      have LMc6 := Aside0.mk c6
      clear c6
      obtain ⟨y303, hy303⟩ : ∃ y_ : List (S28), y_ = (y300 ++ l0) := ⟨_, rfl⟩
      replace H : ((some (([] : List (S28)) : List (S28))).bind fun y306 => (if y306.length + l0.length < 5864062014805 then (incipitlaw13_DelimNone.l0 k a1 t299 y303 (y306 ++ l0) 0) else (none))) = some r := by first | (rw [hy303]; with_reducible exact H) | (have H2_ := (Option.bind_some _ _).symm.trans H; rw [hy303]; with_reducible exact H2_) | (have H2_ := (Option.bind_some _ _).symm.trans H; with_reducible exact H2_) | with_reducible exact H | (rw [hy303]; exact H) | exact H
      have Ny303 := Aside0.mk hy303
      clear hy303
      obtain ⟨y306, hy306⟩ : ∃ y_ : List (S28), y_ = (([] : List (S28))) := ⟨_, rfl⟩
      replace H : (if y306.length + l0.length < 5864062014805 then (incipitlaw13_DelimNone.l0 k a1 t299 y303 (y306 ++ l0) 0) else (none)) = some r := by first | (rw [hy306]; with_reducible exact H) | (have H2_ := (Option.bind_some _ _).symm.trans H; rw [hy306]; with_reducible exact H2_) | (have H2_ := (Option.bind_some _ _).symm.trans H; with_reducible exact H2_) | with_reducible exact H | (rw [hy306]; exact H) | exact H
      have Ny306 := Aside0.mk hy306
      clear hy306
      by_cases c7 : y306.length + l0.length < 5864062014805
      · rw [if_pos c7] at H
        have LMc7 := Aside0.mk c7
        clear c7
        obtain ⟨y309, hy309⟩ : ∃ y_ : List (S28), y_ = (y306 ++ l0) := ⟨_, rfl⟩
        replace H : (incipitlaw13_DelimNone.l0 k a1 t299 y303 y309 0) = some r := by first | (rw [hy309]; with_reducible exact H) | (have H2_ := (Option.bind_some _ _).symm.trans H; rw [hy309]; with_reducible exact H2_) | (have H2_ := (Option.bind_some _ _).symm.trans H; with_reducible exact H2_) | with_reducible exact H | (rw [hy309]; exact H) | exact H
        have Ny309 := Aside0.mk hy309
        clear hy309
        have H' := Aside0.mk H
        clear H
        go_enter Try.func9, Try.ntmps9
        go_wp2_with (first | ((with_reducible refine gate_callee (f := 10) rfl ?_); refine goesL_ (some 9) rfl rfl Try.func10 (by kernel_rfl) rfl #[] rfl (by (try simp only [List.map_toArray, List.map_cons, List.map_nil]); first | done | rfl | (simp only [List.length_drop, List.length_take]; rfl)) ?_; (with_reducible refine (incipitlaw13_awake.calls  t299 _ A3.out).mono ?_); rintro e w8 ⟨rfl, hb⟩; refine ⟨_, rfl, ?_⟩; have n0_ := Aside0.mk (below_step (by repeat (first | (with_reducible first | exact HB.out | apply below_alloc | apply pw_below_drewN | apply below_drew1) | exact HB.out)) hb); clear HB; have HB := n0_; clear n0_; (try clear hb); (try clear hb2); (try clear hk); (try clear hi)) | ((with_reducible refine gate_dst (N := 14) rfl ?_); (try (refine gate_guard (by rfl) ?_; dsimp only)); refine Kd.R_lit k28 _ 28 ?hg (N := 14) ?hd (xs := ([] : List (S28))) (inner := []) (ok := fun _ => True) (okp := fun _ => True) ?hr ?hp (fun _ hk => hk) trivial (Below.refl _ _) (Nat.le_refl _) (by simp) ?_; (case hd => rfl); (case hg => rfl); (case hr => first | (go_simp; done) | (go_simp; rfl)); (case hp => exact (Reps.none _ _)); intro v301 w9 ho10 hb hg_ hnew_; clear hg_ hnew_; (first | rw [← Ny300.out] at ho10 | (simp only [Int.reduceToNat] at ho10; rw [← Ny300.out] at ho10)); have n0_ := Aside0.mk (Kd.R_lower ho10 (below_size (by repeat (first | (with_reducible first | exact HB.out | apply below_alloc | apply pw_below_drewN | apply below_drew1) | exact HB.out)))); have n1_ := Aside0.mk (below_step (by repeat (first | (with_reducible first | exact HB.out | apply below_alloc | apply pw_below_drewN | apply below_drew1) | exact HB.out)) hb); clear HB; have HO302 := n0_; have HB := n1_; clear n0_ n1_; clear hb ho10) | ((with_reducible refine gate_builtin (b := .append) (xs := #[.tmp 14, .tmp 15]) rfl ?_); (try (refine gate_guard (by rfl) ?_; dsimp only)); at_builtin; refine Kd.R_append_rows k28 (w0 := w) w.heap.size rfl (.tmp 14) (.tmp 15) 26 28 (.agg #[(.int .u8 0), (.int .i64 0), (.bool false), (.bool false)]) 24 rfl Try.underlying26 info28 rfl (by decide) (by omega) v301 y300 l0 _ _ _ (fun _ => True) (fun _ => False) rfl rfl ?aO ?aR (fun _ _ h => h) (fun _ h => h.elim) ?aF ?aB ?aS ?aL ?_; (case aR => repeat (first | exact (Kd.C_below HR0.out HB.out) | (with_reducible refine Kd.C_alloc ?_ _) | (with_reducible refine Kd.C_drewN ?_ _) | (with_reducible refine Kd.C_drew ?_))); (case aB => exact (by repeat (first | (with_reducible first | exact HB.out | apply below_alloc | apply pw_below_drewN | apply below_drew1) | exact HB.out))); (case aF => exact (fun _ _ => trivial)); (case aO => exact (by (with_reducible repeat (first | apply Kd.R_alloc | apply Kd.R_drewN | apply Kd.R_drew)); exact HO302.out)); (case aS => exact (below_size (by repeat (first | (with_reducible first | exact HB.out | apply below_alloc | apply pw_below_drewN | apply below_drew1) | exact HB.out)))); (case aL => have := LMc6.out; omega); intro v304 w11 ho hb hg hat; rw [← Ny303.out] at ho; have n0_ := Aside0.mk (hb); have n1_ := Aside0.mk (ho); clear HB; clear HO302; have HB := n0_; have HO305 := n1_; clear n0_ n1_; clear ho hb hg hat) | ((with_reducible refine gate_dst (N := 17) rfl ?_); (try (refine gate_guard (by rfl) ?_; dsimp only)); refine Kd.R_lit k28 _ 28 ?hg (N := 17) ?hd (xs := ([] : List (S28))) (inner := []) (ok := fun _ => True) (okp := fun _ => True) ?hr ?hp (fun _ hk => hk) trivial (Below.refl _ _) (Nat.le_refl _) (by simp) ?_; (case hd => rfl); (case hg => rfl); (case hr => first | (go_simp; done) | (go_simp; rfl)); (case hp => exact (Reps.none _ _)); intro v307 w12 ho13 hb hg_ hnew_; clear hg_ hnew_; (first | rw [← Ny306.out] at ho13 | (simp only [Int.reduceToNat] at ho13; rw [← Ny306.out] at ho13)); have n0_ := Aside0.mk (Kd.R_elder' (by (with_reducible repeat (first | apply Kd.R_alloc | apply Kd.R_drewN | apply Kd.R_drew)); exact HO305.out) (Kd.R_base ho13) hb); have n1_ := Aside0.mk (Kd.R_lower (Kd.R_new' ho13 (Kd.R_lt (by (with_reducible repeat (first | apply Kd.R_alloc | apply Kd.R_drewN | apply Kd.R_drew)); exact HO305.out))) (below_size (by repeat (first | (with_reducible first | exact HB.out | apply below_alloc | apply pw_below_drewN | apply below_drew1) | exact HB.out)))); have n2_ := Aside0.mk (below_step (by repeat (first | (with_reducible first | exact HB.out | apply below_alloc | apply pw_below_drewN | apply below_drew1) | exact HB.out)) hb); clear HO305; clear HB; have HO305 := n0_; have HO308 := n1_; have HB := n2_; clear n0_ n1_ n2_; clear hb ho13) | ((with_reducible refine gate_builtin (b := .append) (xs := #[.tmp 17, .tmp 18]) rfl ?_); (try (refine gate_guard (by rfl) ?_; dsimp only)); at_builtin; refine Kd.R_append_rows k28 (w0 := w) w.heap.size rfl (.tmp 17) (.tmp 18) 26 28 (.agg #[(.int .u8 0), (.int .i64 0), (.bool false), (.bool false)]) 24 rfl Try.underlying26 info28 rfl (by decide) (by omega) v307 y306 l0 _ _ _ (fun k_ => some k_ ≠ (v304 : Value).ownBlock) (fun _ => False) rfl rfl ?aO ?aR (fun _ _ h => h) (fun _ h => h.elim) ?aF ?aB ?aS ?aL ?_; (case aR => repeat (first | exact (Kd.C_below HR0.out HB.out) | (with_reducible refine Kd.C_alloc ?_ _) | (with_reducible refine Kd.C_drewN ?_ _) | (with_reducible refine Kd.C_drew ?_))); (case aB => exact (by repeat (first | (with_reducible first | exact HB.out | apply below_alloc | apply pw_below_drewN | apply below_drew1) | exact HB.out))); (case aF => exact (fun k_ hk => Kd.fresh' (Kd.R_lt (by (with_reducible repeat (first | apply Kd.R_alloc | apply Kd.R_drewN | apply Kd.R_drew)); exact HO305.out)) k_ hk)); (case aO => exact (by (with_reducible repeat (first | apply Kd.R_alloc | apply Kd.R_drewN | apply Kd.R_drew)); exact Kd.R_mono HO308.out (fun _ hk => hk.2))); (case aS => exact (below_size (by repeat (first | (with_reducible first | exact HB.out | apply below_alloc | apply pw_below_drewN | apply below_drew1) | exact HB.out)))); (case aL => have := LMc7.out; omega); intro v310 w14 ho hb hg hat; rw [← Ny309.out] at ho; have n0_ := Aside0.mk (Kd.R_after (ok := (fun _ => True)) (by (with_reducible repeat (first | apply Kd.R_alloc | apply Kd.R_drewN | apply Kd.R_drew)); exact HO305.out) hg hat); have n1_ := Aside0.mk (hb); have n2_ := Aside0.mk (ho); clear HO305; clear HB; clear HO308; have HO305 := n0_; have HB := n1_; have HO311 := n2_; clear n0_ n1_ n2_; clear ho hb hg hat))
        go_loopg [8] k (fun kq v8 w' => ∃ (x6_1 : List (S28)) (x7_1 : List (S28)) (x8_1 : Int), v8 = .int .i64 x8_1 ∧ Aside0 (incipitlaw13_DelimNone.l0 kq a1 t299 x6_1 x7_1 x8_1 = some r) ∧ Aside0 (kq ≤ k) ∧ Aside0 (Kd.R k28 28 w' w.heap.size (fun k_ => some k_ ≠ (v310 : Value).ownBlock) v304 x6_1) ∧ Aside0 (Kd.R k28 28 w' w.heap.size (fun k_ => some k_ ≠ (v304 : Value).ownBlock) v310 x7_1) ∧ Aside0 (Below w.heap.size w w'))
        case atStart => exact ⟨(y303), (y309), (0), (by first | rfl | (simp; done) | (simp [*]; done)), H', ⟨Nat.le_refl _⟩, ⟨by (with_reducible repeat (first | apply Kd.R_alloc | apply Kd.R_drewN | apply Kd.R_drew)); exact Kd.R_mono HO305.out (fun _ hk => hk.2)⟩, ⟨by (with_reducible repeat (first | apply Kd.R_alloc | apply Kd.R_drewN | apply Kd.R_drew)); exact HO311.out⟩, ⟨by repeat (first | (with_reducible first | exact HB.out | apply below_alloc | apply pw_below_drewN | apply below_drew1) | exact HB.out)⟩⟩
        case round =>
          clear H'
          try clear c1
          try clear p2
          try clear c4
          try clear c4b0
          try clear c4b1
          try clear c6
          try clear c7
          try clear c9
          try clear c10
          obtain ⟨x6_1, x7_1, x8_1, rfl, HA, HK1, HO_6, HO_7, HB⟩ := hrel
          cases gk with
          | zero => exact absurd HA.out (by simp [incipitlaw13_DelimNone.l0])
          | succ k1 =>
            have H := HA.out
            clear HA
            simp only [incipitlaw13_DelimNone.l0] at H
            by_cases c15 : x8_1 < (x6_1.length : Int)
            · rw [if_pos c15] at H
              have c15b0 : decide (x8_1 < (x6_1.length : Int)) = true := decide_eq_true c15
              clear c15
              by_cases c16 : 0 ≤ x8_1
              · rw [if_pos c16] at H
                have c16b0 : decide (0 ≤ x8_1) = true := decide_eq_true c16
                clear c16
                obtain ⟨y312, hy312⟩ : ∃ y_ : List (S28), y_ = (x6_1.set (x8_1 : Int).toNat (⟨(rd_T28 x6_1 x8_1).f0, (rd_T28 x6_1 x8_1).f1, a1, (rd_T28 x6_1 x8_1).f3⟩ : S28)) := ⟨_, rfl⟩
                replace H : (if x8_1 < (x7_1.length : Int) then (incipitlaw13_DelimNone.l0 k1 a1 t299 (y312.set (x8_1 : Int).toNat (⟨(rd_T28 y312 x8_1).f0, (rd_T28 y312 x8_1).f1, (rd_T28 y312 x8_1).f2, !a1⟩ : S28)) (x7_1.set (x8_1 : Int).toNat (⟨(x8_1) % 256, (rd_T28 x7_1 x8_1).f1, (rd_T28 x7_1 x8_1).f2, (rd_T28 x7_1 x8_1).f3⟩ : S28)) (wrap64 (x8_1 + 1))) else (none)) = some r := by first | (rw [hy312]; with_reducible exact H) | (have H2_ := (Option.bind_some _ _).symm.trans H; rw [hy312]; with_reducible exact H2_) | (have H2_ := (Option.bind_some _ _).symm.trans H; with_reducible exact H2_) | with_reducible exact H | (rw [hy312]; exact H) | exact H
                have Ny312 := Aside0.mk hy312
                clear hy312
                obtain ⟨y313, hy313⟩ : ∃ y_ : List (S28), y_ = (y312.set (x8_1 : Int).toNat (⟨(rd_T28 y312 x8_1).f0, (rd_T28 y312 x8_1).f1, (rd_T28 y312 x8_1).f2, !a1⟩ : S28)) := ⟨_, rfl⟩
                replace H : (if x8_1 < (x7_1.length : Int) then (incipitlaw13_DelimNone.l0 k1 a1 t299 y313 (x7_1.set (x8_1 : Int).toNat (⟨(x8_1) % 256, (rd_T28 x7_1 x8_1).f1, (rd_T28 x7_1 x8_1).f2, (rd_T28 x7_1 x8_1).f3⟩ : S28)) (wrap64 (x8_1 + 1))) else (none)) = some r := by first | (rw [hy313]; with_reducible exact H) | (have H2_ := (Option.bind_some _ _).symm.trans H; rw [hy313]; with_reducible exact H2_) | (have H2_ := (Option.bind_some _ _).symm.trans H; with_reducible exact H2_) | with_reducible exact H | (rw [hy313]; exact H) | exact H
                have Ny313 := Aside0.mk hy313
                clear hy313
                by_cases c19 : x8_1 < (x7_1.length : Int)
                · rw [if_pos c19] at H
                  have c19b0 : decide (x8_1 < (x7_1.length : Int)) = true := decide_eq_true c19
                  clear c19
                  obtain ⟨y314, hy314⟩ : ∃ y_ : List (S28), y_ = (x7_1.set (x8_1 : Int).toNat (⟨(x8_1) % 256, (rd_T28 x7_1 x8_1).f1, (rd_T28 x7_1 x8_1).f2, (rd_T28 x7_1 x8_1).f3⟩ : S28)) := ⟨_, rfl⟩
                  replace H : (incipitlaw13_DelimNone.l0 k1 a1 t299 y313 y314 (wrap64 (x8_1 + 1))) = some r := by first | (rw [hy314]; with_reducible exact H) | (have H2_ := (Option.bind_some _ _).symm.trans H; rw [hy314]; with_reducible exact H2_) | (have H2_ := (Option.bind_some _ _).symm.trans H; with_reducible exact H2_) | with_reducible exact H | (rw [hy314]; exact H) | exact H
                  have Ny314 := Aside0.mk hy314
                  clear hy314
                  have H' := Aside0.mk H
                  clear H
                  obtain ⟨Ao21, co21, eo21⟩ := Kd.R_slice HO_6.out
                  subst eo21
                  have p17 : 0 ≤ (x8_1 : Int) := of_decide_eq_true (by first | (with_reducible assumption) | assumption)
                  have q17 : (x8_1 : Int) < ((x6_1.length : Int) : Int) := of_decide_eq_true (by first | (with_reducible assumption) | assumption)
                  obtain ⟨go17, co17, eo17, gb17, gl17, cl17, HG17⟩ := Kd.R_form HO_6.out (by omega)
                  (first | cases eo17 | (injection eo17 with ea_ en_ ec_; (first | subst ea_ | (injection ea_ with ea_; subst ea_)); subst ec_; clear en_))
                  have GB17 := Aside0.mk gb17
                  have GG17 := Aside0.mk HG17
                  clear gb17 gl17 HG17
                  obtain ⟨ce17, hcl17, hM17, hcc17, hfr17⟩ := Kd.R_elem HO_6.out z28 (x8_1 : Int) p17 q17
                  obtain rfl := k28_openM hM17
                  have hx17_0 : wr.cell? ⟨go17, (x8_1 : Int).toNat * 4, none⟩ = some (.int .u8 ((rd_T28 x6_1 x8_1).f0)) := hcc17 0 _ rfl
                  have hx17_1 : wr.cell? ⟨go17, (x8_1 : Int).toNat * 4 + 1, none⟩ = some (.int .i64 ((rd_T28 x6_1 x8_1).f1)) := hcc17 1 _ rfl
                  have hx17_2 : wr.cell? ⟨go17, (x8_1 : Int).toNat * 4 + 2, none⟩ = some (.bool ((rd_T28 x6_1 x8_1).f2)) := hcc17 2 _ rfl
                  have hx17_3 : wr.cell? ⟨go17, (x8_1 : Int).toNat * 4 + 3, none⟩ = some (.bool ((rd_T28 x6_1 x8_1).f3)) := hcc17 3 _ rfl
                  have hf17_0 : wr.frozen? ⟨go17, (x8_1 : Int).toNat * 4, none⟩ = false := hfr17 0
                  have hf17_1 : wr.frozen? ⟨go17, (x8_1 : Int).toNat * 4 + 1, none⟩ = false := hfr17 1
                  have hf17_2 : wr.frozen? ⟨go17, (x8_1 : Int).toNat * 4 + 2, none⟩ = false := hfr17 2
                  have hf17_3 : wr.frozen? ⟨go17, (x8_1 : Int).toNat * 4 + 3, none⟩ = false := hfr17 3
                  clear hcl17 hcc17 hfr17 hM17
                  replace p17 := eq_true p17
                  replace q17 := eq_true q17
                  have HX22 := Aside0.mk (show Kd.R k28 28 wr w.heap.size (fun k_ => some k_ ≠ (v310 : Value).ownBlock) (.slice (some ⟨go17, 0, none⟩) x6_1.length co21) x6_1 from (by (with_reducible repeat (first | apply Kd.R_alloc | apply Kd.R_drewN | apply Kd.R_drew)); exact HO_6.out))
                  obtain ⟨ce22, hcl22, hM22, hcc22, hfr22⟩ := Kd.R_elem HX22.out z28 (x8_1 : Int) (of_decide_eq_true (by first | (with_reducible assumption) | assumption)) (by have h_ : (x8_1 : Int) < ((x6_1.length : Int) : Int) := of_decide_eq_true (by first | (with_reducible assumption) | assumption); first | exact h_ | (have e_ := (Kd.R_reads' HO_6.out).1; omega) | simpa using h_)
                  obtain rfl := k28_openM hM22
                  have HP22 := Kd.R_seg HX22.out (x8_1 : Int) (of_decide_eq_true (by first | (with_reducible assumption) | assumption)) (by have h_ : (x8_1 : Int) < ((x6_1.length : Int) : Int) := of_decide_eq_true (by first | (with_reducible assumption) | assumption); first | exact h_ | (have e_ := (Kd.R_reads' HO_6.out).1; omega) | simpa using h_) (seg := [.bool a1]) (j := 2) hcl22 hcc22 (show 3 ≤ 4 from by decide) (x' := (⟨(rd_T28 x6_1 x8_1).f0, (rd_T28 x6_1 x8_1).f1, a1, (rd_T28 x6_1 x8_1).f3⟩ : S28)) (k28_mkM _ _ _ (⟨(rd_T28 x6_1 x8_1).f0, (rd_T28 x6_1 x8_1).f1, a1, (rd_T28 x6_1 x8_1).f3⟩ : S28) ) (fun _ hk => hk)
                  have hx22_2 := hcc22 2 _ rfl
                  (try simp only [show (k28).sz = 4 from rfl, Nat.mul_one, Nat.add_zero] at hx22_2)
                  have hf22_2 := hfr22 2
                  (try simp only [show (k28).sz = 4 from rfl, Nat.mul_one, Nat.add_zero] at hf22_2)
                  clear hcl22 hcc22 hfr22 hM22
                  go_wp2_with (first | ((with_reducible refine gate_store (t := 4) (p := 30) rfl ?_); refine store_event (t := 4) (p := 30) (v := ?vo_w23) (w1 := (wr.setCell ⟨go17, (x8_1 : Int).toNat * 4 + 2, none⟩ (.bool a1))) ?hg ?ho ?hn ?hr ?_; (case ho => rfl); (case hg => rfl); (case hn => rfl); (case hr => first | (go_simp; done) | (go_simp; rfl)); intro w23 hw; have hg : wr.grownBy w23 (some go17) := (by rw [hw]; exact HP22.2); have hp_ : Kd.R k28 28 w23 w.heap.size (fun k_ => some k_ ≠ (v310 : Value).ownBlock) (.slice (some ⟨go17, 0, none⟩) x6_1.length co21) y312 := (by rw [hw, Ny312.out]; exact HP22.1); clear HP22; have n0_ := Aside0.mk (hp_); have n1_ := Aside0.mk (Kd.R_after (v := (.slice (some ⟨go17, 0, none⟩) x6_1.length co21)) (v1 := (.slice (some ⟨go17, 0, none⟩) x6_1.length co21)) (ok := (fun _ => True)) (by (with_reducible repeat (first | apply Kd.R_alloc | apply Kd.R_drewN | apply Kd.R_drew)); exact Kd.R_mono HO_7.out (fun _ hk => ⟨trivial, hk⟩)) hg (.inl rfl)); have n2_ := Aside0.mk ((by rw [hw]; exact below_set (HB.out) GB17.out : Below w.heap.size w w23)); clear HO_6; clear HO_7; clear HB; have HO_6 := n0_; have HO_7 := n1_; have HB := n2_; clear n0_ n1_ n2_; clear hg hw hp_; have p18 : 0 ≤ (x8_1 : Int) := of_decide_eq_true (by first | (with_reducible assumption) | assumption); have q18 : (x8_1 : Int) < ((x6_1.length : Int) : Int) := of_decide_eq_true (by first | (with_reducible assumption) | assumption); obtain ⟨ce18, hcl18, hM18, hcc18, hfr18⟩ := Kd.R_elem HO_6.out z28 (x8_1 : Int) p18 q18; obtain rfl := k28_openM hM18; have hx18_0 : w23.cell? ⟨go17, (x8_1 : Int).toNat * 4, none⟩ = some (.int .u8 ((rd_T28 y312 x8_1).f0)) := hcc18 0 _ rfl; have hx18_1 : w23.cell? ⟨go17, (x8_1 : Int).toNat * 4 + 1, none⟩ = some (.int .i64 ((rd_T28 y312 x8_1).f1)) := hcc18 1 _ rfl; have hx18_2 : w23.cell? ⟨go17, (x8_1 : Int).toNat * 4 + 2, none⟩ = some (.bool ((rd_T28 y312 x8_1).f2)) := hcc18 2 _ rfl; have hx18_3 : w23.cell? ⟨go17, (x8_1 : Int).toNat * 4 + 3, none⟩ = some (.bool ((rd_T28 y312 x8_1).f3)) := hcc18 3 _ rfl; have hf18_0 : w23.frozen? ⟨go17, (x8_1 : Int).toNat * 4, none⟩ = false := hfr18 0; have hf18_1 : w23.frozen? ⟨go17, (x8_1 : Int).toNat * 4 + 1, none⟩ = false := hfr18 1; have hf18_2 : w23.frozen? ⟨go17, (x8_1 : Int).toNat * 4 + 2, none⟩ = false := hfr18 2; have hf18_3 : w23.frozen? ⟨go17, (x8_1 : Int).toNat * 4 + 3, none⟩ = false := hfr18 3; clear hcl18 hcc18 hfr18 hM18; replace p18 := eq_true p18; replace q18 := eq_true q18; have HX24 := Aside0.mk (show Kd.R k28 28 w23 w.heap.size (fun k_ => some k_ ≠ (v310 : Value).ownBlock) (.slice (some ⟨go17, 0, none⟩) x6_1.length co21) y312 from (by (with_reducible repeat (first | apply Kd.R_alloc | apply Kd.R_drewN | apply Kd.R_drew)); exact HO_6.out)); obtain ⟨ce24, hcl24, hM24, hcc24, hfr24⟩ := Kd.R_elem HX24.out z28 (x8_1 : Int) (of_decide_eq_true (by first | (with_reducible assumption) | assumption)) (by have h_ : (x8_1 : Int) < ((x6_1.length : Int) : Int) := of_decide_eq_true (by first | (with_reducible assumption) | assumption); first | exact h_ | (have e_ := (Kd.R_reads' HO_6.out).1; omega) | simpa using h_); obtain rfl := k28_openM hM24; have HP24 := Kd.R_seg HX24.out (x8_1 : Int) (of_decide_eq_true (by first | (with_reducible assumption) | assumption)) (by have h_ : (x8_1 : Int) < ((x6_1.length : Int) : Int) := of_decide_eq_true (by first | (with_reducible assumption) | assumption); first | exact h_ | (have e_ := (Kd.R_reads' HO_6.out).1; omega) | simpa using h_) (seg := [.bool (!a1)]) (j := 3) hcl24 hcc24 (show 4 ≤ 4 from by decide) (x' := (⟨(rd_T28 y312 x8_1).f0, (rd_T28 y312 x8_1).f1, (rd_T28 y312 x8_1).f2, !a1⟩ : S28)) (k28_mkM _ _ _ (⟨(rd_T28 y312 x8_1).f0, (rd_T28 y312 x8_1).f1, (rd_T28 y312 x8_1).f2, !a1⟩ : S28) ) (fun _ hk => hk); have hx24_3 := hcc24 3 _ rfl; (try simp only [show (k28).sz = 4 from rfl, Nat.mul_one, Nat.add_zero] at hx24_3); have hf24_3 := hfr24 3; (try simp only [show (k28).sz = 4 from rfl, Nat.mul_one, Nat.add_zero] at hf24_3); clear hcl24 hcc24 hfr24 hM24) | ((with_reducible refine gate_store (t := 4) (p := 36) rfl ?_); refine store_event (t := 4) (p := 36) (v := ?vo_w25) (w1 := (w23.setCell ⟨go17, (x8_1 : Int).toNat * 4 + 3, none⟩ (.bool (!a1)))) ?hg ?ho ?hn ?hr ?_; (case ho => rfl); (case hg => rfl); (case hn => rfl); (case hr => first | (go_simp; done) | (go_simp; rfl)); intro w25 hw; have hg : w23.grownBy w25 (some go17) := (by rw [hw]; exact HP24.2); have hp_ : Kd.R k28 28 w25 w.heap.size (fun k_ => some k_ ≠ (v310 : Value).ownBlock) (.slice (some ⟨go17, 0, none⟩) x6_1.length co21) y313 := (by rw [hw, Ny313.out]; exact HP24.1); clear HP24; have n0_ := Aside0.mk (hp_); have n1_ := Aside0.mk (Kd.R_after (v := (.slice (some ⟨go17, 0, none⟩) x6_1.length co21)) (v1 := (.slice (some ⟨go17, 0, none⟩) x6_1.length co21)) (ok := (fun _ => True)) (by (with_reducible repeat (first | apply Kd.R_alloc | apply Kd.R_drewN | apply Kd.R_drew)); exact HO_7.out) hg (.inl rfl)); have n2_ := Aside0.mk ((by rw [hw]; exact below_set (HB.out) GB17.out : Below w.heap.size w w25)); clear HO_6; clear HO_7; clear HB; have HO_6 := n0_; have HO_7 := n1_; have HB := n2_; clear n0_ n1_ n2_; clear hg hw hp_; have p20 : 0 ≤ (x8_1 : Int) := of_decide_eq_true (by first | (with_reducible assumption) | assumption); have q20 : (x8_1 : Int) < ((x7_1.length : Int) : Int) := of_decide_eq_true (by first | (with_reducible assumption) | assumption); obtain ⟨go20, co20, eo20, gb20, gl20, cl20, HG20⟩ := Kd.R_form HO_7.out (by omega); (first | cases eo20 | (injection eo20 with ea_ en_ ec_; (first | subst ea_ | (injection ea_ with ea_; subst ea_)); subst ec_; clear en_)); have GB20 := Aside0.mk gb20; have GG20 := Aside0.mk HG20; clear gb20 gl20 HG20; obtain ⟨ce20, hcl20, hM20, hcc20, hfr20⟩ := Kd.R_elem HO_7.out z28 (x8_1 : Int) p20 q20; obtain rfl := k28_openM hM20; have hx20_0 : w25.cell? ⟨go20, (x8_1 : Int).toNat * 4, none⟩ = some (.int .u8 ((rd_T28 x7_1 x8_1).f0)) := hcc20 0 _ rfl; have hx20_1 : w25.cell? ⟨go20, (x8_1 : Int).toNat * 4 + 1, none⟩ = some (.int .i64 ((rd_T28 x7_1 x8_1).f1)) := hcc20 1 _ rfl; have hx20_2 : w25.cell? ⟨go20, (x8_1 : Int).toNat * 4 + 2, none⟩ = some (.bool ((rd_T28 x7_1 x8_1).f2)) := hcc20 2 _ rfl; have hx20_3 : w25.cell? ⟨go20, (x8_1 : Int).toNat * 4 + 3, none⟩ = some (.bool ((rd_T28 x7_1 x8_1).f3)) := hcc20 3 _ rfl; have hf20_0 : w25.frozen? ⟨go20, (x8_1 : Int).toNat * 4, none⟩ = false := hfr20 0; have hf20_1 : w25.frozen? ⟨go20, (x8_1 : Int).toNat * 4 + 1, none⟩ = false := hfr20 1; have hf20_2 : w25.frozen? ⟨go20, (x8_1 : Int).toNat * 4 + 2, none⟩ = false := hfr20 2; have hf20_3 : w25.frozen? ⟨go20, (x8_1 : Int).toNat * 4 + 3, none⟩ = false := hfr20 3; clear hcl20 hcc20 hfr20 hM20; replace p20 := eq_true p20; replace q20 := eq_true q20; have n_ := Aside0.mk (Kd.R_mono (ok' := (fun k_ => some k_ ≠ (.slice (some ⟨go17, 0, none⟩) x6_1.length co21 : Value).ownBlock)) HO_7.out (fun k_ hk => hk.2)); clear HO_7; have HO_7 := n_; clear n_; have HX26 := Aside0.mk (show Kd.R k28 28 w25 w.heap.size (fun k_ => some k_ ≠ (.slice (some ⟨go17, 0, none⟩) x6_1.length co21 : Value).ownBlock) (.slice (some ⟨go20, 0, none⟩) x7_1.length co20) x7_1 from (by (with_reducible repeat (first | apply Kd.R_alloc | apply Kd.R_drewN | apply Kd.R_drew)); exact HO_7.out)); obtain ⟨ce26, hcl26, hM26, hcc26, hfr26⟩ := Kd.R_elem HX26.out z28 (x8_1 : Int) (of_decide_eq_true (by first | (with_reducible assumption) | assumption)) (by have h_ : (x8_1 : Int) < ((x7_1.length : Int) : Int) := of_decide_eq_true (by first | (with_reducible assumption) | assumption); first | exact h_ | (have e_ := (Kd.R_reads' HO_7.out).1; omega) | simpa using h_); obtain rfl := k28_openM hM26; have HP26 := Kd.R_seg HX26.out (x8_1 : Int) (of_decide_eq_true (by first | (with_reducible assumption) | assumption)) (by have h_ : (x8_1 : Int) < ((x7_1.length : Int) : Int) := of_decide_eq_true (by first | (with_reducible assumption) | assumption); first | exact h_ | (have e_ := (Kd.R_reads' HO_7.out).1; omega) | simpa using h_) (seg := [.int .u8 ((x8_1) % 256)]) (j := 0) hcl26 hcc26 (show 1 ≤ 4 from by decide) (x' := (⟨(x8_1) % 256, (rd_T28 x7_1 x8_1).f1, (rd_T28 x7_1 x8_1).f2, (rd_T28 x7_1 x8_1).f3⟩ : S28)) (k28_mkM _ _ _ (⟨(x8_1) % 256, (rd_T28 x7_1 x8_1).f1, (rd_T28 x7_1 x8_1).f2, (rd_T28 x7_1 x8_1).f3⟩ : S28) ) (fun _ hk => hk); have hx26_0 := hcc26 0 _ rfl; (try simp only [show (k28).sz = 4 from rfl, Nat.mul_one, Nat.add_zero] at hx26_0); have hf26_0 := hfr26 0; (try simp only [show (k28).sz = 4 from rfl, Nat.mul_one, Nat.add_zero] at hf26_0); clear hcl26 hcc26 hfr26 hM26) | ((with_reducible refine gate_store (t := 5) (p := 42) rfl ?_); refine store_event (t := 5) (p := 42) (v := ?vo_w27) (w1 := (w25.setCell ⟨go20, (x8_1 : Int).toNat * 4, none⟩ (.int .u8 ((x8_1) % 256)))) ?hg ?ho ?hn ?hr ?_; (case ho => rfl); (case hg => rfl); (case hn => rfl); (case hr => first | (go_simp; done) | (go_simp; rfl)); intro w27 hw; have hg : w25.grownBy w27 (some go20) := (by rw [hw]; exact HP26.2); have hp_ : Kd.R k28 28 w27 w.heap.size (fun k_ => some k_ ≠ (.slice (some ⟨go17, 0, none⟩) x6_1.length co21 : Value).ownBlock) (.slice (some ⟨go20, 0, none⟩) x7_1.length co20) y314 := (by rw [hw, Ny314.out]; exact HP26.1); clear HP26; have n0_ := Aside0.mk (Kd.R_after (v := (.slice (some ⟨go20, 0, none⟩) x7_1.length co20)) (v1 := (.slice (some ⟨go20, 0, none⟩) x7_1.length co20)) (ok := (fun _ => True)) (by (with_reducible repeat (first | apply Kd.R_alloc | apply Kd.R_drewN | apply Kd.R_drew)); exact Kd.R_mono HO_6.out (fun _ hk => ⟨trivial, hk⟩)) hg (.inl rfl)); have n1_ := Aside0.mk (hp_); have n2_ := Aside0.mk ((by rw [hw]; exact below_set (HB.out) GB20.out : Below w.heap.size w w27)); clear HO_6; clear HO_7; clear HB; have HO_6 := n0_; have HO_7 := n1_; have HB := n2_; clear n0_ n1_ n2_; clear hg hw hp_))
                  go_roundg k1
                  case measure => have := HK1.out; omega
                  case rel => exact ⟨(y313), (y314), (wrap64 (x8_1 + 1)), (by first | rfl | (simp; done) | (simp [*]; done)), H', ⟨by have := HK1.out; omega⟩, ⟨by (with_reducible repeat (first | apply Kd.R_alloc | apply Kd.R_drewN | apply Kd.R_drew)); exact Kd.R_mono HO_6.out (fun _ hk => hk.2)⟩, ⟨by (with_reducible repeat (first | apply Kd.R_alloc | apply Kd.R_drewN | apply Kd.R_drew)); exact HO_7.out⟩, ⟨by repeat (first | (with_reducible first | exact HB.out | apply below_alloc | apply pw_below_drewN | apply below_drew1) | exact HB.out)⟩⟩
                · rw [if_neg c19] at H
                  exact absurd H (by simp)
              · rw [if_neg c16] at H
                exact absurd H (by simp)
            · rw [if_neg c15] at H
              have c15b0 : decide (x8_1 < (x6_1.length : Int)) = false := decide_eq_false c15
              clear c15
              by_cases c28 : t299 = true
              · subst c28
                have H1 : ((delim_Match.f x6_1).bind fun t315 => (if (t315.length : Int) = 0 then ((delim_Match.f x7_1).bind fun t318 => (some ((t318.length : Int) == 0))) else (some false))) = some r := by rw [if_pos rfl] at H; exact H
                clear H
                have H := H1
                clear H1
                replace H := Option.bind_eq_some_iff.mp H
                obtain ⟨t315, A290, H⟩ := H
                replace H : (if (t315.length : Int) = 0 then ((delim_Match.f x7_1).bind fun t318 => (some ((t318.length : Int) == 0))) else (some false)) = some r := H
                have A29 := Aside0.mk A290
                clear A290
                by_cases c30 : (t315.length : Int) = 0
                · rw [if_pos c30] at H
                  have c30b0 : ((t315.length : Int) == 0) = true := beq_iff_eq.mpr c30
                  have c30b1 : ((t315.length : Int) != 0) = false := bne_eq_false_iff_eq.mpr c30
                  clear c30
                  replace H := Option.bind_eq_some_iff.mp H
                  obtain ⟨t318, A310, H⟩ := H
                  replace H : (some ((t318.length : Int) == 0)) = some r := H
                  have A31 := Aside0.mk A310
                  clear A310
                  obtain rfl := Option.some.inj H
                  obtain ⟨Ao32, co32, eo32⟩ := Kd.R_slice HO_6.out
                  subst eo32
                  go_wp2_with (first | (go_at_call 15; (with_reducible refine (delim_Match.calls _ _ x6_1 t315 _ ?side1 ?side2 A29.out).mono ?_); (case side1 => repeat (first | exact (Kd.R_reads' HO_6.out).2.2 | (with_reducible refine Kd.C_alloc ?_ _) | (with_reducible refine Kd.C_drewN ?_ _) | (with_reducible refine Kd.C_drew ?_))); (case side2 => exact (Kd.R_reads' HO_6.out).2.1); rintro e w33 ⟨v316, rfl, ho0, hb⟩; have n0_ := Aside0.mk (Kd.R_below (by (with_reducible repeat (first | apply Kd.R_alloc | apply Kd.R_drewN | apply Kd.R_drew)); exact HO_6.out) hb); have n1_ := Aside0.mk (Kd.R_below (by (with_reducible repeat (first | apply Kd.R_alloc | apply Kd.R_drewN | apply Kd.R_drew)); exact HO_7.out) hb); have n2_ := Aside0.mk (Kd.R_lower ho0 (below_size (by repeat (first | (with_reducible first | exact HB.out | apply below_alloc | apply pw_below_drewN | apply below_drew1) | exact HB.out)))); have n3_ := Aside0.mk (below_step (by repeat (first | (with_reducible first | exact HB.out | apply below_alloc | apply pw_below_drewN | apply below_drew1) | exact HB.out)) hb); clear HO_6; clear HO_7; clear HB; have HO_6 := n0_; have HO_7 := n1_; have HO317 := n2_; have HB := n3_; clear n0_ n1_ n2_ n3_; (try clear hb); (try clear hb2); (try clear hk); (try clear hi); (try clear ho0); obtain ⟨Ao34, co34, eo34⟩ := Kd.R_slice HO317.out; subst eo34; obtain ⟨Ao35, co35, eo35⟩ := Kd.R_slice HO_7.out; subst eo35) | (go_at_call 15; (with_reducible refine (delim_Match.calls _ _ x7_1 t318 _ ?side1 ?side2 A31.out).mono ?_); (case side1 => repeat (first | exact (Kd.R_reads' HO_7.out).2.2 | (with_reducible refine Kd.C_alloc ?_ _) | (with_reducible refine Kd.C_drewN ?_ _) | (with_reducible refine Kd.C_drew ?_))); (case side2 => exact (Kd.R_reads' HO_7.out).2.1); rintro e w36 ⟨v319, rfl, ho0, hb⟩; have n0_ := Aside0.mk (Kd.R_below (by (with_reducible repeat (first | apply Kd.R_alloc | apply Kd.R_drewN | apply Kd.R_drew)); exact HO_6.out) hb); have n1_ := Aside0.mk (Kd.R_below (by (with_reducible repeat (first | apply Kd.R_alloc | apply Kd.R_drewN | apply Kd.R_drew)); exact HO_7.out) hb); have n2_ := Aside0.mk (Kd.R_elder' (by (with_reducible repeat (first | apply Kd.R_alloc | apply Kd.R_drewN | apply Kd.R_drew)); exact HO317.out) (Kd.R_base ho0) hb); have n3_ := Aside0.mk (Kd.R_lower (Kd.R_new' ho0 (Kd.R_lt (by (with_reducible repeat (first | apply Kd.R_alloc | apply Kd.R_drewN | apply Kd.R_drew)); exact HO317.out))) (below_size (by repeat (first | (with_reducible first | exact HB.out | apply below_alloc | apply pw_below_drewN | apply below_drew1) | exact HB.out)))); have n4_ := Aside0.mk (below_step (by repeat (first | (with_reducible first | exact HB.out | apply below_alloc | apply pw_below_drewN | apply below_drew1) | exact HB.out)) hb); clear HO_6; clear HO_7; clear HO317; clear HB; have HO_6 := n0_; have HO_7 := n1_; have HO317 := n2_; have HO320 := n3_; have HB := n4_; clear n0_ n1_ n2_ n3_ n4_; (try clear hb); (try clear hb2); (try clear hk); (try clear hi); (try clear ho0); obtain ⟨Ao37, co37, eo37⟩ := Kd.R_slice HO320.out; subst eo37))
                  go_ret
                  exact ⟨by first | rfl | (simp [errW_none, errW_some] <;> rfl) | (simp [*, errW_none, errW_some] <;> rfl), by repeat (first | (with_reducible first | exact HB.out | apply below_alloc | apply pw_below_drewN | apply below_drew1) | exact HB.out)⟩
                · rw [if_neg c30] at H
                  have c30b0 : ((t315.length : Int) == 0) = false := beq_eq_false_iff_ne.mpr c30
                  have c30b1 : ((t315.length : Int) != 0) = true := bne_iff_ne.mpr c30
                  have c30b2 : ¬ (t315 = []) := fun h_ => c30 (by rw [h_]; rfl)
                  obtain rfl := Option.some.inj H
                  obtain ⟨Ao38, co38, eo38⟩ := Kd.R_slice HO_6.out
                  subst eo38
                  go_wp2_with (first | (go_at_call 15; (with_reducible refine (delim_Match.calls _ _ x6_1 t315 _ ?side1 ?side2 A29.out).mono ?_); (case side1 => repeat (first | exact (Kd.R_reads' HO_6.out).2.2 | (with_reducible refine Kd.C_alloc ?_ _) | (with_reducible refine Kd.C_drewN ?_ _) | (with_reducible refine Kd.C_drew ?_))); (case side2 => exact (Kd.R_reads' HO_6.out).2.1); rintro e w39 ⟨v316, rfl, ho0, hb⟩; have n0_ := Aside0.mk (Kd.R_below (by (with_reducible repeat (first | apply Kd.R_alloc | apply Kd.R_drewN | apply Kd.R_drew)); exact HO_6.out) hb); have n1_ := Aside0.mk (Kd.R_below (by (with_reducible repeat (first | apply Kd.R_alloc | apply Kd.R_drewN | apply Kd.R_drew)); exact HO_7.out) hb); have n2_ := Aside0.mk (Kd.R_lower ho0 (below_size (by repeat (first | (with_reducible first | exact HB.out | apply below_alloc | apply pw_below_drewN | apply below_drew1) | exact HB.out)))); have n3_ := Aside0.mk (below_step (by repeat (first | (with_reducible first | exact HB.out | apply below_alloc | apply pw_below_drewN | apply below_drew1) | exact HB.out)) hb); clear HO_6; clear HO_7; clear HB; have HO_6 := n0_; have HO_7 := n1_; have HO317 := n2_; have HB := n3_; clear n0_ n1_ n2_ n3_; (try clear hb); (try clear hb2); (try clear hk); (try clear hi); (try clear ho0); obtain ⟨Ao40, co40, eo40⟩ := Kd.R_slice HO317.out; subst eo40))
                  go_ret
                  exact ⟨by first | rfl | (simp [errW_none, errW_some] <;> rfl) | (simp [*, errW_none, errW_some] <;> rfl), by repeat (first | (with_reducible first | exact HB.out | apply below_alloc | apply pw_below_drewN | apply below_drew1) | exact HB.out)⟩
              · replace c28 := Bool.eq_false_iff.mpr c28
                subst c28
                have H1 : (some false) = some r := by rw [if_neg (show ¬ (false = true) by decide)] at H; exact H
                clear H
                have H := H1
                clear H1
                obtain rfl := Option.some.inj H
                obtain ⟨Ao41, co41, eo41⟩ := Kd.R_slice HO_6.out
                subst eo41
                go_wp2
                go_ret
                exact ⟨by first | rfl | (simp [errW_none, errW_some] <;> rfl) | (simp [*, errW_none, errW_some] <;> rfl), by repeat (first | (with_reducible first | exact HB.out | apply below_alloc | apply pw_below_drewN | apply below_drew1) | exact HB.out)⟩
      · rw [if_neg c7] at H
        exact absurd H (by simp)
    · rw [if_neg c6] at H
      exact absurd H (by simp)

end Go.Proofs.Ytclondmclehiiaa.P
