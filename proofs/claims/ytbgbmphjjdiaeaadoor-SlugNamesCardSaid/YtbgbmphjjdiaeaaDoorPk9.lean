/- Functions of the seat as plain Lean functions, and proofs that the Go code comes to them; laid by wip/handprint.py over the kit's printer. -/
import Derived.Test.YtbgbmphjjdiaeaaDoorPk0
import Derived.Test.YtbgbmphjjdiaeaaDoorPk3
namespace Go.Proofs.YtbgbmphjjdiaeaaDoor.P
open Go.RowKit Go.Proofs.YtbgbmphjjdiaeaaDoorW.PrintWords Go.Proofs.YtbgbmphjjdiaeaaDoorW.PrintLast Go.Proofs.YtbgbmphjjdiaeaaDoorW.PrintMore
attribute [local go_sem] max2_int min2_int max_two min_two max_three min_three max_four min_four   -- for this text's walks alone
set_option linter.unusedVariables false
set_option linter.unusedSimpArgs false

/-! ### incipitref03_fold: function 58 -/
def incipitref03_fold.j0 : Nat → Int → Bool → Option (ByteArray)
  | 0, _, _ => none
  | k + 1, x0, x8 => if x8 = true then (some (⟨#[115, 115]⟩ : ByteArray)) else ((incipitref03_among.f k x0 (([65, 90, 192, 214, 216, 222, 913, 929, 931, 939, 1040, 1071] : List Int))).bind fun t254 => (if t254 = true then (some (Utf8.encode (wrap32 (x0 + 32)))) else ((incipitref03_among.f k x0 (([1024, 1039] : List Int))).bind fun t258 => (if t258 = true then (some (Utf8.encode (wrap32 (x0 + 80)))) else (if x0 = 962 then (some (⟨#[207, 131]⟩ : ByteArray)) else (some (Utf8.encode x0)))))))
def incipitref03_fold.f (k : Nat) (a0 : Int) : Option (ByteArray) := if a0 = 223 then (incipitref03_fold.j0 k a0 true) else (incipitref03_fold.j0 k a0 (a0 == 7838))
theorem incipitref03_fold.mono_l : ∀ k, (∀ y0 y1, LeO (incipitref03_fold.j0 k y0 y1) (incipitref03_fold.j0 (k + 1) y0 y1))
  | 0 => fun _ _ r h => by simp [incipitref03_fold.j0] at h
  | k + 1 => by
    have ih0 := incipitref03_fold.mono_l k
    · intro y0 y1
      unfold incipitref03_fold.j0
      repeat' first
      | (with_reducible exact ih0 _ _)
      | (with_reducible exact incipitref03_among.mono _ _ _)
      | (with_reducible exact LeO.refl _)
      | (with_reducible exact LeO.none _)
      | (with_reducible refine LeO.ite ?_ ?_)
      | (with_reducible refine LeO.bind ?_ (fun _ => ?_))
      | exact ih0 _ _
      | exact incipitref03_among.mono _ _ _
      | exact LeO.none _
      | refine LeO.ite ?_ ?_
      | refine LeO.bind ?_ (fun _ => ?_)
theorem incipitref03_fold.mono : ∀ a0 k, LeO (incipitref03_fold.f k a0) (incipitref03_fold.f (k + 1) a0) := by
  intro a0 k
  have ih0 := incipitref03_fold.mono_l k
  unfold incipitref03_fold.f
  repeat' first
      | (with_reducible exact ih0 _ _)
      | (with_reducible exact incipitref03_among.mono _ _ _)
      | (with_reducible exact LeO.refl _)
      | (with_reducible exact LeO.none _)
      | (with_reducible refine LeO.ite ?_ ?_)
      | (with_reducible refine LeO.bind ?_ (fun _ => ?_))
      | exact ih0 _ _
      | exact incipitref03_among.mono _ _ _
      | exact LeO.none _
      | refine LeO.ite ?_ ?_
      | refine LeO.bind ?_ (fun _ => ?_)
set_option maxHeartbeats 8000000 in
set_option maxRecDepth 100000 in
theorem incipitref03_fold.calls (k : Nat) (a0 : Int) (r : ByteArray) (w : World) (h : incipitref03_fold.f k a0 = some r) :
    Calls Tryd.prog 58 #[.int .i32 a0] w fun e w' => e = .returned (.string r) ∧ Below w.heap.size w w' := by
  have HB := Aside0.mk (Below.refl w.heap.size w)
  have H : (if a0 = 223 then (incipitref03_fold.j0 k a0 true) else (incipitref03_fold.j0 k a0 (a0 == 7838))) = some r := h
  clear h
  have HC2 := Aside0.mk H
  clear H
  go_enter Tryd.func58, Tryd.ntmps58
  go_upto_region 1 with (fail)
  go_cut [8] (fun v8 wc => ∃ (kq : Nat) (x8_1 : Bool), v8 = .bool x8_1 ∧ Aside0 (incipitref03_fold.j0 kq a0 x8_1 = some r) ∧ Aside0 (kq ≤ k) ∧ Aside0 (Below w.heap.size w wc))
  case first =>
    have H := HC2.out
    clear HC2
    by_cases c3 : a0 = 223
    · rw [if_pos c3] at H
      have c3b0 : (a0 == 223) = true := beq_iff_eq.mpr c3
      have c3b1 : (a0 != 223) = false := bne_eq_false_iff_eq.mpr c3
      clear c3
      (first | rw [c3b0] | (simp only [i64_w, i32_w]; rw [c3b0]) | skip)
      have H' := Aside0.mk H
      clear H
      go_wp2
      go_meet
      case rel => exact ⟨_, (true), (by first | rfl | (simp; done) | (simp [*]; done)), H', ⟨by first | omega | exact Nat.le_refl _⟩, ⟨by repeat (first | (with_reducible first | exact HB.out | apply below_alloc | apply pw_below_drewN | apply below_drew1) | exact HB.out)⟩⟩
    · rw [if_neg c3] at H
      have c3b0 : (a0 == 223) = false := beq_eq_false_iff_ne.mpr c3
      have c3b1 : (a0 != 223) = true := bne_iff_ne.mpr c3
      (first | rw [c3b0] | (simp only [i64_w, i32_w]; rw [c3b0]) | skip)
      have H' := Aside0.mk H
      clear H
      go_wp2
      go_meet
      case rel => exact ⟨_, ((a0 == 7838)), (by first | rfl | (simp; done) | (simp [*]; done)), H', ⟨by first | omega | exact Nat.le_refl _⟩, ⟨by repeat (first | (with_reducible first | exact HB.out | apply below_alloc | apply pw_below_drewN | apply below_drew1) | exact HB.out)⟩⟩
  case rest =>
    clear HC2
    try clear p2
    try clear c3
    try clear c3b0
    try clear c3b1
    obtain ⟨kq, x8_1, rfl, HA, HJ1, HB⟩ := hcut
    cases kq with
    | zero => exact absurd HA.out (by simp [incipitref03_fold.j0])
    | succ kj1 =>
      have H := HA.out
      clear HA
      simp only [incipitref03_fold.j0] at H
      by_cases c4 : x8_1 = true
      · subst c4
        have H1 : (some (⟨#[115, 115]⟩ : ByteArray)) = some r := by rw [if_pos rfl] at H; exact H
        clear H
        have H := H1
        clear H1
        obtain rfl := Option.some.inj H
        go_wp2
        go_ret
        exact ⟨by first | rfl | (simp [errW_none, errW_some] <;> rfl) | (simp [*, errW_none, errW_some] <;> rfl), by repeat (first | (with_reducible first | exact HB.out | apply below_alloc | apply pw_below_drewN | apply below_drew1) | exact HB.out)⟩
      · replace c4 := Bool.eq_false_iff.mpr c4
        subst c4
        have H1 : ((incipitref03_among.f kj1 a0 (([65, 90, 192, 214, 216, 222, 913, 929, 931, 939, 1040, 1071] : List Int))).bind fun t254 => (if t254 = true then (some (Utf8.encode (wrap32 (a0 + 32)))) else ((incipitref03_among.f kj1 a0 (([1024, 1039] : List Int))).bind fun t258 => (if t258 = true then (some (Utf8.encode (wrap32 (a0 + 80)))) else (if a0 = 962 then (some (⟨#[207, 131]⟩ : ByteArray)) else (some (Utf8.encode a0))))))) = some r := by rw [if_neg (show ¬ (false = true) by decide)] at H; exact H
        clear H
        have H := H1
        clear H1
        obtain ⟨y251, hy251⟩ : ∃ y_ : List Int, y_ = (([65, 90, 192, 214, 216, 222, 913, 929, 931, 939, 1040, 1071] : List Int)) := ⟨_, rfl⟩
        replace H : ((incipitref03_among.f kj1 a0 y251).bind fun t254 => (if t254 = true then (some (Utf8.encode (wrap32 (a0 + 32)))) else ((incipitref03_among.f kj1 a0 (([1024, 1039] : List Int))).bind fun t258 => (if t258 = true then (some (Utf8.encode (wrap32 (a0 + 80)))) else (if a0 = 962 then (some (⟨#[207, 131]⟩ : ByteArray)) else (some (Utf8.encode a0))))))) = some r := by first | (rw [hy251]; with_reducible exact H) | (have H2_ := (Option.bind_some _ _).symm.trans H; rw [hy251]; with_reducible exact H2_) | (have H2_ := (Option.bind_some _ _).symm.trans H; with_reducible exact H2_) | with_reducible exact H | (rw [hy251]; exact H) | exact H
        have Ny251 := Aside0.mk hy251
        clear hy251
        replace H := Option.bind_eq_some_iff.mp H
        obtain ⟨t254, A50, H⟩ := H
        replace H : (if t254 = true then (some (Utf8.encode (wrap32 (a0 + 32)))) else ((incipitref03_among.f kj1 a0 (([1024, 1039] : List Int))).bind fun t258 => (if t258 = true then (some (Utf8.encode (wrap32 (a0 + 80)))) else (if a0 = 962 then (some (⟨#[207, 131]⟩ : ByteArray)) else (some (Utf8.encode a0)))))) = some r := H
        have A5 := Aside0.mk A50
        clear A50
        by_cases c6 : t254 = true
        · subst c6
          have H1 : (some (Utf8.encode (wrap32 (a0 + 32)))) = some r := by rw [if_pos rfl] at H; exact H
          clear H
          have H := H1
          clear H1
          obtain rfl := Option.some.inj H
          go_wp2_with (first | ((with_reducible refine gate_dst (N := 10) rfl ?_); refine Kd.R_lit (Kd.int .i32) _ 21 ?hg (N := 10) ?hd (xs := ([65, 90, 192, 214, 216, 222, 913, 929, 931, 939, 1040, 1071] : List Int)) (inner := [.int .i32 65, .int .i32 90, .int .i32 192, .int .i32 214, .int .i32 216, .int .i32 222, .int .i32 913, .int .i32 929, .int .i32 931, .int .i32 939, .int .i32 1040, .int .i32 1071]) (ok := fun _ => True) (okp := fun _ => True) ?hr ?hp (fun _ hk => hk) trivial (Below.refl _ _) (Nat.le_refl _) (by simp) ?_; (case hd => rfl); (case hg => rfl); (case hr => first | (go_simp; done) | (go_simp; rfl)); (case hp => exact (Reps.one (show Kd.M (Kd.int .i32) _ _ _ 65 [.int .i32 65] from rfl) (Reps.one (show Kd.M (Kd.int .i32) _ _ _ 90 [.int .i32 90] from rfl) (Reps.one (show Kd.M (Kd.int .i32) _ _ _ 192 [.int .i32 192] from rfl) (Reps.one (show Kd.M (Kd.int .i32) _ _ _ 214 [.int .i32 214] from rfl) (Reps.one (show Kd.M (Kd.int .i32) _ _ _ 216 [.int .i32 216] from rfl) (Reps.one (show Kd.M (Kd.int .i32) _ _ _ 222 [.int .i32 222] from rfl) (Reps.one (show Kd.M (Kd.int .i32) _ _ _ 913 [.int .i32 913] from rfl) (Reps.one (show Kd.M (Kd.int .i32) _ _ _ 929 [.int .i32 929] from rfl) (Reps.one (show Kd.M (Kd.int .i32) _ _ _ 931 [.int .i32 931] from rfl) (Reps.one (show Kd.M (Kd.int .i32) _ _ _ 939 [.int .i32 939] from rfl) (Reps.one (show Kd.M (Kd.int .i32) _ _ _ 1040 [.int .i32 1040] from rfl) (Reps.one (show Kd.M (Kd.int .i32) _ _ _ 1071 [.int .i32 1071] from rfl) (Reps.none _ _)))))))))))))); intro v252 w7 ho8 hb hg_ hnew_; clear hg_ hnew_; (first | rw [← Ny251.out] at ho8 | (simp only [Int.reduceToNat] at ho8; rw [← Ny251.out] at ho8)); have n0_ := Aside0.mk (Kd.R_lower ho8 (below_size (by repeat (first | (with_reducible first | exact HB.out | apply below_alloc | apply pw_below_drewN | apply below_drew1) | exact HB.out)))); have n1_ := Aside0.mk (below_step (by repeat (first | (with_reducible first | exact HB.out | apply below_alloc | apply pw_below_drewN | apply below_drew1) | exact HB.out)) hb); clear HB; have HO253 := n0_; have HB := n1_; clear n0_ n1_; clear hb ho8; obtain ⟨Ao9, co9, eo9⟩ := Kd.R_slice HO253.out; subst eo9) | ((with_reducible refine gate_callee (f := 54) rfl ?_); refine goesL_ (some 11) rfl rfl Tryd.func54 (by kernel_rfl) rfl #[.int .i32 a0, .slice Ao9 y251.length co9] rfl (by (try simp only [List.map_toArray, List.map_cons, List.map_nil]); first | done | rfl | (simp only [List.length_drop, List.length_take]; rfl)) ?_; (with_reducible refine (incipitref03_among.calls kj1 a0 _ _ y251 true _ ?side1 ?side2 A5.out).mono ?_); (case side1 => repeat (first | exact (Kd.R_reads' HO253.out).2.2 | (with_reducible refine Kd.C_alloc ?_ _) | (with_reducible refine Kd.C_drewN ?_ _) | (with_reducible refine Kd.C_drew ?_))); (case side2 => exact (Kd.R_reads' HO253.out).2.1); rintro e w' ⟨rfl, ⟨nd, rfl⟩⟩; refine ⟨_, rfl, ?_⟩))
          go_ret
          exact ⟨by first | rfl | (simp [errW_none, errW_some] <;> rfl) | (simp [*, errW_none, errW_some] <;> rfl), by repeat (first | (with_reducible first | exact HB.out | apply below_alloc | apply pw_below_drewN | apply below_drew1) | exact HB.out)⟩
        · replace c6 := Bool.eq_false_iff.mpr c6
          subst c6
          have H1 : ((incipitref03_among.f kj1 a0 (([1024, 1039] : List Int))).bind fun t258 => (if t258 = true then (some (Utf8.encode (wrap32 (a0 + 80)))) else (if a0 = 962 then (some (⟨#[207, 131]⟩ : ByteArray)) else (some (Utf8.encode a0))))) = some r := by rw [if_neg (show ¬ (false = true) by decide)] at H; exact H
          clear H
          have H := H1
          clear H1
          obtain ⟨y255, hy255⟩ : ∃ y_ : List Int, y_ = (([1024, 1039] : List Int)) := ⟨_, rfl⟩
          replace H : ((incipitref03_among.f kj1 a0 y255).bind fun t258 => (if t258 = true then (some (Utf8.encode (wrap32 (a0 + 80)))) else (if a0 = 962 then (some (⟨#[207, 131]⟩ : ByteArray)) else (some (Utf8.encode a0))))) = some r := by first | (rw [hy255]; with_reducible exact H) | (have H2_ := (Option.bind_some _ _).symm.trans H; rw [hy255]; with_reducible exact H2_) | (have H2_ := (Option.bind_some _ _).symm.trans H; with_reducible exact H2_) | with_reducible exact H | (rw [hy255]; exact H) | exact H
          have Ny255 := Aside0.mk hy255
          clear hy255
          replace H := Option.bind_eq_some_iff.mp H
          obtain ⟨t258, A100, H⟩ := H
          replace H : (if t258 = true then (some (Utf8.encode (wrap32 (a0 + 80)))) else (if a0 = 962 then (some (⟨#[207, 131]⟩ : ByteArray)) else (some (Utf8.encode a0)))) = some r := H
          have A10 := Aside0.mk A100
          clear A100
          by_cases c11 : t258 = true
          · subst c11
            have H1 : (some (Utf8.encode (wrap32 (a0 + 80)))) = some r := by rw [if_pos rfl] at H; exact H
            clear H
            have H := H1
            clear H1
            obtain rfl := Option.some.inj H
            go_wp2_with (first | ((with_reducible refine gate_dst (N := 10) rfl ?_); refine Kd.R_lit (Kd.int .i32) _ 21 ?hg (N := 10) ?hd (xs := ([65, 90, 192, 214, 216, 222, 913, 929, 931, 939, 1040, 1071] : List Int)) (inner := [.int .i32 65, .int .i32 90, .int .i32 192, .int .i32 214, .int .i32 216, .int .i32 222, .int .i32 913, .int .i32 929, .int .i32 931, .int .i32 939, .int .i32 1040, .int .i32 1071]) (ok := fun _ => True) (okp := fun _ => True) ?hr ?hp (fun _ hk => hk) trivial (Below.refl _ _) (Nat.le_refl _) (by simp) ?_; (case hd => rfl); (case hg => rfl); (case hr => first | (go_simp; done) | (go_simp; rfl)); (case hp => exact (Reps.one (show Kd.M (Kd.int .i32) _ _ _ 65 [.int .i32 65] from rfl) (Reps.one (show Kd.M (Kd.int .i32) _ _ _ 90 [.int .i32 90] from rfl) (Reps.one (show Kd.M (Kd.int .i32) _ _ _ 192 [.int .i32 192] from rfl) (Reps.one (show Kd.M (Kd.int .i32) _ _ _ 214 [.int .i32 214] from rfl) (Reps.one (show Kd.M (Kd.int .i32) _ _ _ 216 [.int .i32 216] from rfl) (Reps.one (show Kd.M (Kd.int .i32) _ _ _ 222 [.int .i32 222] from rfl) (Reps.one (show Kd.M (Kd.int .i32) _ _ _ 913 [.int .i32 913] from rfl) (Reps.one (show Kd.M (Kd.int .i32) _ _ _ 929 [.int .i32 929] from rfl) (Reps.one (show Kd.M (Kd.int .i32) _ _ _ 931 [.int .i32 931] from rfl) (Reps.one (show Kd.M (Kd.int .i32) _ _ _ 939 [.int .i32 939] from rfl) (Reps.one (show Kd.M (Kd.int .i32) _ _ _ 1040 [.int .i32 1040] from rfl) (Reps.one (show Kd.M (Kd.int .i32) _ _ _ 1071 [.int .i32 1071] from rfl) (Reps.none _ _)))))))))))))); intro v252 w12 ho13 hb hg_ hnew_; clear hg_ hnew_; (first | rw [← Ny251.out] at ho13 | (simp only [Int.reduceToNat] at ho13; rw [← Ny251.out] at ho13)); have n0_ := Aside0.mk (Kd.R_lower ho13 (below_size (by repeat (first | (with_reducible first | exact HB.out | apply below_alloc | apply pw_below_drewN | apply below_drew1) | exact HB.out)))); have n1_ := Aside0.mk (below_step (by repeat (first | (with_reducible first | exact HB.out | apply below_alloc | apply pw_below_drewN | apply below_drew1) | exact HB.out)) hb); clear HB; have HO253 := n0_; have HB := n1_; clear n0_ n1_; clear hb ho13; obtain ⟨Ao14, co14, eo14⟩ := Kd.R_slice HO253.out; subst eo14) | ((with_reducible refine gate_callee (f := 54) rfl ?_); refine goesL_ (some 11) rfl rfl Tryd.func54 (by kernel_rfl) rfl #[.int .i32 a0, .slice Ao14 y251.length co14] rfl (by (try simp only [List.map_toArray, List.map_cons, List.map_nil]); first | done | rfl | (simp only [List.length_drop, List.length_take]; rfl)) ?_; (with_reducible refine (incipitref03_among.calls kj1 a0 _ _ y251 false _ ?side1 ?side2 A5.out).mono ?_); (case side1 => repeat (first | exact (Kd.R_reads' HO253.out).2.2 | (with_reducible refine Kd.C_alloc ?_ _) | (with_reducible refine Kd.C_drewN ?_ _) | (with_reducible refine Kd.C_drew ?_))); (case side2 => exact (Kd.R_reads' HO253.out).2.1); rintro e w' ⟨rfl, ⟨nd, rfl⟩⟩; refine ⟨_, rfl, ?_⟩) | ((with_reducible refine gate_dst (N := 16) rfl ?_); refine Kd.R_lit (Kd.int .i32) _ 21 ?hg (N := 16) ?hd (xs := ([1024, 1039] : List Int)) (inner := [.int .i32 1024, .int .i32 1039]) (ok := fun _ => True) (okp := fun _ => True) ?hr ?hp (fun _ hk => hk) trivial (Below.refl _ _) (Nat.le_refl _) (by simp) ?_; (case hd => rfl); (case hg => rfl); (case hr => first | (go_simp; done) | (go_simp; rfl)); (case hp => exact (Reps.one (show Kd.M (Kd.int .i32) _ _ _ 1024 [.int .i32 1024] from rfl) (Reps.one (show Kd.M (Kd.int .i32) _ _ _ 1039 [.int .i32 1039] from rfl) (Reps.none _ _)))); intro v256 w15 ho16 hb hg_ hnew_; clear hg_ hnew_; (first | rw [← Ny255.out] at ho16 | (simp only [Int.reduceToNat] at ho16; rw [← Ny255.out] at ho16)); have n0_ := Aside0.mk (Kd.R_elder' (by (with_reducible repeat (first | apply Kd.R_alloc | apply Kd.R_drewN | apply Kd.R_drew)); exact HO253.out) (Kd.R_base ho16) hb); have n1_ := Aside0.mk (Kd.R_lower (Kd.R_new' ho16 (Kd.R_lt (by (with_reducible repeat (first | apply Kd.R_alloc | apply Kd.R_drewN | apply Kd.R_drew)); exact HO253.out))) (below_size (by repeat (first | (with_reducible first | exact HB.out | apply below_alloc | apply pw_below_drewN | apply below_drew1) | exact HB.out)))); have n2_ := Aside0.mk (below_step (by repeat (first | (with_reducible first | exact HB.out | apply below_alloc | apply pw_below_drewN | apply below_drew1) | exact HB.out)) hb); clear HO253; clear HB; have HO253 := n0_; have HO257 := n1_; have HB := n2_; clear n0_ n1_ n2_; clear hb ho16; obtain ⟨Ao17, co17, eo17⟩ := Kd.R_slice HO257.out; subst eo17) | ((with_reducible refine gate_callee (f := 54) rfl ?_); refine goesL_ (some 17) rfl rfl Tryd.func54 (by kernel_rfl) rfl #[.int .i32 a0, .slice Ao17 y255.length co17] rfl (by (try simp only [List.map_toArray, List.map_cons, List.map_nil]); first | done | rfl | (simp only [List.length_drop, List.length_take]; rfl)) ?_; (with_reducible refine (incipitref03_among.calls kj1 a0 _ _ y255 true _ ?side1 ?side2 A10.out).mono ?_); (case side1 => repeat (first | exact (Kd.R_reads' HO257.out).2.2 | (with_reducible refine Kd.C_alloc ?_ _) | (with_reducible refine Kd.C_drewN ?_ _) | (with_reducible refine Kd.C_drew ?_))); (case side2 => exact (Kd.R_reads' HO257.out).2.1); rintro e w' ⟨rfl, ⟨nd, rfl⟩⟩; refine ⟨_, rfl, ?_⟩))
            go_ret
            exact ⟨by first | rfl | (simp [errW_none, errW_some] <;> rfl) | (simp [*, errW_none, errW_some] <;> rfl), by repeat (first | (with_reducible first | exact HB.out | apply below_alloc | apply pw_below_drewN | apply below_drew1) | exact HB.out)⟩
          · replace c11 := Bool.eq_false_iff.mpr c11
            subst c11
            have H1 : (if a0 = 962 then (some (⟨#[207, 131]⟩ : ByteArray)) else (some (Utf8.encode a0))) = some r := by rw [if_neg (show ¬ (false = true) by decide)] at H; exact H
            clear H
            have H := H1
            clear H1
            by_cases c18 : a0 = 962
            · rw [if_pos c18] at H
              have c18b0 : (a0 == 962) = true := beq_iff_eq.mpr c18
              have c18b1 : (a0 != 962) = false := bne_eq_false_iff_eq.mpr c18
              clear c18
              obtain rfl := Option.some.inj H
              go_wp2_with (first | ((with_reducible refine gate_dst (N := 10) rfl ?_); refine Kd.R_lit (Kd.int .i32) _ 21 ?hg (N := 10) ?hd (xs := ([65, 90, 192, 214, 216, 222, 913, 929, 931, 939, 1040, 1071] : List Int)) (inner := [.int .i32 65, .int .i32 90, .int .i32 192, .int .i32 214, .int .i32 216, .int .i32 222, .int .i32 913, .int .i32 929, .int .i32 931, .int .i32 939, .int .i32 1040, .int .i32 1071]) (ok := fun _ => True) (okp := fun _ => True) ?hr ?hp (fun _ hk => hk) trivial (Below.refl _ _) (Nat.le_refl _) (by simp) ?_; (case hd => rfl); (case hg => rfl); (case hr => first | (go_simp; done) | (go_simp; rfl)); (case hp => exact (Reps.one (show Kd.M (Kd.int .i32) _ _ _ 65 [.int .i32 65] from rfl) (Reps.one (show Kd.M (Kd.int .i32) _ _ _ 90 [.int .i32 90] from rfl) (Reps.one (show Kd.M (Kd.int .i32) _ _ _ 192 [.int .i32 192] from rfl) (Reps.one (show Kd.M (Kd.int .i32) _ _ _ 214 [.int .i32 214] from rfl) (Reps.one (show Kd.M (Kd.int .i32) _ _ _ 216 [.int .i32 216] from rfl) (Reps.one (show Kd.M (Kd.int .i32) _ _ _ 222 [.int .i32 222] from rfl) (Reps.one (show Kd.M (Kd.int .i32) _ _ _ 913 [.int .i32 913] from rfl) (Reps.one (show Kd.M (Kd.int .i32) _ _ _ 929 [.int .i32 929] from rfl) (Reps.one (show Kd.M (Kd.int .i32) _ _ _ 931 [.int .i32 931] from rfl) (Reps.one (show Kd.M (Kd.int .i32) _ _ _ 939 [.int .i32 939] from rfl) (Reps.one (show Kd.M (Kd.int .i32) _ _ _ 1040 [.int .i32 1040] from rfl) (Reps.one (show Kd.M (Kd.int .i32) _ _ _ 1071 [.int .i32 1071] from rfl) (Reps.none _ _)))))))))))))); intro v252 w19 ho20 hb hg_ hnew_; clear hg_ hnew_; (first | rw [← Ny251.out] at ho20 | (simp only [Int.reduceToNat] at ho20; rw [← Ny251.out] at ho20)); have n0_ := Aside0.mk (Kd.R_lower ho20 (below_size (by repeat (first | (with_reducible first | exact HB.out | apply below_alloc | apply pw_below_drewN | apply below_drew1) | exact HB.out)))); have n1_ := Aside0.mk (below_step (by repeat (first | (with_reducible first | exact HB.out | apply below_alloc | apply pw_below_drewN | apply below_drew1) | exact HB.out)) hb); clear HB; have HO253 := n0_; have HB := n1_; clear n0_ n1_; clear hb ho20; obtain ⟨Ao21, co21, eo21⟩ := Kd.R_slice HO253.out; subst eo21) | ((with_reducible refine gate_callee (f := 54) rfl ?_); refine goesL_ (some 11) rfl rfl Tryd.func54 (by kernel_rfl) rfl #[.int .i32 a0, .slice Ao21 y251.length co21] rfl (by (try simp only [List.map_toArray, List.map_cons, List.map_nil]); first | done | rfl | (simp only [List.length_drop, List.length_take]; rfl)) ?_; (with_reducible refine (incipitref03_among.calls kj1 a0 _ _ y251 false _ ?side1 ?side2 A5.out).mono ?_); (case side1 => repeat (first | exact (Kd.R_reads' HO253.out).2.2 | (with_reducible refine Kd.C_alloc ?_ _) | (with_reducible refine Kd.C_drewN ?_ _) | (with_reducible refine Kd.C_drew ?_))); (case side2 => exact (Kd.R_reads' HO253.out).2.1); rintro e w' ⟨rfl, ⟨nd, rfl⟩⟩; refine ⟨_, rfl, ?_⟩) | ((with_reducible refine gate_dst (N := 16) rfl ?_); refine Kd.R_lit (Kd.int .i32) _ 21 ?hg (N := 16) ?hd (xs := ([1024, 1039] : List Int)) (inner := [.int .i32 1024, .int .i32 1039]) (ok := fun _ => True) (okp := fun _ => True) ?hr ?hp (fun _ hk => hk) trivial (Below.refl _ _) (Nat.le_refl _) (by simp) ?_; (case hd => rfl); (case hg => rfl); (case hr => first | (go_simp; done) | (go_simp; rfl)); (case hp => exact (Reps.one (show Kd.M (Kd.int .i32) _ _ _ 1024 [.int .i32 1024] from rfl) (Reps.one (show Kd.M (Kd.int .i32) _ _ _ 1039 [.int .i32 1039] from rfl) (Reps.none _ _)))); intro v256 w22 ho23 hb hg_ hnew_; clear hg_ hnew_; (first | rw [← Ny255.out] at ho23 | (simp only [Int.reduceToNat] at ho23; rw [← Ny255.out] at ho23)); have n0_ := Aside0.mk (Kd.R_elder' (by (with_reducible repeat (first | apply Kd.R_alloc | apply Kd.R_drewN | apply Kd.R_drew)); exact HO253.out) (Kd.R_base ho23) hb); have n1_ := Aside0.mk (Kd.R_lower (Kd.R_new' ho23 (Kd.R_lt (by (with_reducible repeat (first | apply Kd.R_alloc | apply Kd.R_drewN | apply Kd.R_drew)); exact HO253.out))) (below_size (by repeat (first | (with_reducible first | exact HB.out | apply below_alloc | apply pw_below_drewN | apply below_drew1) | exact HB.out)))); have n2_ := Aside0.mk (below_step (by repeat (first | (with_reducible first | exact HB.out | apply below_alloc | apply pw_below_drewN | apply below_drew1) | exact HB.out)) hb); clear HO253; clear HB; have HO253 := n0_; have HO257 := n1_; have HB := n2_; clear n0_ n1_ n2_; clear hb ho23; obtain ⟨Ao24, co24, eo24⟩ := Kd.R_slice HO257.out; subst eo24) | ((with_reducible refine gate_callee (f := 54) rfl ?_); refine goesL_ (some 17) rfl rfl Tryd.func54 (by kernel_rfl) rfl #[.int .i32 a0, .slice Ao24 y255.length co24] rfl (by (try simp only [List.map_toArray, List.map_cons, List.map_nil]); first | done | rfl | (simp only [List.length_drop, List.length_take]; rfl)) ?_; (with_reducible refine (incipitref03_among.calls kj1 a0 _ _ y255 false _ ?side1 ?side2 A10.out).mono ?_); (case side1 => repeat (first | exact (Kd.R_reads' HO257.out).2.2 | (with_reducible refine Kd.C_alloc ?_ _) | (with_reducible refine Kd.C_drewN ?_ _) | (with_reducible refine Kd.C_drew ?_))); (case side2 => exact (Kd.R_reads' HO257.out).2.1); rintro e w' ⟨rfl, ⟨nd, rfl⟩⟩; refine ⟨_, rfl, ?_⟩))
              go_ret
              exact ⟨by first | rfl | (simp [errW_none, errW_some] <;> rfl) | (simp [*, errW_none, errW_some] <;> rfl), by repeat (first | (with_reducible first | exact HB.out | apply below_alloc | apply pw_below_drewN | apply below_drew1) | exact HB.out)⟩
            · rw [if_neg c18] at H
              have c18b0 : (a0 == 962) = false := beq_eq_false_iff_ne.mpr c18
              have c18b1 : (a0 != 962) = true := bne_iff_ne.mpr c18
              obtain rfl := Option.some.inj H
              go_wp2_with (first | ((with_reducible refine gate_dst (N := 10) rfl ?_); refine Kd.R_lit (Kd.int .i32) _ 21 ?hg (N := 10) ?hd (xs := ([65, 90, 192, 214, 216, 222, 913, 929, 931, 939, 1040, 1071] : List Int)) (inner := [.int .i32 65, .int .i32 90, .int .i32 192, .int .i32 214, .int .i32 216, .int .i32 222, .int .i32 913, .int .i32 929, .int .i32 931, .int .i32 939, .int .i32 1040, .int .i32 1071]) (ok := fun _ => True) (okp := fun _ => True) ?hr ?hp (fun _ hk => hk) trivial (Below.refl _ _) (Nat.le_refl _) (by simp) ?_; (case hd => rfl); (case hg => rfl); (case hr => first | (go_simp; done) | (go_simp; rfl)); (case hp => exact (Reps.one (show Kd.M (Kd.int .i32) _ _ _ 65 [.int .i32 65] from rfl) (Reps.one (show Kd.M (Kd.int .i32) _ _ _ 90 [.int .i32 90] from rfl) (Reps.one (show Kd.M (Kd.int .i32) _ _ _ 192 [.int .i32 192] from rfl) (Reps.one (show Kd.M (Kd.int .i32) _ _ _ 214 [.int .i32 214] from rfl) (Reps.one (show Kd.M (Kd.int .i32) _ _ _ 216 [.int .i32 216] from rfl) (Reps.one (show Kd.M (Kd.int .i32) _ _ _ 222 [.int .i32 222] from rfl) (Reps.one (show Kd.M (Kd.int .i32) _ _ _ 913 [.int .i32 913] from rfl) (Reps.one (show Kd.M (Kd.int .i32) _ _ _ 929 [.int .i32 929] from rfl) (Reps.one (show Kd.M (Kd.int .i32) _ _ _ 931 [.int .i32 931] from rfl) (Reps.one (show Kd.M (Kd.int .i32) _ _ _ 939 [.int .i32 939] from rfl) (Reps.one (show Kd.M (Kd.int .i32) _ _ _ 1040 [.int .i32 1040] from rfl) (Reps.one (show Kd.M (Kd.int .i32) _ _ _ 1071 [.int .i32 1071] from rfl) (Reps.none _ _)))))))))))))); intro v252 w25 ho26 hb hg_ hnew_; clear hg_ hnew_; (first | rw [← Ny251.out] at ho26 | (simp only [Int.reduceToNat] at ho26; rw [← Ny251.out] at ho26)); have n0_ := Aside0.mk (Kd.R_lower ho26 (below_size (by repeat (first | (with_reducible first | exact HB.out | apply below_alloc | apply pw_below_drewN | apply below_drew1) | exact HB.out)))); have n1_ := Aside0.mk (below_step (by repeat (first | (with_reducible first | exact HB.out | apply below_alloc | apply pw_below_drewN | apply below_drew1) | exact HB.out)) hb); clear HB; have HO253 := n0_; have HB := n1_; clear n0_ n1_; clear hb ho26; obtain ⟨Ao27, co27, eo27⟩ := Kd.R_slice HO253.out; subst eo27) | ((with_reducible refine gate_callee (f := 54) rfl ?_); refine goesL_ (some 11) rfl rfl Tryd.func54 (by kernel_rfl) rfl #[.int .i32 a0, .slice Ao27 y251.length co27] rfl (by (try simp only [List.map_toArray, List.map_cons, List.map_nil]); first | done | rfl | (simp only [List.length_drop, List.length_take]; rfl)) ?_; (with_reducible refine (incipitref03_among.calls kj1 a0 _ _ y251 false _ ?side1 ?side2 A5.out).mono ?_); (case side1 => repeat (first | exact (Kd.R_reads' HO253.out).2.2 | (with_reducible refine Kd.C_alloc ?_ _) | (with_reducible refine Kd.C_drewN ?_ _) | (with_reducible refine Kd.C_drew ?_))); (case side2 => exact (Kd.R_reads' HO253.out).2.1); rintro e w' ⟨rfl, ⟨nd, rfl⟩⟩; refine ⟨_, rfl, ?_⟩) | ((with_reducible refine gate_dst (N := 16) rfl ?_); refine Kd.R_lit (Kd.int .i32) _ 21 ?hg (N := 16) ?hd (xs := ([1024, 1039] : List Int)) (inner := [.int .i32 1024, .int .i32 1039]) (ok := fun _ => True) (okp := fun _ => True) ?hr ?hp (fun _ hk => hk) trivial (Below.refl _ _) (Nat.le_refl _) (by simp) ?_; (case hd => rfl); (case hg => rfl); (case hr => first | (go_simp; done) | (go_simp; rfl)); (case hp => exact (Reps.one (show Kd.M (Kd.int .i32) _ _ _ 1024 [.int .i32 1024] from rfl) (Reps.one (show Kd.M (Kd.int .i32) _ _ _ 1039 [.int .i32 1039] from rfl) (Reps.none _ _)))); intro v256 w28 ho29 hb hg_ hnew_; clear hg_ hnew_; (first | rw [← Ny255.out] at ho29 | (simp only [Int.reduceToNat] at ho29; rw [← Ny255.out] at ho29)); have n0_ := Aside0.mk (Kd.R_elder' (by (with_reducible repeat (first | apply Kd.R_alloc | apply Kd.R_drewN | apply Kd.R_drew)); exact HO253.out) (Kd.R_base ho29) hb); have n1_ := Aside0.mk (Kd.R_lower (Kd.R_new' ho29 (Kd.R_lt (by (with_reducible repeat (first | apply Kd.R_alloc | apply Kd.R_drewN | apply Kd.R_drew)); exact HO253.out))) (below_size (by repeat (first | (with_reducible first | exact HB.out | apply below_alloc | apply pw_below_drewN | apply below_drew1) | exact HB.out)))); have n2_ := Aside0.mk (below_step (by repeat (first | (with_reducible first | exact HB.out | apply below_alloc | apply pw_below_drewN | apply below_drew1) | exact HB.out)) hb); clear HO253; clear HB; have HO253 := n0_; have HO257 := n1_; have HB := n2_; clear n0_ n1_ n2_; clear hb ho29; obtain ⟨Ao30, co30, eo30⟩ := Kd.R_slice HO257.out; subst eo30) | ((with_reducible refine gate_callee (f := 54) rfl ?_); refine goesL_ (some 17) rfl rfl Tryd.func54 (by kernel_rfl) rfl #[.int .i32 a0, .slice Ao30 y255.length co30] rfl (by (try simp only [List.map_toArray, List.map_cons, List.map_nil]); first | done | rfl | (simp only [List.length_drop, List.length_take]; rfl)) ?_; (with_reducible refine (incipitref03_among.calls kj1 a0 _ _ y255 false _ ?side1 ?side2 A10.out).mono ?_); (case side1 => repeat (first | exact (Kd.R_reads' HO257.out).2.2 | (with_reducible refine Kd.C_alloc ?_ _) | (with_reducible refine Kd.C_drewN ?_ _) | (with_reducible refine Kd.C_drew ?_))); (case side2 => exact (Kd.R_reads' HO257.out).2.1); rintro e w' ⟨rfl, ⟨nd, rfl⟩⟩; refine ⟨_, rfl, ?_⟩))
              go_ret
              exact ⟨by first | rfl | (simp [errW_none, errW_some] <;> rfl) | (simp [*, errW_none, errW_some] <;> rfl), by repeat (first | (with_reducible first | exact HB.out | apply below_alloc | apply pw_below_drewN | apply below_drew1) | exact HB.out)⟩

end Go.Proofs.YtbgbmphjjdiaeaaDoor.P
