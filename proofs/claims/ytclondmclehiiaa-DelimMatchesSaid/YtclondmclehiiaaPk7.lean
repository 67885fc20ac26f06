/- Functions of the seat as plain Lean functions, and proofs that the Go code comes to them; laid by wip/handprint.py over the kit's printer. -/
import Derived.Test.YtclondmclehiiaaPk0
namespace Go.Proofs.Ytclondmclehiiaa.P
open Go.RowKit Go.Proofs.YtclondmclehiiaaW.PrintWords Go.Proofs.YtclondmclehiiaaW.PrintLast Go.Proofs.YtclondmclehiiaaW.PrintMore
attribute [local go_sem] max2_int min2_int max_two min_two max_three min_three max_four min_four   -- for this text's walks alone
set_option linter.unusedVariables false
set_option linter.unusedSimpArgs false

/-! ### incipitref13_fits: function 26 -/
def incipitref13_fits.j0 : Nat → Int → Int → Bool → Int → Int → Bool → Bool → Int → Int → Bool → Bool → Option (Bool)
  | 0, _, _, _, _, _, _, _, _, _, _, _ => none
  | k + 1, x2, x3, x27, x162000, x162001, x162002, x162003, x163000, x163001, x163002, x163003 => if x27 = true then (some false) else (if x162000 = 126 then (some (x2 == x3)) else (if x162002 = true then (if x162003 = true then (if (Int.tmod (wrap64 (x162001 + x163001)) 3) = 0 then (if (Int.tmod x162001 3) = 0 then (some (!((Int.tmod x163001 3) != 0))) else (some (!true))) else (some (!false))) else (if x163002 = true then (if x163003 = true then (if (Int.tmod (wrap64 (x162001 + x163001)) 3) = 0 then (if (Int.tmod x162001 3) = 0 then (some (!((Int.tmod x163001 3) != 0))) else (some (!true))) else (some (!false))) else (some (!false))) else (some (!false)))) else (if x163002 = true then (if x163003 = true then (if (Int.tmod (wrap64 (x162001 + x163001)) 3) = 0 then (if (Int.tmod x162001 3) = 0 then (some (!((Int.tmod x163001 3) != 0))) else (some (!true))) else (some (!false))) else (some (!false))) else (some (!false)))))
def incipitref13_fits.f (k : Nat) (a0_0 : Int) (a0_1 : Int) (a0_2 : Bool) (a0_3 : Bool) (a1_0 : Int) (a1_1 : Int) (a1_2 : Bool) (a1_3 : Bool) (a2 : Int) (a3 : Int) : Option (Bool) := if a0_0 = a1_0 then (if a0_2 = true then (if a2 < 1 then (incipitref13_fits.j0 k a2 a3 true a0_0 a0_1 a0_2 a0_3 a1_0 a1_1 a1_2 a1_3) else (incipitref13_fits.j0 k a2 a3 (decide (a3 < 1)) a0_0 a0_1 a0_2 a0_3 a1_0 a1_1 a1_2 a1_3)) else (incipitref13_fits.j0 k a2 a3 true a0_0 a0_1 a0_2 a0_3 a1_0 a1_1 a1_2 a1_3)) else (incipitref13_fits.j0 k a2 a3 true a0_0 a0_1 a0_2 a0_3 a1_0 a1_1 a1_2 a1_3)
theorem incipitref13_fits.mono_l : ∀ k, (∀ y0 y1 y2 y3 y4 y5 y6 y7 y8 y9 y10, LeO (incipitref13_fits.j0 k y0 y1 y2 y3 y4 y5 y6 y7 y8 y9 y10) (incipitref13_fits.j0 (k + 1) y0 y1 y2 y3 y4 y5 y6 y7 y8 y9 y10))
  | 0 => fun _ _ _ _ _ _ _ _ _ _ _ r h => by simp [incipitref13_fits.j0] at h
  | k + 1 => by
    have ih0 := incipitref13_fits.mono_l k
    · intro y0 y1 y2 y3 y4 y5 y6 y7 y8 y9 y10
      unfold incipitref13_fits.j0
      repeat' first
      | (with_reducible exact ih0 _ _ _ _ _ _ _ _ _ _ _)
      | (with_reducible exact LeO.refl _)
      | (with_reducible exact LeO.none _)
      | (with_reducible refine LeO.ite ?_ ?_)
      | (with_reducible refine LeO.bind ?_ (fun _ => ?_))
      | exact ih0 _ _ _ _ _ _ _ _ _ _ _
      | exact LeO.none _
      | refine LeO.ite ?_ ?_
      | refine LeO.bind ?_ (fun _ => ?_)
theorem incipitref13_fits.mono : ∀ a0 a1 a2 a3 a4 a5 a6 a7 a8 a9 k, LeO (incipitref13_fits.f k a0 a1 a2 a3 a4 a5 a6 a7 a8 a9) (incipitref13_fits.f (k + 1) a0 a1 a2 a3 a4 a5 a6 a7 a8 a9) := by
  intro a0 a1 a2 a3 a4 a5 a6 a7 a8 a9 k
  have ih0 := incipitref13_fits.mono_l k
  unfold incipitref13_fits.f
  repeat' first
      | (with_reducible exact ih0 _ _ _ _ _ _ _ _ _ _ _)
      | (with_reducible exact LeO.refl _)
      | (with_reducible exact LeO.none _)
      | (with_reducible refine LeO.ite ?_ ?_)
      | (with_reducible refine LeO.bind ?_ (fun _ => ?_))
      | exact ih0 _ _ _ _ _ _ _ _ _ _ _
      | exact LeO.none _
      | refine LeO.ite ?_ ?_
      | refine LeO.bind ?_ (fun _ => ?_)
set_option maxHeartbeats 8000000 in
set_option maxRecDepth 100000 in
theorem incipitref13_fits.calls (k : Nat) (a0_0 : Int) (a0_1 : Int) (a0_2 : Bool) (a0_3 : Bool) (a1_0 : Int) (a1_1 : Int) (a1_2 : Bool) (a1_3 : Bool) (a2 : Int) (a3 : Int) (r : Bool) (w : World) (h : incipitref13_fits.f k a0_0 a0_1 a0_2 a0_3 a1_0 a1_1 a1_2 a1_3 a2 a3 = some r) :
    Calls Try.prog 26 #[.agg #[.int .u8 a0_0, .int .i64 a0_1, .bool a0_2, .bool a0_3], .agg #[.int .u8 a1_0, .int .i64 a1_1, .bool a1_2, .bool a1_3], .int .i64 a2, .int .i64 a3] w fun e w' => e = .returned (.bool r) ∧ Below w.heap.size w w' := by
  have hu60 := Try.underlying60
  have HB := Aside0.mk (Below.refl w.heap.size w)
  have H : (if a0_0 = a1_0 then (if a0_2 = true then (if a2 < 1 then (incipitref13_fits.j0 k a2 a3 true a0_0 a0_1 a0_2 a0_3 a1_0 a1_1 a1_2 a1_3) else (incipitref13_fits.j0 k a2 a3 (decide (a3 < 1)) a0_0 a0_1 a0_2 a0_3 a1_0 a1_1 a1_2 a1_3)) else (incipitref13_fits.j0 k a2 a3 true a0_0 a0_1 a0_2 a0_3 a1_0 a1_1 a1_2 a1_3)) else (incipitref13_fits.j0 k a2 a3 true a0_0 a0_1 a0_2 a0_3 a1_0 a1_1 a1_2 a1_3)) = some r := h
  clear h
  have HC5 := Aside0.mk H
  clear H
  go_enter Try.func26, Try.ntmps26
  go_upto_region 1 with (first | ((with_reducible refine gate_dst (N := 4) rfl ?_); refine box_event ?hg (N := 4) ?hd (cs := #[.int .u8 a0_0, .int .i64 a0_1, .bool a0_2, .bool a0_3]) (t := 60) ?hr ?_; (case hd => rfl); (case hg => rfl); (case hr => first | (go_simp; done) | (go_simp; rfl)); intro gb161 hg w6 hbox hb; have n0_ := Aside0.mk (below_step (by repeat (first | (with_reducible first | exact HB.out | apply below_alloc | apply pw_below_drewN | apply below_drew1) | exact HB.out)) hb); have n1_ := Aside0.mk (hbox); have n2_ := Aside0.mk ((by rw [hg]; exact (below_size (by repeat (first | (with_reducible first | exact HB.out | apply below_alloc | apply pw_below_drewN | apply below_drew1) | exact HB.out))) : w.heap.size ≤ gb161)); have n3_ := Aside0.mk ((by rw [hg]; exact (below_size (by repeat (first | (with_reducible first | exact HB.out | apply below_alloc | apply pw_below_drewN | apply below_drew1) | exact HB.out))) : w.heap.size ≤ gb161)); clear HB; have HB := n0_; have BK161 := n1_; have GW161 := n2_; have GE161 := n3_; clear n0_ n1_ n2_ n3_; clear hb hbox hg) | ((with_reducible refine gate_dst (N := 5) rfl ?_); refine box_event ?hg (N := 5) ?hd (cs := #[.int .u8 a1_0, .int .i64 a1_1, .bool a1_2, .bool a1_3]) (t := 60) ?hr ?_; (case hd => rfl); (case hg => rfl); (case hr => first | (go_simp; done) | (go_simp; rfl)); intro gb162 hg w7 hbox hb; have n0_ := Aside0.mk (blk_below (g := gb161) (o := .cells #[.int .u8 a0_0, .int .i64 a0_1, .bool a0_2, .bool a0_3] 60 (0, 0)) (by (with_reducible repeat (first | refine blk_drewN ?_ _ | refine blk_drew ?_ | refine blk_alloc ?_ _)); exact BK161.out) hb); have n1_ := Aside0.mk (below_step (by repeat (first | (with_reducible first | exact HB.out | apply below_alloc | apply pw_below_drewN | apply below_drew1 | refine below_set ?_ GE161.out) | exact HB.out)) hb); have n2_ := Aside0.mk (hbox); have n3_ := Aside0.mk ((by rw [hg]; exact (below_size (by repeat (first | (with_reducible first | exact HB.out | apply below_alloc | apply pw_below_drewN | apply below_drew1 | refine below_set ?_ GE161.out) | exact HB.out))) : w.heap.size ≤ gb162)); have n4_ := Aside0.mk ((by rw [hg]; exact (below_size (by repeat (first | (with_reducible first | exact HB.out | apply below_alloc | apply pw_below_drewN | apply below_drew1 | refine below_set ?_ GE161.out) | exact HB.out))) : w.heap.size ≤ gb162)); have n5_ := Aside0.mk ((by rw [hg]; exact Nat.ne_of_lt (blk_lt (g := gb161) (o := .cells #[.int .u8 a0_0, .int .i64 a0_1, .bool a0_2, .bool a0_3] 60 (0, 0)) (by (with_reducible repeat (first | refine blk_drewN ?_ _ | refine blk_drew ?_ | refine blk_alloc ?_ _)); exact BK161.out)) : gb161 ≠ gb162)); have n6_ := Aside0.mk ((by rw [hg]; exact Nat.ne_of_gt (blk_lt (g := gb161) (o := .cells #[.int .u8 a0_0, .int .i64 a0_1, .bool a0_2, .bool a0_3] 60 (0, 0)) (by (with_reducible repeat (first | refine blk_drewN ?_ _ | refine blk_drew ?_ | refine blk_alloc ?_ _)); exact BK161.out)) : gb162 ≠ gb161)); clear BK161; clear HB; have BK161 := n0_; have HB := n1_; have BK162 := n2_; have GW162 := n3_; have GE162 := n4_; have NB161_162 := n5_; have NB162_161 := n6_; clear n0_ n1_ n2_ n3_ n4_ n5_ n6_; clear hb hbox hg))
  (try simp only [Act.put, List.setIfInBounds_toArray, List.set_cons_zero, List.set_cons_succ])
  go_cut [27] (fun v27 wc => ∃ (kq : Nat) (x27_4 : Bool), v27 = .bool x27_4 ∧ Aside0 (incipitref13_fits.j0 kq a2 a3 x27_4 a0_0 a0_1 a0_2 a0_3 a1_0 a1_1 a1_2 a1_3 = some r) ∧ Aside0 (kq ≤ k) ∧ Aside0 (wc.heap[gb161]? = some (.cells #[.int .u8 a0_0, .int .i64 a0_1, .bool a0_2, .bool a0_3] 60 (0, 0))) ∧ Aside0 (wc.heap[gb162]? = some (.cells #[.int .u8 a1_0, .int .i64 a1_1, .bool a1_2, .bool a1_3] 60 (0, 0))) ∧ Aside0 (Below w.heap.size w wc))
  case first =>
    have H := HC5.out
    clear HC5
    by_cases c8 : a0_0 = a1_0
    · rw [if_pos c8] at H
      have c8b0 : (a0_0 == a1_0) = true := beq_iff_eq.mpr c8
      have c8b1 : (a0_0 != a1_0) = false := bne_eq_false_iff_eq.mpr c8
      clear c8
      (first | rw [c8b0] | (simp only [i64_w, i32_w]; rw [c8b0]) | skip)
      by_cases c9 : a0_2 = true
      · subst c9
        have H1 : (if a2 < 1 then (incipitref13_fits.j0 k a2 a3 true a0_0 a0_1 true a0_3 a1_0 a1_1 a1_2 a1_3) else (incipitref13_fits.j0 k a2 a3 (decide (a3 < 1)) a0_0 a0_1 true a0_3 a1_0 a1_1 a1_2 a1_3)) = some r := by rw [if_pos rfl] at H; exact H
        clear H
        have H := H1
        clear H1
        by_cases c10 : a2 < 1
        · rw [if_pos c10] at H
          have c10b0 : decide (a2 < 1) = true := decide_eq_true c10
          clear c10
          have H' := Aside0.mk H
          clear H
          have hnb11 := NB161_162.out
          have hnc11 := NB162_161.out
          have hcz12_0 : w7.cell? ⟨gb161, 0, none⟩ = some (.int .u8 a0_0) := (blk_cell BK161.out 0).trans rfl
          have hcz12_1 : w7.cell? ⟨gb161, 1, none⟩ = some (.int .i64 a0_1) := (blk_cell BK161.out 1).trans rfl
          have hcz12_2 : w7.cell? ⟨gb161, 2, none⟩ = some (.bool true) := (blk_cell BK161.out 2).trans rfl
          have hcz12_3 : w7.cell? ⟨gb161, 3, none⟩ = some (.bool a0_3) := (blk_cell BK161.out 3).trans rfl
          have hfz12_0 := blk_frozen BK161.out 0
          have hfz12_1 := blk_frozen BK161.out 1
          have hfz12_2 := blk_frozen BK161.out 2
          have hfz12_3 := blk_frozen BK161.out 3
          have hcz13_0 : w7.cell? ⟨gb162, 0, none⟩ = some (.int .u8 a1_0) := (blk_cell BK162.out 0).trans rfl
          have hcz13_1 : w7.cell? ⟨gb162, 1, none⟩ = some (.int .i64 a1_1) := (blk_cell BK162.out 1).trans rfl
          have hcz13_2 : w7.cell? ⟨gb162, 2, none⟩ = some (.bool a1_2) := (blk_cell BK162.out 2).trans rfl
          have hcz13_3 : w7.cell? ⟨gb162, 3, none⟩ = some (.bool a1_3) := (blk_cell BK162.out 3).trans rfl
          have hfz13_0 := blk_frozen BK162.out 0
          have hfz13_1 := blk_frozen BK162.out 1
          have hfz13_2 := blk_frozen BK162.out 2
          have hfz13_3 := blk_frozen BK162.out 3
          go_wp2
          go_meet
          case rel => exact ⟨_, (true), (by first | rfl | (simp; done) | (simp [*]; done)), H', ⟨by first | omega | exact Nat.le_refl _⟩, ⟨by (with_reducible repeat (first | refine blk_drewN ?_ _ | refine blk_drew ?_ | refine blk_alloc ?_ _)); exact BK161.out⟩, ⟨by (with_reducible repeat (first | refine blk_drewN ?_ _ | refine blk_drew ?_ | refine blk_alloc ?_ _)); exact BK162.out⟩, ⟨by repeat (first | (with_reducible first | exact HB.out | apply below_alloc | apply pw_below_drewN | apply below_drew1 | refine below_set ?_ GE161.out | refine below_set ?_ GE162.out) | exact HB.out)⟩⟩
        · rw [if_neg c10] at H
          have c10b0 : decide (a2 < 1) = false := decide_eq_false c10
          clear c10
          have H' := Aside0.mk H
          clear H
          have hnb14 := NB161_162.out
          have hnc14 := NB162_161.out
          have hcz15_0 : w7.cell? ⟨gb161, 0, none⟩ = some (.int .u8 a0_0) := (blk_cell BK161.out 0).trans rfl
          have hcz15_1 : w7.cell? ⟨gb161, 1, none⟩ = some (.int .i64 a0_1) := (blk_cell BK161.out 1).trans rfl
          have hcz15_2 : w7.cell? ⟨gb161, 2, none⟩ = some (.bool true) := (blk_cell BK161.out 2).trans rfl
          have hcz15_3 : w7.cell? ⟨gb161, 3, none⟩ = some (.bool a0_3) := (blk_cell BK161.out 3).trans rfl
          have hfz15_0 := blk_frozen BK161.out 0
          have hfz15_1 := blk_frozen BK161.out 1
          have hfz15_2 := blk_frozen BK161.out 2
          have hfz15_3 := blk_frozen BK161.out 3
          have hcz16_0 : w7.cell? ⟨gb162, 0, none⟩ = some (.int .u8 a1_0) := (blk_cell BK162.out 0).trans rfl
          have hcz16_1 : w7.cell? ⟨gb162, 1, none⟩ = some (.int .i64 a1_1) := (blk_cell BK162.out 1).trans rfl
          have hcz16_2 : w7.cell? ⟨gb162, 2, none⟩ = some (.bool a1_2) := (blk_cell BK162.out 2).trans rfl
          have hcz16_3 : w7.cell? ⟨gb162, 3, none⟩ = some (.bool a1_3) := (blk_cell BK162.out 3).trans rfl
          have hfz16_0 := blk_frozen BK162.out 0
          have hfz16_1 := blk_frozen BK162.out 1
          have hfz16_2 := blk_frozen BK162.out 2
          have hfz16_3 := blk_frozen BK162.out 3
          go_wp2
          go_meet
          case rel => exact ⟨_, (decide (a3 < 1)), (by first | rfl | (simp; done) | (simp [*]; done)), H', ⟨by first | omega | exact Nat.le_refl _⟩, ⟨by (with_reducible repeat (first | refine blk_drewN ?_ _ | refine blk_drew ?_ | refine blk_alloc ?_ _)); exact BK161.out⟩, ⟨by (with_reducible repeat (first | refine blk_drewN ?_ _ | refine blk_drew ?_ | refine blk_alloc ?_ _)); exact BK162.out⟩, ⟨by repeat (first | (with_reducible first | exact HB.out | apply below_alloc | apply pw_below_drewN | apply below_drew1 | refine below_set ?_ GE161.out | refine below_set ?_ GE162.out) | exact HB.out)⟩⟩
      · replace c9 := Bool.eq_false_iff.mpr c9
        subst c9
        have H1 : (incipitref13_fits.j0 k a2 a3 true a0_0 a0_1 false a0_3 a1_0 a1_1 a1_2 a1_3) = some r := by rw [if_neg (show ¬ (false = true) by decide)] at H; exact H
        clear H
        have H := H1
        clear H1
        have H' := Aside0.mk H
        clear H
        have hnb17 := NB161_162.out
        have hnc17 := NB162_161.out
        have hcz18_0 : w7.cell? ⟨gb161, 0, none⟩ = some (.int .u8 a0_0) := (blk_cell BK161.out 0).trans rfl
        have hcz18_1 : w7.cell? ⟨gb161, 1, none⟩ = some (.int .i64 a0_1) := (blk_cell BK161.out 1).trans rfl
        have hcz18_2 : w7.cell? ⟨gb161, 2, none⟩ = some (.bool false) := (blk_cell BK161.out 2).trans rfl
        have hcz18_3 : w7.cell? ⟨gb161, 3, none⟩ = some (.bool a0_3) := (blk_cell BK161.out 3).trans rfl
        have hfz18_0 := blk_frozen BK161.out 0
        have hfz18_1 := blk_frozen BK161.out 1
        have hfz18_2 := blk_frozen BK161.out 2
        have hfz18_3 := blk_frozen BK161.out 3
        have hcz19_0 : w7.cell? ⟨gb162, 0, none⟩ = some (.int .u8 a1_0) := (blk_cell BK162.out 0).trans rfl
        have hcz19_1 : w7.cell? ⟨gb162, 1, none⟩ = some (.int .i64 a1_1) := (blk_cell BK162.out 1).trans rfl
        have hcz19_2 : w7.cell? ⟨gb162, 2, none⟩ = some (.bool a1_2) := (blk_cell BK162.out 2).trans rfl
        have hcz19_3 : w7.cell? ⟨gb162, 3, none⟩ = some (.bool a1_3) := (blk_cell BK162.out 3).trans rfl
        have hfz19_0 := blk_frozen BK162.out 0
        have hfz19_1 := blk_frozen BK162.out 1
        have hfz19_2 := blk_frozen BK162.out 2
        have hfz19_3 := blk_frozen BK162.out 3
        go_wp2
        go_meet
        case rel => exact ⟨_, (true), (by first | rfl | (simp; done) | (simp [*]; done)), H', ⟨by first | omega | exact Nat.le_refl _⟩, ⟨by (with_reducible repeat (first | refine blk_drewN ?_ _ | refine blk_drew ?_ | refine blk_alloc ?_ _)); exact BK161.out⟩, ⟨by (with_reducible repeat (first | refine blk_drewN ?_ _ | refine blk_drew ?_ | refine blk_alloc ?_ _)); exact BK162.out⟩, ⟨by repeat (first | (with_reducible first | exact HB.out | apply below_alloc | apply pw_below_drewN | apply below_drew1 | refine below_set ?_ GE161.out | refine below_set ?_ GE162.out) | exact HB.out)⟩⟩
    · rw [if_neg c8] at H
      have c8b0 : (a0_0 == a1_0) = false := beq_eq_false_iff_ne.mpr c8
      have c8b1 : (a0_0 != a1_0) = true := bne_iff_ne.mpr c8
      (first | rw [c8b0] | (simp only [i64_w, i32_w]; rw [c8b0]) | skip)
      have H' := Aside0.mk H
      clear H
      have hnb20 := NB161_162.out
      have hnc20 := NB162_161.out
      have hcz21_0 : w7.cell? ⟨gb161, 0, none⟩ = some (.int .u8 a0_0) := (blk_cell BK161.out 0).trans rfl
      have hcz21_1 : w7.cell? ⟨gb161, 1, none⟩ = some (.int .i64 a0_1) := (blk_cell BK161.out 1).trans rfl
      have hcz21_2 : w7.cell? ⟨gb161, 2, none⟩ = some (.bool a0_2) := (blk_cell BK161.out 2).trans rfl
      have hcz21_3 : w7.cell? ⟨gb161, 3, none⟩ = some (.bool a0_3) := (blk_cell BK161.out 3).trans rfl
      have hfz21_0 := blk_frozen BK161.out 0
      have hfz21_1 := blk_frozen BK161.out 1
      have hfz21_2 := blk_frozen BK161.out 2
      have hfz21_3 := blk_frozen BK161.out 3
      have hcz22_0 : w7.cell? ⟨gb162, 0, none⟩ = some (.int .u8 a1_0) := (blk_cell BK162.out 0).trans rfl
      have hcz22_1 : w7.cell? ⟨gb162, 1, none⟩ = some (.int .i64 a1_1) := (blk_cell BK162.out 1).trans rfl
      have hcz22_2 : w7.cell? ⟨gb162, 2, none⟩ = some (.bool a1_2) := (blk_cell BK162.out 2).trans rfl
      have hcz22_3 : w7.cell? ⟨gb162, 3, none⟩ = some (.bool a1_3) := (blk_cell BK162.out 3).trans rfl
      have hfz22_0 := blk_frozen BK162.out 0
      have hfz22_1 := blk_frozen BK162.out 1
      have hfz22_2 := blk_frozen BK162.out 2
      have hfz22_3 := blk_frozen BK162.out 3
      go_wp2
      go_meet
      case rel => exact ⟨_, (true), (by first | rfl | (simp; done) | (simp [*]; done)), H', ⟨by first | omega | exact Nat.le_refl _⟩, ⟨by (with_reducible repeat (first | refine blk_drewN ?_ _ | refine blk_drew ?_ | refine blk_alloc ?_ _)); exact BK161.out⟩, ⟨by (with_reducible repeat (first | refine blk_drewN ?_ _ | refine blk_drew ?_ | refine blk_alloc ?_ _)); exact BK162.out⟩, ⟨by repeat (first | (with_reducible first | exact HB.out | apply below_alloc | apply pw_below_drewN | apply below_drew1 | refine below_set ?_ GE161.out | refine below_set ?_ GE162.out) | exact HB.out)⟩⟩
  case rest =>
    clear HC5
    try clear c1
    try clear c2
    try clear p2
    try clear c8
    try clear c8b0
    try clear c8b1
    try clear c9
    try clear c10
    try clear c10b0
    try clear c11
    try clear c14
    try clear c17
    try clear c20
    try clear hcz12_0
    try clear hcz12_1
    try clear hcz12_2
    try clear hcz12_3
    try clear hcz13_0
    try clear hcz13_1
    try clear hcz13_2
    try clear hcz13_3
    try clear hcz15_0
    try clear hcz15_1
    try clear hcz15_2
    try clear hcz15_3
    try clear hcz16_0
    try clear hcz16_1
    try clear hcz16_2
    try clear hcz16_3
    try clear hcz18_0
    try clear hcz18_1
    try clear hcz18_2
    try clear hcz18_3
    try clear hcz19_0
    try clear hcz19_1
    try clear hcz19_2
    try clear hcz19_3
    try clear hcz21_0
    try clear hcz21_1
    try clear hcz21_2
    try clear hcz21_3
    try clear hcz22_0
    try clear hcz22_1
    try clear hcz22_2
    try clear hcz22_3
    try clear hfz12_0
    try clear hfz12_1
    try clear hfz12_2
    try clear hfz12_3
    try clear hfz13_0
    try clear hfz13_1
    try clear hfz13_2
    try clear hfz13_3
    try clear hfz15_0
    try clear hfz15_1
    try clear hfz15_2
    try clear hfz15_3
    try clear hfz16_0
    try clear hfz16_1
    try clear hfz16_2
    try clear hfz16_3
    try clear hfz18_0
    try clear hfz18_1
    try clear hfz18_2
    try clear hfz18_3
    try clear hfz19_0
    try clear hfz19_1
    try clear hfz19_2
    try clear hfz19_3
    try clear hfz21_0
    try clear hfz21_1
    try clear hfz21_2
    try clear hfz21_3
    try clear hfz22_0
    try clear hfz22_1
    try clear hfz22_2
    try clear hfz22_3
    obtain ⟨kq, x27_4, rfl, HA, HJ4, BK161, BK162, HB⟩ := hcut
    cases kq with
    | zero => exact absurd HA.out (by simp [incipitref13_fits.j0])
    | succ kj4 =>
      have H := HA.out
      clear HA
      simp only [incipitref13_fits.j0] at H
      by_cases c23 : x27_4 = true
      · subst c23
        have H1 : (some false) = some r := by rw [if_pos rfl] at H; exact H
        clear H
        have H := H1
        clear H1
        obtain rfl := Option.some.inj H
        go_wp2
        go_ret
        exact ⟨by first | rfl | (simp [errW_none, errW_some] <;> rfl) | (simp [*, errW_none, errW_some] <;> rfl), by repeat (first | (with_reducible first | exact HB.out | apply below_alloc | apply pw_below_drewN | apply below_drew1 | refine below_set ?_ GE161.out | refine below_set ?_ GE162.out) | exact HB.out)⟩
      · replace c23 := Bool.eq_false_iff.mpr c23
        subst c23
        have H1 : (if a0_0 = 126 then (some (a2 == a3)) else (if a0_2 = true then (if a0_3 = true then (if (Int.tmod (wrap64 (a0_1 + a1_1)) 3) = 0 then (if (Int.tmod a0_1 3) = 0 then (some (!((Int.tmod a1_1 3) != 0))) else (some (!true))) else (some (!false))) else (if a1_2 = true then (if a1_3 = true then (if (Int.tmod (wrap64 (a0_1 + a1_1)) 3) = 0 then (if (Int.tmod a0_1 3) = 0 then (some (!((Int.tmod a1_1 3) != 0))) else (some (!true))) else (some (!false))) else (some (!false))) else (some (!false)))) else (if a1_2 = true then (if a1_3 = true then (if (Int.tmod (wrap64 (a0_1 + a1_1)) 3) = 0 then (if (Int.tmod a0_1 3) = 0 then (some (!((Int.tmod a1_1 3) != 0))) else (some (!true))) else (some (!false))) else (some (!false))) else (some (!false))))) = some r := by rw [if_neg (show ¬ (false = true) by decide)] at H; exact H
        clear H
        have H := H1
        clear H1
        by_cases c24 : a0_0 = 126
        · rw [if_pos c24] at H
          have c24b0 : (a0_0 == 126) = true := beq_iff_eq.mpr c24
          have c24b1 : (a0_0 != 126) = false := bne_eq_false_iff_eq.mpr c24
          clear c24
          obtain rfl := Option.some.inj H
          have hnb25 := NB161_162.out
          have hnc25 := NB162_161.out
          have hcz26_0 : wc.cell? ⟨gb161, 0, none⟩ = some (.int .u8 a0_0) := (blk_cell BK161.out 0).trans rfl
          have hcz26_1 : wc.cell? ⟨gb161, 1, none⟩ = some (.int .i64 a0_1) := (blk_cell BK161.out 1).trans rfl
          have hcz26_2 : wc.cell? ⟨gb161, 2, none⟩ = some (.bool a0_2) := (blk_cell BK161.out 2).trans rfl
          have hcz26_3 : wc.cell? ⟨gb161, 3, none⟩ = some (.bool a0_3) := (blk_cell BK161.out 3).trans rfl
          have hfz26_0 := blk_frozen BK161.out 0
          have hfz26_1 := blk_frozen BK161.out 1
          have hfz26_2 := blk_frozen BK161.out 2
          have hfz26_3 := blk_frozen BK161.out 3
          go_wp2
          go_ret
          exact ⟨by first | rfl | (simp [errW_none, errW_some] <;> rfl) | (simp [*, errW_none, errW_some] <;> rfl), by repeat (first | (with_reducible first | exact HB.out | apply below_alloc | apply pw_below_drewN | apply below_drew1 | refine below_set ?_ GE161.out | refine below_set ?_ GE162.out) | exact HB.out)⟩
        · rw [if_neg c24] at H
          have c24b0 : (a0_0 == 126) = false := beq_eq_false_iff_ne.mpr c24
          have c24b1 : (a0_0 != 126) = true := bne_iff_ne.mpr c24
          by_cases c27 : a0_2 = true
          · subst c27
            have H1 : (if a0_3 = true then (if (Int.tmod (wrap64 (a0_1 + a1_1)) 3) = 0 then (if (Int.tmod a0_1 3) = 0 then (some (!((Int.tmod a1_1 3) != 0))) else (some (!true))) else (some (!false))) else (if a1_2 = true then (if a1_3 = true then (if (Int.tmod (wrap64 (a0_1 + a1_1)) 3) = 0 then (if (Int.tmod a0_1 3) = 0 then (some (!((Int.tmod a1_1 3) != 0))) else (some (!true))) else (some (!false))) else (some (!false))) else (some (!false)))) = some r := by rw [if_pos rfl] at H; exact H
            clear H
            have H := H1
            clear H1
            by_cases c28 : a0_3 = true
            · subst c28
              have H1 : (if (Int.tmod (wrap64 (a0_1 + a1_1)) 3) = 0 then (if (Int.tmod a0_1 3) = 0 then (some (!((Int.tmod a1_1 3) != 0))) else (some (!true))) else (some (!false))) = some r := by rw [if_pos rfl] at H; exact H
              clear H
              have H := H1
              clear H1
              by_cases c29 : (Int.tmod (wrap64 (a0_1 + a1_1)) 3) = 0
              · rw [if_pos c29] at H
                have c29b0 : ((Int.tmod (wrap64 (a0_1 + a1_1)) 3) == 0) = true := beq_iff_eq.mpr c29
                have c29b1 : ((Int.tmod (wrap64 (a0_1 + a1_1)) 3) != 0) = false := bne_eq_false_iff_eq.mpr c29
                clear c29
                by_cases c30 : (Int.tmod a0_1 3) = 0
                · rw [if_pos c30] at H
                  have c30b0 : ((Int.tmod a0_1 3) == 0) = true := beq_iff_eq.mpr c30
                  have c30b1 : ((Int.tmod a0_1 3) != 0) = false := bne_eq_false_iff_eq.mpr c30
                  clear c30
                  obtain rfl := Option.some.inj H
                  have hnb31 := NB161_162.out
                  have hnc31 := NB162_161.out
                  have hcz32_0 : wc.cell? ⟨gb161, 0, none⟩ = some (.int .u8 a0_0) := (blk_cell BK161.out 0).trans rfl
                  have hcz32_1 : wc.cell? ⟨gb161, 1, none⟩ = some (.int .i64 a0_1) := (blk_cell BK161.out 1).trans rfl
                  have hcz32_2 : wc.cell? ⟨gb161, 2, none⟩ = some (.bool true) := (blk_cell BK161.out 2).trans rfl
                  have hcz32_3 : wc.cell? ⟨gb161, 3, none⟩ = some (.bool true) := (blk_cell BK161.out 3).trans rfl
                  have hfz32_0 := blk_frozen BK161.out 0
                  have hfz32_1 := blk_frozen BK161.out 1
                  have hfz32_2 := blk_frozen BK161.out 2
                  have hfz32_3 := blk_frozen BK161.out 3
                  have hcz33_0 : wc.cell? ⟨gb162, 0, none⟩ = some (.int .u8 a1_0) := (blk_cell BK162.out 0).trans rfl
                  have hcz33_1 : wc.cell? ⟨gb162, 1, none⟩ = some (.int .i64 a1_1) := (blk_cell BK162.out 1).trans rfl
                  have hcz33_2 : wc.cell? ⟨gb162, 2, none⟩ = some (.bool a1_2) := (blk_cell BK162.out 2).trans rfl
                  have hcz33_3 : wc.cell? ⟨gb162, 3, none⟩ = some (.bool a1_3) := (blk_cell BK162.out 3).trans rfl
                  have hfz33_0 := blk_frozen BK162.out 0
                  have hfz33_1 := blk_frozen BK162.out 1
                  have hfz33_2 := blk_frozen BK162.out 2
                  have hfz33_3 := blk_frozen BK162.out 3
                  go_wp2
                  go_ret
                  exact ⟨by first | rfl | (simp [errW_none, errW_some] <;> rfl) | (simp [*, errW_none, errW_some] <;> rfl), by repeat (first | (with_reducible first | exact HB.out | apply below_alloc | apply pw_below_drewN | apply below_drew1 | refine below_set ?_ GE161.out | refine below_set ?_ GE162.out) | exact HB.out)⟩
                · rw [if_neg c30] at H
                  have c30b0 : ((Int.tmod a0_1 3) == 0) = false := beq_eq_false_iff_ne.mpr c30
                  have c30b1 : ((Int.tmod a0_1 3) != 0) = true := bne_iff_ne.mpr c30
                  obtain rfl := Option.some.inj H
                  have hnb34 := NB161_162.out
                  have hnc34 := NB162_161.out
                  have hcz35_0 : wc.cell? ⟨gb161, 0, none⟩ = some (.int .u8 a0_0) := (blk_cell BK161.out 0).trans rfl
                  have hcz35_1 : wc.cell? ⟨gb161, 1, none⟩ = some (.int .i64 a0_1) := (blk_cell BK161.out 1).trans rfl
                  have hcz35_2 : wc.cell? ⟨gb161, 2, none⟩ = some (.bool true) := (blk_cell BK161.out 2).trans rfl
                  have hcz35_3 : wc.cell? ⟨gb161, 3, none⟩ = some (.bool true) := (blk_cell BK161.out 3).trans rfl
                  have hfz35_0 := blk_frozen BK161.out 0
                  have hfz35_1 := blk_frozen BK161.out 1
                  have hfz35_2 := blk_frozen BK161.out 2
                  have hfz35_3 := blk_frozen BK161.out 3
                  have hcz36_0 : wc.cell? ⟨gb162, 0, none⟩ = some (.int .u8 a1_0) := (blk_cell BK162.out 0).trans rfl
                  have hcz36_1 : wc.cell? ⟨gb162, 1, none⟩ = some (.int .i64 a1_1) := (blk_cell BK162.out 1).trans rfl
                  have hcz36_2 : wc.cell? ⟨gb162, 2, none⟩ = some (.bool a1_2) := (blk_cell BK162.out 2).trans rfl
                  have hcz36_3 : wc.cell? ⟨gb162, 3, none⟩ = some (.bool a1_3) := (blk_cell BK162.out 3).trans rfl
                  have hfz36_0 := blk_frozen BK162.out 0
                  have hfz36_1 := blk_frozen BK162.out 1
                  have hfz36_2 := blk_frozen BK162.out 2
                  have hfz36_3 := blk_frozen BK162.out 3
                  go_wp2
                  go_ret
                  exact ⟨by first | rfl | (simp [errW_none, errW_some] <;> rfl) | (simp [*, errW_none, errW_some] <;> rfl), by repeat (first | (with_reducible first | exact HB.out | apply below_alloc | apply pw_below_drewN | apply below_drew1 | refine below_set ?_ GE161.out | refine below_set ?_ GE162.out) | exact HB.out)⟩
              · rw [if_neg c29] at H
                have c29b0 : ((Int.tmod (wrap64 (a0_1 + a1_1)) 3) == 0) = false := beq_eq_false_iff_ne.mpr c29
                have c29b1 : ((Int.tmod (wrap64 (a0_1 + a1_1)) 3) != 0) = true := bne_iff_ne.mpr c29
                obtain rfl := Option.some.inj H
                have hnb37 := NB161_162.out
                have hnc37 := NB162_161.out
                have hcz38_0 : wc.cell? ⟨gb161, 0, none⟩ = some (.int .u8 a0_0) := (blk_cell BK161.out 0).trans rfl
                have hcz38_1 : wc.cell? ⟨gb161, 1, none⟩ = some (.int .i64 a0_1) := (blk_cell BK161.out 1).trans rfl
                have hcz38_2 : wc.cell? ⟨gb161, 2, none⟩ = some (.bool true) := (blk_cell BK161.out 2).trans rfl
                have hcz38_3 : wc.cell? ⟨gb161, 3, none⟩ = some (.bool true) := (blk_cell BK161.out 3).trans rfl
                have hfz38_0 := blk_frozen BK161.out 0
                have hfz38_1 := blk_frozen BK161.out 1
                have hfz38_2 := blk_frozen BK161.out 2
                have hfz38_3 := blk_frozen BK161.out 3
                have hcz39_0 : wc.cell? ⟨gb162, 0, none⟩ = some (.int .u8 a1_0) := (blk_cell BK162.out 0).trans rfl
                have hcz39_1 : wc.cell? ⟨gb162, 1, none⟩ = some (.int .i64 a1_1) := (blk_cell BK162.out 1).trans rfl
                have hcz39_2 : wc.cell? ⟨gb162, 2, none⟩ = some (.bool a1_2) := (blk_cell BK162.out 2).trans rfl
                have hcz39_3 : wc.cell? ⟨gb162, 3, none⟩ = some (.bool a1_3) := (blk_cell BK162.out 3).trans rfl
                have hfz39_0 := blk_frozen BK162.out 0
                have hfz39_1 := blk_frozen BK162.out 1
                have hfz39_2 := blk_frozen BK162.out 2
                have hfz39_3 := blk_frozen BK162.out 3
                go_wp2
                go_ret
                exact ⟨by first | rfl | (simp [errW_none, errW_some] <;> rfl) | (simp [*, errW_none, errW_some] <;> rfl), by repeat (first | (with_reducible first | exact HB.out | apply below_alloc | apply pw_below_drewN | apply below_drew1 | refine below_set ?_ GE161.out | refine below_set ?_ GE162.out) | exact HB.out)⟩
            · replace c28 := Bool.eq_false_iff.mpr c28
              subst c28
              have H1 : (if a1_2 = true then (if a1_3 = true then (if (Int.tmod (wrap64 (a0_1 + a1_1)) 3) = 0 then (if (Int.tmod a0_1 3) = 0 then (some (!((Int.tmod a1_1 3) != 0))) else (some (!true))) else (some (!false))) else (some (!false))) else (some (!false))) = some r := by rw [if_neg (show ¬ (false = true) by decide)] at H; exact H
              clear H
              have H := H1
              clear H1
              by_cases c40 : a1_2 = true
              · subst c40
                have H1 : (if a1_3 = true then (if (Int.tmod (wrap64 (a0_1 + a1_1)) 3) = 0 then (if (Int.tmod a0_1 3) = 0 then (some (!((Int.tmod a1_1 3) != 0))) else (some (!true))) else (some (!false))) else (some (!false))) = some r := by rw [if_pos rfl] at H; exact H
                clear H
                have H := H1
                clear H1
                by_cases c41 : a1_3 = true
                · subst c41
                  have H1 : (if (Int.tmod (wrap64 (a0_1 + a1_1)) 3) = 0 then (if (Int.tmod a0_1 3) = 0 then (some (!((Int.tmod a1_1 3) != 0))) else (some (!true))) else (some (!false))) = some r := by rw [if_pos rfl] at H; exact H
                  clear H
                  have H := H1
                  clear H1
                  by_cases c42 : (Int.tmod (wrap64 (a0_1 + a1_1)) 3) = 0
                  · rw [if_pos c42] at H
                    have c42b0 : ((Int.tmod (wrap64 (a0_1 + a1_1)) 3) == 0) = true := beq_iff_eq.mpr c42
                    have c42b1 : ((Int.tmod (wrap64 (a0_1 + a1_1)) 3) != 0) = false := bne_eq_false_iff_eq.mpr c42
                    clear c42
                    by_cases c43 : (Int.tmod a0_1 3) = 0
                    · rw [if_pos c43] at H
                      have c43b0 : ((Int.tmod a0_1 3) == 0) = true := beq_iff_eq.mpr c43
                      have c43b1 : ((Int.tmod a0_1 3) != 0) = false := bne_eq_false_iff_eq.mpr c43
                      clear c43
                      obtain rfl := Option.some.inj H
                      have hnb44 := NB161_162.out
                      have hnc44 := NB162_161.out
                      have hcz45_0 : wc.cell? ⟨gb161, 0, none⟩ = some (.int .u8 a0_0) := (blk_cell BK161.out 0).trans rfl
                      have hcz45_1 : wc.cell? ⟨gb161, 1, none⟩ = some (.int .i64 a0_1) := (blk_cell BK161.out 1).trans rfl
                      have hcz45_2 : wc.cell? ⟨gb161, 2, none⟩ = some (.bool true) := (blk_cell BK161.out 2).trans rfl
                      have hcz45_3 : wc.cell? ⟨gb161, 3, none⟩ = some (.bool false) := (blk_cell BK161.out 3).trans rfl
                      have hfz45_0 := blk_frozen BK161.out 0
                      have hfz45_1 := blk_frozen BK161.out 1
                      have hfz45_2 := blk_frozen BK161.out 2
                      have hfz45_3 := blk_frozen BK161.out 3
                      have hcz46_0 : wc.cell? ⟨gb162, 0, none⟩ = some (.int .u8 a1_0) := (blk_cell BK162.out 0).trans rfl
                      have hcz46_1 : wc.cell? ⟨gb162, 1, none⟩ = some (.int .i64 a1_1) := (blk_cell BK162.out 1).trans rfl
                      have hcz46_2 : wc.cell? ⟨gb162, 2, none⟩ = some (.bool true) := (blk_cell BK162.out 2).trans rfl
                      have hcz46_3 : wc.cell? ⟨gb162, 3, none⟩ = some (.bool true) := (blk_cell BK162.out 3).trans rfl
                      have hfz46_0 := blk_frozen BK162.out 0
                      have hfz46_1 := blk_frozen BK162.out 1
                      have hfz46_2 := blk_frozen BK162.out 2
                      have hfz46_3 := blk_frozen BK162.out 3
                      go_wp2
                      go_ret
                      exact ⟨by first | rfl | (simp [errW_none, errW_some] <;> rfl) | (simp [*, errW_none, errW_some] <;> rfl), by repeat (first | (with_reducible first | exact HB.out | apply below_alloc | apply pw_below_drewN | apply below_drew1 | refine below_set ?_ GE161.out | refine below_set ?_ GE162.out) | exact HB.out)⟩
                    · rw [if_neg c43] at H
                      have c43b0 : ((Int.tmod a0_1 3) == 0) = false := beq_eq_false_iff_ne.mpr c43
                      have c43b1 : ((Int.tmod a0_1 3) != 0) = true := bne_iff_ne.mpr c43
                      obtain rfl := Option.some.inj H
                      have hnb47 := NB161_162.out
                      have hnc47 := NB162_161.out
                      have hcz48_0 : wc.cell? ⟨gb161, 0, none⟩ = some (.int .u8 a0_0) := (blk_cell BK161.out 0).trans rfl
                      have hcz48_1 : wc.cell? ⟨gb161, 1, none⟩ = some (.int .i64 a0_1) := (blk_cell BK161.out 1).trans rfl
                      have hcz48_2 : wc.cell? ⟨gb161, 2, none⟩ = some (.bool true) := (blk_cell BK161.out 2).trans rfl
                      have hcz48_3 : wc.cell? ⟨gb161, 3, none⟩ = some (.bool false) := (blk_cell BK161.out 3).trans rfl
                      have hfz48_0 := blk_frozen BK161.out 0
                      have hfz48_1 := blk_frozen BK161.out 1
                      have hfz48_2 := blk_frozen BK161.out 2
                      have hfz48_3 := blk_frozen BK161.out 3
                      have hcz49_0 : wc.cell? ⟨gb162, 0, none⟩ = some (.int .u8 a1_0) := (blk_cell BK162.out 0).trans rfl
                      have hcz49_1 : wc.cell? ⟨gb162, 1, none⟩ = some (.int .i64 a1_1) := (blk_cell BK162.out 1).trans rfl
                      have hcz49_2 : wc.cell? ⟨gb162, 2, none⟩ = some (.bool true) := (blk_cell BK162.out 2).trans rfl
                      have hcz49_3 : wc.cell? ⟨gb162, 3, none⟩ = some (.bool true) := (blk_cell BK162.out 3).trans rfl
                      have hfz49_0 := blk_frozen BK162.out 0
                      have hfz49_1 := blk_frozen BK162.out 1
                      have hfz49_2 := blk_frozen BK162.out 2
                      have hfz49_3 := blk_frozen BK162.out 3
                      go_wp2
                      go_ret
                      exact ⟨by first | rfl | (simp [errW_none, errW_some] <;> rfl) | (simp [*, errW_none, errW_some] <;> rfl), by repeat (first | (with_reducible first | exact HB.out | apply below_alloc | apply pw_below_drewN | apply below_drew1 | refine below_set ?_ GE161.out | refine below_set ?_ GE162.out) | exact HB.out)⟩
                  · rw [if_neg c42] at H
                    have c42b0 : ((Int.tmod (wrap64 (a0_1 + a1_1)) 3) == 0) = false := beq_eq_false_iff_ne.mpr c42
                    have c42b1 : ((Int.tmod (wrap64 (a0_1 + a1_1)) 3) != 0) = true := bne_iff_ne.mpr c42
                    obtain rfl := Option.some.inj H
                    have hnb50 := NB161_162.out
                    have hnc50 := NB162_161.out
                    have hcz51_0 : wc.cell? ⟨gb161, 0, none⟩ = some (.int .u8 a0_0) := (blk_cell BK161.out 0).trans rfl
                    have hcz51_1 : wc.cell? ⟨gb161, 1, none⟩ = some (.int .i64 a0_1) := (blk_cell BK161.out 1).trans rfl
                    have hcz51_2 : wc.cell? ⟨gb161, 2, none⟩ = some (.bool true) := (blk_cell BK161.out 2).trans rfl
                    have hcz51_3 : wc.cell? ⟨gb161, 3, none⟩ = some (.bool false) := (blk_cell BK161.out 3).trans rfl
                    have hfz51_0 := blk_frozen BK161.out 0
                    have hfz51_1 := blk_frozen BK161.out 1
                    have hfz51_2 := blk_frozen BK161.out 2
                    have hfz51_3 := blk_frozen BK161.out 3
                    have hcz52_0 : wc.cell? ⟨gb162, 0, none⟩ = some (.int .u8 a1_0) := (blk_cell BK162.out 0).trans rfl
                    have hcz52_1 : wc.cell? ⟨gb162, 1, none⟩ = some (.int .i64 a1_1) := (blk_cell BK162.out 1).trans rfl
                    have hcz52_2 : wc.cell? ⟨gb162, 2, none⟩ = some (.bool true) := (blk_cell BK162.out 2).trans rfl
                    have hcz52_3 : wc.cell? ⟨gb162, 3, none⟩ = some (.bool true) := (blk_cell BK162.out 3).trans rfl
                    have hfz52_0 := blk_frozen BK162.out 0
                    have hfz52_1 := blk_frozen BK162.out 1
                    have hfz52_2 := blk_frozen BK162.out 2
                    have hfz52_3 := blk_frozen BK162.out 3
                    go_wp2
                    go_ret
                    exact ⟨by first | rfl | (simp [errW_none, errW_some] <;> rfl) | (simp [*, errW_none, errW_some] <;> rfl), by repeat (first | (with_reducible first | exact HB.out | apply below_alloc | apply pw_below_drewN | apply below_drew1 | refine below_set ?_ GE161.out | refine below_set ?_ GE162.out) | exact HB.out)⟩
                · replace c41 := Bool.eq_false_iff.mpr c41
                  subst c41
                  have H1 : (some (!false)) = some r := by rw [if_neg (show ¬ (false = true) by decide)] at H; exact H
                  clear H
                  have H := H1
                  clear H1
                  obtain rfl := Option.some.inj H
                  have hnb53 := NB161_162.out
                  have hnc53 := NB162_161.out
                  have hcz54_0 : wc.cell? ⟨gb161, 0, none⟩ = some (.int .u8 a0_0) := (blk_cell BK161.out 0).trans rfl
                  have hcz54_1 : wc.cell? ⟨gb161, 1, none⟩ = some (.int .i64 a0_1) := (blk_cell BK161.out 1).trans rfl
                  have hcz54_2 : wc.cell? ⟨gb161, 2, none⟩ = some (.bool true) := (blk_cell BK161.out 2).trans rfl
                  have hcz54_3 : wc.cell? ⟨gb161, 3, none⟩ = some (.bool false) := (blk_cell BK161.out 3).trans rfl
                  have hfz54_0 := blk_frozen BK161.out 0
                  have hfz54_1 := blk_frozen BK161.out 1
                  have hfz54_2 := blk_frozen BK161.out 2
                  have hfz54_3 := blk_frozen BK161.out 3
                  have hcz55_0 : wc.cell? ⟨gb162, 0, none⟩ = some (.int .u8 a1_0) := (blk_cell BK162.out 0).trans rfl
                  have hcz55_1 : wc.cell? ⟨gb162, 1, none⟩ = some (.int .i64 a1_1) := (blk_cell BK162.out 1).trans rfl
                  have hcz55_2 : wc.cell? ⟨gb162, 2, none⟩ = some (.bool true) := (blk_cell BK162.out 2).trans rfl
                  have hcz55_3 : wc.cell? ⟨gb162, 3, none⟩ = some (.bool false) := (blk_cell BK162.out 3).trans rfl
                  have hfz55_0 := blk_frozen BK162.out 0
                  have hfz55_1 := blk_frozen BK162.out 1
                  have hfz55_2 := blk_frozen BK162.out 2
                  have hfz55_3 := blk_frozen BK162.out 3
                  go_wp2
                  go_ret
                  exact ⟨by first | rfl | (simp [errW_none, errW_some] <;> rfl) | (simp [*, errW_none, errW_some] <;> rfl), by repeat (first | (with_reducible first | exact HB.out | apply below_alloc | apply pw_below_drewN | apply below_drew1 | refine below_set ?_ GE161.out | refine below_set ?_ GE162.out) | exact HB.out)⟩
              · replace c40 := Bool.eq_false_iff.mpr c40
                subst c40
                have H1 : (some (!false)) = some r := by rw [if_neg (show ¬ (false = true) by decide)] at H; exact H
                clear H
                have H := H1
                clear H1
                obtain rfl := Option.some.inj H
                have hnb56 := NB161_162.out
                have hnc56 := NB162_161.out
                have hcz57_0 : wc.cell? ⟨gb161, 0, none⟩ = some (.int .u8 a0_0) := (blk_cell BK161.out 0).trans rfl
                have hcz57_1 : wc.cell? ⟨gb161, 1, none⟩ = some (.int .i64 a0_1) := (blk_cell BK161.out 1).trans rfl
                have hcz57_2 : wc.cell? ⟨gb161, 2, none⟩ = some (.bool true) := (blk_cell BK161.out 2).trans rfl
                have hcz57_3 : wc.cell? ⟨gb161, 3, none⟩ = some (.bool false) := (blk_cell BK161.out 3).trans rfl
                have hfz57_0 := blk_frozen BK161.out 0
                have hfz57_1 := blk_frozen BK161.out 1
                have hfz57_2 := blk_frozen BK161.out 2
                have hfz57_3 := blk_frozen BK161.out 3
                have hcz58_0 : wc.cell? ⟨gb162, 0, none⟩ = some (.int .u8 a1_0) := (blk_cell BK162.out 0).trans rfl
                have hcz58_1 : wc.cell? ⟨gb162, 1, none⟩ = some (.int .i64 a1_1) := (blk_cell BK162.out 1).trans rfl
                have hcz58_2 : wc.cell? ⟨gb162, 2, none⟩ = some (.bool false) := (blk_cell BK162.out 2).trans rfl
                have hcz58_3 : wc.cell? ⟨gb162, 3, none⟩ = some (.bool a1_3) := (blk_cell BK162.out 3).trans rfl
                have hfz58_0 := blk_frozen BK162.out 0
                have hfz58_1 := blk_frozen BK162.out 1
                have hfz58_2 := blk_frozen BK162.out 2
                have hfz58_3 := blk_frozen BK162.out 3
                go_wp2
                go_ret
                exact ⟨by first | rfl | (simp [errW_none, errW_some] <;> rfl) | (simp [*, errW_none, errW_some] <;> rfl), by repeat (first | (with_reducible first | exact HB.out | apply below_alloc | apply pw_below_drewN | apply below_drew1 | refine below_set ?_ GE161.out | refine below_set ?_ GE162.out) | exact HB.out)⟩
          · replace c27 := Bool.eq_false_iff.mpr c27
            subst c27
            have H1 : (if a1_2 = true then (if a1_3 = true then (if (Int.tmod (wrap64 (a0_1 + a1_1)) 3) = 0 then (if (Int.tmod a0_1 3) = 0 then (some (!((Int.tmod a1_1 3) != 0))) else (some (!true))) else (some (!false))) else (some (!false))) else (some (!false))) = some r := by rw [if_neg (show ¬ (false = true) by decide)] at H; exact H
            clear H
            have H := H1
            clear H1
            by_cases c59 : a1_2 = true
            · subst c59
              have H1 : (if a1_3 = true then (if (Int.tmod (wrap64 (a0_1 + a1_1)) 3) = 0 then (if (Int.tmod a0_1 3) = 0 then (some (!((Int.tmod a1_1 3) != 0))) else (some (!true))) else (some (!false))) else (some (!false))) = some r := by rw [if_pos rfl] at H; exact H
              clear H
              have H := H1
              clear H1
              by_cases c60 : a1_3 = true
              · subst c60
                have H1 : (if (Int.tmod (wrap64 (a0_1 + a1_1)) 3) = 0 then (if (Int.tmod a0_1 3) = 0 then (some (!((Int.tmod a1_1 3) != 0))) else (some (!true))) else (some (!false))) = some r := by rw [if_pos rfl] at H; exact H
                clear H
                have H := H1
                clear H1
                by_cases c61 : (Int.tmod (wrap64 (a0_1 + a1_1)) 3) = 0
                · rw [if_pos c61] at H
                  have c61b0 : ((Int.tmod (wrap64 (a0_1 + a1_1)) 3) == 0) = true := beq_iff_eq.mpr c61
                  have c61b1 : ((Int.tmod (wrap64 (a0_1 + a1_1)) 3) != 0) = false := bne_eq_false_iff_eq.mpr c61
                  clear c61
                  by_cases c62 : (Int.tmod a0_1 3) = 0
                  · rw [if_pos c62] at H
                    have c62b0 : ((Int.tmod a0_1 3) == 0) = true := beq_iff_eq.mpr c62
                    have c62b1 : ((Int.tmod a0_1 3) != 0) = false := bne_eq_false_iff_eq.mpr c62
                    clear c62
                    obtain rfl := Option.some.inj H
                    have hnb63 := NB161_162.out
                    have hnc63 := NB162_161.out
                    have hcz64_0 : wc.cell? ⟨gb161, 0, none⟩ = some (.int .u8 a0_0) := (blk_cell BK161.out 0).trans rfl
                    have hcz64_1 : wc.cell? ⟨gb161, 1, none⟩ = some (.int .i64 a0_1) := (blk_cell BK161.out 1).trans rfl
                    have hcz64_2 : wc.cell? ⟨gb161, 2, none⟩ = some (.bool false) := (blk_cell BK161.out 2).trans rfl
                    have hcz64_3 : wc.cell? ⟨gb161, 3, none⟩ = some (.bool a0_3) := (blk_cell BK161.out 3).trans rfl
                    have hfz64_0 := blk_frozen BK161.out 0
                    have hfz64_1 := blk_frozen BK161.out 1
                    have hfz64_2 := blk_frozen BK161.out 2
                    have hfz64_3 := blk_frozen BK161.out 3
                    have hcz65_0 : wc.cell? ⟨gb162, 0, none⟩ = some (.int .u8 a1_0) := (blk_cell BK162.out 0).trans rfl
                    have hcz65_1 : wc.cell? ⟨gb162, 1, none⟩ = some (.int .i64 a1_1) := (blk_cell BK162.out 1).trans rfl
                    have hcz65_2 : wc.cell? ⟨gb162, 2, none⟩ = some (.bool true) := (blk_cell BK162.out 2).trans rfl
                    have hcz65_3 : wc.cell? ⟨gb162, 3, none⟩ = some (.bool true) := (blk_cell BK162.out 3).trans rfl
                    have hfz65_0 := blk_frozen BK162.out 0
                    have hfz65_1 := blk_frozen BK162.out 1
                    have hfz65_2 := blk_frozen BK162.out 2
                    have hfz65_3 := blk_frozen BK162.out 3
                    go_wp2
                    go_ret
                    exact ⟨by first | rfl | (simp [errW_none, errW_some] <;> rfl) | (simp [*, errW_none, errW_some] <;> rfl), by repeat (first | (with_reducible first | exact HB.out | apply below_alloc | apply pw_below_drewN | apply below_drew1 | refine below_set ?_ GE161.out | refine below_set ?_ GE162.out) | exact HB.out)⟩
                  · rw [if_neg c62] at H
                    have c62b0 : ((Int.tmod a0_1 3) == 0) = false := beq_eq_false_iff_ne.mpr c62
                    have c62b1 : ((Int.tmod a0_1 3) != 0) = true := bne_iff_ne.mpr c62
                    obtain rfl := Option.some.inj H
                    have hnb66 := NB161_162.out
                    have hnc66 := NB162_161.out
                    have hcz67_0 : wc.cell? ⟨gb161, 0, none⟩ = some (.int .u8 a0_0) := (blk_cell BK161.out 0).trans rfl
                    have hcz67_1 : wc.cell? ⟨gb161, 1, none⟩ = some (.int .i64 a0_1) := (blk_cell BK161.out 1).trans rfl
                    have hcz67_2 : wc.cell? ⟨gb161, 2, none⟩ = some (.bool false) := (blk_cell BK161.out 2).trans rfl
                    have hcz67_3 : wc.cell? ⟨gb161, 3, none⟩ = some (.bool a0_3) := (blk_cell BK161.out 3).trans rfl
                    have hfz67_0 := blk_frozen BK161.out 0
                    have hfz67_1 := blk_frozen BK161.out 1
                    have hfz67_2 := blk_frozen BK161.out 2
                    have hfz67_3 := blk_frozen BK161.out 3
                    have hcz68_0 : wc.cell? ⟨gb162, 0, none⟩ = some (.int .u8 a1_0) := (blk_cell BK162.out 0).trans rfl
                    have hcz68_1 : wc.cell? ⟨gb162, 1, none⟩ = some (.int .i64 a1_1) := (blk_cell BK162.out 1).trans rfl
                    have hcz68_2 : wc.cell? ⟨gb162, 2, none⟩ = some (.bool true) := (blk_cell BK162.out 2).trans rfl
                    have hcz68_3 : wc.cell? ⟨gb162, 3, none⟩ = some (.bool true) := (blk_cell BK162.out 3).trans rfl
                    have hfz68_0 := blk_frozen BK162.out 0
                    have hfz68_1 := blk_frozen BK162.out 1
                    have hfz68_2 := blk_frozen BK162.out 2
                    have hfz68_3 := blk_frozen BK162.out 3
                    go_wp2
                    go_ret
                    exact ⟨by first | rfl | (simp [errW_none, errW_some] <;> rfl) | (simp [*, errW_none, errW_some] <;> rfl), by repeat (first | (with_reducible first | exact HB.out | apply below_alloc | apply pw_below_drewN | apply below_drew1 | refine below_set ?_ GE161.out | refine below_set ?_ GE162.out) | exact HB.out)⟩
                · rw [if_neg c61] at H
                  have c61b0 : ((Int.tmod (wrap64 (a0_1 + a1_1)) 3) == 0) = false := beq_eq_false_iff_ne.mpr c61
                  have c61b1 : ((Int.tmod (wrap64 (a0_1 + a1_1)) 3) != 0) = true := bne_iff_ne.mpr c61
                  obtain rfl := Option.some.inj H
                  have hnb69 := NB161_162.out
                  have hnc69 := NB162_161.out
                  have hcz70_0 : wc.cell? ⟨gb161, 0, none⟩ = some (.int .u8 a0_0) := (blk_cell BK161.out 0).trans rfl
                  have hcz70_1 : wc.cell? ⟨gb161, 1, none⟩ = some (.int .i64 a0_1) := (blk_cell BK161.out 1).trans rfl
                  have hcz70_2 : wc.cell? ⟨gb161, 2, none⟩ = some (.bool false) := (blk_cell BK161.out 2).trans rfl
                  have hcz70_3 : wc.cell? ⟨gb161, 3, none⟩ = some (.bool a0_3) := (blk_cell BK161.out 3).trans rfl
                  have hfz70_0 := blk_frozen BK161.out 0
                  have hfz70_1 := blk_frozen BK161.out 1
                  have hfz70_2 := blk_frozen BK161.out 2
                  have hfz70_3 := blk_frozen BK161.out 3
                  have hcz71_0 : wc.cell? ⟨gb162, 0, none⟩ = some (.int .u8 a1_0) := (blk_cell BK162.out 0).trans rfl
                  have hcz71_1 : wc.cell? ⟨gb162, 1, none⟩ = some (.int .i64 a1_1) := (blk_cell BK162.out 1).trans rfl
                  have hcz71_2 : wc.cell? ⟨gb162, 2, none⟩ = some (.bool true) := (blk_cell BK162.out 2).trans rfl
                  have hcz71_3 : wc.cell? ⟨gb162, 3, none⟩ = some (.bool true) := (blk_cell BK162.out 3).trans rfl
                  have hfz71_0 := blk_frozen BK162.out 0
                  have hfz71_1 := blk_frozen BK162.out 1
                  have hfz71_2 := blk_frozen BK162.out 2
                  have hfz71_3 := blk_frozen BK162.out 3
                  go_wp2
                  go_ret
                  exact ⟨by first | rfl | (simp [errW_none, errW_some] <;> rfl) | (simp [*, errW_none, errW_some] <;> rfl), by repeat (first | (with_reducible first | exact HB.out | apply below_alloc | apply pw_below_drewN | apply below_drew1 | refine below_set ?_ GE161.out | refine below_set ?_ GE162.out) | exact HB.out)⟩
              · replace c60 := Bool.eq_false_iff.mpr c60
                subst c60
                have H1 : (some (!false)) = some r := by rw [if_neg (show ¬ (false = true) by decide)] at H; exact H
                clear H
                have H := H1
                clear H1
                obtain rfl := Option.some.inj H
                have hnb72 := NB161_162.out
                have hnc72 := NB162_161.out
                have hcz73_0 : wc.cell? ⟨gb161, 0, none⟩ = some (.int .u8 a0_0) := (blk_cell BK161.out 0).trans rfl
                have hcz73_1 : wc.cell? ⟨gb161, 1, none⟩ = some (.int .i64 a0_1) := (blk_cell BK161.out 1).trans rfl
                have hcz73_2 : wc.cell? ⟨gb161, 2, none⟩ = some (.bool false) := (blk_cell BK161.out 2).trans rfl
                have hcz73_3 : wc.cell? ⟨gb161, 3, none⟩ = some (.bool a0_3) := (blk_cell BK161.out 3).trans rfl
                have hfz73_0 := blk_frozen BK161.out 0
                have hfz73_1 := blk_frozen BK161.out 1
                have hfz73_2 := blk_frozen BK161.out 2
                have hfz73_3 := blk_frozen BK161.out 3
                have hcz74_0 : wc.cell? ⟨gb162, 0, none⟩ = some (.int .u8 a1_0) := (blk_cell BK162.out 0).trans rfl
                have hcz74_1 : wc.cell? ⟨gb162, 1, none⟩ = some (.int .i64 a1_1) := (blk_cell BK162.out 1).trans rfl
                have hcz74_2 : wc.cell? ⟨gb162, 2, none⟩ = some (.bool true) := (blk_cell BK162.out 2).trans rfl
                have hcz74_3 : wc.cell? ⟨gb162, 3, none⟩ = some (.bool false) := (blk_cell BK162.out 3).trans rfl
                have hfz74_0 := blk_frozen BK162.out 0
                have hfz74_1 := blk_frozen BK162.out 1
                have hfz74_2 := blk_frozen BK162.out 2
                have hfz74_3 := blk_frozen BK162.out 3
                go_wp2
                go_ret
                exact ⟨by first | rfl | (simp [errW_none, errW_some] <;> rfl) | (simp [*, errW_none, errW_some] <;> rfl), by repeat (first | (with_reducible first | exact HB.out | apply below_alloc | apply pw_below_drewN | apply below_drew1 | refine below_set ?_ GE161.out | refine below_set ?_ GE162.out) | exact HB.out)⟩
            · replace c59 := Bool.eq_false_iff.mpr c59
              subst c59
              have H1 : (some (!false)) = some r := by rw [if_neg (show ¬ (false = true) by decide)] at H; exact H
              clear H
              have H := H1
              clear H1
              obtain rfl := Option.some.inj H
              have hnb75 := NB161_162.out
              have hnc75 := NB162_161.out
              have hcz76_0 : wc.cell? ⟨gb161, 0, none⟩ = some (.int .u8 a0_0) := (blk_cell BK161.out 0).trans rfl
              have hcz76_1 : wc.cell? ⟨gb161, 1, none⟩ = some (.int .i64 a0_1) := (blk_cell BK161.out 1).trans rfl
              have hcz76_2 : wc.cell? ⟨gb161, 2, none⟩ = some (.bool false) := (blk_cell BK161.out 2).trans rfl
              have hcz76_3 : wc.cell? ⟨gb161, 3, none⟩ = some (.bool a0_3) := (blk_cell BK161.out 3).trans rfl
              have hfz76_0 := blk_frozen BK161.out 0
              have hfz76_1 := blk_frozen BK161.out 1
              have hfz76_2 := blk_frozen BK161.out 2
              have hfz76_3 := blk_frozen BK161.out 3
              have hcz77_0 : wc.cell? ⟨gb162, 0, none⟩ = some (.int .u8 a1_0) := (blk_cell BK162.out 0).trans rfl
              have hcz77_1 : wc.cell? ⟨gb162, 1, none⟩ = some (.int .i64 a1_1) := (blk_cell BK162.out 1).trans rfl
              have hcz77_2 : wc.cell? ⟨gb162, 2, none⟩ = some (.bool false) := (blk_cell BK162.out 2).trans rfl
              have hcz77_3 : wc.cell? ⟨gb162, 3, none⟩ = some (.bool a1_3) := (blk_cell BK162.out 3).trans rfl
              have hfz77_0 := blk_frozen BK162.out 0
              have hfz77_1 := blk_frozen BK162.out 1
              have hfz77_2 := blk_frozen BK162.out 2
              have hfz77_3 := blk_frozen BK162.out 3
              go_wp2
              go_ret
              exact ⟨by first | rfl | (simp [errW_none, errW_some] <;> rfl) | (simp [*, errW_none, errW_some] <;> rfl), by repeat (first | (with_reducible first | exact HB.out | apply below_alloc | apply pw_below_drewN | apply below_drew1 | refine below_set ?_ GE161.out | refine below_set ?_ GE162.out) | exact HB.out)⟩

end Go.Proofs.Ytclondmclehiiaa.P
