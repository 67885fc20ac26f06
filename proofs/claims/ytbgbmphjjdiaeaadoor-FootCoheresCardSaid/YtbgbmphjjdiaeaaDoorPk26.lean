/- Functions of the seat as plain Lean functions, and proofs that the Go code comes to them; laid by wip/handprint.py over the kit's printer. -/
import Derived.Test.YtbgbmphjjdiaeaaDoorPk0
import Derived.Test.YtbgbmphjjdiaeaaDoorClean
import Derived.Test.YtbgbmphjjdiaeaaDoorFootS
import Derived.Test.YtbgbmphjjdiaeaaDoorPk1
import Derived.Test.YtbgbmphjjdiaeaaDoorPk24
namespace Go.Proofs.YtbgbmphjjdiaeaaDoor.P
open Go.RowKit Go.Proofs.YtbgbmphjjdiaeaaDoorW.PrintWords Go.Proofs.YtbgbmphjjdiaeaaDoorW.PrintLast Go.Proofs.YtbgbmphjjdiaeaaDoorW.PrintMore
attribute [local go_sem] max2_int min2_int max_two min_two max_three min_three max_four min_four   -- for this text's walks alone
set_option linter.unusedVariables false
set_option linter.unusedSimpArgs false

/-! ### incipitlaw18_FootCoheres: function 16 -/
mutual
def incipitlaw18_FootCoheres.l0 : Nat → Bool → List (S24) → List (S24) → List (S24) → Int → Int → Option (Bool)
  | 0, _, _, _, _, _, _ => none
  | k + 1, x3, x4, x5, x6, x7, x8 => if x8 < (x5.length : Int) then (if 0 ≤ x8 then (if ((rd_T24 x5 x8).f0) = 13 then (if ((rd_T24 x5 x8).f3) = (wrap64 (x8 + 1)) then (if ((rd_T24 x5 x8).f4) < 1 then (none) else ((incipitlaw18_notes.f k ((rd_T24 x5 x8).f6)).bind fun t536 => (if t536 > 0 then (none) else ((incipitlaw18_refs.f k ((rd_T24 x5 x8).f6)).bind fun t538 => (if x6.length + t538.length < 1599289640401 then (incipitlaw18_FootCoheres.l0 k x3 x4 x5 (x6 ++ t538) x7 (wrap64 (x8 + 1))) else (none)))))) else (none)) else (none)) else (none)) else (if 0 ≤ (wrap64 ((x5.length : Int) + 1)) then (if (wrap64 ((x5.length : Int) + 1) : Int).toNat ≤ 35184372088832 then (incipitlaw18_FootCoheres.l1 k x3 x4 x5 x6 x7 (List.replicate (wrap64 ((x5.length : Int) + 1) : Int).toNat 0) 0) else (none)) else (none))
def incipitlaw18_FootCoheres.l1 : Nat → Bool → List (S24) → List (S24) → List (S24) → Int → List Int → Int → Option (Bool)
  | 0, _, _, _, _, _, _, _ => none
  | k + 1, x3, x4, x5, x6, x7, x9, x10 => if x10 < (x6.length : Int) then (if 0 ≤ x10 then (if ((rd_T24 x6 x10).f3) < 1 then (incipitlaw18_FootCoheres.j2 k x3 x4 x5 x6 x7 x9 x10 true) else (if ((rd_T24 x6 x10).f3) > (x5.length : Int) then (incipitlaw18_FootCoheres.j2 k x3 x4 x5 x6 x7 x9 x10 true) else (if ((rd_T24 x6 x10).f3) > (wrap64 (x7 + 1)) then (incipitlaw18_FootCoheres.j2 k x3 x4 x5 x6 x7 x9 x10 true) else (if 0 ≤ (wrap64 (((rd_T24 x6 x10).f3) - 1)) then (if (wrap64 (((rd_T24 x6 x10).f3) - 1)) < (x5.length : Int) then (incipitlaw18_FootCoheres.j2 k x3 x4 x5 x6 x7 x9 x10 (((rd_T24 x5 (wrap64 (((rd_T24 x6 x10).f3) - 1))).f1).toList != ((rd_T24 x6 x10).f1).toList)) else (none)) else (none))))) else (none)) else (incipitlaw18_FootCoheres.l2 k x3 x4 x5 x7 x9 0)
def incipitlaw18_FootCoheres.j2 : Nat → Bool → List (S24) → List (S24) → List (S24) → Int → List Int → Int → Bool → Option (Bool)
  | 0, _, _, _, _, _, _, _, _ => none
  | k + 1, x3, x4, x5, x6, x7, x9, x10, x125 => if x125 = true then (none) else (if 0 ≤ x10 then (if x10 < (x6.length : Int) then (if 0 ≤ ((rd_T24 x6 x10).f3) then (if ((rd_T24 x6 x10).f3) < (x9.length : Int) then ((some (x9.set (((rd_T24 x6 x10).f3) : Int).toNat (wrap64 ((rd x9 ((rd_T24 x6 x10).f3)) + 1)) : List Int)).bind fun y556 => (if ((rd_T24 x6 x10).f4) = (rd y556 ((rd_T24 x6 x10).f3)) then (incipitlaw18_FootCoheres.l1 k x3 x4 x5 x6 (mx x7 ((rd_T24 x6 x10).f3)) y556 (wrap64 (x10 + 1))) else (none))) else (none)) else (none)) else (none)) else (none))
def incipitlaw18_FootCoheres.l2 : Nat → Bool → List (S24) → List (S24) → Int → List Int → Int → Option (Bool)
  | 0, _, _, _, _, _, _ => none
  | k + 1, x3, x4, x5, x7, x9, x11 => if x11 < (x5.length : Int) then (if 0 ≤ x11 then (if 0 ≤ (wrap64 (x11 + 1)) then (if (wrap64 (x11 + 1)) < (x9.length : Int) then (if ((rd_T24 x5 x11).f4) = (rd x9 (wrap64 (x11 + 1))) then (incipitlaw18_FootCoheres.l2 k x3 x4 x5 x7 x9 (wrap64 (x11 + 1))) else (none)) else (none)) else (none)) else (none)) else (if x3 = true then ((incipitlaw18_notes.f k x4).bind fun t562 => (if t562 = 0 then (some (x7 == (x5.length : Int))) else (none))) else (none))
end
def incipitlaw18_FootCoheres.f (k : Nat) (a0_0 : Int) (a0_1 : ByteArray) (a0_2 : ByteArray) (a0_3 : Int) (a0_4 : Int) (a0_5 : Bool) (l0_6 : List (S24)) : Option (Bool) := (incipitlaw18_awake.f k).bind fun t521 => ((incipitref06_Few.f k a0_0 a0_1 a0_2 a0_3 a0_4 a0_5 l0_6 1500).bind fun t522 => (if t522 = true then ((foot_Number.f k l0_6).bind fun bt523 => ((incipitlaw18_refs.f k bt523.1).bind fun t529 => (incipitlaw18_FootCoheres.l0 k t521 bt523.1 bt523.2 t529 0 0))) else (some t521)))
theorem incipitlaw18_FootCoheres.mono_l : ∀ k, (∀ y0 y1 y2 y3 y4 y5, LeO (incipitlaw18_FootCoheres.l0 k y0 y1 y2 y3 y4 y5) (incipitlaw18_FootCoheres.l0 (k + 1) y0 y1 y2 y3 y4 y5)) ∧ (∀ y0 y1 y2 y3 y4 y5 y6, LeO (incipitlaw18_FootCoheres.l1 k y0 y1 y2 y3 y4 y5 y6) (incipitlaw18_FootCoheres.l1 (k + 1) y0 y1 y2 y3 y4 y5 y6)) ∧ (∀ y0 y1 y2 y3 y4 y5 y6 y7, LeO (incipitlaw18_FootCoheres.j2 k y0 y1 y2 y3 y4 y5 y6 y7) (incipitlaw18_FootCoheres.j2 (k + 1) y0 y1 y2 y3 y4 y5 y6 y7)) ∧ (∀ y0 y1 y2 y3 y4 y5, LeO (incipitlaw18_FootCoheres.l2 k y0 y1 y2 y3 y4 y5) (incipitlaw18_FootCoheres.l2 (k + 1) y0 y1 y2 y3 y4 y5))
  | 0 => ⟨fun _ _ _ _ _ _ r h => by simp [incipitlaw18_FootCoheres.l0] at h, fun _ _ _ _ _ _ _ r h => by simp [incipitlaw18_FootCoheres.l1] at h, fun _ _ _ _ _ _ _ _ r h => by simp [incipitlaw18_FootCoheres.j2] at h, fun _ _ _ _ _ _ r h => by simp [incipitlaw18_FootCoheres.l2] at h⟩
  | k + 1 => by
    obtain ⟨ih0, ih1, ih2, ih3⟩ := incipitlaw18_FootCoheres.mono_l k
    refine ⟨?_, ?_, ?_, ?_⟩
    · intro y0 y1 y2 y3 y4 y5
      unfold incipitlaw18_FootCoheres.l0
      repeat' first
      | (with_reducible exact ih0 _ _ _ _ _ _)
      | (with_reducible exact ih1 _ _ _ _ _ _ _)
      | (with_reducible exact ih2 _ _ _ _ _ _ _ _)
      | (with_reducible exact ih3 _ _ _ _ _ _)
      | (with_reducible exact foot_Number.mono _ _)
      | (with_reducible exact incipitlaw18_awake.mono _)
      | (with_reducible exact incipitlaw18_notes.mono _ _)
      | (with_reducible exact incipitlaw18_refs.mono _ _)
      | (with_reducible exact incipitref06_Few.mono _ _ _ _ _ _ _ _ _)
      | (with_reducible exact LeO.refl _)
      | (with_reducible exact LeO.none _)
      | (with_reducible refine LeO.ite ?_ ?_)
      | (with_reducible refine LeO.bind ?_ (fun _ => ?_))
      | exact ih0 _ _ _ _ _ _
      | exact ih1 _ _ _ _ _ _ _
      | exact ih2 _ _ _ _ _ _ _ _
      | exact ih3 _ _ _ _ _ _
      | exact foot_Number.mono _ _
      | exact incipitlaw18_awake.mono _
      | exact incipitlaw18_notes.mono _ _
      | exact incipitlaw18_refs.mono _ _
      | exact incipitref06_Few.mono _ _ _ _ _ _ _ _ _
      | exact LeO.none _
      | refine LeO.ite ?_ ?_
      | refine LeO.bind ?_ (fun _ => ?_)
    · intro y0 y1 y2 y3 y4 y5 y6
      unfold incipitlaw18_FootCoheres.l1
      repeat' first
      | (with_reducible exact ih0 _ _ _ _ _ _)
      | (with_reducible exact ih1 _ _ _ _ _ _ _)
      | (with_reducible exact ih2 _ _ _ _ _ _ _ _)
      | (with_reducible exact ih3 _ _ _ _ _ _)
      | (with_reducible exact foot_Number.mono _ _)
      | (with_reducible exact incipitlaw18_awake.mono _)
      | (with_reducible exact incipitlaw18_notes.mono _ _)
      | (with_reducible exact incipitlaw18_refs.mono _ _)
      | (with_reducible exact incipitref06_Few.mono _ _ _ _ _ _ _ _ _)
      | (with_reducible exact LeO.refl _)
      | (with_reducible exact LeO.none _)
      | (with_reducible refine LeO.ite ?_ ?_)
      | (with_reducible refine LeO.bind ?_ (fun _ => ?_))
      | exact ih0 _ _ _ _ _ _
      | exact ih1 _ _ _ _ _ _ _
      | exact ih2 _ _ _ _ _ _ _ _
      | exact ih3 _ _ _ _ _ _
      | exact foot_Number.mono _ _
      | exact incipitlaw18_awake.mono _
      | exact incipitlaw18_notes.mono _ _
      | exact incipitlaw18_refs.mono _ _
      | exact incipitref06_Few.mono _ _ _ _ _ _ _ _ _
      | exact LeO.none _
      | refine LeO.ite ?_ ?_
      | refine LeO.bind ?_ (fun _ => ?_)
    · intro y0 y1 y2 y3 y4 y5 y6 y7
      unfold incipitlaw18_FootCoheres.j2
      repeat' first
      | (with_reducible exact ih0 _ _ _ _ _ _)
      | (with_reducible exact ih1 _ _ _ _ _ _ _)
      | (with_reducible exact ih2 _ _ _ _ _ _ _ _)
      | (with_reducible exact ih3 _ _ _ _ _ _)
      | (with_reducible exact foot_Number.mono _ _)
      | (with_reducible exact incipitlaw18_awake.mono _)
      | (with_reducible exact incipitlaw18_notes.mono _ _)
      | (with_reducible exact incipitlaw18_refs.mono _ _)
      | (with_reducible exact incipitref06_Few.mono _ _ _ _ _ _ _ _ _)
      | (with_reducible exact LeO.refl _)
      | (with_reducible exact LeO.none _)
      | (with_reducible refine LeO.ite ?_ ?_)
      | (with_reducible refine LeO.bind ?_ (fun _ => ?_))
      | exact ih0 _ _ _ _ _ _
      | exact ih1 _ _ _ _ _ _ _
      | exact ih2 _ _ _ _ _ _ _ _
      | exact ih3 _ _ _ _ _ _
      | exact foot_Number.mono _ _
      | exact incipitlaw18_awake.mono _
      | exact incipitlaw18_notes.mono _ _
      | exact incipitlaw18_refs.mono _ _
      | exact incipitref06_Few.mono _ _ _ _ _ _ _ _ _
      | exact LeO.none _
      | refine LeO.ite ?_ ?_
      | refine LeO.bind ?_ (fun _ => ?_)
    · intro y0 y1 y2 y3 y4 y5
      unfold incipitlaw18_FootCoheres.l2
      repeat' first
      | (with_reducible exact ih0 _ _ _ _ _ _)
      | (with_reducible exact ih1 _ _ _ _ _ _ _)
      | (with_reducible exact ih2 _ _ _ _ _ _ _ _)
      | (with_reducible exact ih3 _ _ _ _ _ _)
      | (with_reducible exact foot_Number.mono _ _)
      | (with_reducible exact incipitlaw18_awake.mono _)
      | (with_reducible exact incipitlaw18_notes.mono _ _)
      | (with_reducible exact incipitlaw18_refs.mono _ _)
      | (with_reducible exact incipitref06_Few.mono _ _ _ _ _ _ _ _ _)
      | (with_reducible exact LeO.refl _)
      | (with_reducible exact LeO.none _)
      | (with_reducible refine LeO.ite ?_ ?_)
      | (with_reducible refine LeO.bind ?_ (fun _ => ?_))
      | exact ih0 _ _ _ _ _ _
      | exact ih1 _ _ _ _ _ _ _
      | exact ih2 _ _ _ _ _ _ _ _
      | exact ih3 _ _ _ _ _ _
      | exact foot_Number.mono _ _
      | exact incipitlaw18_awake.mono _
      | exact incipitlaw18_notes.mono _ _
      | exact incipitlaw18_refs.mono _ _
      | exact incipitref06_Few.mono _ _ _ _ _ _ _ _ _
      | exact LeO.none _
      | refine LeO.ite ?_ ?_
      | refine LeO.bind ?_ (fun _ => ?_)
theorem incipitlaw18_FootCoheres.mono : ∀ a0 a1 a2 a3 a4 a5 a6 k, LeO (incipitlaw18_FootCoheres.f k a0 a1 a2 a3 a4 a5 a6) (incipitlaw18_FootCoheres.f (k + 1) a0 a1 a2 a3 a4 a5 a6) := by
  intro a0 a1 a2 a3 a4 a5 a6 k
  obtain ⟨ih0, ih1, ih2, ih3⟩ := incipitlaw18_FootCoheres.mono_l k
  unfold incipitlaw18_FootCoheres.f
  repeat' first
      | (with_reducible exact ih0 _ _ _ _ _ _)
      | (with_reducible exact ih1 _ _ _ _ _ _ _)
      | (with_reducible exact ih2 _ _ _ _ _ _ _ _)
      | (with_reducible exact ih3 _ _ _ _ _ _)
      | (with_reducible exact foot_Number.mono _ _)
      | (with_reducible exact incipitlaw18_awake.mono _)
      | (with_reducible exact incipitlaw18_notes.mono _ _)
      | (with_reducible exact incipitlaw18_refs.mono _ _)
      | (with_reducible exact incipitref06_Few.mono _ _ _ _ _ _ _ _ _)
      | (with_reducible exact LeO.refl _)
      | (with_reducible exact LeO.none _)
      | (with_reducible refine LeO.ite ?_ ?_)
      | (with_reducible refine LeO.bind ?_ (fun _ => ?_))
      | exact ih0 _ _ _ _ _ _
      | exact ih1 _ _ _ _ _ _ _
      | exact ih2 _ _ _ _ _ _ _ _
      | exact ih3 _ _ _ _ _ _
      | exact foot_Number.mono _ _
      | exact incipitlaw18_awake.mono _
      | exact incipitlaw18_notes.mono _ _
      | exact incipitlaw18_refs.mono _ _
      | exact incipitref06_Few.mono _ _ _ _ _ _ _ _ _
      | exact LeO.none _
      | refine LeO.ite ?_ ?_
      | refine LeO.bind ?_ (fun _ => ?_)
set_option maxHeartbeats 8000000 in
set_option maxRecDepth 100000 in
theorem incipitlaw18_FootCoheres.calls (k : Nat) (a0_0 : Int) (a0_1 : ByteArray) (a0_2 : ByteArray) (a0_3 : Int) (a0_4 : Int) (a0_5 : Bool) (A0_6 : Option Addr) (c0_6 : Nat) (l0_6 : List (S24)) (r : Bool) (w : World) (hr0_6 : Kd.C k24 w A0_6 l0_6.length l0_6) (hc0_6 : l0_6.length ≤ c0_6) (h : incipitlaw18_FootCoheres.f k a0_0 a0_1 a0_2 a0_3 a0_4 a0_5 l0_6 = some r) (hT : Tabs w) :
    Calls Tryd.prog 16 #[.agg #[.int .i64 a0_0, .string a0_1, .string a0_2, .int .i64 a0_3, .int .i64 a0_4, .bool a0_5, .slice A0_6 l0_6.length c0_6]] w fun e w' => e = .returned (.bool r) ∧ Below w.heap.size w w' := by
  have HT := Aside0.mk hT
  clear hT
  have hu24 := Tryd.underlying24
  have HR0_6 := Aside0.mk hr0_6
  have HC0_6 := Aside0.mk hc0_6
  clear hr0_6 hc0_6
  have HB := Aside0.mk (Below.refl w.heap.size w)
  have H : ((incipitlaw18_awake.f k).bind fun t521 => ((incipitref06_Few.f k a0_0 a0_1 a0_2 a0_3 a0_4 a0_5 l0_6 1500).bind fun t522 => (if t522 = true then ((foot_Number.f k l0_6).bind fun bt523 => ((incipitlaw18_refs.f k bt523.1).bind fun t529 => (incipitlaw18_FootCoheres.l0 k t521 bt523.1 bt523.2 t529 0 0))) else (some t521)))) = some r := h
  clear h
  replace H := Option.bind_eq_some_iff.mp H
  obtain ⟨t521, A20, H⟩ := H
  replace H : ((incipitref06_Few.f k a0_0 a0_1 a0_2 a0_3 a0_4 a0_5 l0_6 1500).bind fun t522 => (if t522 = true then ((foot_Number.f k l0_6).bind fun bt523 => ((incipitlaw18_refs.f k bt523.1).bind fun t529 => (incipitlaw18_FootCoheres.l0 k t521 bt523.1 bt523.2 t529 0 0))) else (some t521))) = some r := H
  have A2 := Aside0.mk A20
  clear A20
  replace H := Option.bind_eq_some_iff.mp H
  obtain ⟨t522, A30, H⟩ := H
  replace H : (if t522 = true then ((foot_Number.f k l0_6).bind fun bt523 => ((incipitlaw18_refs.f k bt523.1).bind fun t529 => (incipitlaw18_FootCoheres.l0 k t521 bt523.1 bt523.2 t529 0 0))) else (some t521)) = some r := H
  have A3 := Aside0.mk A30
  clear A30
  by_cases c4 : t522 = true
  · subst c4
    have H1 : ((foot_Number.f k l0_6).bind fun bt523 => ((incipitlaw18_refs.f k bt523.1).bind fun t529 => (incipitlaw18_FootCoheres.l0 k t521 bt523.1 bt523.2 t529 0 0))) = some r := by rw [if_pos rfl] at H; exact H
    clear H
    have H := H1
    clear H1
    replace H := Option.bind_eq_some_iff.mp H
    obtain ⟨⟨t523, t526⟩, A50, H⟩ := H
    replace H : ((incipitlaw18_refs.f k t523).bind fun t529 => (incipitlaw18_FootCoheres.l0 k t521 t523 t526 t529 0 0)) = some r := H
    have A5 := Aside0.mk A50
    clear A50
    replace H := Option.bind_eq_some_iff.mp H
    obtain ⟨t529, A60, H⟩ := H
    replace H : (incipitlaw18_FootCoheres.l0 k t521 t523 t526 t529 0 0) = some r := H
    have A6 := Aside0.mk A60
    clear A60
    have H' := Aside0.mk H
    clear H
    go_enter Tryd.func16, Tryd.ntmps16
    go_wp2_with (first | ((with_reducible refine gate_dst (N := 1) rfl ?_); (try (refine gate_guard (by rfl) ?_; dsimp only)); refine box_event ?hg (N := 1) ?hd (cs := #[.int .i64 a0_0, .string a0_1, .string a0_2, .int .i64 a0_3, .int .i64 a0_4, .bool a0_5, .slice A0_6 l0_6.length c0_6]) (t := 24) ?hr ?_; (case hd => rfl); (case hg => rfl); (case hr => first | (go_simp; done) | (go_simp; rfl)); intro gb520 hg w7 hbox hb; have n0_ := Aside0.mk (below_step (by repeat (first | (with_reducible first | exact HB.out | apply below_alloc | apply pw_below_drewN | apply below_drew1) | exact HB.out)) hb); have n1_ := Aside0.mk (hbox); have n2_ := Aside0.mk ((by rw [hg]; exact (below_size (by repeat (first | (with_reducible first | exact HB.out | apply below_alloc | apply pw_below_drewN | apply below_drew1) | exact HB.out))) : w.heap.size ≤ gb520)); have n3_ := Aside0.mk ((by rw [hg]; exact (below_size (by repeat (first | (with_reducible first | exact HB.out | apply below_alloc | apply pw_below_drewN | apply below_drew1) | exact HB.out))) : w.heap.size ≤ gb520)); clear HB; have HB := n0_; have BK520 := n1_; have GW520 := n2_; have GE520 := n3_; clear n0_ n1_ n2_ n3_; clear hb hbox hg) | (go_at_call 18; (with_reducible refine (incipitlaw18_awake.calls k  t521 _ A2.out (Tabs.below HT.out (by repeat (first | (with_reducible first | exact HB.out | apply below_alloc | apply pw_below_drewN | apply below_drew1) | exact HB.out)))).mono ?_); rintro e w8 ⟨rfl, hb⟩; have n0_ := Aside0.mk (blk_below (g := gb520) (o := .cells #[.int .i64 a0_0, .string a0_1, .string a0_2, .int .i64 a0_3, .int .i64 a0_4, .bool a0_5, .slice A0_6 l0_6.length c0_6] 24 (0, 0)) (by (with_reducible repeat (first | refine blk_drewN ?_ _ | refine blk_drew ?_ | refine blk_alloc ?_ _)); exact BK520.out) hb); have n1_ := Aside0.mk (below_step (by repeat (first | (with_reducible first | exact HB.out | apply below_alloc | apply pw_below_drewN | apply below_drew1 | refine below_set ?_ GE520.out) | exact HB.out)) hb); clear BK520; clear HB; have BK520 := n0_; have HB := n1_; clear n0_ n1_; (try clear hb); (try clear hb2); (try clear hk); (try clear hi); have hcz9_0 : w8.cell? ⟨gb520, 0, none⟩ = some (.int .i64 a0_0) := (blk_cell BK520.out 0).trans rfl; have hcz9_1 : w8.cell? ⟨gb520, 1, none⟩ = some (.string a0_1) := (blk_cell BK520.out 1).trans rfl; have hcz9_2 : w8.cell? ⟨gb520, 2, none⟩ = some (.string a0_2) := (blk_cell BK520.out 2).trans rfl; have hcz9_3 : w8.cell? ⟨gb520, 3, none⟩ = some (.int .i64 a0_3) := (blk_cell BK520.out 3).trans rfl; have hcz9_4 : w8.cell? ⟨gb520, 4, none⟩ = some (.int .i64 a0_4) := (blk_cell BK520.out 4).trans rfl; have hcz9_5 : w8.cell? ⟨gb520, 5, none⟩ = some (.bool a0_5) := (blk_cell BK520.out 5).trans rfl; have hcz9_6 : w8.cell? ⟨gb520, 6, none⟩ = some (.slice A0_6 l0_6.length c0_6) := (blk_cell BK520.out 6).trans rfl; have hfz9_0 := blk_frozen BK520.out 0; have hfz9_1 := blk_frozen BK520.out 1; have hfz9_2 := blk_frozen BK520.out 2; have hfz9_3 := blk_frozen BK520.out 3; have hfz9_4 := blk_frozen BK520.out 4; have hfz9_5 := blk_frozen BK520.out 5; have hfz9_6 := blk_frozen BK520.out 6) | (go_at_call 19; (with_reducible refine (incipitref06_Few.calls k a0_0 a0_1 a0_2 a0_3 a0_4 a0_5 _ _ l0_6 1500 true _ ?side1 ?side2 A3.out).mono ?_); (case side1 => repeat (first | exact (Kd.C_below HR0_6.out HB.out) | (with_reducible refine Kd.C_alloc ?_ _) | (with_reducible refine Kd.C_drewN ?_ _) | (with_reducible refine Kd.C_drew ?_))); (case side2 => exact HC0_6.out); rintro e w10 ⟨rfl, hb⟩; have n0_ := Aside0.mk (blk_below (g := gb520) (o := .cells #[.int .i64 a0_0, .string a0_1, .string a0_2, .int .i64 a0_3, .int .i64 a0_4, .bool a0_5, .slice A0_6 l0_6.length c0_6] 24 (0, 0)) (by (with_reducible repeat (first | refine blk_drewN ?_ _ | refine blk_drew ?_ | refine blk_alloc ?_ _)); exact BK520.out) hb); have n1_ := Aside0.mk (below_step (by repeat (first | (with_reducible first | exact HB.out | apply below_alloc | apply pw_below_drewN | apply below_drew1 | refine below_set ?_ GE520.out) | exact HB.out)) hb); clear BK520; clear HB; have BK520 := n0_; have HB := n1_; clear n0_ n1_; (try clear hb); (try clear hb2); (try clear hk); (try clear hi); have hcz11_0 : w10.cell? ⟨gb520, 0, none⟩ = some (.int .i64 a0_0) := (blk_cell BK520.out 0).trans rfl; have hcz11_1 : w10.cell? ⟨gb520, 1, none⟩ = some (.string a0_1) := (blk_cell BK520.out 1).trans rfl; have hcz11_2 : w10.cell? ⟨gb520, 2, none⟩ = some (.string a0_2) := (blk_cell BK520.out 2).trans rfl; have hcz11_3 : w10.cell? ⟨gb520, 3, none⟩ = some (.int .i64 a0_3) := (blk_cell BK520.out 3).trans rfl; have hcz11_4 : w10.cell? ⟨gb520, 4, none⟩ = some (.int .i64 a0_4) := (blk_cell BK520.out 4).trans rfl; have hcz11_5 : w10.cell? ⟨gb520, 5, none⟩ = some (.bool a0_5) := (blk_cell BK520.out 5).trans rfl; have hcz11_6 : w10.cell? ⟨gb520, 6, none⟩ = some (.slice A0_6 l0_6.length c0_6) := (blk_cell BK520.out 6).trans rfl; have hfz11_0 := blk_frozen BK520.out 0; have hfz11_1 := blk_frozen BK520.out 1; have hfz11_2 := blk_frozen BK520.out 2; have hfz11_3 := blk_frozen BK520.out 3; have hfz11_4 := blk_frozen BK520.out 4; have hfz11_5 := blk_frozen BK520.out 5; have hfz11_6 := blk_frozen BK520.out 6) | (go_at_call 21; (with_reducible refine (foot_Number.calls k _ _ l0_6 t523 t526 _ ?side1 ?side2 A5.out (Tabs.below HT.out (by repeat (first | (with_reducible first | exact HB.out | apply below_alloc | apply pw_below_drewN | apply below_drew1) | exact HB.out)))).mono ?_); (case side1 => repeat (first | exact (Kd.C_below HR0_6.out HB.out) | (with_reducible refine Kd.C_alloc ?_ _) | (with_reducible refine Kd.C_drewN ?_ _) | (with_reducible refine Kd.C_drew ?_))); (case side2 => exact HC0_6.out); rintro e w12 ⟨v524, v527, rfl, ho0, ho1, hb⟩; have n0_ := Aside0.mk (Kd.N_lower (Kd.N_mono (ok' := fun k_ => some k_ ≠ (v527 : Value).ownBlock ∧ k_ ≠ gb520) ho0 (fun k_ hk_ => ⟨hk_.2, (Kd.freshB (g := gb520) (o := .cells #[.int .i64 a0_0, .string a0_1, .string a0_2, .int .i64 a0_3, .int .i64 a0_4, .bool a0_5, .slice A0_6 l0_6.length c0_6] 24 (0, 0)) (by (with_reducible repeat (first | refine blk_drewN ?_ _ | refine blk_drew ?_ | refine blk_alloc ?_ _)); exact BK520.out) k_ hk_.1)⟩)) (below_size (by repeat (first | (with_reducible first | exact HB.out | apply below_alloc | apply pw_below_drewN | apply below_drew1 | refine below_set ?_ GE520.out) | exact HB.out)))); have n1_ := Aside0.mk (Kd.N_lower (Kd.N_mono (ok' := fun k_ => some k_ ≠ (v524 : Value).ownBlock ∧ k_ ≠ gb520) ho1 (fun k_ hk_ => ⟨hk_.2, (Kd.freshB (g := gb520) (o := .cells #[.int .i64 a0_0, .string a0_1, .string a0_2, .int .i64 a0_3, .int .i64 a0_4, .bool a0_5, .slice A0_6 l0_6.length c0_6] 24 (0, 0)) (by (with_reducible repeat (first | refine blk_drewN ?_ _ | refine blk_drew ?_ | refine blk_alloc ?_ _)); exact BK520.out) k_ hk_.1)⟩)) (below_size (by repeat (first | (with_reducible first | exact HB.out | apply below_alloc | apply pw_below_drewN | apply below_drew1 | refine below_set ?_ GE520.out) | exact HB.out)))); have n2_ := Aside0.mk (blk_below (g := gb520) (o := .cells #[.int .i64 a0_0, .string a0_1, .string a0_2, .int .i64 a0_3, .int .i64 a0_4, .bool a0_5, .slice A0_6 l0_6.length c0_6] 24 (0, 0)) (by (with_reducible repeat (first | refine blk_drewN ?_ _ | refine blk_drew ?_ | refine blk_alloc ?_ _)); exact BK520.out) hb); have n3_ := Aside0.mk (below_step (by repeat (first | (with_reducible first | exact HB.out | apply below_alloc | apply pw_below_drewN | apply below_drew1 | refine below_set ?_ GE520.out) | exact HB.out)) hb); clear BK520; clear HB; have HO525 := n0_; have HO528 := n1_; have BK520 := n2_; have HB := n3_; clear n0_ n1_ n2_ n3_; (try clear hb); (try clear hb2); (try clear hk); (try clear hi); (try clear ho0); (try clear ho1); obtain ⟨Ao13, co13, eo13⟩ := Kd.N_slice HO525.out; subst eo13) | (go_at_call 20; (with_reducible refine (incipitlaw18_refs.calls k (fun k_ => (some k_ ≠ (v527 : Value).ownBlock ∧ k_ ≠ gb520)) _ _ t523 t529 _ ?side1 A6.out).mono ?_); (case side1 => exact Kd.N_V (HO525.out)); rintro e w14 ⟨v530, rfl, ho0, hb⟩; have n0_ := Aside0.mk (Kd.N_elder' (by (with_reducible repeat (first | apply Kd.N_alloc | apply Kd.N_drewN | apply Kd.N_drew)); exact HO525.out) (Kd.N_base ho0) hb); have n1_ := Aside0.mk (Kd.N_elder' (by (with_reducible repeat (first | apply Kd.N_alloc | apply Kd.N_drewN | apply Kd.N_drew)); exact HO528.out) (Kd.N_base ho0) hb); have n2_ := Aside0.mk (Kd.N_lower (Kd.N_mono (ok' := fun k_ => some k_ ≠ (v527 : Value).ownBlock ∧ k_ ≠ gb520) ho0 (fun k_ hk_ => ⟨Or.elim hk_ (fun hs_ => hs_.1) (fun hn_ => (Kd.fresh' (Kd.N_lt (by (with_reducible repeat (first | apply Kd.N_alloc | apply Kd.N_drewN | apply Kd.N_drew)); exact HO528.out)) k_ hn_)), Or.elim hk_ (fun hs_ => hs_.2) (fun hn_ => (Kd.freshB (g := gb520) (o := .cells #[.int .i64 a0_0, .string a0_1, .string a0_2, .int .i64 a0_3, .int .i64 a0_4, .bool a0_5, .slice A0_6 l0_6.length c0_6] 24 (0, 0)) (by (with_reducible repeat (first | refine blk_drewN ?_ _ | refine blk_drew ?_ | refine blk_alloc ?_ _)); exact BK520.out) k_ hn_))⟩)) (below_size (by repeat (first | (with_reducible first | exact HB.out | apply below_alloc | apply pw_below_drewN | apply below_drew1 | refine below_set ?_ GE520.out) | exact HB.out)))); have n3_ := Aside0.mk (blk_below (g := gb520) (o := .cells #[.int .i64 a0_0, .string a0_1, .string a0_2, .int .i64 a0_3, .int .i64 a0_4, .bool a0_5, .slice A0_6 l0_6.length c0_6] 24 (0, 0)) (by (with_reducible repeat (first | refine blk_drewN ?_ _ | refine blk_drew ?_ | refine blk_alloc ?_ _)); exact BK520.out) hb); have n4_ := Aside0.mk (below_step (by repeat (first | (with_reducible first | exact HB.out | apply below_alloc | apply pw_below_drewN | apply below_drew1 | refine below_set ?_ GE520.out) | exact HB.out)) hb); clear HO525; clear HO528; clear BK520; clear HB; have HO525 := n0_; have HO528 := n1_; have HO531 := n2_; have BK520 := n3_; have HB := n4_; clear n0_ n1_ n2_ n3_ n4_; (try clear hb); (try clear hb2); (try clear hk); (try clear hi); (try clear ho0)))
    repeat (go_quiet (first | ((with_reducible refine gate_dst (N := 1) rfl ?_); (try (refine gate_guard (by rfl) ?_; dsimp only)); refine box_event ?hg (N := 1) ?hd (cs := #[.int .i64 a0_0, .string a0_1, .string a0_2, .int .i64 a0_3, .int .i64 a0_4, .bool a0_5, .slice A0_6 l0_6.length c0_6]) (t := 24) ?hr ?_; (case hd => rfl); (case hg => rfl); (case hr => first | (go_simp; done) | (go_simp; rfl)); intro gb520 hg w7 hbox hb; have n0_ := Aside0.mk (below_step (by repeat (first | (with_reducible first | exact HB.out | apply below_alloc | apply pw_below_drewN | apply below_drew1) | exact HB.out)) hb); have n1_ := Aside0.mk (hbox); have n2_ := Aside0.mk ((by rw [hg]; exact (below_size (by repeat (first | (with_reducible first | exact HB.out | apply below_alloc | apply pw_below_drewN | apply below_drew1) | exact HB.out))) : w.heap.size ≤ gb520)); have n3_ := Aside0.mk ((by rw [hg]; exact (below_size (by repeat (first | (with_reducible first | exact HB.out | apply below_alloc | apply pw_below_drewN | apply below_drew1) | exact HB.out))) : w.heap.size ≤ gb520)); clear HB; have HB := n0_; have BK520 := n1_; have GW520 := n2_; have GE520 := n3_; clear n0_ n1_ n2_ n3_; clear hb hbox hg) | (go_at_call 18; (with_reducible refine (incipitlaw18_awake.calls k  t521 _ A2.out (Tabs.below HT.out (by repeat (first | (with_reducible first | exact HB.out | apply below_alloc | apply pw_below_drewN | apply below_drew1) | exact HB.out)))).mono ?_); rintro e w8 ⟨rfl, hb⟩; have n0_ := Aside0.mk (blk_below (g := gb520) (o := .cells #[.int .i64 a0_0, .string a0_1, .string a0_2, .int .i64 a0_3, .int .i64 a0_4, .bool a0_5, .slice A0_6 l0_6.length c0_6] 24 (0, 0)) (by (with_reducible repeat (first | refine blk_drewN ?_ _ | refine blk_drew ?_ | refine blk_alloc ?_ _)); exact BK520.out) hb); have n1_ := Aside0.mk (below_step (by repeat (first | (with_reducible first | exact HB.out | apply below_alloc | apply pw_below_drewN | apply below_drew1 | refine below_set ?_ GE520.out) | exact HB.out)) hb); clear BK520; clear HB; have BK520 := n0_; have HB := n1_; clear n0_ n1_; (try clear hb); (try clear hb2); (try clear hk); (try clear hi); have hcz9_0 : w8.cell? ⟨gb520, 0, none⟩ = some (.int .i64 a0_0) := (blk_cell BK520.out 0).trans rfl; have hcz9_1 : w8.cell? ⟨gb520, 1, none⟩ = some (.string a0_1) := (blk_cell BK520.out 1).trans rfl; have hcz9_2 : w8.cell? ⟨gb520, 2, none⟩ = some (.string a0_2) := (blk_cell BK520.out 2).trans rfl; have hcz9_3 : w8.cell? ⟨gb520, 3, none⟩ = some (.int .i64 a0_3) := (blk_cell BK520.out 3).trans rfl; have hcz9_4 : w8.cell? ⟨gb520, 4, none⟩ = some (.int .i64 a0_4) := (blk_cell BK520.out 4).trans rfl; have hcz9_5 : w8.cell? ⟨gb520, 5, none⟩ = some (.bool a0_5) := (blk_cell BK520.out 5).trans rfl; have hcz9_6 : w8.cell? ⟨gb520, 6, none⟩ = some (.slice A0_6 l0_6.length c0_6) := (blk_cell BK520.out 6).trans rfl; have hfz9_0 := blk_frozen BK520.out 0; have hfz9_1 := blk_frozen BK520.out 1; have hfz9_2 := blk_frozen BK520.out 2; have hfz9_3 := blk_frozen BK520.out 3; have hfz9_4 := blk_frozen BK520.out 4; have hfz9_5 := blk_frozen BK520.out 5; have hfz9_6 := blk_frozen BK520.out 6) | (go_at_call 19; (with_reducible refine (incipitref06_Few.calls k a0_0 a0_1 a0_2 a0_3 a0_4 a0_5 _ _ l0_6 1500 true _ ?side1 ?side2 A3.out).mono ?_); (case side1 => repeat (first | exact (Kd.C_below HR0_6.out HB.out) | (with_reducible refine Kd.C_alloc ?_ _) | (with_reducible refine Kd.C_drewN ?_ _) | (with_reducible refine Kd.C_drew ?_))); (case side2 => exact HC0_6.out); rintro e w10 ⟨rfl, hb⟩; have n0_ := Aside0.mk (blk_below (g := gb520) (o := .cells #[.int .i64 a0_0, .string a0_1, .string a0_2, .int .i64 a0_3, .int .i64 a0_4, .bool a0_5, .slice A0_6 l0_6.length c0_6] 24 (0, 0)) (by (with_reducible repeat (first | refine blk_drewN ?_ _ | refine blk_drew ?_ | refine blk_alloc ?_ _)); exact BK520.out) hb); have n1_ := Aside0.mk (below_step (by repeat (first | (with_reducible first | exact HB.out | apply below_alloc | apply pw_below_drewN | apply below_drew1 | refine below_set ?_ GE520.out) | exact HB.out)) hb); clear BK520; clear HB; have BK520 := n0_; have HB := n1_; clear n0_ n1_; (try clear hb); (try clear hb2); (try clear hk); (try clear hi); have hcz11_0 : w10.cell? ⟨gb520, 0, none⟩ = some (.int .i64 a0_0) := (blk_cell BK520.out 0).trans rfl; have hcz11_1 : w10.cell? ⟨gb520, 1, none⟩ = some (.string a0_1) := (blk_cell BK520.out 1).trans rfl; have hcz11_2 : w10.cell? ⟨gb520, 2, none⟩ = some (.string a0_2) := (blk_cell BK520.out 2).trans rfl; have hcz11_3 : w10.cell? ⟨gb520, 3, none⟩ = some (.int .i64 a0_3) := (blk_cell BK520.out 3).trans rfl; have hcz11_4 : w10.cell? ⟨gb520, 4, none⟩ = some (.int .i64 a0_4) := (blk_cell BK520.out 4).trans rfl; have hcz11_5 : w10.cell? ⟨gb520, 5, none⟩ = some (.bool a0_5) := (blk_cell BK520.out 5).trans rfl; have hcz11_6 : w10.cell? ⟨gb520, 6, none⟩ = some (.slice A0_6 l0_6.length c0_6) := (blk_cell BK520.out 6).trans rfl; have hfz11_0 := blk_frozen BK520.out 0; have hfz11_1 := blk_frozen BK520.out 1; have hfz11_2 := blk_frozen BK520.out 2; have hfz11_3 := blk_frozen BK520.out 3; have hfz11_4 := blk_frozen BK520.out 4; have hfz11_5 := blk_frozen BK520.out 5; have hfz11_6 := blk_frozen BK520.out 6) | (go_at_call 21; (with_reducible refine (foot_Number.calls k _ _ l0_6 t523 t526 _ ?side1 ?side2 A5.out (Tabs.below HT.out (by repeat (first | (with_reducible first | exact HB.out | apply below_alloc | apply pw_below_drewN | apply below_drew1) | exact HB.out)))).mono ?_); (case side1 => repeat (first | exact (Kd.C_below HR0_6.out HB.out) | (with_reducible refine Kd.C_alloc ?_ _) | (with_reducible refine Kd.C_drewN ?_ _) | (with_reducible refine Kd.C_drew ?_))); (case side2 => exact HC0_6.out); rintro e w12 ⟨v524, v527, rfl, ho0, ho1, hb⟩; have n0_ := Aside0.mk (Kd.N_lower (Kd.N_mono (ok' := fun k_ => some k_ ≠ (v527 : Value).ownBlock ∧ k_ ≠ gb520) ho0 (fun k_ hk_ => ⟨hk_.2, (Kd.freshB (g := gb520) (o := .cells #[.int .i64 a0_0, .string a0_1, .string a0_2, .int .i64 a0_3, .int .i64 a0_4, .bool a0_5, .slice A0_6 l0_6.length c0_6] 24 (0, 0)) (by (with_reducible repeat (first | refine blk_drewN ?_ _ | refine blk_drew ?_ | refine blk_alloc ?_ _)); exact BK520.out) k_ hk_.1)⟩)) (below_size (by repeat (first | (with_reducible first | exact HB.out | apply below_alloc | apply pw_below_drewN | apply below_drew1 | refine below_set ?_ GE520.out) | exact HB.out)))); have n1_ := Aside0.mk (Kd.N_lower (Kd.N_mono (ok' := fun k_ => some k_ ≠ (v524 : Value).ownBlock ∧ k_ ≠ gb520) ho1 (fun k_ hk_ => ⟨hk_.2, (Kd.freshB (g := gb520) (o := .cells #[.int .i64 a0_0, .string a0_1, .string a0_2, .int .i64 a0_3, .int .i64 a0_4, .bool a0_5, .slice A0_6 l0_6.length c0_6] 24 (0, 0)) (by (with_reducible repeat (first | refine blk_drewN ?_ _ | refine blk_drew ?_ | refine blk_alloc ?_ _)); exact BK520.out) k_ hk_.1)⟩)) (below_size (by repeat (first | (with_reducible first | exact HB.out | apply below_alloc | apply pw_below_drewN | apply below_drew1 | refine below_set ?_ GE520.out) | exact HB.out)))); have n2_ := Aside0.mk (blk_below (g := gb520) (o := .cells #[.int .i64 a0_0, .string a0_1, .string a0_2, .int .i64 a0_3, .int .i64 a0_4, .bool a0_5, .slice A0_6 l0_6.length c0_6] 24 (0, 0)) (by (with_reducible repeat (first | refine blk_drewN ?_ _ | refine blk_drew ?_ | refine blk_alloc ?_ _)); exact BK520.out) hb); have n3_ := Aside0.mk (below_step (by repeat (first | (with_reducible first | exact HB.out | apply below_alloc | apply pw_below_drewN | apply below_drew1 | refine below_set ?_ GE520.out) | exact HB.out)) hb); clear BK520; clear HB; have HO525 := n0_; have HO528 := n1_; have BK520 := n2_; have HB := n3_; clear n0_ n1_ n2_ n3_; (try clear hb); (try clear hb2); (try clear hk); (try clear hi); (try clear ho0); (try clear ho1); obtain ⟨Ao13, co13, eo13⟩ := Kd.N_slice HO525.out; subst eo13) | (go_at_call 20; (with_reducible refine (incipitlaw18_refs.calls k (fun k_ => (some k_ ≠ (v527 : Value).ownBlock ∧ k_ ≠ gb520)) _ _ t523 t529 _ ?side1 A6.out).mono ?_); (case side1 => exact Kd.N_V (HO525.out)); rintro e w14 ⟨v530, rfl, ho0, hb⟩; have n0_ := Aside0.mk (Kd.N_elder' (by (with_reducible repeat (first | apply Kd.N_alloc | apply Kd.N_drewN | apply Kd.N_drew)); exact HO525.out) (Kd.N_base ho0) hb); have n1_ := Aside0.mk (Kd.N_elder' (by (with_reducible repeat (first | apply Kd.N_alloc | apply Kd.N_drewN | apply Kd.N_drew)); exact HO528.out) (Kd.N_base ho0) hb); have n2_ := Aside0.mk (Kd.N_lower (Kd.N_mono (ok' := fun k_ => some k_ ≠ (v527 : Value).ownBlock ∧ k_ ≠ gb520) ho0 (fun k_ hk_ => ⟨Or.elim hk_ (fun hs_ => hs_.1) (fun hn_ => (Kd.fresh' (Kd.N_lt (by (with_reducible repeat (first | apply Kd.N_alloc | apply Kd.N_drewN | apply Kd.N_drew)); exact HO528.out)) k_ hn_)), Or.elim hk_ (fun hs_ => hs_.2) (fun hn_ => (Kd.freshB (g := gb520) (o := .cells #[.int .i64 a0_0, .string a0_1, .string a0_2, .int .i64 a0_3, .int .i64 a0_4, .bool a0_5, .slice A0_6 l0_6.length c0_6] 24 (0, 0)) (by (with_reducible repeat (first | refine blk_drewN ?_ _ | refine blk_drew ?_ | refine blk_alloc ?_ _)); exact BK520.out) k_ hn_))⟩)) (below_size (by repeat (first | (with_reducible first | exact HB.out | apply below_alloc | apply pw_below_drewN | apply below_drew1 | refine below_set ?_ GE520.out) | exact HB.out)))); have n3_ := Aside0.mk (blk_below (g := gb520) (o := .cells #[.int .i64 a0_0, .string a0_1, .string a0_2, .int .i64 a0_3, .int .i64 a0_4, .bool a0_5, .slice A0_6 l0_6.length c0_6] 24 (0, 0)) (by (with_reducible repeat (first | refine blk_drewN ?_ _ | refine blk_drew ?_ | refine blk_alloc ?_ _)); exact BK520.out) hb); have n4_ := Aside0.mk (below_step (by repeat (first | (with_reducible first | exact HB.out | apply below_alloc | apply pw_below_drewN | apply below_drew1 | refine below_set ?_ GE520.out) | exact HB.out)) hb); clear HO525; clear HO528; clear BK520; clear HB; have HO525 := n0_; have HO528 := n1_; have HO531 := n2_; have BK520 := n3_; have HB := n4_; clear n0_ n1_ n2_ n3_ n4_; (try clear hb); (try clear hb2); (try clear hk); (try clear hi); (try clear ho0))); try go_wp2_with (first | ((with_reducible refine gate_dst (N := 1) rfl ?_); (try (refine gate_guard (by rfl) ?_; dsimp only)); refine box_event ?hg (N := 1) ?hd (cs := #[.int .i64 a0_0, .string a0_1, .string a0_2, .int .i64 a0_3, .int .i64 a0_4, .bool a0_5, .slice A0_6 l0_6.length c0_6]) (t := 24) ?hr ?_; (case hd => rfl); (case hg => rfl); (case hr => first | (go_simp; done) | (go_simp; rfl)); intro gb520 hg w7 hbox hb; have n0_ := Aside0.mk (below_step (by repeat (first | (with_reducible first | exact HB.out | apply below_alloc | apply pw_below_drewN | apply below_drew1) | exact HB.out)) hb); have n1_ := Aside0.mk (hbox); have n2_ := Aside0.mk ((by rw [hg]; exact (below_size (by repeat (first | (with_reducible first | exact HB.out | apply below_alloc | apply pw_below_drewN | apply below_drew1) | exact HB.out))) : w.heap.size ≤ gb520)); have n3_ := Aside0.mk ((by rw [hg]; exact (below_size (by repeat (first | (with_reducible first | exact HB.out | apply below_alloc | apply pw_below_drewN | apply below_drew1) | exact HB.out))) : w.heap.size ≤ gb520)); clear HB; have HB := n0_; have BK520 := n1_; have GW520 := n2_; have GE520 := n3_; clear n0_ n1_ n2_ n3_; clear hb hbox hg) | (go_at_call 18; (with_reducible refine (incipitlaw18_awake.calls k  t521 _ A2.out (Tabs.below HT.out (by repeat (first | (with_reducible first | exact HB.out | apply below_alloc | apply pw_below_drewN | apply below_drew1) | exact HB.out)))).mono ?_); rintro e w8 ⟨rfl, hb⟩; have n0_ := Aside0.mk (blk_below (g := gb520) (o := .cells #[.int .i64 a0_0, .string a0_1, .string a0_2, .int .i64 a0_3, .int .i64 a0_4, .bool a0_5, .slice A0_6 l0_6.length c0_6] 24 (0, 0)) (by (with_reducible repeat (first | refine blk_drewN ?_ _ | refine blk_drew ?_ | refine blk_alloc ?_ _)); exact BK520.out) hb); have n1_ := Aside0.mk (below_step (by repeat (first | (with_reducible first | exact HB.out | apply below_alloc | apply pw_below_drewN | apply below_drew1 | refine below_set ?_ GE520.out) | exact HB.out)) hb); clear BK520; clear HB; have BK520 := n0_; have HB := n1_; clear n0_ n1_; (try clear hb); (try clear hb2); (try clear hk); (try clear hi); have hcz9_0 : w8.cell? ⟨gb520, 0, none⟩ = some (.int .i64 a0_0) := (blk_cell BK520.out 0).trans rfl; have hcz9_1 : w8.cell? ⟨gb520, 1, none⟩ = some (.string a0_1) := (blk_cell BK520.out 1).trans rfl; have hcz9_2 : w8.cell? ⟨gb520, 2, none⟩ = some (.string a0_2) := (blk_cell BK520.out 2).trans rfl; have hcz9_3 : w8.cell? ⟨gb520, 3, none⟩ = some (.int .i64 a0_3) := (blk_cell BK520.out 3).trans rfl; have hcz9_4 : w8.cell? ⟨gb520, 4, none⟩ = some (.int .i64 a0_4) := (blk_cell BK520.out 4).trans rfl; have hcz9_5 : w8.cell? ⟨gb520, 5, none⟩ = some (.bool a0_5) := (blk_cell BK520.out 5).trans rfl; have hcz9_6 : w8.cell? ⟨gb520, 6, none⟩ = some (.slice A0_6 l0_6.length c0_6) := (blk_cell BK520.out 6).trans rfl; have hfz9_0 := blk_frozen BK520.out 0; have hfz9_1 := blk_frozen BK520.out 1; have hfz9_2 := blk_frozen BK520.out 2; have hfz9_3 := blk_frozen BK520.out 3; have hfz9_4 := blk_frozen BK520.out 4; have hfz9_5 := blk_frozen BK520.out 5; have hfz9_6 := blk_frozen BK520.out 6) | (go_at_call 19; (with_reducible refine (incipitref06_Few.calls k a0_0 a0_1 a0_2 a0_3 a0_4 a0_5 _ _ l0_6 1500 true _ ?side1 ?side2 A3.out).mono ?_); (case side1 => repeat (first | exact (Kd.C_below HR0_6.out HB.out) | (with_reducible refine Kd.C_alloc ?_ _) | (with_reducible refine Kd.C_drewN ?_ _) | (with_reducible refine Kd.C_drew ?_))); (case side2 => exact HC0_6.out); rintro e w10 ⟨rfl, hb⟩; have n0_ := Aside0.mk (blk_below (g := gb520) (o := .cells #[.int .i64 a0_0, .string a0_1, .string a0_2, .int .i64 a0_3, .int .i64 a0_4, .bool a0_5, .slice A0_6 l0_6.length c0_6] 24 (0, 0)) (by (with_reducible repeat (first | refine blk_drewN ?_ _ | refine blk_drew ?_ | refine blk_alloc ?_ _)); exact BK520.out) hb); have n1_ := Aside0.mk (below_step (by repeat (first | (with_reducible first | exact HB.out | apply below_alloc | apply pw_below_drewN | apply below_drew1 | refine below_set ?_ GE520.out) | exact HB.out)) hb); clear BK520; clear HB; have BK520 := n0_; have HB := n1_; clear n0_ n1_; (try clear hb); (try clear hb2); (try clear hk); (try clear hi); have hcz11_0 : w10.cell? ⟨gb520, 0, none⟩ = some (.int .i64 a0_0) := (blk_cell BK520.out 0).trans rfl; have hcz11_1 : w10.cell? ⟨gb520, 1, none⟩ = some (.string a0_1) := (blk_cell BK520.out 1).trans rfl; have hcz11_2 : w10.cell? ⟨gb520, 2, none⟩ = some (.string a0_2) := (blk_cell BK520.out 2).trans rfl; have hcz11_3 : w10.cell? ⟨gb520, 3, none⟩ = some (.int .i64 a0_3) := (blk_cell BK520.out 3).trans rfl; have hcz11_4 : w10.cell? ⟨gb520, 4, none⟩ = some (.int .i64 a0_4) := (blk_cell BK520.out 4).trans rfl; have hcz11_5 : w10.cell? ⟨gb520, 5, none⟩ = some (.bool a0_5) := (blk_cell BK520.out 5).trans rfl; have hcz11_6 : w10.cell? ⟨gb520, 6, none⟩ = some (.slice A0_6 l0_6.length c0_6) := (blk_cell BK520.out 6).trans rfl; have hfz11_0 := blk_frozen BK520.out 0; have hfz11_1 := blk_frozen BK520.out 1; have hfz11_2 := blk_frozen BK520.out 2; have hfz11_3 := blk_frozen BK520.out 3; have hfz11_4 := blk_frozen BK520.out 4; have hfz11_5 := blk_frozen BK520.out 5; have hfz11_6 := blk_frozen BK520.out 6) | (go_at_call 21; (with_reducible refine (foot_Number.calls k _ _ l0_6 t523 t526 _ ?side1 ?side2 A5.out (Tabs.below HT.out (by repeat (first | (with_reducible first | exact HB.out | apply below_alloc | apply pw_below_drewN | apply below_drew1) | exact HB.out)))).mono ?_); (case side1 => repeat (first | exact (Kd.C_below HR0_6.out HB.out) | (with_reducible refine Kd.C_alloc ?_ _) | (with_reducible refine Kd.C_drewN ?_ _) | (with_reducible refine Kd.C_drew ?_))); (case side2 => exact HC0_6.out); rintro e w12 ⟨v524, v527, rfl, ho0, ho1, hb⟩; have n0_ := Aside0.mk (Kd.N_lower (Kd.N_mono (ok' := fun k_ => some k_ ≠ (v527 : Value).ownBlock ∧ k_ ≠ gb520) ho0 (fun k_ hk_ => ⟨hk_.2, (Kd.freshB (g := gb520) (o := .cells #[.int .i64 a0_0, .string a0_1, .string a0_2, .int .i64 a0_3, .int .i64 a0_4, .bool a0_5, .slice A0_6 l0_6.length c0_6] 24 (0, 0)) (by (with_reducible repeat (first | refine blk_drewN ?_ _ | refine blk_drew ?_ | refine blk_alloc ?_ _)); exact BK520.out) k_ hk_.1)⟩)) (below_size (by repeat (first | (with_reducible first | exact HB.out | apply below_alloc | apply pw_below_drewN | apply below_drew1 | refine below_set ?_ GE520.out) | exact HB.out)))); have n1_ := Aside0.mk (Kd.N_lower (Kd.N_mono (ok' := fun k_ => some k_ ≠ (v524 : Value).ownBlock ∧ k_ ≠ gb520) ho1 (fun k_ hk_ => ⟨hk_.2, (Kd.freshB (g := gb520) (o := .cells #[.int .i64 a0_0, .string a0_1, .string a0_2, .int .i64 a0_3, .int .i64 a0_4, .bool a0_5, .slice A0_6 l0_6.length c0_6] 24 (0, 0)) (by (with_reducible repeat (first | refine blk_drewN ?_ _ | refine blk_drew ?_ | refine blk_alloc ?_ _)); exact BK520.out) k_ hk_.1)⟩)) (below_size (by repeat (first | (with_reducible first | exact HB.out | apply below_alloc | apply pw_below_drewN | apply below_drew1 | refine below_set ?_ GE520.out) | exact HB.out)))); have n2_ := Aside0.mk (blk_below (g := gb520) (o := .cells #[.int .i64 a0_0, .string a0_1, .string a0_2, .int .i64 a0_3, .int .i64 a0_4, .bool a0_5, .slice A0_6 l0_6.length c0_6] 24 (0, 0)) (by (with_reducible repeat (first | refine blk_drewN ?_ _ | refine blk_drew ?_ | refine blk_alloc ?_ _)); exact BK520.out) hb); have n3_ := Aside0.mk (below_step (by repeat (first | (with_reducible first | exact HB.out | apply below_alloc | apply pw_below_drewN | apply below_drew1 | refine below_set ?_ GE520.out) | exact HB.out)) hb); clear BK520; clear HB; have HO525 := n0_; have HO528 := n1_; have BK520 := n2_; have HB := n3_; clear n0_ n1_ n2_ n3_; (try clear hb); (try clear hb2); (try clear hk); (try clear hi); (try clear ho0); (try clear ho1); obtain ⟨Ao13, co13, eo13⟩ := Kd.N_slice HO525.out; subst eo13) | (go_at_call 20; (with_reducible refine (incipitlaw18_refs.calls k (fun k_ => (some k_ ≠ (v527 : Value).ownBlock ∧ k_ ≠ gb520)) _ _ t523 t529 _ ?side1 A6.out).mono ?_); (case side1 => exact Kd.N_V (HO525.out)); rintro e w14 ⟨v530, rfl, ho0, hb⟩; have n0_ := Aside0.mk (Kd.N_elder' (by (with_reducible repeat (first | apply Kd.N_alloc | apply Kd.N_drewN | apply Kd.N_drew)); exact HO525.out) (Kd.N_base ho0) hb); have n1_ := Aside0.mk (Kd.N_elder' (by (with_reducible repeat (first | apply Kd.N_alloc | apply Kd.N_drewN | apply Kd.N_drew)); exact HO528.out) (Kd.N_base ho0) hb); have n2_ := Aside0.mk (Kd.N_lower (Kd.N_mono (ok' := fun k_ => some k_ ≠ (v527 : Value).ownBlock ∧ k_ ≠ gb520) ho0 (fun k_ hk_ => ⟨Or.elim hk_ (fun hs_ => hs_.1) (fun hn_ => (Kd.fresh' (Kd.N_lt (by (with_reducible repeat (first | apply Kd.N_alloc | apply Kd.N_drewN | apply Kd.N_drew)); exact HO528.out)) k_ hn_)), Or.elim hk_ (fun hs_ => hs_.2) (fun hn_ => (Kd.freshB (g := gb520) (o := .cells #[.int .i64 a0_0, .string a0_1, .string a0_2, .int .i64 a0_3, .int .i64 a0_4, .bool a0_5, .slice A0_6 l0_6.length c0_6] 24 (0, 0)) (by (with_reducible repeat (first | refine blk_drewN ?_ _ | refine blk_drew ?_ | refine blk_alloc ?_ _)); exact BK520.out) k_ hn_))⟩)) (below_size (by repeat (first | (with_reducible first | exact HB.out | apply below_alloc | apply pw_below_drewN | apply below_drew1 | refine below_set ?_ GE520.out) | exact HB.out)))); have n3_ := Aside0.mk (blk_below (g := gb520) (o := .cells #[.int .i64 a0_0, .string a0_1, .string a0_2, .int .i64 a0_3, .int .i64 a0_4, .bool a0_5, .slice A0_6 l0_6.length c0_6] 24 (0, 0)) (by (with_reducible repeat (first | refine blk_drewN ?_ _ | refine blk_drew ?_ | refine blk_alloc ?_ _)); exact BK520.out) hb); have n4_ := Aside0.mk (below_step (by repeat (first | (with_reducible first | exact HB.out | apply below_alloc | apply pw_below_drewN | apply below_drew1 | refine below_set ?_ GE520.out) | exact HB.out)) hb); clear HO525; clear HO528; clear BK520; clear HB; have HO525 := n0_; have HO528 := n1_; have HO531 := n2_; have BK520 := n3_; have HB := n4_; clear n0_ n1_ n2_ n3_ n4_; (try clear hb); (try clear hb2); (try clear hk); (try clear hi); (try clear ho0))))
    go_loopg [6, 8] k (fun kq v6 v8 w' => ∃ (x6_1 : List (S24)) (x8_1 : Int), v8 = .int .i64 x8_1 ∧ Aside0 (incipitlaw18_FootCoheres.l0 kq t521 t523 t526 x6_1 0 x8_1 = some r) ∧ Aside0 (kq ≤ k) ∧ Aside0 (Kd.N k24 24 w' w.heap.size (fun k_ => some k_ ≠ (v527 : Value).ownBlock ∧ some k_ ≠ (v6 : Value).ownBlock ∧ k_ ≠ gb520) (.slice Ao13 t523.length co13) t523) ∧ Aside0 (Kd.N k24 24 w' w.heap.size (fun k_ => some k_ ≠ ((.slice Ao13 t523.length co13) : Value).ownBlock ∧ some k_ ≠ (v6 : Value).ownBlock ∧ k_ ≠ gb520) v527 t526) ∧ Aside0 (Kd.N k24 24 w' w.heap.size (fun k_ => some k_ ≠ (v527 : Value).ownBlock ∧ k_ ≠ gb520) v6 x6_1) ∧ Aside0 (w'.heap[gb520]? = some (.cells #[.int .i64 a0_0, .string a0_1, .string a0_2, .int .i64 a0_3, .int .i64 a0_4, .bool a0_5, (.slice A0_6 l0_6.length c0_6)] 24 (0, 0))) ∧ Aside0 (Below w.heap.size w w'))
    case atStart => exact ⟨(t529), (0), (by first | rfl | (simp; done) | (simp [*]; done)), H', ⟨Nat.le_refl _⟩, ⟨by (with_reducible repeat (first | apply Kd.N_alloc | apply Kd.N_drewN | apply Kd.N_drew)); exact Kd.N_mono HO525.out (fun _ hk => ⟨hk.1.1, ⟨hk.2, hk.1.2⟩⟩)⟩, ⟨by (with_reducible repeat (first | apply Kd.N_alloc | apply Kd.N_drewN | apply Kd.N_drew)); exact Kd.N_mono HO528.out (fun _ hk => ⟨hk.1.1, ⟨hk.2, hk.1.2⟩⟩)⟩, ⟨by (with_reducible repeat (first | apply Kd.N_alloc | apply Kd.N_drewN | apply Kd.N_drew)); exact HO531.out⟩, ⟨by (with_reducible repeat (first | refine blk_drewN ?_ _ | refine blk_drew ?_ | refine blk_alloc ?_ _)); exact BK520.out⟩, ⟨by repeat (first | (with_reducible first | exact HB.out | apply below_alloc | apply pw_below_drewN | apply below_drew1 | refine below_set ?_ GE520.out) | exact HB.out)⟩⟩
    case round =>
      clear H'
      try clear c1
      try clear p2
      try clear c4
      try clear hcz11_0
      try clear hcz11_1
      try clear hcz11_2
      try clear hcz11_3
      try clear hcz11_4
      try clear hcz11_5
      try clear hcz11_6
      try clear hcz9_0
      try clear hcz9_1
      try clear hcz9_2
      try clear hcz9_3
      try clear hcz9_4
      try clear hcz9_5
      try clear hcz9_6
      try clear hfz11_0
      try clear hfz11_1
      try clear hfz11_2
      try clear hfz11_3
      try clear hfz11_4
      try clear hfz11_5
      try clear hfz11_6
      try clear hfz9_0
      try clear hfz9_1
      try clear hfz9_2
      try clear hfz9_3
      try clear hfz9_4
      try clear hfz9_5
      try clear hfz9_6
      obtain ⟨x6_1, x8_1, rfl, HA, HK1, HO_4, HO_5, HO_6, BK520, HB⟩ := hrel
      cases gk with
      | zero => exact absurd HA.out (by simp [incipitlaw18_FootCoheres.l0])
      | succ k1 =>
        have H := HA.out
        clear HA
        simp only [incipitlaw18_FootCoheres.l0] at H
        by_cases c15 : x8_1 < (t526.length : Int)
        · rw [if_pos c15] at H
          have c15b0 : decide (x8_1 < (t526.length : Int)) = true := decide_eq_true c15
          clear c15
          by_cases c16 : 0 ≤ x8_1
          · rw [if_pos c16] at H
            have c16b0 : decide (0 ≤ x8_1) = true := decide_eq_true c16
            clear c16
            by_cases c17 : ((rd_T24 t526 x8_1).f0) = 13
            · rw [if_pos c17] at H
              have c17b0 : (((rd_T24 t526 x8_1).f0) == 13) = true := beq_iff_eq.mpr c17
              have c17b1 : (((rd_T24 t526 x8_1).f0) != 13) = false := bne_eq_false_iff_eq.mpr c17
              clear c17
              by_cases c18 : ((rd_T24 t526 x8_1).f3) = (wrap64 (x8_1 + 1))
              · rw [if_pos c18] at H
                have c18b0 : (((rd_T24 t526 x8_1).f3) == (wrap64 (x8_1 + 1))) = true := beq_iff_eq.mpr c18
                have c18b1 : (((rd_T24 t526 x8_1).f3) != (wrap64 (x8_1 + 1))) = false := bne_eq_false_iff_eq.mpr c18
                clear c18
                by_cases c19 : ((rd_T24 t526 x8_1).f4) < 1
                · rw [if_pos c19] at H
                  exact absurd H (by simp)
                · rw [if_neg c19] at H
                  have c19b0 : decide (((rd_T24 t526 x8_1).f4) < 1) = false := decide_eq_false c19
                  clear c19
                  replace H := Option.bind_eq_some_iff.mp H
                  obtain ⟨t536, A200, H⟩ := H
                  replace H : (if t536 > 0 then (none) else ((incipitlaw18_refs.f k1 ((rd_T24 t526 x8_1).f6)).bind fun t538 => (if x6_1.length + t538.length < 1599289640401 then (incipitlaw18_FootCoheres.l0 k1 t521 t523 t526 (x6_1 ++ t538) 0 (wrap64 (x8_1 + 1))) else (none)))) = some r := H
                  have A20 := Aside0.mk A200
                  clear A200
                  by_cases c21 : t536 > 0
                  · rw [if_pos c21] at H
                    exact absurd H (by simp)
                  · rw [if_neg c21] at H
                    have c21b0 : decide (0 < t536) = false := decide_eq_false c21
                    clear c21
                    replace H := Option.bind_eq_some_iff.mp H
                    obtain ⟨t538, A220, H⟩ := H
                    replace H : (if x6_1.length + t538.length < 1599289640401 then (incipitlaw18_FootCoheres.l0 k1 t521 t523 t526 (x6_1 ++ t538) 0 (wrap64 (x8_1 + 1))) else (none)) = some r := H
                    have A22 := Aside0.mk A220
                    clear A220
                    by_cases c23 : x6_1.length + t538.length < 1599289640401
                    · rw [if_pos c23] at H
                      have LMc23 := Aside0.mk c23
                      clear c23
                      obtain ⟨y541, hy541⟩ : ∃ y_ : List (S24), y_ = (x6_1 ++ t538) := ⟨_, rfl⟩
                      replace H : (incipitlaw18_FootCoheres.l0 k1 t521 t523 t526 y541 0 (wrap64 (x8_1 + 1))) = some r := by first | (rw [hy541]; with_reducible exact H) | (have H2_ := (Option.bind_some _ _).symm.trans H; rw [hy541]; with_reducible exact H2_) | (have H2_ := (Option.bind_some _ _).symm.trans H; with_reducible exact H2_) | with_reducible exact H | (rw [hy541]; exact H) | exact H
                      have Ny541 := Aside0.mk hy541
                      clear hy541
                      have H' := Aside0.mk H
                      clear H
                      obtain ⟨Ao24, co24, eo24⟩ := Kd.N_slice HO_5.out
                      subst eo24
                      have p532 : 0 ≤ (x8_1 : Int) := of_decide_eq_true (by first | (with_reducible assumption) | assumption)
                      have q532 : x8_1 < (t526.length : Int) := of_decide_eq_true (by first | (with_reducible assumption) | assumption)
                      obtain ⟨ad532, A532_6, c532_6, e532, hx532_0, hx532_1, hx532_2, hx532_3, hx532_4, hx532_5, hx532_6, hl532_6, hi532_6⟩ := at_T24 (Kd.N_reads' HO_5.out).2.2 x8_1 p532 q532
                      cases e532
                      obtain ⟨ce532, hce532, hMe532, hcc532⟩ := Kd.N_get HO_5.out z24 x8_1 p532 (by first | exact q532 | exact of_decide_eq_true (by first | (with_reducible assumption) | assumption) | (have e_ := (Kd.N_reads' HO_5.out).1; omega))
                      obtain ⟨ua532_6, uc532_6, rfl, ul532_6, ge532_6⟩ := k24_openF hMe532
                      have hv532_6 := hcc532 6 _ rfl
                      rw [add_field _ _ 6 (by omega)] at hv532_6
                      replace hv532_6 := Option.some.inj (hv532_6.symm.trans hx532_6)
                      injection hv532_6 with hva_ hvn_ hvc_
                      rw [hva_] at ge532_6
                      rw [hvc_] at ul532_6
                      have HL532_6 := Aside0.mk (show Kd.V k24 24 _ w.heap.size _ _ ((rd_T24 t526 x8_1).f6) from Kd.V_mk ul532_6 ge532_6)
                      clear hva_ hvn_ hvc_ ge532_6 ul532_6
                      clear hcc532 hce532
                      have HR532_6 := Aside0.mk hi532_6
                      have HC532_6 := Aside0.mk hl532_6
                      clear hi532_6 hl532_6
                      replace p532 := eq_true p532
                      replace q532 := eq_true q532
                      have p533 : 0 ≤ (x8_1 : Int) := of_decide_eq_true (by first | (with_reducible assumption) | assumption)
                      have q533 : x8_1 < (t526.length : Int) := of_decide_eq_true (by first | (with_reducible assumption) | assumption)
                      obtain ⟨ad533, A533_6, c533_6, e533, hx533_0, hx533_1, hx533_2, hx533_3, hx533_4, hx533_5, hx533_6, hl533_6, hi533_6⟩ := at_T24 (Kd.N_reads' HO_5.out).2.2 x8_1 p533 q533
                      obtain rfl : ad532 = ad533 := (by injection e533)
                      obtain ⟨ce533, hce533, hMe533, hcc533⟩ := Kd.N_get HO_5.out z24 x8_1 p533 (by first | exact q533 | exact of_decide_eq_true (by first | (with_reducible assumption) | assumption) | (have e_ := (Kd.N_reads' HO_5.out).1; omega))
                      obtain ⟨ua533_6, uc533_6, rfl, ul533_6, ge533_6⟩ := k24_openF hMe533
                      have hv533_6 := hcc533 6 _ rfl
                      rw [add_field _ _ 6 (by omega)] at hv533_6
                      replace hv533_6 := Option.some.inj (hv533_6.symm.trans hx533_6)
                      injection hv533_6 with hva_ hvn_ hvc_
                      rw [hva_] at ge533_6
                      rw [hvc_] at ul533_6
                      have HL533_6 := Aside0.mk (show Kd.V k24 24 _ w.heap.size _ _ ((rd_T24 t526 x8_1).f6) from Kd.V_mk ul533_6 ge533_6)
                      clear hva_ hvn_ hvc_ ge533_6 ul533_6
                      clear hcc533 hce533
                      have HR533_6 := Aside0.mk hi533_6
                      have HC533_6 := Aside0.mk hl533_6
                      clear hi533_6 hl533_6
                      replace p533 := eq_true p533
                      replace q533 := eq_true q533
                      have ea_ := Option.some.inj (hx532_6.symm.trans hx533_6)
                      injection ea_ with ea_ en_ ec_
                      subst ea_
                      subst ec_
                      clear en_
                      have p534 : 0 ≤ (x8_1 : Int) := of_decide_eq_true (by first | (with_reducible assumption) | assumption)
                      have q534 : x8_1 < (t526.length : Int) := of_decide_eq_true (by first | (with_reducible assumption) | assumption)
                      obtain ⟨ad534, A534_6, c534_6, e534, hx534_0, hx534_1, hx534_2, hx534_3, hx534_4, hx534_5, hx534_6, hl534_6, hi534_6⟩ := at_T24 (Kd.N_reads' HO_5.out).2.2 x8_1 p534 q534
                      obtain rfl : ad532 = ad534 := (by injection e534)
                      obtain ⟨ce534, hce534, hMe534, hcc534⟩ := Kd.N_get HO_5.out z24 x8_1 p534 (by first | exact q534 | exact of_decide_eq_true (by first | (with_reducible assumption) | assumption) | (have e_ := (Kd.N_reads' HO_5.out).1; omega))
                      obtain ⟨ua534_6, uc534_6, rfl, ul534_6, ge534_6⟩ := k24_openF hMe534
                      have hv534_6 := hcc534 6 _ rfl
                      rw [add_field _ _ 6 (by omega)] at hv534_6
                      replace hv534_6 := Option.some.inj (hv534_6.symm.trans hx534_6)
                      injection hv534_6 with hva_ hvn_ hvc_
                      rw [hva_] at ge534_6
                      rw [hvc_] at ul534_6
                      have HL534_6 := Aside0.mk (show Kd.V k24 24 _ w.heap.size _ _ ((rd_T24 t526 x8_1).f6) from Kd.V_mk ul534_6 ge534_6)
                      clear hva_ hvn_ hvc_ ge534_6 ul534_6
                      clear hcc534 hce534
                      have HR534_6 := Aside0.mk hi534_6
                      have HC534_6 := Aside0.mk hl534_6
                      clear hi534_6 hl534_6
                      replace p534 := eq_true p534
                      replace q534 := eq_true q534
                      have ea_ := Option.some.inj (hx532_6.symm.trans hx534_6)
                      injection ea_ with ea_ en_ ec_
                      subst ea_
                      subst ec_
                      clear en_
                      have p535 : 0 ≤ (x8_1 : Int) := of_decide_eq_true (by first | (with_reducible assumption) | assumption)
                      have q535 : x8_1 < (t526.length : Int) := of_decide_eq_true (by first | (with_reducible assumption) | assumption)
                      obtain ⟨ad535, A535_6, c535_6, e535, hx535_0, hx535_1, hx535_2, hx535_3, hx535_4, hx535_5, hx535_6, hl535_6, hi535_6⟩ := at_T24 (Kd.N_reads' HO_5.out).2.2 x8_1 p535 q535
                      obtain rfl : ad532 = ad535 := (by injection e535)
                      obtain ⟨ce535, hce535, hMe535, hcc535⟩ := Kd.N_get HO_5.out z24 x8_1 p535 (by first | exact q535 | exact of_decide_eq_true (by first | (with_reducible assumption) | assumption) | (have e_ := (Kd.N_reads' HO_5.out).1; omega))
                      obtain ⟨ua535_6, uc535_6, rfl, ul535_6, ge535_6⟩ := k24_openF hMe535
                      have hv535_6 := hcc535 6 _ rfl
                      rw [add_field _ _ 6 (by omega)] at hv535_6
                      replace hv535_6 := Option.some.inj (hv535_6.symm.trans hx535_6)
                      injection hv535_6 with hva_ hvn_ hvc_
                      rw [hva_] at ge535_6
                      rw [hvc_] at ul535_6
                      have HL535_6 := Aside0.mk (show Kd.V k24 24 _ w.heap.size _ _ ((rd_T24 t526 x8_1).f6) from Kd.V_mk ul535_6 ge535_6)
                      clear hva_ hvn_ hvc_ ge535_6 ul535_6
                      clear hcc535 hce535
                      have HR535_6 := Aside0.mk hi535_6
                      have HC535_6 := Aside0.mk hl535_6
                      clear hi535_6 hl535_6
                      replace p535 := eq_true p535
                      replace q535 := eq_true q535
                      have ea_ := Option.some.inj (hx532_6.symm.trans hx535_6)
                      injection ea_ with ea_ en_ ec_
                      subst ea_
                      subst ec_
                      clear en_
                      go_wp2_with (first | (go_at_call 22; (with_reducible refine (incipitlaw18_notes.calls k1 _ _ ((rd_T24 t526 x8_1).f6) t536 _ ?side1 ?side2 A20.out).mono ?_); (case side1 => repeat (first | exact (by repeat (first | (with_reducible exact HR535_6.out) | (with_reducible refine Kd.C_alloc ?_ _) | (with_reducible refine Kd.C_drewN ?_ _) | (with_reducible refine Kd.C_drew ?_) | exact HR535_6.out)) | (with_reducible refine Kd.C_alloc ?_ _) | (with_reducible refine Kd.C_drewN ?_ _) | (with_reducible refine Kd.C_drew ?_))); (case side2 => exact HC535_6.out); rintro e w' ⟨rfl, ⟨nd, rfl⟩⟩; (try first | exact ⟨rfl, _, World.drewN_drewN _ _ _⟩ | exact ⟨rfl, _, Eq.trans (World.drewN_drewN _ _ _) (congrArg (World.drewN _) (Nat.add_assoc _ _ _))⟩); have p537 : 0 ≤ (x8_1 : Int) := of_decide_eq_true (by first | (with_reducible assumption) | assumption); have q537 : x8_1 < (t526.length : Int) := of_decide_eq_true (by first | (with_reducible assumption) | assumption); obtain ⟨ad537, A537_6, c537_6, e537, hx537_0, hx537_1, hx537_2, hx537_3, hx537_4, hx537_5, hx537_6, hl537_6, hi537_6⟩ := at_T24 (Kd.N_reads' HO_5.out).2.2 x8_1 p537 q537; obtain rfl : ad532 = ad537 := (by injection e537); obtain ⟨ce537, hce537, hMe537, hcc537⟩ := Kd.N_get HO_5.out z24 x8_1 p537 (by first | exact q537 | exact of_decide_eq_true (by first | (with_reducible assumption) | assumption) | (have e_ := (Kd.N_reads' HO_5.out).1; omega)); obtain ⟨ua537_6, uc537_6, rfl, ul537_6, ge537_6⟩ := k24_openF hMe537; have hv537_6 := hcc537 6 _ rfl; rw [add_field _ _ 6 (by omega)] at hv537_6; replace hv537_6 := Option.some.inj (hv537_6.symm.trans hx537_6); injection hv537_6 with hva_ hvn_ hvc_; rw [hva_] at ge537_6; rw [hvc_] at ul537_6; have HL537_6 := Aside0.mk (show Kd.V k24 24 _ w.heap.size _ _ ((rd_T24 t526 x8_1).f6) from Kd.V_mk ul537_6 ge537_6); clear hva_ hvn_ hvc_ ge537_6 ul537_6; clear hcc537 hce537; have HR537_6 := Aside0.mk hi537_6; have HC537_6 := Aside0.mk hl537_6; clear hi537_6 hl537_6; replace p537 := eq_true p537; replace q537 := eq_true q537; have ea_ := Option.some.inj (hx532_6.symm.trans hx537_6); injection ea_ with ea_ en_ ec_; subst ea_; subst ec_; clear en_) | (go_at_call 20; (with_reducible refine (incipitlaw18_refs.calls k1 (fun k_ => ((some k_ ≠ (.slice Ao13 t523.length co13 : Value).ownBlock ∧ (some k_ ≠ (u6 : Value).ownBlock ∧ k_ ≠ gb520)) ∧ some k_ ≠ (.slice (some ad532) t526.length co24 : Value).ownBlock)) _ _ ((rd_T24 t526 x8_1).f6) t538 _ ?side1 A22.out).mono ?_); (case side1 => exact HL537_6.out); rintro e w25 ⟨v539, rfl, ho0, hb⟩; have n0_ := Aside0.mk (Kd.N_elder' (by (with_reducible repeat (first | apply Kd.N_alloc | apply Kd.N_drewN | apply Kd.N_drew)); exact HO_4.out) (Kd.N_base ho0) hb); have n1_ := Aside0.mk (Kd.N_elder' (by (with_reducible repeat (first | apply Kd.N_alloc | apply Kd.N_drewN | apply Kd.N_drew)); exact HO_5.out) (Kd.N_base ho0) hb); have n2_ := Aside0.mk (Kd.N_elder' (by (with_reducible repeat (first | apply Kd.N_alloc | apply Kd.N_drewN | apply Kd.N_drew)); exact HO_6.out) (Kd.N_base ho0) hb); have n3_ := Aside0.mk (Kd.V_elder' (by (with_reducible repeat (first | apply Kd.V_alloc | apply Kd.V_drewN | apply Kd.V_drew)); exact HL532_6.out) (Kd.N_base ho0) hb); have n4_ := Aside0.mk (Kd.V_elder' (by (with_reducible repeat (first | apply Kd.V_alloc | apply Kd.V_drewN | apply Kd.V_drew)); exact HL533_6.out) (Kd.N_base ho0) hb); have n5_ := Aside0.mk (Kd.V_elder' (by (with_reducible repeat (first | apply Kd.V_alloc | apply Kd.V_drewN | apply Kd.V_drew)); exact HL534_6.out) (Kd.N_base ho0) hb); have n6_ := Aside0.mk (Kd.V_elder' (by (with_reducible repeat (first | apply Kd.V_alloc | apply Kd.V_drewN | apply Kd.V_drew)); exact HL535_6.out) (Kd.N_base ho0) hb); have n7_ := Aside0.mk (Kd.V_elder' (by (with_reducible repeat (first | apply Kd.V_alloc | apply Kd.V_drewN | apply Kd.V_drew)); exact HL537_6.out) (Kd.N_base ho0) hb); have n8_ := Aside0.mk (Kd.N_lower (Kd.N_mono (ok' := fun k_ => some k_ ≠ (.slice Ao13 t523.length co13 : Value).ownBlock ∧ some k_ ≠ (.slice (some ad532) t526.length co24 : Value).ownBlock ∧ some k_ ≠ (u6 : Value).ownBlock ∧ k_ ≠ gb520) ho0 (fun k_ hk_ => ⟨Or.elim hk_ (fun hs_ => hs_.1.1) (fun hn_ => (Kd.fresh' (Kd.N_lt (by (with_reducible repeat (first | apply Kd.N_alloc | apply Kd.N_drewN | apply Kd.N_drew)); exact HO_4.out)) k_ hn_)), Or.elim hk_ (fun hs_ => hs_.2) (fun hn_ => (Kd.fresh' (Kd.N_lt (by (with_reducible repeat (first | apply Kd.N_alloc | apply Kd.N_drewN | apply Kd.N_drew)); exact HO_5.out)) k_ hn_)), Or.elim hk_ (fun hs_ => hs_.1.2.1) (fun hn_ => (Kd.fresh' (Kd.N_lt (by (with_reducible repeat (first | apply Kd.N_alloc | apply Kd.N_drewN | apply Kd.N_drew)); exact HO_6.out)) k_ hn_)), Or.elim hk_ (fun hs_ => hs_.1.2.2) (fun hn_ => (Kd.freshB (g := gb520) (o := .cells #[.int .i64 a0_0, .string a0_1, .string a0_2, .int .i64 a0_3, .int .i64 a0_4, .bool a0_5, .slice A0_6 l0_6.length c0_6] 24 (0, 0)) (by (with_reducible repeat (first | refine blk_drewN ?_ _ | refine blk_drew ?_ | refine blk_alloc ?_ _)); exact BK520.out) k_ hn_))⟩)) (below_size (by repeat (first | (with_reducible first | exact HB.out | apply below_alloc | apply pw_below_drewN | apply below_drew1 | refine below_set ?_ GE520.out) | exact HB.out)))); have n9_ := Aside0.mk (blk_below (g := gb520) (o := .cells #[.int .i64 a0_0, .string a0_1, .string a0_2, .int .i64 a0_3, .int .i64 a0_4, .bool a0_5, .slice A0_6 l0_6.length c0_6] 24 (0, 0)) (by (with_reducible repeat (first | refine blk_drewN ?_ _ | refine blk_drew ?_ | refine blk_alloc ?_ _)); exact BK520.out) hb); (first | have n10_ := Aside0.mk (Kd.C_below HR532_6.out hb) | have n10_ := Aside0.mk (Kd.C_below (Kd.C_drewN HR532_6.out _) hb) | have n10_ := Aside0.mk (Kd.C_below (Kd.C_drewN (Kd.C_drewN HR532_6.out _) _) hb)); (first | have n11_ := Aside0.mk (Kd.C_below HR533_6.out hb) | have n11_ := Aside0.mk (Kd.C_below (Kd.C_drewN HR533_6.out _) hb) | have n11_ := Aside0.mk (Kd.C_below (Kd.C_drewN (Kd.C_drewN HR533_6.out _) _) hb)); (first | have n12_ := Aside0.mk (Kd.C_below HR534_6.out hb) | have n12_ := Aside0.mk (Kd.C_below (Kd.C_drewN HR534_6.out _) hb) | have n12_ := Aside0.mk (Kd.C_below (Kd.C_drewN (Kd.C_drewN HR534_6.out _) _) hb)); (first | have n13_ := Aside0.mk (Kd.C_below HR535_6.out hb) | have n13_ := Aside0.mk (Kd.C_below (Kd.C_drewN HR535_6.out _) hb) | have n13_ := Aside0.mk (Kd.C_below (Kd.C_drewN (Kd.C_drewN HR535_6.out _) _) hb)); (first | have n14_ := Aside0.mk (Kd.C_below HR537_6.out hb) | have n14_ := Aside0.mk (Kd.C_below (Kd.C_drewN HR537_6.out _) hb) | have n14_ := Aside0.mk (Kd.C_below (Kd.C_drewN (Kd.C_drewN HR537_6.out _) _) hb)); have n15_ := Aside0.mk (below_step (by repeat (first | (with_reducible first | exact HB.out | apply below_alloc | apply pw_below_drewN | apply below_drew1 | refine below_set ?_ GE520.out) | exact HB.out)) hb); clear HO_4; clear HO_5; clear HO_6; clear HL532_6; clear HL533_6; clear HL534_6; clear HL535_6; clear HL537_6; clear BK520; clear HR532_6; clear HR533_6; clear HR534_6; clear HR535_6; clear HR537_6; clear HB; have HO_4 := n0_; have HO_5 := n1_; have HO_6 := n2_; have HL532_6 := n3_; have HL533_6 := n4_; have HL534_6 := n5_; have HL535_6 := n6_; have HL537_6 := n7_; have HO540 := n8_; have BK520 := n9_; have HR532_6 := n10_; have HR533_6 := n11_; have HR534_6 := n12_; have HR535_6 := n13_; have HR537_6 := n14_; have HB := n15_; clear n0_ n1_ n2_ n3_ n4_ n5_ n6_ n7_ n8_ n9_ n10_ n11_ n12_ n13_ n14_ n15_; (try clear hb); (try clear hb2); (try clear hk); (try clear hi); (try clear ho0); obtain ⟨Ao27, co27, eo27⟩ := Kd.N_slice HO540.out; subst eo27) | ((with_reducible refine gate_builtin (b := .append) (xs := #[.tmp 64, .tmp 70]) rfl ?_); (try (refine gate_guard (by rfl) ?_; dsimp only)); at_builtin; refine Kd.N_append_rows k24 (w0 := w) w.heap.size rfl (.tmp 64) (.tmp 70) 22 24 (.agg #[(.int .i64 0), (.string ⟨#[]⟩), (.string ⟨#[]⟩), (.int .i64 0), (.int .i64 0), (.bool false), (.slice none 0 0)]) 88 rfl Tryd.underlying22 info24 rfl (by decide) (by omega) u6 x6_1 t538 _ _ _ (fun k_ => some k_ ≠ (.slice (some ad532) t526.length co24 : Value).ownBlock ∧ k_ ≠ gb520) (fun k_ => ((fun k_ => some k_ ≠ (.slice (some ad532) t526.length co24 : Value).ownBlock ∧ k_ ≠ gb520)) k_ ∧ some k_ ≠ (u6 : Value).ownBlock) rfl rfl ?aO ?aR (fun _ hk => hk) ?aF ?aB ?aS ?aL ?_; (case aR => exact (by skip; exact Kd.N_F (Kd.N_mono (ok' := (fun k_ => ((fun k_ => some k_ ≠ (.slice (some ad532) t526.length co24 : Value).ownBlock ∧ k_ ≠ gb520)) k_ ∧ some k_ ≠ (u6 : Value).ownBlock)) (HO540.out) (fun k_ hk => ⟨⟨hk.2.1, hk.2.2.2⟩, hk.2.2.1⟩)))); (case aB => exact (by repeat (first | (with_reducible first | exact HB.out | apply below_alloc | apply pw_below_drewN | apply below_drew1 | refine below_set ?_ GE520.out) | exact HB.out))); (case aF => exact (fun k_ hk => ⟨Kd.fresh' (Kd.N_lt (by (with_reducible repeat (first | apply Kd.N_alloc | apply Kd.N_drewN | apply Kd.N_drew)); exact HO_5.out)) k_ hk, Kd.freshB (g := gb520) (o := .cells #[.int .i64 a0_0, .string a0_1, .string a0_2, .int .i64 a0_3, .int .i64 a0_4, .bool a0_5, .slice A0_6 l0_6.length c0_6] 24 (0, 0)) (by (with_reducible repeat (first | refine blk_drewN ?_ _ | refine blk_drew ?_ | refine blk_alloc ?_ _)); exact BK520.out) k_ hk⟩)); (case aO => exact (by (with_reducible repeat (first | apply Kd.N_alloc | apply Kd.N_drewN | apply Kd.N_drew)); exact Kd.N_mono HO_6.out (fun _ hk => ⟨hk.1.1, hk.1.2⟩))); (case aS => exact (below_size (by repeat (first | (with_reducible first | exact HB.out | apply below_alloc | apply pw_below_drewN | apply below_drew1 | refine below_set ?_ GE520.out) | exact HB.out)))); (case aL => have := LMc23.out; omega); intro v542 w26 ho hb hg hat; rw [← Ny541.out] at ho; have n0_ := Aside0.mk (Kd.N_afterv (ok := (fun k_ => some k_ ≠ (.slice (some ad532) t526.length co24 : Value).ownBlock ∧ some k_ ≠ (.slice Ao27 t538.length co27 : Value).ownBlock ∧ k_ ≠ gb520)) (by (with_reducible repeat (first | apply Kd.N_alloc | apply Kd.N_drewN | apply Kd.N_drew)); exact Kd.N_mono HO_4.out (fun _ hk => ⟨⟨hk.1.1, ⟨hk.2, hk.1.2.2⟩⟩, hk.1.2.1⟩)) hg hat); have n1_ := Aside0.mk (Kd.N_afterv (ok := (fun k_ => some k_ ≠ (.slice Ao13 t523.length co13 : Value).ownBlock ∧ some k_ ≠ (.slice Ao27 t538.length co27 : Value).ownBlock ∧ k_ ≠ gb520)) (by (with_reducible repeat (first | apply Kd.N_alloc | apply Kd.N_drewN | apply Kd.N_drew)); exact Kd.N_mono HO_5.out (fun _ hk => ⟨⟨hk.1.1, ⟨hk.2, hk.1.2.2⟩⟩, hk.1.2.1⟩)) hg hat); have n2_ := Aside0.mk (blk_grown (g := gb520) (o := .cells #[.int .i64 a0_0, .string a0_1, .string a0_2, .int .i64 a0_3, .int .i64 a0_4, .bool a0_5, .slice A0_6 l0_6.length c0_6] 24 (0, 0)) (by (with_reducible repeat (first | refine blk_drewN ?_ _ | refine blk_drew ?_ | refine blk_alloc ?_ _)); exact BK520.out) hg (Kd.N_away HO_6.out (fun _ hk => hk.1.2))); have n3_ := Aside0.mk (Kd.V_afterv (ok := (fun k_ => some k_ ≠ (.slice Ao13 t523.length co13 : Value).ownBlock ∧ some k_ ≠ (.slice (some ad532) t526.length co24 : Value).ownBlock ∧ some k_ ≠ (.slice Ao27 t538.length co27 : Value).ownBlock ∧ k_ ≠ gb520)) (by (with_reducible repeat (first | apply Kd.V_alloc | apply Kd.V_drewN | apply Kd.V_drew)); exact Kd.V_mono HL532_6.out (fun _ hk => ⟨⟨hk.1.1.1, ⟨hk.1.2, ⟨hk.2, hk.1.1.2.2⟩⟩⟩, hk.1.1.2.1⟩)) hg hat); have n4_ := Aside0.mk (Kd.V_afterv (ok := (fun k_ => some k_ ≠ (.slice Ao13 t523.length co13 : Value).ownBlock ∧ some k_ ≠ (.slice (some ad532) t526.length co24 : Value).ownBlock ∧ some k_ ≠ (.slice Ao27 t538.length co27 : Value).ownBlock ∧ k_ ≠ gb520)) (by (with_reducible repeat (first | apply Kd.V_alloc | apply Kd.V_drewN | apply Kd.V_drew)); exact Kd.V_mono HL533_6.out (fun _ hk => ⟨⟨hk.1.1.1, ⟨hk.1.2, ⟨hk.2, hk.1.1.2.2⟩⟩⟩, hk.1.1.2.1⟩)) hg hat); have n5_ := Aside0.mk (Kd.V_afterv (ok := (fun k_ => some k_ ≠ (.slice Ao13 t523.length co13 : Value).ownBlock ∧ some k_ ≠ (.slice (some ad532) t526.length co24 : Value).ownBlock ∧ some k_ ≠ (.slice Ao27 t538.length co27 : Value).ownBlock ∧ k_ ≠ gb520)) (by (with_reducible repeat (first | apply Kd.V_alloc | apply Kd.V_drewN | apply Kd.V_drew)); exact Kd.V_mono HL534_6.out (fun _ hk => ⟨⟨hk.1.1.1, ⟨hk.1.2, ⟨hk.2, hk.1.1.2.2⟩⟩⟩, hk.1.1.2.1⟩)) hg hat); have n6_ := Aside0.mk (Kd.V_afterv (ok := (fun k_ => some k_ ≠ (.slice Ao13 t523.length co13 : Value).ownBlock ∧ some k_ ≠ (.slice (some ad532) t526.length co24 : Value).ownBlock ∧ some k_ ≠ (.slice Ao27 t538.length co27 : Value).ownBlock ∧ k_ ≠ gb520)) (by (with_reducible repeat (first | apply Kd.V_alloc | apply Kd.V_drewN | apply Kd.V_drew)); exact Kd.V_mono HL535_6.out (fun _ hk => ⟨⟨hk.1.1.1, ⟨hk.1.2, ⟨hk.2, hk.1.1.2.2⟩⟩⟩, hk.1.1.2.1⟩)) hg hat); have n7_ := Aside0.mk (Kd.V_afterv (ok := (fun k_ => some k_ ≠ (.slice Ao13 t523.length co13 : Value).ownBlock ∧ some k_ ≠ (.slice (some ad532) t526.length co24 : Value).ownBlock ∧ some k_ ≠ (.slice Ao27 t538.length co27 : Value).ownBlock ∧ k_ ≠ gb520)) (by (with_reducible repeat (first | apply Kd.V_alloc | apply Kd.V_drewN | apply Kd.V_drew)); exact Kd.V_mono HL537_6.out (fun _ hk => ⟨⟨hk.1.1.1, ⟨hk.1.2, ⟨hk.2, hk.1.1.2.2⟩⟩⟩, hk.1.1.2.1⟩)) hg hat); have n8_ := Aside0.mk (Kd.N_afterv (ok := (fun k_ => some k_ ≠ (.slice Ao13 t523.length co13 : Value).ownBlock ∧ some k_ ≠ (.slice (some ad532) t526.length co24 : Value).ownBlock ∧ k_ ≠ gb520)) (by (with_reducible repeat (first | apply Kd.N_alloc | apply Kd.N_drewN | apply Kd.N_drew)); exact Kd.N_mono HO540.out (fun _ hk => ⟨⟨hk.1, ⟨hk.2.1, hk.2.2.2⟩⟩, hk.2.2.1⟩)) hg hat); have n9_ := Aside0.mk (hb); have n10_ := Aside0.mk (ho); clear HO_4; clear HO_5; clear BK520; clear HL532_6; clear HL533_6; clear HL534_6; clear HL535_6; clear HL537_6; clear HO540; clear HB; clear HO_6; have HO_4 := n0_; have HO_5 := n1_; have BK520 := n2_; have HL532_6 := n3_; have HL533_6 := n4_; have HL534_6 := n5_; have HL535_6 := n6_; have HL537_6 := n7_; have HO540 := n8_; have HB := n9_; have HO543 := n10_; clear n0_ n1_ n2_ n3_ n4_ n5_ n6_ n7_ n8_ n9_ n10_; clear ho hb hg hat))
                      repeat (go_quiet (first | (go_at_call 22; (with_reducible refine (incipitlaw18_notes.calls k1 _ _ ((rd_T24 t526 x8_1).f6) t536 _ ?side1 ?side2 A20.out).mono ?_); (case side1 => repeat (first | exact (by repeat (first | (with_reducible exact HR535_6.out) | (with_reducible refine Kd.C_alloc ?_ _) | (with_reducible refine Kd.C_drewN ?_ _) | (with_reducible refine Kd.C_drew ?_) | exact HR535_6.out)) | (with_reducible refine Kd.C_alloc ?_ _) | (with_reducible refine Kd.C_drewN ?_ _) | (with_reducible refine Kd.C_drew ?_))); (case side2 => exact HC535_6.out); rintro e w' ⟨rfl, ⟨nd, rfl⟩⟩; (try first | exact ⟨rfl, _, World.drewN_drewN _ _ _⟩ | exact ⟨rfl, _, Eq.trans (World.drewN_drewN _ _ _) (congrArg (World.drewN _) (Nat.add_assoc _ _ _))⟩); have p537 : 0 ≤ (x8_1 : Int) := of_decide_eq_true (by first | (with_reducible assumption) | assumption); have q537 : x8_1 < (t526.length : Int) := of_decide_eq_true (by first | (with_reducible assumption) | assumption); obtain ⟨ad537, A537_6, c537_6, e537, hx537_0, hx537_1, hx537_2, hx537_3, hx537_4, hx537_5, hx537_6, hl537_6, hi537_6⟩ := at_T24 (Kd.N_reads' HO_5.out).2.2 x8_1 p537 q537; obtain rfl : ad532 = ad537 := (by injection e537); obtain ⟨ce537, hce537, hMe537, hcc537⟩ := Kd.N_get HO_5.out z24 x8_1 p537 (by first | exact q537 | exact of_decide_eq_true (by first | (with_reducible assumption) | assumption) | (have e_ := (Kd.N_reads' HO_5.out).1; omega)); obtain ⟨ua537_6, uc537_6, rfl, ul537_6, ge537_6⟩ := k24_openF hMe537; have hv537_6 := hcc537 6 _ rfl; rw [add_field _ _ 6 (by omega)] at hv537_6; replace hv537_6 := Option.some.inj (hv537_6.symm.trans hx537_6); injection hv537_6 with hva_ hvn_ hvc_; rw [hva_] at ge537_6; rw [hvc_] at ul537_6; have HL537_6 := Aside0.mk (show Kd.V k24 24 _ w.heap.size _ _ ((rd_T24 t526 x8_1).f6) from Kd.V_mk ul537_6 ge537_6); clear hva_ hvn_ hvc_ ge537_6 ul537_6; clear hcc537 hce537; have HR537_6 := Aside0.mk hi537_6; have HC537_6 := Aside0.mk hl537_6; clear hi537_6 hl537_6; replace p537 := eq_true p537; replace q537 := eq_true q537; have ea_ := Option.some.inj (hx532_6.symm.trans hx537_6); injection ea_ with ea_ en_ ec_; subst ea_; subst ec_; clear en_) | (go_at_call 20; (with_reducible refine (incipitlaw18_refs.calls k1 (fun k_ => ((some k_ ≠ (.slice Ao13 t523.length co13 : Value).ownBlock ∧ (some k_ ≠ (u6 : Value).ownBlock ∧ k_ ≠ gb520)) ∧ some k_ ≠ (.slice (some ad532) t526.length co24 : Value).ownBlock)) _ _ ((rd_T24 t526 x8_1).f6) t538 _ ?side1 A22.out).mono ?_); (case side1 => exact HL537_6.out); rintro e w25 ⟨v539, rfl, ho0, hb⟩; have n0_ := Aside0.mk (Kd.N_elder' (by (with_reducible repeat (first | apply Kd.N_alloc | apply Kd.N_drewN | apply Kd.N_drew)); exact HO_4.out) (Kd.N_base ho0) hb); have n1_ := Aside0.mk (Kd.N_elder' (by (with_reducible repeat (first | apply Kd.N_alloc | apply Kd.N_drewN | apply Kd.N_drew)); exact HO_5.out) (Kd.N_base ho0) hb); have n2_ := Aside0.mk (Kd.N_elder' (by (with_reducible repeat (first | apply Kd.N_alloc | apply Kd.N_drewN | apply Kd.N_drew)); exact HO_6.out) (Kd.N_base ho0) hb); have n3_ := Aside0.mk (Kd.V_elder' (by (with_reducible repeat (first | apply Kd.V_alloc | apply Kd.V_drewN | apply Kd.V_drew)); exact HL532_6.out) (Kd.N_base ho0) hb); have n4_ := Aside0.mk (Kd.V_elder' (by (with_reducible repeat (first | apply Kd.V_alloc | apply Kd.V_drewN | apply Kd.V_drew)); exact HL533_6.out) (Kd.N_base ho0) hb); have n5_ := Aside0.mk (Kd.V_elder' (by (with_reducible repeat (first | apply Kd.V_alloc | apply Kd.V_drewN | apply Kd.V_drew)); exact HL534_6.out) (Kd.N_base ho0) hb); have n6_ := Aside0.mk (Kd.V_elder' (by (with_reducible repeat (first | apply Kd.V_alloc | apply Kd.V_drewN | apply Kd.V_drew)); exact HL535_6.out) (Kd.N_base ho0) hb); have n7_ := Aside0.mk (Kd.V_elder' (by (with_reducible repeat (first | apply Kd.V_alloc | apply Kd.V_drewN | apply Kd.V_drew)); exact HL537_6.out) (Kd.N_base ho0) hb); have n8_ := Aside0.mk (Kd.N_lower (Kd.N_mono (ok' := fun k_ => some k_ ≠ (.slice Ao13 t523.length co13 : Value).ownBlock ∧ some k_ ≠ (.slice (some ad532) t526.length co24 : Value).ownBlock ∧ some k_ ≠ (u6 : Value).ownBlock ∧ k_ ≠ gb520) ho0 (fun k_ hk_ => ⟨Or.elim hk_ (fun hs_ => hs_.1.1) (fun hn_ => (Kd.fresh' (Kd.N_lt (by (with_reducible repeat (first | apply Kd.N_alloc | apply Kd.N_drewN | apply Kd.N_drew)); exact HO_4.out)) k_ hn_)), Or.elim hk_ (fun hs_ => hs_.2) (fun hn_ => (Kd.fresh' (Kd.N_lt (by (with_reducible repeat (first | apply Kd.N_alloc | apply Kd.N_drewN | apply Kd.N_drew)); exact HO_5.out)) k_ hn_)), Or.elim hk_ (fun hs_ => hs_.1.2.1) (fun hn_ => (Kd.fresh' (Kd.N_lt (by (with_reducible repeat (first | apply Kd.N_alloc | apply Kd.N_drewN | apply Kd.N_drew)); exact HO_6.out)) k_ hn_)), Or.elim hk_ (fun hs_ => hs_.1.2.2) (fun hn_ => (Kd.freshB (g := gb520) (o := .cells #[.int .i64 a0_0, .string a0_1, .string a0_2, .int .i64 a0_3, .int .i64 a0_4, .bool a0_5, .slice A0_6 l0_6.length c0_6] 24 (0, 0)) (by (with_reducible repeat (first | refine blk_drewN ?_ _ | refine blk_drew ?_ | refine blk_alloc ?_ _)); exact BK520.out) k_ hn_))⟩)) (below_size (by repeat (first | (with_reducible first | exact HB.out | apply below_alloc | apply pw_below_drewN | apply below_drew1 | refine below_set ?_ GE520.out) | exact HB.out)))); have n9_ := Aside0.mk (blk_below (g := gb520) (o := .cells #[.int .i64 a0_0, .string a0_1, .string a0_2, .int .i64 a0_3, .int .i64 a0_4, .bool a0_5, .slice A0_6 l0_6.length c0_6] 24 (0, 0)) (by (with_reducible repeat (first | refine blk_drewN ?_ _ | refine blk_drew ?_ | refine blk_alloc ?_ _)); exact BK520.out) hb); (first | have n10_ := Aside0.mk (Kd.C_below HR532_6.out hb) | have n10_ := Aside0.mk (Kd.C_below (Kd.C_drewN HR532_6.out _) hb) | have n10_ := Aside0.mk (Kd.C_below (Kd.C_drewN (Kd.C_drewN HR532_6.out _) _) hb)); (first | have n11_ := Aside0.mk (Kd.C_below HR533_6.out hb) | have n11_ := Aside0.mk (Kd.C_below (Kd.C_drewN HR533_6.out _) hb) | have n11_ := Aside0.mk (Kd.C_below (Kd.C_drewN (Kd.C_drewN HR533_6.out _) _) hb)); (first | have n12_ := Aside0.mk (Kd.C_below HR534_6.out hb) | have n12_ := Aside0.mk (Kd.C_below (Kd.C_drewN HR534_6.out _) hb) | have n12_ := Aside0.mk (Kd.C_below (Kd.C_drewN (Kd.C_drewN HR534_6.out _) _) hb)); (first | have n13_ := Aside0.mk (Kd.C_below HR535_6.out hb) | have n13_ := Aside0.mk (Kd.C_below (Kd.C_drewN HR535_6.out _) hb) | have n13_ := Aside0.mk (Kd.C_below (Kd.C_drewN (Kd.C_drewN HR535_6.out _) _) hb)); (first | have n14_ := Aside0.mk (Kd.C_below HR537_6.out hb) | have n14_ := Aside0.mk (Kd.C_below (Kd.C_drewN HR537_6.out _) hb) | have n14_ := Aside0.mk (Kd.C_below (Kd.C_drewN (Kd.C_drewN HR537_6.out _) _) hb)); have n15_ := Aside0.mk (below_step (by repeat (first | (with_reducible first | exact HB.out | apply below_alloc | apply pw_below_drewN | apply below_drew1 | refine below_set ?_ GE520.out) | exact HB.out)) hb); clear HO_4; clear HO_5; clear HO_6; clear HL532_6; clear HL533_6; clear HL534_6; clear HL535_6; clear HL537_6; clear BK520; clear HR532_6; clear HR533_6; clear HR534_6; clear HR535_6; clear HR537_6; clear HB; have HO_4 := n0_; have HO_5 := n1_; have HO_6 := n2_; have HL532_6 := n3_; have HL533_6 := n4_; have HL534_6 := n5_; have HL535_6 := n6_; have HL537_6 := n7_; have HO540 := n8_; have BK520 := n9_; have HR532_6 := n10_; have HR533_6 := n11_; have HR534_6 := n12_; have HR535_6 := n13_; have HR537_6 := n14_; have HB := n15_; clear n0_ n1_ n2_ n3_ n4_ n5_ n6_ n7_ n8_ n9_ n10_ n11_ n12_ n13_ n14_ n15_; (try clear hb); (try clear hb2); (try clear hk); (try clear hi); (try clear ho0); obtain ⟨Ao27, co27, eo27⟩ := Kd.N_slice HO540.out; subst eo27) | ((with_reducible refine gate_builtin (b := .append) (xs := #[.tmp 64, .tmp 70]) rfl ?_); (try (refine gate_guard (by rfl) ?_; dsimp only)); at_builtin; refine Kd.N_append_rows k24 (w0 := w) w.heap.size rfl (.tmp 64) (.tmp 70) 22 24 (.agg #[(.int .i64 0), (.string ⟨#[]⟩), (.string ⟨#[]⟩), (.int .i64 0), (.int .i64 0), (.bool false), (.slice none 0 0)]) 88 rfl Tryd.underlying22 info24 rfl (by decide) (by omega) u6 x6_1 t538 _ _ _ (fun k_ => some k_ ≠ (.slice (some ad532) t526.length co24 : Value).ownBlock ∧ k_ ≠ gb520) (fun k_ => ((fun k_ => some k_ ≠ (.slice (some ad532) t526.length co24 : Value).ownBlock ∧ k_ ≠ gb520)) k_ ∧ some k_ ≠ (u6 : Value).ownBlock) rfl rfl ?aO ?aR (fun _ hk => hk) ?aF ?aB ?aS ?aL ?_; (case aR => exact (by skip; exact Kd.N_F (Kd.N_mono (ok' := (fun k_ => ((fun k_ => some k_ ≠ (.slice (some ad532) t526.length co24 : Value).ownBlock ∧ k_ ≠ gb520)) k_ ∧ some k_ ≠ (u6 : Value).ownBlock)) (HO540.out) (fun k_ hk => ⟨⟨hk.2.1, hk.2.2.2⟩, hk.2.2.1⟩)))); (case aB => exact (by repeat (first | (with_reducible first | exact HB.out | apply below_alloc | apply pw_below_drewN | apply below_drew1 | refine below_set ?_ GE520.out) | exact HB.out))); (case aF => exact (fun k_ hk => ⟨Kd.fresh' (Kd.N_lt (by (with_reducible repeat (first | apply Kd.N_alloc | apply Kd.N_drewN | apply Kd.N_drew)); exact HO_5.out)) k_ hk, Kd.freshB (g := gb520) (o := .cells #[.int .i64 a0_0, .string a0_1, .string a0_2, .int .i64 a0_3, .int .i64 a0_4, .bool a0_5, .slice A0_6 l0_6.length c0_6] 24 (0, 0)) (by (with_reducible repeat (first | refine blk_drewN ?_ _ | refine blk_drew ?_ | refine blk_alloc ?_ _)); exact BK520.out) k_ hk⟩)); (case aO => exact (by (with_reducible repeat (first | apply Kd.N_alloc | apply Kd.N_drewN | apply Kd.N_drew)); exact Kd.N_mono HO_6.out (fun _ hk => ⟨hk.1.1, hk.1.2⟩))); (case aS => exact (below_size (by repeat (first | (with_reducible first | exact HB.out | apply below_alloc | apply pw_below_drewN | apply below_drew1 | refine below_set ?_ GE520.out) | exact HB.out)))); (case aL => have := LMc23.out; omega); intro v542 w26 ho hb hg hat; rw [← Ny541.out] at ho; have n0_ := Aside0.mk (Kd.N_afterv (ok := (fun k_ => some k_ ≠ (.slice (some ad532) t526.length co24 : Value).ownBlock ∧ some k_ ≠ (.slice Ao27 t538.length co27 : Value).ownBlock ∧ k_ ≠ gb520)) (by (with_reducible repeat (first | apply Kd.N_alloc | apply Kd.N_drewN | apply Kd.N_drew)); exact Kd.N_mono HO_4.out (fun _ hk => ⟨⟨hk.1.1, ⟨hk.2, hk.1.2.2⟩⟩, hk.1.2.1⟩)) hg hat); have n1_ := Aside0.mk (Kd.N_afterv (ok := (fun k_ => some k_ ≠ (.slice Ao13 t523.length co13 : Value).ownBlock ∧ some k_ ≠ (.slice Ao27 t538.length co27 : Value).ownBlock ∧ k_ ≠ gb520)) (by (with_reducible repeat (first | apply Kd.N_alloc | apply Kd.N_drewN | apply Kd.N_drew)); exact Kd.N_mono HO_5.out (fun _ hk => ⟨⟨hk.1.1, ⟨hk.2, hk.1.2.2⟩⟩, hk.1.2.1⟩)) hg hat); have n2_ := Aside0.mk (blk_grown (g := gb520) (o := .cells #[.int .i64 a0_0, .string a0_1, .string a0_2, .int .i64 a0_3, .int .i64 a0_4, .bool a0_5, .slice A0_6 l0_6.length c0_6] 24 (0, 0)) (by (with_reducible repeat (first | refine blk_drewN ?_ _ | refine blk_drew ?_ | refine blk_alloc ?_ _)); exact BK520.out) hg (Kd.N_away HO_6.out (fun _ hk => hk.1.2))); have n3_ := Aside0.mk (Kd.V_afterv (ok := (fun k_ => some k_ ≠ (.slice Ao13 t523.length co13 : Value).ownBlock ∧ some k_ ≠ (.slice (some ad532) t526.length co24 : Value).ownBlock ∧ some k_ ≠ (.slice Ao27 t538.length co27 : Value).ownBlock ∧ k_ ≠ gb520)) (by (with_reducible repeat (first | apply Kd.V_alloc | apply Kd.V_drewN | apply Kd.V_drew)); exact Kd.V_mono HL532_6.out (fun _ hk => ⟨⟨hk.1.1.1, ⟨hk.1.2, ⟨hk.2, hk.1.1.2.2⟩⟩⟩, hk.1.1.2.1⟩)) hg hat); have n4_ := Aside0.mk (Kd.V_afterv (ok := (fun k_ => some k_ ≠ (.slice Ao13 t523.length co13 : Value).ownBlock ∧ some k_ ≠ (.slice (some ad532) t526.length co24 : Value).ownBlock ∧ some k_ ≠ (.slice Ao27 t538.length co27 : Value).ownBlock ∧ k_ ≠ gb520)) (by (with_reducible repeat (first | apply Kd.V_alloc | apply Kd.V_drewN | apply Kd.V_drew)); exact Kd.V_mono HL533_6.out (fun _ hk => ⟨⟨hk.1.1.1, ⟨hk.1.2, ⟨hk.2, hk.1.1.2.2⟩⟩⟩, hk.1.1.2.1⟩)) hg hat); have n5_ := Aside0.mk (Kd.V_afterv (ok := (fun k_ => some k_ ≠ (.slice Ao13 t523.length co13 : Value).ownBlock ∧ some k_ ≠ (.slice (some ad532) t526.length co24 : Value).ownBlock ∧ some k_ ≠ (.slice Ao27 t538.length co27 : Value).ownBlock ∧ k_ ≠ gb520)) (by (with_reducible repeat (first | apply Kd.V_alloc | apply Kd.V_drewN | apply Kd.V_drew)); exact Kd.V_mono HL534_6.out (fun _ hk => ⟨⟨hk.1.1.1, ⟨hk.1.2, ⟨hk.2, hk.1.1.2.2⟩⟩⟩, hk.1.1.2.1⟩)) hg hat); have n6_ := Aside0.mk (Kd.V_afterv (ok := (fun k_ => some k_ ≠ (.slice Ao13 t523.length co13 : Value).ownBlock ∧ some k_ ≠ (.slice (some ad532) t526.length co24 : Value).ownBlock ∧ some k_ ≠ (.slice Ao27 t538.length co27 : Value).ownBlock ∧ k_ ≠ gb520)) (by (with_reducible repeat (first | apply Kd.V_alloc | apply Kd.V_drewN | apply Kd.V_drew)); exact Kd.V_mono HL535_6.out (fun _ hk => ⟨⟨hk.1.1.1, ⟨hk.1.2, ⟨hk.2, hk.1.1.2.2⟩⟩⟩, hk.1.1.2.1⟩)) hg hat); have n7_ := Aside0.mk (Kd.V_afterv (ok := (fun k_ => some k_ ≠ (.slice Ao13 t523.length co13 : Value).ownBlock ∧ some k_ ≠ (.slice (some ad532) t526.length co24 : Value).ownBlock ∧ some k_ ≠ (.slice Ao27 t538.length co27 : Value).ownBlock ∧ k_ ≠ gb520)) (by (with_reducible repeat (first | apply Kd.V_alloc | apply Kd.V_drewN | apply Kd.V_drew)); exact Kd.V_mono HL537_6.out (fun _ hk => ⟨⟨hk.1.1.1, ⟨hk.1.2, ⟨hk.2, hk.1.1.2.2⟩⟩⟩, hk.1.1.2.1⟩)) hg hat); have n8_ := Aside0.mk (Kd.N_afterv (ok := (fun k_ => some k_ ≠ (.slice Ao13 t523.length co13 : Value).ownBlock ∧ some k_ ≠ (.slice (some ad532) t526.length co24 : Value).ownBlock ∧ k_ ≠ gb520)) (by (with_reducible repeat (first | apply Kd.N_alloc | apply Kd.N_drewN | apply Kd.N_drew)); exact Kd.N_mono HO540.out (fun _ hk => ⟨⟨hk.1, ⟨hk.2.1, hk.2.2.2⟩⟩, hk.2.2.1⟩)) hg hat); have n9_ := Aside0.mk (hb); have n10_ := Aside0.mk (ho); clear HO_4; clear HO_5; clear BK520; clear HL532_6; clear HL533_6; clear HL534_6; clear HL535_6; clear HL537_6; clear HO540; clear HB; clear HO_6; have HO_4 := n0_; have HO_5 := n1_; have BK520 := n2_; have HL532_6 := n3_; have HL533_6 := n4_; have HL534_6 := n5_; have HL535_6 := n6_; have HL537_6 := n7_; have HO540 := n8_; have HB := n9_; have HO543 := n10_; clear n0_ n1_ n2_ n3_ n4_ n5_ n6_ n7_ n8_ n9_ n10_; clear ho hb hg hat)); try go_wp2_with (first | (go_at_call 22; (with_reducible refine (incipitlaw18_notes.calls k1 _ _ ((rd_T24 t526 x8_1).f6) t536 _ ?side1 ?side2 A20.out).mono ?_); (case side1 => repeat (first | exact (by repeat (first | (with_reducible exact HR535_6.out) | (with_reducible refine Kd.C_alloc ?_ _) | (with_reducible refine Kd.C_drewN ?_ _) | (with_reducible refine Kd.C_drew ?_) | exact HR535_6.out)) | (with_reducible refine Kd.C_alloc ?_ _) | (with_reducible refine Kd.C_drewN ?_ _) | (with_reducible refine Kd.C_drew ?_))); (case side2 => exact HC535_6.out); rintro e w' ⟨rfl, ⟨nd, rfl⟩⟩; (try first | exact ⟨rfl, _, World.drewN_drewN _ _ _⟩ | exact ⟨rfl, _, Eq.trans (World.drewN_drewN _ _ _) (congrArg (World.drewN _) (Nat.add_assoc _ _ _))⟩); have p537 : 0 ≤ (x8_1 : Int) := of_decide_eq_true (by first | (with_reducible assumption) | assumption); have q537 : x8_1 < (t526.length : Int) := of_decide_eq_true (by first | (with_reducible assumption) | assumption); obtain ⟨ad537, A537_6, c537_6, e537, hx537_0, hx537_1, hx537_2, hx537_3, hx537_4, hx537_5, hx537_6, hl537_6, hi537_6⟩ := at_T24 (Kd.N_reads' HO_5.out).2.2 x8_1 p537 q537; obtain rfl : ad532 = ad537 := (by injection e537); obtain ⟨ce537, hce537, hMe537, hcc537⟩ := Kd.N_get HO_5.out z24 x8_1 p537 (by first | exact q537 | exact of_decide_eq_true (by first | (with_reducible assumption) | assumption) | (have e_ := (Kd.N_reads' HO_5.out).1; omega)); obtain ⟨ua537_6, uc537_6, rfl, ul537_6, ge537_6⟩ := k24_openF hMe537; have hv537_6 := hcc537 6 _ rfl; rw [add_field _ _ 6 (by omega)] at hv537_6; replace hv537_6 := Option.some.inj (hv537_6.symm.trans hx537_6); injection hv537_6 with hva_ hvn_ hvc_; rw [hva_] at ge537_6; rw [hvc_] at ul537_6; have HL537_6 := Aside0.mk (show Kd.V k24 24 _ w.heap.size _ _ ((rd_T24 t526 x8_1).f6) from Kd.V_mk ul537_6 ge537_6); clear hva_ hvn_ hvc_ ge537_6 ul537_6; clear hcc537 hce537; have HR537_6 := Aside0.mk hi537_6; have HC537_6 := Aside0.mk hl537_6; clear hi537_6 hl537_6; replace p537 := eq_true p537; replace q537 := eq_true q537; have ea_ := Option.some.inj (hx532_6.symm.trans hx537_6); injection ea_ with ea_ en_ ec_; subst ea_; subst ec_; clear en_) | (go_at_call 20; (with_reducible refine (incipitlaw18_refs.calls k1 (fun k_ => ((some k_ ≠ (.slice Ao13 t523.length co13 : Value).ownBlock ∧ (some k_ ≠ (u6 : Value).ownBlock ∧ k_ ≠ gb520)) ∧ some k_ ≠ (.slice (some ad532) t526.length co24 : Value).ownBlock)) _ _ ((rd_T24 t526 x8_1).f6) t538 _ ?side1 A22.out).mono ?_); (case side1 => exact HL537_6.out); rintro e w25 ⟨v539, rfl, ho0, hb⟩; have n0_ := Aside0.mk (Kd.N_elder' (by (with_reducible repeat (first | apply Kd.N_alloc | apply Kd.N_drewN | apply Kd.N_drew)); exact HO_4.out) (Kd.N_base ho0) hb); have n1_ := Aside0.mk (Kd.N_elder' (by (with_reducible repeat (first | apply Kd.N_alloc | apply Kd.N_drewN | apply Kd.N_drew)); exact HO_5.out) (Kd.N_base ho0) hb); have n2_ := Aside0.mk (Kd.N_elder' (by (with_reducible repeat (first | apply Kd.N_alloc | apply Kd.N_drewN | apply Kd.N_drew)); exact HO_6.out) (Kd.N_base ho0) hb); have n3_ := Aside0.mk (Kd.V_elder' (by (with_reducible repeat (first | apply Kd.V_alloc | apply Kd.V_drewN | apply Kd.V_drew)); exact HL532_6.out) (Kd.N_base ho0) hb); have n4_ := Aside0.mk (Kd.V_elder' (by (with_reducible repeat (first | apply Kd.V_alloc | apply Kd.V_drewN | apply Kd.V_drew)); exact HL533_6.out) (Kd.N_base ho0) hb); have n5_ := Aside0.mk (Kd.V_elder' (by (with_reducible repeat (first | apply Kd.V_alloc | apply Kd.V_drewN | apply Kd.V_drew)); exact HL534_6.out) (Kd.N_base ho0) hb); have n6_ := Aside0.mk (Kd.V_elder' (by (with_reducible repeat (first | apply Kd.V_alloc | apply Kd.V_drewN | apply Kd.V_drew)); exact HL535_6.out) (Kd.N_base ho0) hb); have n7_ := Aside0.mk (Kd.V_elder' (by (with_reducible repeat (first | apply Kd.V_alloc | apply Kd.V_drewN | apply Kd.V_drew)); exact HL537_6.out) (Kd.N_base ho0) hb); have n8_ := Aside0.mk (Kd.N_lower (Kd.N_mono (ok' := fun k_ => some k_ ≠ (.slice Ao13 t523.length co13 : Value).ownBlock ∧ some k_ ≠ (.slice (some ad532) t526.length co24 : Value).ownBlock ∧ some k_ ≠ (u6 : Value).ownBlock ∧ k_ ≠ gb520) ho0 (fun k_ hk_ => ⟨Or.elim hk_ (fun hs_ => hs_.1.1) (fun hn_ => (Kd.fresh' (Kd.N_lt (by (with_reducible repeat (first | apply Kd.N_alloc | apply Kd.N_drewN | apply Kd.N_drew)); exact HO_4.out)) k_ hn_)), Or.elim hk_ (fun hs_ => hs_.2) (fun hn_ => (Kd.fresh' (Kd.N_lt (by (with_reducible repeat (first | apply Kd.N_alloc | apply Kd.N_drewN | apply Kd.N_drew)); exact HO_5.out)) k_ hn_)), Or.elim hk_ (fun hs_ => hs_.1.2.1) (fun hn_ => (Kd.fresh' (Kd.N_lt (by (with_reducible repeat (first | apply Kd.N_alloc | apply Kd.N_drewN | apply Kd.N_drew)); exact HO_6.out)) k_ hn_)), Or.elim hk_ (fun hs_ => hs_.1.2.2) (fun hn_ => (Kd.freshB (g := gb520) (o := .cells #[.int .i64 a0_0, .string a0_1, .string a0_2, .int .i64 a0_3, .int .i64 a0_4, .bool a0_5, .slice A0_6 l0_6.length c0_6] 24 (0, 0)) (by (with_reducible repeat (first | refine blk_drewN ?_ _ | refine blk_drew ?_ | refine blk_alloc ?_ _)); exact BK520.out) k_ hn_))⟩)) (below_size (by repeat (first | (with_reducible first | exact HB.out | apply below_alloc | apply pw_below_drewN | apply below_drew1 | refine below_set ?_ GE520.out) | exact HB.out)))); have n9_ := Aside0.mk (blk_below (g := gb520) (o := .cells #[.int .i64 a0_0, .string a0_1, .string a0_2, .int .i64 a0_3, .int .i64 a0_4, .bool a0_5, .slice A0_6 l0_6.length c0_6] 24 (0, 0)) (by (with_reducible repeat (first | refine blk_drewN ?_ _ | refine blk_drew ?_ | refine blk_alloc ?_ _)); exact BK520.out) hb); (first | have n10_ := Aside0.mk (Kd.C_below HR532_6.out hb) | have n10_ := Aside0.mk (Kd.C_below (Kd.C_drewN HR532_6.out _) hb) | have n10_ := Aside0.mk (Kd.C_below (Kd.C_drewN (Kd.C_drewN HR532_6.out _) _) hb)); (first | have n11_ := Aside0.mk (Kd.C_below HR533_6.out hb) | have n11_ := Aside0.mk (Kd.C_below (Kd.C_drewN HR533_6.out _) hb) | have n11_ := Aside0.mk (Kd.C_below (Kd.C_drewN (Kd.C_drewN HR533_6.out _) _) hb)); (first | have n12_ := Aside0.mk (Kd.C_below HR534_6.out hb) | have n12_ := Aside0.mk (Kd.C_below (Kd.C_drewN HR534_6.out _) hb) | have n12_ := Aside0.mk (Kd.C_below (Kd.C_drewN (Kd.C_drewN HR534_6.out _) _) hb)); (first | have n13_ := Aside0.mk (Kd.C_below HR535_6.out hb) | have n13_ := Aside0.mk (Kd.C_below (Kd.C_drewN HR535_6.out _) hb) | have n13_ := Aside0.mk (Kd.C_below (Kd.C_drewN (Kd.C_drewN HR535_6.out _) _) hb)); (first | have n14_ := Aside0.mk (Kd.C_below HR537_6.out hb) | have n14_ := Aside0.mk (Kd.C_below (Kd.C_drewN HR537_6.out _) hb) | have n14_ := Aside0.mk (Kd.C_below (Kd.C_drewN (Kd.C_drewN HR537_6.out _) _) hb)); have n15_ := Aside0.mk (below_step (by repeat (first | (with_reducible first | exact HB.out | apply below_alloc | apply pw_below_drewN | apply below_drew1 | refine below_set ?_ GE520.out) | exact HB.out)) hb); clear HO_4; clear HO_5; clear HO_6; clear HL532_6; clear HL533_6; clear HL534_6; clear HL535_6; clear HL537_6; clear BK520; clear HR532_6; clear HR533_6; clear HR534_6; clear HR535_6; clear HR537_6; clear HB; have HO_4 := n0_; have HO_5 := n1_; have HO_6 := n2_; have HL532_6 := n3_; have HL533_6 := n4_; have HL534_6 := n5_; have HL535_6 := n6_; have HL537_6 := n7_; have HO540 := n8_; have BK520 := n9_; have HR532_6 := n10_; have HR533_6 := n11_; have HR534_6 := n12_; have HR535_6 := n13_; have HR537_6 := n14_; have HB := n15_; clear n0_ n1_ n2_ n3_ n4_ n5_ n6_ n7_ n8_ n9_ n10_ n11_ n12_ n13_ n14_ n15_; (try clear hb); (try clear hb2); (try clear hk); (try clear hi); (try clear ho0); obtain ⟨Ao27, co27, eo27⟩ := Kd.N_slice HO540.out; subst eo27) | ((with_reducible refine gate_builtin (b := .append) (xs := #[.tmp 64, .tmp 70]) rfl ?_); (try (refine gate_guard (by rfl) ?_; dsimp only)); at_builtin; refine Kd.N_append_rows k24 (w0 := w) w.heap.size rfl (.tmp 64) (.tmp 70) 22 24 (.agg #[(.int .i64 0), (.string ⟨#[]⟩), (.string ⟨#[]⟩), (.int .i64 0), (.int .i64 0), (.bool false), (.slice none 0 0)]) 88 rfl Tryd.underlying22 info24 rfl (by decide) (by omega) u6 x6_1 t538 _ _ _ (fun k_ => some k_ ≠ (.slice (some ad532) t526.length co24 : Value).ownBlock ∧ k_ ≠ gb520) (fun k_ => ((fun k_ => some k_ ≠ (.slice (some ad532) t526.length co24 : Value).ownBlock ∧ k_ ≠ gb520)) k_ ∧ some k_ ≠ (u6 : Value).ownBlock) rfl rfl ?aO ?aR (fun _ hk => hk) ?aF ?aB ?aS ?aL ?_; (case aR => exact (by skip; exact Kd.N_F (Kd.N_mono (ok' := (fun k_ => ((fun k_ => some k_ ≠ (.slice (some ad532) t526.length co24 : Value).ownBlock ∧ k_ ≠ gb520)) k_ ∧ some k_ ≠ (u6 : Value).ownBlock)) (HO540.out) (fun k_ hk => ⟨⟨hk.2.1, hk.2.2.2⟩, hk.2.2.1⟩)))); (case aB => exact (by repeat (first | (with_reducible first | exact HB.out | apply below_alloc | apply pw_below_drewN | apply below_drew1 | refine below_set ?_ GE520.out) | exact HB.out))); (case aF => exact (fun k_ hk => ⟨Kd.fresh' (Kd.N_lt (by (with_reducible repeat (first | apply Kd.N_alloc | apply Kd.N_drewN | apply Kd.N_drew)); exact HO_5.out)) k_ hk, Kd.freshB (g := gb520) (o := .cells #[.int .i64 a0_0, .string a0_1, .string a0_2, .int .i64 a0_3, .int .i64 a0_4, .bool a0_5, .slice A0_6 l0_6.length c0_6] 24 (0, 0)) (by (with_reducible repeat (first | refine blk_drewN ?_ _ | refine blk_drew ?_ | refine blk_alloc ?_ _)); exact BK520.out) k_ hk⟩)); (case aO => exact (by (with_reducible repeat (first | apply Kd.N_alloc | apply Kd.N_drewN | apply Kd.N_drew)); exact Kd.N_mono HO_6.out (fun _ hk => ⟨hk.1.1, hk.1.2⟩))); (case aS => exact (below_size (by repeat (first | (with_reducible first | exact HB.out | apply below_alloc | apply pw_below_drewN | apply below_drew1 | refine below_set ?_ GE520.out) | exact HB.out)))); (case aL => have := LMc23.out; omega); intro v542 w26 ho hb hg hat; rw [← Ny541.out] at ho; have n0_ := Aside0.mk (Kd.N_afterv (ok := (fun k_ => some k_ ≠ (.slice (some ad532) t526.length co24 : Value).ownBlock ∧ some k_ ≠ (.slice Ao27 t538.length co27 : Value).ownBlock ∧ k_ ≠ gb520)) (by (with_reducible repeat (first | apply Kd.N_alloc | apply Kd.N_drewN | apply Kd.N_drew)); exact Kd.N_mono HO_4.out (fun _ hk => ⟨⟨hk.1.1, ⟨hk.2, hk.1.2.2⟩⟩, hk.1.2.1⟩)) hg hat); have n1_ := Aside0.mk (Kd.N_afterv (ok := (fun k_ => some k_ ≠ (.slice Ao13 t523.length co13 : Value).ownBlock ∧ some k_ ≠ (.slice Ao27 t538.length co27 : Value).ownBlock ∧ k_ ≠ gb520)) (by (with_reducible repeat (first | apply Kd.N_alloc | apply Kd.N_drewN | apply Kd.N_drew)); exact Kd.N_mono HO_5.out (fun _ hk => ⟨⟨hk.1.1, ⟨hk.2, hk.1.2.2⟩⟩, hk.1.2.1⟩)) hg hat); have n2_ := Aside0.mk (blk_grown (g := gb520) (o := .cells #[.int .i64 a0_0, .string a0_1, .string a0_2, .int .i64 a0_3, .int .i64 a0_4, .bool a0_5, .slice A0_6 l0_6.length c0_6] 24 (0, 0)) (by (with_reducible repeat (first | refine blk_drewN ?_ _ | refine blk_drew ?_ | refine blk_alloc ?_ _)); exact BK520.out) hg (Kd.N_away HO_6.out (fun _ hk => hk.1.2))); have n3_ := Aside0.mk (Kd.V_afterv (ok := (fun k_ => some k_ ≠ (.slice Ao13 t523.length co13 : Value).ownBlock ∧ some k_ ≠ (.slice (some ad532) t526.length co24 : Value).ownBlock ∧ some k_ ≠ (.slice Ao27 t538.length co27 : Value).ownBlock ∧ k_ ≠ gb520)) (by (with_reducible repeat (first | apply Kd.V_alloc | apply Kd.V_drewN | apply Kd.V_drew)); exact Kd.V_mono HL532_6.out (fun _ hk => ⟨⟨hk.1.1.1, ⟨hk.1.2, ⟨hk.2, hk.1.1.2.2⟩⟩⟩, hk.1.1.2.1⟩)) hg hat); have n4_ := Aside0.mk (Kd.V_afterv (ok := (fun k_ => some k_ ≠ (.slice Ao13 t523.length co13 : Value).ownBlock ∧ some k_ ≠ (.slice (some ad532) t526.length co24 : Value).ownBlock ∧ some k_ ≠ (.slice Ao27 t538.length co27 : Value).ownBlock ∧ k_ ≠ gb520)) (by (with_reducible repeat (first | apply Kd.V_alloc | apply Kd.V_drewN | apply Kd.V_drew)); exact Kd.V_mono HL533_6.out (fun _ hk => ⟨⟨hk.1.1.1, ⟨hk.1.2, ⟨hk.2, hk.1.1.2.2⟩⟩⟩, hk.1.1.2.1⟩)) hg hat); have n5_ := Aside0.mk (Kd.V_afterv (ok := (fun k_ => some k_ ≠ (.slice Ao13 t523.length co13 : Value).ownBlock ∧ some k_ ≠ (.slice (some ad532) t526.length co24 : Value).ownBlock ∧ some k_ ≠ (.slice Ao27 t538.length co27 : Value).ownBlock ∧ k_ ≠ gb520)) (by (with_reducible repeat (first | apply Kd.V_alloc | apply Kd.V_drewN | apply Kd.V_drew)); exact Kd.V_mono HL534_6.out (fun _ hk => ⟨⟨hk.1.1.1, ⟨hk.1.2, ⟨hk.2, hk.1.1.2.2⟩⟩⟩, hk.1.1.2.1⟩)) hg hat); have n6_ := Aside0.mk (Kd.V_afterv (ok := (fun k_ => some k_ ≠ (.slice Ao13 t523.length co13 : Value).ownBlock ∧ some k_ ≠ (.slice (some ad532) t526.length co24 : Value).ownBlock ∧ some k_ ≠ (.slice Ao27 t538.length co27 : Value).ownBlock ∧ k_ ≠ gb520)) (by (with_reducible repeat (first | apply Kd.V_alloc | apply Kd.V_drewN | apply Kd.V_drew)); exact Kd.V_mono HL535_6.out (fun _ hk => ⟨⟨hk.1.1.1, ⟨hk.1.2, ⟨hk.2, hk.1.1.2.2⟩⟩⟩, hk.1.1.2.1⟩)) hg hat); have n7_ := Aside0.mk (Kd.V_afterv (ok := (fun k_ => some k_ ≠ (.slice Ao13 t523.length co13 : Value).ownBlock ∧ some k_ ≠ (.slice (some ad532) t526.length co24 : Value).ownBlock ∧ some k_ ≠ (.slice Ao27 t538.length co27 : Value).ownBlock ∧ k_ ≠ gb520)) (by (with_reducible repeat (first | apply Kd.V_alloc | apply Kd.V_drewN | apply Kd.V_drew)); exact Kd.V_mono HL537_6.out (fun _ hk => ⟨⟨hk.1.1.1, ⟨hk.1.2, ⟨hk.2, hk.1.1.2.2⟩⟩⟩, hk.1.1.2.1⟩)) hg hat); have n8_ := Aside0.mk (Kd.N_afterv (ok := (fun k_ => some k_ ≠ (.slice Ao13 t523.length co13 : Value).ownBlock ∧ some k_ ≠ (.slice (some ad532) t526.length co24 : Value).ownBlock ∧ k_ ≠ gb520)) (by (with_reducible repeat (first | apply Kd.N_alloc | apply Kd.N_drewN | apply Kd.N_drew)); exact Kd.N_mono HO540.out (fun _ hk => ⟨⟨hk.1, ⟨hk.2.1, hk.2.2.2⟩⟩, hk.2.2.1⟩)) hg hat); have n9_ := Aside0.mk (hb); have n10_ := Aside0.mk (ho); clear HO_4; clear HO_5; clear BK520; clear HL532_6; clear HL533_6; clear HL534_6; clear HL535_6; clear HL537_6; clear HO540; clear HB; clear HO_6; have HO_4 := n0_; have HO_5 := n1_; have BK520 := n2_; have HL532_6 := n3_; have HL533_6 := n4_; have HL534_6 := n5_; have HL535_6 := n6_; have HL537_6 := n7_; have HO540 := n8_; have HB := n9_; have HO543 := n10_; clear n0_ n1_ n2_ n3_ n4_ n5_ n6_ n7_ n8_ n9_ n10_; clear ho hb hg hat)))
                      go_roundg k1
                      case measure => have := HK1.out; omega
                      case rel => exact ⟨(y541), (wrap64 (x8_1 + 1)), (by first | rfl | (simp; done) | (simp [*]; done)), H', ⟨by have := HK1.out; omega⟩, ⟨by (with_reducible repeat (first | apply Kd.N_alloc | apply Kd.N_drewN | apply Kd.N_drew)); exact Kd.N_mono HO_4.out (fun _ hk => ⟨hk.1.1, ⟨hk.2, hk.1.2.2⟩⟩)⟩, ⟨by (with_reducible repeat (first | apply Kd.N_alloc | apply Kd.N_drewN | apply Kd.N_drew)); exact Kd.N_mono HO_5.out (fun _ hk => ⟨hk.1.1, ⟨hk.2, hk.1.2.2⟩⟩)⟩, ⟨by (with_reducible repeat (first | apply Kd.N_alloc | apply Kd.N_drewN | apply Kd.N_drew)); exact HO543.out⟩, ⟨by (with_reducible repeat (first | refine blk_drewN ?_ _ | refine blk_drew ?_ | refine blk_alloc ?_ _)); exact BK520.out⟩, ⟨by repeat (first | (with_reducible first | exact HB.out | apply below_alloc | apply pw_below_drewN | apply below_drew1 | refine below_set ?_ GE520.out) | exact HB.out)⟩⟩
                    · rw [if_neg c23] at H
                      exact absurd H (by simp)
              · rw [if_neg c18] at H
                exact absurd H (by simp)
            · rw [if_neg c17] at H
              exact absurd H (by simp)
          · rw [if_neg c16] at H
            exact absurd H (by simp)
        · rw [if_neg c15] at H
          have c15b0 : decide (x8_1 < (t526.length : Int)) = false := decide_eq_false c15
          clear c15
          obtain ⟨ji28, hji28⟩ : ∃ j_ : Int, (wrap64 ((t526.length : Int) + 1)) = j_ := ⟨_, rfl⟩
          replace H : (if 0 ≤ (ji28) then (if (ji28 : Int).toNat ≤ 35184372088832 then (incipitlaw18_FootCoheres.l1 k1 t521 t523 t526 x6_1 0 (List.replicate (ji28 : Int).toNat 0) 0) else (none)) else (none)) = some r := by first | (rw [hji28] at H; exact H) | (simp only [hji28] at H ⊢; exact H)
          have hji28w : (IntKind.i64.wrap ((t526.length : Int) + 1)) = ji28 := (i64_w _).trans hji28
          by_cases c29 : 0 ≤ (ji28)
          · rw [if_pos c29] at H
            have c29b0 := eq_true c29
            have c29b1 : decide (0 ≤ (ji28)) = true := decide_eq_true c29
            clear c29
            by_cases c30 : (ji28 : Int).toNat ≤ 35184372088832
            · rw [if_pos c30] at H
              have c30b0 := eq_true c30
              have c30b1 : decide ((ji28 : Int).toNat ≤ 35184372088832) = true := decide_eq_true c30
              clear c30
              obtain ⟨y544, hy544⟩ : ∃ y_ : List Int, y_ = (List.replicate (ji28 : Int).toNat 0) := ⟨_, rfl⟩
              replace H : (incipitlaw18_FootCoheres.l1 k1 t521 t523 t526 x6_1 0 y544 0) = some r := by first | (rw [hy544]; with_reducible exact H) | (have H2_ := (Option.bind_some _ _).symm.trans H; rw [hy544]; with_reducible exact H2_) | (have H2_ := (Option.bind_some _ _).symm.trans H; with_reducible exact H2_) | with_reducible exact H | (rw [hy544]; exact H) | exact H
              have Ny544 := Aside0.mk hy544
              clear hy544
              have H' := Aside0.mk H
              clear H
              obtain ⟨Ao31, co31, eo31⟩ := Kd.N_slice HO_5.out
              subst eo31
              go_wp2_with (first | ((with_reducible refine gate_dst (N := 75) rfl ?_); (try (refine gate_guard (by rfl) ?_; dsimp only)); refine Kd.R_make (Kd.int .i64) _ 3 rfl (N := 75) rfl 33 _ _ rfl ji28 rfl rfl Tryd.underlying33 (.int .i64 0) 8 info3 rfl (by decide) (by omega) 0 (ok := fun _ => True) (okp := fun _ => True) rfl (fun _ hk => hk) trivial (of_decide_eq_true (by first | (with_reducible assumption) | assumption)) (Nat.le_trans (Nat.mul_le_mul_right _ (of_decide_eq_true (by first | (with_reducible assumption) | assumption) : ji28.toNat ≤ 35184372088832)) (by omega)) (Below.refl _ _) (Nat.le_refl _) ?_; intro v545 w32 ho33 hb hg_ hnew_; clear hg_ hnew_; (first | rw [← Ny544.out] at ho33 | (simp only [Int.reduceToNat] at ho33; rw [← Ny544.out] at ho33)); have n0_ := Aside0.mk (Kd.N_elder' (by (with_reducible repeat (first | apply Kd.N_alloc | apply Kd.N_drewN | apply Kd.N_drew)); exact HO_4.out) (Kd.R_base ho33) hb); have n1_ := Aside0.mk (Kd.N_elder' (by (with_reducible repeat (first | apply Kd.N_alloc | apply Kd.N_drewN | apply Kd.N_drew)); exact HO_5.out) (Kd.R_base ho33) hb); have n2_ := Aside0.mk (Kd.N_elder' (by (with_reducible repeat (first | apply Kd.N_alloc | apply Kd.N_drewN | apply Kd.N_drew)); exact HO_6.out) (Kd.R_base ho33) hb); have n3_ := Aside0.mk (Kd.R_lower ho33 (below_size (by repeat (first | (with_reducible first | exact HB.out | apply below_alloc | apply pw_below_drewN | apply below_drew1 | refine below_set ?_ GE520.out) | exact HB.out)))); have n4_ := Aside0.mk (blk_below (g := gb520) (o := .cells #[.int .i64 a0_0, .string a0_1, .string a0_2, .int .i64 a0_3, .int .i64 a0_4, .bool a0_5, .slice A0_6 l0_6.length c0_6] 24 (0, 0)) (by (with_reducible repeat (first | refine blk_drewN ?_ _ | refine blk_drew ?_ | refine blk_alloc ?_ _)); exact BK520.out) hb); have n5_ := Aside0.mk (below_step (by repeat (first | (with_reducible first | exact HB.out | apply below_alloc | apply pw_below_drewN | apply below_drew1 | refine below_set ?_ GE520.out) | exact HB.out)) hb); clear HO_4; clear HO_5; clear HO_6; clear BK520; clear HB; have HO_4 := n0_; have HO_5 := n1_; have HO_6 := n2_; have HO546 := n3_; have BK520 := n4_; have HB := n5_; clear n0_ n1_ n2_ n3_ n4_ n5_; clear hb ho33))
              repeat (go_quiet (first | ((with_reducible refine gate_dst (N := 75) rfl ?_); (try (refine gate_guard (by rfl) ?_; dsimp only)); refine Kd.R_make (Kd.int .i64) _ 3 rfl (N := 75) rfl 33 _ _ rfl ji28 rfl rfl Tryd.underlying33 (.int .i64 0) 8 info3 rfl (by decide) (by omega) 0 (ok := fun _ => True) (okp := fun _ => True) rfl (fun _ hk => hk) trivial (of_decide_eq_true (by first | (with_reducible assumption) | assumption)) (Nat.le_trans (Nat.mul_le_mul_right _ (of_decide_eq_true (by first | (with_reducible assumption) | assumption) : ji28.toNat ≤ 35184372088832)) (by omega)) (Below.refl _ _) (Nat.le_refl _) ?_; intro v545 w32 ho33 hb hg_ hnew_; clear hg_ hnew_; (first | rw [← Ny544.out] at ho33 | (simp only [Int.reduceToNat] at ho33; rw [← Ny544.out] at ho33)); have n0_ := Aside0.mk (Kd.N_elder' (by (with_reducible repeat (first | apply Kd.N_alloc | apply Kd.N_drewN | apply Kd.N_drew)); exact HO_4.out) (Kd.R_base ho33) hb); have n1_ := Aside0.mk (Kd.N_elder' (by (with_reducible repeat (first | apply Kd.N_alloc | apply Kd.N_drewN | apply Kd.N_drew)); exact HO_5.out) (Kd.R_base ho33) hb); have n2_ := Aside0.mk (Kd.N_elder' (by (with_reducible repeat (first | apply Kd.N_alloc | apply Kd.N_drewN | apply Kd.N_drew)); exact HO_6.out) (Kd.R_base ho33) hb); have n3_ := Aside0.mk (Kd.R_lower ho33 (below_size (by repeat (first | (with_reducible first | exact HB.out | apply below_alloc | apply pw_below_drewN | apply below_drew1 | refine below_set ?_ GE520.out) | exact HB.out)))); have n4_ := Aside0.mk (blk_below (g := gb520) (o := .cells #[.int .i64 a0_0, .string a0_1, .string a0_2, .int .i64 a0_3, .int .i64 a0_4, .bool a0_5, .slice A0_6 l0_6.length c0_6] 24 (0, 0)) (by (with_reducible repeat (first | refine blk_drewN ?_ _ | refine blk_drew ?_ | refine blk_alloc ?_ _)); exact BK520.out) hb); have n5_ := Aside0.mk (below_step (by repeat (first | (with_reducible first | exact HB.out | apply below_alloc | apply pw_below_drewN | apply below_drew1 | refine below_set ?_ GE520.out) | exact HB.out)) hb); clear HO_4; clear HO_5; clear HO_6; clear BK520; clear HB; have HO_4 := n0_; have HO_5 := n1_; have HO_6 := n2_; have HO546 := n3_; have BK520 := n4_; have HB := n5_; clear n0_ n1_ n2_ n3_ n4_ n5_; clear hb ho33)); try go_wp2_with (first | ((with_reducible refine gate_dst (N := 75) rfl ?_); (try (refine gate_guard (by rfl) ?_; dsimp only)); refine Kd.R_make (Kd.int .i64) _ 3 rfl (N := 75) rfl 33 _ _ rfl ji28 rfl rfl Tryd.underlying33 (.int .i64 0) 8 info3 rfl (by decide) (by omega) 0 (ok := fun _ => True) (okp := fun _ => True) rfl (fun _ hk => hk) trivial (of_decide_eq_true (by first | (with_reducible assumption) | assumption)) (Nat.le_trans (Nat.mul_le_mul_right _ (of_decide_eq_true (by first | (with_reducible assumption) | assumption) : ji28.toNat ≤ 35184372088832)) (by omega)) (Below.refl _ _) (Nat.le_refl _) ?_; intro v545 w32 ho33 hb hg_ hnew_; clear hg_ hnew_; (first | rw [← Ny544.out] at ho33 | (simp only [Int.reduceToNat] at ho33; rw [← Ny544.out] at ho33)); have n0_ := Aside0.mk (Kd.N_elder' (by (with_reducible repeat (first | apply Kd.N_alloc | apply Kd.N_drewN | apply Kd.N_drew)); exact HO_4.out) (Kd.R_base ho33) hb); have n1_ := Aside0.mk (Kd.N_elder' (by (with_reducible repeat (first | apply Kd.N_alloc | apply Kd.N_drewN | apply Kd.N_drew)); exact HO_5.out) (Kd.R_base ho33) hb); have n2_ := Aside0.mk (Kd.N_elder' (by (with_reducible repeat (first | apply Kd.N_alloc | apply Kd.N_drewN | apply Kd.N_drew)); exact HO_6.out) (Kd.R_base ho33) hb); have n3_ := Aside0.mk (Kd.R_lower ho33 (below_size (by repeat (first | (with_reducible first | exact HB.out | apply below_alloc | apply pw_below_drewN | apply below_drew1 | refine below_set ?_ GE520.out) | exact HB.out)))); have n4_ := Aside0.mk (blk_below (g := gb520) (o := .cells #[.int .i64 a0_0, .string a0_1, .string a0_2, .int .i64 a0_3, .int .i64 a0_4, .bool a0_5, .slice A0_6 l0_6.length c0_6] 24 (0, 0)) (by (with_reducible repeat (first | refine blk_drewN ?_ _ | refine blk_drew ?_ | refine blk_alloc ?_ _)); exact BK520.out) hb); have n5_ := Aside0.mk (below_step (by repeat (first | (with_reducible first | exact HB.out | apply below_alloc | apply pw_below_drewN | apply below_drew1 | refine below_set ?_ GE520.out) | exact HB.out)) hb); clear HO_4; clear HO_5; clear HO_6; clear BK520; clear HB; have HO_4 := n0_; have HO_5 := n1_; have HO_6 := n2_; have HO546 := n3_; have BK520 := n4_; have HB := n5_; clear n0_ n1_ n2_ n3_ n4_ n5_; clear hb ho33)))
              go_loopg [7, 10] k1 (fun kq v7 v10 w' => ∃ (x7_2 : Int) (x9_2 : List Int) (x10_2 : Int), v7 = .int .i64 x7_2 ∧ v10 = .int .i64 x10_2 ∧ Aside0 (incipitlaw18_FootCoheres.l1 kq t521 t523 t526 x6_1 x7_2 x9_2 x10_2 = some r) ∧ Aside0 (kq ≤ k1) ∧ Aside0 (Kd.N k24 24 w' w.heap.size (fun k_ => some k_ ≠ ((.slice Ao31 t526.length co31) : Value).ownBlock ∧ some k_ ≠ (u6 : Value).ownBlock ∧ some k_ ≠ (v545 : Value).ownBlock ∧ k_ ≠ gb520) (.slice Ao13 t523.length co13) t523) ∧ Aside0 (Kd.N k24 24 w' w.heap.size (fun k_ => some k_ ≠ ((.slice Ao13 t523.length co13) : Value).ownBlock ∧ some k_ ≠ (u6 : Value).ownBlock ∧ some k_ ≠ (v545 : Value).ownBlock ∧ k_ ≠ gb520) (.slice Ao31 t526.length co31) t526) ∧ Aside0 (Kd.N k24 24 w' w.heap.size (fun k_ => some k_ ≠ ((.slice Ao31 t526.length co31) : Value).ownBlock ∧ some k_ ≠ (v545 : Value).ownBlock ∧ k_ ≠ gb520) u6 x6_1) ∧ Aside0 (Kd.R (Kd.int .i64) 3 w' w.heap.size (fun _ => True) v545 x9_2) ∧ Aside0 (w'.heap[gb520]? = some (.cells #[.int .i64 a0_0, .string a0_1, .string a0_2, .int .i64 a0_3, .int .i64 a0_4, .bool a0_5, (.slice A0_6 l0_6.length c0_6)] 24 (0, 0))) ∧ Aside0 (Below w.heap.size w w'))
              case atStart => exact ⟨(0), (y544), (0), (by first | rfl | (simp; done) | (simp [*]; done)), (by first | rfl | (simp; done) | (simp [*]; done)), H', ⟨Nat.le_refl _⟩, ⟨by (with_reducible repeat (first | apply Kd.N_alloc | apply Kd.N_drewN | apply Kd.N_drew)); exact Kd.N_mono HO_4.out (fun _ hk => ⟨hk.1.1, ⟨hk.1.2.1, ⟨hk.2, hk.1.2.2⟩⟩⟩)⟩, ⟨by (with_reducible repeat (first | apply Kd.N_alloc | apply Kd.N_drewN | apply Kd.N_drew)); exact Kd.N_mono HO_5.out (fun _ hk => ⟨hk.1.1, ⟨hk.1.2.1, ⟨hk.2, hk.1.2.2⟩⟩⟩)⟩, ⟨by (with_reducible repeat (first | apply Kd.N_alloc | apply Kd.N_drewN | apply Kd.N_drew)); exact Kd.N_mono HO_6.out (fun _ hk => ⟨hk.1.1, ⟨hk.2, hk.1.2⟩⟩)⟩, ⟨by (with_reducible repeat (first | apply Kd.R_alloc | apply Kd.R_drewN | apply Kd.R_drew)); exact HO546.out⟩, ⟨by (with_reducible repeat (first | refine blk_drewN ?_ _ | refine blk_drew ?_ | refine blk_alloc ?_ _)); exact BK520.out⟩, ⟨by repeat (first | (with_reducible first | exact HB.out | apply below_alloc | apply pw_below_drewN | apply below_drew1 | refine below_set ?_ GE520.out) | exact HB.out)⟩⟩
              case round =>
                clear H'
                try clear c1
                try clear c2
                try clear p2
                try clear c3
                try clear c4
                try clear c5
                try clear p5
                try clear q5
                try clear hx5
                try clear p6
                try clear c15
                try clear c15b0
                try clear c16
                try clear c16b0
                try clear c17
                try clear c17b0
                try clear c17b1
                try clear c18
                try clear c18b0
                try clear c18b1
                try clear c19
                try clear c19b0
                try clear c21
                try clear c21b0
                try clear c23
                try clear c29
                try clear c29b0
                try clear c29b1
                try clear c30
                try clear c30b0
                try clear c30b1
                try clear hcz11_0
                try clear hcz11_1
                try clear hcz11_2
                try clear hcz11_3
                try clear hcz11_4
                try clear hcz11_5
                try clear hcz11_6
                try clear hcz9_0
                try clear hcz9_1
                try clear hcz9_2
                try clear hcz9_3
                try clear hcz9_4
                try clear hcz9_5
                try clear hcz9_6
                try clear hfz11_0
                try clear hfz11_1
                try clear hfz11_2
                try clear hfz11_3
                try clear hfz11_4
                try clear hfz11_5
                try clear hfz11_6
                try clear hfz9_0
                try clear hfz9_1
                try clear hfz9_2
                try clear hfz9_3
                try clear hfz9_4
                try clear hfz9_5
                try clear hfz9_6
                try clear hx532_0
                try clear hx532_1
                try clear hx532_2
                try clear hx532_3
                try clear hx532_4
                try clear hx532_5
                try clear hx532_6
                try clear hx533_0
                try clear hx533_1
                try clear hx533_2
                try clear hx533_3
                try clear hx533_4
                try clear hx533_5
                try clear hx533_6
                try clear hx534_0
                try clear hx534_1
                try clear hx534_2
                try clear hx534_3
                try clear hx534_4
                try clear hx534_5
                try clear hx534_6
                try clear hx535_0
                try clear hx535_1
                try clear hx535_2
                try clear hx535_3
                try clear hx535_4
                try clear hx535_5
                try clear hx535_6
                try clear hx537_0
                try clear hx537_1
                try clear hx537_2
                try clear hx537_3
                try clear hx537_4
                try clear hx537_5
                try clear hx537_6
                try clear p2
                try clear p532
                try clear p533
                try clear p534
                try clear p535
                try clear p537
                try clear q532
                try clear q533
                try clear q534
                try clear q535
                try clear q537
                obtain ⟨x7_2, x9_2, x10_2, rfl, rfl, HA, HK2, HO_4, HO_5, HO_6, HO_9, BK520, HB⟩ := hrel
                cases gk with
                | zero => exact absurd HA.out (by simp [incipitlaw18_FootCoheres.l1])
                | succ k2 =>
                  have H := HA.out
                  clear HA
                  simp only [incipitlaw18_FootCoheres.l1] at H
                  by_cases c34 : x10_2 < (x6_1.length : Int)
                  · rw [if_pos c34] at H
                    have c34b0 : decide (x10_2 < (x6_1.length : Int)) = true := decide_eq_true c34
                    clear c34
                    have HC35 := Aside0.mk H
                    clear H
                    obtain ⟨Ao36, co36, eo36⟩ := Kd.N_slice HO_6.out
                    subst eo36
                    go_upto_region 17 with (fail)
                    repeat (go_quiet (fail); go_upto_region 17 with (fail))
                    go_cut [125] (fun v125 wc => ∃ (kq : Nat) (x125_34 : Bool), v125 = .bool x125_34 ∧ Aside0 (incipitlaw18_FootCoheres.j2 kq t521 t523 t526 x6_1 x7_2 x9_2 x10_2 x125_34 = some r) ∧ Aside0 (kq ≤ k2) ∧ Aside0 (Kd.N k24 24 wc w.heap.size (fun k_ => some k_ ≠ ((.slice Ao31 t526.length co31) : Value).ownBlock ∧ some k_ ≠ ((.slice Ao36 x6_1.length co36) : Value).ownBlock ∧ some k_ ≠ (v545 : Value).ownBlock ∧ k_ ≠ gb520) (.slice Ao13 t523.length co13) t523) ∧ Aside0 (Kd.N k24 24 wc w.heap.size (fun k_ => some k_ ≠ ((.slice Ao13 t523.length co13) : Value).ownBlock ∧ some k_ ≠ ((.slice Ao36 x6_1.length co36) : Value).ownBlock ∧ some k_ ≠ (v545 : Value).ownBlock ∧ k_ ≠ gb520) (.slice Ao31 t526.length co31) t526) ∧ Aside0 (Kd.N k24 24 wc w.heap.size (fun k_ => some k_ ≠ ((.slice Ao31 t526.length co31) : Value).ownBlock ∧ some k_ ≠ (v545 : Value).ownBlock ∧ k_ ≠ gb520) (.slice Ao36 x6_1.length co36) x6_1) ∧ Aside0 (Kd.R (Kd.int .i64) 3 wc w.heap.size (fun _ => True) v545 x9_2) ∧ Aside0 (wc.heap[gb520]? = some (.cells #[.int .i64 a0_0, .string a0_1, .string a0_2, .int .i64 a0_3, .int .i64 a0_4, .bool a0_5, (.slice A0_6 l0_6.length c0_6)] 24 (0, 0))) ∧ Aside0 (Below w.heap.size w wc))
                    case first =>
                      have H := HC35.out
                      clear HC35
                      by_cases c37 : 0 ≤ x10_2
                      · rw [if_pos c37] at H
                        have c37b0 : decide (0 ≤ x10_2) = true := decide_eq_true c37
                        clear c37
                        (first | rw [c37b0] | (simp only [i64_w, i32_w]; rw [c37b0]) | skip)
                        by_cases c38 : ((rd_T24 x6_1 x10_2).f3) < 1
                        · rw [if_pos c38] at H
                          have c38b0 : decide (((rd_T24 x6_1 x10_2).f3) < 1) = true := decide_eq_true c38
                          clear c38
                          have H' := Aside0.mk H
                          clear H
                          have p547 : 0 ≤ (x10_2 : Int) := of_decide_eq_true (by first | (with_reducible assumption) | assumption)
                          have q547 : x10_2 < (x6_1.length : Int) := of_decide_eq_true (by first | (with_reducible assumption) | assumption)
                          obtain ⟨ad547, A547_6, c547_6, e547, hx547_0, hx547_1, hx547_2, hx547_3, hx547_4, hx547_5, hx547_6, hl547_6, hi547_6⟩ := at_T24 (Kd.N_reads' HO_6.out).2.2 x10_2 p547 q547
                          cases e547
                          obtain ⟨ce547, hce547, hMe547, hcc547⟩ := Kd.N_get HO_6.out z24 x10_2 p547 (by first | exact q547 | exact of_decide_eq_true (by first | (with_reducible assumption) | assumption) | (have e_ := (Kd.N_reads' HO_6.out).1; omega))
                          obtain ⟨ua547_6, uc547_6, rfl, ul547_6, ge547_6⟩ := k24_openF hMe547
                          have hv547_6 := hcc547 6 _ rfl
                          rw [add_field _ _ 6 (by omega)] at hv547_6
                          replace hv547_6 := Option.some.inj (hv547_6.symm.trans hx547_6)
                          injection hv547_6 with hva_ hvn_ hvc_
                          rw [hva_] at ge547_6
                          rw [hvc_] at ul547_6
                          have HL547_6 := Aside0.mk (show Kd.V k24 24 _ w.heap.size _ _ ((rd_T24 x6_1 x10_2).f6) from Kd.V_mk ul547_6 ge547_6)
                          clear hva_ hvn_ hvc_ ge547_6 ul547_6
                          clear hcc547 hce547
                          have HR547_6 := Aside0.mk hi547_6
                          have HC547_6 := Aside0.mk hl547_6
                          clear hi547_6 hl547_6
                          replace p547 := eq_true p547
                          replace q547 := eq_true q547
                          go_wp2
                          repeat (go_quiet (fail); try go_wp2)
                          go_meet
                          case rel => exact ⟨_, (true), (by first | rfl | (simp; done) | (simp [*]; done)), H', ⟨by have := HK1.out; have := HK2.out; first | omega | exact Nat.le_refl _⟩, ⟨by (with_reducible repeat (first | apply Kd.N_alloc | apply Kd.N_drewN | apply Kd.N_drew)); exact HO_4.out⟩, ⟨by (with_reducible repeat (first | apply Kd.N_alloc | apply Kd.N_drewN | apply Kd.N_drew)); exact HO_5.out⟩, ⟨by (with_reducible repeat (first | apply Kd.N_alloc | apply Kd.N_drewN | apply Kd.N_drew)); exact HO_6.out⟩, ⟨by (with_reducible repeat (first | apply Kd.R_alloc | apply Kd.R_drewN | apply Kd.R_drew)); exact HO_9.out⟩, ⟨by (with_reducible repeat (first | refine blk_drewN ?_ _ | refine blk_drew ?_ | refine blk_alloc ?_ _)); exact BK520.out⟩, ⟨by repeat (first | (with_reducible first | exact HB.out | apply below_alloc | apply pw_below_drewN | apply below_drew1 | refine below_set ?_ GE520.out) | exact HB.out)⟩⟩
                        · rw [if_neg c38] at H
                          have c38b0 : decide (((rd_T24 x6_1 x10_2).f3) < 1) = false := decide_eq_false c38
                          clear c38
                          by_cases c39 : ((rd_T24 x6_1 x10_2).f3) > (t526.length : Int)
                          · rw [if_pos c39] at H
                            have c39b0 : decide ((t526.length : Int) < ((rd_T24 x6_1 x10_2).f3)) = true := decide_eq_true c39
                            clear c39
                            have H' := Aside0.mk H
                            clear H
                            have p547 : 0 ≤ (x10_2 : Int) := of_decide_eq_true (by first | (with_reducible assumption) | assumption)
                            have q547 : x10_2 < (x6_1.length : Int) := of_decide_eq_true (by first | (with_reducible assumption) | assumption)
                            obtain ⟨ad547, A547_6, c547_6, e547, hx547_0, hx547_1, hx547_2, hx547_3, hx547_4, hx547_5, hx547_6, hl547_6, hi547_6⟩ := at_T24 (Kd.N_reads' HO_6.out).2.2 x10_2 p547 q547
                            cases e547
                            obtain ⟨ce547, hce547, hMe547, hcc547⟩ := Kd.N_get HO_6.out z24 x10_2 p547 (by first | exact q547 | exact of_decide_eq_true (by first | (with_reducible assumption) | assumption) | (have e_ := (Kd.N_reads' HO_6.out).1; omega))
                            obtain ⟨ua547_6, uc547_6, rfl, ul547_6, ge547_6⟩ := k24_openF hMe547
                            have hv547_6 := hcc547 6 _ rfl
                            rw [add_field _ _ 6 (by omega)] at hv547_6
                            replace hv547_6 := Option.some.inj (hv547_6.symm.trans hx547_6)
                            injection hv547_6 with hva_ hvn_ hvc_
                            rw [hva_] at ge547_6
                            rw [hvc_] at ul547_6
                            have HL547_6 := Aside0.mk (show Kd.V k24 24 _ w.heap.size _ _ ((rd_T24 x6_1 x10_2).f6) from Kd.V_mk ul547_6 ge547_6)
                            clear hva_ hvn_ hvc_ ge547_6 ul547_6
                            clear hcc547 hce547
                            have HR547_6 := Aside0.mk hi547_6
                            have HC547_6 := Aside0.mk hl547_6
                            clear hi547_6 hl547_6
                            replace p547 := eq_true p547
                            replace q547 := eq_true q547
                            have p548 : 0 ≤ (x10_2 : Int) := of_decide_eq_true (by first | (with_reducible assumption) | assumption)
                            have q548 : x10_2 < (x6_1.length : Int) := of_decide_eq_true (by first | (with_reducible assumption) | assumption)
                            obtain ⟨ad548, A548_6, c548_6, e548, hx548_0, hx548_1, hx548_2, hx548_3, hx548_4, hx548_5, hx548_6, hl548_6, hi548_6⟩ := at_T24 (Kd.N_reads' HO_6.out).2.2 x10_2 p548 q548
                            obtain rfl : ad547 = ad548 := (by injection e548)
                            obtain ⟨ce548, hce548, hMe548, hcc548⟩ := Kd.N_get HO_6.out z24 x10_2 p548 (by first | exact q548 | exact of_decide_eq_true (by first | (with_reducible assumption) | assumption) | (have e_ := (Kd.N_reads' HO_6.out).1; omega))
                            obtain ⟨ua548_6, uc548_6, rfl, ul548_6, ge548_6⟩ := k24_openF hMe548
                            have hv548_6 := hcc548 6 _ rfl
                            rw [add_field _ _ 6 (by omega)] at hv548_6
                            replace hv548_6 := Option.some.inj (hv548_6.symm.trans hx548_6)
                            injection hv548_6 with hva_ hvn_ hvc_
                            rw [hva_] at ge548_6
                            rw [hvc_] at ul548_6
                            have HL548_6 := Aside0.mk (show Kd.V k24 24 _ w.heap.size _ _ ((rd_T24 x6_1 x10_2).f6) from Kd.V_mk ul548_6 ge548_6)
                            clear hva_ hvn_ hvc_ ge548_6 ul548_6
                            clear hcc548 hce548
                            have HR548_6 := Aside0.mk hi548_6
                            have HC548_6 := Aside0.mk hl548_6
                            clear hi548_6 hl548_6
                            replace p548 := eq_true p548
                            replace q548 := eq_true q548
                            have ea_ := Option.some.inj (hx547_6.symm.trans hx548_6)
                            injection ea_ with ea_ en_ ec_
                            subst ea_
                            subst ec_
                            clear en_
                            go_wp2
                            repeat (go_quiet (fail); try go_wp2)
                            go_meet
                            case rel => exact ⟨_, (true), (by first | rfl | (simp; done) | (simp [*]; done)), H', ⟨by have := HK1.out; have := HK2.out; first | omega | exact Nat.le_refl _⟩, ⟨by (with_reducible repeat (first | apply Kd.N_alloc | apply Kd.N_drewN | apply Kd.N_drew)); exact HO_4.out⟩, ⟨by (with_reducible repeat (first | apply Kd.N_alloc | apply Kd.N_drewN | apply Kd.N_drew)); exact HO_5.out⟩, ⟨by (with_reducible repeat (first | apply Kd.N_alloc | apply Kd.N_drewN | apply Kd.N_drew)); exact HO_6.out⟩, ⟨by (with_reducible repeat (first | apply Kd.R_alloc | apply Kd.R_drewN | apply Kd.R_drew)); exact HO_9.out⟩, ⟨by (with_reducible repeat (first | refine blk_drewN ?_ _ | refine blk_drew ?_ | refine blk_alloc ?_ _)); exact BK520.out⟩, ⟨by repeat (first | (with_reducible first | exact HB.out | apply below_alloc | apply pw_below_drewN | apply below_drew1 | refine below_set ?_ GE520.out) | exact HB.out)⟩⟩
                          · rw [if_neg c39] at H
                            have c39b0 : decide ((t526.length : Int) < ((rd_T24 x6_1 x10_2).f3)) = false := decide_eq_false c39
                            clear c39
                            by_cases c40 : ((rd_T24 x6_1 x10_2).f3) > (wrap64 (x7_2 + 1))
                            · rw [if_pos c40] at H
                              have c40b0 : decide ((wrap64 (x7_2 + 1)) < ((rd_T24 x6_1 x10_2).f3)) = true := decide_eq_true c40
                              clear c40
                              have H' := Aside0.mk H
                              clear H
                              have p547 : 0 ≤ (x10_2 : Int) := of_decide_eq_true (by first | (with_reducible assumption) | assumption)
                              have q547 : x10_2 < (x6_1.length : Int) := of_decide_eq_true (by first | (with_reducible assumption) | assumption)
                              obtain ⟨ad547, A547_6, c547_6, e547, hx547_0, hx547_1, hx547_2, hx547_3, hx547_4, hx547_5, hx547_6, hl547_6, hi547_6⟩ := at_T24 (Kd.N_reads' HO_6.out).2.2 x10_2 p547 q547
                              cases e547
                              obtain ⟨ce547, hce547, hMe547, hcc547⟩ := Kd.N_get HO_6.out z24 x10_2 p547 (by first | exact q547 | exact of_decide_eq_true (by first | (with_reducible assumption) | assumption) | (have e_ := (Kd.N_reads' HO_6.out).1; omega))
                              obtain ⟨ua547_6, uc547_6, rfl, ul547_6, ge547_6⟩ := k24_openF hMe547
                              have hv547_6 := hcc547 6 _ rfl
                              rw [add_field _ _ 6 (by omega)] at hv547_6
                              replace hv547_6 := Option.some.inj (hv547_6.symm.trans hx547_6)
                              injection hv547_6 with hva_ hvn_ hvc_
                              rw [hva_] at ge547_6
                              rw [hvc_] at ul547_6
                              have HL547_6 := Aside0.mk (show Kd.V k24 24 _ w.heap.size _ _ ((rd_T24 x6_1 x10_2).f6) from Kd.V_mk ul547_6 ge547_6)
                              clear hva_ hvn_ hvc_ ge547_6 ul547_6
                              clear hcc547 hce547
                              have HR547_6 := Aside0.mk hi547_6
                              have HC547_6 := Aside0.mk hl547_6
                              clear hi547_6 hl547_6
                              replace p547 := eq_true p547
                              replace q547 := eq_true q547
                              have p548 : 0 ≤ (x10_2 : Int) := of_decide_eq_true (by first | (with_reducible assumption) | assumption)
                              have q548 : x10_2 < (x6_1.length : Int) := of_decide_eq_true (by first | (with_reducible assumption) | assumption)
                              obtain ⟨ad548, A548_6, c548_6, e548, hx548_0, hx548_1, hx548_2, hx548_3, hx548_4, hx548_5, hx548_6, hl548_6, hi548_6⟩ := at_T24 (Kd.N_reads' HO_6.out).2.2 x10_2 p548 q548
                              obtain rfl : ad547 = ad548 := (by injection e548)
                              obtain ⟨ce548, hce548, hMe548, hcc548⟩ := Kd.N_get HO_6.out z24 x10_2 p548 (by first | exact q548 | exact of_decide_eq_true (by first | (with_reducible assumption) | assumption) | (have e_ := (Kd.N_reads' HO_6.out).1; omega))
                              obtain ⟨ua548_6, uc548_6, rfl, ul548_6, ge548_6⟩ := k24_openF hMe548
                              have hv548_6 := hcc548 6 _ rfl
                              rw [add_field _ _ 6 (by omega)] at hv548_6
                              replace hv548_6 := Option.some.inj (hv548_6.symm.trans hx548_6)
                              injection hv548_6 with hva_ hvn_ hvc_
                              rw [hva_] at ge548_6
                              rw [hvc_] at ul548_6
                              have HL548_6 := Aside0.mk (show Kd.V k24 24 _ w.heap.size _ _ ((rd_T24 x6_1 x10_2).f6) from Kd.V_mk ul548_6 ge548_6)
                              clear hva_ hvn_ hvc_ ge548_6 ul548_6
                              clear hcc548 hce548
                              have HR548_6 := Aside0.mk hi548_6
                              have HC548_6 := Aside0.mk hl548_6
                              clear hi548_6 hl548_6
                              replace p548 := eq_true p548
                              replace q548 := eq_true q548
                              have ea_ := Option.some.inj (hx547_6.symm.trans hx548_6)
                              injection ea_ with ea_ en_ ec_
                              subst ea_
                              subst ec_
                              clear en_
                              have p549 : 0 ≤ (x10_2 : Int) := of_decide_eq_true (by first | (with_reducible assumption) | assumption)
                              have q549 : x10_2 < (x6_1.length : Int) := of_decide_eq_true (by first | (with_reducible assumption) | assumption)
                              obtain ⟨ad549, A549_6, c549_6, e549, hx549_0, hx549_1, hx549_2, hx549_3, hx549_4, hx549_5, hx549_6, hl549_6, hi549_6⟩ := at_T24 (Kd.N_reads' HO_6.out).2.2 x10_2 p549 q549
                              obtain rfl : ad547 = ad549 := (by injection e549)
                              obtain ⟨ce549, hce549, hMe549, hcc549⟩ := Kd.N_get HO_6.out z24 x10_2 p549 (by first | exact q549 | exact of_decide_eq_true (by first | (with_reducible assumption) | assumption) | (have e_ := (Kd.N_reads' HO_6.out).1; omega))
                              obtain ⟨ua549_6, uc549_6, rfl, ul549_6, ge549_6⟩ := k24_openF hMe549
                              have hv549_6 := hcc549 6 _ rfl
                              rw [add_field _ _ 6 (by omega)] at hv549_6
                              replace hv549_6 := Option.some.inj (hv549_6.symm.trans hx549_6)
                              injection hv549_6 with hva_ hvn_ hvc_
                              rw [hva_] at ge549_6
                              rw [hvc_] at ul549_6
                              have HL549_6 := Aside0.mk (show Kd.V k24 24 _ w.heap.size _ _ ((rd_T24 x6_1 x10_2).f6) from Kd.V_mk ul549_6 ge549_6)
                              clear hva_ hvn_ hvc_ ge549_6 ul549_6
                              clear hcc549 hce549
                              have HR549_6 := Aside0.mk hi549_6
                              have HC549_6 := Aside0.mk hl549_6
                              clear hi549_6 hl549_6
                              replace p549 := eq_true p549
                              replace q549 := eq_true q549
                              have ea_ := Option.some.inj (hx547_6.symm.trans hx549_6)
                              injection ea_ with ea_ en_ ec_
                              subst ea_
                              subst ec_
                              clear en_
                              go_wp2
                              repeat (go_quiet (fail); try go_wp2)
                              go_meet
                              case rel => exact ⟨_, (true), (by first | rfl | (simp; done) | (simp [*]; done)), H', ⟨by have := HK1.out; have := HK2.out; first | omega | exact Nat.le_refl _⟩, ⟨by (with_reducible repeat (first | apply Kd.N_alloc | apply Kd.N_drewN | apply Kd.N_drew)); exact HO_4.out⟩, ⟨by (with_reducible repeat (first | apply Kd.N_alloc | apply Kd.N_drewN | apply Kd.N_drew)); exact HO_5.out⟩, ⟨by (with_reducible repeat (first | apply Kd.N_alloc | apply Kd.N_drewN | apply Kd.N_drew)); exact HO_6.out⟩, ⟨by (with_reducible repeat (first | apply Kd.R_alloc | apply Kd.R_drewN | apply Kd.R_drew)); exact HO_9.out⟩, ⟨by (with_reducible repeat (first | refine blk_drewN ?_ _ | refine blk_drew ?_ | refine blk_alloc ?_ _)); exact BK520.out⟩, ⟨by repeat (first | (with_reducible first | exact HB.out | apply below_alloc | apply pw_below_drewN | apply below_drew1 | refine below_set ?_ GE520.out) | exact HB.out)⟩⟩
                            · rw [if_neg c40] at H
                              have c40b0 : decide ((wrap64 (x7_2 + 1)) < ((rd_T24 x6_1 x10_2).f3)) = false := decide_eq_false c40
                              clear c40
                              obtain ⟨ji41, hji41⟩ : ∃ j_ : Int, (wrap64 (((rd_T24 x6_1 x10_2).f3) - 1)) = j_ := ⟨_, rfl⟩
                              replace H : (if 0 ≤ (ji41) then (if (ji41) < (t526.length : Int) then (incipitlaw18_FootCoheres.j2 k2 t521 t523 t526 x6_1 x7_2 x9_2 x10_2 (((rd_T24 t526 (ji41)).f1).toList != ((rd_T24 x6_1 x10_2).f1).toList)) else (none)) else (none)) = some r := by first | (rw [hji41] at H; exact H) | (simp only [hji41] at H ⊢; exact H)
                              have hji41w : (IntKind.i64.wrap (((rd_T24 x6_1 x10_2).f3) - 1)) = ji41 := (i64_w _).trans hji41
                              by_cases c42 : 0 ≤ (ji41)
                              · rw [if_pos c42] at H
                                have c42b0 : decide (0 ≤ (ji41)) = true := decide_eq_true c42
                                clear c42
                                by_cases c43 : (ji41) < (t526.length : Int)
                                · rw [if_pos c43] at H
                                  have c43b0 : decide ((ji41) < (t526.length : Int)) = true := decide_eq_true c43
                                  clear c43
                                  have H' := Aside0.mk H
                                  clear H
                                  have p547 : 0 ≤ (x10_2 : Int) := of_decide_eq_true (by first | (with_reducible assumption) | assumption)
                                  have q547 : x10_2 < (x6_1.length : Int) := of_decide_eq_true (by first | (with_reducible assumption) | assumption)
                                  obtain ⟨ad547, A547_6, c547_6, e547, hx547_0, hx547_1, hx547_2, hx547_3, hx547_4, hx547_5, hx547_6, hl547_6, hi547_6⟩ := at_T24 (Kd.N_reads' HO_6.out).2.2 x10_2 p547 q547
                                  cases e547
                                  obtain ⟨ce547, hce547, hMe547, hcc547⟩ := Kd.N_get HO_6.out z24 x10_2 p547 (by first | exact q547 | exact of_decide_eq_true (by first | (with_reducible assumption) | assumption) | (have e_ := (Kd.N_reads' HO_6.out).1; omega))
                                  obtain ⟨ua547_6, uc547_6, rfl, ul547_6, ge547_6⟩ := k24_openF hMe547
                                  have hv547_6 := hcc547 6 _ rfl
                                  rw [add_field _ _ 6 (by omega)] at hv547_6
                                  replace hv547_6 := Option.some.inj (hv547_6.symm.trans hx547_6)
                                  injection hv547_6 with hva_ hvn_ hvc_
                                  rw [hva_] at ge547_6
                                  rw [hvc_] at ul547_6
                                  have HL547_6 := Aside0.mk (show Kd.V k24 24 _ w.heap.size _ _ ((rd_T24 x6_1 x10_2).f6) from Kd.V_mk ul547_6 ge547_6)
                                  clear hva_ hvn_ hvc_ ge547_6 ul547_6
                                  clear hcc547 hce547
                                  have HR547_6 := Aside0.mk hi547_6
                                  have HC547_6 := Aside0.mk hl547_6
                                  clear hi547_6 hl547_6
                                  replace p547 := eq_true p547
                                  replace q547 := eq_true q547
                                  have p548 : 0 ≤ (x10_2 : Int) := of_decide_eq_true (by first | (with_reducible assumption) | assumption)
                                  have q548 : x10_2 < (x6_1.length : Int) := of_decide_eq_true (by first | (with_reducible assumption) | assumption)
                                  obtain ⟨ad548, A548_6, c548_6, e548, hx548_0, hx548_1, hx548_2, hx548_3, hx548_4, hx548_5, hx548_6, hl548_6, hi548_6⟩ := at_T24 (Kd.N_reads' HO_6.out).2.2 x10_2 p548 q548
                                  obtain rfl : ad547 = ad548 := (by injection e548)
                                  obtain ⟨ce548, hce548, hMe548, hcc548⟩ := Kd.N_get HO_6.out z24 x10_2 p548 (by first | exact q548 | exact of_decide_eq_true (by first | (with_reducible assumption) | assumption) | (have e_ := (Kd.N_reads' HO_6.out).1; omega))
                                  obtain ⟨ua548_6, uc548_6, rfl, ul548_6, ge548_6⟩ := k24_openF hMe548
                                  have hv548_6 := hcc548 6 _ rfl
                                  rw [add_field _ _ 6 (by omega)] at hv548_6
                                  replace hv548_6 := Option.some.inj (hv548_6.symm.trans hx548_6)
                                  injection hv548_6 with hva_ hvn_ hvc_
                                  rw [hva_] at ge548_6
                                  rw [hvc_] at ul548_6
                                  have HL548_6 := Aside0.mk (show Kd.V k24 24 _ w.heap.size _ _ ((rd_T24 x6_1 x10_2).f6) from Kd.V_mk ul548_6 ge548_6)
                                  clear hva_ hvn_ hvc_ ge548_6 ul548_6
                                  clear hcc548 hce548
                                  have HR548_6 := Aside0.mk hi548_6
                                  have HC548_6 := Aside0.mk hl548_6
                                  clear hi548_6 hl548_6
                                  replace p548 := eq_true p548
                                  replace q548 := eq_true q548
                                  have ea_ := Option.some.inj (hx547_6.symm.trans hx548_6)
                                  injection ea_ with ea_ en_ ec_
                                  subst ea_
                                  subst ec_
                                  clear en_
                                  have p549 : 0 ≤ (x10_2 : Int) := of_decide_eq_true (by first | (with_reducible assumption) | assumption)
                                  have q549 : x10_2 < (x6_1.length : Int) := of_decide_eq_true (by first | (with_reducible assumption) | assumption)
                                  obtain ⟨ad549, A549_6, c549_6, e549, hx549_0, hx549_1, hx549_2, hx549_3, hx549_4, hx549_5, hx549_6, hl549_6, hi549_6⟩ := at_T24 (Kd.N_reads' HO_6.out).2.2 x10_2 p549 q549
                                  obtain rfl : ad547 = ad549 := (by injection e549)
                                  obtain ⟨ce549, hce549, hMe549, hcc549⟩ := Kd.N_get HO_6.out z24 x10_2 p549 (by first | exact q549 | exact of_decide_eq_true (by first | (with_reducible assumption) | assumption) | (have e_ := (Kd.N_reads' HO_6.out).1; omega))
                                  obtain ⟨ua549_6, uc549_6, rfl, ul549_6, ge549_6⟩ := k24_openF hMe549
                                  have hv549_6 := hcc549 6 _ rfl
                                  rw [add_field _ _ 6 (by omega)] at hv549_6
                                  replace hv549_6 := Option.some.inj (hv549_6.symm.trans hx549_6)
                                  injection hv549_6 with hva_ hvn_ hvc_
                                  rw [hva_] at ge549_6
                                  rw [hvc_] at ul549_6
                                  have HL549_6 := Aside0.mk (show Kd.V k24 24 _ w.heap.size _ _ ((rd_T24 x6_1 x10_2).f6) from Kd.V_mk ul549_6 ge549_6)
                                  clear hva_ hvn_ hvc_ ge549_6 ul549_6
                                  clear hcc549 hce549
                                  have HR549_6 := Aside0.mk hi549_6
                                  have HC549_6 := Aside0.mk hl549_6
                                  clear hi549_6 hl549_6
                                  replace p549 := eq_true p549
                                  replace q549 := eq_true q549
                                  have ea_ := Option.some.inj (hx547_6.symm.trans hx549_6)
                                  injection ea_ with ea_ en_ ec_
                                  subst ea_
                                  subst ec_
                                  clear en_
                                  have p550 : 0 ≤ (x10_2 : Int) := of_decide_eq_true (by first | (with_reducible assumption) | assumption)
                                  have q550 : x10_2 < (x6_1.length : Int) := of_decide_eq_true (by first | (with_reducible assumption) | assumption)
                                  obtain ⟨ad550, A550_6, c550_6, e550, hx550_0, hx550_1, hx550_2, hx550_3, hx550_4, hx550_5, hx550_6, hl550_6, hi550_6⟩ := at_T24 (Kd.N_reads' HO_6.out).2.2 x10_2 p550 q550
                                  obtain rfl : ad547 = ad550 := (by injection e550)
                                  obtain ⟨ce550, hce550, hMe550, hcc550⟩ := Kd.N_get HO_6.out z24 x10_2 p550 (by first | exact q550 | exact of_decide_eq_true (by first | (with_reducible assumption) | assumption) | (have e_ := (Kd.N_reads' HO_6.out).1; omega))
                                  obtain ⟨ua550_6, uc550_6, rfl, ul550_6, ge550_6⟩ := k24_openF hMe550
                                  have hv550_6 := hcc550 6 _ rfl
                                  rw [add_field _ _ 6 (by omega)] at hv550_6
                                  replace hv550_6 := Option.some.inj (hv550_6.symm.trans hx550_6)
                                  injection hv550_6 with hva_ hvn_ hvc_
                                  rw [hva_] at ge550_6
                                  rw [hvc_] at ul550_6
                                  have HL550_6 := Aside0.mk (show Kd.V k24 24 _ w.heap.size _ _ ((rd_T24 x6_1 x10_2).f6) from Kd.V_mk ul550_6 ge550_6)
                                  clear hva_ hvn_ hvc_ ge550_6 ul550_6
                                  clear hcc550 hce550
                                  have HR550_6 := Aside0.mk hi550_6
                                  have HC550_6 := Aside0.mk hl550_6
                                  clear hi550_6 hl550_6
                                  replace p550 := eq_true p550
                                  replace q550 := eq_true q550
                                  have ea_ := Option.some.inj (hx547_6.symm.trans hx550_6)
                                  injection ea_ with ea_ en_ ec_
                                  subst ea_
                                  subst ec_
                                  clear en_
                                  have p551 : 0 ≤ ((ji41) : Int) := of_decide_eq_true (by first | (with_reducible assumption) | assumption)
                                  have q551 : (ji41) < (t526.length : Int) := of_decide_eq_true (by first | (with_reducible assumption) | assumption)
                                  obtain ⟨ad551, A551_6, c551_6, e551, hx551_0, hx551_1, hx551_2, hx551_3, hx551_4, hx551_5, hx551_6, hl551_6, hi551_6⟩ := at_T24 (Kd.N_reads' HO_5.out).2.2 (ji41) p551 q551
                                  cases e551
                                  obtain ⟨ce551, hce551, hMe551, hcc551⟩ := Kd.N_get HO_5.out z24 (ji41) p551 (by first | exact q551 | exact of_decide_eq_true (by first | (with_reducible assumption) | assumption) | (have e_ := (Kd.N_reads' HO_5.out).1; omega))
                                  obtain ⟨ua551_6, uc551_6, rfl, ul551_6, ge551_6⟩ := k24_openF hMe551
                                  have hv551_6 := hcc551 6 _ rfl
                                  rw [add_field _ _ 6 (by omega)] at hv551_6
                                  replace hv551_6 := Option.some.inj (hv551_6.symm.trans hx551_6)
                                  injection hv551_6 with hva_ hvn_ hvc_
                                  rw [hva_] at ge551_6
                                  rw [hvc_] at ul551_6
                                  have HL551_6 := Aside0.mk (show Kd.V k24 24 _ w.heap.size _ _ ((rd_T24 t526 (ji41)).f6) from Kd.V_mk ul551_6 ge551_6)
                                  clear hva_ hvn_ hvc_ ge551_6 ul551_6
                                  clear hcc551 hce551
                                  have HR551_6 := Aside0.mk hi551_6
                                  have HC551_6 := Aside0.mk hl551_6
                                  clear hi551_6 hl551_6
                                  replace p551 := eq_true p551
                                  replace q551 := eq_true q551
                                  have p552 : 0 ≤ (x10_2 : Int) := of_decide_eq_true (by first | (with_reducible assumption) | assumption)
                                  have q552 : x10_2 < (x6_1.length : Int) := of_decide_eq_true (by first | (with_reducible assumption) | assumption)
                                  obtain ⟨ad552, A552_6, c552_6, e552, hx552_0, hx552_1, hx552_2, hx552_3, hx552_4, hx552_5, hx552_6, hl552_6, hi552_6⟩ := at_T24 (Kd.N_reads' HO_6.out).2.2 x10_2 p552 q552
                                  obtain rfl : ad547 = ad552 := (by injection e552)
                                  obtain ⟨ce552, hce552, hMe552, hcc552⟩ := Kd.N_get HO_6.out z24 x10_2 p552 (by first | exact q552 | exact of_decide_eq_true (by first | (with_reducible assumption) | assumption) | (have e_ := (Kd.N_reads' HO_6.out).1; omega))
                                  obtain ⟨ua552_6, uc552_6, rfl, ul552_6, ge552_6⟩ := k24_openF hMe552
                                  have hv552_6 := hcc552 6 _ rfl
                                  rw [add_field _ _ 6 (by omega)] at hv552_6
                                  replace hv552_6 := Option.some.inj (hv552_6.symm.trans hx552_6)
                                  injection hv552_6 with hva_ hvn_ hvc_
                                  rw [hva_] at ge552_6
                                  rw [hvc_] at ul552_6
                                  have HL552_6 := Aside0.mk (show Kd.V k24 24 _ w.heap.size _ _ ((rd_T24 x6_1 x10_2).f6) from Kd.V_mk ul552_6 ge552_6)
                                  clear hva_ hvn_ hvc_ ge552_6 ul552_6
                                  clear hcc552 hce552
                                  have HR552_6 := Aside0.mk hi552_6
                                  have HC552_6 := Aside0.mk hl552_6
                                  clear hi552_6 hl552_6
                                  replace p552 := eq_true p552
                                  replace q552 := eq_true q552
                                  have ea_ := Option.some.inj (hx547_6.symm.trans hx552_6)
                                  injection ea_ with ea_ en_ ec_
                                  subst ea_
                                  subst ec_
                                  clear en_
                                  go_wp2
                                  repeat (go_quiet (fail); try go_wp2)
                                  go_meet
                                  case rel => exact ⟨_, ((((rd_T24 t526 (ji41)).f1).toList != ((rd_T24 x6_1 x10_2).f1).toList)), (by first | rfl | (simp; done) | (simp only [← hji41] <;> (first | rfl | simp)) | (simp [*]; done)), H', ⟨by have := HK1.out; have := HK2.out; first | omega | exact Nat.le_refl _⟩, ⟨by (with_reducible repeat (first | apply Kd.N_alloc | apply Kd.N_drewN | apply Kd.N_drew)); exact HO_4.out⟩, ⟨by (with_reducible repeat (first | apply Kd.N_alloc | apply Kd.N_drewN | apply Kd.N_drew)); exact HO_5.out⟩, ⟨by (with_reducible repeat (first | apply Kd.N_alloc | apply Kd.N_drewN | apply Kd.N_drew)); exact HO_6.out⟩, ⟨by (with_reducible repeat (first | apply Kd.R_alloc | apply Kd.R_drewN | apply Kd.R_drew)); exact HO_9.out⟩, ⟨by (with_reducible repeat (first | refine blk_drewN ?_ _ | refine blk_drew ?_ | refine blk_alloc ?_ _)); exact BK520.out⟩, ⟨by repeat (first | (with_reducible first | exact HB.out | apply below_alloc | apply pw_below_drewN | apply below_drew1 | refine below_set ?_ GE520.out) | exact HB.out)⟩⟩
                                · rw [if_neg c43] at H
                                  exact absurd H (by simp)
                              · rw [if_neg c42] at H
                                exact absurd H (by simp)
                      · rw [if_neg c37] at H
                        exact absurd H (by simp)
                    case rest =>
                      clear HC35
                      try clear c1
                      try clear c2
                      try clear p2
                      try clear c3
                      try clear c4
                      try clear c5
                      try clear p5
                      try clear q5
                      try clear hx5
                      try clear p6
                      try clear c15
                      try clear c15b0
                      try clear c16
                      try clear c16b0
                      try clear c17
                      try clear c17b0
                      try clear c17b1
                      try clear c18
                      try clear c18b0
                      try clear c18b1
                      try clear c19
                      try clear c19b0
                      try clear c21
                      try clear c21b0
                      try clear c23
                      try clear c29
                      try clear c29b0
                      try clear c29b1
                      try clear c30
                      try clear c30b0
                      try clear c30b1
                      try clear c34
                      try clear c34b0
                      try clear c37
                      try clear c37b0
                      try clear c38
                      try clear c38b0
                      try clear c39
                      try clear c39b0
                      try clear c40
                      try clear c40b0
                      try clear c42
                      try clear c42b0
                      try clear c43
                      try clear c43b0
                      try clear hcz11_0
                      try clear hcz11_1
                      try clear hcz11_2
                      try clear hcz11_3
                      try clear hcz11_4
                      try clear hcz11_5
                      try clear hcz11_6
                      try clear hcz9_0
                      try clear hcz9_1
                      try clear hcz9_2
                      try clear hcz9_3
                      try clear hcz9_4
                      try clear hcz9_5
                      try clear hcz9_6
                      try clear hfz11_0
                      try clear hfz11_1
                      try clear hfz11_2
                      try clear hfz11_3
                      try clear hfz11_4
                      try clear hfz11_5
                      try clear hfz11_6
                      try clear hfz9_0
                      try clear hfz9_1
                      try clear hfz9_2
                      try clear hfz9_3
                      try clear hfz9_4
                      try clear hfz9_5
                      try clear hfz9_6
                      try clear hx532_0
                      try clear hx532_1
                      try clear hx532_2
                      try clear hx532_3
                      try clear hx532_4
                      try clear hx532_5
                      try clear hx532_6
                      try clear hx533_0
                      try clear hx533_1
                      try clear hx533_2
                      try clear hx533_3
                      try clear hx533_4
                      try clear hx533_5
                      try clear hx533_6
                      try clear hx534_0
                      try clear hx534_1
                      try clear hx534_2
                      try clear hx534_3
                      try clear hx534_4
                      try clear hx534_5
                      try clear hx534_6
                      try clear hx535_0
                      try clear hx535_1
                      try clear hx535_2
                      try clear hx535_3
                      try clear hx535_4
                      try clear hx535_5
                      try clear hx535_6
                      try clear hx537_0
                      try clear hx537_1
                      try clear hx537_2
                      try clear hx537_3
                      try clear hx537_4
                      try clear hx537_5
                      try clear hx537_6
                      try clear hx547_0
                      try clear hx547_1
                      try clear hx547_2
                      try clear hx547_3
                      try clear hx547_4
                      try clear hx547_5
                      try clear hx547_6
                      try clear hx548_0
                      try clear hx548_1
                      try clear hx548_2
                      try clear hx548_3
                      try clear hx548_4
                      try clear hx548_5
                      try clear hx548_6
                      try clear hx549_0
                      try clear hx549_1
                      try clear hx549_2
                      try clear hx549_3
                      try clear hx549_4
                      try clear hx549_5
                      try clear hx549_6
                      try clear hx550_0
                      try clear hx550_1
                      try clear hx550_2
                      try clear hx550_3
                      try clear hx550_4
                      try clear hx550_5
                      try clear hx550_6
                      try clear hx551_0
                      try clear hx551_1
                      try clear hx551_2
                      try clear hx551_3
                      try clear hx551_4
                      try clear hx551_5
                      try clear hx551_6
                      try clear hx552_0
                      try clear hx552_1
                      try clear hx552_2
                      try clear hx552_3
                      try clear hx552_4
                      try clear hx552_5
                      try clear hx552_6
                      try clear p2
                      try clear p5
                      try clear p532
                      try clear p533
                      try clear p534
                      try clear p535
                      try clear p537
                      try clear p547
                      try clear p548
                      try clear p549
                      try clear p550
                      try clear p551
                      try clear p552
                      try clear p6
                      try clear q5
                      try clear q532
                      try clear q533
                      try clear q534
                      try clear q535
                      try clear q537
                      try clear q547
                      try clear q548
                      try clear q549
                      try clear q550
                      try clear q551
                      try clear q552
                      obtain ⟨kq, x125_34, rfl, HA, HJ34, HO_4, HO_5, HO_6, HO_9, BK520, HB⟩ := hcut
                      cases kq with
                      | zero => exact absurd HA.out (by simp [incipitlaw18_FootCoheres.j2])
                      | succ kj34 =>
                        have H := HA.out
                        clear HA
                        simp only [incipitlaw18_FootCoheres.j2] at H
                        by_cases c44 : x125_34 = true
                        · subst c44
                          have H1 : (none) = some r := by rw [if_pos rfl] at H; exact H
                          clear H
                          have H := H1
                          clear H1
                          exact absurd H (by simp)
                        · replace c44 := Bool.eq_false_iff.mpr c44
                          subst c44
                          have H1 : (if 0 ≤ x10_2 then (if x10_2 < (x6_1.length : Int) then (if 0 ≤ ((rd_T24 x6_1 x10_2).f3) then (if ((rd_T24 x6_1 x10_2).f3) < (x9_2.length : Int) then ((some (x9_2.set (((rd_T24 x6_1 x10_2).f3) : Int).toNat (wrap64 ((rd x9_2 ((rd_T24 x6_1 x10_2).f3)) + 1)) : List Int)).bind fun y556 => (if ((rd_T24 x6_1 x10_2).f4) = (rd y556 ((rd_T24 x6_1 x10_2).f3)) then (incipitlaw18_FootCoheres.l1 kj34 t521 t523 t526 x6_1 (mx x7_2 ((rd_T24 x6_1 x10_2).f3)) y556 (wrap64 (x10_2 + 1))) else (none))) else (none)) else (none)) else (none)) else (none)) = some r := by rw [if_neg (show ¬ (false = true) by decide)] at H; exact H
                          clear H
                          have H := H1
                          clear H1
                          by_cases c45 : 0 ≤ x10_2
                          · rw [if_pos c45] at H
                            have c45b0 : decide (0 ≤ x10_2) = true := decide_eq_true c45
                            clear c45
                            by_cases c46 : x10_2 < (x6_1.length : Int)
                            · rw [if_pos c46] at H
                              have c46b0 : decide (x10_2 < (x6_1.length : Int)) = true := decide_eq_true c46
                              clear c46
                              obtain ⟨ji47, hji47⟩ : ∃ j_ : Int, (mx x7_2 ((rd_T24 x6_1 x10_2).f3)) = j_ := ⟨_, rfl⟩
                              replace H : (if 0 ≤ ((rd_T24 x6_1 x10_2).f3) then (if ((rd_T24 x6_1 x10_2).f3) < (x9_2.length : Int) then ((some (x9_2.set (((rd_T24 x6_1 x10_2).f3) : Int).toNat (wrap64 ((rd x9_2 ((rd_T24 x6_1 x10_2).f3)) + 1)) : List Int)).bind fun y556 => (if ((rd_T24 x6_1 x10_2).f4) = (rd y556 ((rd_T24 x6_1 x10_2).f3)) then (incipitlaw18_FootCoheres.l1 kj34 t521 t523 t526 x6_1 ji47 y556 (wrap64 (x10_2 + 1))) else (none))) else (none)) else (none)) = some r := by first | (rw [hji47] at H; exact H) | (simp only [hji47] at H ⊢; exact H)
                              have hji47_ : (if x7_2 < ((rd_T24 x6_1 x10_2).f3) then ((rd_T24 x6_1 x10_2).f3) else x7_2) = ji47 := hji47
                              by_cases c48 : 0 ≤ ((rd_T24 x6_1 x10_2).f3)
                              · rw [if_pos c48] at H
                                have c48b0 : decide (0 ≤ ((rd_T24 x6_1 x10_2).f3)) = true := decide_eq_true c48
                                clear c48
                                by_cases c49 : ((rd_T24 x6_1 x10_2).f3) < (x9_2.length : Int)
                                · rw [if_pos c49] at H
                                  have c49b0 : decide (((rd_T24 x6_1 x10_2).f3) < (x9_2.length : Int)) = true := decide_eq_true c49
                                  clear c49
                                  obtain ⟨y556, hy556⟩ : ∃ y_ : List Int, y_ = (x9_2.set (((rd_T24 x6_1 x10_2).f3) : Int).toNat (wrap64 ((rd x9_2 ((rd_T24 x6_1 x10_2).f3)) + 1))) := ⟨_, rfl⟩
                                  replace H : (if ((rd_T24 x6_1 x10_2).f4) = (rd y556 ((rd_T24 x6_1 x10_2).f3)) then (incipitlaw18_FootCoheres.l1 kj34 t521 t523 t526 x6_1 ji47 y556 (wrap64 (x10_2 + 1))) else (none)) = some r := by first | (rw [hy556]; with_reducible exact H) | (have H2_ := (Option.bind_some _ _).symm.trans H; rw [hy556]; with_reducible exact H2_) | (have H2_ := (Option.bind_some _ _).symm.trans H; with_reducible exact H2_) | with_reducible exact H | (rw [hy556]; exact H) | exact H
                                  have Ny556 := Aside0.mk hy556
                                  clear hy556
                                  by_cases c51 : ((rd_T24 x6_1 x10_2).f4) = (rd y556 ((rd_T24 x6_1 x10_2).f3))
                                  · rw [if_pos c51] at H
                                    have c51b0 : (((rd_T24 x6_1 x10_2).f4) == (rd y556 ((rd_T24 x6_1 x10_2).f3))) = true := beq_iff_eq.mpr c51
                                    have c51b1 : (((rd_T24 x6_1 x10_2).f4) != (rd y556 ((rd_T24 x6_1 x10_2).f3))) = false := bne_eq_false_iff_eq.mpr c51
                                    clear c51
                                    have H' := Aside0.mk H
                                    clear H
                                    have p553 : 0 ≤ (x10_2 : Int) := of_decide_eq_true (by first | (with_reducible assumption) | assumption)
                                    have q553 : x10_2 < (x6_1.length : Int) := of_decide_eq_true (by first | (with_reducible assumption) | assumption)
                                    obtain ⟨ad553, A553_6, c553_6, e553, hx553_0, hx553_1, hx553_2, hx553_3, hx553_4, hx553_5, hx553_6, hl553_6, hi553_6⟩ := at_T24 (Kd.N_reads' HO_6.out).2.2 x10_2 p553 q553
                                    cases e553
                                    obtain ⟨ce553, hce553, hMe553, hcc553⟩ := Kd.N_get HO_6.out z24 x10_2 p553 (by first | exact q553 | exact of_decide_eq_true (by first | (with_reducible assumption) | assumption) | (have e_ := (Kd.N_reads' HO_6.out).1; omega))
                                    obtain ⟨ua553_6, uc553_6, rfl, ul553_6, ge553_6⟩ := k24_openF hMe553
                                    have hv553_6 := hcc553 6 _ rfl
                                    rw [add_field _ _ 6 (by omega)] at hv553_6
                                    replace hv553_6 := Option.some.inj (hv553_6.symm.trans hx553_6)
                                    injection hv553_6 with hva_ hvn_ hvc_
                                    rw [hva_] at ge553_6
                                    rw [hvc_] at ul553_6
                                    have HL553_6 := Aside0.mk (show Kd.V k24 24 _ w.heap.size _ _ ((rd_T24 x6_1 x10_2).f6) from Kd.V_mk ul553_6 ge553_6)
                                    clear hva_ hvn_ hvc_ ge553_6 ul553_6
                                    clear hcc553 hce553
                                    have HR553_6 := Aside0.mk hi553_6
                                    have HC553_6 := Aside0.mk hl553_6
                                    clear hi553_6 hl553_6
                                    replace p553 := eq_true p553
                                    replace q553 := eq_true q553
                                    have p554 : 0 ≤ (x10_2 : Int) := of_decide_eq_true (by first | (with_reducible assumption) | assumption)
                                    have q554 : x10_2 < (x6_1.length : Int) := of_decide_eq_true (by first | (with_reducible assumption) | assumption)
                                    obtain ⟨ad554, A554_6, c554_6, e554, hx554_0, hx554_1, hx554_2, hx554_3, hx554_4, hx554_5, hx554_6, hl554_6, hi554_6⟩ := at_T24 (Kd.N_reads' HO_6.out).2.2 x10_2 p554 q554
                                    obtain rfl : ad553 = ad554 := (by injection e554)
                                    obtain ⟨ce554, hce554, hMe554, hcc554⟩ := Kd.N_get HO_6.out z24 x10_2 p554 (by first | exact q554 | exact of_decide_eq_true (by first | (with_reducible assumption) | assumption) | (have e_ := (Kd.N_reads' HO_6.out).1; omega))
                                    obtain ⟨ua554_6, uc554_6, rfl, ul554_6, ge554_6⟩ := k24_openF hMe554
                                    have hv554_6 := hcc554 6 _ rfl
                                    rw [add_field _ _ 6 (by omega)] at hv554_6
                                    replace hv554_6 := Option.some.inj (hv554_6.symm.trans hx554_6)
                                    injection hv554_6 with hva_ hvn_ hvc_
                                    rw [hva_] at ge554_6
                                    rw [hvc_] at ul554_6
                                    have HL554_6 := Aside0.mk (show Kd.V k24 24 _ w.heap.size _ _ ((rd_T24 x6_1 x10_2).f6) from Kd.V_mk ul554_6 ge554_6)
                                    clear hva_ hvn_ hvc_ ge554_6 ul554_6
                                    clear hcc554 hce554
                                    have HR554_6 := Aside0.mk hi554_6
                                    have HC554_6 := Aside0.mk hl554_6
                                    clear hi554_6 hl554_6
                                    replace p554 := eq_true p554
                                    replace q554 := eq_true q554
                                    have ea_ := Option.some.inj (hx553_6.symm.trans hx554_6)
                                    injection ea_ with ea_ en_ ec_
                                    subst ea_
                                    subst ec_
                                    clear en_
                                    obtain ⟨Ao52, co52, eo52⟩ := Kd.R_slice HO_9.out
                                    subst eo52
                                    have p555 : 0 ≤ (((rd_T24 x6_1 x10_2).f3) : Int) := of_decide_eq_true (by first | (with_reducible assumption) | assumption)
                                    have q555 : ((rd_T24 x6_1 x10_2).f3) < (x9_2.length : Int) := of_decide_eq_true (by first | (with_reducible assumption) | assumption)
                                    obtain ⟨ad555, e555, hx555_0⟩ := Kd.at_int (Kd.R_reads' HO_9.out).2.2 ((rd_T24 x6_1 x10_2).f3) p555 q555
                                    cases e555
                                    replace p555 := eq_true p555
                                    replace q555 := eq_true q555
                                    have p50 : 0 ≤ (((rd_T24 x6_1 x10_2).f3) : Int) := of_decide_eq_true (by first | (with_reducible assumption) | assumption)
                                    have q50 : (((rd_T24 x6_1 x10_2).f3) : Int) < ((x9_2.length : Int) : Int) := of_decide_eq_true (by first | (with_reducible assumption) | assumption)
                                    obtain ⟨go50, co50, eo50, gb50, gl50, cl50, HG50⟩ := Kd.R_form HO_9.out (by omega)
                                    (first | cases eo50 | (injection eo50 with ea_ en_ ec_; (first | subst ea_ | (injection ea_ with ea_; subst ea_)); subst ec_; clear en_))
                                    have GB50 := Aside0.mk gb50
                                    have GG50 := Aside0.mk HG50
                                    clear gb50 gl50 HG50
                                    (first | simp only [add_plain] at hx555_0 | skip)
                                    obtain ⟨hx50_0, hf50_0⟩ := Kd.R_celln 0 HO_9.out (((rd_T24 x6_1 x10_2).f3) : Int) p50 q50
                                    replace p50 := eq_true p50
                                    replace q50 := eq_true q50
                                    have HP53 := Kd.R_putg HO_9.out (((rd_T24 x6_1 x10_2).f3) : Int) (wrap64 ((rd x9_2 ((rd_T24 x6_1 x10_2).f3)) + 1))
                                    go_wp2_with (first | ((with_reducible refine gate_store (t := 3) (p := 142) rfl ?_); (try (rw [drewN_self wc]; generalize hq_ : World.drewN wc _ = wc; have n0_ := Aside0.mk (Kd.N_at hq_ HO_4.out); have n1_ := Aside0.mk (Kd.N_at hq_ HO_5.out); have n2_ := Aside0.mk (Kd.N_at hq_ HO_6.out); have n3_ := Aside0.mk (Kd.R_at hq_ HO_9.out); have n4_ := Aside0.mk (Kd.V_at hq_ HL553_6.out); have n5_ := Aside0.mk (Kd.V_at hq_ HL554_6.out); have n6_ := Aside0.mk (blk_at hq_ BK520.out); have n7_ := Aside0.mk (below_at hq_ HB.out); clear hq_ HO_4 HO_5 HO_6 HO_9 HL553_6 HL554_6 BK520 HB; have HO_4 := n0_; have HO_5 := n1_; have HO_6 := n2_; have HO_9 := n3_; have HL553_6 := n4_; have HL554_6 := n5_; have BK520 := n6_; have HB := n7_; clear n0_ n1_ n2_ n3_ n4_ n5_ n6_ n7_; (try (have HP53 := Kd.R_putg HO_9.out (((rd_T24 x6_1 x10_2).f3) : Int) (wrap64 ((rd x9_2 ((rd_T24 x6_1 x10_2).f3)) + 1)))))); refine store_event (t := 3) (p := 142) (v := ?vo_w54) (w1 := (wc.setCell ⟨go50, (((rd_T24 x6_1 x10_2).f3) : Int).toNat, none⟩ (.int .i64 (wrap64 ((rd x9_2 ((rd_T24 x6_1 x10_2).f3)) + 1))))) ?hg ?ho ?hn ?hr ?_; (case ho => rfl); (case hg => rfl); (case hn => rfl); (case hr => first | (go_simp; done) | (go_simp; rfl)); intro w54 hw; have hg : wc.grownBy w54 (some go50) := (by rw [hw]; exact HP53.2); have hp_ : Kd.R (Kd.int .i64) 3 w54 w.heap.size (fun _ => True) (.slice (some ⟨go50, 0, none⟩) x9_2.length co52) y556 := (by rw [hw, Ny556.out]; exact HP53.1); clear HP53; have n0_ := Aside0.mk (Kd.N_afterv (v := (.slice (some ⟨go50, 0, none⟩) x9_2.length co52)) (v1 := (.slice (some ⟨go50, 0, none⟩) x9_2.length co52)) (ok := (fun k_ => some k_ ≠ (.slice Ao31 t526.length co31 : Value).ownBlock ∧ some k_ ≠ (.slice (some ad553) x6_1.length co36 : Value).ownBlock ∧ k_ ≠ gb520)) (by (with_reducible repeat (first | apply Kd.N_alloc | apply Kd.N_drewN | apply Kd.N_drew)); exact Kd.N_mono HO_4.out (fun _ hk => ⟨⟨hk.1, ⟨hk.2.1, hk.2.2.2⟩⟩, hk.2.2.1⟩)) hg (.inl rfl)); have n1_ := Aside0.mk (Kd.N_afterv (v := (.slice (some ⟨go50, 0, none⟩) x9_2.length co52)) (v1 := (.slice (some ⟨go50, 0, none⟩) x9_2.length co52)) (ok := (fun k_ => some k_ ≠ (.slice Ao13 t523.length co13 : Value).ownBlock ∧ some k_ ≠ (.slice (some ad553) x6_1.length co36 : Value).ownBlock ∧ k_ ≠ gb520)) (by (with_reducible repeat (first | apply Kd.N_alloc | apply Kd.N_drewN | apply Kd.N_drew)); exact Kd.N_mono HO_5.out (fun _ hk => ⟨⟨hk.1, ⟨hk.2.1, hk.2.2.2⟩⟩, hk.2.2.1⟩)) hg (.inl rfl)); have n2_ := Aside0.mk (Kd.N_afterv (v := (.slice (some ⟨go50, 0, none⟩) x9_2.length co52)) (v1 := (.slice (some ⟨go50, 0, none⟩) x9_2.length co52)) (ok := (fun k_ => some k_ ≠ (.slice Ao31 t526.length co31 : Value).ownBlock ∧ k_ ≠ gb520)) (by (with_reducible repeat (first | apply Kd.N_alloc | apply Kd.N_drewN | apply Kd.N_drew)); exact Kd.N_mono HO_6.out (fun _ hk => ⟨⟨hk.1, hk.2.2⟩, hk.2.1⟩)) hg (.inl rfl)); have n3_ := Aside0.mk (hp_); have n4_ := Aside0.mk (blk_grown (g := gb520) (o := .cells #[.int .i64 a0_0, .string a0_1, .string a0_2, .int .i64 a0_3, .int .i64 a0_4, .bool a0_5, .slice A0_6 l0_6.length c0_6] 24 (0, 0)) (by (with_reducible repeat (first | refine blk_drewN ?_ _ | refine blk_drew ?_ | refine blk_alloc ?_ _)); exact BK520.out) hg (Kd.R_ne HO_9.out BK520.out (by decide))); have n5_ := Aside0.mk (Kd.V_afterv (v := (.slice (some ⟨go50, 0, none⟩) x9_2.length co52)) (v1 := (.slice (some ⟨go50, 0, none⟩) x9_2.length co52)) (ok := (fun k_ => some k_ ≠ (.slice Ao31 t526.length co31 : Value).ownBlock ∧ some k_ ≠ (.slice (some ad553) x6_1.length co36 : Value).ownBlock ∧ k_ ≠ gb520)) (by (with_reducible repeat (first | apply Kd.V_alloc | apply Kd.V_drewN | apply Kd.V_drew)); exact Kd.V_mono HL553_6.out (fun _ hk => ⟨⟨hk.1.1, ⟨hk.2, hk.1.2.2⟩⟩, hk.1.2.1⟩)) hg (.inl rfl)); have n6_ := Aside0.mk (Kd.V_afterv (v := (.slice (some ⟨go50, 0, none⟩) x9_2.length co52)) (v1 := (.slice (some ⟨go50, 0, none⟩) x9_2.length co52)) (ok := (fun k_ => some k_ ≠ (.slice Ao31 t526.length co31 : Value).ownBlock ∧ some k_ ≠ (.slice (some ad553) x6_1.length co36 : Value).ownBlock ∧ k_ ≠ gb520)) (by (with_reducible repeat (first | apply Kd.V_alloc | apply Kd.V_drewN | apply Kd.V_drew)); exact Kd.V_mono HL554_6.out (fun _ hk => ⟨⟨hk.1.1, ⟨hk.2, hk.1.2.2⟩⟩, hk.1.2.1⟩)) hg (.inl rfl)); have n7_ := Aside0.mk ((by rw [hw]; exact below_set (HB.out) GB50.out : Below w.heap.size w w54)); clear HO_4; clear HO_5; clear HO_6; clear HO_9; clear BK520; clear HL553_6; clear HL554_6; clear HB; have HO_4 := n0_; have HO_5 := n1_; have HO_6 := n2_; have HO_9 := n3_; have BK520 := n4_; have HL553_6 := n5_; have HL554_6 := n6_; have HB := n7_; clear n0_ n1_ n2_ n3_ n4_ n5_ n6_ n7_; clear hg hw hp_; have p557 : 0 ≤ (x10_2 : Int) := of_decide_eq_true (by first | (with_reducible assumption) | assumption); have q557 : x10_2 < (x6_1.length : Int) := of_decide_eq_true (by first | (with_reducible assumption) | assumption); obtain ⟨ad557, A557_6, c557_6, e557, hx557_0, hx557_1, hx557_2, hx557_3, hx557_4, hx557_5, hx557_6, hl557_6, hi557_6⟩ := at_T24 (Kd.N_reads' HO_6.out).2.2 x10_2 p557 q557; obtain rfl : ad553 = ad557 := (by injection e557); obtain ⟨ce557, hce557, hMe557, hcc557⟩ := Kd.N_get HO_6.out z24 x10_2 p557 (by first | exact q557 | exact of_decide_eq_true (by first | (with_reducible assumption) | assumption) | (have e_ := (Kd.N_reads' HO_6.out).1; omega)); obtain ⟨ua557_6, uc557_6, rfl, ul557_6, ge557_6⟩ := k24_openF hMe557; have hv557_6 := hcc557 6 _ rfl; rw [add_field _ _ 6 (by omega)] at hv557_6; replace hv557_6 := Option.some.inj (hv557_6.symm.trans hx557_6); injection hv557_6 with hva_ hvn_ hvc_; rw [hva_] at ge557_6; rw [hvc_] at ul557_6; have HL557_6 := Aside0.mk (show Kd.V k24 24 _ w.heap.size _ _ ((rd_T24 x6_1 x10_2).f6) from Kd.V_mk ul557_6 ge557_6); clear hva_ hvn_ hvc_ ge557_6 ul557_6; clear hcc557 hce557; have HR557_6 := Aside0.mk hi557_6; have HC557_6 := Aside0.mk hl557_6; clear hi557_6 hl557_6; replace p557 := eq_true p557; replace q557 := eq_true q557; have p558 : 0 ≤ (x10_2 : Int) := of_decide_eq_true (by first | (with_reducible assumption) | assumption); have q558 : x10_2 < (x6_1.length : Int) := of_decide_eq_true (by first | (with_reducible assumption) | assumption); obtain ⟨ad558, A558_6, c558_6, e558, hx558_0, hx558_1, hx558_2, hx558_3, hx558_4, hx558_5, hx558_6, hl558_6, hi558_6⟩ := at_T24 (Kd.N_reads' HO_6.out).2.2 x10_2 p558 q558; obtain rfl : ad553 = ad558 := (by injection e558); obtain ⟨ce558, hce558, hMe558, hcc558⟩ := Kd.N_get HO_6.out z24 x10_2 p558 (by first | exact q558 | exact of_decide_eq_true (by first | (with_reducible assumption) | assumption) | (have e_ := (Kd.N_reads' HO_6.out).1; omega)); obtain ⟨ua558_6, uc558_6, rfl, ul558_6, ge558_6⟩ := k24_openF hMe558; have hv558_6 := hcc558 6 _ rfl; rw [add_field _ _ 6 (by omega)] at hv558_6; replace hv558_6 := Option.some.inj (hv558_6.symm.trans hx558_6); injection hv558_6 with hva_ hvn_ hvc_; rw [hva_] at ge558_6; rw [hvc_] at ul558_6; have HL558_6 := Aside0.mk (show Kd.V k24 24 _ w.heap.size _ _ ((rd_T24 x6_1 x10_2).f6) from Kd.V_mk ul558_6 ge558_6); clear hva_ hvn_ hvc_ ge558_6 ul558_6; clear hcc558 hce558; have HR558_6 := Aside0.mk hi558_6; have HC558_6 := Aside0.mk hl558_6; clear hi558_6 hl558_6; replace p558 := eq_true p558; replace q558 := eq_true q558; have ea_ := Option.some.inj (hx557_6.symm.trans hx558_6); injection ea_ with ea_ en_ ec_; subst ea_; subst ec_; clear en_; have p559 : 0 ≤ (((rd_T24 x6_1 x10_2).f3) : Int) := of_decide_eq_true (by first | (with_reducible assumption) | assumption); have q559 : ((rd_T24 x6_1 x10_2).f3) < (y556.length : Int) := (by have h_ : (((rd_T24 x6_1 x10_2).f3) : Int) < ((x9_2.length : Int) : Int) := of_decide_eq_true (by first | (with_reducible assumption) | assumption); first | (have e_ := (Kd.R_reads' HO_9.out).1; omega) | simpa only [Ny556.out, List.length_set] using h_); have ql559 : ((((rd_T24 x6_1 x10_2).f3) : Int) < ((x9_2.length : Int) : Int)) = True := eq_true (of_decide_eq_true (by first | (with_reducible assumption) | assumption)); obtain ⟨ad559, e559, hx559_0⟩ := Kd.at_int (Kd.R_reads' HO_9.out).2.2 ((rd_T24 x6_1 x10_2).f3) p559 q559; obtain rfl : (⟨go50, 0, none⟩ : Addr) = ad559 := (by injection e559); (first | simp only [add_plain] at hx559_0 | simp only [add_at] at hx559_0 | simp only [Addr.add, Nat.zero_add] at hx559_0 | skip); replace p559 := eq_true p559; replace q559 := eq_true q559))
                                    repeat (go_quiet (first | ((with_reducible refine gate_store (t := 3) (p := 142) rfl ?_); (try (rw [drewN_self wc]; generalize hq_ : World.drewN wc _ = wc; have n0_ := Aside0.mk (Kd.N_at hq_ HO_4.out); have n1_ := Aside0.mk (Kd.N_at hq_ HO_5.out); have n2_ := Aside0.mk (Kd.N_at hq_ HO_6.out); have n3_ := Aside0.mk (Kd.R_at hq_ HO_9.out); have n4_ := Aside0.mk (Kd.V_at hq_ HL553_6.out); have n5_ := Aside0.mk (Kd.V_at hq_ HL554_6.out); have n6_ := Aside0.mk (blk_at hq_ BK520.out); have n7_ := Aside0.mk (below_at hq_ HB.out); clear hq_ HO_4 HO_5 HO_6 HO_9 HL553_6 HL554_6 BK520 HB; have HO_4 := n0_; have HO_5 := n1_; have HO_6 := n2_; have HO_9 := n3_; have HL553_6 := n4_; have HL554_6 := n5_; have BK520 := n6_; have HB := n7_; clear n0_ n1_ n2_ n3_ n4_ n5_ n6_ n7_; (try (have HP53 := Kd.R_putg HO_9.out (((rd_T24 x6_1 x10_2).f3) : Int) (wrap64 ((rd x9_2 ((rd_T24 x6_1 x10_2).f3)) + 1)))))); refine store_event (t := 3) (p := 142) (v := ?vo_w54) (w1 := (wc.setCell ⟨go50, (((rd_T24 x6_1 x10_2).f3) : Int).toNat, none⟩ (.int .i64 (wrap64 ((rd x9_2 ((rd_T24 x6_1 x10_2).f3)) + 1))))) ?hg ?ho ?hn ?hr ?_; (case ho => rfl); (case hg => rfl); (case hn => rfl); (case hr => first | (go_simp; done) | (go_simp; rfl)); intro w54 hw; have hg : wc.grownBy w54 (some go50) := (by rw [hw]; exact HP53.2); have hp_ : Kd.R (Kd.int .i64) 3 w54 w.heap.size (fun _ => True) (.slice (some ⟨go50, 0, none⟩) x9_2.length co52) y556 := (by rw [hw, Ny556.out]; exact HP53.1); clear HP53; have n0_ := Aside0.mk (Kd.N_afterv (v := (.slice (some ⟨go50, 0, none⟩) x9_2.length co52)) (v1 := (.slice (some ⟨go50, 0, none⟩) x9_2.length co52)) (ok := (fun k_ => some k_ ≠ (.slice Ao31 t526.length co31 : Value).ownBlock ∧ some k_ ≠ (.slice (some ad553) x6_1.length co36 : Value).ownBlock ∧ k_ ≠ gb520)) (by (with_reducible repeat (first | apply Kd.N_alloc | apply Kd.N_drewN | apply Kd.N_drew)); exact Kd.N_mono HO_4.out (fun _ hk => ⟨⟨hk.1, ⟨hk.2.1, hk.2.2.2⟩⟩, hk.2.2.1⟩)) hg (.inl rfl)); have n1_ := Aside0.mk (Kd.N_afterv (v := (.slice (some ⟨go50, 0, none⟩) x9_2.length co52)) (v1 := (.slice (some ⟨go50, 0, none⟩) x9_2.length co52)) (ok := (fun k_ => some k_ ≠ (.slice Ao13 t523.length co13 : Value).ownBlock ∧ some k_ ≠ (.slice (some ad553) x6_1.length co36 : Value).ownBlock ∧ k_ ≠ gb520)) (by (with_reducible repeat (first | apply Kd.N_alloc | apply Kd.N_drewN | apply Kd.N_drew)); exact Kd.N_mono HO_5.out (fun _ hk => ⟨⟨hk.1, ⟨hk.2.1, hk.2.2.2⟩⟩, hk.2.2.1⟩)) hg (.inl rfl)); have n2_ := Aside0.mk (Kd.N_afterv (v := (.slice (some ⟨go50, 0, none⟩) x9_2.length co52)) (v1 := (.slice (some ⟨go50, 0, none⟩) x9_2.length co52)) (ok := (fun k_ => some k_ ≠ (.slice Ao31 t526.length co31 : Value).ownBlock ∧ k_ ≠ gb520)) (by (with_reducible repeat (first | apply Kd.N_alloc | apply Kd.N_drewN | apply Kd.N_drew)); exact Kd.N_mono HO_6.out (fun _ hk => ⟨⟨hk.1, hk.2.2⟩, hk.2.1⟩)) hg (.inl rfl)); have n3_ := Aside0.mk (hp_); have n4_ := Aside0.mk (blk_grown (g := gb520) (o := .cells #[.int .i64 a0_0, .string a0_1, .string a0_2, .int .i64 a0_3, .int .i64 a0_4, .bool a0_5, .slice A0_6 l0_6.length c0_6] 24 (0, 0)) (by (with_reducible repeat (first | refine blk_drewN ?_ _ | refine blk_drew ?_ | refine blk_alloc ?_ _)); exact BK520.out) hg (Kd.R_ne HO_9.out BK520.out (by decide))); have n5_ := Aside0.mk (Kd.V_afterv (v := (.slice (some ⟨go50, 0, none⟩) x9_2.length co52)) (v1 := (.slice (some ⟨go50, 0, none⟩) x9_2.length co52)) (ok := (fun k_ => some k_ ≠ (.slice Ao31 t526.length co31 : Value).ownBlock ∧ some k_ ≠ (.slice (some ad553) x6_1.length co36 : Value).ownBlock ∧ k_ ≠ gb520)) (by (with_reducible repeat (first | apply Kd.V_alloc | apply Kd.V_drewN | apply Kd.V_drew)); exact Kd.V_mono HL553_6.out (fun _ hk => ⟨⟨hk.1.1, ⟨hk.2, hk.1.2.2⟩⟩, hk.1.2.1⟩)) hg (.inl rfl)); have n6_ := Aside0.mk (Kd.V_afterv (v := (.slice (some ⟨go50, 0, none⟩) x9_2.length co52)) (v1 := (.slice (some ⟨go50, 0, none⟩) x9_2.length co52)) (ok := (fun k_ => some k_ ≠ (.slice Ao31 t526.length co31 : Value).ownBlock ∧ some k_ ≠ (.slice (some ad553) x6_1.length co36 : Value).ownBlock ∧ k_ ≠ gb520)) (by (with_reducible repeat (first | apply Kd.V_alloc | apply Kd.V_drewN | apply Kd.V_drew)); exact Kd.V_mono HL554_6.out (fun _ hk => ⟨⟨hk.1.1, ⟨hk.2, hk.1.2.2⟩⟩, hk.1.2.1⟩)) hg (.inl rfl)); have n7_ := Aside0.mk ((by rw [hw]; exact below_set (HB.out) GB50.out : Below w.heap.size w w54)); clear HO_4; clear HO_5; clear HO_6; clear HO_9; clear BK520; clear HL553_6; clear HL554_6; clear HB; have HO_4 := n0_; have HO_5 := n1_; have HO_6 := n2_; have HO_9 := n3_; have BK520 := n4_; have HL553_6 := n5_; have HL554_6 := n6_; have HB := n7_; clear n0_ n1_ n2_ n3_ n4_ n5_ n6_ n7_; clear hg hw hp_; have p557 : 0 ≤ (x10_2 : Int) := of_decide_eq_true (by first | (with_reducible assumption) | assumption); have q557 : x10_2 < (x6_1.length : Int) := of_decide_eq_true (by first | (with_reducible assumption) | assumption); obtain ⟨ad557, A557_6, c557_6, e557, hx557_0, hx557_1, hx557_2, hx557_3, hx557_4, hx557_5, hx557_6, hl557_6, hi557_6⟩ := at_T24 (Kd.N_reads' HO_6.out).2.2 x10_2 p557 q557; obtain rfl : ad553 = ad557 := (by injection e557); obtain ⟨ce557, hce557, hMe557, hcc557⟩ := Kd.N_get HO_6.out z24 x10_2 p557 (by first | exact q557 | exact of_decide_eq_true (by first | (with_reducible assumption) | assumption) | (have e_ := (Kd.N_reads' HO_6.out).1; omega)); obtain ⟨ua557_6, uc557_6, rfl, ul557_6, ge557_6⟩ := k24_openF hMe557; have hv557_6 := hcc557 6 _ rfl; rw [add_field _ _ 6 (by omega)] at hv557_6; replace hv557_6 := Option.some.inj (hv557_6.symm.trans hx557_6); injection hv557_6 with hva_ hvn_ hvc_; rw [hva_] at ge557_6; rw [hvc_] at ul557_6; have HL557_6 := Aside0.mk (show Kd.V k24 24 _ w.heap.size _ _ ((rd_T24 x6_1 x10_2).f6) from Kd.V_mk ul557_6 ge557_6); clear hva_ hvn_ hvc_ ge557_6 ul557_6; clear hcc557 hce557; have HR557_6 := Aside0.mk hi557_6; have HC557_6 := Aside0.mk hl557_6; clear hi557_6 hl557_6; replace p557 := eq_true p557; replace q557 := eq_true q557; have p558 : 0 ≤ (x10_2 : Int) := of_decide_eq_true (by first | (with_reducible assumption) | assumption); have q558 : x10_2 < (x6_1.length : Int) := of_decide_eq_true (by first | (with_reducible assumption) | assumption); obtain ⟨ad558, A558_6, c558_6, e558, hx558_0, hx558_1, hx558_2, hx558_3, hx558_4, hx558_5, hx558_6, hl558_6, hi558_6⟩ := at_T24 (Kd.N_reads' HO_6.out).2.2 x10_2 p558 q558; obtain rfl : ad553 = ad558 := (by injection e558); obtain ⟨ce558, hce558, hMe558, hcc558⟩ := Kd.N_get HO_6.out z24 x10_2 p558 (by first | exact q558 | exact of_decide_eq_true (by first | (with_reducible assumption) | assumption) | (have e_ := (Kd.N_reads' HO_6.out).1; omega)); obtain ⟨ua558_6, uc558_6, rfl, ul558_6, ge558_6⟩ := k24_openF hMe558; have hv558_6 := hcc558 6 _ rfl; rw [add_field _ _ 6 (by omega)] at hv558_6; replace hv558_6 := Option.some.inj (hv558_6.symm.trans hx558_6); injection hv558_6 with hva_ hvn_ hvc_; rw [hva_] at ge558_6; rw [hvc_] at ul558_6; have HL558_6 := Aside0.mk (show Kd.V k24 24 _ w.heap.size _ _ ((rd_T24 x6_1 x10_2).f6) from Kd.V_mk ul558_6 ge558_6); clear hva_ hvn_ hvc_ ge558_6 ul558_6; clear hcc558 hce558; have HR558_6 := Aside0.mk hi558_6; have HC558_6 := Aside0.mk hl558_6; clear hi558_6 hl558_6; replace p558 := eq_true p558; replace q558 := eq_true q558; have ea_ := Option.some.inj (hx557_6.symm.trans hx558_6); injection ea_ with ea_ en_ ec_; subst ea_; subst ec_; clear en_; have p559 : 0 ≤ (((rd_T24 x6_1 x10_2).f3) : Int) := of_decide_eq_true (by first | (with_reducible assumption) | assumption); have q559 : ((rd_T24 x6_1 x10_2).f3) < (y556.length : Int) := (by have h_ : (((rd_T24 x6_1 x10_2).f3) : Int) < ((x9_2.length : Int) : Int) := of_decide_eq_true (by first | (with_reducible assumption) | assumption); first | (have e_ := (Kd.R_reads' HO_9.out).1; omega) | simpa only [Ny556.out, List.length_set] using h_); have ql559 : ((((rd_T24 x6_1 x10_2).f3) : Int) < ((x9_2.length : Int) : Int)) = True := eq_true (of_decide_eq_true (by first | (with_reducible assumption) | assumption)); obtain ⟨ad559, e559, hx559_0⟩ := Kd.at_int (Kd.R_reads' HO_9.out).2.2 ((rd_T24 x6_1 x10_2).f3) p559 q559; obtain rfl : (⟨go50, 0, none⟩ : Addr) = ad559 := (by injection e559); (first | simp only [add_plain] at hx559_0 | simp only [add_at] at hx559_0 | simp only [Addr.add, Nat.zero_add] at hx559_0 | skip); replace p559 := eq_true p559; replace q559 := eq_true q559)); try go_wp2_with (first | ((with_reducible refine gate_store (t := 3) (p := 142) rfl ?_); (try (rw [drewN_self wc]; generalize hq_ : World.drewN wc _ = wc; have n0_ := Aside0.mk (Kd.N_at hq_ HO_4.out); have n1_ := Aside0.mk (Kd.N_at hq_ HO_5.out); have n2_ := Aside0.mk (Kd.N_at hq_ HO_6.out); have n3_ := Aside0.mk (Kd.R_at hq_ HO_9.out); have n4_ := Aside0.mk (Kd.V_at hq_ HL553_6.out); have n5_ := Aside0.mk (Kd.V_at hq_ HL554_6.out); have n6_ := Aside0.mk (blk_at hq_ BK520.out); have n7_ := Aside0.mk (below_at hq_ HB.out); clear hq_ HO_4 HO_5 HO_6 HO_9 HL553_6 HL554_6 BK520 HB; have HO_4 := n0_; have HO_5 := n1_; have HO_6 := n2_; have HO_9 := n3_; have HL553_6 := n4_; have HL554_6 := n5_; have BK520 := n6_; have HB := n7_; clear n0_ n1_ n2_ n3_ n4_ n5_ n6_ n7_; (try (have HP53 := Kd.R_putg HO_9.out (((rd_T24 x6_1 x10_2).f3) : Int) (wrap64 ((rd x9_2 ((rd_T24 x6_1 x10_2).f3)) + 1)))))); refine store_event (t := 3) (p := 142) (v := ?vo_w54) (w1 := (wc.setCell ⟨go50, (((rd_T24 x6_1 x10_2).f3) : Int).toNat, none⟩ (.int .i64 (wrap64 ((rd x9_2 ((rd_T24 x6_1 x10_2).f3)) + 1))))) ?hg ?ho ?hn ?hr ?_; (case ho => rfl); (case hg => rfl); (case hn => rfl); (case hr => first | (go_simp; done) | (go_simp; rfl)); intro w54 hw; have hg : wc.grownBy w54 (some go50) := (by rw [hw]; exact HP53.2); have hp_ : Kd.R (Kd.int .i64) 3 w54 w.heap.size (fun _ => True) (.slice (some ⟨go50, 0, none⟩) x9_2.length co52) y556 := (by rw [hw, Ny556.out]; exact HP53.1); clear HP53; have n0_ := Aside0.mk (Kd.N_afterv (v := (.slice (some ⟨go50, 0, none⟩) x9_2.length co52)) (v1 := (.slice (some ⟨go50, 0, none⟩) x9_2.length co52)) (ok := (fun k_ => some k_ ≠ (.slice Ao31 t526.length co31 : Value).ownBlock ∧ some k_ ≠ (.slice (some ad553) x6_1.length co36 : Value).ownBlock ∧ k_ ≠ gb520)) (by (with_reducible repeat (first | apply Kd.N_alloc | apply Kd.N_drewN | apply Kd.N_drew)); exact Kd.N_mono HO_4.out (fun _ hk => ⟨⟨hk.1, ⟨hk.2.1, hk.2.2.2⟩⟩, hk.2.2.1⟩)) hg (.inl rfl)); have n1_ := Aside0.mk (Kd.N_afterv (v := (.slice (some ⟨go50, 0, none⟩) x9_2.length co52)) (v1 := (.slice (some ⟨go50, 0, none⟩) x9_2.length co52)) (ok := (fun k_ => some k_ ≠ (.slice Ao13 t523.length co13 : Value).ownBlock ∧ some k_ ≠ (.slice (some ad553) x6_1.length co36 : Value).ownBlock ∧ k_ ≠ gb520)) (by (with_reducible repeat (first | apply Kd.N_alloc | apply Kd.N_drewN | apply Kd.N_drew)); exact Kd.N_mono HO_5.out (fun _ hk => ⟨⟨hk.1, ⟨hk.2.1, hk.2.2.2⟩⟩, hk.2.2.1⟩)) hg (.inl rfl)); have n2_ := Aside0.mk (Kd.N_afterv (v := (.slice (some ⟨go50, 0, none⟩) x9_2.length co52)) (v1 := (.slice (some ⟨go50, 0, none⟩) x9_2.length co52)) (ok := (fun k_ => some k_ ≠ (.slice Ao31 t526.length co31 : Value).ownBlock ∧ k_ ≠ gb520)) (by (with_reducible repeat (first | apply Kd.N_alloc | apply Kd.N_drewN | apply Kd.N_drew)); exact Kd.N_mono HO_6.out (fun _ hk => ⟨⟨hk.1, hk.2.2⟩, hk.2.1⟩)) hg (.inl rfl)); have n3_ := Aside0.mk (hp_); have n4_ := Aside0.mk (blk_grown (g := gb520) (o := .cells #[.int .i64 a0_0, .string a0_1, .string a0_2, .int .i64 a0_3, .int .i64 a0_4, .bool a0_5, .slice A0_6 l0_6.length c0_6] 24 (0, 0)) (by (with_reducible repeat (first | refine blk_drewN ?_ _ | refine blk_drew ?_ | refine blk_alloc ?_ _)); exact BK520.out) hg (Kd.R_ne HO_9.out BK520.out (by decide))); have n5_ := Aside0.mk (Kd.V_afterv (v := (.slice (some ⟨go50, 0, none⟩) x9_2.length co52)) (v1 := (.slice (some ⟨go50, 0, none⟩) x9_2.length co52)) (ok := (fun k_ => some k_ ≠ (.slice Ao31 t526.length co31 : Value).ownBlock ∧ some k_ ≠ (.slice (some ad553) x6_1.length co36 : Value).ownBlock ∧ k_ ≠ gb520)) (by (with_reducible repeat (first | apply Kd.V_alloc | apply Kd.V_drewN | apply Kd.V_drew)); exact Kd.V_mono HL553_6.out (fun _ hk => ⟨⟨hk.1.1, ⟨hk.2, hk.1.2.2⟩⟩, hk.1.2.1⟩)) hg (.inl rfl)); have n6_ := Aside0.mk (Kd.V_afterv (v := (.slice (some ⟨go50, 0, none⟩) x9_2.length co52)) (v1 := (.slice (some ⟨go50, 0, none⟩) x9_2.length co52)) (ok := (fun k_ => some k_ ≠ (.slice Ao31 t526.length co31 : Value).ownBlock ∧ some k_ ≠ (.slice (some ad553) x6_1.length co36 : Value).ownBlock ∧ k_ ≠ gb520)) (by (with_reducible repeat (first | apply Kd.V_alloc | apply Kd.V_drewN | apply Kd.V_drew)); exact Kd.V_mono HL554_6.out (fun _ hk => ⟨⟨hk.1.1, ⟨hk.2, hk.1.2.2⟩⟩, hk.1.2.1⟩)) hg (.inl rfl)); have n7_ := Aside0.mk ((by rw [hw]; exact below_set (HB.out) GB50.out : Below w.heap.size w w54)); clear HO_4; clear HO_5; clear HO_6; clear HO_9; clear BK520; clear HL553_6; clear HL554_6; clear HB; have HO_4 := n0_; have HO_5 := n1_; have HO_6 := n2_; have HO_9 := n3_; have BK520 := n4_; have HL553_6 := n5_; have HL554_6 := n6_; have HB := n7_; clear n0_ n1_ n2_ n3_ n4_ n5_ n6_ n7_; clear hg hw hp_; have p557 : 0 ≤ (x10_2 : Int) := of_decide_eq_true (by first | (with_reducible assumption) | assumption); have q557 : x10_2 < (x6_1.length : Int) := of_decide_eq_true (by first | (with_reducible assumption) | assumption); obtain ⟨ad557, A557_6, c557_6, e557, hx557_0, hx557_1, hx557_2, hx557_3, hx557_4, hx557_5, hx557_6, hl557_6, hi557_6⟩ := at_T24 (Kd.N_reads' HO_6.out).2.2 x10_2 p557 q557; obtain rfl : ad553 = ad557 := (by injection e557); obtain ⟨ce557, hce557, hMe557, hcc557⟩ := Kd.N_get HO_6.out z24 x10_2 p557 (by first | exact q557 | exact of_decide_eq_true (by first | (with_reducible assumption) | assumption) | (have e_ := (Kd.N_reads' HO_6.out).1; omega)); obtain ⟨ua557_6, uc557_6, rfl, ul557_6, ge557_6⟩ := k24_openF hMe557; have hv557_6 := hcc557 6 _ rfl; rw [add_field _ _ 6 (by omega)] at hv557_6; replace hv557_6 := Option.some.inj (hv557_6.symm.trans hx557_6); injection hv557_6 with hva_ hvn_ hvc_; rw [hva_] at ge557_6; rw [hvc_] at ul557_6; have HL557_6 := Aside0.mk (show Kd.V k24 24 _ w.heap.size _ _ ((rd_T24 x6_1 x10_2).f6) from Kd.V_mk ul557_6 ge557_6); clear hva_ hvn_ hvc_ ge557_6 ul557_6; clear hcc557 hce557; have HR557_6 := Aside0.mk hi557_6; have HC557_6 := Aside0.mk hl557_6; clear hi557_6 hl557_6; replace p557 := eq_true p557; replace q557 := eq_true q557; have p558 : 0 ≤ (x10_2 : Int) := of_decide_eq_true (by first | (with_reducible assumption) | assumption); have q558 : x10_2 < (x6_1.length : Int) := of_decide_eq_true (by first | (with_reducible assumption) | assumption); obtain ⟨ad558, A558_6, c558_6, e558, hx558_0, hx558_1, hx558_2, hx558_3, hx558_4, hx558_5, hx558_6, hl558_6, hi558_6⟩ := at_T24 (Kd.N_reads' HO_6.out).2.2 x10_2 p558 q558; obtain rfl : ad553 = ad558 := (by injection e558); obtain ⟨ce558, hce558, hMe558, hcc558⟩ := Kd.N_get HO_6.out z24 x10_2 p558 (by first | exact q558 | exact of_decide_eq_true (by first | (with_reducible assumption) | assumption) | (have e_ := (Kd.N_reads' HO_6.out).1; omega)); obtain ⟨ua558_6, uc558_6, rfl, ul558_6, ge558_6⟩ := k24_openF hMe558; have hv558_6 := hcc558 6 _ rfl; rw [add_field _ _ 6 (by omega)] at hv558_6; replace hv558_6 := Option.some.inj (hv558_6.symm.trans hx558_6); injection hv558_6 with hva_ hvn_ hvc_; rw [hva_] at ge558_6; rw [hvc_] at ul558_6; have HL558_6 := Aside0.mk (show Kd.V k24 24 _ w.heap.size _ _ ((rd_T24 x6_1 x10_2).f6) from Kd.V_mk ul558_6 ge558_6); clear hva_ hvn_ hvc_ ge558_6 ul558_6; clear hcc558 hce558; have HR558_6 := Aside0.mk hi558_6; have HC558_6 := Aside0.mk hl558_6; clear hi558_6 hl558_6; replace p558 := eq_true p558; replace q558 := eq_true q558; have ea_ := Option.some.inj (hx557_6.symm.trans hx558_6); injection ea_ with ea_ en_ ec_; subst ea_; subst ec_; clear en_; have p559 : 0 ≤ (((rd_T24 x6_1 x10_2).f3) : Int) := of_decide_eq_true (by first | (with_reducible assumption) | assumption); have q559 : ((rd_T24 x6_1 x10_2).f3) < (y556.length : Int) := (by have h_ : (((rd_T24 x6_1 x10_2).f3) : Int) < ((x9_2.length : Int) : Int) := of_decide_eq_true (by first | (with_reducible assumption) | assumption); first | (have e_ := (Kd.R_reads' HO_9.out).1; omega) | simpa only [Ny556.out, List.length_set] using h_); have ql559 : ((((rd_T24 x6_1 x10_2).f3) : Int) < ((x9_2.length : Int) : Int)) = True := eq_true (of_decide_eq_true (by first | (with_reducible assumption) | assumption)); obtain ⟨ad559, e559, hx559_0⟩ := Kd.at_int (Kd.R_reads' HO_9.out).2.2 ((rd_T24 x6_1 x10_2).f3) p559 q559; obtain rfl : (⟨go50, 0, none⟩ : Addr) = ad559 := (by injection e559); (first | simp only [add_plain] at hx559_0 | simp only [add_at] at hx559_0 | simp only [Addr.add, Nat.zero_add] at hx559_0 | skip); replace p559 := eq_true p559; replace q559 := eq_true q559)))
                                    go_roundg kj34
                                    case measure => have := HK1.out; have := HK2.out; have := HJ34.out; omega
                                    case rel => exact ⟨(ji47), (y556), (wrap64 (x10_2 + 1)), (by first | rfl | (simp; done) | (simp only [← hji47] <;> (first | rfl | simp)) | (simp [*]; done)), (by first | rfl | (simp; done) | (simp [*]; done)), H', ⟨by have := HK1.out; have := HK2.out; have := HJ34.out; omega⟩, ⟨by (with_reducible repeat (first | apply Kd.N_alloc | apply Kd.N_drewN | apply Kd.N_drew)); exact Kd.N_mono HO_4.out (fun _ hk => ⟨hk.1.1, ⟨hk.1.2.1, ⟨hk.2, hk.1.2.2⟩⟩⟩)⟩, ⟨by (with_reducible repeat (first | apply Kd.N_alloc | apply Kd.N_drewN | apply Kd.N_drew)); exact Kd.N_mono HO_5.out (fun _ hk => ⟨hk.1.1, ⟨hk.1.2.1, ⟨hk.2, hk.1.2.2⟩⟩⟩)⟩, ⟨by (with_reducible repeat (first | apply Kd.N_alloc | apply Kd.N_drewN | apply Kd.N_drew)); exact Kd.N_mono HO_6.out (fun _ hk => ⟨hk.1.1, ⟨hk.2, hk.1.2⟩⟩)⟩, ⟨by (with_reducible repeat (first | apply Kd.R_alloc | apply Kd.R_drewN | apply Kd.R_drew)); exact HO_9.out⟩, ⟨by (with_reducible repeat (first | refine blk_drewN ?_ _ | refine blk_drew ?_ | refine blk_alloc ?_ _)); exact BK520.out⟩, ⟨by repeat (first | (with_reducible first | exact HB.out | apply below_alloc | apply pw_below_drewN | apply below_drew1 | refine below_set ?_ GE520.out) | exact HB.out)⟩⟩
                                  · rw [if_neg c51] at H
                                    exact absurd H (by simp)
                                · rw [if_neg c49] at H
                                  exact absurd H (by simp)
                              · rw [if_neg c48] at H
                                exact absurd H (by simp)
                            · rw [if_neg c46] at H
                              exact absurd H (by simp)
                          · rw [if_neg c45] at H
                            exact absurd H (by simp)
                  · rw [if_neg c34] at H
                    have c34b0 : decide (x10_2 < (x6_1.length : Int)) = false := decide_eq_false c34
                    clear c34
                    have H' := Aside0.mk H
                    clear H
                    obtain ⟨Ao55, co55, eo55⟩ := Kd.N_slice HO_6.out
                    subst eo55
                    go_wp2
                    repeat (go_quiet (fail); try go_wp2)
                    go_loopg [11] k2 (fun kq v11 w' => ∃ (x11_3 : Int), v11 = .int .i64 x11_3 ∧ Aside0 (incipitlaw18_FootCoheres.l2 kq t521 t523 t526 x7_2 x9_2 x11_3 = some r) ∧ Aside0 (kq ≤ k2) ∧ Aside0 (Kd.N k24 24 w' w.heap.size (fun k_ => some k_ ≠ ((.slice Ao31 t526.length co31) : Value).ownBlock ∧ some k_ ≠ (v545 : Value).ownBlock ∧ k_ ≠ gb520) (.slice Ao13 t523.length co13) t523) ∧ Aside0 (Kd.N k24 24 w' w.heap.size (fun k_ => some k_ ≠ ((.slice Ao13 t523.length co13) : Value).ownBlock ∧ some k_ ≠ (v545 : Value).ownBlock ∧ k_ ≠ gb520) (.slice Ao31 t526.length co31) t526) ∧ Aside0 (Kd.R (Kd.int .i64) 3 w' w.heap.size (fun _ => True) v545 x9_2) ∧ Aside0 (w'.heap[gb520]? = some (.cells #[.int .i64 a0_0, .string a0_1, .string a0_2, .int .i64 a0_3, .int .i64 a0_4, .bool a0_5, (.slice A0_6 l0_6.length c0_6)] 24 (0, 0))) ∧ Aside0 (Below w.heap.size w w'))
                    case atStart => exact ⟨(0), (by first | rfl | (simp; done) | (simp [*]; done)), H', ⟨Nat.le_refl _⟩, ⟨by (with_reducible repeat (first | apply Kd.N_alloc | apply Kd.N_drewN | apply Kd.N_drew)); exact Kd.N_mono HO_4.out (fun _ hk => ⟨hk.1, ⟨hk.2.2.1, hk.2.2.2⟩⟩)⟩, ⟨by (with_reducible repeat (first | apply Kd.N_alloc | apply Kd.N_drewN | apply Kd.N_drew)); exact Kd.N_mono HO_5.out (fun _ hk => ⟨hk.1, ⟨hk.2.2.1, hk.2.2.2⟩⟩)⟩, ⟨by (with_reducible repeat (first | apply Kd.R_alloc | apply Kd.R_drewN | apply Kd.R_drew)); exact HO_9.out⟩, ⟨by (with_reducible repeat (first | refine blk_drewN ?_ _ | refine blk_drew ?_ | refine blk_alloc ?_ _)); exact BK520.out⟩, ⟨by repeat (first | (with_reducible first | exact HB.out | apply below_alloc | apply pw_below_drewN | apply below_drew1 | refine below_set ?_ GE520.out) | exact HB.out)⟩⟩
                    case round =>
                      clear H'
                      try clear c1
                      try clear c2
                      try clear p2
                      try clear c3
                      try clear c4
                      try clear c5
                      try clear p5
                      try clear q5
                      try clear hx5
                      try clear hf5
                      try clear p6
                      try clear c15
                      try clear c15b0
                      try clear c16
                      try clear c16b0
                      try clear c17
                      try clear c17b0
                      try clear c17b1
                      try clear c18
                      try clear c18b0
                      try clear c18b1
                      try clear c19
                      try clear c19b0
                      try clear c21
                      try clear c21b0
                      try clear c23
                      try clear c29
                      try clear c29b0
                      try clear c29b1
                      try clear c30
                      try clear c30b0
                      try clear c30b1
                      try clear c34
                      try clear c34b0
                      try clear c37
                      try clear c37b0
                      try clear c38
                      try clear c38b0
                      try clear c39
                      try clear c39b0
                      try clear c40
                      try clear c40b0
                      try clear c42
                      try clear c42b0
                      try clear c43
                      try clear c43b0
                      try clear c44
                      try clear c45
                      try clear c45b0
                      try clear c46
                      try clear c46b0
                      try clear c48
                      try clear c48b0
                      try clear c49
                      try clear c49b0
                      try clear p50
                      try clear q50
                      try clear hx50
                      try clear hf50
                      try clear c51
                      try clear c51b0
                      try clear c51b1
                      try clear p53
                      try clear q53
                      try clear hx53
                      try clear c54
                      try clear p54
                      try clear q54
                      try clear hx54
                      try clear c55
                      try clear p55
                      try clear q55
                      try clear hx55
                      try clear hcz11_0
                      try clear hcz11_1
                      try clear hcz11_2
                      try clear hcz11_3
                      try clear hcz11_4
                      try clear hcz11_5
                      try clear hcz11_6
                      try clear hcz9_0
                      try clear hcz9_1
                      try clear hcz9_2
                      try clear hcz9_3
                      try clear hcz9_4
                      try clear hcz9_5
                      try clear hcz9_6
                      try clear hfz11_0
                      try clear hfz11_1
                      try clear hfz11_2
                      try clear hfz11_3
                      try clear hfz11_4
                      try clear hfz11_5
                      try clear hfz11_6
                      try clear hfz9_0
                      try clear hfz9_1
                      try clear hfz9_2
                      try clear hfz9_3
                      try clear hfz9_4
                      try clear hfz9_5
                      try clear hfz9_6
                      try clear hx50_0
                      try clear hx532_0
                      try clear hx532_1
                      try clear hx532_2
                      try clear hx532_3
                      try clear hx532_4
                      try clear hx532_5
                      try clear hx532_6
                      try clear hx533_0
                      try clear hx533_1
                      try clear hx533_2
                      try clear hx533_3
                      try clear hx533_4
                      try clear hx533_5
                      try clear hx533_6
                      try clear hx534_0
                      try clear hx534_1
                      try clear hx534_2
                      try clear hx534_3
                      try clear hx534_4
                      try clear hx534_5
                      try clear hx534_6
                      try clear hx535_0
                      try clear hx535_1
                      try clear hx535_2
                      try clear hx535_3
                      try clear hx535_4
                      try clear hx535_5
                      try clear hx535_6
                      try clear hx537_0
                      try clear hx537_1
                      try clear hx537_2
                      try clear hx537_3
                      try clear hx537_4
                      try clear hx537_5
                      try clear hx537_6
                      try clear hx547_0
                      try clear hx547_1
                      try clear hx547_2
                      try clear hx547_3
                      try clear hx547_4
                      try clear hx547_5
                      try clear hx547_6
                      try clear hx548_0
                      try clear hx548_1
                      try clear hx548_2
                      try clear hx548_3
                      try clear hx548_4
                      try clear hx548_5
                      try clear hx548_6
                      try clear hx549_0
                      try clear hx549_1
                      try clear hx549_2
                      try clear hx549_3
                      try clear hx549_4
                      try clear hx549_5
                      try clear hx549_6
                      try clear hx550_0
                      try clear hx550_1
                      try clear hx550_2
                      try clear hx550_3
                      try clear hx550_4
                      try clear hx550_5
                      try clear hx550_6
                      try clear hx551_0
                      try clear hx551_1
                      try clear hx551_2
                      try clear hx551_3
                      try clear hx551_4
                      try clear hx551_5
                      try clear hx551_6
                      try clear hx552_0
                      try clear hx552_1
                      try clear hx552_2
                      try clear hx552_3
                      try clear hx552_4
                      try clear hx552_5
                      try clear hx552_6
                      try clear hx553_0
                      try clear hx553_1
                      try clear hx553_2
                      try clear hx553_3
                      try clear hx553_4
                      try clear hx553_5
                      try clear hx553_6
                      try clear hx554_0
                      try clear hx554_1
                      try clear hx554_2
                      try clear hx554_3
                      try clear hx554_4
                      try clear hx554_5
                      try clear hx554_6
                      try clear hx555_0
                      try clear hx557_0
                      try clear hx557_1
                      try clear hx557_2
                      try clear hx557_3
                      try clear hx557_4
                      try clear hx557_5
                      try clear hx557_6
                      try clear hx558_0
                      try clear hx558_1
                      try clear hx558_2
                      try clear hx558_3
                      try clear hx558_4
                      try clear hx558_5
                      try clear hx558_6
                      try clear hx559_0
                      try clear p2
                      try clear p5
                      try clear p50
                      try clear p532
                      try clear p533
                      try clear p534
                      try clear p535
                      try clear p537
                      try clear p547
                      try clear p548
                      try clear p549
                      try clear p550
                      try clear p551
                      try clear p552
                      try clear p553
                      try clear p554
                      try clear p555
                      try clear p557
                      try clear p558
                      try clear p559
                      try clear p6
                      try clear q5
                      try clear q50
                      try clear q532
                      try clear q533
                      try clear q534
                      try clear q535
                      try clear q537
                      try clear q547
                      try clear q548
                      try clear q549
                      try clear q550
                      try clear q551
                      try clear q552
                      try clear q553
                      try clear q554
                      try clear q555
                      try clear q557
                      try clear q558
                      try clear q559
                      obtain ⟨x11_3, rfl, HA, HK3, HO_4, HO_5, HO_9, BK520, HB⟩ := hrel
                      cases gk with
                      | zero => exact absurd HA.out (by simp [incipitlaw18_FootCoheres.l2])
                      | succ k3 =>
                        have H := HA.out
                        clear HA
                        simp only [incipitlaw18_FootCoheres.l2] at H
                        by_cases c56 : x11_3 < (t526.length : Int)
                        · rw [if_pos c56] at H
                          have c56b0 : decide (x11_3 < (t526.length : Int)) = true := decide_eq_true c56
                          clear c56
                          by_cases c57 : 0 ≤ x11_3
                          · rw [if_pos c57] at H
                            have c57b0 : decide (0 ≤ x11_3) = true := decide_eq_true c57
                            clear c57
                            obtain ⟨ji58, hji58⟩ : ∃ j_ : Int, (wrap64 (x11_3 + 1)) = j_ := ⟨_, rfl⟩
                            replace H : (if 0 ≤ (ji58) then (if (ji58) < (x9_2.length : Int) then (if ((rd_T24 t526 x11_3).f4) = (rd x9_2 (ji58)) then (incipitlaw18_FootCoheres.l2 k3 t521 t523 t526 x7_2 x9_2 ji58) else (none)) else (none)) else (none)) = some r := by first | (rw [hji58] at H; exact H) | (simp only [hji58] at H ⊢; exact H)
                            have hji58w : (IntKind.i64.wrap (x11_3 + 1)) = ji58 := (i64_w _).trans hji58
                            by_cases c59 : 0 ≤ (ji58)
                            · rw [if_pos c59] at H
                              have c59b0 : decide (0 ≤ (ji58)) = true := decide_eq_true c59
                              clear c59
                              by_cases c60 : (ji58) < (x9_2.length : Int)
                              · rw [if_pos c60] at H
                                have c60b0 : decide ((ji58) < (x9_2.length : Int)) = true := decide_eq_true c60
                                clear c60
                                by_cases c61 : ((rd_T24 t526 x11_3).f4) = (rd x9_2 (ji58))
                                · rw [if_pos c61] at H
                                  have c61b0 : (((rd_T24 t526 x11_3).f4) == (rd x9_2 (ji58))) = true := beq_iff_eq.mpr c61
                                  have c61b1 : (((rd_T24 t526 x11_3).f4) != (rd x9_2 (ji58))) = false := bne_eq_false_iff_eq.mpr c61
                                  clear c61
                                  have H' := Aside0.mk H
                                  clear H
                                  have p560 : 0 ≤ (x11_3 : Int) := of_decide_eq_true (by first | (with_reducible assumption) | assumption)
                                  have q560 : x11_3 < (t526.length : Int) := of_decide_eq_true (by first | (with_reducible assumption) | assumption)
                                  obtain ⟨ad560, A560_6, c560_6, e560, hx560_0, hx560_1, hx560_2, hx560_3, hx560_4, hx560_5, hx560_6, hl560_6, hi560_6⟩ := at_T24 (Kd.N_reads' HO_5.out).2.2 x11_3 p560 q560
                                  cases e560
                                  obtain ⟨ce560, hce560, hMe560, hcc560⟩ := Kd.N_get HO_5.out z24 x11_3 p560 (by first | exact q560 | exact of_decide_eq_true (by first | (with_reducible assumption) | assumption) | (have e_ := (Kd.N_reads' HO_5.out).1; omega))
                                  obtain ⟨ua560_6, uc560_6, rfl, ul560_6, ge560_6⟩ := k24_openF hMe560
                                  have hv560_6 := hcc560 6 _ rfl
                                  rw [add_field _ _ 6 (by omega)] at hv560_6
                                  replace hv560_6 := Option.some.inj (hv560_6.symm.trans hx560_6)
                                  injection hv560_6 with hva_ hvn_ hvc_
                                  rw [hva_] at ge560_6
                                  rw [hvc_] at ul560_6
                                  have HL560_6 := Aside0.mk (show Kd.V k24 24 _ w.heap.size _ _ ((rd_T24 t526 x11_3).f6) from Kd.V_mk ul560_6 ge560_6)
                                  clear hva_ hvn_ hvc_ ge560_6 ul560_6
                                  clear hcc560 hce560
                                  have HR560_6 := Aside0.mk hi560_6
                                  have HC560_6 := Aside0.mk hl560_6
                                  clear hi560_6 hl560_6
                                  replace p560 := eq_true p560
                                  replace q560 := eq_true q560
                                  obtain ⟨Ao62, co62, eo62⟩ := Kd.R_slice HO_9.out
                                  subst eo62
                                  have p561 : 0 ≤ ((ji58) : Int) := of_decide_eq_true (by first | (with_reducible assumption) | assumption)
                                  have q561 : (ji58) < (x9_2.length : Int) := of_decide_eq_true (by first | (with_reducible assumption) | assumption)
                                  obtain ⟨ad561, e561, hx561_0⟩ := Kd.at_int (Kd.R_reads' HO_9.out).2.2 (ji58) p561 q561
                                  cases e561
                                  replace p561 := eq_true p561
                                  replace q561 := eq_true q561
                                  go_wp2
                                  repeat (go_quiet (fail); try go_wp2)
                                  go_roundg k3
                                  case measure => have := HK1.out; have := HK2.out; have := HK3.out; omega
                                  case rel => exact ⟨(ji58), (by first | rfl | (simp; done) | (simp only [← hji58] <;> (first | rfl | simp)) | (simp [*]; done)), H', ⟨by have := HK1.out; have := HK2.out; have := HK3.out; omega⟩, ⟨by (with_reducible repeat (first | apply Kd.N_alloc | apply Kd.N_drewN | apply Kd.N_drew)); exact HO_4.out⟩, ⟨by (with_reducible repeat (first | apply Kd.N_alloc | apply Kd.N_drewN | apply Kd.N_drew)); exact HO_5.out⟩, ⟨by (with_reducible repeat (first | apply Kd.R_alloc | apply Kd.R_drewN | apply Kd.R_drew)); exact HO_9.out⟩, ⟨by (with_reducible repeat (first | refine blk_drewN ?_ _ | refine blk_drew ?_ | refine blk_alloc ?_ _)); exact BK520.out⟩, ⟨by repeat (first | (with_reducible first | exact HB.out | apply below_alloc | apply pw_below_drewN | apply below_drew1 | refine below_set ?_ GE520.out) | exact HB.out)⟩⟩
                                · rw [if_neg c61] at H
                                  exact absurd H (by simp)
                              · rw [if_neg c60] at H
                                exact absurd H (by simp)
                            · rw [if_neg c59] at H
                              exact absurd H (by simp)
                          · rw [if_neg c57] at H
                            exact absurd H (by simp)
                        · rw [if_neg c56] at H
                          have c56b0 : decide (x11_3 < (t526.length : Int)) = false := decide_eq_false c56
                          clear c56
                          by_cases c63 : t521 = true
                          · subst c63
                            have H1 : ((incipitlaw18_notes.f k3 t523).bind fun t562 => (if t562 = 0 then (some (x7_2 == (t526.length : Int))) else (none))) = some r := by rw [if_pos rfl] at H; exact H
                            clear H
                            have H := H1
                            clear H1
                            replace H := Option.bind_eq_some_iff.mp H
                            obtain ⟨t562, A640, H⟩ := H
                            replace H : (if t562 = 0 then (some (x7_2 == (t526.length : Int))) else (none)) = some r := H
                            have A64 := Aside0.mk A640
                            clear A640
                            by_cases c65 : t562 = 0
                            · rw [if_pos c65] at H
                              have c65b0 : (t562 == 0) = true := beq_iff_eq.mpr c65
                              have c65b1 : (t562 != 0) = false := bne_eq_false_iff_eq.mpr c65
                              clear c65
                              obtain rfl := Option.some.inj H
                              go_wp2_with (first | (go_at_call 22; (with_reducible refine (incipitlaw18_notes.calls k3 _ _ t523 t562 _ ?side1 ?side2 A64.out).mono ?_); (case side1 => repeat (first | exact (Kd.N_reads' HO_4.out).2.2 | (with_reducible refine Kd.C_alloc ?_ _) | (with_reducible refine Kd.C_drewN ?_ _) | (with_reducible refine Kd.C_drew ?_))); (case side2 => exact (Kd.N_reads' HO_4.out).2.1); rintro e w' ⟨rfl, ⟨nd, rfl⟩⟩; (try first | exact ⟨rfl, _, World.drewN_drewN _ _ _⟩ | exact ⟨rfl, _, Eq.trans (World.drewN_drewN _ _ _) (congrArg (World.drewN _) (Nat.add_assoc _ _ _))⟩)))
                              repeat (go_quiet (first | (go_at_call 22; (with_reducible refine (incipitlaw18_notes.calls k3 _ _ t523 t562 _ ?side1 ?side2 A64.out).mono ?_); (case side1 => repeat (first | exact (Kd.N_reads' HO_4.out).2.2 | (with_reducible refine Kd.C_alloc ?_ _) | (with_reducible refine Kd.C_drewN ?_ _) | (with_reducible refine Kd.C_drew ?_))); (case side2 => exact (Kd.N_reads' HO_4.out).2.1); rintro e w' ⟨rfl, ⟨nd, rfl⟩⟩; (try first | exact ⟨rfl, _, World.drewN_drewN _ _ _⟩ | exact ⟨rfl, _, Eq.trans (World.drewN_drewN _ _ _) (congrArg (World.drewN _) (Nat.add_assoc _ _ _))⟩))); try go_wp2_with (first | (go_at_call 22; (with_reducible refine (incipitlaw18_notes.calls k3 _ _ t523 t562 _ ?side1 ?side2 A64.out).mono ?_); (case side1 => repeat (first | exact (Kd.N_reads' HO_4.out).2.2 | (with_reducible refine Kd.C_alloc ?_ _) | (with_reducible refine Kd.C_drewN ?_ _) | (with_reducible refine Kd.C_drew ?_))); (case side2 => exact (Kd.N_reads' HO_4.out).2.1); rintro e w' ⟨rfl, ⟨nd, rfl⟩⟩; (try first | exact ⟨rfl, _, World.drewN_drewN _ _ _⟩ | exact ⟨rfl, _, Eq.trans (World.drewN_drewN _ _ _) (congrArg (World.drewN _) (Nat.add_assoc _ _ _))⟩))))
                              go_ret
                              exact ⟨by first | rfl | (simp [errW_none, errW_some] <;> rfl) | (simp only [← hji28]; first | rfl | (simp [errW_none, errW_some] <;> rfl)) | (simp [*, errW_none, errW_some] <;> rfl), by repeat (first | (with_reducible first | exact HB.out | apply below_alloc | apply pw_below_drewN | apply below_drew1 | refine below_set ?_ GE520.out) | exact HB.out)⟩
                            · rw [if_neg c65] at H
                              exact absurd H (by simp)
                          · replace c63 := Bool.eq_false_iff.mpr c63
                            subst c63
                            have H1 : (none) = some r := by rw [if_neg (show ¬ (false = true) by decide)] at H; exact H
                            clear H
                            have H := H1
                            clear H1
                            exact absurd H (by simp)
            · rw [if_neg c30] at H
              exact absurd H (by simp)
          · rw [if_neg c29] at H
            exact absurd H (by simp)
  · replace c4 := Bool.eq_false_iff.mpr c4
    subst c4
    have H1 : (some t521) = some r := by rw [if_neg (show ¬ (false = true) by decide)] at H; exact H
    clear H
    have H := H1
    clear H1
    obtain rfl := Option.some.inj H
    go_enter Tryd.func16, Tryd.ntmps16
    go_wp2_with (first | ((with_reducible refine gate_dst (N := 1) rfl ?_); (try (refine gate_guard (by rfl) ?_; dsimp only)); refine box_event ?hg (N := 1) ?hd (cs := #[.int .i64 a0_0, .string a0_1, .string a0_2, .int .i64 a0_3, .int .i64 a0_4, .bool a0_5, .slice A0_6 l0_6.length c0_6]) (t := 24) ?hr ?_; (case hd => rfl); (case hg => rfl); (case hr => first | (go_simp; done) | (go_simp; rfl)); intro gb520 hg w66 hbox hb; have n0_ := Aside0.mk (below_step (by repeat (first | (with_reducible first | exact HB.out | apply below_alloc | apply pw_below_drewN | apply below_drew1) | exact HB.out)) hb); have n1_ := Aside0.mk (hbox); have n2_ := Aside0.mk ((by rw [hg]; exact (below_size (by repeat (first | (with_reducible first | exact HB.out | apply below_alloc | apply pw_below_drewN | apply below_drew1) | exact HB.out))) : w.heap.size ≤ gb520)); have n3_ := Aside0.mk ((by rw [hg]; exact (below_size (by repeat (first | (with_reducible first | exact HB.out | apply below_alloc | apply pw_below_drewN | apply below_drew1) | exact HB.out))) : w.heap.size ≤ gb520)); clear HB; have HB := n0_; have BK520 := n1_; have GW520 := n2_; have GE520 := n3_; clear n0_ n1_ n2_ n3_; clear hb hbox hg) | (go_at_call 18; (with_reducible refine (incipitlaw18_awake.calls k  t521 _ A2.out (Tabs.below HT.out (by repeat (first | (with_reducible first | exact HB.out | apply below_alloc | apply pw_below_drewN | apply below_drew1) | exact HB.out)))).mono ?_); rintro e w67 ⟨rfl, hb⟩; have n0_ := Aside0.mk (blk_below (g := gb520) (o := .cells #[.int .i64 a0_0, .string a0_1, .string a0_2, .int .i64 a0_3, .int .i64 a0_4, .bool a0_5, .slice A0_6 l0_6.length c0_6] 24 (0, 0)) (by (with_reducible repeat (first | refine blk_drewN ?_ _ | refine blk_drew ?_ | refine blk_alloc ?_ _)); exact BK520.out) hb); have n1_ := Aside0.mk (below_step (by repeat (first | (with_reducible first | exact HB.out | apply below_alloc | apply pw_below_drewN | apply below_drew1 | refine below_set ?_ GE520.out) | exact HB.out)) hb); clear BK520; clear HB; have BK520 := n0_; have HB := n1_; clear n0_ n1_; (try clear hb); (try clear hb2); (try clear hk); (try clear hi); have hcz68_0 : w67.cell? ⟨gb520, 0, none⟩ = some (.int .i64 a0_0) := (blk_cell BK520.out 0).trans rfl; have hcz68_1 : w67.cell? ⟨gb520, 1, none⟩ = some (.string a0_1) := (blk_cell BK520.out 1).trans rfl; have hcz68_2 : w67.cell? ⟨gb520, 2, none⟩ = some (.string a0_2) := (blk_cell BK520.out 2).trans rfl; have hcz68_3 : w67.cell? ⟨gb520, 3, none⟩ = some (.int .i64 a0_3) := (blk_cell BK520.out 3).trans rfl; have hcz68_4 : w67.cell? ⟨gb520, 4, none⟩ = some (.int .i64 a0_4) := (blk_cell BK520.out 4).trans rfl; have hcz68_5 : w67.cell? ⟨gb520, 5, none⟩ = some (.bool a0_5) := (blk_cell BK520.out 5).trans rfl; have hcz68_6 : w67.cell? ⟨gb520, 6, none⟩ = some (.slice A0_6 l0_6.length c0_6) := (blk_cell BK520.out 6).trans rfl; have hfz68_0 := blk_frozen BK520.out 0; have hfz68_1 := blk_frozen BK520.out 1; have hfz68_2 := blk_frozen BK520.out 2; have hfz68_3 := blk_frozen BK520.out 3; have hfz68_4 := blk_frozen BK520.out 4; have hfz68_5 := blk_frozen BK520.out 5; have hfz68_6 := blk_frozen BK520.out 6) | (go_at_call 19; (with_reducible refine (incipitref06_Few.calls k a0_0 a0_1 a0_2 a0_3 a0_4 a0_5 _ _ l0_6 1500 false _ ?side1 ?side2 A3.out).mono ?_); (case side1 => repeat (first | exact (Kd.C_below HR0_6.out HB.out) | (with_reducible refine Kd.C_alloc ?_ _) | (with_reducible refine Kd.C_drewN ?_ _) | (with_reducible refine Kd.C_drew ?_))); (case side2 => exact HC0_6.out); rintro e w69 ⟨rfl, hb⟩; have n0_ := Aside0.mk (blk_below (g := gb520) (o := .cells #[.int .i64 a0_0, .string a0_1, .string a0_2, .int .i64 a0_3, .int .i64 a0_4, .bool a0_5, .slice A0_6 l0_6.length c0_6] 24 (0, 0)) (by (with_reducible repeat (first | refine blk_drewN ?_ _ | refine blk_drew ?_ | refine blk_alloc ?_ _)); exact BK520.out) hb); have n1_ := Aside0.mk (below_step (by repeat (first | (with_reducible first | exact HB.out | apply below_alloc | apply pw_below_drewN | apply below_drew1 | refine below_set ?_ GE520.out) | exact HB.out)) hb); clear BK520; clear HB; have BK520 := n0_; have HB := n1_; clear n0_ n1_; (try clear hb); (try clear hb2); (try clear hk); (try clear hi)))
    repeat (go_quiet (first | ((with_reducible refine gate_dst (N := 1) rfl ?_); (try (refine gate_guard (by rfl) ?_; dsimp only)); refine box_event ?hg (N := 1) ?hd (cs := #[.int .i64 a0_0, .string a0_1, .string a0_2, .int .i64 a0_3, .int .i64 a0_4, .bool a0_5, .slice A0_6 l0_6.length c0_6]) (t := 24) ?hr ?_; (case hd => rfl); (case hg => rfl); (case hr => first | (go_simp; done) | (go_simp; rfl)); intro gb520 hg w66 hbox hb; have n0_ := Aside0.mk (below_step (by repeat (first | (with_reducible first | exact HB.out | apply below_alloc | apply pw_below_drewN | apply below_drew1) | exact HB.out)) hb); have n1_ := Aside0.mk (hbox); have n2_ := Aside0.mk ((by rw [hg]; exact (below_size (by repeat (first | (with_reducible first | exact HB.out | apply below_alloc | apply pw_below_drewN | apply below_drew1) | exact HB.out))) : w.heap.size ≤ gb520)); have n3_ := Aside0.mk ((by rw [hg]; exact (below_size (by repeat (first | (with_reducible first | exact HB.out | apply below_alloc | apply pw_below_drewN | apply below_drew1) | exact HB.out))) : w.heap.size ≤ gb520)); clear HB; have HB := n0_; have BK520 := n1_; have GW520 := n2_; have GE520 := n3_; clear n0_ n1_ n2_ n3_; clear hb hbox hg) | (go_at_call 18; (with_reducible refine (incipitlaw18_awake.calls k  t521 _ A2.out (Tabs.below HT.out (by repeat (first | (with_reducible first | exact HB.out | apply below_alloc | apply pw_below_drewN | apply below_drew1) | exact HB.out)))).mono ?_); rintro e w67 ⟨rfl, hb⟩; have n0_ := Aside0.mk (blk_below (g := gb520) (o := .cells #[.int .i64 a0_0, .string a0_1, .string a0_2, .int .i64 a0_3, .int .i64 a0_4, .bool a0_5, .slice A0_6 l0_6.length c0_6] 24 (0, 0)) (by (with_reducible repeat (first | refine blk_drewN ?_ _ | refine blk_drew ?_ | refine blk_alloc ?_ _)); exact BK520.out) hb); have n1_ := Aside0.mk (below_step (by repeat (first | (with_reducible first | exact HB.out | apply below_alloc | apply pw_below_drewN | apply below_drew1 | refine below_set ?_ GE520.out) | exact HB.out)) hb); clear BK520; clear HB; have BK520 := n0_; have HB := n1_; clear n0_ n1_; (try clear hb); (try clear hb2); (try clear hk); (try clear hi); have hcz68_0 : w67.cell? ⟨gb520, 0, none⟩ = some (.int .i64 a0_0) := (blk_cell BK520.out 0).trans rfl; have hcz68_1 : w67.cell? ⟨gb520, 1, none⟩ = some (.string a0_1) := (blk_cell BK520.out 1).trans rfl; have hcz68_2 : w67.cell? ⟨gb520, 2, none⟩ = some (.string a0_2) := (blk_cell BK520.out 2).trans rfl; have hcz68_3 : w67.cell? ⟨gb520, 3, none⟩ = some (.int .i64 a0_3) := (blk_cell BK520.out 3).trans rfl; have hcz68_4 : w67.cell? ⟨gb520, 4, none⟩ = some (.int .i64 a0_4) := (blk_cell BK520.out 4).trans rfl; have hcz68_5 : w67.cell? ⟨gb520, 5, none⟩ = some (.bool a0_5) := (blk_cell BK520.out 5).trans rfl; have hcz68_6 : w67.cell? ⟨gb520, 6, none⟩ = some (.slice A0_6 l0_6.length c0_6) := (blk_cell BK520.out 6).trans rfl; have hfz68_0 := blk_frozen BK520.out 0; have hfz68_1 := blk_frozen BK520.out 1; have hfz68_2 := blk_frozen BK520.out 2; have hfz68_3 := blk_frozen BK520.out 3; have hfz68_4 := blk_frozen BK520.out 4; have hfz68_5 := blk_frozen BK520.out 5; have hfz68_6 := blk_frozen BK520.out 6) | (go_at_call 19; (with_reducible refine (incipitref06_Few.calls k a0_0 a0_1 a0_2 a0_3 a0_4 a0_5 _ _ l0_6 1500 false _ ?side1 ?side2 A3.out).mono ?_); (case side1 => repeat (first | exact (Kd.C_below HR0_6.out HB.out) | (with_reducible refine Kd.C_alloc ?_ _) | (with_reducible refine Kd.C_drewN ?_ _) | (with_reducible refine Kd.C_drew ?_))); (case side2 => exact HC0_6.out); rintro e w69 ⟨rfl, hb⟩; have n0_ := Aside0.mk (blk_below (g := gb520) (o := .cells #[.int .i64 a0_0, .string a0_1, .string a0_2, .int .i64 a0_3, .int .i64 a0_4, .bool a0_5, .slice A0_6 l0_6.length c0_6] 24 (0, 0)) (by (with_reducible repeat (first | refine blk_drewN ?_ _ | refine blk_drew ?_ | refine blk_alloc ?_ _)); exact BK520.out) hb); have n1_ := Aside0.mk (below_step (by repeat (first | (with_reducible first | exact HB.out | apply below_alloc | apply pw_below_drewN | apply below_drew1 | refine below_set ?_ GE520.out) | exact HB.out)) hb); clear BK520; clear HB; have BK520 := n0_; have HB := n1_; clear n0_ n1_; (try clear hb); (try clear hb2); (try clear hk); (try clear hi))); try go_wp2_with (first | ((with_reducible refine gate_dst (N := 1) rfl ?_); (try (refine gate_guard (by rfl) ?_; dsimp only)); refine box_event ?hg (N := 1) ?hd (cs := #[.int .i64 a0_0, .string a0_1, .string a0_2, .int .i64 a0_3, .int .i64 a0_4, .bool a0_5, .slice A0_6 l0_6.length c0_6]) (t := 24) ?hr ?_; (case hd => rfl); (case hg => rfl); (case hr => first | (go_simp; done) | (go_simp; rfl)); intro gb520 hg w66 hbox hb; have n0_ := Aside0.mk (below_step (by repeat (first | (with_reducible first | exact HB.out | apply below_alloc | apply pw_below_drewN | apply below_drew1) | exact HB.out)) hb); have n1_ := Aside0.mk (hbox); have n2_ := Aside0.mk ((by rw [hg]; exact (below_size (by repeat (first | (with_reducible first | exact HB.out | apply below_alloc | apply pw_below_drewN | apply below_drew1) | exact HB.out))) : w.heap.size ≤ gb520)); have n3_ := Aside0.mk ((by rw [hg]; exact (below_size (by repeat (first | (with_reducible first | exact HB.out | apply below_alloc | apply pw_below_drewN | apply below_drew1) | exact HB.out))) : w.heap.size ≤ gb520)); clear HB; have HB := n0_; have BK520 := n1_; have GW520 := n2_; have GE520 := n3_; clear n0_ n1_ n2_ n3_; clear hb hbox hg) | (go_at_call 18; (with_reducible refine (incipitlaw18_awake.calls k  t521 _ A2.out (Tabs.below HT.out (by repeat (first | (with_reducible first | exact HB.out | apply below_alloc | apply pw_below_drewN | apply below_drew1) | exact HB.out)))).mono ?_); rintro e w67 ⟨rfl, hb⟩; have n0_ := Aside0.mk (blk_below (g := gb520) (o := .cells #[.int .i64 a0_0, .string a0_1, .string a0_2, .int .i64 a0_3, .int .i64 a0_4, .bool a0_5, .slice A0_6 l0_6.length c0_6] 24 (0, 0)) (by (with_reducible repeat (first | refine blk_drewN ?_ _ | refine blk_drew ?_ | refine blk_alloc ?_ _)); exact BK520.out) hb); have n1_ := Aside0.mk (below_step (by repeat (first | (with_reducible first | exact HB.out | apply below_alloc | apply pw_below_drewN | apply below_drew1 | refine below_set ?_ GE520.out) | exact HB.out)) hb); clear BK520; clear HB; have BK520 := n0_; have HB := n1_; clear n0_ n1_; (try clear hb); (try clear hb2); (try clear hk); (try clear hi); have hcz68_0 : w67.cell? ⟨gb520, 0, none⟩ = some (.int .i64 a0_0) := (blk_cell BK520.out 0).trans rfl; have hcz68_1 : w67.cell? ⟨gb520, 1, none⟩ = some (.string a0_1) := (blk_cell BK520.out 1).trans rfl; have hcz68_2 : w67.cell? ⟨gb520, 2, none⟩ = some (.string a0_2) := (blk_cell BK520.out 2).trans rfl; have hcz68_3 : w67.cell? ⟨gb520, 3, none⟩ = some (.int .i64 a0_3) := (blk_cell BK520.out 3).trans rfl; have hcz68_4 : w67.cell? ⟨gb520, 4, none⟩ = some (.int .i64 a0_4) := (blk_cell BK520.out 4).trans rfl; have hcz68_5 : w67.cell? ⟨gb520, 5, none⟩ = some (.bool a0_5) := (blk_cell BK520.out 5).trans rfl; have hcz68_6 : w67.cell? ⟨gb520, 6, none⟩ = some (.slice A0_6 l0_6.length c0_6) := (blk_cell BK520.out 6).trans rfl; have hfz68_0 := blk_frozen BK520.out 0; have hfz68_1 := blk_frozen BK520.out 1; have hfz68_2 := blk_frozen BK520.out 2; have hfz68_3 := blk_frozen BK520.out 3; have hfz68_4 := blk_frozen BK520.out 4; have hfz68_5 := blk_frozen BK520.out 5; have hfz68_6 := blk_frozen BK520.out 6) | (go_at_call 19; (with_reducible refine (incipitref06_Few.calls k a0_0 a0_1 a0_2 a0_3 a0_4 a0_5 _ _ l0_6 1500 false _ ?side1 ?side2 A3.out).mono ?_); (case side1 => repeat (first | exact (Kd.C_below HR0_6.out HB.out) | (with_reducible refine Kd.C_alloc ?_ _) | (with_reducible refine Kd.C_drewN ?_ _) | (with_reducible refine Kd.C_drew ?_))); (case side2 => exact HC0_6.out); rintro e w69 ⟨rfl, hb⟩; have n0_ := Aside0.mk (blk_below (g := gb520) (o := .cells #[.int .i64 a0_0, .string a0_1, .string a0_2, .int .i64 a0_3, .int .i64 a0_4, .bool a0_5, .slice A0_6 l0_6.length c0_6] 24 (0, 0)) (by (with_reducible repeat (first | refine blk_drewN ?_ _ | refine blk_drew ?_ | refine blk_alloc ?_ _)); exact BK520.out) hb); have n1_ := Aside0.mk (below_step (by repeat (first | (with_reducible first | exact HB.out | apply below_alloc | apply pw_below_drewN | apply below_drew1 | refine below_set ?_ GE520.out) | exact HB.out)) hb); clear BK520; clear HB; have BK520 := n0_; have HB := n1_; clear n0_ n1_; (try clear hb); (try clear hb2); (try clear hk); (try clear hi))))
    go_ret
    exact ⟨by first | rfl | (simp [errW_none, errW_some] <;> rfl) | (simp [*, errW_none, errW_some] <;> rfl), by repeat (first | (with_reducible first | exact HB.out | apply below_alloc | apply pw_below_drewN | apply below_drew1 | refine below_set ?_ GE520.out) | exact HB.out)⟩

end Go.Proofs.YtbgbmphjjdiaeaaDoor.P
