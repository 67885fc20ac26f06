/- FootNone, the plain law: nodes without references have no notes; what stands in them, but for notes, stays. -/
import Derived.Test.YtbgbmphjjdiaeaaDoorPk25
import Derived.Test.YtbgbmphjjdiaeaaDoorFootQ
import Derived.Test.YtbgbmphjjdiaeaaDoorFootT
namespace Go.Proofs.YtbgbmphjjdiaeaaDoor.P
open Go.RowKit Go.Proofs.YtbgbmphjjdiaeaaDoorW.PrintWords Go.Proofs.YtbgbmphjjdiaeaaDoorW.PrintLast Go.Proofs.YtbgbmphjjdiaeaaDoorW.PrintMore
set_option linter.unusedVariables false
theorem awake_ev : Ev (fun k => incipitlaw18_awake.f k) true := ⟨3, fun k hk => awake18 k hk⟩
theorem rfL_nil : rfL [] = [] := by rw [rfL]
theorem ntcL_nil : ntcL [] = 0 := by rw [ntcL]
theorem rfL_one (x : S24) : rfL [x] = rfT x := by rw [rfL, rfL_nil, List.append_nil]
theorem ntcL_one (x : S24) : ntcL [x] = ntT x := by rw [ntcL, ntcL_nil, Nat.add_zero]
theorem rfL_app (a b : List S24) : rfL (a ++ b) = rfL a ++ rfL b := by
  induction a with
  | nil => rw [rfL_nil]; rfl
  | cons x r ih => rw [List.cons_append, rfL, rfL, ih, List.append_assoc]
theorem ntcL_app (a b : List S24) : ntcL (a ++ b) = ntcL a + ntcL b := by
  induction a with
  | nil => rw [ntcL_nil]; simp
  | cons x r ih => rw [List.cons_append, ntcL, ntcL, ih]; omega
mutual
theorem wkT_none (has : Bs → Bool) : ∀ (x : S24) (st : Cnt), rfT x = [] → (wkT has x st).2 = st ∧ rfL (wkT has x st).1.toList = [] ∧ ntcL (wkT has x st).1.toList = 0 ∧ (ntT x = 0 → (wkT has x st).1 = some x) ∧ wtL (wkT has x st).1.toList ≤ wtT x
  | ⟨a, b, c, d, e, f, l⟩, st, h => by
    rw [rfT] at h
    rw [wkT, ntT, wtT]
    by_cases h13 : a = 13
    · rw [if_pos h13, if_pos h13]
      exact ⟨rfl, rfL_nil, ntcL_nil, fun h => by omega, by show wtL [] ≤ _; rw [wtL]; omega⟩
    · by_cases h24 : a = 24
      · rw [if_pos h24] at h
        cases h
      · rw [if_neg h24] at h
        rw [if_neg h13, if_neg h24, if_neg h13]
        obtain ⟨h1, h2, h3, h4, h5⟩ := wkL_none has l st h
        refine ⟨h1, ?_, ?_, fun h0 => ?_, ?_⟩
        · show rfL [_] = []
          rw [rfL_one, rfT, if_neg h24]
          exact h2
        · show ntcL [_] = 0
          rw [ntcL_one, ntT, if_neg h13]
          omega
        · rw [h4 (by omega)]
        · show wtL [_] ≤ _
          rw [wtL, wtT, show wtL [] = 0 from by rw [wtL]]
          omega
theorem wkL_none (has : Bs → Bool) : ∀ (l : List S24) (st : Cnt), rfL l = [] → (wkL has l st).2 = st ∧ rfL (wkL has l st).1 = [] ∧ ntcL (wkL has l st).1 = 0 ∧ (ntcL l = 0 → (wkL has l st).1 = l) ∧ wtL (wkL has l st).1 ≤ wtL l
  | [], st, _ => ⟨rfl, rfL_nil, ntcL_nil, fun _ => rfl, Nat.le_refl _⟩
  | x :: r, st, h => by
    rw [rfL, List.append_eq_nil_iff] at h
    obtain ⟨h1, h2, h3, h4, h5⟩ := wkT_none has x st h.1
    obtain ⟨g1, g2, g3, g4, g5⟩ := wkL_none has r st h.2
    rw [wkL, h1]
    refine ⟨g1, ?_, ?_, fun h0 => ?_, ?_⟩
    · show rfL (_ ++ _) = []
      rw [rfL_app, h2, g2]; rfl
    · show ntcL (_ ++ _) = 0
      rw [ntcL_app, h3, g3]
    · rw [ntcL] at h0
      show _ ++ _ = _
      rw [h4 (by omega), g4 (by omega)]
      rfl
    · show wtL (_ ++ _) ≤ _
      rw [wtL_app, wtL]
      omega
end
theorem number_none (l : List S24) (hw : wtL l ≤ 1000000) (h : rfL l = []) : Ev (fun k => foot_Number.f k l) ((wkL (hasF (noteF l)) l cnt0).1, []) := by
  obtain ⟨h1, _⟩ := wkL_none (hasF (noteF l)) l cnt0 h
  refine Ev.of (fun k => foot_Number.mono l k) (k := 1) ?_
  unfold foot_Number.f
  rw [if_pos hw, h1, ntL, if_neg (by simp [cnt0])]
  rfl
theorem none_j1 (x4 : List S24) (hw : wtL x4 < 1000000000) (h1 : rfL x4 = []) (h2 : ntcL x4 = 0) : Ev (fun k => incipitlaw18_FootNone.j1 k true x4 [] false) true := by
  refine Ev.step (f := fun k => (incipitlaw18_refs.f k x4).bind fun t => if (t.length : Int) = 0 then (incipitlaw18_notes.f k x4).bind fun t2 => some (t2 == 0) else none) (fun k => ?_) ?_
  · simp only [incipitlaw18_FootNone.j1]
    rw [if_neg (by decide), if_pos trivial, if_pos (by simp)]
  · refine Ev.bind (f := fun k t => if (t.length : Int) = 0 then (incipitlaw18_notes.f k x4).bind fun t2 => some (t2 == 0) else none) (refs_ev x4 hw) ?_
    rw [h1]
    refine Ev.congr (f := fun k => (incipitlaw18_notes.f k x4).bind fun t2 => some (t2 == 0)) (fun k => by rw [if_pos (by simp)]) ?_
    have hn := notes_ev x4 hw
    rw [h2] at hn
    exact Ev.bind (f := fun _ t2 => some (t2 == 0)) hn (Ev.now _)
theorem FootNone_pure (t : S24) (hok : okT t) : ∃ k, incipitlaw18_FootNone.f k t.f0 t.f1 t.f2 t.f3 t.f4 t.f5 t.f6 = some true := by
  refine Ev.rounds ?_
  obtain ⟨b, hb, hcnt⟩ := Few_ev t hok 1500 (by omega) (by omega)
  refine Ev.bind (f := fun k t182 => (incipitref06_Few.f k t.f0 t.f1 t.f2 t.f3 t.f4 t.f5 t.f6 1500).bind fun t183 => (if t183 = true then ((incipitlaw18_refs.f k t.f6).bind fun t184 => (incipitlaw18_FootNone.j0 k t182 (decide ((t184.length : Int) > 0)) t.f0 t.f1 t.f2 t.f3 t.f4 t.f5 t.f6)) else (incipitlaw18_FootNone.j0 k t182 true t.f0 t.f1 t.f2 t.f3 t.f4 t.f5 t.f6))) awake_ev ?_
  refine Ev.bind (f := fun k t183 => (if t183 = true then ((incipitlaw18_refs.f k t.f6).bind fun t184 => (incipitlaw18_FootNone.j0 k true (decide ((t184.length : Int) > 0)) t.f0 t.f1 t.f2 t.f3 t.f4 t.f5 t.f6)) else (incipitlaw18_FootNone.j0 k true true t.f0 t.f1 t.f2 t.f3 t.f4 t.f5 t.f6))) hb ?_
  have hstop : Ev (fun k => incipitlaw18_FootNone.j0 k true true t.f0 t.f1 t.f2 t.f3 t.f4 t.f5 t.f6) true := Ev.step (f := fun _ => some true) (fun k => by simp only [incipitlaw18_FootNone.j0]; rw [if_pos trivial]) (Ev.now _)
  cases b with
  | false => exact Ev.congr (fun k => by rw [if_neg (by decide)]) hstop
  | true =>
    have hwt := hcnt rfl
    have hwt2 := wtT_eq t
    have hw : wtL t.f6 ≤ 1500 := by omega
    refine Ev.congr (f := fun k => (incipitlaw18_refs.f k t.f6).bind fun t184 => (incipitlaw18_FootNone.j0 k true (decide ((t184.length : Int) > 0)) t.f0 t.f1 t.f2 t.f3 t.f4 t.f5 t.f6)) (fun k => by rw [if_pos rfl]) ?_
    refine Ev.bind (f := fun k t184 => (incipitlaw18_FootNone.j0 k true (decide ((t184.length : Int) > 0)) t.f0 t.f1 t.f2 t.f3 t.f4 t.f5 t.f6)) (refs_ev t.f6 (by omega)) ?_
    by_cases hr : rfL t.f6 = []
    · rw [hr, show decide ((([] : List S24).length : Int) > 0) = false from rfl]
      obtain ⟨h1, h2, h3, h4, h5⟩ := wkL_none (hasF (noteF t.f6)) t.f6 cnt0 hr
      refine Ev.step (f := fun k => (foot_Number.f k t.f6).bind fun bt187 => ((incipitlaw18_notes.f k t.f6).bind fun t193 => (if t193 = 0 then ((incipitref06_SameAll.f k bt187.1 t.f6).bind fun t194 => (incipitlaw18_FootNone.j1 k true bt187.1 bt187.2 (!t194))) else (incipitlaw18_FootNone.j1 k true bt187.1 bt187.2 false)))) (fun k => ?_) ?_
      · simp only [incipitlaw18_FootNone.j0]
        rw [if_neg (by decide)]
      · refine Ev.bind (f := fun k bt187 => ((incipitlaw18_notes.f k t.f6).bind fun t193 => (if t193 = 0 then ((incipitref06_SameAll.f k bt187.1 t.f6).bind fun t194 => (incipitlaw18_FootNone.j1 k true bt187.1 bt187.2 (!t194))) else (incipitlaw18_FootNone.j1 k true bt187.1 bt187.2 false)))) (number_none t.f6 (by omega) hr) ?_
        refine Ev.bind (f := fun k t193 => (if t193 = 0 then ((incipitref06_SameAll.f k (wkL (hasF (noteF t.f6)) t.f6 cnt0).1 t.f6).bind fun t194 => (incipitlaw18_FootNone.j1 k true (wkL (hasF (noteF t.f6)) t.f6 cnt0).1 [] (!t194))) else (incipitlaw18_FootNone.j1 k true (wkL (hasF (noteF t.f6)) t.f6 cnt0).1 [] false))) (notes_ev t.f6 (by omega)) ?_
        have hj := none_j1 (wkL (hasF (noteF t.f6)) t.f6 cnt0).1 (by omega) h2 h3
        by_cases h0 : ntcL t.f6 = 0
        · refine Ev.congr (f := fun k => (incipitref06_SameAll.f k (wkL (hasF (noteF t.f6)) t.f6 cnt0).1 t.f6).bind fun t194 => (incipitlaw18_FootNone.j1 k true (wkL (hasF (noteF t.f6)) t.f6 cnt0).1 [] (!t194))) (fun k => by rw [if_pos (by omega)]) ?_
          have hs := sameAll_ev t.f6 (by omega)
          refine Ev.bind (f := fun k t194 => (incipitlaw18_FootNone.j1 k true (wkL (hasF (noteF t.f6)) t.f6 cnt0).1 [] (!t194))) (a := true) ?_ hj
          rw [h4 h0]
          exact hs
        · exact Ev.congr (fun k => by rw [if_neg (by omega)]) hj
    · have hpos : 0 < (rfL t.f6).length := List.length_pos_iff.2 hr
      rw [show decide (((rfL t.f6).length : Int) > 0) = true from decide_eq_true (by omega)]
      exact hstop
end Go.Proofs.YtbgbmphjjdiaeaaDoor.P
