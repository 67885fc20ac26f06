/- The reference's well, with rounds enough: it answers as tree.Well does. -/
import Derived.Test.YtikfbipjlkhgeaaPk11
import Derived.Test.YtikfbipjlkhgeaaTreeP
namespace Go.Proofs.Ytikfbipjlkhgeaa.P
open Go.RowKit Go.Proofs.YtikfbipjlkhgeaaW.PrintWords Go.Proofs.YtikfbipjlkhgeaaW.PrintLast Go.Proofs.YtikfbipjlkhgeaaW.PrintMore
set_option linter.unusedVariables false
set_option linter.unusedSimpArgs false
def holdsI (a : Int) : Int := if a = 1 ∨ a = 2 ∨ a = 4 ∨ a = 13 then 1 else if a = 7 ∨ a = 8 ∨ a = 12 ∨ a = 18 ∨ a = 19 ∨ a = 20 ∨ a = 21 ∨ a = 23 then 2 else if a = 3 then 3 else if a = 10 then 4 else if a = 11 then 5 else 0
def sortI (a : Int) : Int := if a < 0 then 0 else if a ≥ 26 then 0 else rd [0, 0, 1, 1, 3, 1, 1, 1, 1, 1, 1, 4, 5, 1, 2, 2, 2, 2, 2, 2, 2, 2, 2, 2, 2, 2] a
theorem sort_ev (a : Int) : incipitref06_sort.f a = some (sortI a) := by
  unfold incipitref06_sort.f sortI
  simp only [Option.bind_some]
  have e : ((([0, 0, 1, 1, 3, 1, 1, 1, 1, 1, 1, 4, 5, 1, 2, 2, 2, 2, 2, 2, 2, 2, 2, 2, 2, 2] : List Int).length : Nat) : Int) = 26 := rfl
  by_cases h : a < 0
  · rw [if_pos h, if_pos h]
  · by_cases h2 : a ≥ 26
    · rw [if_neg h, if_neg h, if_pos (by rw [e]; exact h2), if_pos h2]
    · rw [if_neg h, if_neg h, if_neg (by rw [e]; exact h2), if_neg h2, if_pos (by omega), if_pos (by rw [e]; omega)]
theorem holds_ev (a : Int) (k : Nat) : incipitref06_holds.f (k + 2) a = some (holdsI a) := by
  unfold incipitref06_holds.f
  simp only [incipitref06_holds.j0, incipitref06_holds.j1]
  unfold holdsI
  by_cases h1 : a = 1
  · subst h1; rfl
  by_cases h2 : a = 2
  · subst h2; rfl
  by_cases h3 : a = 4
  · subst h3; rfl
  by_cases h4 : a = 13
  · subst h4; rfl
  by_cases h5 : a = 7
  · subst h5; rfl
  by_cases h6 : a = 8
  · subst h6; rfl
  by_cases h7 : a = 12
  · subst h7; rfl
  by_cases h8 : a = 18
  · subst h8; rfl
  by_cases h9 : a = 19
  · subst h9; rfl
  by_cases h10 : a = 20
  · subst h10; rfl
  by_cases h11 : a = 21
  · subst h11; rfl
  by_cases h12 : a = 23
  · subst h12; rfl
  by_cases h13 : a = 3
  · subst h13; rfl
  by_cases h14 : a = 10
  · subst h14; rfl
  by_cases h15 : a = 11
  · subst h15; rfl
  simp [*]
theorem sortI_cases (k : Int) : sortI k = if (k = 2 ∨ k = 3 ∨ k = 5 ∨ k = 6 ∨ k = 7 ∨ k = 8 ∨ k = 9 ∨ k = 10 ∨ k = 13) then 1 else if k = 4 then 3 else if k = 11 then 4 else if k = 12 then 5 else if 14 ≤ k ∧ k ≤ 25 then 2 else 0 := by
  by_cases h : 0 ≤ k ∧ k < 26
  · obtain ⟨n, rfl⟩ : ∃ n : Nat, k = n := ⟨k.toNat, by omega⟩
    have hn : n < 26 := by omega
    clear h
    revert n
    decide +kernel
  · unfold sortI
    by_cases h0 : k < 0
    · rw [if_pos h0]
      rw [if_neg (by omega), if_neg (by omega), if_neg (by omega), if_neg (by omega), if_neg (by omega)]
    · rw [if_neg h0, if_pos (by omega)]
      rw [if_neg (by omega), if_neg (by omega), if_neg (by omega), if_neg (by omega), if_neg (by omega)]
theorem blockB_iff (k : Int) : blockB k = true ↔ (k = 2 ∨ k = 3 ∨ k = 5 ∨ k = 6 ∨ k = 7 ∨ k = 8 ∨ k = 9 ∨ k = 10 ∨ k = 13) := by
  unfold blockB
  simp only [Bool.or_eq_true, beq_iff_eq]
theorem inlineB_iff (k : Int) : inlineB k = true ↔ 14 ≤ k ∧ k ≤ 25 := by
  unfold inlineB
  simp only [Bool.and_eq_true, decide_eq_true_iff]
theorem may_iff (a k : Int) : mayB a k = true ↔ holdsI a ≠ 0 ∧ sortI k = holdsI a := by
  rw [sortI_cases]
  unfold mayB holdsI
  simp only [Bool.or_eq_true, beq_iff_eq]
  by_cases h1 : a = 1 ∨ a = 2 ∨ a = 4 ∨ a = 13
  · rw [if_pos h1, if_pos h1, blockB_iff]
    constructor
    · intro h; rw [if_pos h]; decide
    · rintro ⟨_, h⟩
      split at h
      · assumption
      · repeat (first | (split at h; · exact absurd h (by decide)) | exact absurd h (by decide))
  rw [if_neg h1, if_neg h1]
  by_cases h2 : a = 7 ∨ a = 8 ∨ a = 12 ∨ a = 18 ∨ a = 19 ∨ a = 20 ∨ a = 21 ∨ a = 23
  · rw [if_neg (by omega), if_neg (by omega), if_neg (by omega), if_pos h2, if_pos h2, inlineB_iff]
    constructor
    · intro h; rw [if_neg (by omega), if_neg (by omega), if_neg (by omega), if_neg (by omega), if_pos h]; decide
    · rintro ⟨_, h⟩
      split at h
      · exact absurd h (by decide)
      split at h
      · exact absurd h (by decide)
      split at h
      · exact absurd h (by decide)
      split at h
      · exact absurd h (by decide)
      split at h
      · assumption
      · exact absurd h (by decide)
  rw [if_neg h2, if_neg h2]
  by_cases h3 : a = 3
  · rw [if_pos h3, if_pos h3, beq_iff_eq]
    constructor
    · intro h; rw [if_neg (by omega), if_pos h]; decide
    · rintro ⟨_, h⟩
      split at h
      · exact absurd h (by decide)
      split at h
      · assumption
      split at h
      · exact absurd h (by decide)
      split at h
      · exact absurd h (by decide)
      split at h
      · exact absurd h (by decide)
      · exact absurd h (by decide)
  rw [if_neg h3, if_neg h3]
  by_cases h4 : a = 10
  · rw [if_pos h4, if_pos h4, beq_iff_eq]
    constructor
    · intro h; rw [if_neg (by omega), if_neg (by omega), if_pos h]; decide
    · rintro ⟨_, h⟩
      split at h
      · exact absurd h (by decide)
      split at h
      · exact absurd h (by decide)
      split at h
      · assumption
      split at h
      · exact absurd h (by decide)
      split at h
      · exact absurd h (by decide)
      · exact absurd h (by decide)
  rw [if_neg h4, if_neg h4]
  by_cases h5 : a = 11
  · rw [if_pos h5, if_pos h5, beq_iff_eq]
    constructor
    · intro h; rw [if_neg (by omega), if_neg (by omega), if_neg (by omega), if_pos h]; decide
    · rintro ⟨_, h⟩
      split at h
      · exact absurd h (by decide)
      split at h
      · exact absurd h (by decide)
      split at h
      · exact absurd h (by decide)
      split at h
      · assumption
      split at h
      · exact absurd h (by decide)
      · exact absurd h (by decide)
  rw [if_neg h5, if_neg h5]
  constructor
  · intro h; cases h
  · rintro ⟨h, _⟩; exact absurd rfl h
theorem rwell_loop (a0 : Int) (a1 a2 : ByteArray) (a3 a4 : Int) (a5 : Bool) (l : List S24) (lk : Bool) (hl : l.length < 4611686018427387904)
    (IH : ∀ x ∈ l, ∀ b, Ev (fun k => incipitref06_well.f k x.f0 x.f1 x.f2 x.f3 x.f4 x.f5 x.f6 b) (wellT b x)) :
    ∀ (d i : Nat), i + d = l.length → Ev (fun k => incipitref06_well.l0 k lk (i : Int) a0 a1 a2 a3 a4 a5 l) (!badL a0 (lk || (a0 == 20)) (l.drop i)) := by
  intro d
  induction d with
  | zero =>
    intro i hi
    rw [show l.drop i = [] from List.drop_eq_nil_of_le (by omega)]
    refine Ev.step (f := fun _ => some true) (fun k => ?_) (by unfold badL; exact Ev.now _)
    simp only [incipitref06_well.l0]; rw [if_neg (by omega)]
  | succ d ih =>
    intro i hi
    have hlt : i < l.length := by omega
    have hi1 : wrap64 ((i : Int) + 1) = ((i + 1 : Nat) : Int) := by rw [wr64 (by omega) (by omega)]; omega
    rw [drop_rd l i hlt]
    unfold badL
    obtain ⟨K1, hx⟩ := IH _ (rdm l i hlt) (lk || (a0 == 20))
    obtain ⟨K2, hr⟩ := ih (i + 1) (by omega)
    refine ⟨K1 + K2 + 3, fun k hk => ?_⟩
    obtain ⟨k, rfl⟩ : ∃ q, k = q + 2 + 1 := ⟨k - 3, by omega⟩
    simp only [incipitref06_well.l0]
    rw [if_pos (by omega), holds_ev, Option.bind_some]
    have hm := may_iff a0 (rd_T24 l i).f0
    cases hmb : mayB a0 (rd_T24 l i).f0 with
    | false =>
      rw [hmb] at hm
      by_cases h0 : holdsI a0 = 0
      · rw [if_pos h0]; rfl
      · rw [if_neg h0, if_pos (by omega), sort_ev, Option.bind_some, Option.bind_some, if_neg (fun h => absurd (hm.2 ⟨h0, h⟩) (by decide))]; rfl
    | true =>
      obtain ⟨h0, h1⟩ := hm.1 hmb
      rw [if_neg h0, if_pos (by omega), sort_ev, Option.bind_some, Option.bind_some, if_pos h1, hi1]
      have hx' := hx (k + 2) (by omega)
      have hr' := hr (k + 2) (by omega)
      dsimp only at hx' hr'
      have key : (((incipitref06_well.f (k + 2) (rd_T24 l i).f0 (rd_T24 l i).f1 (rd_T24 l i).f2 (rd_T24 l i).f3 (rd_T24 l i).f4 (rd_T24 l i).f5 (rd_T24 l i).f6 (lk || (a0 == 20))).bind fun t161 => (if t161 = true then (incipitref06_well.l0 (k + 2) lk ((i + 1 : Nat) : Int) a0 a1 a2 a3 a4 a5 l) else (some false)))) = some (!((!true || !wellT (lk || (a0 == 20)) (rd_T24 l i)) || badL a0 (lk || (a0 == 20)) (l.drop (i + 1)))) := by
        rw [hx', Option.bind_some]
        cases hw : wellT (lk || (a0 == 20)) (rd_T24 l i) with
        | false => rfl
        | true => rw [if_pos rfl, hr']; rfl
      cases lk with
      | true => rw [if_pos rfl]; exact key
      | false => rw [if_neg (by decide)]; exact key
theorem rwell_ev : ∀ t : S24, cntT t < 4611686018427387904 → ∀ lk : Bool, Ev (fun k => incipitref06_well.f k t.f0 t.f1 t.f2 t.f3 t.f4 t.f5 t.f6 lk) (wellT lk t) :=
  S24_ind fun a0 a1 a2 a3 a4 a5 l IH h lk => by
    unfold cntT at h
    have hl := len_cntL l
    have hloop := rwell_loop a0 a1 a2 a3 a4 a5 l lk (by omega) (fun x hx b => IH x hx (by have := cntL_mem hx; omega) b) l.length 0 (by omega)
    rw [List.drop_zero] at hloop
    unfold wellT
    by_cases h20 : a0 = 20
    · cases lk with
      | true =>
        refine Ev.step (f := fun k => incipitref06_well.j0 k true true a0 a1 a2 a3 a4 a5 l) (fun k => by simp only [incipitref06_well.f]; rw [if_pos h20]) ?_
        refine Ev.step (f := fun _ => some false) (fun k => by simp only [incipitref06_well.j0]; rfl) ?_
        rw [beq_iff_eq.2 h20]
        exact Ev.now _
      | false =>
        refine Ev.step (f := fun k => incipitref06_well.j0 k false false a0 a1 a2 a3 a4 a5 l) (fun k => by simp only [incipitref06_well.f]; rw [if_pos h20]) ?_
        refine Ev.step (f := fun k => incipitref06_well.l0 k false ((0 : Nat) : Int) a0 a1 a2 a3 a4 a5 l) (fun k => by simp only [incipitref06_well.j0]; rfl) ?_
        rw [Bool.and_false, Bool.not_false, Bool.true_and]
        exact hloop
    · refine Ev.step (f := fun k => incipitref06_well.j0 k lk false a0 a1 a2 a3 a4 a5 l) (fun k => by simp only [incipitref06_well.f]; rw [if_neg h20]) ?_
      refine Ev.step (f := fun k => incipitref06_well.l0 k lk ((0 : Nat) : Int) a0 a1 a2 a3 a4 a5 l) (fun k => by simp only [incipitref06_well.j0]; rfl) ?_
      have e : (a0 == 20) = false := beq_eq_false_iff_ne.2 h20
      rw [e] at hloop ⊢
      rw [Bool.false_and, Bool.not_false, Bool.true_and]
      exact hloop
theorem rWell_ev (t : S24) (h : cntT t < 4611686018427387904) : Ev (fun k => incipitref06_Well.f k t.f0 t.f1 t.f2 t.f3 t.f4 t.f5 t.f6) ((t.f0 == 1) && wellT false t) := by
  unfold incipitref06_Well.f
  by_cases h1 : t.f0 = 1
  · refine Ev.congr (f := fun k => (incipitref06_well.f k t.f0 t.f1 t.f2 t.f3 t.f4 t.f5 t.f6 false).bind fun t164 => some t164) (fun k => by rw [if_pos h1]) ?_
    rw [beq_iff_eq.2 h1, Bool.true_and]
    exact Ev.bind (f := fun _ t => some t) (rwell_ev t h false) (Ev.now _)
  · refine Ev.congr (f := fun k => some false) (fun k => by rw [if_neg h1]) ?_
    rw [beq_eq_false_iff_ne.2 h1, Bool.false_and]
    exact Ev.now _
end Go.Proofs.Ytikfbipjlkhgeaa.P
