/- TaskOnce, the plain law: applying twice is applying once; only boxes are added, and each that is checked is one. -/
import Derived.Test.YtikfbipjlkhgeaaPk9
import Derived.Test.YtikfbipjlkhgeaaTreeP
import Derived.Test.YtikfbipjlkhgeaaApply
namespace Go.Proofs.Ytikfbipjlkhgeaa.P
open Go.RowKit Go.Proofs.YtikfbipjlkhgeaaW.PrintWords Go.Proofs.YtikfbipjlkhgeaaW.PrintLast Go.Proofs.YtikfbipjlkhgeaaW.PrintMore
set_option linter.unusedVariables false
set_option linter.unusedSimpArgs false
theorem awake16b : ∀ k, 20 ≤ k → incipitlaw16_awake.f k = some true := fun k hk => by
  have h : incipitlaw16_awake.f 20 = some true := by
    kernel_rfl
  obtain ⟨j, rfl⟩ := Nat.exists_eq_add_of_le hk
  clear hk
  induction j with
  | zero => exact h
  | succ j ih => exact incipitlaw16_awake.mono (20 + j) _ ih
mutual
def allT : S24 → Nat
  | ⟨a, _, _, _, _, _, l⟩ => allL l + (if a = 25 then 1 else 0)
def allL : List S24 → Nat
  | [] => 0
  | x :: l => allT x + allL l
end
mutual
def chkT : S24 → Nat
  | ⟨a, _, _, _, _, f, l⟩ => chkL l + (if a = 25 then (if f = true then 1 else 0) else 0)
def chkL : List S24 → Nat
  | [] => 0
  | x :: l => chkT x + chkL l
end
theorem allT_eq (x : S24) : allT x = allL x.f6 + (if x.f0 = 25 then 1 else 0) := by obtain ⟨a, b, c, d, e, f, l⟩ := x; exact allT.eq_1 a b c d e f l
theorem chkT_eq (x : S24) : chkT x = chkL x.f6 + (if x.f0 = 25 then (if x.f5 = true then 1 else 0) else 0) := by obtain ⟨a, b, c, d, e, f, l⟩ := x; exact chkT.eq_1 a b c d e f l
theorem cntT_eq (x : S24) : cntT x = 1 + cntL x.f6 := by obtain ⟨a, b, c, d, e, f, l⟩ := x; exact cntT.eq_1 a b c d e f l
mutual
theorem all_cnt : ∀ t, allT t ≤ cntT t ∧ chkT t ≤ allT t ∧ cnT t = cntT t
  | ⟨a, b, c, d, e, f, l⟩ => by
    have := all_cntL l
    rw [allT.eq_1, cntT.eq_1, chkT.eq_1, cnT.eq_1]
    refine ⟨?_, ?_, by omega⟩
    · split <;> omega
    · split
      · split <;> omega
      · omega
theorem all_cntL : ∀ l, allL l ≤ cntL l ∧ chkL l ≤ allL l ∧ cnL l = cntL l
  | [] => by rw [allL.eq_1, cntL.eq_1, chkL.eq_1, cnL.eq_1]; omega
  | x :: l => by
    have := all_cnt x
    have := all_cntL l
    rw [allL.eq_2, cntL.eq_2, chkL.eq_2, cnL.eq_2]
    omega
end
theorem box_counts (l : List S24) : ∃ b c, c ≤ b ∧ b ≤ 1 ∧ allL (boxL l) = allL l + b ∧ chkL (boxL l) = chkL l + c ∧ cntL (boxL l) = cntL l + b := by
  cases l with
  | nil => exact ⟨0, 0, by omega, by omega, rfl, rfl, rfl⟩
  | cons t r =>
    rw [boxL.eq_2]
    by_cases h : t.f0 = 14 ∧ (markP t.f1).2 ≠ 0
    · rw [if_pos h]
      refine ⟨1, if (markP t.f1).1 = true then 1 else 0, by split <;> omega, by omega, ?_, ?_, ?_⟩
      · rw [allL.eq_2, allL.eq_2, allL.eq_2, allT_eq, allT_eq, allT_eq]
        simp only [allL.eq_1, h.1]
        simp
        omega
      · rw [chkL.eq_2, chkL.eq_2, chkL.eq_2, chkT_eq, chkT_eq, chkT_eq]
        simp only [chkL.eq_1, h.1]
        simp
        omega
      · rw [cntL.eq_2, cntL.eq_2, cntL.eq_2, cntT_eq, cntT_eq, cntT_eq]
        simp only [cntL.eq_1]
        omega
    · rw [if_neg h]
      exact ⟨0, 0, by omega, by omega, rfl, rfl, rfl⟩
theorem box_twice (l : List S24) : boxL (boxL l) = boxL l := by
  cases l with
  | nil => rfl
  | cons t r =>
    by_cases h : t.f0 = 14 ∧ (markP t.f1).2 ≠ 0
    · rw [boxL.eq_2, if_pos h, boxL.eq_2, if_neg (fun e => absurd (show (25 : Int) = 14 from e.1) (by decide))]
    · rw [boxL.eq_2, if_neg h, boxL.eq_2, if_neg h]
mutual
theorem app_counts : ∀ (it : Bool) (t : S24), ∃ b c, c ≤ b ∧ b ≤ cntT t ∧ allT (appT it t) = allT t + b ∧ chkT (appT it t) = chkT t + c ∧ cntT (appT it t) = cntT t + b
  | it, ⟨a, p, q, d, e, f, l⟩ => by
    rw [appT.eq_1, allT.eq_1, allT.eq_1, chkT.eq_1, chkT.eq_1, cntT.eq_1, cntT.eq_1]
    by_cases h : it = true ∧ a = 7
    · rw [if_pos h]
      obtain ⟨b, c, h1, h2, h3, h4, h5⟩ := app_countsL false l
      obtain ⟨b', c', g1, g2, g3, g4, g5⟩ := box_counts (appL false l)
      exact ⟨b + b', c + c', by omega, by omega, by omega, by omega, by omega⟩
    · rw [if_neg h]
      obtain ⟨b, c, h1, h2, h3, h4, h5⟩ := app_countsL (a == 4) l
      exact ⟨b, c, by omega, by omega, by omega, by omega, by omega⟩
theorem app_countsL : ∀ (it : Bool) (l : List S24), ∃ b c, c ≤ b ∧ b ≤ cntL l ∧ allL (appL it l) = allL l + b ∧ chkL (appL it l) = chkL l + c ∧ cntL (appL it l) = cntL l + b
  | it, [] => ⟨0, 0, by omega, by omega, by rw [appL.eq_1]; rfl, by rw [appL.eq_1]; rfl, by rw [appL.eq_1]; rfl⟩
  | it, x :: l => by
    obtain ⟨b, c, h1, h2, h3, h4, h5⟩ := app_counts it x
    obtain ⟨b', c', g1, g2, g3, g4, g5⟩ := app_countsL false l
    rw [appL.eq_2, allL.eq_2, allL.eq_2, chkL.eq_2, chkL.eq_2, cntL.eq_2, cntL.eq_2]
    exact ⟨b + b', c + c', by omega, by omega, by omega, by omega, by omega⟩
end
mutual
theorem appT_twice : ∀ (it : Bool) (t : S24), appT it (appT it t) = appT it t
  | it, ⟨a, p, q, d, e, f, l⟩ => by
    by_cases h : it = true ∧ a = 7
    · rw [appT.eq_1, if_pos h, appT.eq_1, if_pos h, app_box, appL_twice false l, box_twice]
    · rw [appT.eq_1, if_neg h, appT.eq_1, if_neg h, appL_twice (a == 4) l]
theorem appL_twice : ∀ (it : Bool) (l : List S24), appL it (appL it l) = appL it l
  | it, [] => by rw [appL.eq_1, appL.eq_1]
  | it, x :: l => by rw [appL.eq_2, appL.eq_2, appT_twice it x, appL_twice false l]
end
theorem sumn (p a : Nat) (h : p + a < 4611686018427387904) : wrap64 ((p : Int) + (a : Int)) = ((p + a : Nat) : Int) := by rw [wr64 (by omega) (by omega)]; omega
theorem sumn1 (p a : Nat) (h : p + a + 1 < 4611686018427387904) : wrap64 (wrap64 ((p : Int) + (a : Int)) + 1) = ((p + a + 1 : Nat) : Int) := by rw [sumn p a (by omega), wr64 (by omega) (by omega)]; omega
theorem nexti (i : Nat) (h : i < 4611686018427387904) : wrap64 ((i : Int) + 1) = ((i + 1 : Nat) : Int) := by rw [wr64 (by omega) (by omega)]; omega
theorem tcount_round (l : List S24) (i p q n c : Nat) (x : S24) (r : Int × Int) (hlt : i < l.length) (hl : l.length < 4611686018427387904) (ex : rd_T24 l (i : Int) = x) (hx : Ev (fun k => task_Count.f k x.f6) ((n : Int), (c : Int)))
    (hn : p + n + 1 < 4611686018427387904) (hq : q + c + 1 < 4611686018427387904)
    (hm : Ev (fun k => task_Count.l0 k ((p + (n + (if x.f0 = 25 then 1 else 0)) : Nat) : Int) ((q + (c + (if x.f0 = 25 then (if x.f5 = true then 1 else 0) else 0)) : Nat) : Int) l (l.length : Int) ((i + 1 : Nat) : Int)) r) :
    Ev (fun k => task_Count.l0 k (p : Int) (q : Int) l (l.length : Int) (i : Int)) r := by
  refine Ev.step (f := fun k => (task_Count.f k x.f6).bind fun bt190 => (if x.f0 = 25 then (if x.f5 = true then (task_Count.l0 k (wrap64 ((wrap64 ((p : Int) + bt190.1)) + 1)) (wrap64 ((wrap64 ((q : Int) + bt190.2)) + 1)) l (l.length : Int) (wrap64 ((i : Int) + 1))) else (task_Count.l0 k (wrap64 ((wrap64 ((p : Int) + bt190.1)) + 1)) (wrap64 ((q : Int) + bt190.2)) l (l.length : Int) (wrap64 ((i : Int) + 1)))) else (task_Count.l0 k (wrap64 ((p : Int) + bt190.1)) (wrap64 ((q : Int) + bt190.2)) l (l.length : Int) (wrap64 ((i : Int) + 1))))) (fun k => ?_) ?_
  · simp only [task_Count.l0]; rw [if_pos (by omega), if_pos (by omega), if_pos (by omega), ex]
  · refine Ev.bind (f := fun k (bt190 : Int × Int) => (if x.f0 = 25 then (if x.f5 = true then (task_Count.l0 k (wrap64 ((wrap64 ((p : Int) + bt190.1)) + 1)) (wrap64 ((wrap64 ((q : Int) + bt190.2)) + 1)) l (l.length : Int) (wrap64 ((i : Int) + 1))) else (task_Count.l0 k (wrap64 ((wrap64 ((p : Int) + bt190.1)) + 1)) (wrap64 ((q : Int) + bt190.2)) l (l.length : Int) (wrap64 ((i : Int) + 1)))) else (task_Count.l0 k (wrap64 ((p : Int) + bt190.1)) (wrap64 ((q : Int) + bt190.2)) l (l.length : Int) (wrap64 ((i : Int) + 1))))) hx ?_
    dsimp only
    by_cases h25 : x.f0 = 25
    · rw [if_pos h25, if_pos h25] at hm
      by_cases h5 : x.f5 = true
      · rw [if_pos h5] at hm
        refine Ev.congr (fun k => (if_pos h25).trans (if_pos h5)) ?_
        simp only [sumn1 p n (by omega), sumn1 q c (by omega), nexti i (by omega)]
        exact hm
      · rw [if_neg h5] at hm
        refine Ev.congr (fun k => (if_pos h25).trans (if_neg h5)) ?_
        simp only [sumn1 p n (by omega), sumn q c (by omega), nexti i (by omega)]
        exact hm
    · rw [if_neg h25, if_neg h25] at hm
      refine Ev.congr (fun k => if_neg h25) ?_
      simp only [sumn p n (by omega), sumn q c (by omega), nexti i (by omega)]
      exact hm
theorem tcount_loop (l : List S24) (hl : l.length < 4611686018427387904) (IH : ∀ x ∈ l, Ev (fun k => task_Count.f k x.f6) ((allL x.f6 : Int), (chkL x.f6 : Int))) :
    ∀ (d i p q : Nat), i + d = l.length → p + cntL (l.drop i) < 2305843009213693952 → q ≤ p →
      Ev (fun k => task_Count.l0 k (p : Int) (q : Int) l (l.length : Int) (i : Int)) (((p + allL (l.drop i) : Nat) : Int), ((q + chkL (l.drop i) : Nat) : Int)) := by
  intro d
  induction d with
  | zero =>
    intro i p q hi h1 h2
    have e : l.drop i = [] := List.drop_eq_nil_of_le (by omega)
    rw [e]
    refine Ev.step (f := fun _ => some ((p : Int), (q : Int))) (fun k => ?_) ?_
    · simp only [task_Count.l0]; rw [if_neg (by omega)]
    · rw [allL.eq_1, chkL.eq_1]
      exact Ev.now _
  | succ d ih =>
    intro i p q hi h1 h2
    have hlt : i < l.length := by omega
    rw [drop_rd l i hlt] at h1 ⊢
    have hx := IH _ (rdm l i hlt)
    have hr := all_cnt (rd_T24 l (i : Int))
    have hr2 := all_cntL (rd_T24 l (i : Int)).f6
    have en := cntT_eq (rd_T24 l (i : Int))
    rw [cntL.eq_2] at h1
    rw [allL.eq_2, chkL.eq_2, ← Nat.add_assoc, ← Nat.add_assoc]
    refine tcount_round l i p q _ _ _ _ hlt hl rfl hx (by omega) (by omega) ?_
    rw [← allT_eq, ← chkT_eq]
    exact ih (i + 1) _ _ (by omega) (by omega) (by omega)
theorem tcount_list (l : List S24) (h : cntL l < 2305843009213693952) (IH : ∀ x ∈ l, Ev (fun k => task_Count.f k x.f6) ((allL x.f6 : Int), (chkL x.f6 : Int))) : Ev (fun k => task_Count.f k l) ((allL l : Int), (chkL l : Int)) := by
  have hl := len_cntL l
  refine Ev.step (f := fun k => task_Count.l0 k ((0 : Nat) : Int) ((0 : Nat) : Int) l (l.length : Int) ((0 : Nat) : Int)) (fun k => by simp only [task_Count.f]; rfl) ?_
  have := tcount_loop l (by omega) IH l.length 0 0 0 (by omega) (by rw [List.drop_zero]; omega) (Nat.le_refl _)
  rw [List.drop_zero, Nat.zero_add, Nat.zero_add] at this
  exact this
theorem tcount_ev (l : List S24) (h : cntL l < 2305843009213693952) : Ev (fun k => task_Count.f k l) ((allL l : Int), (chkL l : Int)) := by
  have key : ∀ t : S24, cntT t < 2305843009213693952 → Ev (fun k => task_Count.f k t.f6) ((allL t.f6 : Int), (chkL t.f6 : Int)) :=
    S24_ind fun a0 a1 a2 a3 a4 a5 l IH h => by
      rw [cntT.eq_1] at h
      exact tcount_list l (by omega) (fun x hx => IH x hx (by have := cntL_mem hx; omega))
  exact tcount_list l h (fun x hx => key x (by have := cntL_mem hx; omega))
theorem TaskOnce_pure (a : S24) (ha : okT a) : ∃ k, incipitlaw16_TaskOnce.f k a.f0 a.f1 a.f2 a.f3 a.f4 a.f5 a.f6 = some true := by
  obtain ⟨b, ⟨K1, h1⟩, hb⟩ := Few_ev a ha 2000 (by omega) (by omega)
  cases b with
  | false =>
    refine ⟨K1 + 20, ?_⟩
    have e1 := h1 (K1 + 20) (by omega)
    dsimp only at e1
    unfold incipitlaw16_TaskOnce.f
    rw [awake16b _ (by omega), Option.bind_some, e1, Option.bind_some, if_neg (by decide)]
  | true =>
    have hc := hb rfl
    rw [cntT_eq] at hc
    have hcn := (all_cntL a.f6).2.2
    have hca := (all_cntL (appL false a.f6)).2.2
    obtain ⟨p, q, g1, g2, g3, g4, g5⟩ := app_countsL false a.f6
    obtain ⟨K2, h2⟩ := tcount_ev a.f6 (by omega)
    obtain ⟨K3, h3⟩ := tcount_ev (appL false a.f6) (by omega)
    have cl : ∀ x : S24, x.f6.length < cntT x := fun x => by have := len_cntL x.f6; rw [cntT_eq]; omega
    obtain ⟨K4, h4⟩ := rsame_ev ⟨0, ⟨#[]⟩, ⟨#[]⟩, 0, 0, false, appL false a.f6⟩ (by have := len_cntL (appL false a.f6); show (appL false a.f6).length < _; omega) (fun u hu => by have := cl u; rw [cntT_eq ⟨0, ⟨#[]⟩, ⟨#[]⟩, 0, 0, false, appL false a.f6⟩] at hu; simp only at hu; omega) ⟨0, ⟨#[]⟩, ⟨#[]⟩, 0, 0, false, appL false a.f6⟩
    obtain ⟨K5, h5⟩ := rcount_ev ⟨0, ⟨#[]⟩, ⟨#[]⟩, 0, 0, false, appL false a.f6⟩ (by rw [cntT_eq]; simp only; omega)
    obtain ⟨K6, h6⟩ := rcount_ev ⟨0, ⟨#[]⟩, ⟨#[]⟩, 0, 0, false, a.f6⟩ (by rw [cntT_eq]; simp only; omega)
    refine ⟨K1 + K2 + K3 + K4 + K5 + K6 + 20 + 1, ?_⟩
    have e1 := h1 (K1 + K2 + K3 + K4 + K5 + K6 + 20 + 1) (by omega)
    have e2 := h2 (K1 + K2 + K3 + K4 + K5 + K6 + 20 + 1) (by omega)
    have e3 := h3 (K1 + K2 + K3 + K4 + K5 + K6 + 20 + 1) (by omega)
    have e4 := h4 (K1 + K2 + K3 + K4 + K5 + K6 + 20) (by omega)
    have e5 := h5 (K1 + K2 + K3 + K4 + K5 + K6 + 20) (by omega)
    have e6 := h6 (K1 + K2 + K3 + K4 + K5 + K6 + 20) (by omega)
    dsimp only at e1 e2 e3 e4 e5 e6
    have ap1 : task_Apply.f a.f6 = some (appL false a.f6) := by unfold task_Apply.f; rw [if_pos (by omega)]
    have ap2 : task_Apply.f (appL false a.f6) = some (appL false a.f6) := by unfold task_Apply.f; rw [if_pos (by omega), appL_twice]
    unfold incipitlaw16_TaskOnce.f
    rw [awake16b _ (by omega), Option.bind_some, e1, Option.bind_some, if_pos rfl, ap1, Option.bind_some, e2, Option.bind_some, e3, Option.bind_some, if_neg (by simp only; omega), if_neg (by simp only; omega)]
    have hd : decide (wrap64 (((chkL (appL false a.f6) : Nat) : Int) - ((chkL a.f6 : Nat) : Int)) > wrap64 (((allL (appL false a.f6) : Nat) : Int) - ((allL a.f6 : Nat) : Int))) = false := by
      have := all_cntL a.f6
      have := all_cntL (appL false a.f6)
      rw [wr64 (by omega) (by omega), wr64 (by omega) (by omega)]
      exact decide_eq_false (by omega)
    simp only [hd]
    simp only [incipitlaw16_TaskOnce.j0]
    have es : incipitref06_SameAll.f (K1 + K2 + K3 + K4 + K5 + K6 + 20) (appL false a.f6) (appL false a.f6) = some true := by
      unfold incipitref06_SameAll.f
      rw [e4, sameT_refl]
      rfl
    rw [if_neg (by decide), if_pos trivial, ap2, Option.bind_some, es, Option.bind_some, if_pos rfl, e5, Option.bind_some, e6, Option.bind_some]
    have := all_cntL a.f6
    have := all_cntL (appL false a.f6)
    have t1 := cntT_eq ⟨0, ⟨#[]⟩, ⟨#[]⟩, 0, 0, false, appL false a.f6⟩
    have t2 := cntT_eq ⟨0, ⟨#[]⟩, ⟨#[]⟩, 0, 0, false, a.f6⟩
    simp only at t1 t2
    rw [wr64 (a := ((cntT ⟨0, ⟨#[]⟩, ⟨#[]⟩, 0, 0, false, a.f6⟩ : Nat) : Int) + _) (by omega) (by omega), wr64 (by omega) (by omega)]
    congr 1
    rw [beq_iff_eq]
    omega
end Go.Proofs.Ytikfbipjlkhgeaa.P
