/- What task.Apply's nodes are, plainly. -/
import Derived.Test.YtikfbipjlkhgeaaBoxed
namespace Go.Proofs.Ytikfbipjlkhgeaa.P
open Go.RowKit Go.Proofs.YtikfbipjlkhgeaaW.PrintWords Go.Proofs.YtikfbipjlkhgeaaW.PrintLast Go.Proofs.YtikfbipjlkhgeaaW.PrintMore
set_option linter.unusedVariables false
set_option linter.unusedSimpArgs false
mutual
def appT (it : Bool) : S24 → S24
  | ⟨a, b, c, d, e, f, l⟩ => ⟨a, b, c, d, e, f, if it = true ∧ a = 7 then boxL (appL false l) else appL (a == 4) l⟩
def appL (it : Bool) : List S24 → List S24
  | [] => []
  | x :: r => appT it x :: appL false r
end
mutual
def dpT : S24 → Nat
  | ⟨_, _, _, _, _, _, l⟩ => dpL l + 1
def dpL : List S24 → Nat
  | [] => 0
  | x :: r => max (dpT x) (dpL r)
end
mutual
def cnT : S24 → Nat
  | ⟨_, _, _, _, _, _, l⟩ => cnL l + 1
def cnL : List S24 → Nat
  | [] => 0
  | x :: r => cnT x + cnL r
end
theorem appT_eq (it : Bool) (x : S24) : appT it x = ⟨x.f0, x.f1, x.f2, x.f3, x.f4, x.f5, if it = true ∧ x.f0 = 7 then boxL (appL false x.f6) else appL (x.f0 == 4) x.f6⟩ := by
  obtain ⟨a, b, c, d, e, f, l⟩ := x
  exact appT.eq_1 it a b c d e f l
theorem dpT_eq (x : S24) : dpT x = dpL x.f6 + 1 := by obtain ⟨a, b, c, d, e, f, l⟩ := x; exact dpT.eq_1 a b c d e f l
theorem cnT_eq (x : S24) : cnT x = cnL x.f6 + 1 := by obtain ⟨a, b, c, d, e, f, l⟩ := x; exact cnT.eq_1 a b c d e f l
theorem app_box (l : List S24) : appL false (boxL l) = boxL (appL false l) := by
  cases l with
  | nil => rfl
  | cons t r =>
    rw [boxL.eq_2, appL.eq_2, boxL.eq_2, appT_eq]
    by_cases h : t.f0 = 14 ∧ (markP t.f1).2 ≠ 0
    · rw [if_pos h, if_pos h, appL.eq_2, appL.eq_2, appT_eq, appT_eq]
      simp [h.1, appL]
    · rw [if_neg h, if_neg h, appL.eq_2, appT_eq]
theorem appT_f6 (it : Bool) (x : S24) : (appT it x).f6 = appL (x.f0 == 4) (if it = true ∧ x.f0 = 7 then boxL x.f6 else x.f6) := by
  rw [appT_eq]
  by_cases h : it = true ∧ x.f0 = 7
  · rw [if_pos h, if_pos h, h.2, show ((7 : Int) == 4) = false from rfl, app_box]
  · rw [if_neg h, if_neg h]
theorem appL_length (it : Bool) (l : List S24) : (appL it l).length = l.length := by
  induction l generalizing it with
  | nil => rfl
  | cons x r ih => rw [appL.eq_2, List.length_cons, ih, List.length_cons]
theorem appL_at (it : Bool) (l : List S24) (i : Nat) (hi : i < l.length) : rd_T24 (appL it l) (i : Int) = appT (it && i == 0) (rd_T24 l (i : Int)) := by
  induction l generalizing it i with
  | nil => simp at hi
  | cons x r ih =>
    rw [appL.eq_2]
    cases i with
    | zero => simp; rfl
    | succ i =>
      have := ih false i (by simpa using hi)
      rw [Bool.false_and] at this
      rw [show (it && (i + 1 == 0)) = false by simp]
      exact this
theorem dpL_in {l : List S24} {i : Nat} (hi : i < l.length) : dpL (rd_T24 l (i : Int)).f6 + 1 ≤ dpL l := by
  induction l generalizing i with
  | nil => simp at hi
  | cons x r ih =>
    rw [dpL.eq_2]
    cases i with
    | zero =>
      have := dpT_eq x
      show dpL x.f6 + 1 ≤ _
      omega
    | succ i =>
      have := ih (i := i) (by simpa using hi)
      show dpL (rd_T24 r (i : Int)).f6 + 1 ≤ _
      omega
theorem cnL_in {l : List S24} {i : Nat} (hi : i < l.length) : cnL (rd_T24 l (i : Int)).f6 + 1 ≤ cnL l := by
  induction l generalizing i with
  | nil => simp at hi
  | cons x r ih =>
    rw [cnL.eq_2]
    cases i with
    | zero =>
      have := cnT_eq x
      show cnL x.f6 + 1 ≤ _
      omega
    | succ i =>
      have := ih (i := i) (by simpa using hi)
      show cnL (rd_T24 r (i : Int)).f6 + 1 ≤ _
      omega
theorem len_cnL (l : List S24) : l.length ≤ cnL l := by
  induction l with
  | nil => simp
  | cons x r ih =>
    have := cnT_eq x
    rw [cnL.eq_2, List.length_cons]
    omega
theorem dpL_box (l : List S24) : dpL (boxL l) ≤ dpL l := by
  cases l with
  | nil => exact Nat.le_refl _
  | cons t r =>
    rw [boxL.eq_2]
    split
    · rw [dpL.eq_2, dpL.eq_2, dpL.eq_2, dpT_eq, dpT_eq, dpT_eq]
      simp only [dpL.eq_1]
      omega
    · exact Nat.le_refl _
theorem cnL_box (l : List S24) : cnL (boxL l) ≤ cnL l + 1 := by
  cases l with
  | nil => simp [boxL]
  | cons t r =>
    rw [boxL.eq_2]
    split
    · rw [cnL.eq_2, cnL.eq_2, cnL.eq_2, cnT_eq, cnT_eq, cnT_eq]
      simp only [cnL.eq_1]
      omega
    · omega
end Go.Proofs.Ytikfbipjlkhgeaa.P
