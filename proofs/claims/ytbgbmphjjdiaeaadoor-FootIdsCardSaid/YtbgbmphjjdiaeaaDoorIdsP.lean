/- Notes' ids: no two are one. -/
import Derived.Test.YtbgbmphjjdiaeaaDoorFootS
namespace Go.Proofs.YtbgbmphjjdiaeaaDoor.P
open Go Go.RowKit Go.Proofs.YtbgbmphjjdiaeaaDoorW.PrintWords Go.Proofs.YtbgbmphjjdiaeaaDoorW.PrintLast Go.Proofs.YtbgbmphjjdiaeaaDoorW.PrintMore
set_option linter.unusedVariables false
theorem dig_ne (u : Nat) : Lib.decDigits u ≠ [] := by
  rw [Lib.decDigits]
  split <;> simp
theorem dig_inj : ∀ (n u v : Nat), u ≤ n → Lib.decDigits u = Lib.decDigits v → u = v := by
  intro n
  induction n with
  | zero =>
    intro u v hu h
    obtain rfl : u = 0 := by omega
    rw [Lib.decDigits, dif_pos (by omega), Lib.decDigits] at h
    split at h
    · injection h with h _
      have := congrArg UInt8.toNat h
      simp at this
      omega
    · rw [← List.nil_append [UInt8.ofNat (48 + 0)]] at h
      have := (List.append_inj' h rfl).1
      exact absurd this.symm (dig_ne _)
  | succ n ih =>
    intro u v hu h
    by_cases h1 : u < 10
    · rw [Lib.decDigits, dif_pos h1, Lib.decDigits] at h
      split at h
      · injection h with h _
        have := congrArg UInt8.toNat h
        simp at this
        omega
      · rw [← List.nil_append [UInt8.ofNat (48 + u)]] at h
        have := (List.append_inj' h rfl).1
        exact absurd this.symm (dig_ne _)
    · rw [Lib.decDigits, dif_neg h1] at h
      by_cases h2 : v < 10
      · rw [show Lib.decDigits v = [UInt8.ofNat (48 + v)] by rw [Lib.decDigits, dif_pos h2], ← List.nil_append [UInt8.ofNat (48 + v)]] at h
        have := (List.append_inj' h rfl).1
        exact absurd this (dig_ne _)
      · rw [show Lib.decDigits v = Lib.decDigits (v / 10) ++ [UInt8.ofNat (48 + v % 10)] by rw [Lib.decDigits, dif_neg h2]] at h
        obtain ⟨h3, h4⟩ := List.append_inj' h rfl
        have := ih (u / 10) (v / 10) (by omega) h3
        injection h4 with h4 _
        have := congrArg UInt8.toNat h4
        simp at this
        omega
theorem dig_no45 : ∀ (n u : Nat), u ≤ n → ∀ c ∈ Lib.decDigits u, c ≠ 45 := by
  have hd : ∀ q : Nat, q < 10 → UInt8.ofNat (48 + q) ≠ 45 := fun q hq e => by
    have := congrArg UInt8.toNat e
    simp at this
    omega
  intro n
  induction n with
  | zero =>
    intro u hu c hc
    rw [Lib.decDigits, dif_pos (by omega)] at hc
    rw [List.mem_singleton.1 hc]
    exact hd u (by omega)
  | succ n ih =>
    intro u hu c hc
    by_cases h1 : u < 10
    · rw [Lib.decDigits, dif_pos h1] at hc
      rw [List.mem_singleton.1 hc]
      exact hd u h1
    · rw [Lib.decDigits, dif_neg h1] at hc
      rcases List.mem_append.1 hc with hc | hc
      · exact ih (u / 10) (by omega) c hc
      · rw [List.mem_singleton.1 hc]
        exact hd (u % 10) (by omega)
theorem split45 : ∀ (A B X Y : List UInt8), (∀ c ∈ A, c ≠ 45) → (∀ c ∈ B, c ≠ 45) → (X = [] ∨ ∃ X', X = 45 :: X') → (Y = [] ∨ ∃ Y', Y = 45 :: Y') → A ++ X = B ++ Y → A = B ∧ X = Y
  | [], [], X, Y, _, _, _, _, h => ⟨rfl, h⟩
  | [], b :: B, X, Y, _, hB, hX, _, h => by
    rcases hX with rfl | ⟨X', rfl⟩
    · cases h
    · injection h with h _
      exact absurd h.symm (hB b (List.mem_cons_self ..))
  | a :: A, [], X, Y, hA, _, _, hY, h => by
    rcases hY with rfl | ⟨Y', rfl⟩
    · cases h
    · injection h with h _
      exact absurd h (hA a (List.mem_cons_self ..))
  | a :: A, b :: B, X, Y, hA, hB, hX, hY, h => by
    injection h with h1 h2
    obtain ⟨h3, h4⟩ := split45 A B X Y (fun c hc => hA c (List.mem_cons_of_mem _ hc)) (fun c hc => hB c (List.mem_cons_of_mem _ hc)) hX hY h2
    exact ⟨by rw [h1, h3], h4⟩
def tailR (x : Nat) : List UInt8 := if x > 1 then 45 :: Lib.decDigits x else []
theorem tailR_or (x : Nat) : tailR x = [] ∨ ∃ X', tailR x = 45 :: X' := by
  unfold tailR
  split
  · exact .inr ⟨_, rfl⟩
  · exact .inl rfl
theorem idN_list (w : Nat) (h : 1 ≤ w) : (idN (w : Int)).toList = [102, 110, 45] ++ Lib.decDigits w := by
  rw [ByteArray.toList_eq]
  unfold idN itoaB txt
  rw [show mx (w : Int) 1 = (w : Int) from by unfold mx; split <;> omega, Lib.itoa_nonneg]
  simp
theorem idR_list (w x : Nat) (h : 1 ≤ w) : (idR (w : Int) (x : Int)).toList = [102, 110, 114, 101, 102, 45] ++ (Lib.decDigits w ++ tailR x) := by
  rw [ByteArray.toList_eq]
  unfold idR itoaB txt tailR
  rw [show mx (w : Int) 1 = (w : Int) from by unfold mx; split <;> omega, Lib.itoa_nonneg, Lib.itoa_nonneg]
  by_cases hx : x > 1
  · rw [if_pos (by omega), if_pos hx]
    simp
  · rw [if_neg (by omega), if_neg hx]
    simp
theorem idN_eq (w y : Nat) (hw : 1 ≤ w) (hy : 1 ≤ y) : (idN (w : Int)).toList = (idN (y : Int)).toList ↔ w = y := by
  rw [idN_list w hw, idN_list y hy]
  constructor
  · intro h
    exact dig_inj w w y (Nat.le_refl _) (List.append_cancel_left h)
  · intro h; rw [h]
theorem idR_eq (w x y z : Nat) (hw : 1 ≤ w) (hx : 1 ≤ x) (hy : 1 ≤ y) (hz : 1 ≤ z) : (idR (w : Int) (x : Int)).toList = (idR (y : Int) (z : Int)).toList ↔ w = y ∧ x = z := by
  rw [idR_list w x hw, idR_list y z hy]
  constructor
  · intro h
    obtain ⟨h1, h2⟩ := split45 _ _ _ _ (dig_no45 w w (Nat.le_refl _)) (dig_no45 y y (Nat.le_refl _)) (tailR_or x) (tailR_or z) (List.append_cancel_left h)
    refine ⟨dig_inj w w y (Nat.le_refl _) h1, ?_⟩
    unfold tailR at h2
    split at h2
    · split at h2
      · injection h2 with _ h2
        exact dig_inj x x z (Nat.le_refl _) h2
      · cases h2
    · split at h2
      · cases h2
      · omega
  · rintro ⟨rfl, rfl⟩; rfl
theorem idNR_ne (w x y : Nat) (hw : 1 ≤ w) (hy : 1 ≤ y) : (idN (w : Int)).toList ≠ (idR (y : Int) (x : Int)).toList := by
  rw [idN_list w hw, idR_list y x hy]
  intro h
  injection h with _ h
  injection h with _ h
  injection h with h _
  cases h
end Go.Proofs.YtbgbmphjjdiaeaaDoor.P
