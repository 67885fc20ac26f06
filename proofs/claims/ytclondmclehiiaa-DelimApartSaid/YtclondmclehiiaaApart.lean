/- DelimApart: runs of two letters behind one another: the search tells the first ones' pairs, then the second ones', each moved by the first ones' number. -/
import Derived.Test.YtclondmclehiiaaEvN
namespace Go.Proofs.Ytclondmclehiiaa.P
open Go.RowKit Go.Proofs.YtclondmclehiiaaW.PrintWords Go.Proofs.YtclondmclehiiaaW.PrintLast Go.Proofs.YtclondmclehiiaaW.PrintMore
set_option linter.unusedVariables false
set_option linter.unusedSimpArgs false

theorem rd28_left (X Y : List S28) (j : Nat) (h : j < X.length) : rd_T28 (X ++ Y) (j : Int) = rd_T28 X (j : Int) := by
  show (X ++ Y).getD j z28 = X.getD j z28
  rw [List.getD_eq_getElem?_getD, List.getElem?_append_left h, List.getD_eq_getElem?_getD]
theorem rd28_right (X Y : List S28) (j : Nat) : rd_T28 (X ++ Y) ((X.length + j : Nat) : Int) = rd_T28 Y (j : Int) := by
  show (X ++ Y).getD (X.length + j) z28 = Y.getD j z28
  rw [List.getD_eq_getElem?_getD, List.getElem?_append_right (by omega), List.getD_eq_getElem?_getD]
  congr 2
  omega
theorem fit_congr {l l' : List S28} {left left' : Nat → Int} {j k j' k' : Nat} (h1 : rd_T28 l (j : Int) = rd_T28 l' (j' : Int)) (h2 : rd_T28 l (k : Int) = rd_T28 l' (k' : Int)) (h3 : left j = left' j') (h4 : left k = left' k') :
    fitN l left j k = fitN l' left' j' k' := by unfold fitN; rw [h1, h2, h3, h4]
theorem size_congr {l l' : List S28} {left left' : Nat → Int} {j k j' k' : Nat} (h2 : rd_T28 l (k : Int) = rd_T28 l' (k' : Int)) (h3 : left j = left' j') (h4 : left k = left' k') :
    sizeN l left j k = sizeN l' left' j' k' := by unfold sizeN; rw [h2, h3, h4]

theorem find_left (X Y : List S28) (left : Nat → Int) (k : Nat) (hk : k < X.length) : ∀ d, d ≤ k → findN (X ++ Y) left k d = findN X left k d
  | 0, _ => rfl
  | d + 1, h => by
    unfold findN
    rw [fit_congr (l' := X) (left' := left) (rd28_left X Y d (by omega)) (rd28_left X Y k hk) rfl rfl, find_left X Y left k hk d (by omega)]
theorem find_lower {X Y : List S28} {left : Nat → Int} {k : Nat} (hno : ∀ j, j < X.length → fitN (X ++ Y) left j k = false) : ∀ d, d ≤ X.length → findN (X ++ Y) left k d = none
  | 0, _ => rfl
  | d + 1, h => by
    unfold findN
    rw [hno d (by omega), if_neg (by decide)]
    exact find_lower hno d (by omega)
theorem find_right {X Y : List S28} {left leftY : Nat → Int} {k : Nat} (hl : ∀ i, i ≤ k → left (X.length + i) = leftY i) (hno : ∀ j, j < X.length → fitN (X ++ Y) left j (X.length + k) = false) :
    ∀ d, d ≤ k → findN (X ++ Y) left (X.length + k) (X.length + d) = (findN Y leftY k d).map (X.length + ·)
  | 0, _ => by rw [Nat.add_zero, find_lower hno _ (Nat.le_refl _)]; rfl
  | d + 1, h => by
    have e := fit_congr (l := X ++ Y) (l' := Y) (left := left) (left' := leftY) (rd28_right X Y d) (rd28_right X Y k) (hl d (by omega)) (hl k (Nat.le_refl _))
    rw [show X.length + (d + 1) = (X.length + d) + 1 from rfl]
    unfold findN
    rw [e, find_right hl hno d (by omega)]
    by_cases hf : fitN Y leftY d k = true
    · rw [if_pos hf, if_pos hf]; rfl
    · rw [if_neg hf, if_neg hf]

def sh (n : Nat) (x : S40) : S40 := ⟨x.f0 + n, x.f1 + n, x.f2⟩

theorem naive_right (X Y : List S28) (hno : ∀ left j k, j < X.length → k < Y.length → fitN (X ++ Y) left j (X.length + k) = false) :
    ∀ (N k : Nat) (left leftY : Nat → Int) (base outY : List S40), (∀ i, i < Y.length → left (X.length + i) = leftY i) →
      naive (X ++ Y) N (X.length + k) left (base ++ outY.map (sh X.length)) = base ++ (naive Y N k leftY outY).map (sh X.length)
  | 0, _, _, _, _, _, _ => rfl
  | N + 1, k, left, leftY, base, outY, hl => by
    simp only [naive]
    by_cases hk : k < Y.length
    · rw [if_pos (by rw [List.length_append]; omega), if_pos hk, rd28_right, hl k hk]
      have e1 : X.length + k + 1 = X.length + (k + 1) := rfl
      by_cases hs : (rd_T28 Y (k : Int)).f3 = false ∨ leftY k = 0
      · rw [if_pos hs, if_pos hs, e1]
        exact naive_right X Y hno N (k + 1) left leftY base outY hl
      · rw [if_neg hs, if_neg hs, find_right (leftY := leftY) (fun i hi => hl i (by omega)) (fun j hj => hno left j k hj hk) k (Nat.le_refl _)]
        cases hf : findN Y leftY k k with
        | none =>
          simp only [Option.map_none]
          rw [e1]
          refine naive_right X Y hno N (k + 1) _ _ base outY fun i hi => ?_
          by_cases h2 : (rd_T28 Y (k : Int)).f2 = true
          · rw [if_pos h2, if_pos h2]; exact hl i hi
          · rw [if_neg h2, if_neg h2]
            show (if X.length + i = X.length + k then 0 else left (X.length + i)) = if i = k then 0 else leftY i
            by_cases h : i = k
            · rw [if_pos h, if_pos (by omega)]
            · rw [if_neg h, if_neg (by omega), hl i hi]
        | some j =>
          obtain ⟨hj, _, _⟩ := find_some hf
          simp only [Option.map_some]
          have es : sizeN (X ++ Y) left (X.length + j) (X.length + k) = sizeN Y leftY j k := size_congr (rd28_right X Y k) (hl j (by omega)) (hl k hk)
          rw [es]
          have := naive_right X Y hno N k (afterN left (X.length + j) (X.length + k) (sizeN Y leftY j k)) (afterN leftY j k (sizeN Y leftY j k)) base (outY ++ [⟨j, k, sizeN Y leftY j k⟩]) fun i hi => by
            unfold afterN
            rw [hl j (by omega), hl k hk, hl i hi]
            by_cases h1 : i = j
            · rw [if_pos h1, if_pos (by omega)]
            · rw [if_neg h1, if_neg (by omega)]
              by_cases h2 : i = k
              · rw [if_pos h2, if_pos (by omega)]
              · rw [if_neg h2, if_neg (by omega)]
                by_cases h3 : j < i ∧ i < k
                · rw [if_pos h3, if_pos (by omega)]
                · rw [if_neg h3, if_neg (by omega)]
          rw [← this, List.map_append, ← List.append_assoc]
          congr 2
          show _ = [sh X.length ⟨j, k, sizeN Y leftY j k⟩]
          unfold sh
          simp only [List.cons.injEq, S40.mk.injEq, and_true]
          omega
    · rw [if_neg (by rw [List.length_append]; omega), if_neg hk]

theorem naive_left (X Y : List S28) : ∀ (N k : Nat) (left : Nat → Int) (out : List S40) (F : Nat), k ≤ X.length → (∀ i, i < X.length → 0 ≤ left i) → (X.length : Int) - k + total X.length left < N →
    ∃ (F' : Nat) (left1 : Nat → Int), 1 ≤ F' ∧ (∀ i, X.length ≤ i → left1 i = left i) ∧ naive (X ++ Y) (F + N) k left out = naive (X ++ Y) (F + F') X.length left1 (naive X N k left out) := by
  intro N
  induction N with
  | zero =>
    intro k left out F hk h0 hN
    have := total_nonneg h0
    omega
  | succ N ih =>
    intro k left out F hk h0 hN
    have ht := total_nonneg h0
    rw [show F + (N + 1) = (F + N) + 1 from rfl]
    by_cases hlt : k < X.length
    · simp only [naive]
      rw [if_pos (by rw [List.length_append]; omega), if_pos hlt, rd28_left X Y k hlt, find_left X Y left k hlt k (Nat.le_refl _)]
      by_cases hs : (rd_T28 X (k : Int)).f3 = false ∨ left k = 0
      · rw [if_pos hs, if_pos hs]
        exact ih (k + 1) left out F (by omega) h0 (by omega)
      · rw [if_neg hs, if_neg hs]
        have h1 : 1 ≤ left k := by
          have := h0 k hlt
          have : left k ≠ 0 := fun h => hs (.inr h)
          omega
        cases hf : findN X left k k with
        | none =>
          simp only
          by_cases h2 : (rd_T28 X (k : Int)).f2 = true
          · rw [if_pos h2]; exact ih (k + 1) left out F (by omega) h0 (by omega)
          · rw [if_neg h2]
            have hle : total X.length (fun p => if p = k then 0 else left p) ≤ total X.length left := total_le fun p hp => by
              have := h0 p hp
              show (if p = k then 0 else left p) ≤ left p
              split <;> omega
            obtain ⟨F', left1, hF, hl, he⟩ := ih (k + 1) (fun p => if p = k then 0 else left p) out F (by omega) (fun p hp => by
              have := h0 p hp
              show 0 ≤ (if p = k then 0 else left p)
              split <;> omega) (by omega)
            refine ⟨F', left1, hF, fun i hi => ?_, he⟩
            rw [hl i hi]
            show (if i = k then 0 else left i) = left i
            rw [if_neg (by omega)]
        | some j =>
          simp only
          obtain ⟨hj, hfit, _⟩ := find_some hf
          have hz := size_ok hfit h1
          rw [size_congr (l := X ++ Y) (l' := X) (left := left) (left' := left) (j := j) (j' := j) (rd28_left X Y k hlt) rfl rfl]
          have hlt2 : total X.length (afterN left j k (sizeN X left j k)) < total X.length left := total_lt (j := k) (fun p hp => by
              have := h0 p hp
              unfold afterN
              split
              · rename_i h; subst h; omega
              · split
                · rename_i h; subst h; omega
                · split <;> omega) hlt (by
              unfold afterN
              rw [if_neg (by omega), if_pos rfl]; omega)
          obtain ⟨F', left1, hF, hl, he⟩ := ih k (afterN left j k (sizeN X left j k)) (out ++ [⟨j, k, sizeN X left j k⟩]) F hk (fun p hp => by
            have := h0 p hp
            unfold afterN
            split
            · omega
            · split
              · omega
              · split <;> omega) (by omega)
          refine ⟨F', left1, hF, fun i hi => ?_, he⟩
          rw [hl i hi]
          unfold afterN
          rw [if_neg (by omega), if_neg (by omega), if_neg (by omega)]
    · have hkn : k = X.length := by omega
      subst hkn
      refine ⟨N + 1, left, by omega, fun _ _ => rfl, ?_⟩
      have : naive X (N + 1) X.length left out = out := by
        simp only [naive]
        rw [if_neg (by omega)]
      rw [this]
      rfl

theorem naive_fuel (l : List S28) : ∀ (N N2 k : Nat) (left : Nat → Int) (out : List S40), k ≤ l.length → (∀ i, i < l.length → 0 ≤ left i) → (l.length : Int) - k + total l.length left < N → (l.length : Int) - k + total l.length left < N2 →
    naive l N k left out = naive l N2 k left out := by
  intro N
  induction N with
  | zero => intro N2 k left out hk h0 hN; have := total_nonneg h0; omega
  | succ N ih =>
    intro N2 k left out hk h0 hN hN2
    have ht := total_nonneg h0
    obtain ⟨N2, rfl⟩ : ∃ q, N2 = q + 1 := ⟨N2 - 1, by omega⟩
    simp only [naive]
    by_cases hlt : k < l.length
    · rw [if_pos hlt, if_pos hlt]
      by_cases hs : (rd_T28 l (k : Int)).f3 = false ∨ left k = 0
      · rw [if_pos hs, if_pos hs]
        exact ih N2 (k + 1) left out (by omega) h0 (by omega) (by omega)
      · rw [if_neg hs, if_neg hs]
        have h1 : 1 ≤ left k := by
          have := h0 k hlt
          have : left k ≠ 0 := fun h => hs (.inr h)
          omega
        cases hf : findN l left k k with
        | none =>
          simp only
          by_cases h2 : (rd_T28 l (k : Int)).f2 = true
          · rw [if_pos h2]; exact ih N2 (k + 1) left out (by omega) h0 (by omega) (by omega)
          · rw [if_neg h2]
            have hle : total l.length (fun p => if p = k then 0 else left p) ≤ total l.length left := total_le fun p hp => by
              have := h0 p hp
              show (if p = k then 0 else left p) ≤ left p
              split <;> omega
            exact ih N2 (k + 1) (fun p => if p = k then 0 else left p) out (by omega) (fun p hp => by
              have := h0 p hp
              show 0 ≤ (if p = k then 0 else left p)
              split <;> omega) (by omega) (by omega)
        | some j =>
          simp only
          obtain ⟨hj, hfit, _⟩ := find_some hf
          have hz := size_ok hfit h1
          have hlt2 : total l.length (afterN left j k (sizeN l left j k)) < total l.length left := total_lt (j := k) (fun p hp => by
              have := h0 p hp
              unfold afterN
              split
              · rename_i h; subst h; omega
              · split
                · rename_i h; subst h; omega
                · split <;> omega) hlt (by
              unfold afterN
              rw [if_neg (by omega), if_pos rfl]; omega)
          exact ih N2 k (afterN left j k (sizeN l left j k)) (out ++ [⟨j, k, sizeN l left j k⟩]) hk (fun p hp => by
            have := h0 p hp
            unfold afterN
            split
            · omega
            · split
              · omega
              · split <;> omega) (by omega) (by omega)
    · rw [if_neg hlt, if_neg hlt]

theorem total_append (X Y : List S28) : ∀ m, m ≤ Y.length → total (X.length + m) (leftN (X ++ Y)) = total X.length (leftN X) + total m (leftN Y)
  | 0, _ => by
    have hg : ∀ n, n ≤ X.length → total n (leftN (X ++ Y)) = total n (leftN X) := by
      intro n
      induction n with
      | zero => intro _; rfl
      | succ n ih =>
        intro hn
        rw [total_succ, total_succ, ih (by omega)]
        unfold leftN
        rw [rd28_left X Y n (by omega)]
    rw [Nat.add_zero, hg _ (Nat.le_refl _)]
    simp [total]
  | m + 1, h => by
    rw [← Nat.add_assoc, total_succ, total_append X Y m (by omega), total_succ]
    have : leftN (X ++ Y) (X.length + m) = leftN Y m := by
      unfold leftN
      rw [rd28_right]
    omega

theorem matchN_append (X Y : List S28) (hno : ∀ left j k, j < X.length → k < Y.length → fitN (X ++ Y) left j (X.length + k) = false) :
    matchN (X ++ Y) = matchN X ++ (matchN Y).map (sh X.length) := by
  have hX := total_nonneg (n := X.length) (left := leftN X) (fun i _ => (m_left_le _).1)
  have hY := total_nonneg (n := Y.length) (left := leftN Y) (fun i _ => (m_left_le _).1)
  have ht := total_append X Y Y.length (Nat.le_refl _)
  have hagree : ∀ n, n ≤ X.length → total n (leftN (X ++ Y)) = total n (leftN X) := by
    intro n
    induction n with
    | zero => intro _; rfl
    | succ n ih =>
      intro hn
      rw [total_succ, total_succ, ih (by omega)]
      unfold leftN
      rw [rd28_left X Y n (by omega)]
  obtain ⟨F', left1, hF, hl, he⟩ := naive_left X Y (X.length + (total X.length (leftN X)).toNat + 1) 0 (leftN (X ++ Y)) [] (Y.length + (total Y.length (leftN Y)).toNat) (by omega) (fun i _ => (m_left_le _).1) (by rw [hagree _ (Nat.le_refl _)]; omega)
  have e0 : naive X (X.length + (total X.length (leftN X)).toNat + 1) 0 (leftN (X ++ Y)) [] = matchN X := by
    have hc : ∀ N k left left' out, (∀ i, i < X.length → left i = left' i) → naive X N k left out = naive X N k left' out := by
      intro N
      induction N with
      | zero => intros; rfl
      | succ N ih =>
        intro k left left' out h
        have hfind : k < X.length → ∀ d, d ≤ k → findN X left k d = findN X left' k d := by
          intro hk d
          induction d with
          | zero => intro _; rfl
          | succ d ihd =>
            intro hd
            unfold findN
            rw [fit_congr (l' := X) (left' := left') (j' := d) (k' := k) rfl rfl (h d (by omega)) (h k hk), ihd (by omega)]
        simp only [naive]
        by_cases hk : k < X.length
        · rw [if_pos hk, if_pos hk, h k hk, hfind hk k (Nat.le_refl _)]
          by_cases hs : (rd_T28 X (k : Int)).f3 = false ∨ left' k = 0
          · rw [if_pos hs, if_pos hs]; exact ih _ _ _ _ h
          · rw [if_neg hs, if_neg hs]
            cases hf : findN X left' k k with
            | none =>
              simp only
              refine ih _ _ _ _ fun i hi => ?_
              split
              · exact h i hi
              · show (if i = k then 0 else left i) = if i = k then 0 else left' i
                rw [h i hi]
            | some j =>
              obtain ⟨hj, _, _⟩ := find_some hf
              simp only
              rw [size_congr (l' := X) (left' := left') (j := j) (j' := j) (k' := k) rfl (h j (by omega)) (h k hk)]
              refine ih _ _ _ _ fun i hi => ?_
              unfold afterN
              rw [h j (by omega), h k hk, h i hi]
        · rw [if_neg hk, if_neg hk]
    exact hc _ _ _ _ _ fun i hi => by unfold leftN; rw [rd28_left X Y i hi]
  have h1 : matchN (X ++ Y) = naive (X ++ Y) ((Y.length + (total Y.length (leftN Y)).toNat) + (X.length + (total X.length (leftN X)).toNat + 1)) 0 (leftN (X ++ Y)) [] := by
    unfold matchN
    congr 1
    rw [List.length_append, ht]
    omega
  rw [h1, he, e0]
  have h2 := naive_right X Y hno ((Y.length + (total Y.length (leftN Y)).toNat) + F') 0 left1 (leftN Y) (matchN X) [] (fun i hi => by
    rw [hl _ (by omega)]
    unfold leftN
    rw [rd28_right])
  simp only [List.map_nil, List.append_nil, Nat.add_zero] at h2
  rw [h2]
  congr 2
  exact naive_fuel Y _ _ 0 (leftN Y) [] (by omega) (fun i _ => (m_left_le _).1) (by omega) (by omega)
end Go.Proofs.Ytclondmclehiiaa.P
