/- Texts as lists of characters: without capitals, labels; plain, no program in sight. -/
import Derived.Test.YtbgbmphjjdiaeaaDoorChars2
namespace Go.Proofs.YtbgbmphjjdiaeaaDoor.T
open Go Go.Lib
set_option linter.unusedVariables false
def foldR (r : Nat) : List Nat :=
  if r = 223 ∨ r = 7838 then [115, 115] else if r = 962 then [963]
  else if (65 ≤ r ∧ r ≤ 90) ∨ (192 ≤ r ∧ r ≤ 222 ∧ r ≠ 215) ∨ (913 ≤ r ∧ r ≤ 939 ∧ r ≠ 930) ∨ (1040 ≤ r ∧ r ≤ 1071) then [r + 32]
  else if 1024 ≤ r ∧ r ≤ 1039 then [r + 80] else [r]
def foldL (l : List Nat) : List Nat := l.flatMap foldR
def foldS (l : List UInt8) : List UInt8 := encs (foldL (runes l))
def labelS (l : List UInt8) : List UInt8 := encs (foldL (squeeze (runes l)))
theorem foldR_cases (r : Nat) : (foldR r = [115, 115] ∧ (r = 223 ∨ r = 7838)) ∨ ∃ x, foldR r = [x] ∧ (x = r ∨ (x = 963 ∧ r = 962) ∨ (x = r + 32 ∧ ((65 ≤ r ∧ r ≤ 90) ∨ (192 ≤ r ∧ r ≤ 222 ∧ r ≠ 215) ∨ (913 ≤ r ∧ r ≤ 939 ∧ r ≠ 930) ∨ (1040 ≤ r ∧ r ≤ 1071))) ∨ (x = r + 80 ∧ 1024 ≤ r ∧ r ≤ 1039)) ∧
    ¬ (x = 223 ∨ x = 7838 ∨ x = 962 ∨ (65 ≤ x ∧ x ≤ 90) ∨ (192 ≤ x ∧ x ≤ 222 ∧ x ≠ 215) ∨ (913 ≤ x ∧ x ≤ 939 ∧ x ≠ 930) ∨ (1040 ≤ x ∧ x ≤ 1071) ∨ (1024 ≤ x ∧ x ≤ 1039)) := by
  unfold foldR
  split
  · exact .inl ⟨rfl, by assumption⟩
  · right
    split
    · exact ⟨_, rfl, by omega, by omega⟩
    · split
      · exact ⟨_, rfl, by omega, by omega⟩
      · split
        · exact ⟨_, rfl, by omega, by omega⟩
        · exact ⟨_, rfl, by omega, by omega⟩
theorem foldR_self {x : Nat} (h : ¬ (x = 223 ∨ x = 7838 ∨ x = 962 ∨ (65 ≤ x ∧ x ≤ 90) ∨ (192 ≤ x ∧ x ≤ 222 ∧ x ≠ 215) ∨ (913 ≤ x ∧ x ≤ 939 ∧ x ≠ 930) ∨ (1040 ≤ x ∧ x ≤ 1071) ∨ (1024 ≤ x ∧ x ≤ 1039))) : foldR x = [x] := by
  unfold foldR
  rw [if_neg (by omega), if_neg (by omega), if_neg (by omega), if_neg (by omega)]
theorem foldR_good {r : Nat} (h : good r) : ∀ x ∈ foldR r, good x := by
  intro x hx
  rcases foldR_cases r with ⟨e, _⟩ | ⟨y, e, hy, _⟩
  · rw [e] at hx
    simp at hx
    rw [hx]
    exact ⟨.inl (by omega), by omega⟩
  · rw [e] at hx
    simp at hx
    rw [hx]
    obtain ⟨h1, h2⟩ := h
    unfold okR at h1
    exact ⟨by unfold okR; omega, by omega⟩
theorem foldR_twice (r : Nat) : foldL (foldR r) = foldR r := by
  unfold foldL
  rcases foldR_cases r with ⟨e, _⟩ | ⟨y, e, _, hy⟩
  · rw [e]; rfl
  · rw [e, List.flatMap_cons, foldR_self hy]; rfl
theorem foldL_append (a b : List Nat) : foldL (a ++ b) = foldL a ++ foldL b := by unfold foldL; simp
theorem foldL_cons (r : Nat) (l : List Nat) : foldL (r :: l) = foldR r ++ foldL l := rfl
theorem foldL_twice (l : List Nat) : foldL (foldL l) = foldL l := by
  induction l with
  | nil => rfl
  | cons r l ih => rw [foldL_cons, foldL_append, foldR_twice, ih]
theorem foldL_good {l : List Nat} (h : ∀ r ∈ l, good r) : ∀ r ∈ foldL l, good r := by
  intro r hr
  obtain ⟨x, hx, hr⟩ := List.mem_flatMap.1 hr
  exact foldR_good (h x hx) r hr
theorem runes_foldS (l : List UInt8) : runes (foldS l) = foldL (runes l) := runes_encs' (foldL_good (runes_ok l))
theorem runes_labelS (l : List UInt8) : runes (labelS l) = foldL (squeeze (runes l)) := runes_encs' (foldL_good (squeeze_good (runes_ok l)))
theorem foldS_twice (l : List UInt8) : foldS (foldS l) = foldS l := by
  show encs (foldL (runes (foldS l))) = _
  rw [runes_foldS, foldL_twice]; rfl
theorem foldS_label (l : List UInt8) : foldS (labelS l) = labelS l := by
  show encs (foldL (runes (labelS l))) = _
  rw [runes_labelS, foldL_twice]; rfl
theorem foldS_clean (l : List UInt8) : foldS (clean l) = foldS l := by unfold foldS; rw [runes_clean]
theorem foldS_app (a b : List UInt8) : foldS (clean a ++ b) = foldS a ++ foldS b := by
  unfold foldS
  rw [runes_clean_app, foldL_append, encs_append]
theorem labelS_clean (l : List UInt8) : labelS (clean l) = labelS l := by unfold labelS; rw [runes_clean]
theorem labelS_bytes (l : List UInt8) : labelS l = foldS (squeezeB l) := by unfold labelS foldS; rw [runes_squeeze]
theorem fold_white {r : Nat} (h : whiteN r = true) : foldR r = [r] := by
  unfold whiteN at h
  simp at h
  exact foldR_self (by omega)
theorem fold_dark {r : Nat} (h : whiteN r = false) : (∀ x ∈ foldR r, whiteN x = false) ∧ foldR r ≠ [] := by
  have hn : ¬ (r = 32 ∨ (9 ≤ r ∧ r ≤ 13)) := by unfold whiteN at h; simp at h; omega
  rcases foldR_cases r with ⟨e, _⟩ | ⟨y, e, hy, _⟩
  · rw [e]; exact ⟨by intro x hx; simp at hx; rw [hx]; decide, by simp⟩
  · rw [e]
    refine ⟨fun x hx => ?_, by simp⟩
    simp at hx
    rw [hx]
    cases hw : whiteN y with
    | false => rfl
    | true =>
      unfold whiteN at hw
      simp at hw
      omega
theorem foldL_len {l : List Nat} (h : ∀ c ∈ l, whiteN c = false) : (foldL l).length = 0 ↔ l.length = 0 := by
  match l with
  | [] => simp [foldL]
  | r :: l =>
    rw [foldL_cons]
    have := (fold_dark (h r (by simp))).2
    have : 0 < (foldR r).length := List.length_pos_iff.2 this
    rw [List.length_append, List.length_cons]
    omega
theorem foldL_dark {l : List Nat} (h : ∀ c ∈ l, whiteN c = false) : ∀ c ∈ foldL l, whiteN c = false := by
  intro c hc
  obtain ⟨x, hx, hc⟩ := List.mem_flatMap.1 hc
  exact (fold_dark (h x hx)).1 c hc
theorem words_fold : ∀ (l cur : List Nat), (∀ c ∈ cur, whiteN c = false) → wordsA whiteN (foldL l) (foldL cur) = (wordsA whiteN l cur).map foldL := by
  intro l
  induction l with
  | nil =>
    intro cur h
    rw [show foldL [] = [] from rfl, wordsA, wordsA]
    by_cases e : cur.length = 0
    · rw [if_pos e, if_pos ((foldL_len h).2 e)]; rfl
    · rw [if_neg e, if_neg (fun h' => e ((foldL_len h).1 h'))]; rfl
  | cons c l ih =>
    intro cur h
    by_cases hc : whiteN c = true
    · rw [foldL_cons, fold_white hc, List.singleton_append, wordsA, if_pos hc, wordsA, if_pos hc]
      have hi := ih [] (by simp)
      rw [show foldL [] = [] from rfl] at hi
      rw [hi]
      by_cases e : cur.length = 0
      · rw [if_pos e, if_pos ((foldL_len h).2 e)]
      · rw [if_neg e, if_neg (fun h' => e ((foldL_len h).1 h'))]; rfl
    · have hc' : whiteN c = false := by simpa using hc
      rw [foldL_cons, words_plain whiteN _ _ _ (fold_dark hc').1, wordsA, if_neg hc, ← ih (cur ++ [c]) (fun d hd => by
        rcases List.mem_append.1 hd with hd | hd
        · exact h d hd
        · simp at hd; rw [hd]; exact hc'), foldL_append, foldL_cons, show foldL [] = [] from rfl, List.append_nil]
theorem foldL_join (ws : List (List Nat)) : foldL (joinW 32 ws) = joinW 32 (ws.map foldL) := by
  induction ws with
  | nil => rfl
  | cons x r ih =>
    match r with
    | [] => rfl
    | y :: r =>
      show foldL (x ++ 32 :: joinW 32 (y :: r)) = foldL x ++ 32 :: joinW 32 ((y :: r).map foldL)
      rw [foldL_append, foldL_cons, ih]
      rfl
theorem squeeze_fold (l : List Nat) : squeeze (foldL l) = foldL (squeeze l) := by
  unfold squeeze
  have := words_fold l [] (by simp)
  rw [show foldL [] = [] from rfl] at this
  rw [this, foldL_join]
theorem words_dark {α : Type} (w : α → Bool) : ∀ (l cur : List α), (∀ c ∈ cur, w c = false) → ∀ x ∈ wordsA w l cur, x ≠ [] ∧ ∀ c ∈ x, w c = false := by
  intro l
  induction l with
  | nil =>
    intro cur h x hx
    rw [wordsA] at hx
    split at hx
    · cases hx
    · rename_i hne
      simp at hx
      subst hx
      exact ⟨fun e => hne (by rw [e]; rfl), h⟩
  | cons d l ih =>
    intro cur h x hx
    rw [wordsA] at hx
    split at hx
    · split at hx
      · exact ih [] (by simp) x hx
      · rename_i hne
        rcases List.mem_cons.1 hx with e | hx
        · subst e; exact ⟨fun e => hne (by rw [e]; rfl), h⟩
        · exact ih [] (by simp) x hx
    · rename_i hw
      exact ih _ (fun c hc => by
        rcases List.mem_append.1 hc with hc | hc
        · exact h c hc
        · simp at hc; rw [hc]; simpa using hw) x hx
theorem words_join {α : Type} (w : α → Bool) (sp : α) (hs : w sp = true) : ∀ ws : List (List α), (∀ x ∈ ws, x ≠ [] ∧ ∀ c ∈ x, w c = false) → wordsA w (joinW sp ws) [] = ws := by
  intro ws
  induction ws with
  | nil => intro _; rfl
  | cons x r ih =>
    intro h
    obtain ⟨hx, hd⟩ := h x (by simp)
    have hl : ¬ x.length = 0 := fun e => hx (List.eq_nil_of_length_eq_zero e)
    match r with
    | [] =>
      have := words_plain w x [] [] hd
      rw [List.append_nil, List.nil_append] at this
      rw [joinW, this, wordsA, if_neg hl]
    | y :: r =>
      rw [joinW, words_plain w x _ [] hd, List.nil_append, wordsA, if_pos hs, if_neg hl, ih (fun z hz => h z (by simp at hz ⊢; exact .inr hz))]
theorem squeeze_twice (l : List Nat) : squeeze (squeeze l) = squeeze l := by
  show joinW 32 (wordsA whiteN (joinW 32 (wordsA whiteN l [])) []) = _
  rw [words_join whiteN 32 (by decide) _ (words_dark whiteN l [] (by simp))]
  rfl
theorem label_fold (l : List UInt8) : labelS (foldS l) = labelS l := by
  show encs (foldL (squeeze (runes (foldS l)))) = _
  rw [runes_foldS, squeeze_fold, foldL_twice]; rfl
theorem label_twice (l : List UInt8) : labelS (labelS l) = labelS l := by
  show encs (foldL (squeeze (runes (labelS l)))) = _
  rw [runes_labelS, squeeze_fold, squeeze_twice, foldL_twice]; rfl
theorem words_cut {α : Type} (w : α → Bool) (c : α) (hc : w c = true) (y : List α) : ∀ (x cur : List α), wordsA w (x ++ c :: y) cur = wordsA w x cur ++ wordsA w y [] := by
  intro x
  induction x with
  | nil =>
    intro cur
    rw [List.nil_append, wordsA.eq_2, if_pos hc, wordsA.eq_1]
    by_cases e : cur.length = 0
    · rw [if_pos e, if_pos e]; rfl
    · rw [if_neg e, if_neg e]; rfl
  | cons d x ih =>
    intro cur
    rw [List.cons_append, wordsA, wordsA]
    by_cases hd : w d = true
    · rw [if_pos hd, if_pos hd, ih]
      by_cases e : cur.length = 0
      · rw [if_pos e, if_pos e]
      · rw [if_neg e, if_neg e]; rfl
    · rw [if_neg hd, if_neg hd, ih]
theorem words_white {α : Type} (w : α → Bool) : ∀ (g y : List α), (∀ c ∈ g, w c = true) → wordsA w (g ++ y) [] = wordsA w y [] := by
  intro g
  induction g with
  | nil => intro y _; rfl
  | cons c g ih =>
    intro y h
    rw [List.cons_append, wordsA, if_pos (h c (by simp)), if_pos List.length_nil, ih y (fun d hd => h d (by simp [hd]))]
/-- White space at the ends, and how much there is within, says nothing. -/
theorem squeeze_gaps (g a b : List UInt8) (hg : g ≠ []) (h : ∀ c ∈ g, whiteB c = true) : squeezeB (g ++ (a ++ (g ++ (b ++ g)))) = squeezeB (a ++ 32 :: b) := by
  unfold squeezeB
  rw [words_white whiteB g _ h, words_cut whiteB 32 (by decide)]
  match g, hg, h with
  | c :: g, _, h =>
    have hc := h c (by simp)
    have hg2 : ∀ d ∈ g, whiteB d = true := fun d hd => h d (by simp [hd])
    rw [List.cons_append, words_cut whiteB c hc, words_white whiteB g _ hg2, words_cut whiteB c hc]
    have := words_white whiteB g [] hg2
    rw [List.append_nil] at this
    rw [this, show wordsA whiteB [] [] = [] from rfl, List.append_nil]
theorem label_gaps (g a b : List UInt8) (hg : g ≠ []) (h : ∀ c ∈ g, whiteB c = true) : labelS (g ++ (a ++ (g ++ (b ++ g)))) = labelS (a ++ 32 :: b) := by
  rw [labelS_bytes, labelS_bytes, squeeze_gaps g a b hg h]
end Go.Proofs.YtbgbmphjjdiaeaaDoor.T
