/- Texts as lists of characters: cleaned texts, texts without capitals, words and labels; plain, no program in sight. -/
import Derived.Test.YtbgbmphjjdiaeaaDoorChars
namespace Go.Proofs.YtbgbmphjjdiaeaaDoor.T
open Go Go.Lib
set_option linter.unusedVariables false
def runesF : Nat → List UInt8 → List Nat
  | 0, _ => []
  | k + 1, l => if l.length = 0 then [] else fixR (dec l).1 :: runesF k (l.drop (dec l).2)
def runes (l : List UInt8) : List Nat := runesF l.length l
def encs (l : List Nat) : List UInt8 := l.flatMap enc
def clean (l : List UInt8) : List UInt8 := encs (runes l)
theorem dec_step {l : List UInt8} (h : l ≠ []) : 1 ≤ (dec l).2 ∧ (dec l).2 ≤ l.length := by
  match l, h with
  | x :: l, _ => have := dec_spec x l; exact ⟨this.1, this.2.1⟩
theorem runesF_more : ∀ (n k : Nat) (l : List UInt8), l.length ≤ n → l.length ≤ k → runesF k l = runesF l.length l := by
  intro n
  induction n with
  | zero =>
    intro k l h _
    have : l = [] := List.eq_nil_of_length_eq_zero (by omega)
    subst this
    cases k <;> rfl
  | succ n ih =>
    intro k l h hk
    match l with
    | [] => cases k <;> rfl
    | x :: t =>
      obtain ⟨h1, h2⟩ := dec_step (l := x :: t) (by simp)
      obtain ⟨k, rfl⟩ : ∃ q, k = q + 1 := ⟨k - 1, by simp at hk; omega⟩
      rw [runesF, if_neg (by simp), show (x :: t).length = t.length + 1 from rfl, runesF, if_neg (by simp)]
      have hd : ((x :: t).drop (dec (x :: t)).2).length ≤ t.length := by rw [List.length_drop]; simp; omega
      rw [ih k _ (by simp at h; omega) (by simp at hk; omega), ih t.length _ (by simp at h; omega) hd]
theorem runes_nil : runes [] = [] := rfl
theorem runes_cons {l : List UInt8} (h : l ≠ []) : runes l = fixR (dec l).1 :: runes (l.drop (dec l).2) := by
  match l, h with
  | x :: t, h =>
    obtain ⟨h1, h2⟩ := dec_step (l := x :: t) (by simp)
    unfold runes
    rw [show (x :: t).length = t.length + 1 from rfl, runesF, if_neg (by simp), runesF_more t.length t.length _ (by rw [List.length_drop]; simp; omega) (by rw [List.length_drop]; simp; omega)]
theorem enc_ne (r : Nat) : enc r ≠ [] := by
  intro e
  have := enc_pos r
  rw [e] at this
  simp at this
theorem runes_enc {r : Nat} (h : good r) (t : List UInt8) : runes (enc r ++ t) = r :: runes t := by
  rw [runes_cons (by simp [enc_ne]), dec_enc h.1]
  simp only [List.drop_left]
  unfold fixR
  rw [if_neg h.2]
theorem runes_encs {l : List Nat} (h : ∀ r ∈ l, good r) (t : List UInt8) : runes (encs l ++ t) = l ++ runes t := by
  induction l with
  | nil => rfl
  | cons r l ih =>
    rw [show encs (r :: l) = enc r ++ encs l from rfl, List.append_assoc, runes_enc (h r (by simp)), ih (fun x hx => h x (by simp [hx]))]
    rfl
theorem runes_encs' {l : List Nat} (h : ∀ r ∈ l, good r) : runes (encs l) = l := by
  have := runes_encs h []
  rw [List.append_nil, runes_nil, List.append_nil] at this
  exact this
theorem okR_bad : good 65533 := ⟨.inr (by omega), by omega⟩
theorem fix_good {r : Nat} (h : okR r) : good (fixR r) := by
  unfold fixR
  by_cases e : r = 0
  · rw [if_pos e]; exact okR_bad
  · rw [if_neg e]; exact ⟨h, e⟩
theorem runes_good : ∀ (n : Nat) (l : List UInt8), l.length ≤ n → ∀ r ∈ runes l, good r := by
  intro n
  induction n with
  | zero =>
    intro l h r hr
    have : l = [] := List.eq_nil_of_length_eq_zero (by omega)
    subst this
    cases hr
  | succ n ih =>
    intro l h r hr
    match l with
    | [] => cases hr
    | x :: t =>
      obtain ⟨h1, h2, h3, _⟩ := dec_spec x t
      rw [runes_cons (by simp)] at hr
      rcases List.mem_cons.1 hr with e | hr
      · rw [e]; exact fix_good h3
      · exact ih _ (by rw [List.length_drop]; simp at h ⊢; omega) r hr
theorem runes_ok (l : List UInt8) : ∀ r ∈ runes l, good r := runes_good l.length l (Nat.le_refl _)
theorem runes_clean (l : List UInt8) : runes (clean l) = runes l := runes_encs' (runes_ok l)
theorem clean_clean (l : List UInt8) : clean (clean l) = clean l := by show encs (runes (clean l)) = _; rw [runes_clean]; rfl
theorem encs_append (a b : List Nat) : encs (a ++ b) = encs a ++ encs b := by unfold encs; simp
theorem runes_clean_app (a b : List UInt8) : runes (clean a ++ b) = runes a ++ runes b := runes_encs (runes_ok a) b
/-- A byte below 128 is a character by itself. -/
theorem dec_ascii (c : UInt8) (y : List UInt8) (hc : c.toNat < 128) : dec (c :: y) = (c.toNat, 1) := by
  rw [dec_cons]
  unfold decodeN
  rw [if_pos hc]
theorem runes_ascii (c : UInt8) (y : List UInt8) (hc : c.toNat < 128) : runes (c :: y) = fixR c.toNat :: runes y := by
  rw [runes_cons (by simp), dec_ascii c y hc]
  rfl
theorem runes_cut (c : UInt8) (y : List UInt8) (hc : c.toNat < 128) : ∀ (n : Nat) (x : List UInt8), x.length ≤ n → runes (x ++ c :: y) = runes x ++ fixR c.toNat :: runes y := by
  intro n
  induction n with
  | zero =>
    intro x h
    have : x = [] := List.eq_nil_of_length_eq_zero (by omega)
    subst this
    exact runes_ascii c y hc
  | succ n ih =>
    intro x h
    match x with
    | [] => exact runes_ascii c y hc
    | a :: x =>
      obtain ⟨h1, h2⟩ := dec_step (l := a :: x) (by simp)
      rw [runes_cons (l := a :: x ++ c :: y) (by simp), dec_cut a x c y hc, runes_cons (l := a :: x) (by simp)]
      rw [List.drop_append_of_le_length h2, ih _ (by rw [List.length_drop]; simp at h ⊢; omega)]
      rfl
theorem runes_split (c : UInt8) (x y : List UInt8) (hc : c.toNat < 128) : runes (x ++ c :: y) = runes x ++ fixR c.toNat :: runes y := runes_cut c y hc x.length x (Nat.le_refl _)
/-- A character below 128 comes of a byte below 128. -/
theorem runes_low (p : Nat → Bool) (hp : ∀ r, p r = true → 0 < r ∧ r < 128) : ∀ (n : Nat) (l : List UInt8), l.length ≤ n → (∀ c ∈ l, p c.toNat = false) → ∀ r ∈ runes l, p r = false := by
  intro n
  induction n with
  | zero =>
    intro l h _ r hr
    have : l = [] := List.eq_nil_of_length_eq_zero (by omega)
    subst this
    cases hr
  | succ n ih =>
    intro l h hl r hr
    match l with
    | [] => cases hr
    | x :: t =>
      obtain ⟨h1, h2, h3, h4⟩ := dec_spec x t
      rw [runes_cons (by simp)] at hr
      rcases List.mem_cons.1 hr with e | hr
      · cases hc : p r with
        | false => rfl
        | true =>
          exfalso
          obtain ⟨b0, b1⟩ := hp r hc
          have hx := hl x (by simp)
          by_cases hx1 : x.toNat < 128
          · rw [dec_ascii x t hx1] at e
            unfold fixR at e
            by_cases hz : x.toNat = 0
            · simp only [hz] at e; rw [if_pos trivial] at e; omega
            · simp only at e; rw [if_neg hz] at e; rw [← e, hc] at hx; cases hx
          · rcases h4 with ⟨_, e4⟩ | ⟨_, _, h5⟩
            · rw [e4] at e; unfold fixR at e; simp at e; omega
            · have := (h5 (by omega)).1
              unfold fixR at e
              rw [if_neg (by omega)] at e
              omega
      · exact ih _ (by rw [List.length_drop]; simp at h ⊢; omega) (fun c hc => hl c (List.mem_of_mem_drop hc)) r hr
/-! words -/
def wordsA {α : Type} (w : α → Bool) : List α → List α → List (List α)
  | [], cur => if cur.length = 0 then [] else [cur]
  | c :: l, cur => if w c = true then (if cur.length = 0 then wordsA w l [] else cur :: wordsA w l []) else wordsA w l (cur ++ [c])
def joinW {α : Type} (sp : α) : List (List α) → List α
  | [] => []
  | [x] => x
  | x :: y :: r => x ++ sp :: joinW sp (y :: r)
def whiteN (r : Nat) : Bool := r == 32 || (decide (9 ≤ r) && decide (r ≤ 13))
def whiteB (c : UInt8) : Bool := whiteN c.toNat
theorem white_low (r : Nat) (h : whiteN r = true) : 0 < r ∧ r < 128 := by unfold whiteN at h; simp at h; omega
theorem words_plain {α : Type} (w : α → Bool) : ∀ (x l cur : List α), (∀ c ∈ x, w c = false) → wordsA w (x ++ l) cur = wordsA w l (cur ++ x) := by
  intro x
  induction x with
  | nil => intro l cur _; simp
  | cons c x ih =>
    intro l cur h
    rw [List.cons_append, wordsA, if_neg (by rw [h c (by simp)]; decide), ih _ _ (fun d hd => h d (by simp [hd])), List.append_assoc]
    rfl
theorem runes_eq_nil {l : List UInt8} : (runes l).length = 0 ↔ l.length = 0 := by
  match l with
  | [] => simp [runes_nil]
  | x :: t => rw [runes_cons (by simp)]; simp
theorem words_runes : ∀ (l cur : List UInt8), (∀ c ∈ cur, whiteB c = false) → wordsA whiteN (runes (cur ++ l)) [] = (wordsA whiteB l cur).map runes := by
  intro l
  induction l with
  | nil =>
    intro cur h
    rw [List.append_nil]
    have hw := runes_low whiteN white_low cur.length cur (Nat.le_refl _) h
    have := words_plain whiteN (runes cur) [] [] hw
    rw [List.append_nil, List.nil_append] at this
    rw [this, wordsA, wordsA]
    by_cases e : cur.length = 0
    · rw [if_pos e, if_pos (runes_eq_nil.2 e)]; rfl
    · rw [if_neg e, if_neg (fun h => e (runes_eq_nil.1 h))]; rfl
  | cons c l ih =>
    intro cur h
    have hw := runes_low whiteN white_low cur.length cur (Nat.le_refl _) h
    by_cases hc : whiteB c = true
    · obtain ⟨c0, c1⟩ := white_low _ hc
      have hf : fixR c.toNat = c.toNat := by unfold fixR; rw [if_neg (by omega)]
      rw [runes_split c cur l c1, hf, words_plain whiteN _ _ _ hw, List.nil_append, wordsA, if_pos (show whiteN c.toNat = true from hc), wordsA, if_pos hc]
      have hi := ih [] (by simp)
      rw [List.nil_append] at hi
      rw [hi]
      by_cases e : cur.length = 0
      · rw [if_pos e, if_pos (runes_eq_nil.2 e)]
      · rw [if_neg e, if_neg (fun h => e (runes_eq_nil.1 h))]; rfl
    · rw [wordsA, if_neg hc, ← ih (cur ++ [c]) (fun d hd => by
        rcases List.mem_append.1 hd with hd | hd
        · exact h d hd
        · simp at hd; rw [hd]; simpa using hc), List.append_assoc]
      rfl
theorem runes_join (ws : List (List UInt8)) : runes (joinW 32 ws) = joinW 32 (ws.map runes) := by
  induction ws with
  | nil => rfl
  | cons x r ih =>
    match r with
    | [] => rfl
    | y :: r =>
      show runes (x ++ 32 :: joinW 32 (y :: r)) = runes x ++ 32 :: joinW 32 ((y :: r).map runes)
      rw [runes_split 32 x _ (by decide), ih]
      rfl
/-- The words of a text, a blank between two. -/
def squeezeB (l : List UInt8) : List UInt8 := joinW 32 (wordsA whiteB l [])
def squeeze (l : List Nat) : List Nat := joinW 32 (wordsA whiteN l [])
theorem runes_squeeze (l : List UInt8) : runes (squeezeB l) = squeeze (runes l) := by
  unfold squeezeB squeeze
  rw [runes_join]
  have := words_runes l [] (by simp)
  rw [List.nil_append] at this
  rw [this]
theorem words_mem {α : Type} (w : α → Bool) : ∀ (l cur : List α), ∀ x ∈ wordsA w l cur, ∀ c ∈ x, c ∈ cur ∨ c ∈ l := by
  intro l
  induction l with
  | nil =>
    intro cur x hx c hc
    rw [wordsA] at hx
    split at hx
    · cases hx
    · simp at hx; subst hx; exact .inl hc
  | cons d l ih =>
    intro cur x hx c hc
    rw [wordsA] at hx
    split at hx
    · split at hx
      · rcases ih [] x hx c hc with h | h
        · cases h
        · exact .inr (by simp [h])
      · rcases List.mem_cons.1 hx with e | hx
        · subst e; exact .inl hc
        · rcases ih [] x hx c hc with h | h
          · cases h
          · exact .inr (by simp [h])
    · rcases ih _ x hx c hc with h | h
      · rcases List.mem_append.1 h with h | h
        · exact .inl h
        · simp at h; subst h; exact .inr (by simp)
      · exact .inr (by simp [h])
theorem join_mem {α : Type} (sp : α) : ∀ (ws : List (List α)), ∀ c ∈ joinW sp ws, c = sp ∨ ∃ x ∈ ws, c ∈ x
  | [], c, h => by cases h
  | [x], c, h => .inr ⟨x, by simp, h⟩
  | x :: y :: r, c, h => by
    rw [joinW] at h
    rcases List.mem_append.1 h with h | h
    · exact .inr ⟨x, by simp, h⟩
    · rcases List.mem_cons.1 h with h | h
      · exact .inl h
      · rcases join_mem sp (y :: r) c h with h | ⟨z, hz, h⟩
        · exact .inl h
        · exact .inr ⟨z, by simp at hz ⊢; exact .inr hz, h⟩
theorem squeeze_good {l : List Nat} (h : ∀ r ∈ l, good r) : ∀ r ∈ squeeze l, good r := by
  intro r hr
  rcases join_mem 32 _ r hr with e | ⟨x, hx, hr⟩
  · rw [e]; exact ⟨.inl (by omega), by omega⟩
  · rcases words_mem whiteN l [] x hx r hr with h1 | h1
    · cases h1
    · exact h r h1
end Go.Proofs.YtbgbmphjjdiaeaaDoor.T
