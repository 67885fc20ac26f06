/- slug.Slug and slug.Unique: names in plain Lean, the walks, the printer's form. -/
import Derived.Test.YtbgbmphjjdiaeaaDoorChars4
import Derived.Test.YtbgbmphjjdiaeaaDoorSpace
import Derived.Lib.Strings
import Derived.Lib.ItoaNum
import Derived.Maps.Keyed
import Derived.Maps.Own
import Derived.Below
import Derived.Laws.AppendOwn
import Derived.WalkKit
import Derived.Test.YtbgbmphjjdiaeaaDoorFoldS
import Derived.Test.YtbgbmphjjdiaeaaDoorPk16
import Derived.Test.YtbgbmphjjdiaeaaDoorPk0
import Derived.Test.YtbgbmphjjdiaeaaDoorShelf
/- A text as a name: plain, no program in sight. -/
namespace Go.Proofs.YtbgbmphjjdiaeaaDoor.T
open Go Go.Lib Go.Proofs.YtbgbmphjjdiaeaaDoor.P
set_option linter.unusedVariables false
def slugR (r : Nat) : List Nat :=
  if inSpans spaceSpans (r : Int) = true then [45] else if r = 45 ∨ r = 95 then [r] else if inSpans punctSpans (r : Int) = true then [] else if 32 ≤ r ∧ r ≠ 127 then [r] else []
def slugL (l : List Nat) : List Nat := l.flatMap slugR
def nameS (n : List UInt8) : List UInt8 := if n = [] then [115, 101, 99, 116, 105, 111, 110] else if hasPrefix n [102, 110] = true then 115 :: 45 :: n else n
def slugS (l : List UInt8) : List UInt8 := nameS (encs (slugL (foldL (runes l))))
theorem slugL_append (a b : List Nat) : slugL (a ++ b) = slugL a ++ slugL b := by unfold slugL; simp
theorem slugL_cons (r : Nat) (l : List Nat) : slugL (r :: l) = slugR r ++ slugL l := rfl
theorem sp45 : inSpans spaceSpans 45 = false := by decide
/-- What a character is in a name: nothing, or one character that is itself in a name. -/
theorem slugR_cases (r : Nat) : slugR r = [] ∨ slugR r = [45] ∨ (slugR r = [r] ∧ 32 ≤ r ∧ inSpans spaceSpans (r : Int) = false ∧ (r = 45 ∨ r = 95 ∨ inSpans punctSpans (r : Int) = false)) := by
  unfold slugR
  split
  · exact .inr (.inl rfl)
  · rename_i h1
    split
    · exact .inr (.inr ⟨rfl, by omega, by simpa using h1, by omega⟩)
    · split
      · exact .inl rfl
      · rename_i h2
        split
        · exact .inr (.inr ⟨rfl, by omega, by simpa using h1, .inr (.inr (by simpa using h2))⟩)
        · exact .inl rfl
theorem slugR_dash : slugR 45 = [45] := by unfold slugR; rw [if_neg (by decide), if_pos (.inl rfl)]
theorem slugR_twice (r : Nat) : slugL (slugR r) = slugR r := by
  rcases slugR_cases r with h | h | ⟨h, _⟩
  · rw [h]; rfl
  · rw [h]; show slugR 45 ++ [] = _; rw [slugR_dash]; rfl
  · rw [h]; show slugR r ++ [] = _; rw [h]; rfl
theorem slugL_twice (l : List Nat) : slugL (slugL l) = slugL l := by
  induction l with
  | nil => rfl
  | cons r l ih => rw [slugL_cons, slugL_append, slugR_twice, ih]
theorem good45 : good 45 := ⟨.inl (by omega), by omega⟩
theorem slugR_good {r : Nat} (h : good r) : ∀ x ∈ slugR r, good x := by
  intro x hx
  rcases slugR_cases r with e | e | ⟨e, _⟩
  · rw [e] at hx; cases hx
  · rw [e] at hx; rw [List.mem_singleton.1 hx]; exact good45
  · rw [e] at hx; rw [List.mem_singleton.1 hx]; exact h
theorem slugL_good {l : List Nat} (h : ∀ r ∈ l, good r) : ∀ r ∈ slugL l, good r := by
  intro r hr
  obtain ⟨x, hx, hr⟩ := List.mem_flatMap.1 hr
  exact slugR_good (h x hx) r hr
/-- A character that has no capital to lose. -/
def low (x : Nat) : Prop := foldR x = [x]
theorem foldR_low (r : Nat) : ∀ x ∈ foldR r, low x := by
  intro x hx
  rcases foldR_cases r with ⟨e, _⟩ | ⟨y, e, _, hy⟩
  · rw [e] at hx
    simp at hx
    rw [hx]
    exact foldR_self (by omega)
  · rw [e] at hx
    rw [List.mem_singleton.1 hx]
    exact foldR_self hy
theorem foldL_low (l : List Nat) : ∀ x ∈ foldL l, low x := by
  intro x hx
  obtain ⟨y, _, hx⟩ := List.mem_flatMap.1 hx
  exact foldR_low y x hx
theorem low_foldL {l : List Nat} (h : ∀ x ∈ l, low x) : foldL l = l := by
  induction l with
  | nil => rfl
  | cons r l ih =>
    rw [foldL_cons, h r (List.mem_cons_self ..), ih fun x hx => h x (List.mem_cons_of_mem _ hx)]
    rfl
theorem slugL_low {l : List Nat} (h : ∀ x ∈ l, low x) : ∀ x ∈ slugL l, low x := by
  intro x hx
  obtain ⟨y, hy, hx⟩ := List.mem_flatMap.1 hx
  rcases slugR_cases y with e | e | ⟨e, _⟩
  · rw [e] at hx; cases hx
  · rw [e] at hx; rw [List.mem_singleton.1 hx]; exact foldR_self (by omega)
  · rw [e] at hx; rw [List.mem_singleton.1 hx]; exact h y hy
/-- The characters of a name ahead of the last rules. -/
def slugC (l : List UInt8) : List Nat := slugL (foldL (runes l))
theorem slugC_good (l : List UInt8) : ∀ r ∈ slugC l, good r := slugL_good (foldL_good (runes_ok l))
theorem slugC_fix {m : List Nat} (hg : ∀ r ∈ m, good r) (hl : ∀ r ∈ m, low r) (hs : slugL m = m) : slugC (encs m) = m := by
  unfold slugC
  rw [runes_encs' hg, low_foldL hl, hs]
theorem slugC_encs (l : List UInt8) : slugC (encs (slugC l)) = slugC l := slugC_fix (slugC_good l) (slugL_low (foldL_low _)) (slugL_twice _)
/-- A name's characters: none is white, none is a sign but - and _, none is below 32. -/
def nice (r : Nat) : Prop := good r ∧ 32 ≤ r ∧ inSpans spaceSpans (r : Int) = false ∧ (r = 45 ∨ r = 95 ∨ inSpans punctSpans (r : Int) = false)
theorem slugC_nice (l : List UInt8) : ∀ r ∈ slugC l, nice r := by
  intro r hr
  have hg := slugC_good l r hr
  obtain ⟨y, hy, hr⟩ := List.mem_flatMap.1 hr
  rcases slugR_cases y with e | e | ⟨e, h1, h2, h3⟩
  · rw [e] at hr; cases hr
  · rw [e] at hr; rw [List.mem_singleton.1 hr]; exact ⟨good45, by omega, by decide, .inl rfl⟩
  · rw [e] at hr
    obtain rfl := List.mem_singleton.1 hr
    exact ⟨hg, h1, h2, h3⟩
theorem encs_nil_iff (m : List Nat) : encs m = [] ↔ m = [] := by
  cases m with
  | nil => simp [encs]
  | cons r m =>
    rw [encs_cons]
    have := enc_ne r
    simp [this]
def sectionC : List Nat := [115, 101, 99, 116, 105, 111, 110]
theorem encs_low {l : List Nat} (h : ∀ r ∈ l, r < 128) : encs l = l.map UInt8.ofNat := by
  induction l with
  | nil => rfl
  | cons r l ih =>
    rw [encs_cons, enc_one (h r (List.mem_cons_self ..)), ih fun x hx => h x (List.mem_cons_of_mem _ hx)]
    rfl
/-- A name, as characters. -/
def nameC (m : List Nat) : List Nat := if m = [] then sectionC else if hasPrefix (encs m) [102, 110] = true then 115 :: 45 :: m else m
theorem nameS_encs (m : List Nat) : nameS (encs m) = encs (nameC m) := by
  unfold nameS nameC
  by_cases h : m = []
  · rw [if_pos ((encs_nil_iff m).2 h), if_pos h]
    rw [encs_low (by decide)]
    rfl
  · rw [if_neg (fun e => h ((encs_nil_iff m).1 e)), if_neg h]
    split
    · rw [encs_cons, encs_cons, enc_one (by omega), enc_one (by omega)]
      rfl
    · rfl
theorem slugS_eq (l : List UInt8) : slugS l = encs (nameC (slugC l)) := nameS_encs _
theorem nameC_all {m : List Nat} {p : Nat → Prop} (h : ∀ r ∈ m, p r) (h0 : ∀ r ∈ sectionC, p r) (h1 : p 115) (h2 : p 45) : ∀ r ∈ nameC m, p r := by
  unfold nameC
  split
  · exact h0
  · split
    · intro r hr
      rcases List.mem_cons.1 hr with rfl | hr
      · exact h1
      · rcases List.mem_cons.1 hr with rfl | hr
        · exact h2
        · exact h r hr
    · exact h
theorem nameC_ne (m : List Nat) : nameC m ≠ [] := by
  unfold nameC
  split
  · simp [sectionC]
  · split
    · simp
    · assumption
theorem enc_s (l : List Nat) : encs (115 :: l) = 115 :: encs l := by rw [encs_cons, enc_one (by omega)]; rfl
theorem nameC_prefix (m : List Nat) : hasPrefix (encs (nameC m)) [102, 110] = false := by
  unfold nameC
  split
  · show hasPrefix (encs (115 :: _)) _ = false
    rw [enc_s]
    rfl
  · split
    · rw [enc_s]
      rfl
    · rename_i h
      simpa using h
theorem nameC_twice (m : List Nat) : nameC (nameC m) = nameC m := by
  rw [nameC, if_neg (nameC_ne m), nameC_prefix]
  rfl
theorem low_of_lt {x : Nat} (h : x < 65 ∨ (90 < x ∧ x < 192)) : low x := foldR_self (by omega)
theorem slugR_letter {x : Nat} (h : (97 ≤ x ∧ x ≤ 122) ∨ (48 ≤ x ∧ x ≤ 57) ∨ x = 45) : slugR x = [x] := by
  rcases h with h | h | h
  · unfold slugR
    rw [if_neg (by simp [inSpans, spaceSpans]; omega), if_neg (by omega), if_neg (by simp [inSpans, punctSpans]; omega), if_pos (by omega)]
  · unfold slugR
    rw [if_neg (by simp [inSpans, spaceSpans]; omega), if_neg (by omega), if_neg (by simp [inSpans, punctSpans]; omega), if_pos (by omega)]
  · subst h
    exact slugR_dash
theorem slugL_name {m : List Nat} (h : slugL m = m) : slugL (nameC m) = nameC m := by
  unfold nameC
  split
  · decide
  · split
    · rw [slugL_cons, slugL_cons, h, slugR_letter (by omega), slugR_dash]
      rfl
    · exact h
theorem slugC_slugS (l : List UInt8) : slugC (slugS l) = nameC (slugC l) := by
  rw [slugS_eq]
  exact slugC_fix (nameC_all (slugC_good l) (fun r hr => by simp [sectionC] at hr; exact ⟨.inl (by omega), by omega⟩) ⟨.inl (by omega), by omega⟩ good45) (nameC_all (slugL_low (foldL_low _)) (fun r hr => low_of_lt (by simp [sectionC] at hr; omega)) (low_of_lt (by omega)) (low_of_lt (by omega))) (slugL_name (slugL_twice _))
theorem slugS_twice (l : List UInt8) : slugS (slugS l) = slugS l := by
  rw [slugS_eq, slugC_slugS, nameC_twice, ← slugS_eq]
theorem slugS_fold (l : List UInt8) : slugS (foldS l) = slugS l := by
  unfold slugS
  rw [runes_foldS, foldL_twice]
theorem runes_slugS (l : List UInt8) : runes (slugS l) = nameC (slugC l) := by
  rw [slugS_eq]
  exact runes_encs' (nameC_all (slugC_good l) (fun r hr => by simp [sectionC] at hr; exact ⟨.inl (by omega), by omega⟩) ⟨.inl (by omega), by omega⟩ good45)
theorem nice_of {x : Nat} (h : (97 ≤ x ∧ x ≤ 122) ∨ x = 45) : nice x := by
  refine ⟨⟨.inl (by omega), by omega⟩, by omega, ?_, ?_⟩
  · simp [inSpans, spaceSpans]; omega
  · rcases h with h | h
    · exact .inr (.inr (by simp [inSpans, punctSpans]; omega))
    · exact .inl h
theorem runes_nice (l : List UInt8) : ∀ r ∈ runes (slugS l), nice r := by
  rw [runes_slugS]
  exact nameC_all (slugC_nice l) (fun r hr => nice_of (by simp [sectionC] at hr; omega)) (nice_of (by omega)) (nice_of (by omega))
/-- Texts of small letters, digits and -. -/
def plainB (c : UInt8) : Prop := (97 ≤ c.toNat ∧ c.toNat ≤ 122) ∨ (48 ≤ c.toNat ∧ c.toNat ≤ 57) ∨ c.toNat = 45
theorem runes_low128 : ∀ (l : List UInt8), (∀ c ∈ l, 0 < c.toNat ∧ c.toNat < 128) → runes l = l.map UInt8.toNat
  | [], _ => rfl
  | c :: l, h => by
    have hc := h c (List.mem_cons_self ..)
    rw [runes_ascii c l hc.2, runes_low128 l fun x hx => h x (List.mem_cons_of_mem _ hx)]
    unfold fixR
    rw [if_neg (by omega)]
    rfl
theorem slugC_app {a b : List UInt8} (ha : ∀ c ∈ a, 0 < c.toNat ∧ c.toNat < 128) (hb : ∀ c ∈ b, 0 < c.toNat ∧ c.toNat < 128) : slugC (a ++ b) = slugC a ++ slugC b := by
  unfold slugC
  rw [runes_low128 (a ++ b) (by intro c hc; rcases List.mem_append.1 hc with h | h; exact ha c h; exact hb c h), runes_low128 a ha, runes_low128 b hb, List.map_append, foldL_append, slugL_append]
theorem plain_range {a : List UInt8} (h : ∀ c ∈ a, plainB c) : ∀ c ∈ a, 0 < c.toNat ∧ c.toNat < 128 := fun c hc => by have := h c hc; unfold plainB at this; omega
theorem slugC_plain {a : List UInt8} (h : ∀ c ∈ a, plainB c) : slugC a = a.map UInt8.toNat := by
  unfold slugC
  rw [runes_low128 a (plain_range h)]
  have hl : ∀ x ∈ a.map UInt8.toNat, low x ∧ slugR x = [x] := by
    intro x hx
    obtain ⟨c, hc, rfl⟩ := List.mem_map.1 hx
    have := h c hc
    unfold plainB at this
    exact ⟨low_of_lt (by omega), slugR_letter this⟩
  rw [low_foldL fun x hx => (hl x hx).1]
  generalize a.map UInt8.toNat = m at hl
  induction m with
  | nil => rfl
  | cons x m ih =>
    rw [slugL_cons, (hl x (List.mem_cons_self ..)).2, ih fun y hy => hl y (List.mem_cons_of_mem _ hy)]
    rfl
theorem encs_plain {a : List UInt8} (h : ∀ c ∈ a, 0 < c.toNat ∧ c.toNat < 128) : encs (a.map UInt8.toNat) = a := by
  rw [encs_low (by intro r hr; obtain ⟨c, hc, rfl⟩ := List.mem_map.1 hr; exact (h c hc).2), List.map_map]
  conv => rhs; rw [← List.map_id a]
  refine List.map_congr_left fun c _ => ?_
  simp
theorem slugC_blank (c : UInt8) (h : c = 32) : slugC [c] = [45] := by subst h; decide
theorem nameS_self {n : List UInt8} (h0 : n ≠ []) (h1 : hasPrefix n [102, 110] = false) : nameS n = n := by
  unfold nameS
  rw [if_neg h0, h1]
  rfl
end Go.Proofs.YtbgbmphjjdiaeaaDoor.T
/- Names, no two of which are one: plain, no program in sight. -/
namespace Go.Proofs.YtbgbmphjjdiaeaaDoor.T
open Go Go.Lib
set_option linter.unusedVariables false
/-- The n-th try for a name. -/
def tryN (s : List UInt8) (n : Nat) : List UInt8 := if n = 0 then s else s ++ 45 :: decDigits n
theorem dec_last (u : Nat) : decDigits u ≠ [] := by
  rw [decDigits]
  split <;> simp
theorem dec_inj : ∀ (n u v : Nat), u ≤ n → decDigits u = decDigits v → u = v := by
  intro n
  induction n with
  | zero =>
    intro u v hu h
    obtain rfl : u = 0 := by omega
    rw [decDigits, dif_pos (by omega), decDigits] at h
    split at h
    · injection h with h _
      have := congrArg UInt8.toNat h
      simp at this
      omega
    · rw [← List.nil_append [UInt8.ofNat (48 + 0)]] at h
      have := (List.append_inj' h rfl).1
      exact absurd this.symm (dec_last _)
  | succ n ih =>
    intro u v hu h
    by_cases h1 : u < 10
    · rw [decDigits, dif_pos h1, decDigits] at h
      split at h
      · injection h with h _
        have := congrArg UInt8.toNat h
        simp at this
        omega
      · rw [← List.nil_append [UInt8.ofNat (48 + u)]] at h
        have := (List.append_inj' h rfl).1
        exact absurd this.symm (dec_last _)
    · rw [decDigits, dif_neg h1] at h
      by_cases h2 : v < 10
      · rw [show decDigits v = [UInt8.ofNat (48 + v)] by rw [decDigits, dif_pos h2], ← List.nil_append [UInt8.ofNat (48 + v)]] at h
        have := (List.append_inj' h rfl).1
        exact absurd this (dec_last _)
      · rw [show decDigits v = decDigits (v / 10) ++ [UInt8.ofNat (48 + v % 10)] by rw [decDigits, dif_neg h2]] at h
        obtain ⟨h3, h4⟩ := List.append_inj' h rfl
        have := ih (u / 10) (v / 10) (by omega) h3
        injection h4 with h4 _
        have := congrArg UInt8.toNat h4
        simp at this
        omega
theorem tryN_inj (s : List UInt8) (n m : Nat) (h : tryN s n = tryN s m) : n = m := by
  unfold tryN at h
  by_cases hn : n = 0
  · by_cases hm : m = 0
    · omega
    · rw [if_pos hn, if_neg hm] at h
      have := congrArg List.length h
      simp at this
  · by_cases hm : m = 0
    · rw [if_neg hn, if_pos hm] at h
      have := congrArg List.length h
      simp at this
    · rw [if_neg hn, if_neg hm] at h
      have := List.append_cancel_left h
      injection this with _ this
      exact dec_inj n n m (Nat.le_refl _) this
/-- The tries from n on: the first one that is not among 'out'. -/
def freeF : Nat → Nat → List (List UInt8) → List UInt8 → Nat
  | 0, n, _, _ => n
  | k + 1, n, out, s => if tryN s n ∈ out then freeF k (n + 1) out s else n
def freeN (out : List (List UInt8)) (s : List UInt8) : Nat := freeF (out.length + 1) 0 out s
theorem freeF_spec (out : List (List UInt8)) (s : List UInt8) : ∀ k n, n ≤ freeF k n out s ∧ freeF k n out s ≤ n + k ∧ (∀ m, n ≤ m → m < freeF k n out s → tryN s m ∈ out) ∧ (freeF k n out s < n + k → tryN s (freeF k n out s) ∉ out)
  | 0, n => ⟨Nat.le_refl _, by show n ≤ _; omega, fun m h1 h2 => by exact absurd h2 (by show ¬ m < n; omega), fun h => by exact absurd h (by show ¬ n < n + 0; omega)⟩
  | k + 1, n => by
    unfold freeF
    by_cases h : tryN s n ∈ out
    · rw [if_pos h]
      obtain ⟨h1, h2, h3, h4⟩ := freeF_spec out s k (n + 1)
      refine ⟨by omega, by omega, fun m m1 m2 => ?_, fun hlt => h4 (by omega)⟩
      by_cases e : m = n
      · rw [e]; exact h
      · exact h3 m (by omega) m2
    · rw [if_neg h]
      exact ⟨Nat.le_refl _, by omega, fun m m1 m2 => by omega, fun _ => h⟩
/-- As many unlike things as there are places. -/
theorem fits {α : Type} [DecidableEq α] : ∀ (a b : List α), a.Nodup → (∀ x ∈ a, x ∈ b) → a.length ≤ b.length
  | [], _, _, _ => Nat.zero_le _
  | x :: a, b, h, hs => by
    have hx := hs x (List.mem_cons_self ..)
    rw [List.nodup_cons] at h
    have := fits a (b.erase x) h.2 fun y hy => by
      have hne : y ≠ x := fun e => h.1 (e ▸ hy)
      exact (List.mem_erase_of_ne hne).2 (hs y (List.mem_cons_of_mem _ hy))
    rw [List.length_erase_of_mem hx] at this
    have hp := List.length_pos_of_mem hx
    rw [List.length_cons]
    omega
theorem tries_nodup (s : List UInt8) (k : Nat) : ((List.range k).map (tryN s)).Nodup := by
  rw [List.nodup_iff_pairwise_ne, List.pairwise_map]
  exact (List.nodup_range (n := k)).imp fun hne h => hne (tryN_inj s _ _ h)
theorem freeN_spec (out : List (List UInt8)) (s : List UInt8) : freeN out s ≤ out.length ∧ (∀ m, m < freeN out s → tryN s m ∈ out) ∧ tryN s (freeN out s) ∉ out := by
  obtain ⟨h1, h2, h3, h4⟩ := freeF_spec out s (out.length + 1) 0
  have hle : freeN out s ≤ out.length := by
    have := fits ((List.range (freeN out s)).map (tryN s)) out (tries_nodup s _) fun x hx => by
      obtain ⟨m, hm, rfl⟩ := List.mem_map.1 hx
      exact h3 m (Nat.zero_le _) (List.mem_range.1 hm)
    simpa using this
  exact ⟨hle, fun m hm => h3 m (Nat.zero_le _) hm, h4 (by show freeN out s < _; omega)⟩
theorem freeN_eq {out : List (List UInt8)} {s : List UInt8} {n : Nat} (h1 : ∀ m, m < n → tryN s m ∈ out) (h2 : tryN s n ∉ out) : freeN out s = n := by
  obtain ⟨_, g1, g2⟩ := freeN_spec out s
  rcases Nat.lt_trichotomy (freeN out s) n with h | h | h
  · exact absurd (h1 _ h) g2
  · exact h
  · exact absurd (g1 _ h) h2
def freeS (out : List (List UInt8)) (s : List UInt8) : List UInt8 := tryN s (freeN out s)
/-- The names that come behind 'out'. -/
def uniqL : List (List UInt8) → List (List UInt8) → List (List UInt8)
  | out, [] => out
  | out, s :: l => uniqL (out ++ [freeS out s]) l
def uniq (l : List (List UInt8)) : List (List UInt8) := uniqL [] l
theorem uniqL_append : ∀ (out a b : List (List UInt8)), uniqL out (a ++ b) = uniqL (uniqL out a) b
  | _, [], _ => rfl
  | out, s :: a, b => uniqL_append (out ++ [freeS out s]) a b
theorem uniqL_length : ∀ (out l : List (List UInt8)), (uniqL out l).length = out.length + l.length
  | _, [] => rfl
  | out, s :: l => by
    rw [uniqL, uniqL_length (out ++ [freeS out s]) l]
    simp
    omega
theorem uniqL_prefix : ∀ (out l : List (List UInt8)), ∃ t, uniqL out l = out ++ t
  | out, [] => ⟨[], by simp [uniqL]⟩
  | out, s :: l => by
    obtain ⟨t, h⟩ := uniqL_prefix (out ++ [freeS out s]) l
    exact ⟨freeS out s :: t, by rw [uniqL, h]; simp⟩
theorem freeS_new (out : List (List UInt8)) (s : List UInt8) : freeS out s ∉ out := (freeN_spec out s).2.2
theorem freeS_self {out : List (List UInt8)} {s : List UInt8} (h : s ∉ out) : freeS out s = s := by
  unfold freeS
  rw [freeN_eq (n := 0) (fun m hm => absurd hm (Nat.not_lt_zero _)) (by unfold tryN; rw [if_pos rfl]; exact h)]
  unfold tryN
  rw [if_pos rfl]
theorem uniqL_nodup : ∀ (out l : List (List UInt8)), out.Nodup → (uniqL out l).Nodup
  | _, [], h => h
  | out, s :: l, h => by
    refine uniqL_nodup _ l ?_
    rw [List.nodup_append]
    refine ⟨h, by simp, ?_⟩
    rintro a ha b hb rfl
    rw [List.mem_singleton] at hb
    exact freeS_new out s (hb ▸ ha)
theorem uniq_nodup (l : List (List UInt8)) : (uniq l).Nodup := uniqL_nodup [] l List.nodup_nil
theorem uniqL_self : ∀ (out l : List (List UInt8)), (out ++ l).Nodup → uniqL out l = out ++ l
  | out, [], _ => by simp [uniqL]
  | out, s :: l, h => by
    have hs : s ∉ out := by
      rw [List.nodup_append] at h
      exact fun hm => h.2.2 s hm s (List.mem_cons_self ..) rfl
    rw [uniqL, freeS_self hs, uniqL_self (out ++ [s]) l (by simpa using h)]
    simp
theorem uniq_self {l : List (List UInt8)} (h : l.Nodup) : uniq l = l := uniqL_self [] l (by simpa using h)
theorem uniq_snoc (l : List (List UInt8)) (s : List UInt8) : uniq (l ++ [s]) = uniq l ++ [freeS (uniq l) s] := by
  unfold uniq
  rw [uniqL_append]
  rfl
theorem freeS_iff (out : List (List UInt8)) (s : List UInt8) : freeS out s = s ↔ s ∉ out := ⟨fun h => h ▸ freeS_new out s, freeS_self⟩
theorem dec_len : ∀ (k u : Nat), u < 10 ^ (k + 1) → (decDigits u).length ≤ k + 1
  | 0, u, h => by rw [decDigits, dif_pos (by omega)]; simp
  | k + 1, u, h => by
    rw [decDigits]
    split
    · simp
    · have := dec_len k (u / 10) (by rw [Nat.pow_succ] at h; omega)
      simp
      omega
end Go.Proofs.YtbgbmphjjdiaeaaDoor.T
/- Laws for a map that the call has made, told as a function from keys to optional values: made, kept, looked up, stored into. -/
set_option linter.unusedVariables false
set_option linter.unusedSimpArgs false
namespace Go.Proofs.YtbgbmphjjdiaeaaDoor.M
open Go Go.RowKit Go.Maps Go.ChangeMaps

/-- Block b is a map whose keys are enc a, each once, whose values are V v; f tells it. -/
def MapF {α β : Type} (w : World) (P : Program) (k : TypeId) (enc : α → Value) (V : β → Value) (b : Nat) (f : α → Option β) : Prop :=
  ∃ es clock, w.heap[b]? = some (.map es clock) ∧ (∀ e ∈ es.toList, ∃ a v, e.key = enc a ∧ e.val = V v ∧ f a = some v ∧ ∃ l, keyOf P k (enc a) = some l) ∧
    (∀ a v, f a = some v → ∃ e ∈ es.toList, e.key = enc a) ∧ (es.toList.map (·.key)).Nodup

section
variable {α β : Type} {w w1 : World} {P : Program} {k e t : TypeId} {enc : α → Value} {V : β → Value} {b : Nat} {f : α → Option β}

theorem MapF.made (w : World) (P : Program) (k : TypeId) (enc : α → Value) (V : β → Value) : MapF (w.alloc (.map #[] 0)) P k enc V w.heap.size (fun _ => none) :=
  ⟨#[], 0, (Go.MapKept.heap_alloc w _).1, by simp, by simp, by simp⟩
theorem MapF.lt (h : MapF w P k enc V b f) : b < w.heap.size := by
  obtain ⟨es, clock, hb, _⟩ := h
  exact (Array.getElem?_eq_some_iff.1 hb).1
theorem MapF.step (h : MapF w P k enc V b f) (hm : w1.heap[b]? = w.heap[b]?) : MapF w1 P k enc V b f := by
  obtain ⟨es, clock, hb, r⟩ := h
  exact ⟨es, clock, hm.trans hb, r⟩
theorem MapF.below {B : Nat} (h : MapF w P k enc V b f) (hb : Below B w w1) (hlt : b < B) : MapF w1 P k enc V b f := h.step (hb.block b hlt)
theorem MapF.below' (h : MapF w P k enc V b f) (hb : Below w.heap.size w w1) : MapF w1 P k enc V b f := h.step (hb.block b h.lt)
theorem MapF.grown {row : Option Nat} (h : MapF w P k enc V b f) (hg : w.grownBy w1 row) (hne : some b ≠ row) : MapF w1 P k enc V b f := h.step (hg.block b h.lt hne)
/-- It is no block of cells. -/
theorem MapF.ne_cells (h : MapF w P k enc V b f) {g : Nat} {cs : Array Value} {q : TypeId} {fr : Nat × Nat} (hg : w.heap[g]? = some (.cells cs q fr)) : g ≠ b := by
  rintro rfl
  obtain ⟨es, clock, hb, _⟩ := h
  rw [hb] at hg
  cases hg

theorem MapF.found (K : Keyed P k) (henc : ∀ a a', enc a = enc a' → a = a') (hV : ∀ v v', V v = V v' → v = v') (h : MapF w P k enc V b f) (a : α) (hkey : ∃ l, keyOf P k (enc a) = some l) :
    ∃ es clock, w.heap[b]? = some (.map es clock) ∧ ((f a = none ∧ (Instr.findKey k (enc a) es.toList).run P w = .ok none w) ∨
      ∃ v j x, f a = some v ∧ (Instr.findKey k (enc a) es.toList).run P w = .ok (some (j, V v)) w ∧ es.toList[j]? = some x ∧ x.key = enc a) := by
  obtain ⟨es, clock, hb, h1, h2, h3⟩ := h
  obtain ⟨l, hl⟩ := hkey
  refine ⟨es, clock, hb, ?_⟩
  rcases K.find w hl es.toList (fun x hx => by
    obtain ⟨a', v', hk, _, _, l', hl'⟩ := h1 x hx
    exact ⟨l', by rw [hk]; exact hl'⟩) with ⟨hr, hn⟩ | ⟨j, x, hr, hj, hk⟩
  · refine .inl ⟨?_, hr⟩
    cases hf : f a with
    | none => rfl
    | some v =>
      obtain ⟨x, hx, hk⟩ := h2 a v hf
      exact absurd hk (hn x hx)
  · obtain ⟨a', v', hk', hv', hf', _⟩ := h1 x (List.mem_of_getElem? hj)
    obtain rfl : a = a' := henc _ _ (hk.symm.trans hk')
    exact .inr ⟨v', j, x, hf', by rw [← hv']; exact hr, hj, hk⟩

theorem MapF.look (K : Keyed P k) (ht : P.underlying t = some (.map k e)) (henc : ∀ a a', enc a = enc a' → a = a') (hV : ∀ v v', V v = V v' → v = v') {z : Value} (hz : (zeroValue e).run P w = .ok z w)
    (h : MapF w P k enc V b f) (a : α) (hkey : ∃ l, keyOf P k (enc a) = some l) (c : Bool) :
    (Instr.lookup t (.map (some b)) (enc a) c).run P w = .ok (if c then .tuple #[((f a).map V).getD z, .bool (f a).isSome] else ((f a).map V).getD z) w := by
  obtain ⟨l, hl⟩ := hkey
  obtain ⟨es, clock, hb, hr⟩ := h.found K henc hV a ⟨l, hl⟩
  have hget := Go.MapKept.run_getObj_map (P := P) hb
  have hck := K.check w es.isEmpty hl
  rcases hr with ⟨hf, hr⟩ | ⟨v, j, x, hf, hr, _, _⟩
  · simp [Instr.lookup, run_underlying ht, hget, hck, hr, hz, hf]
  · simp [Instr.lookup, run_underlying ht, hget, hck, hr, hf]

theorem MapF.store [DecidableEq α] (K : Keyed P k) (ht : P.underlying t = some (.map k e)) (henc : ∀ a a', enc a = enc a' → a = a') (hV : ∀ v v', V v = V v' → v = v')
    (h : MapF w P k enc V b f) (a : α) (v : β) (hkey : ∃ l, keyOf P k (enc a) = some l) :
    ∃ w1, (Instr.mapUpdate t (.map (some b)) (enc a) (V v)).run P w = .ok () w1 ∧ MapF w1 P k enc V b (fun x => if x = a then some v else f x) ∧ w.grownBy w1 (some b) := by
  obtain ⟨l, hl⟩ := hkey
  have hF := h
  obtain ⟨es0, clock0, hb0, h1, h2, h3⟩ := h
  obtain ⟨es, clock, hb, hr⟩ := hF.found K henc hV a ⟨l, hl⟩
  rw [hb0] at hb
  injection hb with hb
  injection hb with he hc
  subst he
  subst hc
  have hlt : b < w.heap.size := hF.lt
  have hget := Go.MapKept.run_getObj_map (P := P) hb0
  have hck := K.check w false hl
  have hset : ∀ o : Obj, w.grownBy (setBlock w b o) (some b) := fun o =>
    ⟨rfl, rfl, rfl, by simp [setBlock], fun i hi hne => by
      have : i ≠ b := fun e => hne (by rw [e])
      simp [setBlock, Array.getElem?_setIfInBounds, Ne.symm this]⟩
  have hat : ∀ o : Obj, (setBlock w b o).heap[b]? = some o := fun o => by simp [setBlock, hlt]
  rcases hr with ⟨hf, hr⟩ | ⟨v0, j, x, hf, hr, hj, hk⟩
  · refine ⟨setBlock w b (.map (es0.push ⟨enc a, V v, clock0⟩) (clock0 + 1)), ?_, ⟨_, _, hat _, ?_, ?_, ?_⟩, hset _⟩
    · simp [Instr.mapUpdate, run_underlying ht, hget, hck, hr, Go.MapKept.run_setObj_map _ hb0, Result.andThen, setBlock]
    · intro y hy
      simp only [Array.toList_push, List.mem_append, List.mem_singleton] at hy
      rcases hy with hy | rfl
      · obtain ⟨a', v', hk', hv', hf', hl'⟩ := h1 y hy
        refine ⟨a', v', hk', hv', ?_, hl'⟩
        show (if a' = a then some v else f a') = some v'
        rw [if_neg (fun (h : a' = a) => by subst h; rw [hf] at hf'; cases hf')]
        exact hf'
      · exact ⟨a, v, rfl, rfl, if_pos rfl, l, hl⟩
    · intro a' v' hf'
      simp only [Array.toList_push, List.mem_append, List.mem_singleton]
      by_cases he : a' = a
      · exact ⟨_, .inr rfl, by rw [he]⟩
      · have hf2 : f a' = some v' := by have h9 : (if a' = a then some v else f a') = some v' := hf'; rwa [if_neg he] at h9
        obtain ⟨y, hy, hk'⟩ := h2 a' v' hf2
        exact ⟨y, .inl hy, hk'⟩
    · simp only [Array.toList_push, List.map_append, List.map_cons, List.map_nil]
      rw [List.nodup_append]
      refine ⟨h3, by simp, ?_⟩
      intro x hx y hy
      simp only [List.mem_singleton] at hy
      subst hy
      rintro rfl
      obtain ⟨y, hy, hk'⟩ := List.mem_map.1 hx
      obtain ⟨a', v', hk2, _, hf', _⟩ := h1 y hy
      have : a' = a := henc _ _ (hk2.symm.trans hk')
      subst this
      rw [hf] at hf'
      cases hf'
  · have hjl : j < es0.size := by
      have := (List.getElem?_eq_some_iff.1 hj).1
      simpa using this
    have hxj : es0[j]? = some x := by simpa [Array.getElem?_toList] using hj
    refine ⟨setBlock w b (.map (es0.modify j fun y => { y with key := enc a, val := V v }) clock0), ?_, ⟨_, _, hat _, ?_, ?_, ?_⟩, hset _⟩
    · simp [Instr.mapUpdate, run_underlying ht, hget, hck, hr, hxj, hk, K.stays w hl, Go.MapKept.run_setObj_map _ hb0, Result.andThen, setBlock]
    · intro y hy
      rw [Array.toList_modify] at hy
      obtain ⟨i, hi⟩ := List.mem_iff_getElem?.1 hy
      rw [List.getElem?_modify] at hi
      obtain ⟨y0, hy0, rfl⟩ := Option.map_eq_some_iff.1 hi
      by_cases hij : j = i
      · simp only [hij, if_true]
        exact ⟨a, v, rfl, rfl, if_pos rfl, l, hl⟩
      · simp only [hij, if_false, id]
        obtain ⟨a', v', hk', hv', hf', hl'⟩ := h1 y0 (List.mem_of_getElem? hy0)
        refine ⟨a', v', hk', hv', ?_, hl'⟩
        have hne : a' ≠ a := by
          rintro rfl
          have hnd : ∀ p q, p < q → q < (es0.toList.map (·.key)).length → (es0.toList.map (·.key))[p]? ≠ (es0.toList.map (·.key))[q]? := fun p q hpq hq he => by
            have h10 := List.pairwise_iff_getElem.1 h3 p q (by omega) hq hpq
            rw [List.getElem?_eq_getElem (by omega), List.getElem?_eq_getElem hq] at he
            exact h10 (Option.some.inj he)
          have e1 : (es0.toList.map (·.key))[j]? = some (enc a') := by rw [List.getElem?_map, hj]; simp [hk]
          have e2 : (es0.toList.map (·.key))[i]? = some (enc a') := by rw [List.getElem?_map, hy0]; simp [hk']
          rcases Nat.lt_or_gt_of_ne hij with hlt' | hgt
          · exact hnd j i hlt' (List.getElem?_eq_some_iff.1 e2).1 (e1.trans e2.symm)
          · exact hnd i j hgt (List.getElem?_eq_some_iff.1 e1).1 (e2.trans e1.symm)
        show (if a' = a then some v else f a') = some v'
        rw [if_neg hne]
        exact hf'
    · intro a' v' hf'
      have h9 : (if a' = a then some v else f a') = some v' := hf'
      have hm : ∀ y0 ∈ es0.toList, ∃ y ∈ (es0.modify j fun y => { y with key := enc a, val := V v }).toList, y.key = y0.key := by
        intro y0 hy0
        obtain ⟨i, hi⟩ := List.mem_iff_getElem?.1 hy0
        refine ⟨(if j = i then (fun y : MapEntry => { y with key := enc a, val := V v }) else id) y0, ?_, ?_⟩
        · rw [Array.toList_modify]
          refine List.mem_of_getElem? (i := i) ?_
          rw [List.getElem?_modify, hi]
          by_cases hij : j = i <;> simp [hij]
        · by_cases hij : j = i
          · subst hij
            rw [hj] at hi
            cases hi
            simp [hk]
          · simp [hij]
      by_cases he : a' = a
      · obtain ⟨y, hy, hky⟩ := hm x (List.mem_of_getElem? hj)
        exact ⟨y, hy, by rw [hky, hk, he]⟩
      · rw [if_neg he] at h9
        obtain ⟨y0, hy0, hk0⟩ := h2 a' v' h9
        obtain ⟨y, hy, hky⟩ := hm y0 hy0
        exact ⟨y, hy, hky.trans hk0⟩
    · have he : (es0.modify j fun y => { y with key := enc a, val := V v }).toList.map (·.key) = es0.toList.map (·.key) := by
        apply List.ext_getElem?
        intro i
        rw [List.getElem?_map, List.getElem?_map, Array.toList_modify, List.getElem?_modify]
        by_cases hij : j = i
        · subst hij
          rw [hj]
          simp [hk]
        · simp [hij]
      rw [he]
      exact h3
end
end Go.Proofs.YtbgbmphjjdiaeaaDoor.M
/- slug.Slug: for every text the call returns the text as a name. -/
namespace Go.Proofs.YtbgbmphjjdiaeaaDoor.P
open Go.RowKit Go.Proofs.YtbgbmphjjdiaeaaDoorW.PrintWords Go.Proofs.YtbgbmphjjdiaeaaDoorW.PrintLast Go.Proofs.YtbgbmphjjdiaeaaDoorW.PrintMore
set_option linter.unusedVariables false
set_option linter.unusedSimpArgs false
theorem letter_f (r : Nat) : ∃ (x : Nat) (ok : Bool), slug_letter.f (r : Int) = some ((x : Int), ok) ∧ T.slugR r = (if ok = true then [x] else []) ∧ (r ≤ 1114111 → x ≤ 1114111) := by
  unfold slug_letter.f T.slugR class_Space.f class_Punct.f
  simp only [Option.bind_some]
  by_cases h1 : inSpans spaceSpans (r : Int) = true
  · exact ⟨45, true, by rw [if_pos h1]; rfl, by rw [if_pos h1]; rfl, fun _ => by omega⟩
  · rw [if_neg h1, if_neg h1]
    by_cases h2 : r = 45
    · subst h2
      exact ⟨45, true, by rw [if_pos (by omega)] <;> rfl, by rw [if_pos (.inl rfl)] <;> rfl, fun _ => by omega⟩
    · rw [if_neg (show ¬ (r : Int) = 45 by omega)]
      by_cases h3 : r = 95
      · subst h3
        exact ⟨95, true, by rw [if_pos (by omega)] <;> rfl, by rw [if_pos (.inr rfl)] <;> rfl, fun _ => by omega⟩
      · rw [if_neg (show ¬ (r : Int) = 95 by omega), if_neg (show ¬ (r = 45 ∨ r = 95) by omega)]
        by_cases h4 : inSpans punctSpans (r : Int) = true
        · exact ⟨r, false, by rw [if_pos h4], by rw [if_pos h4] <;> rfl, fun h => h⟩
        · rw [if_neg h4, if_neg h4]
          by_cases h5 : 32 ≤ r
          · rw [if_pos (by omega)]
            by_cases h6 : r = 127
            · subst h6
              exact ⟨127, false, rfl, by rw [if_neg (by omega)]; rfl, fun h => h⟩
            · refine ⟨r, true, ?_, by rw [if_pos ⟨h5, h6⟩]; rfl, fun h => h⟩
              have : ((r : Int) != 127) = true := bne_iff_ne.mpr (by omega)
              rw [this]
          · exact ⟨r, false, by rw [if_neg (by omega)], by rw [if_neg (by omega)]; rfl, fun h => h⟩
theorem encs_slugL_len (l : List Nat) : (T.encs (T.slugL l)).length ≤ 4 * l.length := by
  induction l with
  | nil => simp [T.slugL, T.encs]
  | cons r l ih =>
    rw [T.slugL_cons, T.encs_append, List.length_append, List.length_cons]
    have h1 := (T.encs_len (T.slugR r)).2
    have h2 : (T.slugR r).length ≤ 1 := by
      rcases T.slugR_cases r with e | e | ⟨e, _⟩ <;> rw [e] <;> simp
    omega
theorem take_slugL (R : List Nat) (k : Nat) (hk : k < R.length) : T.slugL (R.take (k + 1)) = T.slugL (R.take k) ++ T.slugR (R.getD k 0) := by
  rw [List.take_succ_eq_append_getElem hk, T.slugL_append, List.getD_eq_getElem?_getD, List.getElem?_eq_getElem hk]
  simp [T.slugL]
structure SInv (R : List Nat) (k : Nat) (w wr : World) : Prop where
  bld : Lib.IsBuilderF 74 5 w.heap.size w.heap.size (Lib.byteCells (T.encs (T.slugL (R.take k)))) wr
  below : Below w.heap.size w wr
theorem SInv.skip {R : List Nat} {k : Nat} {w wr w' : World} (h : SInv R k w wr) (hk : k < R.length) (hs : T.slugR (R.getD k 0) = []) (hb : Below wr.heap.size wr w') : SInv R (k + 1) w w' := by
  refine ⟨?_, h.below.trans (hb.mono h.below.size)⟩
  rw [take_slugL R k hk, hs, List.append_nil]
  exact bldF_step h.bld hb
theorem SInv.next {R : List Nat} {k x : Nat} {w wr w' : World} (h : SInv R k w wr) (hk : k < R.length) (hs : T.slugR (R.getD k 0) = [x]) (hw : Wrote w.heap.size w.heap.size (Lib.byteCells (T.encs (T.slugL (R.take k))) ++ Lib.runeCells (x : Int)) wr w') : SInv R (k + 1) w w' := by
  refine ⟨?_, h.below.trans hw.2.1⟩
  rw [take_slugL R k hk, hs, T.encs_append, Lib.byteCells_append, show Lib.byteCells (T.encs [x]) = Lib.runeCells (x : Int) from by rw [← cells_enc]; simp [T.encs]]
  exact .inr hw.1
theorem RuneRow.step {w w' : World} {g : Nat} {R : List Nat} (h : RuneRow w g R) (hb : Below w.heap.size w w') : RuneRow w' g R := by
  obtain ⟨C, h1, h2⟩ := h
  exact ⟨C, (hb.block g (Array.getElem?_eq_some_iff.1 h1).1).trans h1, h2⟩
theorem toList_mk (l : List UInt8) : (⟨l.toArray⟩ : ByteArray).toList = l := by rw [ByteArray.toList_eq]

theorem foldL_len2 (l : List Nat) : (T.foldL l).length ≤ 2 * l.length := by
  induction l with
  | nil => simp [T.foldL]
  | cons r l ih =>
    rw [T.foldL_cons, List.length_append, List.length_cons]
    have h2 : (T.foldR r).length ≤ 2 := by
      rcases T.foldR_cases r with ⟨e, _⟩ | ⟨y, e, _⟩ <;> rw [e] <;> simp
    omega
theorem data_len' (a : ByteArray) : a.data.toList.length = a.size := by simp
set_option maxRecDepth 100000 in
set_option maxHeartbeats 4000000 in
theorem slugS_calls (a0 : ByteArray) (w : World) (hs : a0.size ≤ 1073741824) (hT : Tabs w) :
    Calls Tryd.prog 38 #[.string a0] w fun e w' => e = .returned (.string ⟨(T.slugS a0.data.toList).toArray⟩) ∧ Below w.heap.size w w' := by
  have hb1 : Below w.heap.size w (w.alloc (.cells #[.pointer none, .slice none 0 0] 74)) := below_alloc (Below.refl _ _) _
  have CF := Aside0.mk (foldS_calls a0 (w.alloc (.cells #[.pointer none, .slice none 0 0] 74)) (by omega) (hT.below hb1))
  obtain ⟨R, hR⟩ : ∃ R, R = T.foldL (T.runes a0.data.toList) := ⟨_, rfl⟩
  obtain ⟨F, hF⟩ : ∃ F : ByteArray, F = ⟨(T.foldS a0.data.toList).toArray⟩ := ⟨_, rfl⟩
  rw [← hF] at CF
  have hRl : R.length ≤ 8589934592 := by
    rw [hR]
    have h1 := T.runes_len a0.data.toList
    have h2 := foldL_len2 (T.runes a0.data.toList)
    have h3 := data_len' a0
    omega
  have hFs : F.size ≤ 1099511627776 := by
    have h1 := encs_foldL_len (T.runes a0.data.toList)
    have h2 := T.runes_len a0.data.toList
    have h3 := data_len' a0
    have h4 : F.size = (T.foldS a0.data.toList).length := by rw [hF]; simp [ByteArray.size]
    have h5 : T.foldS a0.data.toList = T.encs (T.foldL (T.runes a0.data.toList)) := rfl
    rw [h4, h5]
    omega
  have hFR : T.runes F.data.toList = R := by rw [hF, hR]; exact T.runes_foldS _
  have hRg : ∀ i, R.getD i 0 ≤ 1114111 := fun i => by
    by_cases hi : i < R.length
    · rw [List.getD_eq_getElem?_getD, List.getElem?_eq_getElem hi]
      have := (T.foldL_good (T.runes_ok a0.data.toList) (R[i]) (by rw [← hR]; exact List.getElem_mem hi)).1
      unfold T.okR at this
      show R[i] ≤ _
      omega
    · rw [List.getD_eq_getElem?_getD, List.getElem?_eq_none (by omega)]
      exact Nat.zero_le _
  have HRG := Aside0.mk hRg
  have HRES : Aside0 (T.nameS (T.encs (T.slugL R)) = T.slugS a0.data.toList) := ⟨by rw [hR]; rfl⟩
  have HFS := Aside0.mk hFs
  have HFR := Aside0.mk hFR
  have HTT := Aside0.mk (hT.below hb1)
  have F0 : Aside0 (SInv R 0 w (w.alloc (.cells #[.pointer none, .slice none 0 0] 74))) := ⟨⟨Lib.IsBuilderF.of (Lib.fresh_isBuilder 74 5 w), hb1⟩⟩
  clear hR hs hT hb1 hRg hF hFs hFR
  obtain ⟨n, en⟩ : ∃ n, n = R.length := ⟨_, rfl⟩
  have HEN := Aside0.mk en
  have hn : n ≤ 8589934592 := by omega
  have HLI : Aside0 ((ints R).length = n) := ⟨by rw [en]; simp [ints]⟩
  clear hRl en
  have hl8 : Aside0 (∀ k, (Lib.byteCells (T.encs (T.slugL (R.take k)))).length + 4 ≤ 140737488355328) := ⟨fun k => by
    rw [Lib.byteCells_length]
    have := encs_slugL_len (R.take k)
    have h2 : (R.take k).length ≤ R.length := by rw [List.length_take]; omega
    have := HEN.out
    omega⟩
  go_enter Tryd.func38, Tryd.ntmps38
  go_wp2_with (first | (go_at_call 31; refine CF.out.mono ?_; rintro e w2 ⟨rfl, hb2⟩; have HB2 := Aside0.mk hb2; clear hb2; have CR := Aside0.mk (runes_calls F w2 HFS.out (HTT.out.below HB2.out)); rw [HFR.out] at CR) | (go_at_call 43; refine CR.out.mono ?_; rintro e w3 ⟨v, rfl, hv, hb3⟩; have HV := Aside0.mk hv; have hvs := Kd.R_slice hv; rw [HLI.out] at hvs; obtain ⟨A, c, rfl⟩ := hvs; have HB3 := Aside0.mk hb3; clear hv hb3))
  have HI : Aside0 (SInv R 0 w w3) := ⟨⟨bldF_step (bldF_step F0.out.bld HB2.out) HB3.out, (F0.out.below.trans (HB2.out.mono (by simp))).trans (HB3.out.mono (Nat.le_trans (by simp) HB2.out.size))⟩⟩
  have HSZ : Aside0 (w.heap.size < w2.heap.size) := ⟨by have := HB2.out.size; simp at this; omega⟩
  clear F0 CR CF
  -- what stands behind the loop: the text, the last rules
  obtain ⟨N, hN⟩ : ∃ N, N = T.encs (T.slugL R) := ⟨_, rfl⟩
  have hNl : N.length ≤ 34359738368 := by rw [hN]; have := encs_slugL_len R; have := HEN.out; omega
  have CS : Aside0 (∀ W, SInv R n w W → Calls Tryd.prog 56 #[.pointer (some ⟨w.heap.size, 0, none⟩)] W fun e w' => e = .returned (.string ⟨N.toArray⟩) ∧ Below w.heap.size W w') := ⟨fun W h => by
    have hb := h.bld
    rw [List.take_of_length_le (by rw [HEN.out]; exact Nat.le_refl _), ← hN] at hb
    exact (Tryd.Builder_String_any_k w.heap.size w.heap.size N W hb h.below.size).mono fun e w' h => ⟨h.1, h.2.2.1⟩⟩
  rw [← hN] at HRES
  obtain ⟨nm, hnm⟩ : ∃ nm : ByteArray, nm = ⟨N.toArray⟩ := ⟨_, rfl⟩
  rw [← hnm] at CS
  have hnl : nm.toList = N := by rw [hnm]; exact toList_mk N
  have hnd : nm.data.toList = N := by rw [hnm]
  have hns : nm.size = N.length := by rw [hnm]; simp [ByteArray.size]
  have CP : Aside0 (∀ W, Calls Tryd.prog 67 #[.string nm, .string ⟨#[102, 110]⟩] W fun e w' => e = .returned (.bool (Lib.hasPrefix N [102, 110])) ∧ w' = W) := ⟨fun W => by
    have := Tryd.strings_HasPrefix nm ⟨#[102, 110]⟩ W
    rw [hnd] at this
    exact this⟩
  have hcat : (⟨#[115, 45]⟩ : ByteArray) ++ nm = ⟨(115 :: 45 :: N).toArray⟩ := by
    rw [hnm]
    exact ByteArray.ext (by simp)
  have hsz2 : (2 + nm.size ≤ 9223372036854775807) = True := eq_true (by rw [hns]; omega)
  have hsz3 : (9223372036854775807 < 2 + nm.size) = False := eq_false (by rw [hns]; omega)
  have HCAT := Aside0.mk hcat
  have HNM := Aside0.mk hnm
  have HNL := Aside0.mk hnl
  clear hN hNl hnm hnd hns hcat hnl
  have AFTER : Aside0 True := ⟨trivial⟩
  rcases Nat.eq_zero_or_pos n with h0 | h0
  · have hn0 : ¬ ((0 : Int) < (n : Int)) := by omega
    have HI0 : Aside0 (SInv R n w w3) := ⟨by rw [h0]; exact HI.out⟩
    clear h0 hn
    go_loopw [13] (fun v wr => v = .int .i64 0 ∧ wr = w3) (fun v _ => 0)
    case atStart => exact ⟨rfl, rfl⟩
    case round =>
      obtain ⟨rfl, rfl⟩ := hrel
      have CSW := Aside0.mk (CS.out _ HI0.out)
      by_cases q1 : N = []
      · have q1b : (nm.toList == ([] : List UInt8)) = true := beq_iff_eq.mpr (by rw [HNL.out]; exact q1)
        have HQ := Aside0.mk q1
        clear q1
        go_wp2_with (go_at_call 56; refine CSW.out.mono ?_; rintro e w5 ⟨rfl, hb⟩; have HB := Aside0.mk hb; clear hb)
        go_ret
        exact ⟨by rw [← HRES.out, HQ.out]; rfl, HI0.out.below.trans HB.out⟩
      · have q1b : (nm.toList == ([] : List UInt8)) = false := beq_eq_false_iff_ne.mpr (by rw [HNL.out]; exact q1)
        have HQ := Aside0.mk q1
        clear q1
        cases q2 : Lib.hasPrefix N [102, 110] with
        | true =>
          have HQ2 := Aside0.mk q2
          rw [q2] at CP
          clear q2
          go_wp2_with (first | (go_at_call 56; refine CSW.out.mono ?_; rintro e w5 ⟨rfl, hb⟩; have HB := Aside0.mk hb; clear hb) | (go_at_call 67; refine (CP.out _).mono ?_; rintro e w6 ⟨rfl, rfl⟩))
          go_ret
          exact ⟨by rw [← HRES.out, HCAT.out]; unfold T.nameS; rw [if_neg HQ.out, if_pos HQ2.out]; rfl, HI0.out.below.trans HB.out⟩
        | false =>
          have HQ2 := Aside0.mk q2
          rw [q2] at CP
          clear q2
          go_wp2_with (first | (go_at_call 56; refine CSW.out.mono ?_; rintro e w5 ⟨rfl, hb⟩; have HB := Aside0.mk hb; clear hb) | (go_at_call 67; refine (CP.out _).mono ?_; rintro e w6 ⟨rfl, rfl⟩))
          go_ret
          exact ⟨by rw [← HRES.out, HNM.out]; unfold T.nameS; rw [if_neg HQ.out, if_neg (by rw [HQ2.out]; decide)]; rfl, HI0.out.below.trans HB.out⟩
  · obtain ⟨g, c', hv, hgb, hcn, hcm, hrow⟩ := row_of_R HV.out (by rw [← HEN.out]; exact h0)
    rw [← HEN.out] at hv hcn
    injection hv with hv1 hv2 hv3
    subst hv1
    subst hv3
    have HROW := Aside0.mk hrow
    have hgw : Aside0 (g ≠ w.heap.size) := ⟨by have := HSZ.out; omega⟩
    have hcm' : c ≤ 9223372036854775807 := by unfold maxLen at hcm; exact hcm
    clear hrow hgb hcm HV
    go_loopw [13] (fun v wr => ∃ k : Nat, k ≤ n ∧ v = .int .i64 k ∧ Aside0 (SInv R k w wr ∧ RuneRow wr g R)) (fun v _ => n - (intOf v).toNat)
    case atStart => exact ⟨0, by omega, rfl, ⟨HI.out, HROW.out⟩⟩
    case round =>
      clear HI HROW
      obtain ⟨k, hk, rfl, HI⟩ := hrel
      by_cases hlt : k < n
      · have hkR : k < R.length := by rw [← HEN.out]; exact hlt
        have c0 := HI.out.2.cell k hkR
        have hr := HRG.out k
        obtain ⟨y, hy⟩ : ∃ y, y = R.getD k 0 := ⟨_, rfl⟩
        rw [← hy] at hr c0
        obtain ⟨x, ok, hlf, hls, hxl⟩ := letter_f y
        have hxl := hxl hr
        have HLF := Aside0.mk hlf
        have HLS : Aside0 (T.slugR (R.getD k 0) = if ok = true then [x] else []) := ⟨by rw [← hy]; exact hls⟩
        have HKR := Aside0.mk hkR
        have HXL := Aside0.mk hxl
        clear hy hr hkR hlf hls hxl
        have hkI : (k : Int) < (n : Int) := by omega
        have hkN : IntKind.i64.wrap ((k : Int) + 1) = (k : Int) + 1 := by rw [IntKind.wrap_i64]; omega
        cases ok with
        | true =>
          go_wp2_with (first | (go_at_call 65; refine (slug_letter.calls (y : Int) (x : Int) true _ HLF.out).mono ?_; rintro e w4 ⟨rfl, hb4⟩; have HI4 : Aside0 (SInv R k w w4 ∧ RuneRow w4 g R) := ⟨⟨bldF_step HI.out.1.bld hb4, HI.out.1.below.trans (hb4.mono HI.out.1.below.size)⟩, HI.out.2.step hb4⟩; clear hb4) | (go_at_call 66; refine (Tryd.Builder_WriteRune_k w.heap.size w.heap.size (Lib.byteCells (T.encs (T.slugL (R.take k)))) (x : Int) (by have := HXL.out; omega) (by have := HXL.out; omega) _ HI4.out.1.bld (hl8.out k) HI4.out.1.below.size).mono ?_; rintro e w5 ⟨rfl, hw⟩; have HW := Aside0.mk hw; clear hw))
          go_roundw
          case rel => exact ⟨k + 1, by omega, by go_num, ⟨HI4.out.1.next HKR.out HLS.out HW.out, HI4.out.2.kept HW.out.2.2 hgw.out⟩⟩
          case measure => simp [intOf]; omega
        | false =>
          go_wp2_with (go_at_call 65; refine (slug_letter.calls (y : Int) (x : Int) false _ HLF.out).mono ?_; rintro e w4 ⟨rfl, hb4⟩; have HB4 := Aside0.mk hb4; clear hb4)
          go_roundw
          case rel => exact ⟨k + 1, by omega, by go_num, ⟨HI.out.1.skip HKR.out HLS.out HB4.out, HI.out.2.step HB4.out⟩⟩
          case measure => simp [intOf]; omega
      · obtain rfl : k = n := by omega
        have hkI : ¬ (k : Int) < (k : Int) := by omega
        have CSW := Aside0.mk (CS.out _ HI.out.1)
        by_cases q1 : N = []
        · have q1b : (nm.toList == ([] : List UInt8)) = true := beq_iff_eq.mpr (by rw [HNL.out]; exact q1)
          have HQ := Aside0.mk q1
          clear q1
          go_wp2_with (go_at_call 56; refine CSW.out.mono ?_; rintro e w5 ⟨rfl, hb⟩; have HB := Aside0.mk hb; clear hb)
          go_ret
          exact ⟨by rw [← HRES.out, HQ.out]; rfl, HI.out.1.below.trans HB.out⟩
        · have q1b : (nm.toList == ([] : List UInt8)) = false := beq_eq_false_iff_ne.mpr (by rw [HNL.out]; exact q1)
          have HQ := Aside0.mk q1
          clear q1
          cases q2 : Lib.hasPrefix N [102, 110] with
          | true =>
            have HQ2 := Aside0.mk q2
            rw [q2] at CP
            clear q2
            go_wp2_with (first | (go_at_call 56; refine CSW.out.mono ?_; rintro e w5 ⟨rfl, hb⟩; have HB := Aside0.mk hb; clear hb) | (go_at_call 67; refine (CP.out _).mono ?_; rintro e w6 ⟨rfl, rfl⟩))
            go_ret
            exact ⟨by rw [← HRES.out, HCAT.out]; unfold T.nameS; rw [if_neg HQ.out, if_pos HQ2.out]; rfl, HI.out.1.below.trans HB.out⟩
          | false =>
            have HQ2 := Aside0.mk q2
            rw [q2] at CP
            clear q2
            go_wp2_with (first | (go_at_call 56; refine CSW.out.mono ?_; rintro e w5 ⟨rfl, hb⟩; have HB := Aside0.mk hb; clear hb) | (go_at_call 67; refine (CP.out _).mono ?_; rintro e w6 ⟨rfl, rfl⟩))
            go_ret
            exact ⟨by rw [← HRES.out, HNM.out]; unfold T.nameS; rw [if_neg HQ.out, if_neg (by rw [HQ2.out]; decide)]; rfl, HI.out.1.below.trans HB.out⟩
end Go.Proofs.YtbgbmphjjdiaeaaDoor.P
/- slug.Unique: for every list of fewer than 99 texts the call returns the names, no two of which are one. -/
namespace Go.Proofs.YtbgbmphjjdiaeaaDoor.P
open Go.RowKit Go.Maps Go.Proofs.YtbgbmphjjdiaeaaDoor.M Go.Proofs.YtbgbmphjjdiaeaaDoorW.PrintWords Go.Proofs.YtbgbmphjjdiaeaaDoorW.PrintLast Go.Proofs.YtbgbmphjjdiaeaaDoorW.PrintMore
set_option linter.unusedVariables false
set_option linter.unusedSimpArgs false
theorem string9_law : Keyed Tryd.prog 9 := string_keyed Tryd.underlying9
def mkB (l : List UInt8) : ByteArray := ⟨l.toArray⟩
def encB (l : List UInt8) : Value := .string (mkB l)
theorem mkB_inj (a b : List UInt8) (h : mkB a = mkB b) : a = b := by
  have := congrArg (fun x : ByteArray => x.data.toList) h
  simpa [mkB] using this
theorem encB_inj (a b : List UInt8) (h : encB a = encB b) : a = b := mkB_inj a b (by unfold encB at h; injection h)
theorem bool_inj (a b : Bool) (h : Value.bool a = Value.bool b) : a = b := by injection h
theorem string_key (a : List UInt8) (h : (mkB a).size ≤ 9223372036854775807) : ∃ l, keyOf Tryd.prog 9 (encB a) = some l := by
  simp [keyOf, mapKey, encB, Tryd.underlying9]
  exact h
theorem zero4 (w : World) : (zeroValue 4).run Tryd.prog w = .ok (.bool false) w := Tryd.zeroValue4 w
/-- The map of the names so far. -/
def Met (w : World) (mb : Nat) (O : List (List UInt8)) : Prop := MapF w Tryd.prog 9 encB Value.bool mb (fun x => if x ∈ O then some true else none)
theorem met_look {w : World} {mb : Nat} {O : List (List UInt8)} (h : Met w mb O) (x : List UInt8) (hx : (mkB x).size ≤ 9223372036854775807) : (Instr.lookup 91 (.map (some mb)) (encB x) false).run Tryd.prog w = .ok (.bool (decide (x ∈ O))) w := by
  have := MapF.look string9_law Tryd.underlying91 encB_inj bool_inj (zero4 w) h x (string_key x hx) false
  rw [this]
  by_cases hm : x ∈ O <;> simp [hm]
noncomputable def metW (x : List UInt8) (mb : Nat) (w : World) : World :=
  match (Instr.mapUpdate 91 (.map (some mb)) (encB x) (.bool true)).run Tryd.prog w with
  | .ok _ w1 => w1
  | _ => w
theorem met_upd {w : World} {mb : Nat} {O : List (List UInt8)} (h : Met w mb O) (x : List UInt8) (hx : (mkB x).size ≤ 9223372036854775807) :
    (Instr.mapUpdate 91 (.map (some mb)) (encB x) (.bool true)).run Tryd.prog w = .ok () (metW x mb w) ∧ Met (metW x mb w) mb (O ++ [x]) ∧ w.grownBy (metW x mb w) (some mb) := by
  obtain ⟨w1, hrun, hm, hg⟩ := MapF.store string9_law Tryd.underlying91 encB_inj bool_inj h x true (string_key x hx)
  have hw : metW x mb w = w1 := by unfold metW; rw [hrun]
  rw [hw]
  refine ⟨hrun, ?_, hg⟩
  unfold Met
  rw [show (fun y => if y ∈ O ++ [x] then some true else none) = (fun y => if y = x then some true else if y ∈ O then some true else none) from ?_]
  · exact hm
  · funext y
    by_cases h1 : y = x
    · simp [h1]
    · simp [h1]
theorem U_over_map {w w1 : World} {B mb : Nat} {v : Value} {O : List ByteArray} {O2 : List (List UInt8)} (h : Kd.R Kd.string 9 w B (fun _ => True) v O) (hm : Met w mb O2) (hg : w.grownBy w1 (some mb)) : Kd.R Kd.string 9 w1 B (fun _ => True) v O := by
  refine Kd.R_mono (Kd.R_move (Kd.R_bound h) (fun k hk => hg.block k hk.2.2.1 (fun he => ?_))) (fun _ _ => trivial)
  obtain ⟨_, _, _, q, hq, cells, hc⟩ := hk
  injection he with he
  exact hm.ne_cells hc he
theorem own_ne {w wr : World} {v : Value} {OL : List ByteArray} {mb : Nat} {O : List (List UInt8)} (h : Kd.R Kd.string 9 wr w.heap.size (fun _ => True) v OL) (hm : Met wr mb O) : some mb ≠ v.ownBlock := by
  rcases (Kd.own_of_R h).2 with ⟨hv, _⟩ | ⟨g, cap, cur, hv, hg, hb, _⟩
  · rw [hv]
    simp [Value.ownBlock]
  · rw [hv]
    intro e
    injection e with e
    exact hm.ne_cells hb e.symm
def uniqB (l : List ByteArray) : List ByteArray := (T.uniq (l.map (·.data.toList))).map mkB
theorem rdOf_data (l : List ByteArray) (k : Nat) (h : k < l.length) : (l.map (·.data.toList)).take (k + 1) = (l.map (·.data.toList)).take k ++ [(rdOf ByteArray.empty l (k : Int)).data.toList] := by
  rw [List.take_succ_eq_append_getElem (by simpa using h)]
  congr 2
  rw [List.getElem_map]
  congr 2
  unfold rdOf
  simp [List.getD_eq_getElem?_getD, List.getElem?_eq_getElem h]
theorem rdOf_mem (l : List ByteArray) (k : Nat) (h : k < l.length) : rdOf ByteArray.empty l (k : Int) ∈ l := by
  have : rdOf ByteArray.empty l (k : Int) = l[k] := by
    unfold rdOf
    simp [List.getD_eq_getElem?_getD, List.getElem?_eq_getElem h]
  rw [this]
  exact List.getElem_mem h
theorem mkB_data (s : ByteArray) : mkB s.data.toList = s := by unfold mkB; simp
theorem tryN_zero (s : List UInt8) : T.tryN s 0 = s := rfl
theorem tryN_succ (s : ByteArray) (j : Nat) : (s ++ (⟨#[45]⟩ : ByteArray)) ++ (⟨(Lib.decDigits (j + 1)).toArray⟩ : ByteArray) = mkB (T.tryN s.data.toList (j + 1)) := by
  unfold T.tryN mkB
  rw [if_neg (by omega)]
  apply ByteArray.ext
  apply Array.ext'
  simp
theorem dec_len2 (j : Nat) (h : j < 100) : (Lib.decDigits j).length ≤ 2 := T.dec_len 1 j (by omega)
/-- What stands at the head of the round for the k-th text. -/
structure UInv (l : List (List UInt8)) (k mb : Nat) (v : Value) (w wr : World) : Prop where
  row : Kd.R Kd.string 9 wr w.heap.size (fun _ => True) v ((T.uniqL [] (l.take k)).map mkB)
  met : Met wr mb (T.uniqL [] (l.take k))
  below : Below w.heap.size w wr
set_option maxRecDepth 100000 in
set_option maxHeartbeats 8000000 in
theorem uniqS_calls (A0 : Option Addr) (c0 : Nat) (l0 : List ByteArray) (w : World) (hr0 : Kd.C Kd.string w A0 l0.length l0) (hc0 : l0.length ≤ c0) (hl : l0.length ≤ 98) (hz : ∀ x ∈ l0, x.size ≤ 1099511627776) :
    Calls Tryd.prog 41 #[.slice A0 l0.length c0] w fun e w' => ∃ v0_ : Value, e = .returned (v0_) ∧ Kd.R Kd.string 9 w' w.heap.size (fun _ => True) v0_ (uniqB l0) ∧ Below w.heap.size w w' := by
  have hmm := @run_makeMap Tryd.prog
  have HR0 := Aside0.mk hr0
  have HZ := Aside0.mk hz
  have HC0 := Aside0.mk hc0
  obtain ⟨ls, hls⟩ : ∃ ls, ls = l0.map (·.data.toList) := ⟨_, rfl⟩
  have HLS := Aside0.mk hls
  obtain ⟨n, hn⟩ : ∃ n, n = l0.length := ⟨_, rfl⟩
  have HN := Aside0.mk hn
  have hln : Aside0 (ls.length = n) := ⟨by rw [hls, hn]; simp⟩
  rw [← hn] at hl
  rw [← hn]
  have HU0 : Aside0 (UInv ls 0 w.heap.size (.slice none 0 0) w (w.alloc (.map #[] 0))) := ⟨⟨Kd.R_nil _ _ _ _ _, by
    have := MapF.made w Tryd.prog 9 encB Value.bool
    unfold Met
    simpa [T.uniqL] using this, below_alloc (Below.refl _ _) _⟩⟩
  clear hr0 hz hc0 hls hn
  go_enter Tryd.func41, Tryd.ntmps41
  go_wp2_with fail
  obtain ⟨mb, hmb⟩ : ∃ mb, mb = w.heap.size := ⟨_, rfl⟩
  have HMB := Aside0.mk hmb
  rw [← hmb] at HU0 ⊢
  clear hmb
  go_loopw [4, 12] (fun v4 v12 wr => ∃ k : Nat, k ≤ n ∧ v12 = .int .i64 k ∧ Aside0 (UInv ls k mb v4 w wr)) (fun _ v12 _ => n - (intOf v12).toNat)
  case atStart => exact ⟨0, by omega, rfl, HU0⟩
  case round =>
    clear HU0
    obtain ⟨k, hk, rfl, HU⟩ := hrel
    obtain ⟨O, hO⟩ : ∃ O, O = T.uniqL [] (ls.take k) := ⟨_, rfl⟩
    have HO := Aside0.mk hO
    by_cases hlt : k < n
    · have hkl : k < l0.length := by rw [← HN.out]; exact hlt
      obtain ⟨s, hs⟩ : ∃ s, s = rdOf ByteArray.empty l0 (k : Int) := ⟨_, rfl⟩
      have hsz : s.size ≤ 1099511627776 := by rw [hs]; exact HZ.out _ (rdOf_mem l0 k hkl)
      have HSZ := Aside0.mk hsz
      have HST : Aside0 (ls.take (k + 1) = ls.take k ++ [s.data.toList]) := ⟨by rw [HLS.out, hs]; exact rdOf_data l0 k hkl⟩
      have hOl : Aside0 (O.length = k) := ⟨by rw [hO, T.uniqL_length, List.length_take, hln.out]; simp; omega⟩
      have p1 : 0 ≤ (k : Int) := by omega
      have q1 : (k : Int) < (n : Int) := by omega
      obtain ⟨ad, he, hx0⟩ := Kd.at_string HR0.out (k : Int) p1 (by rw [← HN.out]; exact q1)
      rw [← hs] at hx0
      have hx := (HU.out.below.cell (World.block_lt_of_cell? w _ hx0)).trans hx0
      clear hx0 hs
      cases he
      have HHL := Aside0.mk hlt
      clear hlt
      replace p1 := eq_true p1
      replace q1 := eq_true q1
      have HKL := Aside0.mk hkl
      clear hkl hO
      have HK := Aside0.mk hk
      have hkk : (k : Int).toNat = k := by omega
      rw [hkk] at hx
      clear hk hkk
      go_wp2_with fail
      go_loopw [7, 8] (fun v7 v8 wi => ∃ j : Nat, v7 = .string (mkB (T.tryN s.data.toList j)) ∧ v8 = .int .i64 ((j : Int) + 1) ∧ wi = wr ∧ Aside0 (j ≤ T.freeN O s.data.toList)) (fun _ v8 _ => T.freeN O s.data.toList + 1 - (intOf v8).toNat)
      case atStart => exact ⟨0, by rw [tryN_zero, mkB_data], rfl, rfl, ⟨Nat.zero_le _⟩⟩
      case round =>
        obtain ⟨j, rfl, rfl, rfl, HJ⟩ := hrel
        have hsp := T.freeN_spec O s.data.toList
        have hsz := HSZ.out
        have hol := hOl.out
        have hkn := HHL.out
        have hjj := HJ.out
        have hns : (mkB (T.tryN s.data.toList j)).size ≤ 1099511628776 := by
          have h1 : (mkB (T.tryN s.data.toList j)).size = (T.tryN s.data.toList j).length := by simp [mkB, ByteArray.size]
          have h2 := dec_len2 j (by omega)
          have h3 : s.data.toList.length = s.size := by simp
          rw [h1]
          unfold T.tryN
          split
          · omega
          · rw [List.length_append, List.length_cons]
            omega
        by_cases hm : T.tryN s.data.toList j ∈ O
        · have hlk := met_look (HO.out ▸ HU.out.met) (T.tryN s.data.toList j) (by omega)
          rw [decide_eq_true hm] at hlk
          unfold encB at hlk
          have hj2 : j + 1 ≤ T.freeN O s.data.toList := by
            have : j ≠ T.freeN O s.data.toList := fun e => hsp.2.2 (e ▸ hm)
            omega
          have HJ2 := Aside0.mk hj2
          have HSUC : Aside0 ((s ++ (⟨#[45]⟩ : ByteArray)) ++ (⟨(Lib.decDigits (j + 1)).toArray⟩ : ByteArray) = mkB (T.tryN s.data.toList (j + 1))) := ⟨tryN_succ s j⟩
          obtain ⟨dd, hdd⟩ : ∃ dd : ByteArray, dd = ⟨(Lib.decDigits (j + 1)).toArray⟩ := ⟨_, rfl⟩
          have CI : Aside0 (∀ W, Calls Tryd.prog 69 #[.int .i64 ((j : Int) + 1)] W fun e w' => e = .returned (.string dd) ∧ w' = W) := ⟨fun W => by
            rw [hdd]
            exact Tryd.strconv_Itoa_small (j + 1) (by omega) W⟩
          have hds : dd.size ≤ 2 := by
            rw [hdd]
            have := dec_len2 (j + 1) (by omega)
            simpa [ByteArray.size] using this
          rw [← hdd] at HSUC
          have g1 : s.size + 1 ≤ 9223372036854775807 := by omega
          have g2 : (s ++ (⟨#[45]⟩ : ByteArray)).size + dd.size ≤ 9223372036854775807 := by
            rw [ByteArray.size_append]
            show s.size + 1 + dd.size ≤ _
            omega
          have hjn : IntKind.i64.wrap ((j : Int) + 1 + 1) = (j : Int) + 1 + 1 := by rw [IntKind.wrap_i64]; omega
          generalize hnm : mkB (T.tryN s.data.toList j) = nm at *
          clear hsp hsz hol hkn hjj hns hm hj2 hds hdd hnm
          have c1b0 := eq_true g1
          have c1b1 := eq_true g2
          have c1b2 : (9223372036854775807 < s.size + 1) = False := eq_false (Nat.not_lt.2 g1)
          have c1b3 : (9223372036854775807 < (s ++ (⟨#[45]⟩ : ByteArray)).size + dd.size) = False := eq_false (Nat.not_lt.2 g2)
          have g3 : s.size + 1 + dd.size ≤ 9223372036854775807 := by rw [ByteArray.size_append] at g2; exact g2
          have c1b4 := eq_true g3
          have c1b5 : (9223372036854775807 < s.size + 1 + dd.size) = False := eq_false (Nat.not_lt.2 g3)
          have c1b6 : (⟨#[45]⟩ : ByteArray).size = 1 := rfl
          clear g1 g2
          go_wp2_with (go_at_call 69; refine (CI.out _).mono ?_; rintro e w2 ⟨rfl, rfl⟩)
          go_roundw
          case rel => exact ⟨j + 1, by rw [HSUC.out], by go_num, by first | rfl | trivial, HJ2⟩
          case measure => simp [intOf]; have := HJ2.out; omega
        · have hlk := met_look (HO.out ▸ HU.out.met) (T.tryN s.data.toList j) (by omega)
          rw [decide_eq_false hm] at hlk
          unfold encB at hlk
          have hjf : T.tryN s.data.toList j = T.freeS O s.data.toList := by
            have : j = T.freeN O s.data.toList := by
              rcases Nat.lt_or_ge j (T.freeN O s.data.toList) with h | h
              · exact absurd (hsp.2.1 j h) hm
              · omega
            unfold T.freeS
            rw [← this]
          have HO2 : Aside0 (T.uniqL [] (ls.take (k + 1)) = O ++ [T.tryN s.data.toList j]) := ⟨by
            rw [HST.out, T.uniqL_append, ← HO.out, hjf]
            rfl⟩
          obtain ⟨hu, hmet, hgr⟩ := met_upd (HO.out ▸ HU.out.met) (T.tryN s.data.toList j) (by omega)
          have hrow := U_over_map HU.out.row HU.out.met hgr
          rw [← HO.out] at hrow
          have hbel : Below w.heap.size w (metW (T.tryN s.data.toList j) mb wr) := HU.out.below.grown hgr HU.out.below.size (fun i hi => by injection hi with hi; rw [← hi, HMB.out]; exact Nat.le_refl _)
          unfold encB at hu
          obtain ⟨w4, hw4⟩ : ∃ w4, w4 = metW (T.tryN s.data.toList j) mb wr := ⟨_, rfl⟩
          rw [← hw4] at hu hmet hrow hbel
          have hmn : O.map mkB ++ [mkB (T.tryN s.data.toList j)] = (O ++ [T.tryN s.data.toList j]).map mkB := by simp
          obtain ⟨OL, hOL⟩ : ∃ OL, OL = O.map mkB := ⟨_, rfl⟩
          have hll : OL.length = k := by rw [hOL, List.length_map]; exact hol
          rw [← hOL] at hrow hmn
          have HOLL := Aside0.mk hll
          have HMN := Aside0.mk hmn
          have HME := Aside0.mk hmet
          have HRW := Aside0.mk hrow
          have HBE := Aside0.mk hbel
          have hkN : IntKind.i64.wrap ((k : Int) + 1) = (k : Int) + 1 := by rw [IntKind.wrap_i64]; omega
          obtain ⟨Ao, co, eo⟩ := Kd.R_slice HRW.out
          subst eo
          generalize hnm : mkB (T.tryN s.data.toList j) = nm at *
          generalize hnt : T.tryN s.data.toList j = nt at *
          clear hsp hsz hol hjj hns hm hnm hnt hjf hgr hw4 hmn hmet hrow hbel hOL hll hkn
          go_wp2_with (first | ((with_reducible refine gate_builtin (b := .append) (xs := #[.tmp 29, .tmp 31]) rfl ?_); at_builtin; refine Kd.R_append Kd.string (w0 := w) w.heap.size rfl (.tmp 29) (.tmp 31) 34 9 (.string ⟨#[]⟩) 16 rfl Tryd.underlying34 info9 rfl (by decide) (by omega) (.slice Ao OL.length co) OL nm [.string nm] (fun _ => True) (fun _ => False) rfl rfl ?aP (fun _ hk => hk.elim) ?aF ?aO ?aB ?aS ?aL ?_; (case aP => exact rfl); (case aB => exact HBE.out); (case aF => exact (fun _ _ => trivial)); (case aO => exact HRW.out); (case aS => exact HBE.out.size); (case aL => have := HOLL.out; have := HHL.out; omega); intro v5 w5 ho hb hg hat; have HO5 := Aside0.mk ho; have HB5 := Aside0.mk hb; have HM5 := Aside0.mk (HME.out.grown hg (own_ne HRW.out HME.out)); clear ho hb hg hat))
          go_roundw
          case rel => exact ⟨k + 1, by have := HHL.out; omega, by go_num, ⟨⟨by rw [HO2.out, ← HMN.out]; exact HO5.out, by rw [HO2.out]; exact HM5.out, HB5.out⟩⟩⟩
          case measure => simp [intOf]; have := HHL.out; omega
    · obtain rfl : k = n := by omega
      have hkk : ¬ (k : Int) < (k : Int) := by omega
      have hres : O.map mkB = uniqB l0 := by
        rw [hO, List.take_of_length_le (by rw [hln.out]; exact Nat.le_refl _), HLS.out]
        rfl
      have HROW := Aside0.mk HU.out.row
      rw [← HO.out, hres] at HROW
      clear hO hk
      go_wp2_with fail
      go_ret
      exact ⟨_, rfl, HROW.out, HU.out.below⟩
end Go.Proofs.YtbgbmphjjdiaeaaDoor.P
/- slug.Slug and slug.Unique in the printer's form. -/
namespace Go.Proofs.YtbgbmphjjdiaeaaDoor.P
open Go.RowKit Go.Proofs.YtbgbmphjjdiaeaaDoorW.PrintWords Go.Proofs.YtbgbmphjjdiaeaaDoorW.PrintLast Go.Proofs.YtbgbmphjjdiaeaaDoorW.PrintMore
set_option linter.unusedVariables false
def slug_Slug.f (a0 : ByteArray) : Option ByteArray := if a0.size ≤ 1073741824 then some ⟨(T.slugS a0.data.toList).toArray⟩ else none
theorem slug_Slug.calls (a0 : ByteArray) (r : ByteArray) (w : World) (h : slug_Slug.f a0 = some r) (hT : Tabs w) :
    Calls Tryd.prog 38 #[.string a0] w fun e w' => e = .returned (.string r) ∧ Below w.heap.size w w' := by
  unfold slug_Slug.f at h
  by_cases hs : a0.size ≤ 1073741824
  · rw [if_pos hs] at h
    injection h with h
    rw [← h]
    exact slugS_calls a0 w hs hT
  · rw [if_neg hs] at h
    cases h
def slug_Unique.f (l0 : List ByteArray) : Option (List ByteArray) := if l0.length ≤ 98 ∧ l0.all (fun x => decide (x.size ≤ 1099511627776)) = true then some (uniqB l0) else none
theorem slug_Unique.calls (A0 : Option Addr) (c0 : Nat) (l0 : List ByteArray) (r : List ByteArray) (w : World) (hr0 : Kd.C Kd.string w A0 l0.length l0) (hc0 : l0.length ≤ c0) (h : slug_Unique.f l0 = some r) :
    Calls Tryd.prog 41 #[.slice A0 l0.length c0] w fun e w' => ∃ v0_ : Value, e = .returned (v0_) ∧ Kd.R Kd.string 9 w' w.heap.size (fun _ => True) v0_ r ∧ Below w.heap.size w w' := by
  unfold slug_Unique.f at h
  by_cases hs : l0.length ≤ 98 ∧ l0.all (fun x => decide (x.size ≤ 1099511627776)) = true
  · rw [if_pos hs] at h
    injection h with h
    rw [← h]
    exact uniqS_calls A0 c0 l0 w hr0 hc0 hs.1 fun x hx => by simpa using List.all_eq_true.1 hs.2 x hx
  · rw [if_neg hs] at h
    cases h
end Go.Proofs.YtbgbmphjjdiaeaaDoor.P
