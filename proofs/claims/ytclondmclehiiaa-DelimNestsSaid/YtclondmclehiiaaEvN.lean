/- Words for the plain laws: 'with rounds enough'; how many pairs the plain search tells. -/
import Derived.Test.YtclondmclehiiaaPk4
import Derived.Test.YtclondmclehiiaaNaive
namespace Go.Proofs.Ytclondmclehiiaa.P
open Go.RowKit Go.Proofs.YtclondmclehiiaaW.PrintWords Go.Proofs.YtclondmclehiiaaW.PrintLast Go.Proofs.YtclondmclehiiaaW.PrintMore
set_option linter.unusedVariables false
set_option linter.unusedSimpArgs false
set_option maxRecDepth 100000 in
theorem awake_true4 : incipitlaw13_awake.f = some true := by decide +kernel

/-- With rounds enough, g answers r. -/
def Ev {α : Type} (g : Nat → Option α) (r : α) : Prop := ∃ K, ∀ k, K ≤ k → g k = some r
theorem Ev.step {α : Type} {g h : Nat → Option α} {r : α} (K0 : Nat) (he : Ev h r) (hs : ∀ k, K0 ≤ k → g (k + 1) = h k) : Ev g r := by
  obtain ⟨K, hK⟩ := he
  refine ⟨K + K0 + 1, fun k hk => ?_⟩
  obtain ⟨k, rfl⟩ : ∃ q, k = q + 1 := ⟨k - 1, by omega⟩
  rw [hs k (by omega), hK k (by omega)]
theorem Ev.done {α : Type} {g : Nat → Option α} {r : α} (hs : ∀ k, g (k + 1) = some r) : Ev g r := ⟨1, fun k hk => by
  obtain ⟨k, rfl⟩ : ∃ q, k = q + 1 := ⟨k - 1, by omega⟩
  exact hs k⟩
theorem wrap64_sm1 {a : Int} (h0 : -1 ≤ a) (h1 : a ≤ 1073741824) : wrap64 a = a := by unfold wrap64; omega

theorem rd_set (xs : List Int) (i j : Nat) (x : Int) (hi : i < xs.length) : rd (xs.set i x) (j : Int) = if i = j then x else rd xs j := by
  show (xs.set i x).getD j 0 = if i = j then x else xs.getD j 0
  rw [List.getD_eq_getElem?_getD, List.getElem?_set]
  by_cases h : i = j
  · rw [if_pos h, if_pos h, if_pos (by omega)]; rfl
  · rw [if_neg h, if_neg h, List.getD_eq_getElem?_getD]

theorem naive_length (l : List S28) (hl : l.length ≤ 500) : ∀ (n i : Nat) (left : Nat → Int) (out : List S40), (∀ p, p < l.length → 0 ≤ left p) → i ≤ l.length → ((naive l n i left out).length : Int) ≤ out.length + total l.length left := by
  intro n
  induction n with
  | zero => intro i left out hL hi; have := total_nonneg (n := l.length) (left := left) hL; simp only [naive]; omega
  | succ n ih =>
    intro i left out hL hi
    have h0 := total_nonneg (n := l.length) (left := left) hL
    simp only [naive]
    by_cases hlt : i < l.length
    · rw [if_pos hlt]
      by_cases hsk : (rd_T28 l i).f3 = false ∨ left i = 0
      · rw [if_pos hsk]; exact ih (i + 1) left out hL (by omega)
      · rw [if_neg hsk]
        have h1 : 1 ≤ left i := by
          have := hL i hlt
          have : left i ≠ 0 := fun h => hsk (.inr h)
          omega
        cases hf : findN l left i i with
        | none =>
          simp only
          by_cases h2 : (rd_T28 l i).f2 = true
          · rw [if_pos h2]; exact ih (i + 1) left out hL (by omega)
          · rw [if_neg h2]
            have hle : total l.length (fun p => if p = i then 0 else left p) ≤ total l.length left := total_le fun p hp => by
              have := hL p hp
              show (if p = i then 0 else left p) ≤ left p
              split <;> omega
            have := ih (i + 1) (fun p => if p = i then 0 else left p) out (fun p hp => by
              have := hL p hp
              show 0 ≤ (if p = i then 0 else left p)
              split <;> omega) (by omega)
            omega
        | some q =>
          simp only
          obtain ⟨hq, hfit, _⟩ := find_some hf
          have hs := size_ok hfit h1
          have hlt2 : total l.length (afterN left q i (sizeN l left q i)) < total l.length left := total_lt (j := i) (fun p hp => by
              have := hL p hp
              unfold afterN
              split
              · rename_i h; subst h; omega
              · split
                · rename_i h; subst h; omega
                · split <;> omega) hlt (by
              unfold afterN
              rw [if_neg (by omega), if_pos rfl]; omega)
          have := ih i (afterN left q i (sizeN l left q i)) (out ++ [⟨q, i, sizeN l left q i⟩]) (fun p hp => by
            have := hL p hp
            unfold afterN
            split
            · omega
            · split
              · omega
              · split <;> omega) hi
          simp only [List.length_append, List.length_cons, List.length_nil] at this
          omega
    · rw [if_neg hlt]; omega
theorem match_some (l : List S28) (hl : l.length ≤ 500) (hb : ∀ x ∈ l, 0 ≤ x.f0 ∧ x.f0 ≤ 255) : delim_Match.f l = some (matchN l) := by
  unfold delim_Match.f
  rw [if_pos ⟨hl, hb⟩]
theorem matchN_length (l : List S28) (hl : l.length ≤ 500) : ((matchN l).length : Int) ≤ total l.length (leftN l) := by
  have := naive_length l hl (l.length + (total l.length (leftN l)).toNat + 1) 0 (leftN l) [] (fun p _ => (m_left_le _).1) (by omega)
  simpa [matchN] using this
theorem total_200 (l : List S28) (h : ∀ i, i < l.length → leftN l i ≤ 200) : total l.length (leftN l) ≤ 200 * (l.length : Int) := by
  have hg : ∀ n, n ≤ l.length → total n (leftN l) ≤ 200 * (n : Int) := by
    intro n
    induction n with
    | zero => intro _; simp [total]
    | succ n ih =>
      intro hn
      rw [total_succ]
      have := ih (by omega)
      have := h n (by omega)
      omega
  exact hg _ (Nat.le_refl _)

end Go.Proofs.Ytclondmclehiiaa.P
