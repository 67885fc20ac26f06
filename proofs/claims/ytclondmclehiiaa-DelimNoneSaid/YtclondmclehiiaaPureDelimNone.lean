/- DelimNone: runs that all open, or that all close, have no pairs; and no runs of different letters have. -/
import Derived.Test.YtclondmclehiiaaPk13
import Derived.Test.YtclondmclehiiaaNaive
namespace Go.Proofs.Ytclondmclehiiaa.P
open Go.RowKit Go.Proofs.YtclondmclehiiaaW.PrintWords Go.Proofs.YtclondmclehiiaaW.PrintLast Go.Proofs.YtclondmclehiiaaW.PrintMore
set_option linter.unusedVariables false
set_option linter.unusedSimpArgs false
set_option maxRecDepth 100000 in
theorem awake_true3 : incipitlaw13_awake.f = some true := by decide +kernel
theorem getD_set28 (l : List S28) (i j : Nat) (x : S28) (hi : i < l.length) : (l.set i x).getD j z28 = if i = j then x else l.getD j z28 := by
  rw [List.getD_eq_getElem?_getD, List.getElem?_set]
  by_cases h : i = j
  · rw [if_pos h, if_pos h, if_pos (by omega)]; rfl
  · rw [if_neg h, if_neg h, List.getD_eq_getElem?_getD]
theorem mem_set28 (l : List S28) (i : Nat) (x : S28) (P : S28 → Prop) (hx : P x) (h : ∀ y ∈ l, P y) : ∀ y ∈ l.set i x, P y := by
  intro y hy
  rcases List.mem_or_eq_of_mem_set hy with h1 | h1
  · exact h y h1
  · rw [h1]; exact hx
theorem getD_mem28 (l : List S28) (i : Nat) (hi : i < l.length) : l.getD i z28 ∈ l := by
  rw [List.getD_eq_getElem?_getD, List.getElem?_eq_getElem hi]
  exact List.getElem_mem hi
theorem none_loop (b : Bool) (n : Nat) (hn : n ≤ 60) : ∀ (k i : Nat) (x6 x7 : List S28), x6.length = n → x7.length = n → (∀ x ∈ x6, 0 ≤ x.f0 ∧ x.f0 ≤ 255) → (∀ x ∈ x7, 0 ≤ x.f0 ∧ x.f0 ≤ 255) →
    i ≤ n → n - i < k → (∀ j, j < i → (x6.getD j z28).f2 = b ∧ (x6.getD j z28).f3 = !b) → (∀ j, j < i → (x7.getD j z28).f0 = j) → incipitlaw13_DelimNone.l0 k b true x6 x7 (i : Int) = some true
  | 0, i, _, _, _, _, _, _, _, h, _, _ => by omega
  | k + 1, i, x6, x7, h6, h7, hb6, hb7, hi, hk, hd6, hd7 => by
    unfold incipitlaw13_DelimNone.l0
    by_cases hc : i < n
    · rw [if_pos (by omega), if_pos (by omega)]
      simp only [Option.bind_some]
      rw [if_pos (by omega)]
      have ew : wrap64 ((i : Int) + 1) = ((i + 1 : Nat) : Int) := by rw [wrap64_sm (by omega) (by omega)]; omega
      have em : (i : Int) % 256 = (i : Int) := by omega
      rw [ew, em]
      simp only [Int.toNat_natCast]
      refine none_loop b n hn k (i + 1) _ _ (by simp [h6]) (by simp [h7]) ?_ ?_ (by omega) (by omega) ?_ ?_
      · have hm := hb6 _ (getD_mem28 x6 i (by omega))
        refine mem_set28 _ _ _ (fun x => 0 ≤ x.f0 ∧ x.f0 ≤ 255) ?_ (mem_set28 _ _ _ (fun x => 0 ≤ x.f0 ∧ x.f0 ≤ 255) hm hb6)
        show 0 ≤ (rd_T28 _ _).f0 ∧ (rd_T28 _ _).f0 ≤ 255
        unfold rd_T28
        rw [Int.toNat_natCast, getD_set28 _ _ _ _ (by omega), if_pos rfl]
        exact hm
      · exact mem_set28 _ _ _ (fun x => 0 ≤ x.f0 ∧ x.f0 ≤ 255) (by simp only; omega) hb7
      · intro j hj
        rw [getD_set28 _ _ _ _ (by simp; omega)]
        by_cases hij : i = j
        · subst hij
          rw [if_pos rfl]
          refine ⟨?_, rfl⟩
          show (rd_T28 _ _).f2 = b
          unfold rd_T28
          rw [Int.toNat_natCast, getD_set28 _ _ _ _ (by omega), if_pos rfl]
        · rw [if_neg hij, getD_set28 _ _ _ _ (by omega), if_neg hij]
          exact hd6 j (by omega)
      · intro j hj
        rw [getD_set28 _ _ _ _ (by omega)]
        by_cases hij : i = j
        · subst hij
          rw [if_pos rfl]
        · rw [if_neg hij]
          exact hd7 j (by omega)
    · have hin : i = n := by omega
      subst hin
      rw [if_neg (by omega), if_pos rfl]
      have m6 : delim_Match.f x6 = some [] := by
        refine match_none x6 (by omega) hb6 fun left j k hjk hk h3 => ?_
        have e1 := hd6 j (by omega)
        have e2 := hd6 k (by omega)
        unfold fitN
        have h3' : (x6.getD k z28).f3 = true := h3
        have : b = false := by cases b <;> simp_all
        subst this
        have e1' : (rd_T28 x6 (j : Int)).f2 = false := e1.1
        simp [e1']
      have m7 : delim_Match.f x7 = some [] := by
        refine match_none x7 (by omega) hb7 fun left j k hjk hk h3 => ?_
        have e1 : (rd_T28 x7 (j : Int)).f0 = j := hd7 j (by omega)
        have e2 : (rd_T28 x7 (k : Int)).f0 = k := hd7 k (by omega)
        unfold fitN
        rw [e1, e2, if_neg (by omega)]
      rw [m6, m7]
      rfl
def DelimNonePure : Prop := ∀ (l : List S28) (a1 : Bool), (∀ x ∈ l, 0 ≤ x.f0 ∧ x.f0 ≤ 255) → ∃ k, incipitlaw13_DelimNone.f k l a1 = some true
theorem DelimNone_pure : DelimNonePure := by
  intro l a1 hb
  refine ⟨100, ?_⟩
  unfold incipitlaw13_DelimNone.f
  rw [awake_true3]
  simp only [Option.bind_some]
  by_cases h : (l.length : Int) > 60
  · rw [if_pos h]
  · rw [if_neg h, if_pos (by simp only [List.length_nil]; omega), if_pos (by simp only [List.length_nil]; omega)]
    simp only [List.nil_append]
    exact none_loop a1 l.length (by omega) 100 0 l l rfl rfl hb hb (by omega) (by omega) (fun j hj => by omega) (fun j hj => by omega)
end Go.Proofs.Ytclondmclehiiaa.P
