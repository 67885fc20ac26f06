/- What the plain search tells: nothing where no run fits another, and the whole nest where two runs of one letter face each other. -/
import Derived.Test.YtclondmclehiiaaMatch
import Derived.Test.YtclondmclehiiaaAmong
namespace Go.Proofs.Ytclondmclehiiaa.P
open Go.RowKit Go.Proofs.YtclondmclehiiaaW.PrintWords Go.Proofs.YtclondmclehiiaaW.PrintLast Go.Proofs.YtclondmclehiiaaW.PrintMore
set_option linter.unusedVariables false
set_option linter.unusedSimpArgs false

theorem findN_none (l : List S28) (left : Nat → Int) (k : Nat) : ∀ n, (∀ j, j < n → fitN l left j k = false) → findN l left k n = none
  | 0, _ => rfl
  | n + 1, h => by
    unfold findN
    rw [h n (by omega), if_neg (by decide)]
    exact findN_none l left k n fun j hj => h j (by omega)
theorem naive_none (l : List S28) (h : ∀ left j k, j < k → k < l.length → (rd_T28 l k).f3 = true → fitN l left j k = false) :
    ∀ n k left out, naive l n k left out = out
  | 0, _, _, _ => rfl
  | n + 1, k, left, out => by
    unfold naive
    by_cases hk : k < l.length
    · rw [if_pos hk]
      by_cases h3 : (rd_T28 l k).f3 = false ∨ left k = 0
      · rw [if_pos h3]; exact naive_none l h n _ _ _
      · rw [if_neg h3]
        have h3' : (rd_T28 l k).f3 = true := by
          cases hf : (rd_T28 l k).f3
          · exact absurd (.inl hf) h3
          · rfl
        rw [findN_none l left k k fun j hj => h left j k hj hk h3']
        exact naive_none l h n _ _ _
    · rw [if_neg hk]
theorem match_none (l : List S28) (hl : l.length ≤ 500) (hb : ∀ x ∈ l, 0 ≤ x.f0 ∧ x.f0 ≤ 255)
    (h : ∀ left j k, j < k → k < l.length → (rd_T28 l k).f3 = true → fitN l left j k = false) : delim_Match.f l = some [] := by
  unfold delim_Match.f matchN
  rw [if_pos ⟨hl, hb⟩, naive_none l h]

def nest : Nat → List S40
  | 0 => []
  | 1 => [⟨0, 1, 1⟩]
  | m + 2 => ⟨0, 1, 2⟩ :: nest m
theorem nest_length : ∀ m, (nest m).length = (m + 1) / 2
  | 0 => rfl
  | 1 => rfl
  | m + 2 => by simp only [nest, List.length_cons, nest_length m]; omega
theorem nest_at : ∀ m i, i < (nest m).length → (nest m).getD i z40 = ⟨0, 1, if 2 * i + 1 = m then 1 else 2⟩
  | 0, i, h => by simp [nest] at h
  | 1, i, h => by
    have : i = 0 := by simp only [nest, List.length_cons, List.length_nil] at h; omega
    subst this; rfl
  | m + 2, 0, h => by simp [nest]
  | m + 2, i + 1, h => by
    have := nest_at m i (by simpa [nest] using h)
    show (nest m).getD i z40 = _
    rw [this]
    congr 1
    by_cases hc : 2 * i + 1 = m
    · rw [if_pos hc, if_pos (by omega)]
    · rw [if_neg hc, if_neg (by omega)]
theorem deep_fit (x y : Int) (left : Nat → Int) : fitN [⟨42, x, true, false⟩, ⟨42, y, false, true⟩] left 0 1 = decide (1 ≤ left 0) := by
  unfold fitN
  by_cases h : left 0 < 1
  · have h2 : ¬ 1 ≤ left 0 := by omega
    simp [rd_T28, h, h2]
  · have : 1 ≤ left 0 := by omega
    simp [rd_T28, h, fitsB, delim_fits.f, this]
theorem deep_naive (x y : Int) : ∀ (m n : Nat) (left : Nat → Int) (out : List S40), 0 ≤ left 0 → 0 ≤ left 1 → mn (left 1) (left 0) = m → m + 2 ≤ n →
    naive [⟨42, x, true, false⟩, ⟨42, y, false, true⟩] n 1 left out = out ++ nest m := by
  intro m
  induction m using Nat.strongRecOn with
  | _ m ih =>
    intro n left out h0 h1 hm hn
    obtain ⟨n, rfl⟩ : ∃ n', n = n' + 1 := ⟨n - 1, by omega⟩
    unfold naive
    have hlen : ([⟨42, x, true, false⟩, ⟨42, y, false, true⟩] : List S28).length = 2 := rfl
    rw [if_pos (by rw [hlen]; decide)]
    have hstop : ∀ n' left' out', naive [⟨42, x, true, false⟩, ⟨42, y, false, true⟩] n' 2 left' out' = out' := by
      intro n' left' out'
      cases n' with
      | zero => rfl
      | succ n' => unfold naive; rw [if_neg (by rw [hlen]; decide)]
    by_cases hz : left 1 = 0
    · rw [if_pos (.inr hz), hstop]
      have : m = 0 := by unfold mn at hm; split at hm <;> omega
      subst this; simp [nest]
    · rw [if_neg (by simp [rd_T28, hz])]
      have hf : findN [⟨42, x, true, false⟩, ⟨42, y, false, true⟩] left 1 1 = if 1 ≤ left 0 then some 0 else none := by
        unfold findN
        rw [deep_fit]
        by_cases h : 1 ≤ left 0
        · simp [h]
        · simp [h, findN]
      rw [hf]
      by_cases h : 1 ≤ left 0
      · rw [if_pos h]
        show naive _ n 1 (afterN left 0 1 (sizeN _ left 0 1)) (out ++ [⟨0, 1, sizeN _ left 0 1⟩]) = _
        have hs : sizeN [⟨42, x, true, false⟩, ⟨42, y, false, true⟩] left 0 1 = mn (mn (left 1) (left 0)) 2 := by
          unfold sizeN; rw [if_neg (by simp [rd_T28])]
        rw [hs, hm]
        have e0 : afterN left 0 1 (mn (m : Int) 2) 0 = left 0 - mn (m : Int) 2 := by unfold afterN; rw [if_pos rfl]
        have e1 : afterN left 0 1 (mn (m : Int) 2) 1 = left 1 - mn (m : Int) 2 := by unfold afterN; rw [if_neg (by decide), if_pos rfl]
        obtain rfl | h2 : m = 1 ∨ 2 ≤ m := by unfold mn at hm; split at hm <;> omega
        · have e2 : mn ((1 : Nat) : Int) 2 = 1 := by decide
          rw [e2] at e0 e1 ⊢
          have := ih 0 (by omega) n (afterN left 0 1 1) (out ++ [⟨0, 1, 1⟩]) (by rw [e0]; omega) (by rw [e1]; omega) (by rw [e0, e1]; unfold mn at hm ⊢; split at hm <;> split <;> omega) (by omega)
          rw [this]; simp [nest]
        · have e2 : mn (m : Int) 2 = 2 := by unfold mn; split <;> omega
          rw [e2] at e0 e1 ⊢
          have hm2 := hm
          obtain ⟨m, rfl⟩ : ∃ m', m = m' + 2 := ⟨m - 2, by omega⟩
          have := ih m (by omega) n (afterN left 0 1 2) (out ++ [⟨0, 1, 2⟩]) (by rw [e0]; unfold mn at hm; split at hm <;> omega) (by rw [e1]; unfold mn at hm; split at hm <;> omega) (by rw [e0, e1]; unfold mn at hm ⊢; split at hm <;> split <;> omega) (by omega)
          rw [this]; simp [nest]
      · rw [if_neg h]
        show naive _ n 2 _ out = _
        rw [hstop]
        have : m = 0 := by unfold mn at hm; split at hm <;> omega
        subst this; simp [nest]
theorem deep_match (x y : Int) (hx : 1 ≤ x ∧ x ≤ 64) (hy : 1 ≤ y ∧ y ≤ 64) : delim_Match.f [⟨42, x, true, false⟩, ⟨42, y, false, true⟩] = some (nest (mn y x).toNat) := by
  unfold delim_Match.f
  rw [if_pos ⟨show 2 ≤ 500 from by decide, by simp⟩]
  congr 1
  unfold matchN
  have e0 : leftN [⟨42, x, true, false⟩, ⟨42, y, false, true⟩] 0 = x := by
    unfold leftN m_left
    show (if x < 1 ∨ 1073741824 < x then 0 else x) = x
    rw [if_neg (by omega)]
  have e1 : leftN [⟨42, x, true, false⟩, ⟨42, y, false, true⟩] 1 = y := by
    unfold leftN m_left
    show (if y < 1 ∨ 1073741824 < y then 0 else y) = y
    rw [if_neg (by omega)]
  generalize leftN [⟨42, x, true, false⟩, ⟨42, y, false, true⟩] = L at e0 e1 ⊢
  have ht : total 2 L = x + y := by
    rw [show (2 : Nat) = 1 + 1 from rfl, total_succ, show (1 : Nat) = 0 + 1 from rfl, total_succ]
    show total 0 L + L 0 + L 1 = _
    rw [e0, e1]; simp [total]
  show naive _ (2 + (total 2 L).toNat + 1) 0 L [] = _
  rw [ht]
  rw [show 2 + (x + y).toNat + 1 = (2 + (x + y).toNat) + 1 from rfl]
  unfold naive
  rw [if_pos (show 0 < ([⟨42, x, true, false⟩, ⟨42, y, false, true⟩] : List S28).length from by show 0 < 2; decide), if_pos (.inl (by simp [rd_T28]))]
  have := deep_naive x y (mn y x).toNat (2 + (x + y).toNat) L [] (by omega) (by omega) (by rw [e0, e1]; unfold mn; split <;> omega) (by unfold mn; split <;> omega)
  rw [this]; simp
theorem b63 (a : Int) : 0 ≤ Go.bits .and .i64 a 63 ∧ Go.bits .and .i64 a 63 ≤ 63 := by
  have h : (BitVec.ofInt 64 a &&& BitVec.ofInt 64 63).toNat ≤ 63 := by
    rw [BitVec.toNat_and]
    exact Nat.le_trans Nat.and_le_right (by decide)
  have e : Go.bits .and .i64 a 63 = IntKind.i64.wrap ((BitVec.ofInt 64 a &&& BitVec.ofInt 64 63).toNat : Int) := rfl
  rw [e]
  generalize (BitVec.ofInt 64 a &&& BitVec.ofInt 64 63).toNat = n at h
  have : IntKind.i64.wrap (n : Int) = n := by
    unfold IntKind.wrap
    have e2 : ((n : Int) % 2 ^ IntKind.i64.bits) = n := by
      show (n : Int) % 18446744073709551616 = n
      omega
    simp only [e2]
    rw [if_neg]
    simp only [IntKind.signed, Bool.true_and, decide_eq_true_eq]
    show ¬ ((n : Int) ≥ 9223372036854775808)
    omega
  rw [this]; omega
end Go.Proofs.Ytclondmclehiiaa.P
