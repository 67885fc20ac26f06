/- delim.Match: for at most 500 runs the call returns a new list, the pairs that the plain search tells. -/
import Derived.Test.YtclondmclehiiaaMatchN
namespace Go.Proofs.Ytclondmclehiiaa.P
open Go.RowKit Go.Proofs.YtclondmclehiiaaW.PrintWords
set_option linter.unusedVariables false
set_option linter.unusedSimpArgs false

def leftN (l : List S28) (i : Nat) : Int := m_left (rd_T28 l i)
def matchN (l : List S28) : List S40 := naive l (l.length + (total l.length (leftN l)).toNat + 1) 0 (leftN l) []
def delim_Match.f (l : List S28) : Option (List S40) := if l.length ≤ 500 ∧ ∀ x ∈ l, 0 ≤ x.f0 ∧ x.f0 ≤ 255 then some (matchN l) else none

theorem init_at (l : List S28) (n i : Nat) (hi : i < n) : rd_T53 (m_init l n) i = m_entry l i := by
  rw [rd53, List.getD_eq_getElem?_getD]
  unfold m_init
  rw [List.getElem?_map, List.getElem?_range hi]
  rfl
theorem init_len (l : List S28) (n : Nat) : (m_init l n).length = n := by unfold m_init; simp
theorem rd28_mem (l : List S28) (i : Nat) (hi : i < l.length) : rd_T28 l i ∈ l := by
  have : rd_T28 l i = l[i] := by
    show l.getD i z28 = l[i]
    rw [List.getD_eq_getElem?_getD, List.getElem?_eq_getElem hi]; rfl
  rw [this]
  exact List.getElem_mem hi
theorem total_bound (n : Nat) (left : Nat → Int) (h : ∀ i, i < n → left i ≤ 1073741824) : total n left ≤ 1073741824 * n := by
  induction n with
  | zero => simp [total]
  | succ n ih =>
    rw [total_succ]
    have := ih (fun i hi => h i (by omega))
    have := h n (by omega)
    omega

theorem delim_Match.calls (A0 : Option Addr) (c0 : Nat) (l0 : List S28) (r : List S40) (w : World) (hr0 : Kd.C k28 w A0 l0.length l0) (hc0 : l0.length ≤ c0) (h : delim_Match.f l0 = some r) :
    Calls Try.prog 15 #[.slice A0 l0.length c0] w fun e w' => ∃ v0_ : Value, e = .returned (v0_) ∧ Kd.R k40 40 w' w.heap.size (fun _ => True) v0_ r ∧ Below w.heap.size w w' := by
  unfold delim_Match.f at h
  split at h
  · rename_i hc
    cases h
    have hb := total_bound l0.length (leftN l0) (fun i _ => (m_left_le _).2)
    have h0 := total_nonneg (n := l0.length) (left := leftN l0) (fun i _ => (m_left_le _).1)
    obtain ⟨m, hm⟩ := sim l0 (l0.length + (total l0.length (leftN l0)).toNat + 1) 0 (m_init l0 l0.length) (fun _ => True) (fun _ => none) (leftN l0) []
      ⟨init_len _ _, fun i hi => by rw [init_len] at hi; rw [init_at _ _ _ hi]; rfl, fun i _ => ⟨(m_left_le _).1, Int.le_refl _⟩, fun i _ _ => .inr rfl,
        ⟨fun i hi _ => by
          rw [init_len] at hi
          rw [init_at _ _ _ hi]
          refine ⟨by simp only [m_entry]; omega, by simp only [m_entry]; omega, fun _ _ => trivial, fun m h1 h2 => ?_⟩
          simp only [m_entry] at h1
          omega, fun i hi _ => by
          rw [init_len] at hi
          rw [init_at _ _ _ hi]
          refine ⟨by simp only [m_entry]; omega, by rw [init_len]; simp only [m_entry]; omega, fun _ _ _ => trivial, fun m h1 h2 => ?_⟩
          simp only [m_entry] at h1
          omega⟩, fun _ _ _ => trivial, fun i h1 _ _ => by omega, fun q b hq => (by cases hq), fun i hi => by
          rw [init_len] at hi
          rw [init_at _ _ _ hi, init_len]
          simp only [m_entry]
          omega, fun i hi => by
          rw [init_len] at hi
          exact hc.2 _ (rd28_mem _ _ hi)⟩ (by omega) (by omega) (by simp only [List.length_nil]; omega)
    exact match_calls hr0 hc0 (by omega) m _ hm
  · cases h
end Go.Proofs.Ytclondmclehiiaa.P
