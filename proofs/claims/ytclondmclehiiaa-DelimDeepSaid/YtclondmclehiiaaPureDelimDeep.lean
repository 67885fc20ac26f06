/- DelimDeep: two runs of one letter that face each other pair from the inside out, two at a time. -/
import Derived.Test.YtclondmclehiiaaPk12
import Derived.Test.YtclondmclehiiaaNaive
namespace Go.Proofs.Ytclondmclehiiaa.P
open Go.RowKit Go.Proofs.YtclondmclehiiaaW.PrintWords Go.Proofs.YtclondmclehiiaaW.PrintLast Go.Proofs.YtclondmclehiiaaW.PrintMore
set_option maxRecDepth 100000 in
theorem awake_true2 : incipitlaw13_awake.f = some true := by decide +kernel
theorem deep_loop (m : Nat) (hm : m ≤ 64) : ∀ (k i : Nat), i ≤ (nest m).length → (nest m).length - i < k → incipitlaw13_DelimDeep.l0 k true (nest m) (m : Int) (i : Int) = some true
  | 0, i, _, h => by omega
  | k + 1, i, hi, h => by
    have hl := nest_length m
    unfold incipitlaw13_DelimDeep.l0
    by_cases hc : i < (nest m).length
    · have e : rd_T40 (nest m) (i : Int) = ⟨0, 1, if 2 * i + 1 = m then 1 else 2⟩ := nest_at m i hc
      have ew : wrap64 ((i : Int) + 1) = ((i + 1 : Nat) : Int) := by rw [wrap64_sm (by omega) (by omega)]; omega
      have ed : wrap64 (Int.tdiv (m : Int) 2) = ((m / 2 : Nat) : Int) := by
        rw [Int.tdiv_eq_ediv_of_nonneg (by omega), wrap64_sm (by omega) (by omega)]; omega
      have ih := deep_loop m hm k (i + 1) (by omega) (by omega)
      rw [if_pos (by omega), ed, e, ew, ih]
      by_cases h2 : i = m / 2
      · rw [if_pos (by omega), if_pos (by omega)]
        have : 2 * i + 1 = m := by omega
        simp [this]
      · rw [if_neg (by omega), if_pos (by omega)]
        have : ¬ 2 * i + 1 = m := by omega
        simp [this]
    · rw [if_neg (by omega)]
end Go.Proofs.Ytclondmclehiiaa.P
namespace Go.Proofs.Ytclondmclehiiaa.Pure
open Go.RowKit Go.Proofs.Ytclondmclehiiaa.P Go.Proofs.YtclondmclehiiaaW.PrintWords Go.Proofs.YtclondmclehiiaaW.PrintLast Go.Proofs.YtclondmclehiiaaW.PrintMore
theorem DelimDeep : incipitlaw13_DelimDeep.Pure := by
  intro a0 a1 _ _
  refine ⟨100, ?_⟩
  unfold incipitlaw13_DelimDeep.f
  have h0 := b63 a0
  have h1 := b63 a1
  rw [awake_true2]
  rw [wrap64_sm (a := 1 + Go.bits .and .i64 a0 63) (by omega) (by omega), wrap64_sm (a := 1 + Go.bits .and .i64 a1 63) (by omega) (by omega)]
  generalize Go.bits .and .i64 a0 63 = x at h0 ⊢
  generalize Go.bits .and .i64 a1 63 = y at h1 ⊢
  rw [deep_match (1 + x) (1 + y) (by omega) (by omega)]
  simp only [Option.bind_some]
  obtain ⟨m, hm, hm1, hm2⟩ : ∃ m : Nat, mn (1 + x) (1 + y) = m ∧ mn (1 + y) (1 + x) = m ∧ m ≤ 64 := by
    refine ⟨(mn (1 + x) (1 + y)).toNat, ?_, ?_, ?_⟩ <;> (unfold mn; (repeat' split) <;> omega)
  rw [hm, hm1]
  show (if ((nest m).length : Int) = _ then incipitlaw13_DelimDeep.l0 100 true (nest m) (m : Int) ((0 : Nat) : Int) else some false) = some true
  have hl := nest_length m
  rw [deep_loop m hm2 100 0 (by omega) (by omega), if_pos]
  rw [hl, wrap64_sm (a := (m : Int) + 1) (by omega) (by omega), Int.tdiv_eq_ediv_of_nonneg (by omega), wrap64_sm (by omega) (by omega)]
  omega
end Go.Proofs.Ytclondmclehiiaa.Pure
