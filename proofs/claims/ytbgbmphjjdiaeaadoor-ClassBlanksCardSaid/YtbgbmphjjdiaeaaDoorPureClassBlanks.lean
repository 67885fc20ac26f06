/- ClassBlanks, the plain law. -/
import Derived.Test.YtbgbmphjjdiaeaaDoorPk13
import Derived.Test.YtbgbmphjjdiaeaaDoorClassP
namespace Go.Proofs.YtbgbmphjjdiaeaaDoor.P
open Go.RowKit Go.Proofs.YtbgbmphjjdiaeaaDoorW.PrintWords Go.Proofs.YtbgbmphjjdiaeaaDoorW.PrintLast Go.Proofs.YtbgbmphjjdiaeaaDoorW.PrintMore
set_option linter.unusedVariables false
theorem i64_and3 (n : Int) : ∃ m : Nat, bits .and .i64 n 3 = (m : Int) ∧ m ≤ 3 := by
  have h31 : (BitVec.ofInt 64 3).toNat = 2 ^ 2 - 1 := by decide
  have key : (BitVec.ofInt 64 n &&& BitVec.ofInt 64 3).toNat = (n % ((2 ^ 64 : Nat) : Int)).toNat % 2 ^ 2 := by
    rw [BitVec.toNat_and, BitVec.toNat_ofInt, h31, Nat.and_two_pow_sub_one_eq_mod]
  refine ⟨(n % 4).toNat, ?_, by omega⟩
  show IntKind.i64.wrap ((BitVec.ofInt 64 n &&& BitVec.ofInt 64 3).toNat : Nat) = ((n % 4).toNat : Int)
  rw [key, IntKind.wrap_i64]
  omega
theorem data_app (a b : ByteArray) : (a ++ b).data.toList = a.data.toList ++ b.data.toList := by simp
theorem blanks_core (a b g : ByteArray) (n : Int) (k : Nat) (ha : a.size ≤ 500) (hb : b.size ≤ 500) (hg1 : 0 < g.size) (hg : g.size ≤ 4) (hw : ∀ c ∈ g.data.toList, T.whiteB c = true)
    (hr : rdOf ByteArray.empty ([(⟨#[32]⟩ : ByteArray), (⟨#[9]⟩ : ByteArray), (⟨#[10, 32, 13]⟩ : ByteArray), (⟨#[11, 12, 32, 32]⟩ : ByteArray)] : List ByteArray) (Go.bits .and .i64 n 3) = g)
    (h0 : 0 ≤ Go.bits .and .i64 n 3) (h4 : Go.bits .and .i64 n 3 < 4) : incipitlaw03_ClassBlanks.j0 (k + 1) a b n true false = some true := by
  have sz : ∀ x y : ByteArray, (x ++ y).size = x.size + y.size := fun x y => ByteArray.size_append
  have s32 : (⟨#[32]⟩ : ByteArray).size = 1 := rfl
  rw [incipitlaw03_ClassBlanks.j0, if_neg (by decide), Option.bind_some, hr, if_pos h0]
  refine (if_pos (show _ < ((4 : Nat) : Int) from h4)).trans ?_
  rw [if_pos rfl, if_pos (by omega), if_pos (by rw [sz]; omega), if_pos (by rw [sz, sz]; omega), if_pos (by rw [sz, sz, sz]; omega), label_f _ (by rw [sz, sz, sz, sz]; omega), Option.bind_some, if_pos (by omega), if_pos (by rw [sz, s32]; omega), label_f _ (by rw [sz, sz, s32]; omega), Option.bind_some]
  have e1 : ((((g ++ a) ++ g) ++ b) ++ g).data.toList = g.data.toList ++ (a.data.toList ++ (g.data.toList ++ (b.data.toList ++ g.data.toList))) := by
    rw [data_app, data_app, data_app, data_app]; simp only [List.append_assoc]
  have e2 : ((a ++ (⟨#[32]⟩ : ByteArray)) ++ b).data.toList = a.data.toList ++ 32 :: b.data.toList := by
    rw [data_app, data_app]; simp
  have hne : g.data.toList ≠ [] := by
    intro e
    have := congrArg List.length e
    rw [data_len, List.length_nil] at this
    omega
  rw [e1, e2, T.label_gaps _ _ _ hne hw]
  simp
end Go.Proofs.YtbgbmphjjdiaeaaDoor.P
namespace Go.Proofs.YtbgbmphjjdiaeaaDoor.Pure
open Go.RowKit Go.Proofs.YtbgbmphjjdiaeaaDoor.P Go.Proofs.YtbgbmphjjdiaeaaDoorW.PrintWords Go.Proofs.YtbgbmphjjdiaeaaDoorW.PrintLast
theorem ClassBlanks : incipitlaw03_ClassBlanks.Pure := by
  intro a b n _ _ _
  refine ⟨1, ?_⟩
  unfold incipitlaw03_ClassBlanks.f
  rw [awake03, Option.bind_some]
  by_cases ha : (a.size : Int) > 500
  · rw [if_pos ha]; rfl
  · rw [if_neg ha]
    by_cases hb : (b.size : Int) > 500
    · rw [decide_eq_true hb]; rfl
    · rw [decide_eq_false hb]
      obtain ⟨m, hm, hle⟩ := i64_and3 n
      have hcase : m = 0 ∨ m = 1 ∨ m = 2 ∨ m = 3 := by omega
      rcases hcase with h | h | h | h <;> rw [h] at hm
      · exact blanks_core a b ⟨#[32]⟩ n 0 (by omega) (by omega) (by decide) (by decide) (by decide) (by rw [hm]; rfl) (by rw [hm]; decide) (by rw [hm]; decide)
      · exact blanks_core a b ⟨#[9]⟩ n 0 (by omega) (by omega) (by decide) (by decide) (by decide) (by rw [hm]; rfl) (by rw [hm]; decide) (by rw [hm]; decide)
      · exact blanks_core a b ⟨#[10, 32, 13]⟩ n 0 (by omega) (by omega) (by decide) (by decide) (by decide) (by rw [hm]; rfl) (by rw [hm]; decide) (by rw [hm]; decide)
      · exact blanks_core a b ⟨#[11, 12, 32, 32]⟩ n 0 (by omega) (by omega) (by decide) (by decide) (by decide) (by rw [hm]; rfl) (by rw [hm]; decide) (by rw [hm]; decide)
end Go.Proofs.YtbgbmphjjdiaeaaDoor.Pure
