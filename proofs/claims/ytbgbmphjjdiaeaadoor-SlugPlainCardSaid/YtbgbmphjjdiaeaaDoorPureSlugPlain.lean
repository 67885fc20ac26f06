/- SlugPlain, the plain law. -/
import Derived.Test.YtbgbmphjjdiaeaaDoorPk20
import Derived.Test.YtbgbmphjjdiaeaaDoorSlugP
namespace Go.Proofs.YtbgbmphjjdiaeaaDoor.Pure
open Go Go.RowKit Go.Proofs.YtbgbmphjjdiaeaaDoor.P Go.Proofs.YtbgbmphjjdiaeaaDoorW.PrintWords Go.Proofs.YtbgbmphjjdiaeaaDoorW.PrintLast
set_option linter.unusedVariables false
theorem i64_and7 (n : Int) : ∃ m : Nat, bits .and .i64 n 7 = (m : Int) ∧ m < 8 := by
  have h7 : (BitVec.ofInt 64 7).toNat = 2 ^ 3 - 1 := by decide
  have key : (BitVec.ofInt 64 n &&& BitVec.ofInt 64 7).toNat = (n % ((2 ^ 64 : Nat) : Int)).toNat % 2 ^ 3 := by
    rw [BitVec.toNat_and, BitVec.toNat_ofInt, h7, Nat.and_two_pow_sub_one_eq_mod]
  refine ⟨(n % ((2 ^ 64 : Nat) : Int)).toNat % 2 ^ 3, ?_, by omega⟩
  show IntKind.i64.wrap ((BitVec.ofInt 64 n &&& BitVec.ofInt 64 7).toNat : Nat) = _
  rw [key, IntKind.wrap_i64]
  omega
theorem gap_list : ∀ m : Fin 8, ((⟨#[32, 32, 32, 32, 32, 32, 32]⟩ : ByteArray).extract 0 m.val).data.toList = List.replicate m.val 32 := by decide +kernel
theorem dash_list : ∀ m : Fin 8, ((⟨#[45, 45, 45, 45, 45, 45, 45]⟩ : ByteArray).extract 0 m.val).data.toList = List.replicate m.val 45 := by decide +kernel
theorem app_list (a b : ByteArray) : (a ++ b).data.toList = a.data.toList ++ b.data.toList := by simp
theorem slugC_rep (m : Nat) : T.slugC (List.replicate m 32) = List.replicate m 45 := by
  induction m with
  | zero => decide
  | succ m ih =>
    rw [List.replicate_succ, show (32 : UInt8) :: List.replicate m 32 = [32] ++ List.replicate m 32 from rfl, T.slugC_app (by decide) (by intro c hc; rw [List.eq_of_mem_replicate hc]; decide), ih, T.slugC_blank 32 rfl]
    rfl
theorem map_rep (m : Nat) : (List.replicate m (45 : UInt8)).map UInt8.toNat = List.replicate m 45 := by
  rw [List.map_replicate]; rfl
theorem pre_fn {A X : List UInt8} (c : UInt8) (hc : c ≠ 102) : Lib.hasPrefix ((c :: A) ++ X) [102, 110] = false := by
  unfold Lib.hasPrefix
  simp [List.isPrefixOf, Ne.symm hc]
section
variable {a b : ByteArray} (hA : ∀ c ∈ a.data.toList, T.plainB c) (hB : ∀ c ∈ b.data.toList, T.plainB c) {c0 : UInt8} {A1 : List UInt8} (h0 : a.data.toList = c0 :: A1) (hc : c0 ≠ 102)
include hA h0 hc
theorem plain_self : T.slugS a.data.toList = a.data.toList := by
  have hp := pre_fn (A := A1) (X := []) c0 hc
  rw [List.append_nil, ← h0] at hp
  show T.nameS (T.encs (T.slugC a.data.toList)) = _
  rw [T.slugC_plain hA, T.encs_plain (T.plain_range hA), T.nameS_self (by rw [h0]; simp) hp]
include hB
theorem plain_gap (m : Nat) : T.slugS (a.data.toList ++ List.replicate m 32 ++ b.data.toList) = a.data.toList ++ List.replicate m 45 ++ b.data.toList := by
  have hr : ∀ c ∈ List.replicate m (32 : UInt8), 0 < c.toNat ∧ c.toNat < 128 := by intro c hc; rw [List.eq_of_mem_replicate hc]; decide
  have hr2 : ∀ c ∈ List.replicate m (45 : UInt8), T.plainB c := by intro c hc; rw [List.eq_of_mem_replicate hc]; unfold T.plainB; decide
  have hall : ∀ c ∈ a.data.toList ++ List.replicate m 45 ++ b.data.toList, T.plainB c := by
    intro c hc
    rw [List.mem_append, List.mem_append] at hc
    rcases hc with (hc | hc) | hc
    · exact hA c hc
    · exact hr2 c hc
    · exact hB c hc
  have hab : ∀ c ∈ a.data.toList ++ List.replicate m 32, 0 < c.toNat ∧ c.toNat < 128 := by
    intro c hc
    rcases List.mem_append.1 hc with hc | hc
    · exact T.plain_range hA c hc
    · exact hr c hc
  have e : T.slugC (a.data.toList ++ List.replicate m 32 ++ b.data.toList) = (a.data.toList ++ List.replicate m 45 ++ b.data.toList).map UInt8.toNat := by
    rw [T.slugC_app hab (T.plain_range hB), T.slugC_app (T.plain_range hA) hr, T.slugC_plain hA, T.slugC_plain hB, slugC_rep, List.map_append, List.map_append, map_rep]
  have hp := pre_fn (A := A1) (X := List.replicate m 45 ++ b.data.toList) c0 hc
  rw [← h0, ← List.append_assoc] at hp
  show T.nameS (T.encs (T.slugC _)) = _
  rw [e, T.encs_plain (T.plain_range hall), T.nameS_self (by rw [h0]; simp) hp]
omit h0 hc hB
theorem plain_fn : T.slugS ([102, 110] ++ a.data.toList) = [115, 45, 102, 110] ++ a.data.toList := by
  have hf : ∀ c ∈ ([102, 110] : List UInt8), T.plainB c := by unfold T.plainB; decide
  have hall : ∀ c ∈ [102, 110] ++ a.data.toList, T.plainB c := by
    intro c hc
    rcases List.mem_append.1 hc with hc | hc
    · exact hf c hc
    · exact hA c hc
  show T.nameS (T.encs (T.slugC _)) = _
  rw [T.slugC_plain hall, T.encs_plain (T.plain_range hall)]
  unfold T.nameS
  rw [if_neg (by simp), if_pos (by unfold Lib.hasPrefix; simp [List.isPrefixOf])]
  rfl
include h0 hc
theorem plain_ask : T.slugS ([33] ++ a.data.toList ++ [63]) = a.data.toList := by
  have hp := pre_fn (A := A1) (X := []) c0 hc
  rw [List.append_nil, ← h0] at hp
  have h33 : T.slugC [33] = [] := by decide
  have h63 : T.slugC [63] = [] := by decide
  have hab : ∀ c ∈ [33] ++ a.data.toList, 0 < c.toNat ∧ c.toNat < 128 := by
    intro c hc
    rcases List.mem_append.1 hc with hc | hc
    · rw [List.mem_singleton.1 hc]; decide
    · exact T.plain_range hA c hc
  show T.nameS (T.encs (T.slugC _)) = _
  rw [T.slugC_app hab (by decide), T.slugC_app (by decide) (T.plain_range hA), h33, h63, T.slugC_plain hA, List.nil_append, List.append_nil, T.encs_plain (T.plain_range hA), T.nameS_self (by rw [h0]; simp) hp]
end
def okC (c : Int) : Prop := (97 ≤ c ∧ c ≤ 122) ∨ (48 ≤ c ∧ c ≤ 57) ∨ c = 45
theorem plain_ifs (c : Int) (R : Option Bool) : ((if c < 97 then (if c < 48 then (if c = 45 then R else (some true)) else (if c > 57 then (if c = 45 then R else (some true)) else R)) else (if c > 122 then (if c < 48 then (if c = 45 then R else (some true)) else (if c > 57 then (if c = 45 then R else (some true)) else R)) else R)) = R ∧ okC c) ∨ (if c < 97 then (if c < 48 then (if c = 45 then R else (some true)) else (if c > 57 then (if c = 45 then R else (some true)) else R)) else (if c > 122 then (if c < 48 then (if c = 45 then R else (some true)) else (if c > 57 then (if c = 45 then R else (some true)) else R)) else R)) = some true := by
  unfold okC
  repeat' split
  all_goals first | exact .inr rfl | exact .inl ⟨rfl, by omega⟩
theorem bt_nat (a : ByteArray) (i : Nat) (h : i < a.size) : bt a (i : Int) = ((a.data.toList[i]'(by simpa using h)).toNat : Int) := by
  unfold bt
  rw [dif_pos (by rw [Int.toNat_natCast]; exact h)]
  rfl
theorem plain_end (a b : ByteArray) (n : Int) (hs : a.size + b.size ≤ 300) (ha : a.data.toList ≠ []) (hA : ∀ c ∈ a.data.toList, T.plainB c) (hB : ∀ c ∈ b.data.toList, T.plainB c) (k : Nat) :
    incipitlaw19_SlugPlain.l0 (k + 1) a b n true ((a ++ b).size : Int) = some true := by
  obtain ⟨m, hm, hm8⟩ := i64_and7 n
  obtain ⟨c0, A1, h0⟩ : ∃ c0 A1, a.data.toList = c0 :: A1 := by
    cases h : a.data.toList with
    | nil => exact absurd h ha
    | cons c l => exact ⟨c, l, rfl⟩
  have hal := data_len a
  have hpos : 0 < a.size := by rw [← hal, h0]; simp
  have hb0 : bt a 0 = (c0.toNat : Int) := by
    have := bt_nat a 0 hpos
    rw [show ((0 : Nat) : Int) = 0 from rfl] at this
    rw [this]
    simp [h0]
  rw [incipitlaw19_SlugPlain.l0, if_pos (by omega), if_neg (by omega), if_pos (by omega), hb0, hm]
  by_cases hf : (c0.toNat : Int) = 102
  · rw [if_pos hf]
  · have hc : c0 ≠ 102 := fun e => hf (by rw [e]; rfl)
    rw [if_neg hf, if_pos (by omega), if_pos (by omega), if_pos rfl, slug_f a (by omega), Option.bind_some, plain_self hA h0 hc, if_pos (by rw [toList_data])]
    have g1 := gap_list ⟨m, hm8⟩
    have g2 := dash_list ⟨m, hm8⟩
    have l1 := data_len ((⟨#[32, 32, 32, 32, 32, 32, 32]⟩ : ByteArray).extract 0 m)
    have l2 := data_len ((⟨#[45, 45, 45, 45, 45, 45, 45]⟩ : ByteArray).extract 0 m)
    rw [Int.toNat_natCast]
    generalize (⟨#[32, 32, 32, 32, 32, 32, 32]⟩ : ByteArray).extract 0 m = G at g1 l1 ⊢
    generalize (⟨#[45, 45, 45, 45, 45, 45, 45]⟩ : ByteArray).extract 0 m = D at g2 l2 ⊢
    have g1 : G.data.toList = List.replicate m 32 := g1
    have g2 : D.data.toList = List.replicate m 45 := g2
    rw [g1, List.length_replicate] at l1
    rw [g2, List.length_replicate] at l2
    have e1 : (a ++ G ++ b).data.toList = a.data.toList ++ List.replicate m 32 ++ b.data.toList := by rw [app_list, app_list, g1]
    have e2 : (a ++ D ++ b).data.toList = a.data.toList ++ List.replicate m 45 ++ b.data.toList := by rw [app_list, app_list, g2]
    have e3 : ((⟨#[102, 110]⟩ : ByteArray) ++ a).data.toList = [102, 110] ++ a.data.toList := app_list _ _
    have e4 : ((⟨#[115, 45, 102, 110]⟩ : ByteArray) ++ a).data.toList = [115, 45, 102, 110] ++ a.data.toList := app_list _ _
    have e5 : ((⟨#[33]⟩ : ByteArray) ++ a ++ (⟨#[63]⟩ : ByteArray)).data.toList = [33] ++ a.data.toList ++ [63] := by rw [app_list, app_list]
    have s2 : (⟨#[102, 110]⟩ : ByteArray).size = 2 := rfl
    have s1 : (⟨#[33]⟩ : ByteArray).size = 1 := rfl
    have s3 : (⟨#[63]⟩ : ByteArray).size = 1 := rfl
    rw [if_pos (by omega), if_pos (by rw [ByteArray.size_append]; omega), slug_f _ (by rw [ByteArray.size_append, ByteArray.size_append]; omega), Option.bind_some, e1, plain_gap hA hB h0 hc m, if_pos (by omega), if_pos (by rw [ByteArray.size_append]; omega), if_pos (by rw [toList_data, toList_data, e2])]
    rw [if_pos (by omega), slug_f _ (by rw [ByteArray.size_append]; omega), Option.bind_some, e3, plain_fn hA, if_pos (by omega), if_pos (by rw [toList_data, toList_data, e4])]
    rw [if_pos (by omega), if_pos (by rw [ByteArray.size_append]; omega), slug_f _ (by rw [ByteArray.size_append, ByteArray.size_append]; omega), Option.bind_some, e5, plain_ask hA h0 hc]
    simp [toList_data]
theorem plain_loop (a b : ByteArray) (n : Int) (hs : a.size + b.size ≤ 300) (ha : a.data.toList ≠ []) : ∀ (d i k : Nat), i + d = (a ++ b).size → (∀ j, (h : j < i) → ∀ h2 : j < (a ++ b).data.toList.length, T.plainB ((a ++ b).data.toList[j])) → d < k → incipitlaw19_SlugPlain.l0 k a b n true (i : Int) = some true := by
  intro d
  induction d with
  | zero =>
    intro i k hi hall hk
    obtain ⟨k, rfl⟩ : ∃ q, k = q + 1 := ⟨k - 1, by omega⟩
    obtain rfl : i = (a ++ b).size := by omega
    have hmem : ∀ c ∈ (a ++ b).data.toList, T.plainB c := by
      intro c hc
      obtain ⟨j, hj, rfl⟩ := List.getElem_of_mem hc
      exact hall j (by have := data_len (a ++ b); omega) hj
    rw [app_list] at hmem
    exact plain_end a b n hs ha (fun c hc => hmem c (List.mem_append_left _ hc)) (fun c hc => hmem c (List.mem_append_right _ hc)) k
  | succ d ih =>
    intro i k hi hall hk
    obtain ⟨k, rfl⟩ : ∃ q, k = q + 1 := ⟨k - 1, by omega⟩
    have hlt : i < (a ++ b).size := by omega
    have hw : wrap64 ((i : Int) + 1) = ((i + 1 : Nat) : Int) := by rw [ByteArray.size_append] at hlt; unfold wrap64; omega
    rw [incipitlaw19_SlugPlain.l0, hw]
    clear hw
    rw [if_pos (by omega), if_pos (by omega), if_pos (by omega)]
    rcases plain_ifs (bt (a ++ b) (i : Int)) (incipitlaw19_SlugPlain.l0 k a b n true ((i + 1 : Nat) : Int)) with ⟨h, hok⟩ | h
    · rw [h]
      refine ih (i + 1) k (by omega) (fun j hj h2 => ?_) (by omega)
      by_cases e : j = i
      · subst e
        rw [bt_nat _ _ hlt] at hok
        unfold okC at hok
        unfold T.plainB
        omega
      · exact hall j (by omega) h2
    · exact h
theorem SlugPlain : incipitlaw19_SlugPlain.Pure := by
  intro a b n w1 w2 _
  refine ⟨400, ?_⟩
  unfold incipitlaw19_SlugPlain.f
  rw [awake19 _ (by omega), Option.bind_some]
  by_cases h1 : a.toList = []
  · rw [if_pos h1, incipitlaw19_SlugPlain.j0, if_pos rfl]
  · rw [if_neg h1]
    by_cases h2 : b.toList = []
    · rw [if_pos h2, incipitlaw19_SlugPlain.j0, if_pos rfl]
    · rw [if_neg h2]
      have hw : wrap64 ((a.size : Int) + (b.size : Int)) = (a.size : Int) + (b.size : Int) := by unfold wrap64; omega
      rw [hw, incipitlaw19_SlugPlain.j0]
      clear hw
      by_cases h3 : (a.size : Int) + (b.size : Int) > 300
      · rw [decide_eq_true h3, if_pos rfl]
      · rw [decide_eq_false h3, if_neg (by decide)]
        exact plain_loop a b n (by omega) (by rw [← toList_data]; exact h1) (a ++ b).size 0 _ (by omega) (fun j h => absurd h (by omega)) (by rw [ByteArray.size_append]; omega)
end Go.Proofs.YtbgbmphjjdiaeaaDoor.Pure
