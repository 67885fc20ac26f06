/- The plain law of law19's examples, and of what its functions share. -/
import Derived.Test.YtbgbmphjjdiaeaaDoorPk17
import Derived.Test.YtbgbmphjjdiaeaaDoorPkU
namespace Go.Proofs.YtbgbmphjjdiaeaaDoor.P
open Go.RowKit Go.Proofs.YtbgbmphjjdiaeaaDoorW.PrintWords Go.Proofs.YtbgbmphjjdiaeaaDoorW.PrintLast
set_option linter.unusedVariables false
theorem mk_data (l : List UInt8) : (⟨l.toArray⟩ : ByteArray).data.toList = l := by simp
theorem mk_size (l : List UInt8) : (⟨l.toArray⟩ : ByteArray).size = l.length := by simp [ByteArray.size]
theorem data_len (a : ByteArray) : a.data.toList.length = a.size := by simp
theorem awS : T.slugS [65, 32, 98, 33] = [97, 45, 98] := by kernel_rfl
theorem awU : T.uniq [[97], [97], [97, 45, 49]] = [[97], [97, 45, 49], [97, 45, 49, 45, 49]] := by
  have d1 : Lib.decDigits 1 = [49] := Lib.decDigits_one (by omega)
  have t1 : ∀ s, T.tryN s 1 = s ++ [45, 49] := fun s => by unfold T.tryN; rw [if_neg (by omega), d1]
  have f1 : T.freeS [] [97] = [97] := T.freeS_self (by simp)
  have f2 : T.freeS [[97]] [97] = [97, 45, 49] := by
    unfold T.freeS
    rw [T.freeN_eq (n := 1) (fun m hm => by have e : m = 0 := (by omega); subst e; rw [show T.tryN [97] 0 = [97] from rfl]; simp) (by rw [t1]; simp), t1]
    rfl
  have f3 : T.freeS [[97], [97, 45, 49]] [97, 45, 49] = [97, 45, 49, 45, 49] := by
    unfold T.freeS
    rw [T.freeN_eq (n := 1) (fun m hm => by have e : m = 0 := (by omega); subst e; rw [show T.tryN [97, 45, 49] 0 = [97, 45, 49] from rfl]; simp) (by rw [t1]; simp), t1]
    rfl
  unfold T.uniq
  rw [T.uniqL, f1, T.uniqL, List.nil_append, f2, T.uniqL, show ([[97]] ++ [[97, 45, 49]] : List (List UInt8)) = [[97], [97, 45, 49]] from rfl, f3, T.uniqL]
  rfl
theorem toList_data (s : ByteArray) : s.toList = s.data.toList := ByteArray.toList_eq s
theorem slug_f (a : ByteArray) (h : a.size ≤ 1073741824) : slug_Slug.f a = some ⟨(T.slugS a.data.toList).toArray⟩ := by unfold slug_Slug.f; rw [if_pos h]
theorem slug_l (l : List UInt8) (h : l.length ≤ 1073741824) : slug_Slug.f ⟨l.toArray⟩ = some ⟨(T.slugS l).toArray⟩ := by rw [slug_f _ (by rw [mk_size]; exact h), mk_data]
theorem nameS_len (n : List UInt8) : (T.nameS n).length ≤ n.length + 8 := by
  unfold T.nameS
  split
  · simp
  · split
    · simp
    · omega
theorem slugS_len (l : List UInt8) : (T.slugS l).length ≤ 24 * l.length + 8 := by
  have h1 := nameS_len (T.encs (T.slugL (T.foldL (T.runes l))))
  have h2 := encs_slugL_len (T.foldL (T.runes l))
  have h3 := foldL_len2 (T.runes l)
  have h4 := T.runes_len l
  show (T.nameS _).length ≤ _
  omega
theorem sameRow_loop (x : List ByteArray) (hl : x.length ≤ 4294967296) : ∀ (d i k : Nat), i + d = x.length → d < k → incipitref15_SameRow.l0 k x x (i : Int) = some true := by
  intro d
  induction d with
  | zero =>
    intro i k hi hk
    obtain ⟨k, rfl⟩ : ∃ q, k = q + 1 := ⟨k - 1, by omega⟩
    rw [incipitref15_SameRow.l0, if_neg (by omega)]
  | succ d ih =>
    intro i k hi hk
    obtain ⟨k, rfl⟩ : ∃ q, k = q + 1 := ⟨k - 1, by omega⟩
    have hw : wrap64 ((i : Int) + 1) = ((i + 1 : Nat) : Int) := by unfold wrap64; omega
    rw [incipitref15_SameRow.l0, hw]
    clear hw
    rw [if_pos (by omega), if_pos (by omega), if_pos (by omega), if_pos rfl]
    exact ih (i + 1) k (by omega) (by omega)
theorem same_self (x : List ByteArray) (hl : x.length ≤ 4294967296) (k : Nat) (hk : x.length < k) : incipitlaw19_same.f k x x = some true := by
  unfold incipitlaw19_same.f incipitref15_SameRow.f
  have := sameRow_loop x hl x.length 0 k (by omega) hk
  rw [if_pos rfl, show ((0 : Nat) : Int) = 0 from rfl] at *
  rw [this]
  rfl
theorem awake19 (k : Nat) (hk : 3 < k) : incipitlaw19_awake.f k = some true := by
  unfold incipitlaw19_awake.f
  have h1 : slug_Slug.f (⟨#[65, 32, 98, 33]⟩ : ByteArray) = some ⟨#[97, 45, 98]⟩ := by
    have := slug_l [65, 32, 98, 33] (by decide)
    rw [awS] at this
    exact this
  have h2 : slug_Unique.f ([(⟨#[97]⟩ : ByteArray), (⟨#[97]⟩ : ByteArray), (⟨#[97, 45, 49]⟩ : ByteArray)] : List ByteArray) = some [⟨#[97]⟩, ⟨#[97, 45, 49]⟩, ⟨#[97, 45, 49, 45, 49]⟩] := by
    unfold slug_Unique.f
    rw [if_pos (by decide)]
    unfold uniqB
    rw [show List.map (fun x : ByteArray => x.data.toList) [(⟨#[97]⟩ : ByteArray), (⟨#[97]⟩ : ByteArray), (⟨#[97, 45, 49]⟩ : ByteArray)] = [[97], [97], [97, 45, 49]] from rfl, awU]
    rfl
  rw [h1, Option.bind_some, if_pos (by rw [toList_data]), h2, Option.bind_some, same_self _ (by decide) k (by simpa using hk), Option.bind_some]
end Go.Proofs.YtbgbmphjjdiaeaaDoor.P
/- Few and short texts; names as byte strings: shared by law19's plain laws (PureSlugFirst holds the same lemmas itself). -/
namespace Go.Proofs.YtbgbmphjjdiaeaaDoor.Pure
open Go.RowKit Go.Proofs.YtbgbmphjjdiaeaaDoor.P Go.Proofs.YtbgbmphjjdiaeaaDoorW.PrintWords Go.Proofs.YtbgbmphjjdiaeaaDoorW.PrintLast
set_option linter.unusedVariables false
theorem few_loop (l : List ByteArray) (hl : l.length ≤ 60) : ∀ (d i k : Nat), i + d = l.length → d < k → ∃ b, incipitlaw19_few.l0 k l (i : Int) = some b ∧ (b = true → ∀ j : Nat, i ≤ j → j < l.length → (rdOf ByteArray.empty l (j : Int)).size ≤ 300) := by
  intro d
  induction d with
  | zero =>
    intro i k hi hk
    obtain ⟨k, rfl⟩ : ∃ q, k = q + 1 := ⟨k - 1, by omega⟩
    rw [incipitlaw19_few.l0, if_neg (by omega)]
    exact ⟨true, rfl, fun _ j h1 h2 => by omega⟩
  | succ d ih =>
    intro i k hi hk
    obtain ⟨k, rfl⟩ : ∃ q, k = q + 1 := ⟨k - 1, by omega⟩
    have hw : wrap64 ((i : Int) + 1) = ((i + 1 : Nat) : Int) := by unfold wrap64; omega
    rw [incipitlaw19_few.l0, hw]
    clear hw
    rw [if_pos (by omega), if_pos (by omega)]
    by_cases h : ((rdOf ByteArray.empty l (i : Int)).size : Int) > 300
    · rw [if_pos h]
      exact ⟨false, rfl, fun h => by cases h⟩
    · rw [if_neg h]
      obtain ⟨b, h1, h2⟩ := ih (i + 1) k (by omega) (by omega)
      refine ⟨b, h1, fun hb j j1 j2 => ?_⟩
      by_cases e : j = i
      · rw [e]; omega
      · exact h2 hb j (by omega) j2
theorem few_f (l : List ByteArray) (k : Nat) (hk : 61 < k) : ∃ b, incipitlaw19_few.f k l = some b ∧ (b = true → l.length ≤ 60 ∧ ∀ x ∈ l, x.size ≤ 300) := by
  unfold incipitlaw19_few.f
  by_cases h : (l.length : Int) > 60
  · rw [if_pos h]
    exact ⟨false, rfl, fun h => by cases h⟩
  · rw [if_neg h]
    obtain ⟨b, h1, h2⟩ := few_loop l (by omega) l.length 0 k (by omega) (by omega)
    refine ⟨b, h1, fun hb => ⟨by omega, fun x hx => ?_⟩⟩
    obtain ⟨j, hj, rfl⟩ := List.mem_iff_getElem.1 hx
    have := h2 hb j (Nat.zero_le _) hj
    rw [show rdOf ByteArray.empty l (j : Int) = l[j] from by unfold rdOf; simp [List.getD_eq_getElem?_getD, List.getElem?_eq_getElem hj]] at this
    exact this
theorem uniqL_mem : ∀ (out l : List (List UInt8)), ∀ x ∈ T.uniqL out l, x ∈ out ∨ ∃ s ∈ l, ∃ n, n ≤ out.length + l.length ∧ x = T.tryN s n
  | out, [], x, hx => .inl hx
  | out, s :: l, x, hx => by
    rcases uniqL_mem (out ++ [T.freeS out s]) l x hx with h | ⟨s2, h1, n, h2, h3⟩
    · rcases List.mem_append.1 h with h | h
      · exact .inl h
      · rw [List.mem_singleton] at h
        exact .inr ⟨s, List.mem_cons_self .., T.freeN out s, by have := (T.freeN_spec out s).1; omega, h⟩
    · refine .inr ⟨s2, List.mem_cons_of_mem _ h1, n, ?_, h3⟩
      simp at h2
      rw [List.length_cons]
      omega
theorem uniq_sizes (l : List ByteArray) (hl : l.length ≤ 98) (hz : ∀ x ∈ l, x.size ≤ 300) : ∀ x ∈ uniqB l, x.size ≤ 400 := by
  intro x hx
  obtain ⟨y, hy, rfl⟩ := List.mem_map.1 hx
  rcases uniqL_mem [] _ y hy with h | ⟨s, h1, n, h2, rfl⟩
  · cases h
  · obtain ⟨z, hz1, rfl⟩ := List.mem_map.1 h1
    have h3 := hz z hz1
    have h4 := data_len z
    have h5 := dec_len2 n (by simp at h2; omega)
    rw [show (mkB (T.tryN z.data.toList n)).size = (T.tryN z.data.toList n).length from mk_size _]
    unfold T.tryN
    split
    · omega
    · rw [List.length_append, List.length_cons]
      omega
theorem uniqB_length (l : List ByteArray) : (uniqB l).length = l.length := by
  unfold uniqB T.uniq
  rw [List.length_map, T.uniqL_length]
  simp
theorem mkB_map (u : List (List UInt8)) : (u.map mkB).map (fun x : ByteArray => x.data.toList) = u := by
  rw [List.map_map]
  conv => rhs; rw [← List.map_id u]
  exact List.map_congr_left fun x _ => by simp [mkB]
theorem uniqB_twice (l : List ByteArray) : uniqB (uniqB l) = uniqB l := by
  conv => lhs; unfold uniqB
  rw [show uniqB l = (T.uniq (l.map (fun x : ByteArray => x.data.toList))).map mkB from rfl, mkB_map, T.uniq_self (T.uniq_nodup _)]
theorem uniqB_snoc (l : List ByteArray) (s : ByteArray) : uniqB (l ++ [s]) = uniqB l ++ [mkB (T.freeS (T.uniq (l.map (fun x : ByteArray => x.data.toList))) s.data.toList)] := by
  unfold uniqB
  rw [List.map_append, List.map_cons, List.map_nil, T.uniq_snoc, List.map_append]
  rfl
theorem unique_f (l : List ByteArray) (hl : l.length ≤ 98) (hz : ∀ x ∈ l, x.size ≤ 1000) : slug_Unique.f l = some (uniqB l) := by
  unfold slug_Unique.f
  rw [if_pos ⟨hl, List.all_eq_true.2 fun x hx => decide_eq_true (by have := hz x hx; omega)⟩]
theorem rdOf_map (u : List (List UInt8)) (i : Nat) (h : i < u.length) : (rdOf ByteArray.empty (u.map mkB) (i : Int)).toList = u[i] := by
  unfold rdOf
  rw [Int.toNat_natCast, List.getD_eq_getElem?_getD, List.getElem?_map, List.getElem?_eq_getElem h, toList_data]
  simp [mkB]
end Go.Proofs.YtbgbmphjjdiaeaaDoor.Pure
