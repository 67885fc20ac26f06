/- SlugFirst, the plain law. -/
import Derived.Test.YtbgbmphjjdiaeaaDoorPk21
import Derived.Test.YtbgbmphjjdiaeaaDoorSlugP
namespace Go.Proofs.YtbgbmphjjdiaeaaDoor.Pure
open Go.RowKit Go.Proofs.YtbgbmphjjdiaeaaDoor.P Go.Proofs.YtbgbmphjjdiaeaaDoorW.PrintWords Go.Proofs.YtbgbmphjjdiaeaaDoorW.PrintLast
set_option linter.unusedVariables false
theorem few_loop (l : List ByteArray) (hl : l.length ≤ 60) : ∀ (d i k : Nat), i + d = l.length → d < k → ∃ b, incipitlaw19_few.l0 k l (i : Int) = some b ∧ (b = true → ∀ j : Nat, i ≤ j → j < l.length → (rdOf ByteArray.empty l (j : Int)).size ≤ 300) := by
  intro d
  induction d with
  | zero =>
    intro i k hi hk
    obtain ⟨k, rfl⟩ : ∃ q, k = q + 1 := ⟨k - 1, by omega⟩
    rw [incipitlaw19_few.l0, if_neg (by omega)]
    exact ⟨true, rfl, fun _ j h1 h2 => by omega⟩
  | succ d ih =>
    intro i k hi hk
    obtain ⟨k, rfl⟩ : ∃ q, k = q + 1 := ⟨k - 1, by omega⟩
    have hw : wrap64 ((i : Int) + 1) = ((i + 1 : Nat) : Int) := by unfold wrap64; omega
    rw [incipitlaw19_few.l0, hw]
    clear hw
    rw [if_pos (by omega), if_pos (by omega)]
    by_cases h : ((rdOf ByteArray.empty l (i : Int)).size : Int) > 300
    · rw [if_pos h]
      exact ⟨false, rfl, fun h => by cases h⟩
    · rw [if_neg h]
      obtain ⟨b, h1, h2⟩ := ih (i + 1) k (by omega) (by omega)
      refine ⟨b, h1, fun hb j j1 j2 => ?_⟩
      by_cases e : j = i
      · rw [e]; omega
      · exact h2 hb j (by omega) j2
theorem few_f (l : List ByteArray) (k : Nat) (hk : 61 < k) : ∃ b, incipitlaw19_few.f k l = some b ∧ (b = true → l.length ≤ 60 ∧ ∀ x ∈ l, x.size ≤ 300) := by
  unfold incipitlaw19_few.f
  by_cases h : (l.length : Int) > 60
  · rw [if_pos h]
    exact ⟨false, rfl, fun h => by cases h⟩
  · rw [if_neg h]
    obtain ⟨b, h1, h2⟩ := few_loop l (by omega) l.length 0 k (by omega) (by omega)
    refine ⟨b, h1, fun hb => ⟨by omega, fun x hx => ?_⟩⟩
    obtain ⟨j, hj, rfl⟩ := List.mem_iff_getElem.1 hx
    have := h2 hb j (Nat.zero_le _) hj
    rw [show rdOf ByteArray.empty l (j : Int) = l[j] from by unfold rdOf; simp [List.getD_eq_getElem?_getD, List.getElem?_eq_getElem hj]] at this
    exact this
theorem uniqL_mem : ∀ (out l : List (List UInt8)), ∀ x ∈ T.uniqL out l, x ∈ out ∨ ∃ s ∈ l, ∃ n, n ≤ out.length + l.length ∧ x = T.tryN s n
  | out, [], x, hx => .inl hx
  | out, s :: l, x, hx => by
    rcases uniqL_mem (out ++ [T.freeS out s]) l x hx with h | ⟨s2, h1, n, h2, h3⟩
    · rcases List.mem_append.1 h with h | h
      · exact .inl h
      · rw [List.mem_singleton] at h
        exact .inr ⟨s, List.mem_cons_self .., T.freeN out s, by have := (T.freeN_spec out s).1; omega, h⟩
    · refine .inr ⟨s2, List.mem_cons_of_mem _ h1, n, ?_, h3⟩
      simp at h2
      rw [List.length_cons]
      omega
theorem uniq_sizes (l : List ByteArray) (hl : l.length ≤ 98) (hz : ∀ x ∈ l, x.size ≤ 300) : ∀ x ∈ uniqB l, x.size ≤ 400 := by
  intro x hx
  obtain ⟨y, hy, rfl⟩ := List.mem_map.1 hx
  rcases uniqL_mem [] _ y hy with h | ⟨s, h1, n, h2, rfl⟩
  · cases h
  · obtain ⟨z, hz1, rfl⟩ := List.mem_map.1 h1
    have h3 := hz z hz1
    have h4 := data_len z
    have h5 := dec_len2 n (by simp at h2; omega)
    rw [show (mkB (T.tryN z.data.toList n)).size = (T.tryN z.data.toList n).length from mk_size _]
    unfold T.tryN
    split
    · omega
    · rw [List.length_append, List.length_cons]
      omega
theorem uniqB_length (l : List ByteArray) : (uniqB l).length = l.length := by
  unfold uniqB T.uniq
  rw [List.length_map, T.uniqL_length]
  simp
theorem mkB_map (u : List (List UInt8)) : (u.map mkB).map (fun x : ByteArray => x.data.toList) = u := by
  rw [List.map_map]
  conv => rhs; rw [← List.map_id u]
  exact List.map_congr_left fun x _ => by simp [mkB]
theorem uniqB_twice (l : List ByteArray) : uniqB (uniqB l) = uniqB l := by
  conv => lhs; unfold uniqB
  rw [show uniqB l = (T.uniq (l.map (fun x : ByteArray => x.data.toList))).map mkB from rfl, mkB_map, T.uniq_self (T.uniq_nodup _)]
theorem uniqB_snoc (l : List ByteArray) (s : ByteArray) : uniqB (l ++ [s]) = uniqB l ++ [mkB (T.freeS (T.uniq (l.map (fun x : ByteArray => x.data.toList))) s.data.toList)] := by
  unfold uniqB
  rw [List.map_append, List.map_cons, List.map_nil, T.uniq_snoc, List.map_append]
  rfl
theorem unique_f (l : List ByteArray) (hl : l.length ≤ 98) (hz : ∀ x ∈ l, x.size ≤ 1000) : slug_Unique.f l = some (uniqB l) := by
  unfold slug_Unique.f
  rw [if_pos ⟨hl, List.all_eq_true.2 fun x hx => decide_eq_true (by have := hz x hx; omega)⟩]
theorem rdOf_map (u : List (List UInt8)) (i : Nat) (h : i < u.length) : (rdOf ByteArray.empty (u.map mkB) (i : Int)).toList = u[i] := by
  unfold rdOf
  rw [Int.toNat_natCast, List.getD_eq_getElem?_getD, List.getElem?_map, List.getElem?_eq_getElem h, toList_data]
  simp [mkB]
theorem first_loop (x0 : List ByteArray) (x1 : ByteArray) (u : List (List UInt8)) (W : List ByteArray) (hW : x0.length < W.length) (hu : u.length ≤ 4294967296) : ∀ (d i k : Nat) (fr : Bool), i + d = u.length → d < k → fr = decide (x1.data.toList ∉ u.take i) →
    incipitlaw19_SlugFirst.l0 k x0 x1 true (u.map mkB) W fr (i : Int) = some (((rdOf ByteArray.empty W (x0.length : Int)).toList == x1.toList) == decide (x1.data.toList ∉ u)) := by
  intro d
  induction d with
  | zero =>
    intro i k fr hi hk hf
    obtain ⟨k, rfl⟩ : ∃ q, k = q + 1 := ⟨k - 1, by omega⟩
    rw [List.take_of_length_le (by omega)] at hf
    rw [incipitlaw19_SlugFirst.l0, if_neg (by rw [List.length_map]; omega), if_pos rfl, if_pos (by omega), if_pos (by omega), hf]
  | succ d ih =>
    intro i k fr hi hk hf
    obtain ⟨k, rfl⟩ : ∃ q, k = q + 1 := ⟨k - 1, by omega⟩
    have hlt : i < u.length := by omega
    have hw : wrap64 ((i : Int) + 1) = ((i + 1 : Nat) : Int) := by unfold wrap64; omega
    have ht : u.take (i + 1) = u.take i ++ [u[i]] := List.take_succ_eq_append_getElem hlt
    rw [incipitlaw19_SlugFirst.l0, hw, rdOf_map u i hlt]
    clear hw
    rw [if_pos (by rw [List.length_map]; omega)]
    cases fr with
    | true =>
      rw [if_pos rfl, if_pos (by omega)]
      refine ih (i + 1) k _ (by omega) (by omega) ?_
      have hn : x1.data.toList ∉ u.take i := of_decide_eq_true hf.symm
      rw [ht, toList_data]
      by_cases e : u[i] = x1.data.toList
      · rw [e]
        simp
      · have : x1.data.toList ∉ u.take i ++ [u[i]] := by
          intro hm
          rcases List.mem_append.1 hm with h | h
          · exact hn h
          · exact e (List.mem_singleton.1 h).symm
        rw [decide_eq_true this]
        exact bne_iff_ne.2 e
    | false =>
      rw [if_neg (by decide)]
      refine ih (i + 1) k _ (by omega) (by omega) ?_
      have hn : ¬ (x1.data.toList ∉ u.take i) := of_decide_eq_false hf.symm
      rw [ht]
      refine (decide_eq_false ?_).symm
      intro h
      exact hn fun hm => h (List.mem_append.2 (.inl hm))
theorem SlugFirst (l0 : List ByteArray) (a1 : ByteArray) : ∃ k, incipitlaw19_SlugFirst.f k l0 a1 = some true := by
  refine ⟨200, ?_⟩
  unfold incipitlaw19_SlugFirst.f
  obtain ⟨b, hb, hbt⟩ := few_f l0 200 (by omega)
  rw [awake19 _ (by omega), Option.bind_some, hb, Option.bind_some]
  cases b with
  | false => rw [if_neg (by decide), incipitlaw19_SlugFirst.j0, if_pos rfl]
  | true =>
    obtain ⟨hl, hz⟩ := hbt rfl
    rw [if_pos rfl, incipitlaw19_SlugFirst.j0]
    by_cases hs : (a1.size : Int) > 300
    · rw [decide_eq_true hs, if_pos rfl]
    · have hU := uniqB_length l0
      have hlen : (uniqB (l0 ++ [a1])).length = l0.length + 1 := by rw [uniqB_length]; simp
      have hw : wrap64 ((l0.length : Int) + 1) = ((l0.length + 1 : Nat) : Int) := by unfold wrap64; omega
      have htk : (uniqB (l0 ++ [a1])).take ((l0.length : Int)).toNat = uniqB l0 := by
        rw [uniqB_snoc, Int.toNat_natCast, ← hU, List.take_left]
      have h1 := unique_f l0 (by omega) fun x hx => by have := hz x hx; omega
      have h2 := unique_f (uniqB l0) (by omega) fun x hx => by have := uniq_sizes l0 (by omega) hz x hx; omega
      have h3 := unique_f (l0 ++ [a1]) (by simp; omega) fun x hx => by
        rcases List.mem_append.1 hx with h | h
        · have := hz x h; omega
        · rw [List.mem_singleton.1 h]; omega
      rw [decide_eq_false hs, if_neg (by decide), h1, Option.bind_some, h2, Option.bind_some, uniqB_twice, Option.bind_some, if_pos (by simp; omega), Option.bind_some, if_pos (by simp; omega), List.nil_append, h3, Option.bind_some, same_self _ (by omega) _ (by omega), Option.bind_some, if_pos rfl,
        hlen, hw]
      clear hw
      rw [if_pos rfl, if_pos (by omega), if_pos (by omega), htk, same_self _ (by omega) _ (by omega), Option.bind_some, incipitlaw19_SlugFirst.j1, if_neg (by decide)]
      have hul : (T.uniq (l0.map (fun x : ByteArray => x.data.toList))).length = l0.length := by
        rw [← hU]
        simp [uniqB]
      have := first_loop l0 a1 (T.uniq (l0.map (fun x : ByteArray => x.data.toList))) (uniqB (l0 ++ [a1])) (by omega) (by omega) (T.uniq (l0.map (fun x : ByteArray => x.data.toList))).length 0 198 true (by omega) (by omega) (by simp)
      rw [show uniqB l0 = (T.uniq (l0.map (fun x : ByteArray => x.data.toList))).map mkB from rfl]
      refine this.trans ?_
      have hr : (rdOf ByteArray.empty (uniqB (l0 ++ [a1])) (l0.length : Int)).toList = T.freeS (T.uniq (l0.map (fun x : ByteArray => x.data.toList))) a1.data.toList := by
        rw [uniqB_snoc, toList_data]
        unfold rdOf
        rw [Int.toNat_natCast, List.getD_eq_getElem?_getD, ← hU, List.getElem?_concat_length]
        simp [mkB]
      rw [hr, toList_data]
      congr 1
      have hi := T.freeS_iff (T.uniq (l0.map (fun x : ByteArray => x.data.toList))) a1.data.toList
      by_cases hm : a1.data.toList ∈ T.uniq (l0.map (fun x : ByteArray => x.data.toList))
      · have hne : T.freeS (T.uniq (l0.map (fun x : ByteArray => x.data.toList))) a1.data.toList ≠ a1.data.toList := fun e => hi.1 e hm
        rw [beq_eq_false_iff_ne.2 hne, decide_eq_false (fun h => h hm)]
        rfl
      · rw [hi.2 hm, decide_eq_true hm]
        simp
end Go.Proofs.YtbgbmphjjdiaeaaDoor.Pure
