/- class.Fold: for every text the call returns the text without capitals. -/
import Derived.Test.YtbgbmphjjdiaeaaDoorFold
namespace Go.Proofs.YtbgbmphjjdiaeaaDoor.P
open Go.RowKit Go.Proofs.YtbgbmphjjdiaeaaDoorW.PrintWords Go.Proofs.YtbgbmphjjdiaeaaDoorW.PrintLast Go.Proofs.YtbgbmphjjdiaeaaDoorW.PrintMore
set_option linter.unusedVariables false
set_option linter.unusedSimpArgs false
theorem ownF_step {W W' : World} {B e size n : Nat} {v : Value} {xs : List Value} (h : W.ownsRowF B e size v n xs) (hb : Below W.heap.size W W') : W'.ownsRowF B e size v n xs :=
  h.kept (row := none) ⟨hb.os, hb.tape, hb.output, hb.size, fun k hk _ => hb.block k hk⟩ (by cases v.ownBlock <;> simp)
theorem bldAtF_step {T e B b : Nat} {p : Value} {bs : List Value} {w w1 : World} (h : Lib.BuilderAtF T e B b p bs w) (hb : Below w.heap.size w w1) : Lib.BuilderAtF T e B b p bs w1 := by
  obtain ⟨h1, v, h2, h3, h4⟩ := h
  exact ⟨h1, v, (hb.block b (Array.getElem?_eq_some_iff.1 h2).1).trans h2, ownF_step h3 hb, h4⟩
theorem bldF_step {T e B b : Nat} {bs : List Value} {w w1 : World} (h : Lib.IsBuilderF T e B b bs w) (hb : Below w.heap.size w w1) : Lib.IsBuilderF T e B b bs w1 := by
  rcases h with h | h
  · exact .inl (bldAtF_step h hb)
  · exact .inr (bldAtF_step h hb)
theorem bldF_block {T e B b : Nat} {bs : List Value} {w : World} (h : Lib.IsBuilderF T e B b bs w) : ∃ c, w.heap[b]? = some (.cells c T (0, 0)) := by
  rcases h with ⟨_, v, h, _⟩ | ⟨_, v, h, _⟩ <;> exact ⟨_, h⟩
/-- A row of characters, known whole. -/
def RuneRow (w : World) (g : Nat) (R : List Nat) : Prop := ∃ C, w.heap[g]? = some (.cells C 21 (0, 0)) ∧ ∀ i, i < R.length → C[i]? = some (.int .i32 ((R.getD i 0 : Nat) : Int))
theorem RuneRow.cell {w : World} {g : Nat} {R : List Nat} (h : RuneRow w g R) (i : Nat) (hi : i < R.length) : w.cell? ⟨g, i, none⟩ = some (.int .i32 ((R.getD i 0 : Nat) : Int)) := by
  obtain ⟨C, h1, h2⟩ := h
  rw [Lib.cell_of_heap h1]
  exact h2 i hi
theorem RuneRow.kept {w w' : World} {g b : Nat} {R : List Nat} (h : RuneRow w g R) (hk : Lib.OthersKept 5 (some b) w w') (hg : g ≠ b) : RuneRow w' g R := by
  obtain ⟨C, h1, h2⟩ := h
  exact ⟨C, hk g _ h1 (by simpa using hg) (fun c fz e => by cases e), h2⟩
theorem row_of_R {w : World} {base : Nat} {v : Value} {R : List Nat} (h : (Kd.int .i32).R 21 w base (fun _ => True) v (ints R)) (h0 : 0 < R.length) : ∃ g c, v = .slice (some ⟨g, 0, none⟩) R.length c ∧ base ≤ g ∧ R.length ≤ c ∧ c ≤ maxLen ∧ RuneRow w g R := by
  have ho := Kd.own_of_R h
  have hl : (ints R).length = R.length := by simp [ints]
  rw [hl] at ho
  rcases ho.2 with ⟨_, h2⟩ | ⟨g, cap, cur, hv, hg, hb, hn, hm, hc, ht⟩
  · omega
  · refine ⟨g, cap, hv, hg, hn, hm, cur, hb, fun i hi => ?_⟩
    have : (cur.toList.take (R.length * 1))[i]? = (encs (Value.int .i32) (ints R))[i]? := by rw [ht]
    rw [List.getElem?_take, if_pos (by omega), Array.getElem?_toList] at this
    rw [this]
    simp only [encs, ints, List.getElem?_map, List.getElem?_eq_getElem hi, Option.map_some, List.getD_eq_getElem?_getD, Option.getD_some]
theorem encs_foldL_len (l : List Nat) : (T.encs (T.foldL l)).length ≤ 8 * l.length := by
  induction l with
  | nil => simp [T.foldL, T.encs]
  | cons r l ih =>
    rw [T.foldL_cons, T.encs_append, List.length_append, List.length_cons]
    have h1 := (T.encs_len (T.foldR r)).2
    have h2 : (T.foldR r).length ≤ 2 := by
      rcases T.foldR_cases r with ⟨e, _⟩ | ⟨y, e, _⟩
      · rw [e]; simp
      · rw [e]; simp
    omega
theorem take_foldL (R : List Nat) (k : Nat) (hk : k < R.length) : T.foldL (R.take (k + 1)) = T.foldL (R.take k) ++ T.foldR (R.getD k 0) := by
  rw [List.take_succ_eq_append_getElem hk, T.foldL_append, List.getD_eq_getElem?_getD, List.getElem?_eq_getElem hk]
  simp [T.foldL]
structure FInv (R : List Nat) (k : Nat) (w wr : World) : Prop where
  bld : Lib.IsBuilderF 74 5 w.heap.size w.heap.size (Lib.byteCells (T.encs (T.foldL (R.take k)))) wr
  below : Below w.heap.size w wr
theorem FInv.next {R : List Nat} {k : Nat} {w wr w' : World} (h : FInv R k w wr) (hk : k < R.length) (hw : Wrote w.heap.size w.heap.size (Lib.byteCells (T.encs (T.foldL (R.take k))) ++ Lib.byteCells (T.encs (T.foldR (R.getD k 0)))) wr w') : FInv R (k + 1) w w' := by
  refine ⟨?_, h.below.trans hw.2.1⟩
  rw [take_foldL R k hk, T.encs_append, Lib.byteCells_append]
  exact .inr hw.1
section
set_option maxRecDepth 100000 in
set_option maxHeartbeats 4000000 in
theorem foldS_calls (a0 : ByteArray) (w : World) (hs : a0.size ≤ 1099511627776) (hT : Tabs w) :
    Calls Tryd.prog 31 #[.string a0] w fun e w' => e = .returned (.string ⟨(T.foldS a0.data.toList).toArray⟩) ∧ Below w.heap.size w w' := by
  have hb1 : Below w.heap.size w (w.alloc (.cells #[.pointer none, .slice none 0 0] 74)) := below_alloc (Below.refl _ _) _
  have CR := Aside0.mk (runes_calls a0 (w.alloc (.cells #[.pointer none, .slice none 0 0] 74)) hs (hT.below hb1))
  have HB1 := Aside0.mk hb1
  obtain ⟨R, hR⟩ : ∃ R, R = T.runes a0.data.toList := ⟨_, rfl⟩
  have hRl : R.length ≤ 3298534883328 := by rw [hR]; have := T.runes_len a0.data.toList; simp at this; omega
  have hRg : ∀ i, R.getD i 0 ≤ 1114111 := fun i => by
    by_cases hi : i < R.length
    · rw [List.getD_eq_getElem?_getD, List.getElem?_eq_getElem hi]
      have := (T.runes_ok a0.data.toList (R[i]) (by rw [← hR]; exact List.getElem_mem hi)).1
      unfold T.okR at this
      show R[i] ≤ _
      omega
    · rw [List.getD_eq_getElem?_getD, List.getElem?_eq_none (by omega)]
      exact Nat.zero_le _
  have HRG := Aside0.mk hRg
  have HRES : Aside0 (T.encs (T.foldL R) = T.foldS a0.data.toList) := ⟨by rw [hR]; rfl⟩
  rw [← hR] at CR
  have F0 : Aside0 (FInv R 0 w (w.alloc (.cells #[.pointer none, .slice none 0 0] 74))) := ⟨⟨Lib.IsBuilderF.of (Lib.fresh_isBuilder 74 5 w), hb1⟩⟩
  clear hR hs hT hb1 hRg
  obtain ⟨n, en⟩ : ∃ n, n = R.length := ⟨_, rfl⟩
  have HEN := Aside0.mk en
  have hn : n ≤ 3298534883328 := by omega
  have HLI : Aside0 ((ints R).length = n) := ⟨by rw [en]; simp [ints]⟩
  clear hRl en
  have hl8 : Aside0 (∀ k, (Lib.byteCells (T.encs (T.foldL (R.take k)))).length + 4 ≤ 140737488355328) := ⟨fun k => by
    rw [Lib.byteCells_length]
    have := encs_foldL_len (R.take k)
    have h2 : (R.take k).length ≤ R.length := by rw [List.length_take]; omega
    have := HEN.out
    omega⟩
  go_enter Tryd.func31, Tryd.ntmps31
  go_wp2_with (go_at_call 43; refine CR.out.mono ?_; rintro e w2 ⟨v, rfl, hv, hb2⟩; have HV := Aside0.mk hv; have hvs := Kd.R_slice hv; rw [HLI.out] at hvs; obtain ⟨A, c, rfl⟩ := hvs; have HB2 := Aside0.mk hb2; clear hv hb2)
  have HI : Aside0 (FInv R 0 w w2) := ⟨⟨bldF_step F0.out.bld HB2.out, F0.out.below.trans (HB2.out.mono (by simp))⟩⟩
  clear F0 CR
  rcases Nat.eq_zero_or_pos n with h0 | h0
  · have hr0 : R = [] := List.eq_nil_of_length_eq_zero (by rw [← HEN.out]; exact h0)
    have hn0 : ¬ ((0 : Int) < (n : Int)) := by omega
    have H0 := Aside0.mk h0
    clear h0 hn
    have CS : Aside0 (Calls Tryd.prog 56 #[.pointer (some ⟨w.heap.size, 0, none⟩)] w2 fun e w' => e = .returned (.string ⟨(T.encs (T.foldL R)).toArray⟩) ∧ Below w.heap.size w2 w') := ⟨by
      have hb := HI.out.bld
      rw [List.take_of_length_le (by rw [hr0]; simp)] at hb
      exact (Tryd.Builder_String_any_k w.heap.size w.heap.size (T.encs (T.foldL R)) w2 hb HI.out.below.size).mono fun e w' h => ⟨h.1, h.2.2.1⟩⟩
    have hr1 := Aside0.mk hr0
    clear hr0
    go_loopw [9] (fun v wr => v = .int .i64 0 ∧ wr = w2) (fun v _ => 0)
    case atStart => exact ⟨rfl, rfl⟩
    case round =>
      obtain ⟨rfl, rfl⟩ := hrel
      go_wp2_with (go_at_call 56; refine CS.out.mono ?_; rintro e w3 ⟨rfl, hb⟩; have HB := Aside0.mk hb; clear hb)
      go_ret
      exact ⟨by rw [HRES.out]; rfl, HI.out.below.trans HB.out⟩
  · obtain ⟨g, c', hv, hgb, hcn, hcm, hrow⟩ := row_of_R HV.out (by rw [← HEN.out]; exact h0)
    rw [← HEN.out] at hv hcn
    injection hv with hv1 hv2 hv3
    subst hv1
    subst hv3
    have HROW := Aside0.mk hrow
    have hgw : g ≠ w.heap.size := by simp at hgb; omega
    have hcm' : c ≤ 9223372036854775807 := by unfold maxLen at hcm; exact hcm
    clear hrow hgb hcm HV
    go_loopw [9] (fun v wr => ∃ k : Nat, k ≤ n ∧ v = .int .i64 k ∧ Aside0 (FInv R k w wr ∧ RuneRow wr g R)) (fun v _ => n - (intOf v).toNat)
    case atStart => exact ⟨0, by omega, rfl, ⟨HI.out, HROW.out⟩⟩
    case round =>
      clear HI HROW
      obtain ⟨k, hk, rfl, HI⟩ := hrel
      by_cases hlt : k < n
      · have hkR : k < R.length := by rw [← HEN.out]; exact hlt
        have c0 := HI.out.2.cell k hkR
        have hr := HRG.out k
        obtain ⟨x, hx⟩ : ∃ x, x = R.getD k 0 := ⟨_, rfl⟩
        have CF : Aside0 (Calls Tryd.prog 55 #[.pointer (some ⟨w.heap.size, 0, none⟩), .int .i32 (x : Int)] wr fun e w' => e = .returned (.tuple #[]) ∧ Wrote w.heap.size w.heap.size (Lib.byteCells (T.encs (T.foldL (R.take k))) ++ Lib.byteCells (T.encs (T.foldR (R.getD k 0)))) wr w') := ⟨by
          rw [← hx]
          exact fold_calls w.heap.size w.heap.size _ x (by omega) wr HI.out.1.bld (hl8.out k) HI.out.1.below.size⟩
        rw [← hx] at c0
        have HKR := Aside0.mk hkR
        clear hx hr hkR
        have hkI : (k : Int) < (n : Int) := by omega
        have hkN : IntKind.i64.wrap ((k : Int) + 1) = (k : Int) + 1 := by rw [IntKind.wrap_i64]; omega
        go_wp2_with (go_at_call 55; refine CF.out.mono ?_; rintro e w3 ⟨rfl, hw⟩; have HW := Aside0.mk hw; clear hw)
        go_roundw
        case rel => exact ⟨k + 1, by omega, by go_num, ⟨HI.out.1.next HKR.out HW.out, HI.out.2.kept HW.out.2.2 hgw⟩⟩
        case measure => simp [intOf]; omega
      · obtain rfl : k = n := by omega
        have hkI : ¬ (k : Int) < (k : Int) := by omega
        have CS : Aside0 (Calls Tryd.prog 56 #[.pointer (some ⟨w.heap.size, 0, none⟩)] wr fun e w' => e = .returned (.string ⟨(T.encs (T.foldL R)).toArray⟩) ∧ Below w.heap.size wr w') := ⟨by
          have hb := HI.out.1.bld
          rw [List.take_of_length_le (by rw [HEN.out]; exact Nat.le_refl _)] at hb
          exact (Tryd.Builder_String_any_k w.heap.size w.heap.size (T.encs (T.foldL R)) wr hb HI.out.1.below.size).mono fun e w' h => ⟨h.1, h.2.2.1⟩⟩
        go_wp2_with (go_at_call 56; refine CS.out.mono ?_; rintro e w3 ⟨rfl, hb⟩; have HB := Aside0.mk hb; clear hb)
        go_ret
        exact ⟨by rw [HRES.out]; rfl, HI.out.1.below.trans HB.out⟩
end
end Go.Proofs.YtbgbmphjjdiaeaaDoor.P
