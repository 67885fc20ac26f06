/- Trees: how many nodes one is, that the document's Same answers as the words do; an arena's slots after an Add: plain words. -/
import Derived.Test.YtikfbipjlkhgeaaPk2
import Derived.Test.YtikfbipjlkhgeaaSame
import Derived.Test.YtikfbipjlkhgeaaArenaAd
namespace Go.Proofs.Ytikfbipjlkhgeaa.P
open Go.RowKit Go.Proofs.YtikfbipjlkhgeaaW.PrintWords Go.Proofs.YtikfbipjlkhgeaaW.PrintLast Go.Proofs.YtikfbipjlkhgeaaW.PrintMore
set_option linter.unusedVariables false
set_option linter.unusedSimpArgs false
mutual
theorem S24_ind {P : S24 → Prop} (h : ∀ a0 a1 a2 a3 a4 a5 l, (∀ x ∈ l, P x) → P ⟨a0, a1, a2, a3, a4, a5, l⟩) : ∀ t, P t
  | ⟨a0, a1, a2, a3, a4, a5, l⟩ => h a0 a1 a2 a3 a4 a5 l (S24_indL h l)
theorem S24_indL {P : S24 → Prop} (h : ∀ a0 a1 a2 a3 a4 a5 l, (∀ x ∈ l, P x) → P ⟨a0, a1, a2, a3, a4, a5, l⟩) : ∀ (l : List S24), ∀ x ∈ l, P x
  | [], _, hx => by cases hx
  | y :: l, x, hx => (List.mem_cons.1 hx).elim (fun e => e ▸ S24_ind h y) (fun hx => S24_indL h l x hx)
end
mutual
def cntT : S24 → Nat
  | ⟨_, _, _, _, _, _, l⟩ => 1 + cntL l
def cntL : List S24 → Nat
  | [] => 0
  | x :: l => cntT x + cntL l
end
theorem cnt_pos (t : S24) : 1 ≤ cntT t := by
  obtain ⟨a0, a1, a2, a3, a4, a5, l⟩ := t
  unfold cntT
  omega
theorem len_cntL : ∀ l : List S24, l.length ≤ cntL l
  | [] => by simp
  | x :: l => by
    unfold cntL
    have := cnt_pos x
    have := len_cntL l
    simp
    omega
theorem cntL_mem : ∀ {l : List S24} {x : S24}, x ∈ l → cntT x ≤ cntL l
  | y :: l, x, h => by
    unfold cntL
    rcases List.mem_cons.1 h with rfl | h
    · omega
    · have := cntL_mem h
      omega
theorem rdm (l : List S24) (i : Nat) (hi : i < l.length) : rd_T24 l (i : Int) ∈ l := by
  show l.getD i z24 ∈ l
  rw [List.getD_eq_getElem?_getD, List.getElem?_eq_getElem hi]
  exact List.getElem_mem hi
theorem drop_rd (l : List S24) (i : Nat) (hi : i < l.length) : l.drop i = rd_T24 l (i : Int) :: l.drop (i + 1) := by
  rw [List.drop_eq_getElem_cons hi]
  congr 1
  show _ = l.getD i z24
  rw [List.getD_eq_getElem?_getD, List.getElem?_eq_getElem hi]; rfl
theorem wr64 {a : Int} (h0 : -4611686018427387904 ≤ a) (h1 : a ≤ 4611686018427387904) : wrap64 a = a := by unfold wrap64; omega
/-! Same -/
theorem own_some (a0 : Int) (a1 a2 : ByteArray) (a3 a4 : Int) (a5 : Bool) (l : List S24) (b0 : Int) (b1 b2 : ByteArray) (b3 b4 : Int) (b5 : Bool) (m : List S24) :
    incipitref06_Own.f a0 a1 a2 a3 a4 a5 l b0 b1 b2 b3 b4 b5 m = some ((a0 == b0) && ((a1.toList == b1.toList) && ((a2.toList == b2.toList) && ((a3 == b3) && ((a4 == b4) && (a5 == b5)))))) := by
  unfold incipitref06_Own.f
  by_cases h0 : a0 = b0
  · rw [if_pos h0, beq_iff_eq.2 h0, Bool.true_and]
    by_cases h1 : a1.toList = b1.toList
    · rw [if_pos h1, beq_iff_eq.2 h1, Bool.true_and]
      by_cases h2 : a2.toList = b2.toList
      · rw [if_pos h2, beq_iff_eq.2 h2, Bool.true_and]
        by_cases h3 : a3 = b3
        · rw [if_pos h3, beq_iff_eq.2 h3, Bool.true_and]
          by_cases h4 : a4 = b4
          · rw [if_pos h4, beq_iff_eq.2 h4, Bool.true_and]
          · rw [if_neg h4, beq_eq_false_iff_ne.2 h4, Bool.false_and]
        · rw [if_neg h3, beq_eq_false_iff_ne.2 h3, Bool.false_and]
      · rw [if_neg h2, beq_eq_false_iff_ne.2 h2, Bool.false_and]
    · rw [if_neg h1, beq_eq_false_iff_ne.2 h1, Bool.false_and]
  · rw [if_neg h0, beq_eq_false_iff_ne.2 h0, Bool.false_and]
theorem rsame_loop (a0 : Int) (a1 a2 : ByteArray) (a3 a4 : Int) (a5 : Bool) (l : List S24) (b0 : Int) (b1 b2 : ByteArray) (b3 b4 : Int) (b5 : Bool) (m : List S24) (hl : l.length < 4611686018427387904) (hlm : l.length = m.length)
    (IH : ∀ x ∈ l, ∀ y, Ev (fun k => incipitref06_Same.f k x.f0 x.f1 x.f2 x.f3 x.f4 x.f5 x.f6 y.f0 y.f1 y.f2 y.f3 y.f4 y.f5 y.f6) (sameT x y)) :
    ∀ (d i : Nat), i + d = l.length → Ev (fun k => incipitref06_Same.l0 k (i : Int) a0 a1 a2 a3 a4 a5 l b0 b1 b2 b3 b4 b5 m) (sameL (l.drop i) (m.drop i)) := by
  intro d
  induction d with
  | zero =>
    intro i hi
    rw [show l.drop i = [] from List.drop_eq_nil_of_le (by omega), show m.drop i = [] from List.drop_eq_nil_of_le (by omega)]
    refine Ev.step (f := fun _ => some true) (fun k => ?_) (by unfold sameL; exact Ev.now _)
    simp only [incipitref06_Same.l0]; rw [if_neg (by omega)]
  | succ d ih =>
    intro i hi
    have hlt : i < l.length := by omega
    have hltm : i < m.length := by omega
    have hi1 : wrap64 ((i : Int) + 1) = ((i + 1 : Nat) : Int) := by rw [wr64 (by omega) (by omega)]; omega
    rw [drop_rd l i hlt, drop_rd m i hltm]
    unfold sameL
    have hx := IH _ (rdm l i hlt) (rd_T24 m i)
    refine Ev.step (f := fun k => (incipitref06_Same.f k (rd_T24 l i).f0 (rd_T24 l i).f1 (rd_T24 l i).f2 (rd_T24 l i).f3 (rd_T24 l i).f4 (rd_T24 l i).f5 (rd_T24 l i).f6 (rd_T24 m i).f0 (rd_T24 m i).f1 (rd_T24 m i).f2 (rd_T24 m i).f3 (rd_T24 m i).f4 (rd_T24 m i).f5 (rd_T24 m i).f6).bind fun t => if t = true then incipitref06_Same.l0 k (wrap64 ((i : Int) + 1)) a0 a1 a2 a3 a4 a5 l b0 b1 b2 b3 b4 b5 m else some false) (fun k => ?_) ?_
    · simp only [incipitref06_Same.l0]; rw [if_pos (by omega), if_pos (by omega), if_pos (by omega)]
    · refine Ev.bind (f := fun k t => if t = true then incipitref06_Same.l0 k (wrap64 ((i : Int) + 1)) a0 a1 a2 a3 a4 a5 l b0 b1 b2 b3 b4 b5 m else some false) hx ?_
      cases hs : sameT (rd_T24 l i) (rd_T24 m i) with
      | false => exact Ev.now _
      | true =>
        rw [hi1, Bool.true_and]
        exact ih (i + 1) (by omega)
theorem rsame_ev : ∀ t : S24, t.f6.length < 4611686018427387904 → (∀ u : S24, cntT u ≤ cntT t → u.f6.length < 4611686018427387904) → ∀ y : S24, Ev (fun k => incipitref06_Same.f k t.f0 t.f1 t.f2 t.f3 t.f4 t.f5 t.f6 y.f0 y.f1 y.f2 y.f3 y.f4 y.f5 y.f6) (sameT t y) :=
  S24_ind fun a0 a1 a2 a3 a4 a5 l IH hl hu y => by
    obtain ⟨b0, b1, b2, b3, b4, b5, m⟩ := y
    refine Ev.step (f := fun k => if ((a0 == b0) && ((a1.toList == b1.toList) && ((a2.toList == b2.toList) && ((a3 == b3) && ((a4 == b4) && (a5 == b5)))))) = true then (incipitref06_Same.j0 k ((l.length : Int) != (m.length : Int)) a0 a1 a2 a3 a4 a5 l b0 b1 b2 b3 b4 b5 m) else (incipitref06_Same.j0 k true a0 a1 a2 a3 a4 a5 l b0 b1 b2 b3 b4 b5 m)) (fun k => ?_) ?_
    · simp only [incipitref06_Same.f]
      rw [own_some]
      rfl
    · have e : sameT ⟨a0, a1, a2, a3, a4, a5, l⟩ ⟨b0, b1, b2, b3, b4, b5, m⟩ = (((a0 == b0) && ((a1.toList == b1.toList) && ((a2.toList == b2.toList) && ((a3 == b3) && ((a4 == b4) && (a5 == b5)))))) && sameL l m) := by
        unfold sameT
        simp only [Bool.and_assoc]
      rw [e]
      cases hb : ((a0 == b0) && ((a1.toList == b1.toList) && ((a2.toList == b2.toList) && ((a3 == b3) && ((a4 == b4) && (a5 == b5)))))) with
      | false =>
        refine Ev.step (f := fun _ => some false) (fun k => ?_) (Ev.now _)
        rw [if_neg (by decide)]
        simp only [incipitref06_Same.j0]
        rfl
      | true =>
        rw [Bool.true_and]
        by_cases hlm : l.length = m.length
        · refine Ev.step (f := fun k => incipitref06_Same.l0 k ((0 : Nat) : Int) a0 a1 a2 a3 a4 a5 l b0 b1 b2 b3 b4 b5 m) (fun k => ?_) ?_
          · rw [if_pos rfl]
            simp only [incipitref06_Same.j0]
            rw [if_neg (by simp [hlm])]
            rfl
          · exact rsame_loop a0 a1 a2 a3 a4 a5 l b0 b1 b2 b3 b4 b5 m hl hlm (fun x hx => IH x hx (hu x (by have := cntL_mem hx; show cntT x ≤ cntT ⟨a0, a1, a2, a3, a4, a5, l⟩; rw [show cntT ⟨a0, a1, a2, a3, a4, a5, l⟩ = 1 + cntL l from by unfold cntT; rfl]; omega)) (fun u hu2 => hu u (by have := cntL_mem hx; show cntT u ≤ cntT ⟨a0, a1, a2, a3, a4, a5, l⟩; rw [show cntT ⟨a0, a1, a2, a3, a4, a5, l⟩ = 1 + cntL l from by unfold cntT; rfl]; omega))) l.length 0 (by omega)
        · refine Ev.step (f := fun _ => some false) (fun k => ?_) ?_
          · rw [if_pos rfl]
            simp only [incipitref06_Same.j0]
            rw [if_pos (by simp; omega)]
          · have e : sameL l m = false := by
              cases h : sameL l m with
              | false => rfl
              | true => exact absurd ((sameL_iff l m).1 h).1 hlm
            rw [e]
            exact Ev.now _
mutual
theorem sameT_refl : ∀ t, sameT t t = true
  | ⟨a0, a1, a2, a3, a4, a5, l⟩ => by
    unfold sameT
    rw [sameL_refl l]
    simp
theorem sameL_refl : ∀ l, sameL l l = true
  | [] => by unfold sameL; rfl
  | x :: l => by
    unfold sameL
    rw [sameT_refl x, sameL_refl l]
    rfl
end
/-- No slot has more children than there are slots. -/
def KB (sl : List S70) : Prop := ∀ i : Nat, i < sl.length → (rd_T70 sl (i : Int)).f2.length ≤ sl.length
theorem addS_len (sl : List S70) (p : Nat) (x : S70) (hp : p < sl.length) : (addS sl p x).length = sl.length + 1 := by
  unfold addS
  rw [if_pos ((hasB_iff sl p).2 ⟨by omega, by omega⟩)]
  unfold linkS
  simp
theorem addS_rd (sl : List S70) (p : Nat) (x : S70) (hp : p < sl.length) (j : Nat) (hj : j < sl.length + 1) :
    rd_T70 (addS sl p x) (j : Int) = if j = sl.length then ⟨x.f0, p, x.f2⟩ else if j = p then ⟨(rd_T70 sl (p : Int)).f0, (rd_T70 sl (p : Int)).f1, (rd_T70 sl (p : Int)).f2 ++ [(sl.length : Int)]⟩ else rd_T70 sl (j : Int) := by
  unfold addS
  rw [if_pos ((hasB_iff sl p).2 ⟨by omega, by omega⟩)]
  unfold linkS
  simp only [Int.toNat_natCast]
  have hl : sl.length < (sl ++ [x]).length := by simp
  have hx : rd_T70 (sl ++ [x]) (sl.length : Int) = x := by rw [rd70_app _ _ _ hl, if_neg (by omega)]
  have hpp : ∀ q : Nat, q < sl.length → rd_T70 (sl ++ [x]) (q : Int) = rd_T70 sl (q : Int) := fun q hq => by rw [rd70_app _ _ _ (by simp; omega), if_pos hq]
  rw [rd70_set _ _ _ _ (by simp; omega), rd70_set _ _ _ _ hl, rd70_set _ _ _ _ hl, hx, if_neg (show ¬ sl.length = p by omega), hpp p hp]
  by_cases h1 : j = sl.length
  · rw [if_pos h1, if_neg (by omega), if_pos h1.symm]
  · rw [if_neg h1]
    by_cases h2 : j = p
    · rw [if_pos h2, if_pos h2.symm]
    · rw [if_neg h2, if_neg (fun e => h2 e.symm), if_neg (fun e => h1 e.symm), hpp j (by omega)]
end Go.Proofs.Ytikfbipjlkhgeaa.P
