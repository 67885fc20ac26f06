/- Trees as plain data: how many nodes, how deep; what the printed functions over trees answer, with rounds enough. -/
import Derived.Test.YtikfbipjlkhgeaaPk1
import Derived.Test.YtikfbipjlkhgeaaPk2
import Derived.Test.YtikfbipjlkhgeaaPk3
import Derived.Test.YtikfbipjlkhgeaaPk4
import Derived.Test.YtikfbipjlkhgeaaSame
import Derived.Test.YtikfbipjlkhgeaaWell
import Derived.Test.YtikfbipjlkhgeaaOpenNode
namespace Go.Proofs.Ytikfbipjlkhgeaa.P
open Go.RowKit Go.Proofs.YtikfbipjlkhgeaaW.PrintWords Go.Proofs.YtikfbipjlkhgeaaW.PrintLast Go.Proofs.YtikfbipjlkhgeaaW.PrintMore
set_option linter.unusedVariables false
set_option linter.unusedSimpArgs false
mutual
theorem S24_ind {P : S24 → Prop} (h : ∀ a0 a1 a2 a3 a4 a5 l, (∀ x ∈ l, P x) → P ⟨a0, a1, a2, a3, a4, a5, l⟩) : ∀ t, P t
  | ⟨a0, a1, a2, a3, a4, a5, l⟩ => h a0 a1 a2 a3 a4 a5 l (S24_indL h l)
theorem S24_indL {P : S24 → Prop} (h : ∀ a0 a1 a2 a3 a4 a5 l, (∀ x ∈ l, P x) → P ⟨a0, a1, a2, a3, a4, a5, l⟩) : ∀ (l : List S24), ∀ x ∈ l, P x
  | [], _, hx => by cases hx
  | y :: l, x, hx => (List.mem_cons.1 hx).elim (fun e => e ▸ S24_ind h y) (fun hx => S24_indL h l x hx)
end
mutual
def cntT : S24 → Nat
  | ⟨_, _, _, _, _, _, l⟩ => 1 + cntL l
def cntL : List S24 → Nat
  | [] => 0
  | x :: l => cntT x + cntL l
end
mutual
def depT : S24 → Nat
  | ⟨_, _, _, _, _, _, l⟩ => depL l + 1
def depL : List S24 → Nat
  | [] => 0
  | x :: l => max (depT x) (depL l)
end
mutual
theorem dep_cnt : ∀ t, depT t ≤ cntT t
  | ⟨_, _, _, _, _, _, l⟩ => by
    unfold depT cntT
    have := dep_cntL l
    omega
theorem dep_cntL : ∀ l, depL l ≤ cntL l
  | [] => by unfold depL cntL; omega
  | x :: l => by
    unfold depL cntL
    have := dep_cnt x
    have := dep_cntL l
    omega
end
theorem cnt_pos (t : S24) : 1 ≤ cntT t := by
  obtain ⟨a0, a1, a2, a3, a4, a5, l⟩ := t
  unfold cntT
  omega
theorem len_cntL : ∀ l : List S24, l.length ≤ cntL l
  | [] => by simp
  | x :: l => by
    unfold cntL
    have := cnt_pos x
    have := len_cntL l
    simp
    omega
theorem cntL_mem : ∀ {l : List S24} {x : S24}, x ∈ l → cntT x ≤ cntL l
  | y :: l, x, h => by
    unfold cntL
    rcases List.mem_cons.1 h with rfl | h
    · omega
    · have := cntL_mem h
      omega
theorem rdm (l : List S24) (i : Nat) (hi : i < l.length) : rd_T24 l (i : Int) ∈ l := by
  show l.getD i z24 ∈ l
  rw [List.getD_eq_getElem?_getD, List.getElem?_eq_getElem hi]
  exact List.getElem_mem hi
theorem drop_rd (l : List S24) (i : Nat) (hi : i < l.length) : l.drop i = rd_T24 l (i : Int) :: l.drop (i + 1) := by
  rw [List.drop_eq_getElem_cons hi]
  congr 1
  show _ = l.getD i z24
  rw [List.getD_eq_getElem?_getD, List.getElem?_eq_getElem hi]; rfl
theorem wr64 {a : Int} (h0 : -4611686018427387904 ≤ a) (h1 : a ≤ 4611686018427387904) : wrap64 a = a := by unfold wrap64; omega
/-! Count -/
theorem count_loop (l : List S24) (hl : l.length < 4611686018427387904) (IH : ∀ x ∈ l, Ev (fun k => tree_Count.f k x.f0 x.f1 x.f2 x.f3 x.f4 x.f5 x.f6) (cntT x : Int)) :
    ∀ (d i : Nat) (acc : Int), i + d = l.length → 0 ≤ acc → acc + cntL (l.drop i) < 4611686018427387904 → Ev (fun k => tree_Count.l0 k acc l (l.length : Int) (i : Int)) (acc + cntL (l.drop i)) := by
  intro d
  induction d with
  | zero =>
    intro i acc hi h0 h1
    have e : l.drop i = [] := List.drop_eq_nil_of_le (by omega)
    rw [e]
    refine Ev.step (f := fun _ => some acc) (fun k => ?_) ?_
    · simp only [tree_Count.l0]; rw [if_neg (by omega)]
    · show Ev _ (acc + ((cntL [] : Nat) : Int))
      rw [show (cntL [] : Nat) = 0 from by unfold cntL; rfl]
      simpa using Ev.now acc
  | succ d ih =>
    intro i acc hi h0 h1
    have hlt : i < l.length := by omega
    rw [drop_rd l i hlt] at h1 ⊢
    unfold cntL at h1 ⊢
    have hx := IH _ (rdm l i hlt)
    have hi1 : wrap64 ((i : Int) + 1) = ((i + 1 : Nat) : Int) := by rw [wr64 (by omega) (by omega)]; omega
    refine Ev.step (f := fun k => (tree_Count.f k (rd_T24 l i).f0 (rd_T24 l i).f1 (rd_T24 l i).f2 (rd_T24 l i).f3 (rd_T24 l i).f4 (rd_T24 l i).f5 (rd_T24 l i).f6).bind fun t => tree_Count.l0 k (wrap64 (acc + t)) l (l.length : Int) (wrap64 ((i : Int) + 1))) (fun k => ?_) ?_
    · simp only [tree_Count.l0]; rw [if_pos (by omega), if_pos (by omega), if_pos (by omega)]
    · refine Ev.bind (f := fun k t => tree_Count.l0 k (wrap64 (acc + t)) l (l.length : Int) (wrap64 ((i : Int) + 1))) hx ?_
      rw [hi1, wr64 (by omega) (by omega)]
      have := ih (i + 1) (acc + cntT (rd_T24 l i)) (by omega) (by omega) (by omega)
      rw [show acc + ((cntT (rd_T24 l (i : Int)) + cntL (l.drop (i + 1)) : Nat) : Int) = acc + cntT (rd_T24 l i) + cntL (l.drop (i + 1)) by omega]
      exact this
theorem count_ev : ∀ t : S24, cntT t < 4611686018427387904 → Ev (fun k => tree_Count.f k t.f0 t.f1 t.f2 t.f3 t.f4 t.f5 t.f6) (cntT t : Int) :=
  S24_ind fun a0 a1 a2 a3 a4 a5 l IH h => by
    unfold cntT at h ⊢
    have hl := len_cntL l
    refine Ev.step (f := fun k => tree_Count.l0 k 1 l (l.length : Int) ((0 : Nat) : Int)) (fun k => by simp only [tree_Count.f]; rfl) ?_
    have := count_loop l (by omega) (fun x hx => IH x hx (by have := cntL_mem hx; omega)) l.length 0 1 (by omega) (by omega) (by rw [List.drop_zero]; omega)
    rw [List.drop_zero] at this
    rw [show ((1 + cntL l : Nat) : Int) = 1 + cntL l by omega]
    exact this
theorem rcount_loop (a0 : Int) (a1 a2 : ByteArray) (a3 a4 : Int) (a5 : Bool) (l : List S24) (hl : l.length < 4611686018427387904) (IH : ∀ x ∈ l, Ev (fun k => incipitref06_Count.f k x.f0 x.f1 x.f2 x.f3 x.f4 x.f5 x.f6) (cntT x : Int)) :
    ∀ (d i : Nat) (acc : Int), i + d = l.length → 0 ≤ acc → acc + cntL (l.drop i) < 4611686018427387904 → Ev (fun k => incipitref06_Count.l0 k acc (i : Int) a0 a1 a2 a3 a4 a5 l) (acc + cntL (l.drop i)) := by
  intro d
  induction d with
  | zero =>
    intro i acc hi h0 h1
    have e : l.drop i = [] := List.drop_eq_nil_of_le (by omega)
    rw [e]
    refine Ev.step (f := fun _ => some acc) (fun k => ?_) ?_
    · simp only [incipitref06_Count.l0]; rw [if_neg (by omega)]
    · show Ev _ (acc + ((cntL [] : Nat) : Int))
      rw [show (cntL [] : Nat) = 0 from by unfold cntL; rfl]
      simpa using Ev.now acc
  | succ d ih =>
    intro i acc hi h0 h1
    have hlt : i < l.length := by omega
    rw [drop_rd l i hlt] at h1 ⊢
    unfold cntL at h1 ⊢
    have hx := IH _ (rdm l i hlt)
    have hi1 : wrap64 ((i : Int) + 1) = ((i + 1 : Nat) : Int) := by rw [wr64 (by omega) (by omega)]; omega
    refine Ev.step (f := fun k => (incipitref06_Count.f k (rd_T24 l i).f0 (rd_T24 l i).f1 (rd_T24 l i).f2 (rd_T24 l i).f3 (rd_T24 l i).f4 (rd_T24 l i).f5 (rd_T24 l i).f6).bind fun t => incipitref06_Count.l0 k (wrap64 (acc + t)) (wrap64 ((i : Int) + 1)) a0 a1 a2 a3 a4 a5 l) (fun k => ?_) ?_
    · simp only [incipitref06_Count.l0]; rw [if_pos (by omega), if_pos (by omega)]
    · refine Ev.bind (f := fun k t => incipitref06_Count.l0 k (wrap64 (acc + t)) (wrap64 ((i : Int) + 1)) a0 a1 a2 a3 a4 a5 l) hx ?_
      rw [hi1, wr64 (by omega) (by omega)]
      have := ih (i + 1) (acc + cntT (rd_T24 l i)) (by omega) (by omega) (by omega)
      rw [show acc + ((cntT (rd_T24 l (i : Int)) + cntL (l.drop (i + 1)) : Nat) : Int) = acc + cntT (rd_T24 l i) + cntL (l.drop (i + 1)) by omega]
      exact this
theorem rcount_ev : ∀ t : S24, cntT t < 4611686018427387904 → Ev (fun k => incipitref06_Count.f k t.f0 t.f1 t.f2 t.f3 t.f4 t.f5 t.f6) (cntT t : Int) :=
  S24_ind fun a0 a1 a2 a3 a4 a5 l IH h => by
    unfold cntT at h ⊢
    have hl := len_cntL l
    refine Ev.step (f := fun k => incipitref06_Count.l0 k 1 ((0 : Nat) : Int) a0 a1 a2 a3 a4 a5 l) (fun k => by simp only [incipitref06_Count.f]; rfl) ?_
    have := rcount_loop a0 a1 a2 a3 a4 a5 l (by omega) (fun x hx => IH x hx (by have := cntL_mem hx; omega)) l.length 0 1 (by omega) (by omega) (by rw [List.drop_zero]; omega)
    rw [List.drop_zero] at this
    rw [show ((1 + cntL l : Nat) : Int) = 1 + cntL l by omega]
    exact this
/-! Depth -/
theorem mx_nat (a b : Nat) : mx (a : Int) (b : Int) = ((max a b : Nat) : Int) := by unfold mx; split <;> omega
theorem depth_loop (l : List S24) (hl : l.length < 4611686018427387904) (IH : ∀ x ∈ l, Ev (fun k => tree_Depth.f k x.f0 x.f1 x.f2 x.f3 x.f4 x.f5 x.f6) (depT x : Int)) :
    ∀ (d i : Nat) (acc : Nat), i + d = l.length → max acc (depL (l.drop i)) < 4611686018427387903 → Ev (fun k => tree_Depth.l0 k acc l (l.length : Int) (i : Int)) ((max acc (depL (l.drop i)) + 1 : Nat) : Int) := by
  intro d
  induction d with
  | zero =>
    intro i acc hi h1
    have e : l.drop i = [] := List.drop_eq_nil_of_le (by omega)
    rw [e] at h1 ⊢
    rw [show depL [] = 0 from by unfold depL; rfl] at h1 ⊢
    refine Ev.step (f := fun _ => some (((max acc 0 + 1 : Nat)) : Int)) (fun k => ?_) (Ev.now _)
    simp only [tree_Depth.l0]; rw [if_neg (by omega), wr64 (by omega) (by omega)]
    congr 1
    omega
  | succ d ih =>
    intro i acc hi h1
    have hlt : i < l.length := by omega
    rw [drop_rd l i hlt] at h1 ⊢
    unfold depL at h1 ⊢
    have hx := IH _ (rdm l i hlt)
    have hi1 : wrap64 ((i : Int) + 1) = ((i + 1 : Nat) : Int) := by rw [wr64 (by omega) (by omega)]; omega
    refine Ev.step (f := fun k => (tree_Depth.f k (rd_T24 l i).f0 (rd_T24 l i).f1 (rd_T24 l i).f2 (rd_T24 l i).f3 (rd_T24 l i).f4 (rd_T24 l i).f5 (rd_T24 l i).f6).bind fun t => tree_Depth.l0 k (mx acc t) l (l.length : Int) (wrap64 ((i : Int) + 1))) (fun k => ?_) ?_
    · simp only [tree_Depth.l0]; rw [if_pos (by omega), if_pos (by omega), if_pos (by omega)]
    · refine Ev.bind (f := fun k t => tree_Depth.l0 k (mx acc t) l (l.length : Int) (wrap64 ((i : Int) + 1))) hx ?_
      rw [hi1, mx_nat]
      have := ih (i + 1) (max acc (depT (rd_T24 l i))) (by omega) (by omega)
      rw [show max acc (max (depT (rd_T24 l (i : Int))) (depL (l.drop (i + 1)))) = max (max acc (depT (rd_T24 l i))) (depL (l.drop (i + 1))) by omega]
      exact this
theorem depth_ev : ∀ t : S24, cntT t < 4611686018427387900 → Ev (fun k => tree_Depth.f k t.f0 t.f1 t.f2 t.f3 t.f4 t.f5 t.f6) (depT t : Int) :=
  S24_ind fun a0 a1 a2 a3 a4 a5 l IH h => by
    unfold cntT at h
    unfold depT
    have hl := len_cntL l
    have hd := dep_cntL l
    refine Ev.step (f := fun k => tree_Depth.l0 k ((0 : Nat) : Int) l (l.length : Int) ((0 : Nat) : Int)) (fun k => by simp only [tree_Depth.f]; rfl) ?_
    have := depth_loop l (by omega) (fun x hx => IH x hx (by have := cntL_mem hx; omega)) l.length 0 0 (by omega) (by rw [List.drop_zero]; omega)
    rw [List.drop_zero] at this
    rw [show depL l = max 0 (depL l) by omega]
    exact this
theorem rdepth_loop (a0 : Int) (a1 a2 : ByteArray) (a3 a4 : Int) (a5 : Bool) (l : List S24) (hl : l.length < 4611686018427387904) (IH : ∀ x ∈ l, Ev (fun k => incipitref06_Depth.f k x.f0 x.f1 x.f2 x.f3 x.f4 x.f5 x.f6) (depT x : Int)) :
    ∀ (d i : Nat) (acc : Nat), i + d = l.length → max acc (depL (l.drop i)) < 4611686018427387903 → Ev (fun k => incipitref06_Depth.l0 k acc (i : Int) a0 a1 a2 a3 a4 a5 l) ((max acc (depL (l.drop i)) + 1 : Nat) : Int) := by
  intro d
  induction d with
  | zero =>
    intro i acc hi h1
    have e : l.drop i = [] := List.drop_eq_nil_of_le (by omega)
    rw [e] at h1 ⊢
    rw [show depL [] = 0 from by unfold depL; rfl] at h1 ⊢
    refine Ev.step (f := fun _ => some (((max acc 0 + 1 : Nat)) : Int)) (fun k => ?_) (Ev.now _)
    simp only [incipitref06_Depth.l0]; rw [if_neg (by omega), wr64 (by omega) (by omega)]
    congr 1
    omega
  | succ d ih =>
    intro i acc hi h1
    have hlt : i < l.length := by omega
    rw [drop_rd l i hlt] at h1 ⊢
    unfold depL at h1 ⊢
    have hx := IH _ (rdm l i hlt)
    have hi1 : wrap64 ((i : Int) + 1) = ((i + 1 : Nat) : Int) := by rw [wr64 (by omega) (by omega)]; omega
    refine Ev.step (f := fun k => (incipitref06_Depth.f k (rd_T24 l i).f0 (rd_T24 l i).f1 (rd_T24 l i).f2 (rd_T24 l i).f3 (rd_T24 l i).f4 (rd_T24 l i).f5 (rd_T24 l i).f6).bind fun t => incipitref06_Depth.l0 k (mx acc t) (wrap64 ((i : Int) + 1)) a0 a1 a2 a3 a4 a5 l) (fun k => ?_) ?_
    · simp only [incipitref06_Depth.l0]; rw [if_pos (by omega), if_pos (by omega)]
    · refine Ev.bind (f := fun k t => incipitref06_Depth.l0 k (mx acc t) (wrap64 ((i : Int) + 1)) a0 a1 a2 a3 a4 a5 l) hx ?_
      rw [hi1, mx_nat]
      have := ih (i + 1) (max acc (depT (rd_T24 l i))) (by omega) (by omega)
      rw [show max acc (max (depT (rd_T24 l (i : Int))) (depL (l.drop (i + 1)))) = max (max acc (depT (rd_T24 l i))) (depL (l.drop (i + 1))) by omega]
      exact this
theorem rdepth_ev : ∀ t : S24, cntT t < 4611686018427387900 → Ev (fun k => incipitref06_Depth.f k t.f0 t.f1 t.f2 t.f3 t.f4 t.f5 t.f6) (depT t : Int) :=
  S24_ind fun a0 a1 a2 a3 a4 a5 l IH h => by
    unfold cntT at h
    unfold depT
    have hl := len_cntL l
    have hd := dep_cntL l
    refine Ev.step (f := fun k => incipitref06_Depth.l0 k ((0 : Nat) : Int) ((0 : Nat) : Int) a0 a1 a2 a3 a4 a5 l) (fun k => by simp only [incipitref06_Depth.f]; rfl) ?_
    have := rdepth_loop a0 a1 a2 a3 a4 a5 l (by omega) (fun x hx => IH x hx (by have := cntL_mem hx; omega)) l.length 0 0 (by omega) (by rw [List.drop_zero]; omega)
    rw [List.drop_zero] at this
    rw [show depL l = max 0 (depL l) by omega]
    exact this
/-! few -/
theorem few_loop (a0 : Int) (a1 a2 : ByteArray) (a3 a4 : Int) (a5 : Bool) (l : List S24) (hl : l.length < 4611686018427387904)
    (IH : ∀ x ∈ l, ∀ left : Int, 0 ≤ left → left ≤ 1000000 → ∃ r, Ev (fun k => incipitref06_few.f k x.f0 x.f1 x.f2 x.f3 x.f4 x.f5 x.f6 left) r ∧ -300000000000000 ≤ r ∧ r ≤ left ∧ (0 ≤ r → r + cntT x ≤ left)) :
    ∀ (d i : Nat) (left : Int), i + d = l.length → -300000000000000 ≤ left → left ≤ 1000000 → ∃ r, Ev (fun k => incipitref06_few.l0 k left (i : Int) a0 a1 a2 a3 a4 a5 l) r ∧ -300000000000000 ≤ r ∧ r ≤ left ∧ (0 ≤ r → r + cntL (l.drop i) ≤ left) := by
  intro d
  induction d with
  | zero =>
    intro i left hi h0 h1
    have e : l.drop i = [] := List.drop_eq_nil_of_le (by omega)
    rw [e, show cntL [] = 0 from by unfold cntL; rfl]
    refine ⟨left, Ev.step (f := fun _ => some left) (fun k => ?_) (Ev.now _), by omega, by omega, by omega⟩
    simp only [incipitref06_few.l0]; rw [if_neg (by omega)]
  | succ d ih =>
    intro i left hi h0 h1
    have hlt : i < l.length := by omega
    have hi1 : wrap64 ((i : Int) + 1) = ((i + 1 : Nat) : Int) := by rw [wr64 (by omega) (by omega)]; omega
    by_cases hp : left ≥ 0
    · obtain ⟨r, hx, b1, b2, b3⟩ := IH _ (rdm l i hlt) left hp h1
      obtain ⟨r2, hx2, b4, b5, b6⟩ := ih (i + 1) r (by omega) b1 (by omega)
      refine ⟨r2, Ev.step (f := fun k => (incipitref06_few.f k (rd_T24 l i).f0 (rd_T24 l i).f1 (rd_T24 l i).f2 (rd_T24 l i).f3 (rd_T24 l i).f4 (rd_T24 l i).f5 (rd_T24 l i).f6 left).bind fun t => incipitref06_few.l0 k t (wrap64 ((i : Int) + 1)) a0 a1 a2 a3 a4 a5 l) (fun k => ?_) ?_, b4, by omega, fun hr => ?_⟩
      · simp only [incipitref06_few.l0]; rw [if_pos (by omega), if_pos hp, if_pos (by omega)]
      · refine Ev.bind (f := fun k t => incipitref06_few.l0 k t (wrap64 ((i : Int) + 1)) a0 a1 a2 a3 a4 a5 l) hx ?_
        rw [hi1]; exact hx2
      · rw [drop_rd l i hlt]
        unfold cntL
        have := b6 hr
        have := b3 (by omega)
        omega
    · refine ⟨left, Ev.step (f := fun _ => some left) (fun k => ?_) (Ev.now _), by omega, by omega, by omega⟩
      simp only [incipitref06_few.l0]; rw [if_pos (by omega), if_neg hp]
theorem okL_mem : ∀ {l : List S24}, okL l → ∀ x ∈ l, okT x
  | y :: l, h, x, hx => by
    unfold okL at h
    rcases List.mem_cons.1 hx with rfl | hx
    · exact h.1
    · exact okL_mem h.2 x hx
theorem few_ev : ∀ t : S24, okT t → ∀ left : Int, 0 ≤ left → left ≤ 1000000 → ∃ r, Ev (fun k => incipitref06_few.f k t.f0 t.f1 t.f2 t.f3 t.f4 t.f5 t.f6 left) r ∧ -300000000000000 ≤ r ∧ r ≤ left ∧ (0 ≤ r → r + cntT t ≤ left) :=
  S24_ind fun a0 a1 a2 a3 a4 a5 l IH h left h0 h1 => by
    unfold okT at h
    obtain ⟨_, s1, s2, _, _, hl, hok⟩ := h
    obtain ⟨r, hx, b1, b2, b3⟩ := few_loop a0 a1 a2 a3 a4 a5 l (by omega) (fun x hx => IH x hx (okL_mem hok x hx)) l.length 0 (left - 1 - a1.size - a2.size) (by omega) (by omega) (by omega)
    refine ⟨r, Ev.step (f := fun k => incipitref06_few.l0 k (left - 1 - a1.size - a2.size) ((0 : Nat) : Int) a0 a1 a2 a3 a4 a5 l) (fun k => ?_) hx, b1, by omega, fun hr => ?_⟩
    · simp only [incipitref06_few.f]
      rw [wr64 (a := left - 1) (by omega) (by omega), wr64 (a := left - 1 - a1.size) (by omega) (by omega), wr64 (a := left - 1 - a1.size - a2.size) (by omega) (by omega)]
      rfl
    · have := b3 hr
      rw [List.drop_zero] at this
      unfold cntT
      omega
theorem Few_ev (t : S24) (h : okT t) (most : Int) (h0 : 0 ≤ most) (h1 : most ≤ 1000000) : ∃ b, Ev (fun k => incipitref06_Few.f k t.f0 t.f1 t.f2 t.f3 t.f4 t.f5 t.f6 most) b ∧ (b = true → (cntT t : Int) ≤ most) := by
  obtain ⟨r, hx, b1, b2, b3⟩ := few_ev t h most h0 h1
  refine ⟨decide (r ≥ 0), Ev.bind (f := fun _ t => some (decide (t ≥ 0))) hx (Ev.now _), fun hb => ?_⟩
  have := b3 (of_decide_eq_true hb)
  have := of_decide_eq_true hb
  omega
/-! Same -/
theorem own_some (a0 : Int) (a1 a2 : ByteArray) (a3 a4 : Int) (a5 : Bool) (l : List S24) (b0 : Int) (b1 b2 : ByteArray) (b3 b4 : Int) (b5 : Bool) (m : List S24) :
    incipitref06_Own.f a0 a1 a2 a3 a4 a5 l b0 b1 b2 b3 b4 b5 m = some ((a0 == b0) && ((a1.toList == b1.toList) && ((a2.toList == b2.toList) && ((a3 == b3) && ((a4 == b4) && (a5 == b5)))))) := by
  unfold incipitref06_Own.f
  by_cases h0 : a0 = b0
  · rw [if_pos h0, beq_iff_eq.2 h0, Bool.true_and]
    by_cases h1 : a1.toList = b1.toList
    · rw [if_pos h1, beq_iff_eq.2 h1, Bool.true_and]
      by_cases h2 : a2.toList = b2.toList
      · rw [if_pos h2, beq_iff_eq.2 h2, Bool.true_and]
        by_cases h3 : a3 = b3
        · rw [if_pos h3, beq_iff_eq.2 h3, Bool.true_and]
          by_cases h4 : a4 = b4
          · rw [if_pos h4, beq_iff_eq.2 h4, Bool.true_and]
          · rw [if_neg h4, beq_eq_false_iff_ne.2 h4, Bool.false_and]
        · rw [if_neg h3, beq_eq_false_iff_ne.2 h3, Bool.false_and]
      · rw [if_neg h2, beq_eq_false_iff_ne.2 h2, Bool.false_and]
    · rw [if_neg h1, beq_eq_false_iff_ne.2 h1, Bool.false_and]
  · rw [if_neg h0, beq_eq_false_iff_ne.2 h0, Bool.false_and]
theorem rsame_loop (a0 : Int) (a1 a2 : ByteArray) (a3 a4 : Int) (a5 : Bool) (l : List S24) (b0 : Int) (b1 b2 : ByteArray) (b3 b4 : Int) (b5 : Bool) (m : List S24) (hl : l.length < 4611686018427387904) (hlm : l.length = m.length)
    (IH : ∀ x ∈ l, ∀ y, Ev (fun k => incipitref06_Same.f k x.f0 x.f1 x.f2 x.f3 x.f4 x.f5 x.f6 y.f0 y.f1 y.f2 y.f3 y.f4 y.f5 y.f6) (sameT x y)) :
    ∀ (d i : Nat), i + d = l.length → Ev (fun k => incipitref06_Same.l0 k (i : Int) a0 a1 a2 a3 a4 a5 l b0 b1 b2 b3 b4 b5 m) (sameL (l.drop i) (m.drop i)) := by
  intro d
  induction d with
  | zero =>
    intro i hi
    rw [show l.drop i = [] from List.drop_eq_nil_of_le (by omega), show m.drop i = [] from List.drop_eq_nil_of_le (by omega)]
    refine Ev.step (f := fun _ => some true) (fun k => ?_) (by unfold sameL; exact Ev.now _)
    simp only [incipitref06_Same.l0]; rw [if_neg (by omega)]
  | succ d ih =>
    intro i hi
    have hlt : i < l.length := by omega
    have hltm : i < m.length := by omega
    have hi1 : wrap64 ((i : Int) + 1) = ((i + 1 : Nat) : Int) := by rw [wr64 (by omega) (by omega)]; omega
    rw [drop_rd l i hlt, drop_rd m i hltm]
    unfold sameL
    have hx := IH _ (rdm l i hlt) (rd_T24 m i)
    refine Ev.step (f := fun k => (incipitref06_Same.f k (rd_T24 l i).f0 (rd_T24 l i).f1 (rd_T24 l i).f2 (rd_T24 l i).f3 (rd_T24 l i).f4 (rd_T24 l i).f5 (rd_T24 l i).f6 (rd_T24 m i).f0 (rd_T24 m i).f1 (rd_T24 m i).f2 (rd_T24 m i).f3 (rd_T24 m i).f4 (rd_T24 m i).f5 (rd_T24 m i).f6).bind fun t => if t = true then incipitref06_Same.l0 k (wrap64 ((i : Int) + 1)) a0 a1 a2 a3 a4 a5 l b0 b1 b2 b3 b4 b5 m else some false) (fun k => ?_) ?_
    · simp only [incipitref06_Same.l0]; rw [if_pos (by omega), if_pos (by omega), if_pos (by omega)]
    · refine Ev.bind (f := fun k t => if t = true then incipitref06_Same.l0 k (wrap64 ((i : Int) + 1)) a0 a1 a2 a3 a4 a5 l b0 b1 b2 b3 b4 b5 m else some false) hx ?_
      cases hs : sameT (rd_T24 l i) (rd_T24 m i) with
      | false => exact Ev.now _
      | true =>
        rw [hi1, Bool.true_and]
        exact ih (i + 1) (by omega)
theorem rsame_ev : ∀ t : S24, t.f6.length < 4611686018427387904 → (∀ u : S24, cntT u ≤ cntT t → u.f6.length < 4611686018427387904) → ∀ y : S24, Ev (fun k => incipitref06_Same.f k t.f0 t.f1 t.f2 t.f3 t.f4 t.f5 t.f6 y.f0 y.f1 y.f2 y.f3 y.f4 y.f5 y.f6) (sameT t y) :=
  S24_ind fun a0 a1 a2 a3 a4 a5 l IH hl hu y => by
    obtain ⟨b0, b1, b2, b3, b4, b5, m⟩ := y
    refine Ev.step (f := fun k => if ((a0 == b0) && ((a1.toList == b1.toList) && ((a2.toList == b2.toList) && ((a3 == b3) && ((a4 == b4) && (a5 == b5)))))) = true then (incipitref06_Same.j0 k ((l.length : Int) != (m.length : Int)) a0 a1 a2 a3 a4 a5 l b0 b1 b2 b3 b4 b5 m) else (incipitref06_Same.j0 k true a0 a1 a2 a3 a4 a5 l b0 b1 b2 b3 b4 b5 m)) (fun k => ?_) ?_
    · simp only [incipitref06_Same.f]
      rw [own_some]
      rfl
    · have e : sameT ⟨a0, a1, a2, a3, a4, a5, l⟩ ⟨b0, b1, b2, b3, b4, b5, m⟩ = (((a0 == b0) && ((a1.toList == b1.toList) && ((a2.toList == b2.toList) && ((a3 == b3) && ((a4 == b4) && (a5 == b5)))))) && sameL l m) := by
        unfold sameT
        simp only [Bool.and_assoc]
      rw [e]
      cases hb : ((a0 == b0) && ((a1.toList == b1.toList) && ((a2.toList == b2.toList) && ((a3 == b3) && ((a4 == b4) && (a5 == b5)))))) with
      | false =>
        refine Ev.step (f := fun _ => some false) (fun k => ?_) (Ev.now _)
        rw [if_neg (by decide)]
        simp only [incipitref06_Same.j0]
        rfl
      | true =>
        rw [Bool.true_and]
        by_cases hlm : l.length = m.length
        · refine Ev.step (f := fun k => incipitref06_Same.l0 k ((0 : Nat) : Int) a0 a1 a2 a3 a4 a5 l b0 b1 b2 b3 b4 b5 m) (fun k => ?_) ?_
          · rw [if_pos rfl]
            simp only [incipitref06_Same.j0]
            rw [if_neg (by simp [hlm])]
            rfl
          · exact rsame_loop a0 a1 a2 a3 a4 a5 l b0 b1 b2 b3 b4 b5 m hl hlm (fun x hx => IH x hx (hu x (by have := cntL_mem hx; show cntT x ≤ cntT ⟨a0, a1, a2, a3, a4, a5, l⟩; rw [show cntT ⟨a0, a1, a2, a3, a4, a5, l⟩ = 1 + cntL l from by unfold cntT; rfl]; omega)) (fun u hu2 => hu u (by have := cntL_mem hx; show cntT u ≤ cntT ⟨a0, a1, a2, a3, a4, a5, l⟩; rw [show cntT ⟨a0, a1, a2, a3, a4, a5, l⟩ = 1 + cntL l from by unfold cntT; rfl]; omega))) l.length 0 (by omega)
        · refine Ev.step (f := fun _ => some false) (fun k => ?_) ?_
          · rw [if_pos rfl]
            simp only [incipitref06_Same.j0]
            rw [if_pos (by simp; omega)]
          · have e : sameL l m = false := by
              cases h : sameL l m with
              | false => rfl
              | true => exact absurd ((sameL_iff l m).1 h).1 hlm
            rw [e]
            exact Ev.now _
mutual
theorem sameT_refl : ∀ t, sameT t t = true
  | ⟨a0, a1, a2, a3, a4, a5, l⟩ => by
    unfold sameT
    rw [sameL_refl l]
    simp
theorem sameL_refl : ∀ l, sameL l l = true
  | [] => by unfold sameL; rfl
  | x :: l => by
    unfold sameL
    rw [sameT_refl x, sameL_refl l]
    rfl
end
end Go.Proofs.Ytikfbipjlkhgeaa.P
