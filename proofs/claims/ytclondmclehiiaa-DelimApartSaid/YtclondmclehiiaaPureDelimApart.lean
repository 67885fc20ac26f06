/- DelimApart: the law's loops lay the letters and the small numbers; what they compare is the same. -/
import Derived.Test.YtclondmclehiiaaPk14
import Derived.Test.YtclondmclehiiaaApart
namespace Go.Proofs.Ytclondmclehiiaa.P
open Go.RowKit Go.Proofs.YtclondmclehiiaaW.PrintWords Go.Proofs.YtclondmclehiiaaW.PrintLast Go.Proofs.YtclondmclehiiaaW.PrintMore
set_option linter.unusedVariables false
set_option linter.unusedSimpArgs false

theorem naive_all (l : List S28) (Q : S40 → Prop) (hQ : ∀ (left : Nat → Int) (j k : Nat), j < k → k < l.length → fitN l left j k = true → (rd_T28 l k).f3 = true → 1 ≤ left k → Q ⟨j, k, sizeN l left j k⟩) :
    ∀ (N k : Nat) (left : Nat → Int) (out : List S40), (∀ i, i < l.length → 0 ≤ left i) → (∀ x ∈ out, Q x) → ∀ x ∈ naive l N k left out, Q x := by
  intro N
  induction N with
  | zero => intro k left out _ ho x hx; exact ho x hx
  | succ N ih =>
    intro k left out h0 ho
    simp only [naive]
    by_cases hlt : k < l.length
    · rw [if_pos hlt]
      by_cases hs : (rd_T28 l (k : Int)).f3 = false ∨ left k = 0
      · rw [if_pos hs]; exact ih _ _ _ h0 ho
      · rw [if_neg hs]
        have h3 : (rd_T28 l k).f3 = true := by
          cases h : (rd_T28 l k).f3 with
          | true => rfl
          | false => exact absurd (.inl h) hs
        have h1 : 1 ≤ left k := by
          have := h0 k hlt
          have : left k ≠ 0 := fun h => hs (.inr h)
          omega
        cases hf : findN l left k k with
        | none =>
          simp only
          refine ih _ _ _ (fun p hp => ?_) ho
          have := h0 p hp
          split
          · exact this
          · show 0 ≤ (if p = k then 0 else left p)
            split <;> omega
        | some j =>
          obtain ⟨hj, hfit, _⟩ := find_some hf
          have hz := size_ok hfit h1
          simp only
          refine ih _ _ _ (fun p hp => ?_) ?_
          · have := h0 p hp
            unfold afterN
            split
            · omega
            · split
              · omega
              · split <;> omega
          · intro x hx
            rcases List.mem_append.1 hx with hx | hx
            · exact ho x hx
            · rw [List.mem_singleton.1 hx]
              exact hQ left j k hj hlt hfit h3 h1
    · rw [if_neg hlt]; exact ho

theorem match_all (l : List S28) (Q : S40 → Prop) (hQ : ∀ (left : Nat → Int) (j k : Nat), j < k → k < l.length → fitN l left j k = true → (rd_T28 l k).f3 = true → 1 ≤ left k → Q ⟨j, k, sizeN l left j k⟩) : ∀ x ∈ matchN l, Q x :=
  naive_all l Q hQ _ _ _ _ (fun i _ => (m_left_le _).1) (fun x hx => by cases hx)

def marked (c : Int) (x : S28) : S28 := ⟨c, Go.bits .and .i64 x.f1 63, x.f2, x.f3⟩
def halfway (c : Int) (l : List S28) (i : Nat) : List S28 := (l.take i).map (marked c) ++ l.drop i
theorem half_len (c : Int) (l : List S28) (i : Nat) : (halfway c l i).length = l.length := by unfold halfway; simp; omega
theorem half_at (c : Int) (l : List S28) (i : Nat) (hi : i < l.length) : rd_T28 (halfway c l i) (i : Int) = l[i] := by
  show (halfway c l i).getD i z28 = _
  unfold halfway
  rw [List.getD_eq_getElem?_getD, List.getElem?_append_right (by simp; omega)]
  have e : i - ((l.take i).map (marked c)).length = 0 := by simp; omega
  rw [e, List.getElem?_drop, Nat.add_zero, List.getElem?_eq_getElem hi]
  rfl
theorem half_set (c : Int) (l : List S28) (i : Nat) (hi : i < l.length) (x : S28) : (halfway c l i).set i x = (l.take i).map (marked c) ++ x :: l.drop (i + 1) := by
  unfold halfway
  rw [List.set_append_right _ _ (by simp; omega)]
  have e : i - ((l.take i).map (marked c)).length = 0 := by simp; omega
  rw [e, List.drop_eq_getElem_cons hi]
  rfl
theorem half_step (c : Int) (l : List S28) (i : Nat) (hi : i < l.length) :
    ((halfway c l i).set i (⟨c, (rd_T28 (halfway c l i) (i : Int)).f1, (rd_T28 (halfway c l i) (i : Int)).f2, (rd_T28 (halfway c l i) (i : Int)).f3⟩ : S28)).set i
      (⟨(rd_T28 ((halfway c l i).set i (⟨c, (rd_T28 (halfway c l i) (i : Int)).f1, (rd_T28 (halfway c l i) (i : Int)).f2, (rd_T28 (halfway c l i) (i : Int)).f3⟩ : S28)) (i : Int)).f0,
        Go.bits .and .i64 (rd_T28 ((halfway c l i).set i (⟨c, (rd_T28 (halfway c l i) (i : Int)).f1, (rd_T28 (halfway c l i) (i : Int)).f2, (rd_T28 (halfway c l i) (i : Int)).f3⟩ : S28)) (i : Int)).f1 63,
        (rd_T28 ((halfway c l i).set i (⟨c, (rd_T28 (halfway c l i) (i : Int)).f1, (rd_T28 (halfway c l i) (i : Int)).f2, (rd_T28 (halfway c l i) (i : Int)).f3⟩ : S28)) (i : Int)).f2,
        (rd_T28 ((halfway c l i).set i (⟨c, (rd_T28 (halfway c l i) (i : Int)).f1, (rd_T28 (halfway c l i) (i : Int)).f2, (rd_T28 (halfway c l i) (i : Int)).f3⟩ : S28)) (i : Int)).f3⟩ : S28) = halfway c l (i + 1) := by
  have e : ∀ x : S28, rd_T28 ((halfway c l i).set i x) (i : Int) = x := by
    intro x
    show ((halfway c l i).set i x).getD i z28 = x
    rw [List.getD_eq_getElem?_getD, List.getElem?_set_self (by rw [half_len]; exact hi)]
    rfl
  rw [e, List.set_set, half_at c l i hi, half_set c l i hi]
  unfold halfway
  rw [List.take_succ_eq_append_getElem hi, List.map_append, List.append_assoc]
  rfl
theorem half_all (c : Int) (l : List S28) (i : Nat) (h : l.length ≤ i) : halfway c l i = l.map (marked c) := by
  unfold halfway
  rw [List.take_of_length_le h, List.drop_of_length_le h, List.append_nil]
theorem rd_marked (c : Int) (l : List S28) (j : Nat) (hj : j < l.length) : rd_T28 (l.map (marked c)) (j : Int) = marked c l[j] := by
  show (l.map (marked c)).getD j z28 = _
  rw [List.getD_eq_getElem?_getD, List.getElem?_map, List.getElem?_eq_getElem hj]
  rfl
theorem left_marked (c : Int) (l : List S28) (j : Nat) (hj : j < l.length) : leftN (l.map (marked c)) j ≤ 200 := by
  unfold leftN
  rw [rd_marked c l j hj]
  unfold m_left
  have := b63 l[j].f1
  show (if Go.bits .and .i64 l[j].f1 63 < 1 ∨ 1073741824 < Go.bits .and .i64 l[j].f1 63 then 0 else Go.bits .and .i64 l[j].f1 63) ≤ 200
  split <;> omega

theorem rd40_left (p q : List S40) (j : Nat) (h : j < p.length) : rd_T40 (p ++ q) (j : Int) = rd_T40 p (j : Int) := by
  show (p ++ q).getD j z40 = p.getD j z40
  rw [List.getD_eq_getElem?_getD, List.getElem?_append_left h, List.getD_eq_getElem?_getD]
theorem rd40_right (p q : List S40) (n j : Nat) (hj : j < q.length) : rd_T40 (p ++ q.map (sh n)) ((p.length + j : Nat) : Int) = sh n (rd_T40 q (j : Int)) := by
  show (p ++ q.map (sh n)).getD (p.length + j) z40 = sh n (q.getD j z40)
  rw [List.getD_eq_getElem?_getD, List.getElem?_append_right (by omega), Nat.add_sub_cancel_left, List.getElem?_map, List.getD_eq_getElem?_getD, List.getElem?_eq_getElem hj]
  rfl

theorem apart_l2 (X : List S28) (p q : List S40) (hX : X.length ≤ 40) (hp : p.length ≤ 100000) (hq : q.length ≤ 100000) (hr : ∀ j, j < q.length → (0 ≤ (rd_T40 q (j : Int)).f0 ∧ (rd_T40 q (j : Int)).f0 ≤ 1000) ∧ 0 ≤ (rd_T40 q (j : Int)).f1 ∧ (rd_T40 q (j : Int)).f1 ≤ 1000) :
    ∀ (d i : Nat), i + d = p.length + q.length → Ev (fun k => incipitlaw13_DelimApart.l2 k true X p q (p ++ q.map (sh X.length)) (i : Int)) true
  | 0, i, h => Ev.done fun k => by
    rw [incipitlaw13_DelimApart.l2, if_neg (by simp only [List.length_append, List.length_map]; omega)]
  | d + 1, i, h => by
    have hl : (p ++ q.map (sh X.length)).length = p.length + q.length := by simp
    have ew : wrap64 ((i : Int) + 1) = ((i + 1 : Nat) : Int) := by rw [wrap64_sm (by omega) (by omega)]; omega
    have ih := apart_l2 X p q hX hp hq hr d (i + 1) (by omega)
    by_cases hi : i < p.length
    · have J4 : Ev (fun k => incipitlaw13_DelimApart.j4 k true X p q (p ++ q.map (sh X.length)) (i : Int) false) true := Ev.step 0 ih fun k _ => by
        rw [incipitlaw13_DelimApart.j4, if_neg (by decide), if_neg (by omega), ew]
      refine Ev.step 0 J4 fun k _ => ?_
      rw [incipitlaw13_DelimApart.l2, hl, if_pos (by omega), if_pos (by omega), if_pos (by omega), rd40_left p _ i hi]
      congr 1
      simp
    · obtain ⟨j, rfl⟩ : ∃ j, i = p.length + j := ⟨i - p.length, by omega⟩
      have hj : j < q.length := by omega
      have es : wrap64 (((p.length + j : Nat) : Int) - (p.length : Int)) = (j : Int) := by rw [wrap64_sm (by omega) (by omega)]; omega
      have hb := hr j hj
      have J4 : Ev (fun k => incipitlaw13_DelimApart.j4 k true X p q (p ++ q.map (sh X.length)) ((p.length + j : Nat) : Int) false) true := Ev.step 0 ih fun k _ => by
        rw [incipitlaw13_DelimApart.j4, if_neg (by decide), if_pos (by omega), es, if_pos (by omega), if_pos (by omega), if_pos (by omega), hl, if_pos (by omega), rd40_right p q X.length j hj,
          wrap64_sm (a := (rd_T40 q (j : Int)).f0 + (X.length : Int)) (by omega) (by omega), wrap64_sm (a := (rd_T40 q (j : Int)).f1 + (X.length : Int)) (by omega) (by omega)]
        rw [if_pos (by rfl), if_pos (by rfl), if_pos (by rfl), ew]
      refine Ev.step 0 J4 fun k _ => ?_
      rw [incipitlaw13_DelimApart.l2, hl, if_pos (by omega), if_neg (by omega)]

theorem apart_l1 (X b : List S28) (hX : X.length ≤ 40) (hb : b.length ≤ 40) (hXc : ∀ j, (h : j < X.length) → (rd_T28 X (j : Int)).f0 = 42) (hXl : ∀ j, j < X.length → leftN X j ≤ 200) (hXb : ∀ x ∈ X, 0 ≤ x.f0 ∧ x.f0 ≤ 255) :
    ∀ (d i : Nat), i + d = b.length → Ev (fun k => incipitlaw13_DelimApart.l1 k true X (halfway 95 b i) (i : Int)) true
  | 0, i, h => by
    have hi : i = b.length := by omega
    rw [half_all 95 b i (by omega)]
    have hYb : ∀ x ∈ b.map (marked 95), 0 ≤ x.f0 ∧ x.f0 ≤ 255 := by
      intro x hx
      obtain ⟨y, _, rfl⟩ := List.mem_map.1 hx
      show (0 : Int) ≤ 95 ∧ (95 : Int) ≤ 255
      omega
    have hYl : (b.map (marked 95)).length = b.length := by simp
    have tX := total_200 X hXl
    have tY := total_200 (b.map (marked 95)) (fun j hj => left_marked 95 b j (by rw [hYl] at hj; exact hj))
    have nX := matchN_length X (by omega)
    have nY := matchN_length (b.map (marked 95)) (by omega)
    have hall := matchN_append X (b.map (marked 95)) (fun left j k hj hk => by
      unfold fitN
      rw [rd28_right, rd28_left X _ j hj, hXc j hj, rd_marked 95 b k (by rw [hYl] at hk; exact hk)]
      rw [if_neg]
      show ¬ ((42 : Int) = 95)
      decide)
    have hr : ∀ j, j < (matchN (b.map (marked 95))).length → (0 ≤ (rd_T40 (matchN (b.map (marked 95))) (j : Int)).f0 ∧ (rd_T40 (matchN (b.map (marked 95))) (j : Int)).f0 ≤ 1000) ∧ 0 ≤ (rd_T40 (matchN (b.map (marked 95))) (j : Int)).f1 ∧ (rd_T40 (matchN (b.map (marked 95))) (j : Int)).f1 ≤ 1000 := by
      intro j hj
      have := match_all (b.map (marked 95)) (fun x => (0 ≤ x.f0 ∧ x.f0 ≤ 1000) ∧ 0 ≤ x.f1 ∧ x.f1 ≤ 1000) (fun left j k hjk hk _ _ _ => by
        show (0 ≤ (j : Int) ∧ (j : Int) ≤ 1000) ∧ 0 ≤ (k : Int) ∧ (k : Int) ≤ 1000
        omega) ((matchN (b.map (marked 95))).getD j z40) (by
        rw [List.getD_eq_getElem?_getD, List.getElem?_eq_getElem hj]
        exact List.getElem_mem hj)
      exact this
    have L2 := apart_l2 X (matchN X) (matchN (b.map (marked 95))) hX (by omega) (by omega) hr ((matchN X).length + (matchN (b.map (marked 95))).length) 0 (by omega)
    refine Ev.step 0 L2 fun k _ => ?_
    have hXY : ∀ x ∈ [] ++ X ++ b.map (marked 95), 0 ≤ x.f0 ∧ x.f0 ≤ 255 := by
      intro x hx
      rw [List.nil_append] at hx
      rcases List.mem_append.1 hx with h | h
      · exact hXb x h
      · exact hYb x h
    rw [incipitlaw13_DelimApart.l1, hYl, if_neg (by omega), match_some X (by omega) hXb, Option.bind_some, match_some _ (by omega) hYb, Option.bind_some, Option.bind_some, if_pos (by simp only [List.length_nil]; omega), Option.bind_some,
      if_pos (by simp only [List.length_append, List.length_nil]; omega), match_some _ (by simp only [List.length_append, List.length_nil]; omega) hXY, Option.bind_some, List.nil_append, hall]
    rw [if_pos (by rw [wrap64_sm (by omega) (by omega)]; simp only [List.length_append, List.length_map]; omega)]
    rfl
  | d + 1, i, h => by
    have hi : i < b.length := by omega
    have ew : wrap64 ((i : Int) + 1) = ((i + 1 : Nat) : Int) := by rw [wrap64_sm (by omega) (by omega)]; omega
    have hs := half_step 95 b i hi
    refine Ev.step 0 (apart_l1 X b hX hb hXc hXl hXb d (i + 1) (by omega)) fun k _ => ?_
    rw [incipitlaw13_DelimApart.l1, half_len, if_pos (by omega), if_pos (by omega), Option.bind_some, Int.toNat_natCast, hs, ew]

theorem apart_l0 (a b : List S28) (ha : a.length ≤ 40) (hb : b.length ≤ 40) : ∀ (d i : Nat), i + d = a.length → Ev (fun k => incipitlaw13_DelimApart.l0 k b true (halfway 42 a i) (i : Int)) true
  | 0, i, h => by
    rw [half_all 42 a i (by omega)]
    have hl : (a.map (marked 42)).length = a.length := by simp
    have L1 := apart_l1 (a.map (marked 42)) b (by omega) hb (fun j hj => by rw [rd_marked 42 a j (by omega)]; rfl) (fun j hj => left_marked 42 a j (by omega)) (fun x hx => by
      obtain ⟨y, _, rfl⟩ := List.mem_map.1 hx
      show (0 : Int) ≤ 42 ∧ (42 : Int) ≤ 255
      omega) b.length 0 (by omega)
    refine Ev.step 0 L1 fun k _ => ?_
    rw [incipitlaw13_DelimApart.l0, hl, if_neg (by omega), Option.bind_some, if_pos (by simp only [List.length_nil]; omega), List.nil_append]
    rfl
  | d + 1, i, h => by
    have hi : i < a.length := by omega
    have ew : wrap64 ((i : Int) + 1) = ((i + 1 : Nat) : Int) := by rw [wrap64_sm (by omega) (by omega)]; omega
    have hs := half_step 42 a i hi
    refine Ev.step 0 (apart_l0 a b ha hb d (i + 1) (by omega)) fun k _ => ?_
    rw [incipitlaw13_DelimApart.l0, half_len, if_pos (by omega), if_pos (by omega), Option.bind_some, Int.toNat_natCast, hs, ew]

theorem DelimApart_pure (a b : List S28) : ∃ k, incipitlaw13_DelimApart.f k a b = some true := by
  unfold incipitlaw13_DelimApart.f
  have out : ∀ t, ∃ k, incipitlaw13_DelimApart.j0 (k + 1) a b t true = some t := fun t => ⟨0, by rw [incipitlaw13_DelimApart.j0, if_pos rfl]⟩
  by_cases ha : (a.length : Int) > 40
  · refine ⟨1, ?_⟩
    rw [awake_true4, Option.bind_some, if_pos ha, incipitlaw13_DelimApart.j0, if_pos rfl]
  · by_cases hb : (b.length : Int) > 40
    · refine ⟨1, ?_⟩
      rw [awake_true4, Option.bind_some, if_neg ha, decide_eq_true hb, incipitlaw13_DelimApart.j0, if_pos rfl]
    · have L0 := apart_l0 a b (by omega) (by omega) a.length 0 (by omega)
      have J0 : Ev (fun k => incipitlaw13_DelimApart.j0 k a b true false) true := Ev.step 0 L0 fun k _ => by
        rw [incipitlaw13_DelimApart.j0, if_neg (by decide), Option.bind_some, if_pos (by simp only [List.length_nil]; omega), List.nil_append]
        rfl
      obtain ⟨K, hK⟩ := J0
      refine ⟨K, ?_⟩
      rw [awake_true4, Option.bind_some, if_neg ha, decide_eq_false hb]
      exact hK K (Nat.le_refl _)
end Go.Proofs.Ytclondmclehiiaa.P
