/- DelimNests: the pairs that the plain search tells lie in one another or apart, join an opener and a closer of one letter, and use no run beyond its number. -/
import Derived.Test.YtclondmclehiiaaNestsD
import Derived.Test.YtclondmclehiiaaEvN
namespace Go.Proofs.Ytclondmclehiiaa.P
open Go.RowKit Go.Proofs.YtclondmclehiiaaW.PrintWords Go.Proofs.YtclondmclehiiaaW.PrintLast Go.Proofs.YtclondmclehiiaaW.PrintMore
set_option linter.unusedVariables false
set_option linter.unusedSimpArgs false

def goodPair (l : List S28) (x : S40) : Prop :=
  0 ≤ x.f0 ∧ x.f0 < x.f1 ∧ x.f1 < (l.length : Int) ∧ 1 ≤ x.f2 ∧ (rd_T28 l x.f0).f0 = (rd_T28 l x.f1).f0 ∧ (rd_T28 l x.f0).f2 = true ∧ (rd_T28 l x.f1).f3 = true ∧ (x.f2 ≤ 2 ∨ (rd_T28 l x.f0).f0 = 126)
def useOf (m : Int) (x : S40) : Int := (if x.f0 = m then x.f2 else 0) + (if x.f1 = m then x.f2 else 0)
def use (out : List S40) (m : Int) : Int := (out.map (useOf m)).sum
theorem use_snoc (out : List S40) (x : S40) (m : Int) : use (out ++ [x]) m = use out m + useOf m x := by unfold use; simp
def apartP (a b : S40) : Prop := ¬ (b.f0 < a.f0 ∧ a.f0 < b.f1 ∧ b.f1 < a.f1) ∧ ¬ (a.f0 < b.f0 ∧ b.f0 < a.f1 ∧ a.f1 < b.f1)

theorem fit_open {l : List S28} {left : Nat → Int} {j k : Nat} (h : fitN l left j k = true) : (rd_T28 l j).f2 = true := by
  unfold fitN at h
  split at h
  · split at h
    · assumption
    · cases h
  · cases h

structure NInv (l : List S28) (k : Nat) (left : Nat → Int) (out : List S40) : Prop where
  nn : ∀ i, i < l.length → 0 ≤ left i
  good : ∀ x ∈ out, goodPair l x ∧ x.f1 ≤ (k : Int)
  dead : ∀ x ∈ out, ∀ m : Nat, x.f0 < (m : Int) → (m : Int) < x.f1 → left m = 0
  used : ∀ m, m < l.length → use out (m : Int) + left m ≤ mx 0 (rd_T28 l m).f1
  nest : ∀ i k : Nat, k < i → i < out.length → apartP (out.getD i z40) (out.getD k z40)

theorem NInv.less {l : List S28} {k k' : Nat} {left left' : Nat → Int} {out : List S40} (h : NInv l k left out) (hk : k ≤ k') (h0 : ∀ i, i < l.length → 0 ≤ left' i) (hl : ∀ i, i < l.length → left' i ≤ left i) : NInv l k' left' out where
  nn := h0
  good x hx := ⟨(h.good x hx).1, by have := (h.good x hx).2; omega⟩
  dead x hx m h1 h2 := by
    have hg := (h.good x hx).1
    have hm : m < l.length := by have := hg.2.2.1; omega
    have := h.dead x hx m h1 h2
    have := h0 m hm
    have := hl m hm
    omega
  used m hm := by have := h.used m hm; have := hl m hm; omega
  nest := h.nest

theorem naive_inv (l : List S28) : ∀ (N k : Nat) (left : Nat → Int) (out : List S40), NInv l k left out → ∃ k' left', NInv l k' left' (naive l N k left out) := by
  intro N
  induction N with
  | zero => intro k left out h; exact ⟨_, _, h⟩
  | succ N ih =>
    intro k left out h
    simp only [naive]
    by_cases hlt : k < l.length
    · rw [if_pos hlt]
      by_cases hs : (rd_T28 l (k : Int)).f3 = false ∨ left k = 0
      · rw [if_pos hs]; exact ih _ _ _ (h.less (by omega) h.nn fun _ _ => Int.le_refl _)
      · rw [if_neg hs]
        have h3 : (rd_T28 l k).f3 = true := by
          cases h : (rd_T28 l k).f3 with
          | true => rfl
          | false => exact absurd (.inl h) hs
        have h1 : 1 ≤ left k := by
          have := h.nn k hlt
          have : left k ≠ 0 := fun h => hs (.inr h)
          omega
        cases hf : findN l left k k with
        | none =>
          simp only
          refine ih _ _ _ (h.less (by omega) (fun p hp => ?_) fun p hp => ?_)
          · have := h.nn p hp
            split
            · exact this
            · show 0 ≤ (if p = k then 0 else left p)
              split <;> omega
          · have := h.nn p hp
            split
            · omega
            · show (if p = k then 0 else left p) ≤ left p
              split <;> omega
        | some j =>
          obtain ⟨hj, hfit, _⟩ := find_some hf
          have hz := size_ok hfit h1
          have hfl := fit_left hfit
          have hop := fit_open hfit
          simp only
          refine ih _ _ _ ⟨fun p hp => ?_, fun x hx => ?_, fun x hx m m1 m2 => ?_, fun m hm => ?_, fun i q hq hi => ?_⟩
          · have := h.nn p hp
            unfold afterN
            split
            · omega
            · split
              · omega
              · split <;> omega
          · rcases List.mem_append.1 hx with hx | hx
            · exact h.good x hx
            · rw [List.mem_singleton.1 hx]
              refine ⟨⟨by show (0 : Int) ≤ (j : Int); omega, by show (j : Int) < (k : Int); omega, by show (k : Int) < _; omega, hz.1, hfl.2.1, hop, h3, ?_⟩, by show (k : Int) ≤ k; omega⟩
              show sizeN l left j k ≤ 2 ∨ (rd_T28 l (j : Int)).f0 = 126
              unfold sizeN
              split
              · right; rw [hfl.2.1]; assumption
              · left; unfold mn; (repeat' split) <;> omega
          · rcases List.mem_append.1 hx with hx | hx
            · have hd := h.dead x hx m m1 m2
              have hg := h.good x hx
              unfold afterN
              split
              · rename_i e
                subst e
                omega
              · split
                · rename_i e
                  subst e
                  omega
                · split <;> omega
            · rw [List.mem_singleton.1 hx] at m1 m2
              have m1' : (j : Int) < m := m1
              have m2' : (m : Int) < k := m2
              unfold afterN
              rw [if_neg (by omega), if_neg (by omega), if_pos (by omega)]
          · rw [use_snoc]
            have hu := h.used m hm
            have hn := h.nn m hm
            show use out m + ((if (j : Int) = m then sizeN l left j k else 0) + (if (k : Int) = m then sizeN l left j k else 0)) + afterN left j k (sizeN l left j k) m ≤ _
            unfold afterN
            by_cases e1 : m = j
            · subst e1
              rw [if_pos rfl, if_neg (by omega), if_pos rfl]
              omega
            · rw [if_neg (by omega), if_neg e1]
              by_cases e2 : m = k
              · subst e2
                rw [if_pos rfl, if_pos rfl]
                omega
              · rw [if_neg (by omega), if_neg e2]
                split <;> omega
          · by_cases hio : i < out.length
            · have e1 : (out ++ [(⟨j, k, sizeN l left j k⟩ : S40)]).getD i z40 = out.getD i z40 := by
                rw [List.getD_eq_getElem?_getD, List.getElem?_append_left hio, List.getD_eq_getElem?_getD]
              have e2 : (out ++ [(⟨j, k, sizeN l left j k⟩ : S40)]).getD q z40 = out.getD q z40 := by
                rw [List.getD_eq_getElem?_getD, List.getElem?_append_left (by omega), List.getD_eq_getElem?_getD]
              rw [e1, e2]
              exact h.nest i q hq hio
            · have hie : i = out.length := by
                simp only [List.length_append, List.length_cons, List.length_nil] at hi
                omega
              subst hie
              have e1 : (out ++ [(⟨j, k, sizeN l left j k⟩ : S40)]).getD out.length z40 = ⟨j, k, sizeN l left j k⟩ := by
                rw [List.getD_eq_getElem?_getD, List.getElem?_append_right (Nat.le_refl _), Nat.sub_self]; rfl
              have e2 : (out ++ [(⟨j, k, sizeN l left j k⟩ : S40)]).getD q z40 = out.getD q z40 := by
                rw [List.getD_eq_getElem?_getD, List.getElem?_append_left (by omega), List.getD_eq_getElem?_getD]
              have hmem : out.getD q z40 ∈ out := by
                rw [List.getD_eq_getElem?_getD, List.getElem?_eq_getElem hq]
                exact List.getElem_mem hq
              have hg := h.good _ hmem
              have hd := h.dead _ hmem j
              rw [e1, e2]
              refine ⟨fun ⟨a1, a2, a3⟩ => ?_, fun ⟨a1, a2, a3⟩ => ?_⟩
              · have a1' : (out.getD q z40).f0 < (j : Int) := a1
                have a2' : (j : Int) < (out.getD q z40).f1 := a2
                have := hd a1' a2'
                omega
              · have a3' : (k : Int) < (out.getD q z40).f1 := a3
                have := hg.2
                omega
    · rw [if_neg hlt]; exact ⟨_, _, h⟩

theorem m_left_mx (r : S28) : m_left r ≤ mx 0 r.f1 := by
  unfold m_left mx
  split <;> split <;> omega
theorem match_inv (l : List S28) : ∃ k' left', NInv l k' left' (matchN l) :=
  naive_inv l _ 0 (leftN l) [] ⟨fun i _ => (m_left_le _).1, fun x hx => (by cases hx), fun x hx => (by cases hx), fun m hm => by
    show 0 + leftN l m ≤ _
    have := m_left_mx (rd_T28 l m)
    unfold leftN
    omega, fun i k _ hi => by simp at hi⟩

theorem use_take (p : List S40) (h : ∀ x ∈ p, 0 ≤ x.f2) (m : Int) : ∀ i, 0 ≤ use (p.take i) m ∧ use (p.take i) m ≤ use p m := by
  have hpos : ∀ q : List S40, (∀ x ∈ q, 0 ≤ x.f2) → 0 ≤ use q m := by
    intro q
    induction q with
    | nil => intro _; exact Int.le_refl _
    | cons x q ih =>
      intro hq
      have e : use (x :: q) m = useOf m x + use q m := by unfold use; simp
      have h1 := hq x List.mem_cons_self
      have h2 := ih fun y hy => hq y (List.mem_cons_of_mem _ hy)
      have h3 : 0 ≤ useOf m x := by unfold useOf; split <;> split <;> omega
      omega
  intro i
  have e : use p m = use (p.take i) m + use (p.drop i) m := by
    have e2 : ∀ a b : List S40, use (a ++ b) m = use a m + use b m := fun a b => by unfold use; rw [List.map_append, List.sum_append]
    have := e2 (p.take i) (p.drop i)
    rw [List.take_append_drop] at this
    exact this
  have h1 := hpos (p.take i) fun x hx => h x (List.mem_of_mem_take hx)
  have h2 := hpos (p.drop i) fun x hx => h x (List.mem_of_mem_drop hx)
  omega

section
variable {l : List S28} {p : List S40} (hl : l.length ≤ 80) (h200 : ∀ i, i < l.length → (rd_T28 l (i : Int)).f1 ≤ 200) (hp : p.length ≤ 1000000)
  (hg : ∀ x ∈ p, goodPair l x) (hu : ∀ m, m < l.length → use p (m : Int) ≤ mx 0 (rd_T28 l m).f1) (hn : ∀ i k : Nat, k < i → i < p.length → apartP (p.getD i z40) (p.getD k z40))

include hl hu in
theorem nests_l3 {x4 : List Int} (h4 : x4.length = l.length) (ha : ∀ m, m < l.length → rd x4 (m : Int) = use p (m : Int)) : ∀ (d i : Nat), i + d = l.length → Ev (fun k => incipitlaw13_DelimNests.l3 k l true x4 (i : Int)) true
  | 0, i, h => Ev.done fun k => by rw [incipitlaw13_DelimNests.l3, if_neg (by omega)]
  | d + 1, i, h => Ev.step 0 (nests_l3 h4 ha d (i + 1) (by omega)) fun k _ => by
    have ew : wrap64 ((i : Int) + 1) = ((i + 1 : Nat) : Int) := by rw [wrap64_sm (by omega) (by omega)]; omega
    have h1 := hu i (by omega)
    rw [incipitlaw13_DelimNests.l3, if_pos (by omega), if_pos (by omega), if_pos (by omega), ha i (by omega), if_neg (by omega), ew]

include hp hn in
theorem nests_l2 {x4 : List Int} {i : Nat} (hi : i < p.length) {r : Bool} (H : Ev (fun k => incipitlaw13_DelimNests.l1 k l true x4 p ((i + 1 : Nat) : Int)) r) : ∀ (d j : Nat), j + d = i →
    Ev (fun k => incipitlaw13_DelimNests.l2 k l true x4 p (i : Int) (j : Int) (rd_T40 p (i : Int)).f0 (rd_T40 p (i : Int)).f1 (rd_T40 p (i : Int)).f2) r
  | 0, j, h => Ev.step 0 H fun k _ => by
    have ew : wrap64 ((i : Int) + 1) = ((i + 1 : Nat) : Int) := by rw [wrap64_sm (by omega) (by omega)]; omega
    rw [incipitlaw13_DelimNests.l2, if_neg (by omega), ew]
  | d + 1, j, h => Ev.step 0 (nests_l2 hi H d (j + 1) (by omega)) fun k _ => by
    have ew : wrap64 ((j : Int) + 1) = ((j + 1 : Nat) : Int) := by rw [wrap64_sm (by omega) (by omega)]; omega
    have hap : apartP (rd_T40 p (i : Int)) (rd_T40 p (j : Int)) := hn i j (by omega) hi
    obtain ⟨n1, n2⟩ := hap
    rw [incipitlaw13_DelimNests.l2, if_pos (by omega), if_pos (by omega), if_pos (by omega), ew]
    generalize rd_T40 p (i : Int) = a at n1 n2 ⊢
    generalize rd_T40 p (j : Int) = b at n1 n2 ⊢
    (repeat' split) <;> first | rfl | (exfalso; omega)

theorem rd_take_snoc (i : Nat) (hi : i < p.length) : p.take (i + 1) = p.take i ++ [rd_T40 p (i : Int)] := by
  rw [List.take_succ_eq_append_getElem hi]
  show _ = _ ++ [p.getD i z40]
  rw [List.getD_eq_getElem?_getD, List.getElem?_eq_getElem hi]
  rfl

include hl h200 hp hg hu hn in
theorem nests_l1 : ∀ (d i : Nat) (x4 : List Int), i + d = p.length → x4.length = l.length → (∀ m, m < l.length → rd x4 (m : Int) = use (p.take i) (m : Int)) → Ev (fun k => incipitlaw13_DelimNests.l1 k l true x4 p (i : Int)) true
  | 0, i, x4, h, h4, ha => by
    rw [List.take_of_length_le (by omega)] at ha
    refine Ev.step 0 (nests_l3 hl hu h4 ha l.length 0 (by omega)) fun k _ => ?_
    rw [incipitlaw13_DelimNests.l1, if_neg (by omega)]
    rfl
  | d + 1, i, x4, h, h4, ha => by
    have hi : i < p.length := by omega
    have hmem : rd_T40 p (i : Int) ∈ p := by
      show p.getD i z40 ∈ p
      rw [List.getD_eq_getElem?_getD, List.getElem?_eq_getElem hi]
      exact List.getElem_mem hi
    have hgp := hg _ hmem
    have hpos : ∀ x ∈ p, 0 ≤ x.f2 := fun x hx => by have := (hg x hx).2.2.2.1; omega
    have hsn := rd_take_snoc (p := p) i hi
    have hstep : ∀ m, m < l.length → use (p.take (i + 1)) (m : Int) = use (p.take i) (m : Int) + useOf (m : Int) (rd_T40 p (i : Int)) := fun m _ => by rw [hsn, use_snoc]
    have hcap : ∀ m, m < l.length → (0 ≤ use (p.take i) (m : Int) ∧ use (p.take i) (m : Int) ≤ 200) ∧ 0 ≤ use (p.take (i + 1)) (m : Int) ∧ use (p.take (i + 1)) (m : Int) ≤ 200 := fun m hm => by
      have a1 := use_take p hpos (m : Int) i
      have a2 := use_take p hpos (m : Int) (i + 1)
      have a3 := hu m hm
      have a4 := h200 m hm
      have a5 : mx 0 (rd_T28 l m).f1 ≤ 200 := by unfold mx; split <;> omega
      omega
    obtain ⟨g0, g1, g2, g3, g4, g5, g6, g7⟩ := hgp
    obtain ⟨o, ho⟩ := Int.eq_ofNat_of_zero_le g0
    obtain ⟨c, hc⟩ := Int.eq_ofNat_of_zero_le (show 0 ≤ (rd_T40 p (i : Int)).f1 by omega)
    have J2 : Ev (fun k => incipitlaw13_DelimNests.j2 k l true x4 p (i : Int) false (rd_T40 p (i : Int)).f0 (rd_T40 p (i : Int)).f1 (rd_T40 p (i : Int)).f2) true := by
      have hso := hstep o (by omega)
      have hsc := hstep c (by omega)
      have hco := hcap o (by omega)
      have hcc := hcap c (by omega)
      have uo : useOf (o : Int) (rd_T40 p (i : Int)) = (rd_T40 p (i : Int)).f2 := by unfold useOf; rw [if_pos ho, if_neg (by omega)]; omega
      have uc : useOf (c : Int) (rd_T40 p (i : Int)) = (rd_T40 p (i : Int)).f2 := by unfold useOf; rw [if_neg (by omega), if_pos hc]; omega
      have L1 := nests_l1 d (i + 1) ((x4.set o (use (p.take (i + 1)) (o : Int))).set c (use (p.take (i + 1)) (c : Int))) (by omega) (by simp [h4]) fun m hm => by
        rw [rd_set _ _ _ _ (by simp; omega), rd_set _ _ _ _ (by omega)]
        by_cases e1 : c = m
        · rw [if_pos e1, e1]
        · rw [if_neg e1]
          by_cases e2 : o = m
          · rw [if_pos e2, e2]
          · rw [if_neg e2, ha m hm, hstep m hm]
            have : useOf (m : Int) (rd_T40 p (i : Int)) = 0 := by unfold useOf; rw [if_neg (by omega), if_neg (by omega)]; rfl
            omega
      refine Ev.step 0 (nests_l2 hp hn hi L1 i 0 (by omega)) fun k _ => ?_
      rw [incipitlaw13_DelimNests.j2, if_neg (by decide), if_pos (by omega), if_pos (by omega), Option.bind_some, if_pos (by omega), if_pos (by omega), ho, hc]
      simp only [Int.ofNat_eq_natCast, Int.toNat_natCast]
      rw [rd_set _ _ _ _ (by omega), if_neg (by omega), ha o (by omega), ha c (by omega)]
      have w1 : wrap64 (use (p.take i) (o : Int) + (rd_T40 p (i : Int)).f2) = use (p.take (i + 1)) (o : Int) := by rw [wrap64_sm (by omega) (by omega)]; omega
      have w2 : wrap64 (use (p.take i) (c : Int) + (rd_T40 p (i : Int)).f2) = use (p.take (i + 1)) (c : Int) := by rw [wrap64_sm (by omega) (by omega)]; omega
      rw [w1, w2]
      rfl
    refine Ev.step 0 J2 fun k _ => ?_
    rw [incipitlaw13_DelimNests.l1, if_pos (by omega), if_pos (by omega), if_neg (by omega), if_neg (by omega), if_neg (by omega), if_neg (by omega), if_pos (by omega), if_pos (by omega), if_pos (by omega), if_pos (by omega), if_pos g4, if_pos g5, if_pos g6]
    by_cases h2 : (rd_T40 p (i : Int)).f2 > 2
    · have h126 : (rd_T28 l (rd_T40 p (i : Int)).f0).f0 = 126 := by
        rcases g7 with h | h
        · omega
        · exact h
      rw [if_pos h2, h126]
      rfl
    · rw [if_neg h2]
end

theorem nests_l0 (l : List S28) (hl : l.length ≤ 80) (hb : ∀ x ∈ l, 0 ≤ x.f0 ∧ x.f0 ≤ 255) : ∀ (d i : Nat), i + d = l.length → (∀ m, m < i → (rd_T28 l (m : Int)).f1 ≤ 200) → Ev (fun k => incipitlaw13_DelimNests.l0 k l true (List.replicate l.length 0) (i : Int)) true
  | 0, i, h, hs => by
    obtain ⟨k', left', hI⟩ := match_inv l
    have h200 : ∀ m, m < l.length → (rd_T28 l (m : Int)).f1 ≤ 200 := fun m hm => hs m (by omega)
    have ht := total_200 l fun m hm => by
      have := h200 m hm
      unfold leftN m_left
      split <;> omega
    have hm := matchN_length l (by omega)
    have hz : ∀ m, m < l.length → rd (List.replicate l.length (0 : Int)) (m : Int) = 0 := fun m hm => by
      show (List.replicate l.length (0 : Int)).getD m 0 = 0
      rw [List.getD_eq_getElem?_getD, List.getElem?_replicate]
      split <;> rfl
    have L1 := nests_l1 (l := l) (p := matchN l) hl h200 (by omega) (fun x hx => (hI.good x hx).1) (fun m hm => by have := hI.used m hm; have := hI.nn m hm; omega) hI.nest (matchN l).length 0 (List.replicate l.length 0) (by omega) (by simp) (fun m hm => by rw [hz m hm]; rfl)
    refine Ev.step 0 L1 fun k _ => ?_
    rw [incipitlaw13_DelimNests.l0, if_neg (by omega), match_some l (by omega) hb, Option.bind_some]
    rfl
  | d + 1, i, h, hs => by
    have ew : wrap64 ((i : Int) + 1) = ((i + 1 : Nat) : Int) := by rw [wrap64_sm (by omega) (by omega)]; omega
    by_cases h1 : (rd_T28 l (i : Int)).f1 > 200
    · exact Ev.done fun k => by rw [incipitlaw13_DelimNests.l0, if_pos (by omega), if_pos (by omega), if_pos h1]
    · refine Ev.step 0 (nests_l0 l hl hb d (i + 1) (by omega) fun m hm => ?_) fun k _ => ?_
      · by_cases e : m = i
        · rw [e]; omega
        · exact hs m (by omega)
      · rw [incipitlaw13_DelimNests.l0, if_pos (by omega), if_pos (by omega), if_neg h1, ew]
theorem DelimNests_pure (l : List S28) (hb : ∀ x ∈ l, 0 ≤ x.f0 ∧ x.f0 ≤ 255) : ∃ k, incipitlaw13_DelimNests.f k l = some true := by
  by_cases hl : (l.length : Int) > 80
  · refine ⟨0, ?_⟩
    unfold incipitlaw13_DelimNests.f
    rw [awake_true4, Option.bind_some, if_pos hl]
  · obtain ⟨K, hK⟩ := nests_l0 l (by omega) hb l.length 0 (by omega) (fun m hm => by omega)
    refine ⟨K, ?_⟩
    unfold incipitlaw13_DelimNests.f
    rw [awake_true4, Option.bind_some, if_neg hl, if_pos (by omega), if_pos (by rw [Int.toNat_natCast]; omega), Int.toNat_natCast]
    exact hK K (Nat.le_refl _)
end Go.Proofs.Ytclondmclehiiaa.P
