/- DelimMatches: the reference's search is the plain search; so both tell the same pairs. -/
import Derived.Test.YtclondmclehiiaaPk10
import Derived.Test.YtclondmclehiiaaNaive
namespace Go.Proofs.Ytclondmclehiiaa.P
open Go.RowKit Go.Proofs.YtclondmclehiiaaW.PrintWords Go.Proofs.YtclondmclehiiaaW.PrintLast Go.Proofs.YtclondmclehiiaaW.PrintMore
set_option linter.unusedVariables false
set_option linter.unusedSimpArgs false
set_option maxRecDepth 100000 in
theorem awake_true4 : incipitlaw13_awake.f = some true := by decide +kernel

/-- With rounds enough, g answers r. -/
def Ev {α : Type} (g : Nat → Option α) (r : α) : Prop := ∃ K, ∀ k, K ≤ k → g k = some r
theorem Ev.step {α : Type} {g h : Nat → Option α} {r : α} (K0 : Nat) (he : Ev h r) (hs : ∀ k, K0 ≤ k → g (k + 1) = h k) : Ev g r := by
  obtain ⟨K, hK⟩ := he
  refine ⟨K + K0 + 1, fun k hk => ?_⟩
  obtain ⟨k, rfl⟩ : ∃ q, k = q + 1 := ⟨k - 1, by omega⟩
  rw [hs k (by omega), hK k (by omega)]
theorem Ev.done {α : Type} {g : Nat → Option α} {r : α} (hs : ∀ k, g (k + 1) = some r) : Ev g r := ⟨1, fun k hk => by
  obtain ⟨k, rfl⟩ : ∃ q, k = q + 1 := ⟨k - 1, by omega⟩
  exact hs k⟩
theorem wrap64_sm1 {a : Int} (h0 : -1 ≤ a) (h1 : a ≤ 1073741824) : wrap64 a = a := by unfold wrap64; omega

def c60 (x : S28) : S60 := ⟨x.f0, x.f1, x.f2, x.f3⟩
def c46 (x : S40) : S46 := ⟨x.f0, x.f1, x.f2⟩
theorem rd60_map (l : List S28) (i : Nat) (hi : i < l.length) : rd_T60 (l.map c60) (i : Int) = c60 (rd_T28 l i) := by
  show (l.map c60).getD i z60 = c60 (l.getD i z28)
  rw [List.getD_eq_getElem?_getD, List.getElem?_map, List.getElem?_eq_getElem hi, List.getD_eq_getElem?_getD, List.getElem?_eq_getElem hi]
  rfl
theorem runs_ev (l : List S28) (hl : l.length ≤ 1000) : ∀ (d i : Nat), i + d = l.length → Ev (fun k => incipitlaw13_runs.l0 k l ((l.take i).map c60) (i : Int)) (l.map c60)
  | 0, i, h => Ev.done fun k => by
    rw [incipitlaw13_runs.l0, if_neg (by omega)]
    rw [List.take_of_length_le (by omega)]
  | d + 1, i, h => Ev.step 0 (runs_ev l hl d (i + 1) (by omega)) fun k _ => by
    have ew : wrap64 ((i : Int) + 1) = ((i + 1 : Nat) : Int) := by rw [wrap64_sm (by omega) (by omega)]; omega
    have e : (l.take (i + 1)).map c60 = (l.take i).map c60 ++ [c60 (rd_T28 l i)] := by
      have hi : i < l.length := by omega
      rw [List.take_succ_eq_append_getElem hi, List.map_append]
      show _ = _ ++ [c60 (l.getD i z28)]
      rw [List.getD_eq_getElem?_getD, List.getElem?_eq_getElem hi]
      rfl
    show incipitlaw13_runs.l0 (k + 1) l ((l.take i).map c60) (i : Int) = incipitlaw13_runs.l0 k l ((l.take (i + 1)).map c60) ((i + 1 : Nat) : Int)
    rw [incipitlaw13_runs.l0, if_pos (by omega), if_pos (by omega), if_pos (by simp only [List.length_map, List.length_take]; omega), ew, e]
    rfl
theorem theirs_ev (l : List S40) (hl : l.length ≤ 1000000000000) (hsmall : l.length ≤ 1000000000) : ∀ (d i : Nat), i + d = l.length → Ev (fun k => incipitlaw13_theirs.l0 k l ((l.take i).map c46) (i : Int)) (l.map c46)
  | 0, i, h => Ev.done fun k => by
    rw [incipitlaw13_theirs.l0, if_neg (by omega)]
    rw [List.take_of_length_le (by omega)]
  | d + 1, i, h => Ev.step 0 (theirs_ev l hl hsmall d (i + 1) (by omega)) fun k _ => by
    have ew : wrap64 ((i : Int) + 1) = ((i + 1 : Nat) : Int) := by rw [wrap64_sm (by omega) (by omega)]; omega
    have e : (l.take (i + 1)).map c46 = (l.take i).map c46 ++ [c46 (rd_T40 l i)] := by
      have hi : i < l.length := by omega
      rw [List.take_succ_eq_append_getElem hi, List.map_append]
      show _ = _ ++ [c46 (l.getD i z40)]
      rw [List.getD_eq_getElem?_getD, List.getElem?_eq_getElem hi]
      rfl
    show incipitlaw13_theirs.l0 (k + 1) l ((l.take i).map c46) (i : Int) = incipitlaw13_theirs.l0 k l ((l.take (i + 1)).map c46) ((i + 1 : Nat) : Int)
    rw [incipitlaw13_theirs.l0, if_pos (by omega), if_pos (by omega), if_pos (by simp only [List.length_map, List.length_take]; omega), ew, e]
    rfl
theorem same_ev (l : List S46) (hl : l.length ≤ 1000000000) : ∀ (d i : Nat), i + d = l.length → Ev (fun k => incipitref13_Same.l0 k l l (i : Int)) true
  | 0, i, h => Ev.done fun k => by rw [incipitref13_Same.l0, if_neg (by omega)]
  | d + 1, i, h => Ev.step 0 (same_ev l hl d (i + 1) (by omega)) fun k _ => by
    have ew : wrap64 ((i : Int) + 1) = ((i + 1 : Nat) : Int) := by rw [wrap64_sm (by omega) (by omega)]; omega
    rw [incipitref13_Same.l0, if_pos (by omega), if_pos (by omega), if_pos (by omega), if_pos rfl, if_pos rfl, if_pos rfl, ew]

structure Lefts (n : Nat) (left : Nat → Int) (x3 : List Int) : Prop where
  len : x3.length = n
  at_ : ∀ i, i < n → rd x3 (i : Int) = left i
  bnd : ∀ i, i < n → 0 ≤ left i ∧ left i ≤ 1073741824
theorem rd_set (xs : List Int) (i j : Nat) (x : Int) (hi : i < xs.length) : rd (xs.set i x) (j : Int) = if i = j then x else rd xs j := by
  show (xs.set i x).getD j 0 = if i = j then x else xs.getD j 0
  rw [List.getD_eq_getElem?_getD, List.getElem?_set]
  by_cases h : i = j
  · rw [if_pos h, if_pos h, if_pos (by omega)]; rfl
  · rw [if_neg h, if_neg h, List.getD_eq_getElem?_getD]

theorem ref_fits (l : List S28) (left : Nat → Int) (j i : Nat) (hi : 1 ≤ left i) (k : Nat) :
    incipitref13_fits.f (k + 1) (rd_T28 l j).f0 (rd_T28 l j).f1 (rd_T28 l j).f2 (rd_T28 l j).f3 (rd_T28 l i).f0 (rd_T28 l i).f1 (rd_T28 l i).f2 (rd_T28 l i).f3 (left j) (left i) = some (fitN l left j i) := by
  have hd : decide (left i < 1) = false := decide_eq_false (by omega)
  unfold incipitref13_fits.f fitN
  by_cases h0 : (rd_T28 l j).f0 = (rd_T28 l i).f0
  · rw [if_pos h0, if_pos h0]
    by_cases h2 : (rd_T28 l j).f2 = true
    · rw [if_pos h2, if_pos h2]
      by_cases h1 : left j < 1
      · rw [if_pos h1, if_pos h1, incipitref13_fits.j0, if_pos rfl]
      · rw [if_neg h1, if_neg h1, hd, incipitref13_fits.j0, if_neg (by decide), h0]
        by_cases ht : (rd_T28 l i).f0 = 126
        · rw [if_pos ht, if_pos ht]
          by_cases he : left j = left i <;> simp [he]
        · rw [if_neg ht, if_neg ht, if_pos h2]
          have hf := fits_some (rd_T28 l j) (rd_T28 l i)
          rw [← hf]
          unfold delim_fits.f
          rw [if_pos h2]
          by_cases g1 : (rd_T28 l j).f3 = true
          · rw [if_pos g1, if_pos g1]
            by_cases g2 : Int.tmod (wrap64 ((rd_T28 l j).f1 + (rd_T28 l i).f1)) 3 = 0
            · rw [if_pos g2, if_pos g2]
              by_cases g3 : Int.tmod (rd_T28 l j).f1 3 = 0
              · rw [if_pos g3, if_pos g3]
                by_cases g4 : Int.tmod (rd_T28 l i).f1 3 = 0 <;> simp [g4, bne]
              · rw [if_neg g3, if_neg g3]; rfl
            · rw [if_neg g2, if_neg g2]; rfl
          · rw [if_neg g1, if_neg g1]
            by_cases g5 : (rd_T28 l i).f2 = true
            · rw [if_pos g5, if_pos g5]
              by_cases g6 : (rd_T28 l i).f3 = true
              · rw [if_pos g6, if_pos g6]
                by_cases g2 : Int.tmod (wrap64 ((rd_T28 l j).f1 + (rd_T28 l i).f1)) 3 = 0
                · rw [if_pos g2, if_pos g2]
                  by_cases g3 : Int.tmod (rd_T28 l j).f1 3 = 0
                  · rw [if_pos g3, if_pos g3]
                    by_cases g4 : Int.tmod (rd_T28 l i).f1 3 = 0 <;> simp [g4, bne]
                  · rw [if_neg g3, if_neg g3]; rfl
                · rw [if_neg g2, if_neg g2]; rfl
              · rw [if_neg g6, if_neg g6]; rfl
            · rw [if_neg g5, if_neg g5]; rfl
    · rw [if_neg h2, if_neg h2, incipitref13_fits.j0, if_pos rfl]
  · rw [if_neg h0, if_neg h0, incipitref13_fits.j0, if_pos rfl]

theorem j7_step (L : List S60) (x3 : List Int) (x5 : List S46) (i q : Nat) (s : Int) (k : Nat) (h5 : x5.length < 1000000000000) (hq : q < x3.length) (hi : i < x3.length) (hi2 : i < 1000) (hqi : q < i)
    (h0 : 0 ≤ rd x3 (q : Int) - s) (h1 : rd x3 (q : Int) - s ≤ 1073741824) (h2 : 0 ≤ rd x3 (i : Int) - s) (h3 : rd x3 (i : Int) - s ≤ 1073741824) :
    incipitref13_Match.j7 (k + 1) L x3 x5 (i : Int) (q : Int) s = incipitref13_Match.l3 k L ((x3.set q (rd x3 (q : Int) - s)).set i (rd x3 (i : Int) - s)) (x5 ++ [⟨q, i, s⟩]) (i : Int) ((q + 1 : Nat) : Int) := by
  have c5 : x5.length < 5864062014805 := by omega
  have cq0 : (0 : Int) ≤ (q : Int) := by omega
  have cq : (q : Int) < (x3.length : Int) := by omega
  have ci0 : (0 : Int) ≤ (i : Int) := by omega
  have ci : (i : Int) < (x3.length : Int) := by omega
  have hne : ¬ q = i := by omega
  have e1 : rd (x3.set q (rd x3 (q : Int) - s)) (i : Int) = rd x3 (i : Int) := by rw [rd_set _ _ _ _ hq, if_neg hne]
  have e2 : wrap64 (rd x3 (q : Int) - s) = rd x3 (q : Int) - s := wrap64_sm h0 h1
  have e3 : wrap64 (rd x3 (i : Int) - s) = rd x3 (i : Int) - s := wrap64_sm h2 h3
  have ew : wrap64 ((q : Int) + 1) = ((q + 1 : Nat) : Int) := by rw [wrap64_sm (by omega) (by omega)]; omega
  rw [incipitref13_Match.j7]
  rw [if_pos c5, if_pos cq0, if_pos cq, Option.bind_some, if_pos ci0, if_pos ci, Int.toNat_natCast, Int.toNat_natCast, e2, e1, e3, ew]

section
variable {l : List S28} (hl : l.length ≤ 500)
include hl

theorem l3_ev {x5 : List S46} {i : Nat} (hi : i < l.length) {r : List S46} : ∀ (d : Nat) (q : Nat) (x3 : List Int), q + d = i → x3.length = l.length →
    (∀ x3' : List Int, x3'.length = l.length → (∀ p : Nat, p < l.length → rd x3' (p : Int) = if q ≤ p ∧ p < i then 0 else rd x3 (p : Int)) → Ev (fun k => incipitref13_Match.l1 k (l.map c60) x3' x5 (i : Int)) r) →
    Ev (fun k => incipitref13_Match.l3 k (l.map c60) x3 x5 (i : Int) (q : Int)) r
  | 0, q, x3, hq, h3, H => Ev.step 0 (H x3 h3 fun p hp => by rw [if_neg (by omega)]) fun k _ => by
    rw [incipitref13_Match.l3, if_neg (by omega)]
  | d + 1, q, x3, hq, h3, H => Ev.step 0 (l3_ev hi d (q + 1) (x3.set q 0) (by omega) (by simp [h3]) fun x3' h3' hp' => H x3' h3' fun p hp => by
      rw [hp' p hp, rd_set _ _ _ _ (by omega)]
      by_cases h1 : q = p
      · rw [if_neg (by omega), if_pos h1, if_pos (by omega)]
      · rw [if_neg h1]
        by_cases h2 : q + 1 ≤ p ∧ p < i
        · rw [if_pos h2, if_pos (by omega)]
        · rw [if_neg h2, if_neg (by omega)]) fun k _ => by
    have ew : wrap64 ((q : Int) + 1) = ((q + 1 : Nat) : Int) := by rw [wrap64_sm (by omega) (by omega)]; omega
    rw [incipitref13_Match.l3, if_pos (by omega), if_pos (by omega), if_pos (by omega), ew]
    rfl

theorem l2_ev {x5 : List S46} {i : Nat} (hi : i < l.length) {r : List S46} {left : Nat → Int} {x3 : List Int} (hL : Lefts l.length left x3) (h1 : 1 ≤ left i) : ∀ (d : Nat), d ≤ i →
    Ev (fun k => incipitref13_Match.j4 k (l.map c60) x3 x5 (i : Int) (match findN l left i d with | some q => (q : Int) | none => -1)) r →
    Ev (fun k => incipitref13_Match.l2 k (l.map c60) x3 x5 (i : Int) ((d : Int) - 1)) r
  | 0, _, H => Ev.step 0 H fun k _ => by
    rw [incipitref13_Match.l2, if_neg (by omega)]
    rfl
  | d + 1, hd, H => by
    have e0 : ((d + 1 : Nat) : Int) - 1 = (d : Int) := by omega
    have hlen : (l.map c60).length = l.length := by simp
    have hstep : ∀ k, 1 ≤ k → incipitref13_Match.l2 (k + 1) (l.map c60) x3 x5 (i : Int) (d : Int) =
        if fitN l left d i = true then incipitref13_Match.j4 k (l.map c60) x3 x5 (i : Int) (d : Int) else incipitref13_Match.l2 k (l.map c60) x3 x5 (i : Int) ((d : Int) - 1) := by
      intro k hk
      obtain ⟨k, rfl⟩ : ∃ q, k = q + 1 := ⟨k - 1, by omega⟩
      have hf := ref_fits l left d i h1 k
      rw [incipitref13_Match.l2, if_pos (by omega), if_pos (by omega), hlen, if_pos (by omega), if_pos (by omega), if_pos (by omega), hL.len, if_pos (by omega), if_pos (by omega), rd60_map l d (by omega), rd60_map l i hi, hL.at_ d (by omega), hL.at_ i hi]
      simp only [c60]
      rw [hf, Option.bind_some, wrap64_sm1 (by omega) (by omega)]
    unfold findN at H
    by_cases hf : fitN l left d i = true
    · rw [if_pos hf] at H
      refine Ev.step 1 H fun k hk => ?_
      rw [e0, hstep k hk, if_pos hf]
    · rw [if_neg hf] at H
      refine Ev.step 1 (l2_ev hi hL h1 d (by omega) H) fun k hk => ?_
      rw [e0, hstep k hk, if_neg hf]

theorem j4_some {x5 : List S46} {i q : Nat} (hi : i < l.length) (hq : q < i) {r : List S46} {left : Nat → Int} {x3 : List Int} (hL : Lefts l.length left x3) (h1 : 1 ≤ left i) (hf : fitN l left q i = true) (h5 : x5.length < 1000000000000)
    (H : ∀ x3', Lefts l.length (afterN left q i (sizeN l left q i)) x3' → Ev (fun k => incipitref13_Match.l1 k (l.map c60) x3' (x5 ++ [c46 ⟨q, i, sizeN l left q i⟩]) (i : Int)) r) :
    Ev (fun k => incipitref13_Match.j4 k (l.map c60) x3 x5 (i : Int) (q : Int)) r := by
  have hlen : (l.map c60).length = l.length := by simp
  have hs := size_ok hf h1
  have hfl := fit_left hf
  have bi := hL.bnd i hi
  have bq := hL.bnd q (by omega)
  -- j7
  have J7 : Ev (fun k => incipitref13_Match.j7 k (l.map c60) x3 x5 (i : Int) (q : Int) (sizeN l left q i)) r := by
    refine Ev.step 0 (l3_ev hl hi (i - (q + 1)) (q + 1) ((x3.set q (left q - sizeN l left q i)).set i (left i - sizeN l left q i)) (by omega) (by simp [hL.len]) fun x3' h3' hp' => H x3' ⟨h3', fun p hp => ?_, fun p hp => ?_⟩) fun k _ => ?_
    · rw [hp' p hp, rd_set _ _ _ _ (by simp [hL.len]; omega), rd_set _ _ _ _ (by rw [hL.len]; omega)]
      unfold afterN
      by_cases hc : q + 1 ≤ p ∧ p < i
      · rw [if_pos hc, if_neg (by omega), if_neg (by omega), if_pos (by omega)]
      · rw [if_neg hc]
        by_cases ha : i = p
        · subst ha
          rw [if_pos rfl, if_neg (by omega), if_pos rfl]
        · rw [if_neg ha]
          by_cases hb : q = p
          · subst hb
            rw [if_pos rfl, if_pos rfl]
          · rw [if_neg hb, if_neg (by omega), if_neg (by omega), if_neg (by omega), hL.at_ p hp]
    · unfold afterN
      have := hL.bnd p hp
      split
      · omega
      · split
        · omega
        · split <;> omega
    · have g0 := hL.at_ q (by omega)
      have g1 := hL.at_ i hi
      have hx := hL.len
      have := j7_step (l.map c60) x3 x5 i q (sizeN l left q i) k h5 (by omega) (by omega) (by omega) hq (by rw [g0]; omega) (by rw [g0]; omega) (by rw [g1]; omega) (by rw [g1]; omega)
      rw [g0, g1] at this
      exact this
  -- j6
  have J6 : ∀ x8 : Int, x8 = mn (mn (left i) (left q)) 2 → Ev (fun k => incipitref13_Match.j6 k (l.map c60) x3 x5 (i : Int) (q : Int) x8) r := by
    intro x8 h8
    refine Ev.step 0 J7 fun k _ => ?_
    rw [incipitref13_Match.j6, if_pos (by omega), hlen, if_pos (by omega), rd60_map l i hi]
    show (if (rd_T28 l i).f0 = 126 then _ else _) = _
    unfold sizeN
    by_cases ht : (rd_T28 l i).f0 = 126
    · rw [if_pos ht, if_pos ht, hL.len, if_pos (by omega), hL.at_ i hi]
    · rw [if_neg ht, if_neg ht, h8]
  have J5 : ∀ b : Bool, b = decide (left q ≥ 2 ∧ left i ≥ 2) → Ev (fun k => incipitref13_Match.j5 k (l.map c60) x3 x5 (i : Int) (q : Int) 1 b) r := by
    intro b hb
    by_cases hc : left q ≥ 2 ∧ left i ≥ 2
    · rw [decide_eq_true hc] at hb
      subst hb
      refine Ev.step 0 (J6 2 (by unfold mn; (repeat' split) <;> omega)) fun k _ => ?_
      rw [incipitref13_Match.j5, if_pos rfl]
    · rw [decide_eq_false hc] at hb
      subst hb
      refine Ev.step 0 (J6 1 (by unfold mn; (repeat' split) <;> omega)) fun k _ => ?_
      rw [incipitref13_Match.j5, if_neg (by decide)]
  by_cases hc : left q ≥ 2
  · refine Ev.step 0 (J5 (decide (left i ≥ 2)) (by simp [hc])) fun k _ => ?_
    rw [incipitref13_Match.j4, if_neg (by omega), if_pos (by omega), hL.len, if_pos (by omega), hL.at_ q (by omega), if_pos hc, if_pos (by omega), if_pos (by omega), hL.at_ i hi]
  · refine Ev.step 0 (J5 false (by simp [hc])) fun k _ => ?_
    rw [incipitref13_Match.j4, if_neg (by omega), if_pos (by omega), hL.len, if_pos (by omega), hL.at_ q (by omega), if_neg hc]

theorem l1_ev : ∀ (n i : Nat) (left : Nat → Int) (out : List S40) (x3 : List Int), Lefts l.length left x3 → i ≤ l.length → (l.length : Int) - i + total l.length left < n → (out.length : Int) + total l.length left < 1000000000000 →
    Ev (fun k => incipitref13_Match.l1 k (l.map c60) x3 (out.map c46) (i : Int)) ((naive l n i left out).map c46) := by
  have hlen : (l.map c60).length = l.length := by simp
  intro n
  induction n with
  | zero =>
    intro i left out x3 hL hi hn
    have := total_nonneg (n := l.length) (left := left) (fun i hi => (hL.bnd i hi).1)
    omega
  | succ n ih =>
    intro i left out x3 hL hi hn ho
    have htn := total_nonneg (n := l.length) (left := left) (fun i hi => (hL.bnd i hi).1)
    simp only [naive]
    by_cases hlt : i < l.length
    · rw [if_pos hlt]
      have ew : wrap64 ((i : Int) + 1) = ((i + 1 : Nat) : Int) := by rw [wrap64_sm (by omega) (by omega)]; omega
      by_cases hsk : (rd_T28 l i).f3 = false ∨ left i = 0
      · rw [if_pos hsk]
        have H := ih (i + 1) left out x3 hL (by omega) (by omega) ho
        have J2 : Ev (fun k => incipitref13_Match.j2 k (l.map c60) x3 (out.map c46) (i : Int) true) ((naive l n (i + 1) left out).map c46) :=
          Ev.step 0 H fun k _ => by rw [incipitref13_Match.j2, if_pos rfl, ew]
        refine Ev.step 0 J2 fun k _ => ?_
        rw [incipitref13_Match.l1, hlen, if_pos (by omega), if_pos (by omega), rd60_map l i hlt]
        show (if (rd_T28 l i).f3 = true then _ else _) = _
        by_cases h3 : (rd_T28 l i).f3 = true
        · have h0 : left i = 0 := by
            rcases hsk with h | h
            · rw [h3] at h; cases h
            · exact h
          rw [if_pos h3, hL.len, if_pos (by omega), hL.at_ i hlt, h0]
          rfl
        · rw [if_neg h3]
      · rw [if_neg hsk]
        have h3 : (rd_T28 l i).f3 = true := by
          cases h : (rd_T28 l i).f3 with
          | true => rfl
          | false => exact absurd (.inl h) hsk
        have h0 : left i ≠ 0 := fun h => hsk (.inr h)
        have h1 : 1 ≤ left i := by have := (hL.bnd i hlt).1; omega
        have hb : (left i == 0) = false := by simp [h0]
        have go : ∀ r, Ev (fun k => incipitref13_Match.j4 k (l.map c60) x3 (out.map c46) (i : Int) (match findN l left i i with | some q => (q : Int) | none => -1)) r →
            Ev (fun k => incipitref13_Match.l1 k (l.map c60) x3 (out.map c46) (i : Int)) r := by
          intro r H
          have L2 := l2_ev hl hlt hL h1 i (Nat.le_refl _) H
          have J2 : Ev (fun k => incipitref13_Match.j2 k (l.map c60) x3 (out.map c46) (i : Int) false) r :=
            Ev.step 0 L2 fun k _ => by rw [incipitref13_Match.j2, if_neg (by decide), wrap64_sm1 (by omega) (by omega)]
          refine Ev.step 0 J2 fun k _ => ?_
          rw [incipitref13_Match.l1, hlen, if_pos (by omega), if_pos (by omega), rd60_map l i hlt]
          show (if (rd_T28 l i).f3 = true then _ else _) = _
          rw [if_pos h3, hL.len, if_pos (by omega), hL.at_ i hlt, hb]
        apply go
        cases hf : findN l left i i with
        | none =>
          simp only
          by_cases h2 : (rd_T28 l i).f2 = true
          · rw [if_pos h2]
            refine Ev.step 0 (ih (i + 1) left out x3 hL (by omega) (by omega) ho) fun k _ => ?_
            rw [incipitref13_Match.j4, if_pos (by omega), if_pos (by omega), hlen, if_pos (by omega), rd60_map l i hlt]
            show (if (rd_T28 l i).f2 = true then _ else _) = _
            rw [if_pos h2, ew]
          · rw [if_neg h2]
            have hle : total l.length (fun p => if p = i then 0 else left p) ≤ total l.length left := total_le fun p hp => by
              have := (hL.bnd p hp).1
              show (if p = i then 0 else left p) ≤ left p
              split <;> omega
            refine Ev.step 0 (ih (i + 1) (fun p => if p = i then 0 else left p) out (x3.set i 0) ⟨by simp [hL.len], fun p hp => ?_, fun p hp => ?_⟩ (by omega) (by omega) (by omega)) fun k _ => ?_
            · rw [rd_set _ _ _ _ (by rw [hL.len]; omega), hL.at_ p hp]
              by_cases h : i = p
              · rw [if_pos h, if_pos h.symm]
              · rw [if_neg h, if_neg (fun e => h e.symm)]
            · have := hL.bnd p hp
              show 0 ≤ (if p = i then 0 else left p) ∧ (if p = i then 0 else left p) ≤ _
              split <;> omega
            · rw [incipitref13_Match.j4, if_pos (by omega), if_pos (by omega), hlen, if_pos (by omega), rd60_map l i hlt]
              show (if (rd_T28 l i).f2 = true then _ else _) = _
              rw [if_neg h2, hL.len, if_pos (by omega), ew]
              rfl
        | some q =>
          simp only
          obtain ⟨hq, hfit, _⟩ := find_some hf
          have hs := size_ok hfit h1
          have hlt2 : total l.length (afterN left q i (sizeN l left q i)) < total l.length left := total_lt (j := i) (fun p hp => by
              have := (hL.bnd p hp).1
              unfold afterN
              split
              · rename_i h; subst h; omega
              · split
                · rename_i h; subst h; omega
                · split <;> omega) hlt (by
              unfold afterN
              rw [if_neg (by omega), if_pos rfl]; omega)
          refine j4_some hl hlt hq hL h1 hfit (by rw [List.length_map]; omega) fun x3' hL' => ?_
          have := ih i (afterN left q i (sizeN l left q i)) (out ++ [⟨q, i, sizeN l left q i⟩]) x3' hL' hi (by omega) (by simp only [List.length_append, List.length_cons, List.length_nil]; omega)
          rw [List.map_append] at this
          exact this
    · rw [if_neg hlt]
      exact Ev.done fun k => by rw [incipitref13_Match.l1, hlen, if_neg (by omega)]

theorem l0_ev {r : List S46} : ∀ (d i : Nat) (x3 : List Int), i + d = l.length → x3.length = l.length → (∀ p, p < i → rd x3 (p : Int) = leftN l p) → (∀ p, i ≤ p → p < l.length → rd x3 (p : Int) = 0) →
    (∀ x3', Lefts l.length (leftN l) x3' → Ev (fun k => incipitref13_Match.l1 k (l.map c60) x3' [] ((0 : Nat) : Int)) r) →
    Ev (fun k => incipitref13_Match.l0 k (l.map c60) x3 (i : Int)) r
  | 0, i, x3, hi, h3, ha, hz, H => by
    refine Ev.step 0 (H x3 ⟨h3, fun p hp => ha p (by omega), fun p hp => m_left_le _⟩) fun k _ => ?_
    rw [incipitref13_Match.l0, if_neg (by simp only [List.length_map]; omega)]
    rfl
  | d + 1, i, x3, hi, h3, ha, hz, H => by
    have ew : wrap64 ((i : Int) + 1) = ((i + 1 : Nat) : Int) := by rw [wrap64_sm (by omega) (by omega)]; omega
    have hlen : (l.map c60).length = l.length := by simp
    by_cases h1 : (rd_T28 l i).f1 ≥ 1 ∧ (rd_T28 l i).f1 ≤ 1073741824
    · have el : leftN l i = (rd_T28 l i).f1 := by unfold leftN m_left; rw [if_neg (by omega)]
      refine Ev.step 0 (l0_ev d (i + 1) (x3.set i (rd_T28 l i).f1) (by omega) (by simp [h3]) (fun p hp => ?_) (fun p hp hpl => ?_) H) fun k _ => ?_
      · rw [rd_set _ _ _ _ (by omega)]
        by_cases h : i = p
        · rw [if_pos h, ← h, el]
        · rw [if_neg h]; exact ha p (by omega)
      · rw [rd_set _ _ _ _ (by omega), if_neg (by omega)]
        exact hz p (by omega) hpl
      · rw [incipitref13_Match.l0, hlen, if_pos (by omega), if_pos (by omega), rd60_map l i (by omega)]
        show (if (rd_T28 l i).f1 ≥ 1 then (if (rd_T28 l i).f1 ≤ 1073741824 then _ else _) else _) = _
        rw [if_pos h1.1, if_pos h1.2, if_pos (by omega), ew]
        rfl
    · have el : leftN l i = 0 := by unfold leftN m_left; rw [if_pos (by omega)]
      refine Ev.step 0 (l0_ev d (i + 1) x3 (by omega) h3 (fun p hp => ?_) (fun p hp hpl => hz p (by omega) hpl) H) fun k _ => ?_
      · by_cases h : i = p
        · rw [← h, el]; exact hz i (Nat.le_refl _) (by omega)
        · exact ha p (by omega)
      · rw [incipitref13_Match.l0, hlen, if_pos (by omega), if_pos (by omega), rd60_map l i (by omega)]
        show (if (rd_T28 l i).f1 ≥ 1 then (if (rd_T28 l i).f1 ≤ 1073741824 then _ else _) else _) = _
        by_cases h2 : (rd_T28 l i).f1 ≥ 1
        · rw [if_pos h2, if_neg (by omega), ew]
        · rw [if_neg h2, ew]

omit hl in
theorem total_small : total l.length (leftN l) ≤ 1073741824 * (l.length : Int) := total_bound l.length (leftN l) (fun i _ => (m_left_le _).2)
theorem ref_match : Ev (fun k => incipitref13_Match.f k (l.map c60)) ((matchN l).map c46) := by
  have ht := total_small (l := l)
  have h0 := total_nonneg (n := l.length) (left := leftN l) (fun i _ => (m_left_le _).1)
  have H := l0_ev hl (r := (matchN l).map c46) l.length 0 (List.replicate l.length 0) (by omega) (by simp) (fun p hp => by omega) (fun p _ hp => by
      show (List.replicate l.length (0 : Int)).getD p 0 = 0
      rw [List.getD_eq_getElem?_getD, List.getElem?_replicate]
      split <;> rfl) (fun x3' hL => l1_ev hl _ 0 (leftN l) [] x3' hL (by omega) (by omega) (by simp only [List.length_nil]; omega))
  obtain ⟨K, hK⟩ := H
  refine ⟨K, fun k hk => ?_⟩
  have := hK k hk
  show incipitref13_Match.f k (l.map c60) = _
  unfold incipitref13_Match.f
  have hlen : (l.map c60).length = l.length := by simp
  rw [hlen, if_pos (by omega), if_pos (by rw [Int.toNat_natCast]; omega), Int.toNat_natCast]
  exact this
end

theorem naive_length (l : List S28) (hl : l.length ≤ 500) : ∀ (n i : Nat) (left : Nat → Int) (out : List S40), (∀ p, p < l.length → 0 ≤ left p) → i ≤ l.length → ((naive l n i left out).length : Int) ≤ out.length + total l.length left := by
  intro n
  induction n with
  | zero => intro i left out hL hi; have := total_nonneg (n := l.length) (left := left) hL; simp only [naive]; omega
  | succ n ih =>
    intro i left out hL hi
    have h0 := total_nonneg (n := l.length) (left := left) hL
    simp only [naive]
    by_cases hlt : i < l.length
    · rw [if_pos hlt]
      by_cases hsk : (rd_T28 l i).f3 = false ∨ left i = 0
      · rw [if_pos hsk]; exact ih (i + 1) left out hL (by omega)
      · rw [if_neg hsk]
        have h1 : 1 ≤ left i := by
          have := hL i hlt
          have : left i ≠ 0 := fun h => hsk (.inr h)
          omega
        cases hf : findN l left i i with
        | none =>
          simp only
          by_cases h2 : (rd_T28 l i).f2 = true
          · rw [if_pos h2]; exact ih (i + 1) left out hL (by omega)
          · rw [if_neg h2]
            have hle : total l.length (fun p => if p = i then 0 else left p) ≤ total l.length left := total_le fun p hp => by
              have := hL p hp
              show (if p = i then 0 else left p) ≤ left p
              split <;> omega
            have := ih (i + 1) (fun p => if p = i then 0 else left p) out (fun p hp => by
              have := hL p hp
              show 0 ≤ (if p = i then 0 else left p)
              split <;> omega) (by omega)
            omega
        | some q =>
          simp only
          obtain ⟨hq, hfit, _⟩ := find_some hf
          have hs := size_ok hfit h1
          have hlt2 : total l.length (afterN left q i (sizeN l left q i)) < total l.length left := total_lt (j := i) (fun p hp => by
              have := hL p hp
              unfold afterN
              split
              · rename_i h; subst h; omega
              · split
                · rename_i h; subst h; omega
                · split <;> omega) hlt (by
              unfold afterN
              rw [if_neg (by omega), if_pos rfl]; omega)
          have := ih i (afterN left q i (sizeN l left q i)) (out ++ [⟨q, i, sizeN l left q i⟩]) (fun p hp => by
            have := hL p hp
            unfold afterN
            split
            · omega
            · split
              · omega
              · split <;> omega) hi
          simp only [List.length_append, List.length_cons, List.length_nil] at this
          omega
    · rw [if_neg hlt]; omega
theorem match_some (l : List S28) (hl : l.length ≤ 500) (hb : ∀ x ∈ l, 0 ≤ x.f0 ∧ x.f0 ≤ 255) : delim_Match.f l = some (matchN l) := by
  unfold delim_Match.f
  rw [if_pos ⟨hl, hb⟩]
theorem matchN_length (l : List S28) (hl : l.length ≤ 500) : ((matchN l).length : Int) ≤ total l.length (leftN l) := by
  have := naive_length l hl (l.length + (total l.length (leftN l)).toNat + 1) 0 (leftN l) [] (fun p _ => (m_left_le _).1) (by omega)
  simpa [matchN] using this
theorem total_200 (l : List S28) (h : ∀ i, i < l.length → leftN l i ≤ 200) : total l.length (leftN l) ≤ 200 * (l.length : Int) := by
  have hg : ∀ n, n ≤ l.length → total n (leftN l) ≤ 200 * (n : Int) := by
    intro n
    induction n with
    | zero => intro _; simp [total]
    | succ n ih =>
      intro hn
      rw [total_succ]
      have := ih (by omega)
      have := h n (by omega)
      omega
  exact hg _ (Nat.le_refl _)

theorem matches_loop (l : List S28) (hl : l.length ≤ 80) (hb : ∀ x ∈ l, 0 ≤ x.f0 ∧ x.f0 ≤ 255) : ∀ (d i : Nat), i + d = l.length → (∀ p, p < i → leftN l p ≤ 200) → Ev (fun k => incipitlaw13_DelimMatches.l0 k l true (i : Int)) true
  | 0, i, hi, hs => by
    have ht := total_200 l fun p hp => hs p (by omega)
    have hm := matchN_length l (by omega)
    obtain ⟨K1, h1⟩ := theirs_ev (matchN l) (by omega) (by omega) (matchN l).length 0 (by omega)
    obtain ⟨K2, h2⟩ := runs_ev l (by omega) l.length 0 (by omega)
    obtain ⟨K3, h3⟩ := ref_match (l := l) (by omega)
    obtain ⟨K4, h4⟩ := same_ev ((matchN l).map c46) (by simp only [List.length_map]; omega) ((matchN l).map c46).length 0 (by omega)
    refine ⟨K1 + K2 + K3 + K4 + 1, fun k hk => ?_⟩
    obtain ⟨k, rfl⟩ : ∃ q, k = q + 1 := ⟨k - 1, by omega⟩
    have g1 : incipitlaw13_theirs.f k (matchN l) = some ((matchN l).map c46) := h1 k (by omega)
    have g2 : incipitlaw13_runs.f k l = some (l.map c60) := h2 k (by omega)
    have g3 : incipitref13_Match.f k (l.map c60) = some ((matchN l).map c46) := h3 k (by omega)
    have g4 : incipitref13_Same.f k ((matchN l).map c46) ((matchN l).map c46) = some true := by
      unfold incipitref13_Same.f
      rw [if_pos rfl]
      exact h4 k (by omega)
    show incipitlaw13_DelimMatches.l0 (k + 1) l true (i : Int) = some true
    rw [incipitlaw13_DelimMatches.l0, if_neg (by omega), if_pos rfl, match_some l (by omega) hb, Option.bind_some, g1, Option.bind_some, g2, Option.bind_some, g3, Option.bind_some, g4]
    rfl
  | d + 1, i, hi, hs => by
    have ew : wrap64 ((i : Int) + 1) = ((i + 1 : Nat) : Int) := by rw [wrap64_sm (by omega) (by omega)]; omega
    by_cases h : (rd_T28 l i).f1 > 200 ∧ (rd_T28 l i).f1 ≤ 1073741824
    · exact Ev.done fun k => by rw [incipitlaw13_DelimMatches.l0, if_pos (by omega), if_pos (by omega), if_pos h.1, if_pos h.2]
    · refine Ev.step 0 (matches_loop l hl hb d (i + 1) (by omega) fun p hp => ?_) fun k _ => ?_
      · by_cases hpi : p = i
        · subst hpi
          unfold leftN m_left
          split <;> omega
        · exact hs p (by omega)
      · rw [incipitlaw13_DelimMatches.l0, if_pos (by omega), if_pos (by omega)]
        by_cases h1 : (rd_T28 l i).f1 > 200
        · rw [if_pos h1, if_neg (by omega), ew]
        · rw [if_neg h1, ew]
theorem DelimMatches_pure (l : List S28) (hb : ∀ x ∈ l, 0 ≤ x.f0 ∧ x.f0 ≤ 255) : ∃ k, incipitlaw13_DelimMatches.f k l = some true := by
  by_cases hl : (l.length : Int) > 80
  · refine ⟨0, ?_⟩
    unfold incipitlaw13_DelimMatches.f
    rw [awake_true4, Option.bind_some, if_pos hl]
  · obtain ⟨K, hK⟩ := matches_loop l (by omega) hb l.length 0 (by omega) (fun p hp => by omega)
    refine ⟨K, ?_⟩
    unfold incipitlaw13_DelimMatches.f
    rw [awake_true4, Option.bind_some, if_neg hl]
    exact hK K (Nat.le_refl _)
end Go.Proofs.Ytclondmclehiiaa.P
