/- FootCoheres, the plain law: notes are numbered from 1, each has a reference; references lead to notes, the first ones rising. -/
import Derived.Test.YtbgbmphjjdiaeaaDoorPk26
import Derived.Test.YtbgbmphjjdiaeaaDoorFootQ
import Derived.Test.YtbgbmphjjdiaeaaDoorFootC
namespace Go.Proofs.YtbgbmphjjdiaeaaDoor.P
open Go.RowKit Go.Proofs.YtbgbmphjjdiaeaaDoorW.PrintWords Go.Proofs.YtbgbmphjjdiaeaaDoorW.PrintLast Go.Proofs.YtbgbmphjjdiaeaaDoorW.PrintMore
set_option linter.unusedVariables false
theorem rd_withM (st : Cnt) (l : List S24) (i : Nat) (h : i < l.length) : rd_T24 (l.map (withM st)) (i : Int) = withM st (rd_T24 l (i : Int)) := by
  unfold rd_T24
  simp only [Int.toNat_natCast, List.getD_eq_getElem?_getD, List.getElem?_map]
  rw [List.getElem?_eq_getElem h]
  rfl
/-- The counts, told by the state. -/
def cts (o : List Bs) (st : Cnt) : List Int := 0 :: o.map (fun s => ((st.cnt s : Nat) : Int))
theorem cts_len (o : List Bs) (st : Cnt) : (cts o st).length = o.length + 1 := by simp [cts]
theorem cts_rd (o : List Bs) (st : Cnt) (i : Nat) (s : Bs) (h : o[i]? = some s) : rd (cts o st) ((i + 1 : Nat) : Int) = ((st.cnt s : Nat) : Int) := by
  unfold rd cts
  rw [Int.toNat_natCast, List.getD_eq_getElem?_getD, List.getElem?_cons_succ, List.getElem?_map, h]
  rfl
theorem cts_set (o : List Bs) (hn : o.Nodup) (st : Cnt) (i : Nat) (s : Bs) (h : o[i]? = some s) : (cts o st).set (i + 1) (((st.add s).cnt s : Nat) : Int) = cts o (st.add s) := by
  have hlt : i < o.length := (List.getElem?_eq_some_iff.1 h).1
  unfold cts
  rw [List.set_cons_succ]
  congr 1
  refine List.ext_getElem? fun j => ?_
  rw [List.getElem?_set, List.getElem?_map, List.getElem?_map]
  by_cases e : i = j
  · subst e
    rw [if_pos rfl, List.length_map, if_pos hlt, h]
    rfl
  · rw [if_neg e]
    cases hj : o[j]? with
    | none => rfl
    | some s' =>
      have hne : s' ≠ s := fun es => e ((List.getElem?_inj hlt hn).1 (by rw [h, hj, es]))
      show some ((st.cnt s' : Nat) : Int) = some (((st.add s).cnt s' : Nat) : Int)
      rw [add_cnt_eq, if_neg hne]
theorem cts_zero (o : List Bs) : List.replicate (o.length + 1) 0 = cts o cnt0 := by
  unfold cts
  rw [List.replicate_succ]
  congr 1
  refine (List.eq_replicate_iff.2 ⟨by simp, fun b hb => ?_⟩).symm
  obtain ⟨s, _, rfl⟩ := List.mem_map.1 hb
  rfl
theorem cts_step (o : List Bs) (hn : o.Nodup) (st : Cnt) (i j : Nat) (s : Bs) (h : o[i]? = some s) (hc : st.cnt s ≤ j) (hj : j < 1000000000) : (cts o st).set (((i + 1 : Nat) : Int)).toNat (wrap64 (rd (cts o st) ((i + 1 : Nat) : Int) + 1)) = cts o (st.add s) := by
  have hcx : (((st.add s).cnt s : Nat) : Int) = ((st.cnt s : Nat) : Int) + 1 := by rw [add_cnt_eq, if_pos rfl]; rfl
  have hw : wrap64 (((st.cnt s : Nat) : Int) + 1) = ((st.cnt s : Nat) : Int) + 1 := wr64 (by omega) (by omega)
  rw [Int.toNat_natCast, cts_rd _ _ _ _ h, hw, ← hcx]
  exact cts_set _ hn _ _ _ h
theorem wr_pred (i : Nat) (h : i ≤ 1000000000) : wrap64 (((i + 1 : Nat) : Int) - 1) = (i : Int) := by
  rw [wr64 (by omega) (by omega)]
  omega
theorem wr_succ (i : Nat) (h : i ≤ 1000000000) : wrap64 ((i : Int) + 1) = ((i + 1 : Nat) : Int) := by
  rw [wr64 (by omega) (by omega)]
  omega
theorem num_facts {st : Cnt} {s : Bs} {o : List Bs} (hp : (st.add s).ord <+: o) :
    ∃ i, (st.add s).num s = i + 1 ∧ o[i]? = some s ∧ i ≤ st.ord.length ∧ i < o.length ∧ mx (st.ord.length : Int) ((i + 1 : Nat) : Int) = ((st.add s).ord.length : Int) := by
  have hmem : s ∈ (st.add s).ord := by
    rw [add_ord]
    split
    · assumption
    · exact List.mem_append_right _ (List.mem_singleton.2 rfl)
  have hlt : (st.add s).ord.idxOf s < (st.add s).ord.length := List.idxOf_lt_length_of_mem hmem
  have hat : (st.add s).ord[(st.add s).ord.idxOf s]? = some s := by
    rw [List.getElem?_eq_getElem hlt, List.getElem_idxOf hlt]
  have hle := hp.length_le
  refine ⟨(st.add s).ord.idxOf s, rfl, prefix_at hp hat, ?_, by omega, ?_⟩
  · have := add_len st s
    omega
  · generalize (st.add s).ord.idxOf s = i at *
    by_cases hs : s ∈ st.ord
    · have e : (st.add s).ord = st.ord := by rw [add_ord, if_pos hs]
      rw [e] at hlt ⊢
      unfold mx
      rw [if_neg (by omega)]
    · have e : (st.add s).ord = st.ord ++ [s] := by rw [add_ord, if_neg hs]
      rw [e] at hlt hat ⊢
      rw [List.length_append, List.length_singleton] at hlt ⊢
      have : ¬ i < st.ord.length := fun hi => by
        rw [List.getElem?_append_left hi] at hat
        exact hs (List.mem_of_getElem? hat)
      unfold mx
      rw [if_pos (by omega)]
      omega
theorem coh_l2 (text notes : List S24) (st9 : Cnt) (hN : notes.length = st9.ord.length) (ho : st9.ord.length ≤ 1500) (ht : ntcL text = 0) (hw : wtL text ≤ 10000)
    (hnote : ∀ i, i < notes.length → st9.ord[i]? = some (bts (rd_T24 notes (i : Int)).f1) ∧ (rd_T24 notes (i : Int)).f4 = ((st9.cnt (bts (rd_T24 notes (i : Int)).f1) : Nat) : Int)) :
    ∀ (d i : Nat), i + d = notes.length → Ev (fun k => incipitlaw18_FootCoheres.l2 k true text notes (st9.ord.length : Int) (cts st9.ord st9) (i : Int)) true := by
  intro d
  induction d with
  | zero =>
    intro i hi
    refine Ev.step (f := fun k => (incipitlaw18_notes.f k text).bind fun t562 => (if t562 = 0 then (some ((st9.ord.length : Int) == (notes.length : Int))) else none)) (fun k => ?_) ?_
    · simp only [incipitlaw18_FootCoheres.l2]
      rw [if_neg (by omega), if_pos trivial]
    · have hn := notes_ev text (by omega)
      rw [ht] at hn
      refine Ev.bind (f := fun _ t562 => (if t562 = 0 then (some ((st9.ord.length : Int) == (notes.length : Int))) else none)) hn ?_
      refine Ev.congr (f := fun _ => some true) (fun k => ?_) (Ev.now _)
      rw [if_pos (by omega), beq_iff_eq.2 (by omega)]
  | succ d ih =>
    intro i hi
    have hlt : i < notes.length := by omega
    have hi1 : wrap64 ((i : Int) + 1) = ((i + 1 : Nat) : Int) := by rw [wr64 (by omega) (by omega)]; omega
    obtain ⟨h1, h2⟩ := hnote i hlt
    refine Ev.step (f := fun k => incipitlaw18_FootCoheres.l2 k true text notes (st9.ord.length : Int) (cts st9.ord st9) ((i + 1 : Nat) : Int)) (fun k => ?_) (ih (i + 1) (by omega))
    simp only [incipitlaw18_FootCoheres.l2]
    rw [if_pos (by omega), if_pos (by omega), hi1, if_pos (by omega), cts_len, if_pos (by omega), cts_rd _ _ _ _ h1, if_pos h2]
theorem coh_l1 (text notes R : List S24) (has : Bs → Bool) (st9 : Cnt) (hN : notes.length = st9.ord.length) (ho : st9.ord.length ≤ 1500) (hR : R.length < 1000000000) (hf9 : Fit has st9)
    (hnote : ∀ i, i < notes.length → st9.ord[i]? = some (bts (rd_T24 notes (i : Int)).f1))
    (hend : Ev (fun k => incipitlaw18_FootCoheres.l2 k true text notes (st9.ord.length : Int) (cts st9.ord st9) ((0 : Nat) : Int)) true) :
    ∀ (d j : Nat) (st : Cnt), j + d = R.length → Stp has st (R.drop j) st9 → Fit has st → (∀ s, st.cnt s ≤ j) → Ev (fun k => incipitlaw18_FootCoheres.l1 k true text notes R (st.ord.length : Int) (cts st9.ord st) (j : Int)) true := by
  intro d
  induction d with
  | zero =>
    intro j st hj hs hf hc
    have e : R.drop j = [] := List.drop_eq_nil_of_le (by omega)
    rw [e] at hs
    have es : st9 = st := hs
    subst es
    refine Ev.step (f := fun k => incipitlaw18_FootCoheres.l2 k true text notes (st9.ord.length : Int) (cts st9.ord st9) ((0 : Nat) : Int)) (fun k => ?_) hend
    simp only [incipitlaw18_FootCoheres.l1]
    rw [if_neg (by omega)]
    rfl
  | succ d ih =>
    intro j st hj hs hf hc
    have hlt : j < R.length := by omega
    rw [drop_rd R j hlt] at hs
    obtain ⟨g1, g2, g3, g4⟩ := hs
    obtain ⟨x, ex⟩ : ∃ x, x = rd_T24 R (j : Int) := ⟨_, rfl⟩
    rw [← ex] at g1 g2 g3 g4
    have hf' := hf.add g1
    obtain ⟨_, hp⟩ := Stp_fit g4 hf'
    obtain ⟨i, q1, q2, q3, q4, q5⟩ := num_facts hp
    rw [q1] at g2
    have hl := hf9.nodup
    have hcs := hc (bts x.f1)
    have hcx : (st.add (bts x.f1)).cnt (bts x.f1) = st.cnt (bts x.f1) + 1 := by rw [add_cnt_eq, if_pos rfl]
    have hpl := hp.length_le
    have hal : st.ord.length ≤ (st.add (bts x.f1)).ord.length := (add_prefix st _).length_le
    have hs1 := hnote i (by omega)
    have hse : bts (rd_T24 notes (i : Int)).f1 = bts x.f1 := Option.some.inj (hs1.symm.trans q2)
    have hbe : (((rd_T24 notes (i : Int)).f1).toList != (x.f1).toList) = false := by
      rw [bne_eq_false_iff_eq, ByteArray.toList_eq, ByteArray.toList_eq]
      exact hse
    have bi : i ≤ 1000000000 := by omega
    have bj : j ≤ 1000000000 := by omega
    have bo : st.ord.length ≤ 1000000000 := by omega
    have b1 : ¬ ((i + 1 : Nat) : Int) < 1 := by omega
    have b2 : ¬ ((i + 1 : Nat) : Int) > (notes.length : Int) := by omega
    have b3 : ¬ ((i + 1 : Nat) : Int) > ((st.ord.length + 1 : Nat) : Int) := by omega
    have b4 : (0 : Int) ≤ (i : Int) := by omega
    have b5 : (i : Int) < (notes.length : Int) := by omega
    have b6 : (j : Int) < (R.length : Int) := by omega
    have b7 : (0 : Int) ≤ (j : Int) := by omega
    have b8 : (0 : Int) ≤ ((i + 1 : Nat) : Int) := by omega
    have b9 : ((i + 1 : Nat) : Int) < ((st9.ord.length + 1 : Nat) : Int) := by omega
    have hset := cts_step st9.ord hl st i j (bts x.f1) q2 hcs (by omega)
    refine Ev.step (f := fun k => incipitlaw18_FootCoheres.j2 k true text notes R (st.ord.length : Int) (cts st9.ord st) (j : Int) false) (fun k => ?_) ?_
    · simp only [incipitlaw18_FootCoheres.l1]
      rw [if_pos b6, if_pos b7, ← ex, g2, if_neg b1, if_neg b2, wr_succ _ bo, if_neg b3, wr_pred _ bi, if_pos b4, if_pos b5, hbe]
    · refine Ev.step (f := fun k => incipitlaw18_FootCoheres.l1 k true text notes R ((st.add (bts x.f1)).ord.length : Int) (cts st9.ord (st.add (bts x.f1))) ((j + 1 : Nat) : Int)) (fun k => ?_) (ih (j + 1) (st.add (bts x.f1)) (by omega) g4 hf' fun s => ?_)
      · simp only [incipitlaw18_FootCoheres.j2]
        rw [if_neg (by decide), if_pos b7, if_pos b6, ← ex, g2, if_pos b8, cts_len, if_pos b9, hset, Option.bind_some, cts_rd _ _ _ _ q2, if_pos g3, q5, wr_succ _ bj]
      · have := add_cnt st (bts x.f1) s
        have := hc s
        omega
theorem coh_l0 (text out9 R : List S24) (has : Bs → Bool) (st1 st9 : Cnt) (hout : Out has st1 st9 out9) (hl : out9.length = st9.ord.length) (ho : st9.ord.length ≤ 1500) (hf9 : Fit has st9)
    (hend : Ev (fun k => incipitlaw18_FootCoheres.l1 k true text (out9.map (withM st9)) R 0 (cts st9.ord cnt0) 0) true) :
    ∀ (d i : Nat) (acc : List S24), i + d = out9.length → acc.length ≤ 10000 + i * 6000 → acc ++ ((out9.drop i).flatMap fun x => rfL x.f6) = R → Ev (fun k => incipitlaw18_FootCoheres.l0 k true text (out9.map (withM st9)) acc 0 (i : Int)) true := by
  intro d
  have hml : (out9.map (withM st9)).length = out9.length := List.length_map _
  induction d with
  | zero =>
    intro i acc hi ha hR
    have e : out9.drop i = [] := List.drop_eq_nil_of_le (by omega)
    rw [e, List.flatMap_nil, List.append_nil] at hR
    subst hR
    refine Ev.step (f := fun k => incipitlaw18_FootCoheres.l1 k true text (out9.map (withM st9)) acc 0 (cts st9.ord cnt0) 0) (fun k => ?_) hend
    have hw : wrap64 (((out9.map (withM st9)).length : Int) + 1) = ((st9.ord.length + 1 : Nat) : Int) := by rw [hml, wr64 (by omega) (by omega)]; omega
    simp only [incipitlaw18_FootCoheres.l0]
    rw [if_neg (by rw [hml]; omega), hw, if_pos (by omega), Int.toNat_natCast, if_pos (by omega), cts_zero]
  | succ d ih =>
    intro i acc hi ha hR
    have hlt : i < out9.length := by omega
    have hi1 : wrap64 ((i : Int) + 1) = ((i + 1 : Nat) : Int) := by rw [wr64 (by omega) (by omega)]; omega
    obtain ⟨h1, h2, h3, h4, h5⟩ := hout.at_ i hlt
    have hmem : bts (rd_T24 out9 (i : Int)).f1 ∈ st9.ord := List.mem_of_getElem? h5
    have hpos := hf9.pos _ hmem
    have hlen := rfL_len (rd_T24 out9 (i : Int)).f6
    rw [drop_rd out9 i hlt, List.flatMap_cons, ← List.append_assoc] at hR
    refine Ev.step (f := fun k => (incipitlaw18_notes.f k (rd_T24 out9 (i : Int)).f6).bind fun t536 => (if t536 > 0 then none else ((incipitlaw18_refs.f k (rd_T24 out9 (i : Int)).f6).bind fun t538 => (if acc.length + t538.length < 1599289640401 then (incipitlaw18_FootCoheres.l0 k true text (out9.map (withM st9)) (acc ++ t538) 0 (wrap64 ((i : Int) + 1))) else none)))) (fun k => ?_) ?_
    · simp only [incipitlaw18_FootCoheres.l0]
      rw [if_pos (by rw [hml]; omega), if_pos (by omega), rd_withM st9 out9 i hlt]
      unfold withM
      rw [if_pos h1, hi1, if_pos h2, if_neg (by show ¬ (((st9.cnt _ : Nat) : Int) < 1); omega)]
    · have hn := notes_ev (rd_T24 out9 (i : Int)).f6 (by omega)
      rw [h3] at hn
      refine Ev.bind (f := fun k t536 => (if t536 > 0 then none else ((incipitlaw18_refs.f k (rd_T24 out9 (i : Int)).f6).bind fun t538 => (if acc.length + t538.length < 1599289640401 then (incipitlaw18_FootCoheres.l0 k true text (out9.map (withM st9)) (acc ++ t538) 0 (wrap64 ((i : Int) + 1))) else none)))) hn ?_
      refine Ev.congr (f := fun k => (incipitlaw18_refs.f k (rd_T24 out9 (i : Int)).f6).bind fun t538 => (if acc.length + t538.length < 1599289640401 then (incipitlaw18_FootCoheres.l0 k true text (out9.map (withM st9)) (acc ++ t538) 0 (wrap64 ((i : Int) + 1))) else none)) (fun k => by rw [if_neg (by omega)]) ?_
      refine Ev.bind (f := fun k t538 => (if acc.length + t538.length < 1599289640401 then (incipitlaw18_FootCoheres.l0 k true text (out9.map (withM st9)) (acc ++ t538) 0 (wrap64 ((i : Int) + 1))) else none)) (refs_ev _ (by omega)) ?_
      refine Ev.congr (f := fun k => incipitlaw18_FootCoheres.l0 k true text (out9.map (withM st9)) (acc ++ rfL (rd_T24 out9 (i : Int)).f6) 0 ((i + 1 : Nat) : Int)) (fun k => by rw [if_pos (by omega), hi1]) ?_
      exact ih (i + 1) _ (by omega) (by rw [List.length_append]; omega) hR
theorem FootCoheres_pure (t : S24) (hok : okT t) : ∃ k, incipitlaw18_FootCoheres.f k t.f0 t.f1 t.f2 t.f3 t.f4 t.f5 t.f6 = some true := by
  refine Ev.rounds ?_
  obtain ⟨b, hb, hcnt⟩ := Few_ev t hok 1500 (by omega) (by omega)
  refine Ev.bind (f := fun k t521 => ((incipitref06_Few.f k t.f0 t.f1 t.f2 t.f3 t.f4 t.f5 t.f6 1500).bind fun t522 => (if t522 = true then ((foot_Number.f k t.f6).bind fun bt523 => ((incipitlaw18_refs.f k bt523.1).bind fun t529 => (incipitlaw18_FootCoheres.l0 k t521 bt523.1 bt523.2 t529 0 0))) else (some t521)))) (a := true) ⟨3, fun k hk => awake18 k hk⟩ ?_
  refine Ev.bind (f := fun k t522 => (if t522 = true then ((foot_Number.f k t.f6).bind fun bt523 => ((incipitlaw18_refs.f k bt523.1).bind fun t529 => (incipitlaw18_FootCoheres.l0 k true bt523.1 bt523.2 t529 0 0))) else (some true))) hb ?_
  cases b with
  | false => exact Ev.congr (f := fun _ => some true) (fun k => by rw [if_neg (by decide)]) (Ev.now _)
  | true =>
    have hwt := hcnt rfl
    have hwt2 := wtT_eq t
    have hw : wtL t.f6 ≤ 1500 := by omega
    refine Ev.congr (f := fun k => (foot_Number.f k t.f6).bind fun bt523 => ((incipitlaw18_refs.f k bt523.1).bind fun t529 => (incipitlaw18_FootCoheres.l0 k true bt523.1 bt523.2 t529 0 0))) (fun k => by rw [if_pos rfl]) ?_
    obtain ⟨text, out9, st1, st9, e1, e2, e3, e4, e5, e6, e7, e8⟩ := number_fit t.f6 hw
    refine Ev.bind (f := fun k bt523 => ((incipitlaw18_refs.f k bt523.1).bind fun t529 => (incipitlaw18_FootCoheres.l0 k true bt523.1 bt523.2 t529 0 0))) e1 ?_
    refine Ev.bind (f := fun k t529 => (incipitlaw18_FootCoheres.l0 k true text (out9.map (withM st9)) t529 0 0)) (refs_ev text (by omega)) ?_
    have hml : (out9.map (withM st9)).length = out9.length := List.length_map _
    have hrt := rfL_len text
    have hfl : ∀ (L : List S24), (∀ x ∈ L, wtL x.f6 ≤ 6000) → (L.flatMap fun x => rfL x.f6).length ≤ L.length * 6000 := by
      intro L
      induction L with
      | nil => intro _; simp
      | cons x r ih =>
        intro hx
        have h1 := ih fun y hy => hx y (List.mem_cons_of_mem _ hy)
        have h2 := hx x (List.mem_cons_self ..)
        have h3 := rfL_len x.f6
        rw [List.flatMap_cons, List.length_append, List.length_cons]
        omega
    have hfo := hfl out9 fun x hx => by
      obtain ⟨i, hi, rfl⟩ := List.getElem_of_mem hx
      have := (e6.at_ i hi).2.2.2.1
      rw [show rd_T24 out9 (i : Int) = out9[i] from by unfold rd_T24; rw [Int.toNat_natCast, List.getD_eq_getElem?_getD, List.getElem?_eq_getElem hi]; rfl] at this
      exact this
    have hnote : ∀ i, i < (out9.map (withM st9)).length → st9.ord[i]? = some (bts (rd_T24 (out9.map (withM st9)) (i : Int)).f1) ∧ (rd_T24 (out9.map (withM st9)) (i : Int)).f4 = ((st9.cnt (bts (rd_T24 (out9.map (withM st9)) (i : Int)).f1) : Nat) : Int) := by
      intro i hi
      rw [hml] at hi
      rw [rd_withM st9 out9 i hi]
      exact ⟨(e6.at_ i hi).2.2.2.2, rfl⟩
    have hS : Stp (hasF (noteF t.f6)) cnt0 (rfL text ++ out9.flatMap fun x => rfL x.f6) st9 := Stp_app e2 e6.stp
    have h2 := coh_l2 text (out9.map (withM st9)) st9 (by omega) e8 e3 e4 hnote _ 0 (Nat.zero_add _)
    have h1 := coh_l1 text (out9.map (withM st9)) (rfL text ++ out9.flatMap fun x => rfL x.f6) (hasF (noteF t.f6)) st9 (by omega) e8 (by rw [List.length_append]; omega) e5 (fun i hi => (hnote i hi).1) h2 _ 0 cnt0 (Nat.zero_add _) (by rw [List.drop_zero]; exact hS) (Fit.zero _) (fun s => Nat.le_refl _)
    exact coh_l0 text out9 _ (hasF (noteF t.f6)) st1 st9 e6 e7 e8 e5 h1 out9.length 0 (rfL text) (Nat.zero_add _) (by omega) (by rw [List.drop_zero])
end Go.Proofs.YtbgbmphjjdiaeaaDoor.P
