/- How many slots a forest has: plain words, no program. -/
import Derived.Test.YtikfbipjlkhgeaaForestW
namespace Go.Proofs.Ytikfbipjlkhgeaa.P
open Go.RowKit Go.Proofs.YtikfbipjlkhgeaaW.PrintWords Go.Proofs.YtikfbipjlkhgeaaW.PrintLast Go.Proofs.YtikfbipjlkhgeaaW.PrintMore
set_option linter.unusedVariables false
set_option linter.unusedSimpArgs false
theorem nodup_sub_len {α : Type} [BEq α] [LawfulBEq α] : ∀ (l m : List α), l.Nodup → (∀ x ∈ l, x ∈ m) → l.length ≤ m.length
  | [], _, _, _ => by simp
  | x :: l, m, hn, h => by
    rw [List.nodup_cons] at hn
    have hx := h x List.mem_cons_self
    have := nodup_sub_len l (m.erase x) hn.2 fun y hy => by
      have hy2 := h y (List.mem_cons_of_mem _ hy)
      have hne : y ≠ x := fun e => hn.1 (e ▸ hy)
      exact (List.mem_erase_of_ne hne).2 hy2
    rw [List.length_erase_of_mem hx] at this
    have := List.length_pos_of_mem hx
    simp
    omega
theorem countP_split {α : Type} (p q r : α → Bool) : ∀ (l : List α), (∀ x ∈ l, p x = (q x || r x)) → (∀ x ∈ l, q x = true → r x = true → False) → l.countP p = l.countP q + l.countP r
  | [], _, _ => by simp
  | x :: l, h, h' => by
    have ih := countP_split p q r l (fun y hy => h y (List.mem_cons_of_mem _ hy)) (fun y hy => h' y (List.mem_cons_of_mem _ hy))
    have hx := h x List.mem_cons_self
    have hx' := h' x List.mem_cons_self
    rw [List.countP_cons, List.countP_cons, List.countP_cons, ih, hx]
    cases hq : q x <;> cases hr : r x <;> simp_all <;> omega
theorem countP_any (L : List Nat) (R : Nat → Int → Bool) : ∀ (cs : List Int), cs.Nodup → (∀ j ∈ L, ∀ c ∈ cs, ∀ c' ∈ cs, R j c = true → R j c' = true → c = c') → L.countP (fun j => cs.any (R j)) = (cs.map fun c => L.countP (fun j => R j c)).sum
  | [], _, _ => by simp
  | c :: cs, hn, h => by
    rw [List.nodup_cons] at hn
    have ih := countP_any L R cs hn.2 fun j hj a ha b hb => h j hj a (List.mem_cons_of_mem _ ha) b (List.mem_cons_of_mem _ hb)
    rw [List.map_cons, List.sum_cons, ← ih]
    refine countP_split _ _ _ L (fun j _ => by rw [List.any_cons]) fun j hj h1 h2 => ?_
    obtain ⟨b, hb, hr⟩ := List.any_eq_true.1 h2
    have := h j hj c List.mem_cons_self b (List.mem_cons_of_mem _ hb) h1 hr
    subst this
    exact hn.1 hb
theorem anc_d {sl : List S70} {d : Nat → Nat} (hu : Up sl d) : ∀ (k i top : Nat), i < sl.length → atF sl k i top = true → top < sl.length ∧ d top ≤ d i
  | 0, _, _, _, h => by unfold atF at h; cases h
  | k + 1, i, top, hi, h => by
    unfold atF at h
    by_cases e : (i : Int) = top
    · have : i = top := by omega
      subst this
      exact ⟨hi, Nat.le_refl _⟩
    · rw [if_neg e, if_neg (by omega)] at h
      rcases hu.pr i hi with h1 | ⟨p, hp, h1, hd⟩
      · rw [h1] at h
        cases k with
        | zero => unfold atF at h; cases h
        | succ k =>
          unfold atF at h
          rw [if_neg (by omega), if_pos (by omega)] at h
          cases h
      · rw [h1] at h
        have := anc_d hu k p top hp h
        omega
theorem anc_trans {sl : List S70} : ∀ (k : Nat) (i c top : Int), atF sl k i c = true → Anc sl c top → Anc sl i top
  | 0, _, _, _, h, _ => by unfold atF at h; cases h
  | k + 1, i, c, top, h, h2 => by
    unfold atF at h
    by_cases e : i = c
    · rw [e]; exact h2
    · rw [if_neg e] at h
      by_cases h0 : i < 0
      · rw [if_pos h0] at h; cases h
      · rw [if_neg h0] at h
        rw [Anc.iff]
        exact .inr ⟨by omega, anc_trans k _ c top h h2⟩
/-- Two that stand above one: one of them stands above the other. -/
theorem anc_line {sl : List S70} : ∀ (k : Nat) (i a b : Int), atF sl k i a = true → Anc sl i b → Anc sl a b ∨ Anc sl b a
  | 0, _, _, _, h, _ => by unfold atF at h; cases h
  | k + 1, i, a, b, h, h2 => by
    unfold atF at h
    by_cases e : i = a
    · rw [← e]; exact .inl h2
    · rw [if_neg e] at h
      by_cases h0 : i < 0
      · rw [if_pos h0] at h; cases h
      · rw [if_neg h0] at h
        rcases (Anc.iff sl i b).1 h2 with e2 | ⟨_, h3⟩
        · rw [← e2]
          right
          rw [Anc.iff]
          exact .inr ⟨by omega, k, h⟩
        · exact anc_line k _ a b h h3
theorem anc_neg {sl : List S70} {i top : Int} (h : Anc sl i top) (hi : i < 0) : i = top := by
  rcases (Anc.iff sl i top).1 h with e | ⟨e, _⟩
  · exact e
  · omega
theorem anc_kids {sl : List S70} (hw : Wf sl) {d : Nat → Nat} (hu : Up sl d) (i : Nat) (hi : i < sl.length) : ∀ (s j : Nat), d j < s → j < sl.length → (Anc sl j i ↔ j = i ∨ ∃ c ∈ kds sl i, Anc sl j c)
  | 0, _, h, _ => absurd h (by omega)
  | s + 1, j, hs, hj => by
    constructor
    · intro h
      rcases (Anc.iff sl j i).1 h with e | ⟨_, h2⟩
      · exact .inl (by omega)
      · rcases hu.pr j hj with h1 | ⟨p, hp, h1, hd⟩
        · rw [h1] at h2
          have := anc_neg h2 (by omega)
          omega
        · rw [h1] at h2
          rcases (anc_kids hw hu i hi s p (by omega) hp).1 h2 with e | ⟨c, hc, h3⟩
          · subst e
            exact .inr ⟨(j : Int), (hw.kd p hp j).2 ⟨j, hj, rfl, h1⟩, Anc.self sl j⟩
          · refine .inr ⟨c, hc, ?_⟩
            rw [Anc.iff]
            exact .inr ⟨by omega, by rw [h1]; exact h3⟩
    · rintro (rfl | ⟨c, hc, k, hk⟩)
      · exact Anc.self sl j
      · obtain ⟨q, hq, rfl, h2⟩ := (hw.kd i hi c).1 hc
        refine anc_trans k j q i hk ?_
        rw [Anc.iff]
        refine .inr ⟨by omega, ?_⟩
        show Anc sl (par sl q) i
        rw [h2]
        exact Anc.self sl i
noncomputable def ancB (sl : List S70) (j : Nat) (c : Int) : Bool := @decide (Anc sl j c) (Classical.propDecidable _)
noncomputable def cntA (sl : List S70) (c : Int) : Nat := (List.range sl.length).countP (fun j => ancB sl j c)
theorem ancB_iff (sl : List S70) (j : Nat) (c : Int) : ancB sl j c = true ↔ Anc sl j c := by unfold ancB; exact @decide_eq_true_iff _ (Classical.propDecidable _)
theorem count_eq (n i : Nat) (hi : i < n) : (List.range n).countP (fun j => j == i) = 1 := by
  have h1 : (List.range n).countP (fun j => j == i) = (List.range n).count i := rfl
  rw [h1, List.count_range]
  simp [hi]
theorem cntA_step {sl : List S70} (hw : Wf sl) (i : Nat) (hi : i < sl.length) : cntA sl i = 1 + ((kds sl i).map (cntA sl)).sum := by
  obtain ⟨d, hu⟩ := hw.up
  have hd1 : ∀ c ∈ kds sl i, ∃ q : Nat, c = q ∧ q < sl.length ∧ par sl q = i ∧ d i < d q := fun c hc => by
    obtain ⟨q, hq, rfl, h2⟩ := (hw.kd i hi c).1 hc
    rcases hu.pr q hq with h1 | ⟨p, hp, h1, hd⟩
    · have h1 : par sl q = -1 := h1
      omega
    · have h1 : par sl q = p := h1
      have : p = i := by omega
      subst this
      exact ⟨q, rfl, hq, h2, hd⟩
  have h1 := countP_split (fun j => ancB sl j i) (fun j => j == i) (fun j => (kds sl i).any (ancB sl j)) (List.range sl.length) (fun j hj => by
    have hj : j < sl.length := List.mem_range.1 hj
    have := anc_kids hw hu i hi (d j + 1) j (by omega) hj
    rw [Bool.eq_iff_iff, Bool.or_eq_true, ancB_iff, this, beq_iff_eq, List.any_eq_true]
    simp only [ancB_iff]) (fun j hj h2 h3 => by
    have h2 := beq_iff_eq.1 h2
    subst h2
    obtain ⟨c, hc, h3⟩ := List.any_eq_true.1 h3
    obtain ⟨q, rfl, hq, _, hd⟩ := hd1 c hc
    obtain ⟨k, hk⟩ := (ancB_iff sl j q).1 h3
    have := (anc_d hu k j q hi hk).2
    omega)
  have h2 := countP_any (List.range sl.length) (fun j c => ancB sl j c) (kds sl i) (hw.nd i hi) (fun j hj c hc c' hc' h2 h3 => by
    have hj : j < sl.length := List.mem_range.1 hj
    obtain ⟨q, rfl, hq, hp, hd⟩ := hd1 c hc
    obtain ⟨q', rfl, hq', hp', hd'⟩ := hd1 c' hc'
    obtain ⟨k, hk⟩ := (ancB_iff sl j q).1 h2
    have key : ∀ a b : Nat, a < sl.length → par sl a = i → d i < d b → Anc sl a b → a = b := fun a b ha hpa hdb h => by
      rcases (Anc.iff sl a b).1 h with e | ⟨_, k2, hk2⟩
      · omega
      · have hk2 : atF sl k2 (par sl a) b = true := hk2
        rw [hpa] at hk2
        have := (anc_d hu k2 i b hi hk2).2
        omega
    rcases anc_line k j q q' hk ((ancB_iff sl j q').1 h3) with h | h
    · rw [key q q' hq hp hd' h]
    · rw [key q' q hq' hp' hd h])
  unfold cntA
  rw [h1, count_eq _ _ hi, h2]
/-- From each slot on there is a tree; it has as many nodes as stand below the slot. -/
theorem tree_of {sl : List S70} (hw : Wf sl) (hb : ∀ i : Nat, i < sl.length → (rd_T70 sl (i : Int)).f0.f6 = []) {d : Nat → Nat} (hu : Up sl d) (D : Nat) (hD : ∀ i : Nat, i < sl.length → d i ≤ D) :
    ∀ (h i : Nat), i < sl.length → D - d i < h → ∃ t, trT 0 sl i t ∧ cntT t = cntA sl i
  | 0, _, _, h => absurd h (by omega)
  | h + 1, i, hi, hh => by
    have hkid : ∀ c ∈ kds sl i, ∃ q : Nat, c = q ∧ q < sl.length ∧ d i < d q := fun c hc => by
      obtain ⟨q, hq, rfl, h2⟩ := (hw.kd i hi c).1 hc
      rcases hu.pr q hq with h1 | ⟨p, hp, h1, hd⟩
      · have h1 : par sl q = -1 := h1
        omega
      · have h1 : par sl q = p := h1
        have : p = i := by omega
        subst this
        exact ⟨q, rfl, hq, hd⟩
    have key : ∀ cs : List Int, (∀ c ∈ cs, ∃ q : Nat, c = q ∧ q < sl.length ∧ d i < d q) → ∃ ts, trL 0 sl cs ts ∧ cntL ts = (cs.map (cntA sl)).sum := by
      intro cs
      induction cs with
      | nil => intro _; exact ⟨[], by unfold trL; trivial, by simp [cntL]⟩
      | cons c cs ih =>
        intro hc
        obtain ⟨ts, h1, h2⟩ := ih fun x hx => hc x (List.mem_cons_of_mem _ hx)
        obtain ⟨q, rfl, hq, hd⟩ := hc c List.mem_cons_self
        have := hD q hq
        obtain ⟨t, h3, h4⟩ := tree_of hw hb hu D hD h q hq (by omega)
        refine ⟨t :: ts, ?_, ?_⟩
        · unfold trL
          exact ⟨⟨by omega, by simpa using h3⟩, h1⟩
        · rw [List.map_cons, List.sum_cons]
          unfold cntL
          rw [h4, h2]
    obtain ⟨ts, h1, h2⟩ := key _ hkid
    have hb6 := hb i hi
    cases hx : (rd_T70 sl (i : Int)).f0 with
    | mk y0 y1 y2 y3 y4 y5 y6 =>
      rw [hx] at hb6
      have hb6 : y6 = [] := hb6
      subst hb6
      refine ⟨⟨y0, y1, y2, y3, y4, y5, ts⟩, ?_, ?_⟩
      · unfold trT
        exact ⟨by omega, hi, hx, h1⟩
      · rw [cntA_step hw i hi]
        unfold cntT
        rw [h2]
/-- The first slot has no parent, the others have one. -/
def AllIn (sl : List S70) : Prop := par sl 0 = -1 ∧ ∀ j : Nat, 1 ≤ j → j < sl.length → 0 ≤ par sl j
theorem all_anc {sl : List S70} (ha : AllIn sl) {d : Nat → Nat} (hu : Up sl d) : ∀ (s j : Nat), d j < s → j < sl.length → Anc sl j 0
  | 0, _, h, _ => absurd h (by omega)
  | s + 1, j, hs, hj => by
    by_cases e : j = 0
    · subst e; exact Anc.self sl 0
    · have h0 := ha.2 j (by omega) hj
      rcases hu.pr j hj with h1 | ⟨p, hp, h1, hd⟩
      · have h1 : par sl j = -1 := h1
        omega
      · rw [Anc.iff]
        refine .inr ⟨by omega, ?_⟩
        rw [h1]
        exact all_anc ha hu s p (by omega) hp
theorem tree_all {sl : List S70} (hw : Wf sl) (hb : ∀ i : Nat, i < sl.length → (rd_T70 sl (i : Int)).f0.f6 = []) (ha : AllIn sl) (h0 : 0 < sl.length) : ∃ t, trT 0 sl 0 t ∧ cntT t = sl.length := by
  obtain ⟨d, hu⟩ := hw.up
  obtain ⟨D, hD⟩ : ∃ D, ∀ i : Nat, i < sl.length → d i ≤ D := by
    have : ∀ n : Nat, ∃ D, ∀ i : Nat, i < n → d i ≤ D := fun n => by
      induction n with
      | zero => exact ⟨0, fun i hi => by omega⟩
      | succ n ih =>
        obtain ⟨D, h⟩ := ih
        refine ⟨max D (d n), fun i hi => ?_⟩
        by_cases e : i = n
        · subst e; omega
        · have := h i (by omega); omega
    exact this _
  obtain ⟨t, h1, h2⟩ := tree_of hw hb hu D hD (D + 1) 0 h0 (by omega)
  refine ⟨t, h1, ?_⟩
  rw [h2]
  unfold cntA
  have : (List.range sl.length).countP (fun j => ancB sl j ((0 : Nat) : Int)) = (List.range sl.length).length := by
    rw [List.countP_eq_length]
    intro j hj
    exact (ancB_iff sl j _).2 (all_anc ha hu (d j + 1) j (by omega) (List.mem_range.1 hj))
  rw [this, List.length_range]
theorem move_all {sl sl' : List S70} {id p : Int} {b : Bool} (h : MoveRel sl id p b sl') (hw : Wf sl) (ha : AllIn sl) : AllIn sl' := by
  rcases h with ⟨_, i, q, rfl, rfl, hi, hq, h0, hna, rfl⟩ | ⟨_, rfl, _⟩
  · refine ⟨?_, fun j h1 hj => ?_⟩
    · rw [moveS_par hw i q hi hq, if_neg (by omega)]; exact ha.1
    · rw [moveS_len] at hj
      rw [moveS_par hw i q hi hq]
      by_cases e : j = i
      · rw [if_pos e]; omega
      · rw [if_neg e]; exact ha.2 j h1 hj
  · exact ha
/-- Steps up. -/
def upN (sl : List S70) (i : Nat) : Nat → Int
  | 0 => i
  | s + 1 => parentB sl (upN sl i s)
theorem up_steps {sl : List S70} {d : Nat → Nat} (hu : Up sl d) (i : Nat) (hi : i < sl.length) : ∀ s : Nat, (∀ j : Nat, j ≤ s → 0 ≤ upN sl i j) → ∃ f : Nat → Nat, (∀ j : Nat, j ≤ s → upN sl i j = f j ∧ f j < sl.length) ∧ ∀ a b : Nat, a < b → b ≤ s → d (f b) < d (f a)
  | 0, _ => ⟨fun _ => i, fun j hj => by
      have : j = 0 := by omega
      subst this
      exact ⟨rfl, hi⟩, fun a b h1 h2 => by omega⟩
  | s + 1, h => by
    obtain ⟨f, h1, h2⟩ := up_steps hu i hi s fun j hj => h j (by omega)
    have hs := h (s + 1) (Nat.le_refl _)
    obtain ⟨e1, e2⟩ := h1 s (Nat.le_refl _)
    have e3 : upN sl i (s + 1) = par sl (f s) := by
      show parentB sl (upN sl i s) = _
      rw [e1]
      unfold parentB
      rw [if_pos ((hasB_iff sl _).2 ⟨by omega, by omega⟩)]
      rfl
    rw [e3] at hs
    rcases hu.pr (f s) e2 with h3 | ⟨p, hp, h3, hd⟩
    · have h3 : par sl (f s) = -1 := h3
      omega
    · have h3 : par sl (f s) = p := h3
      refine ⟨fun j => if j ≤ s then f j else p, fun j hj => ?_, fun a b ha hb => ?_⟩
      · by_cases e : j ≤ s
        · simp only [if_pos e]; exact h1 j e
        · have : j = s + 1 := by omega
          subst this
          simp only [if_neg e]
          exact ⟨by rw [e3, h3], hp⟩
      · simp only [if_pos (show a ≤ s by omega)]
        by_cases e : b ≤ s
        · simp only [if_pos e]; exact h2 a b ha e
        · simp only [if_neg e]
          by_cases e2 : a = s
          · rw [e2]; exact hd
          · have := h2 a s (by omega) (Nat.le_refl _)
            omega
theorem up_few {sl : List S70} (hw : Wf sl) (i : Nat) (hi : i < sl.length) (s : Nat) (h : ∀ j : Nat, j ≤ s → 0 ≤ upN sl i j) : s + 1 ≤ sl.length := by
  obtain ⟨d, hu⟩ := hw.up
  obtain ⟨f, h1, h2⟩ := up_steps hu i hi s h
  have hn : ((List.range (s + 1)).map f).Nodup := nodup_map f _ List.nodup_range fun a ha b hb e => by
    rw [List.mem_range] at ha hb
    by_cases hab : a < b
    · have := h2 a b hab (by omega)
      rw [e] at this
      omega
    · by_cases hba : b < a
      · have := h2 b a hba (by omega)
        rw [e] at this
        omega
      · omega
  have := nodup_len sl.length _ hn fun x hx => by
    obtain ⟨j, hj, rfl⟩ := List.mem_map.1 hx
    exact (h1 j (by have := List.mem_range.1 hj; omega)).2
  simpa using this
theorem add_wf {sl : List S70} (h : Wf sl) (p : Nat) (x : S70) (hp : p < sl.length) (hx : x.f2 = []) : Wf (addS sl p x) := by
  have hl := addS_len sl p x hp
  have hrd := addS_rd sl p x hp
  have hpr : ∀ j : Nat, j < sl.length + 1 → par (addS sl p x) j = if j = sl.length then (p : Int) else par sl j := fun j hj => by
    unfold par
    rw [hrd j hj]
    by_cases e : j = sl.length
    · rw [if_pos e, if_pos e]
    · rw [if_neg e, if_neg e]
      by_cases e2 : j = p
      · rw [if_pos e2, e2]
      · rw [if_neg e2]
  have hkd : ∀ j : Nat, j < sl.length + 1 → kds (addS sl p x) j = if j = sl.length then [] else if j = p then kds sl p ++ [(sl.length : Int)] else kds sl j := fun j hj => by
    unfold kds
    rw [hrd j hj]
    by_cases e : j = sl.length
    · rw [if_pos e, if_pos e]; exact hx
    · rw [if_neg e, if_neg e]
      by_cases e2 : j = p
      · rw [if_pos e2, if_pos e2]
      · rw [if_neg e2, if_neg e2]
  obtain ⟨d, hu⟩ := h.up
  have hold : ∀ i : Nat, i < sl.length → ∀ q : Nat, par sl i = q → q < sl.length := fun i hi q e => by
    rcases hu.pr i hi with h1 | ⟨p', hp', h1, _⟩
    · have h1 : par sl i = -1 := h1
      omega
    · have h1 : par sl i = p' := h1
      omega
  refine ⟨⟨fun j => if j = sl.length then d p + 1 else d j, ⟨fun i hi => ?_⟩⟩, fun q hq c => ?_, fun q hq => ?_⟩
  · rw [hl] at hi ⊢
    show par (addS sl p x) i = -1 ∨ ∃ q : Nat, q < sl.length + 1 ∧ par (addS sl p x) i = (q : Int) ∧ _
    rw [hpr i hi]
    by_cases e : i = sl.length
    · rw [if_pos e]
      refine .inr ⟨p, by omega, rfl, ?_⟩
      simp only [if_pos e, if_neg (show ¬ p = sl.length by omega)]
      omega
    · rw [if_neg e]
      rcases hu.pr i (by omega) with h1 | ⟨q, hq, h1, hd⟩
      · exact .inl h1
      · refine .inr ⟨q, by omega, h1, ?_⟩
        simp only [if_neg e, if_neg (show ¬ q = sl.length by omega)]
        exact hd
  · rw [hl] at hq ⊢
    rw [hkd q hq]
    by_cases e : q = sl.length
    · rw [if_pos e]
      constructor
      · intro h2; cases h2
      · rintro ⟨i, hi, rfl, h2⟩
        rw [hpr i hi] at h2
        by_cases e2 : i = sl.length
        · rw [if_pos e2] at h2; omega
        · rw [if_neg e2] at h2
          have := hold i (by omega) q h2
          omega
    · rw [if_neg e]
      by_cases e2 : q = p
      · subst e2
        rw [if_pos rfl, List.mem_append, List.mem_singleton, h.kd q (by omega)]
        constructor
        · rintro (⟨i, hi, rfl, h2⟩ | rfl)
          · exact ⟨i, by omega, rfl, by rw [hpr i (by omega), if_neg (by omega)]; exact h2⟩
          · exact ⟨sl.length, by omega, rfl, by rw [hpr _ (by omega), if_pos rfl]⟩
        · rintro ⟨i, hi, rfl, h2⟩
          rw [hpr i hi] at h2
          by_cases e3 : i = sl.length
          · exact .inr (by rw [e3])
          · rw [if_neg e3] at h2
            exact .inl ⟨i, by omega, rfl, h2⟩
      · rw [if_neg e2, h.kd q (by omega)]
        constructor
        · rintro ⟨i, hi, rfl, h2⟩
          exact ⟨i, by omega, rfl, by rw [hpr i (by omega), if_neg (by omega)]; exact h2⟩
        · rintro ⟨i, hi, rfl, h2⟩
          rw [hpr i hi] at h2
          by_cases e3 : i = sl.length
          · rw [if_pos e3] at h2; omega
          · rw [if_neg e3] at h2
            exact ⟨i, by omega, rfl, h2⟩
  · rw [hl] at hq
    rw [hkd q hq]
    by_cases e : q = sl.length
    · rw [if_pos e]; simp
    · rw [if_neg e]
      by_cases e2 : q = p
      · rw [if_pos e2, List.nodup_append]
        refine ⟨h.nd p hp, by simp, fun a ha b hb e3 => ?_⟩
        rw [List.mem_singleton] at hb
        obtain ⟨i, hi, rfl, h2⟩ := (h.kd p hp a).1 ha
        omega
      · rw [if_neg e2]; exact h.nd q (by omega)
theorem add_all {sl : List S70} (h : AllIn sl) (p : Nat) (x : S70) (hp : p < sl.length) : AllIn (addS sl p x) := by
  have hrd := addS_rd sl p x hp
  have hl := addS_len sl p x hp
  refine ⟨?_, fun j h1 hj => ?_⟩
  · unfold par
    rw [hrd 0 (by omega), if_neg (by omega)]
    by_cases e : 0 = p
    · subst e
      rw [if_pos rfl]; exact h.1
    · rw [if_neg e]; exact h.1
  · rw [hl] at hj
    unfold par
    rw [hrd j hj]
    by_cases e : j = sl.length
    · rw [if_pos e]; show (0 : Int) ≤ (p : Int); omega
    · rw [if_neg e]
      by_cases e2 : j = p
      · rw [if_pos e2]; rw [← e2]; exact h.2 j h1 (by omega)
      · rw [if_neg e2]; exact h.2 j h1 (by omega)
theorem one_wf (x : S70) (hp : x.f1 = -1) (hk : x.f2 = []) : Wf [x] := by
  have e : ∀ i : Nat, i < [x].length → i = 0 := fun i hi => by simp at hi; exact hi
  refine ⟨⟨fun _ => 0, ⟨fun i hi => ?_⟩⟩, fun p hp' c => ?_, fun p hp' => ?_⟩
  · obtain rfl := e i hi
    exact .inl hp
  · obtain rfl := e p hp'
    have h1 : kds [x] 0 = [] := hk
    rw [h1]
    constructor
    · intro h; cases h
    · rintro ⟨i, hi, rfl, h2⟩
      obtain rfl := e i hi
      have h3 : par [x] 0 = -1 := hp
      rw [h3] at h2
      omega
  · obtain rfl := e p hp'
    have h1 : kds [x] 0 = [] := hk
    rw [h1]; simp
end Go.Proofs.Ytikfbipjlkhgeaa.P
