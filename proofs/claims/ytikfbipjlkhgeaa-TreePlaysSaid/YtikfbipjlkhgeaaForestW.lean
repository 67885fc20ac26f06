/- What an arena's slots are, whatever is laid, unlinked and moved: plain words, no program. -/
import Derived.Test.YtikfbipjlkhgeaaArenaV
import Derived.Test.YtikfbipjlkhgeaaTreeQ
namespace Go.Proofs.Ytikfbipjlkhgeaa.P
open Go.RowKit Go.Proofs.YtikfbipjlkhgeaaW.PrintWords Go.Proofs.YtikfbipjlkhgeaaW.PrintLast Go.Proofs.YtikfbipjlkhgeaaW.PrintMore
set_option linter.unusedVariables false
set_option linter.unusedSimpArgs false
/-! numbers below n, each once -/
theorem nodup_len : ∀ (n : Nat) (l : List Nat), l.Nodup → (∀ x ∈ l, x < n) → l.length ≤ n
  | 0, [], _, _ => Nat.le_refl _
  | 0, x :: _, _, h => absurd (h x List.mem_cons_self) (by omega)
  | n + 1, l, hn, h => by
    have h1 : (l.erase n).Nodup := hn.erase n
    have h2 : ∀ x ∈ l.erase n, x < n := fun x hx => by
      have := (hn.mem_erase_iff).1 hx
      have := h x this.2
      omega
    have h3 := nodup_len n (l.erase n) h1 h2
    rw [List.length_erase] at h3
    split at h3 <;> omega
theorem nodup_map {α β : Type} (f : α → β) : ∀ (l : List α), l.Nodup → (∀ x ∈ l, ∀ y ∈ l, f x = f y → x = y) → (l.map f).Nodup
  | [], _, _ => by simp
  | x :: l, hn, h => by
    rw [List.map_cons, List.nodup_cons]
    rw [List.nodup_cons] at hn
    refine ⟨fun hm => ?_, nodup_map f l hn.2 fun a ha b hb => h a (List.mem_cons_of_mem _ ha) b (List.mem_cons_of_mem _ hb)⟩
    obtain ⟨y, hy, e⟩ := List.mem_map.1 hm
    have := h y (List.mem_cons_of_mem _ hy) x List.mem_cons_self e
    subst this
    exact hn.1 hy
def par (sl : List S70) (i : Nat) : Int := (rd_T70 sl (i : Int)).f1
def kds (sl : List S70) (i : Nat) : List Int := (rd_T70 sl (i : Int)).f2
structure Wf (sl : List S70) : Prop where
  up : ∃ d, Up sl d
  kd : ∀ p : Nat, p < sl.length → ∀ c : Int, c ∈ kds sl p ↔ ∃ i : Nat, i < sl.length ∧ c = i ∧ par sl i = p
  nd : ∀ p : Nat, p < sl.length → (kds sl p).Nodup
theorem Wf.kb {sl : List S70} (h : Wf sl) : KB sl := fun p hp => by
  have h1 : ((kds sl p).map Int.toNat).Nodup := nodup_map _ _ (h.nd p hp) fun a ha b hb e => by
    obtain ⟨i, _, rfl, _⟩ := (h.kd p hp a).1 ha
    obtain ⟨j, _, rfl, _⟩ := (h.kd p hp b).1 hb
    have e2 : i = j := by simpa using e
    rw [e2]
  have h2 := nodup_len sl.length _ h1 fun x hx => by
    obtain ⟨c, hc, rfl⟩ := List.mem_map.1 hx
    obtain ⟨i, hi, rfl, _⟩ := (h.kd p hp c).1 hc
    simpa using hi
  rw [List.length_map] at h2
  exact h2
/-- Does top stand at i, or above it? -/
def Anc (sl : List S70) (i top : Int) : Prop := ∃ k, atF sl k i top = true
theorem Anc.self (sl : List S70) (i : Int) : Anc sl i i := ⟨1, by unfold atF; rw [if_pos rfl]⟩
theorem Anc.iff (sl : List S70) (i top : Int) : Anc sl i top ↔ i = top ∨ (0 ≤ i ∧ Anc sl (rd_T70 sl i).f1 top) := by
  constructor
  · rintro ⟨k, hk⟩
    cases k with
    | zero => unfold atF at hk; cases hk
    | succ k =>
      unfold atF at hk
      by_cases h : i = top
      · exact .inl h
      · rw [if_neg h] at hk
        by_cases h0 : i < 0
        · rw [if_pos h0] at hk; cases hk
        · rw [if_neg h0] at hk
          exact .inr ⟨by omega, k, hk⟩
  · rintro (rfl | ⟨h0, k, hk⟩)
    · exact Anc.self sl i
    · by_cases h : i = top
      · rw [h]; exact Anc.self sl top
      · exact ⟨k + 1, by unfold atF; rw [if_neg h, if_neg (by omega)]; exact hk⟩
/-- at's own count of steps is enough. -/
theorem at_enough {sl : List S70} {d : Nat → Nat} (hu : Up sl d) (top : Int) : ∀ (s i k : Nat), d i < s → i < sl.length → d i + 2 ≤ k → (atF sl k i top = true ↔ Anc sl i top)
  | 0, _, _, h, _, _ => absurd h (by omega)
  | s + 1, i, k, hs, hi, hk => by
    obtain ⟨k, rfl⟩ : ∃ q, k = q + 1 := ⟨k - 1, by omega⟩
    rw [Anc.iff]
    unfold atF
    by_cases h : (i : Int) = top
    · rw [if_pos h]; exact ⟨fun _ => .inl h, fun _ => rfl⟩
    · rw [if_neg h, if_neg (by omega)]
      have key : atF sl k (rd_T70 sl (i : Int)).f1 top = true ↔ Anc sl (rd_T70 sl (i : Int)).f1 top := by
        rcases hu.pr i hi with h1 | ⟨p, hp, h1, hd⟩
        · rw [h1]
          constructor
          · intro h2; exact ⟨k, h2⟩
          · intro h2
            rcases (Anc.iff sl (-1) top).1 h2 with e | ⟨e, _⟩
            · obtain ⟨q, rfl⟩ : ∃ q, k = q + 1 := ⟨k - 1, by omega⟩
              unfold atF; rw [if_pos e]
            · omega
        · rw [h1]
          exact at_enough hu top s p k (by omega) hp (by omega)
      rw [key]
      exact ⟨fun h2 => .inr ⟨by omega, h2⟩, fun h2 => h2.elim (fun e => absurd e h) (fun e => e.2)⟩
theorem linkS_len (sl : List S70) (id p : Nat) : (linkS sl id p).length = sl.length := by unfold linkS; simp
theorem unlinkS_len (sl : List S70) (id p : Nat) : (unlinkS sl id p).length = sl.length := by unfold unlinkS; simp
theorem linkS_rd (sl : List S70) (id p : Nat) (hid : id < sl.length) (hp : p < sl.length) (j : Nat) :
    rd_T70 (linkS sl id p) (j : Int) = ⟨(rd_T70 sl (j : Int)).f0, if j = id then (p : Int) else par sl j, if j = p then kds sl p ++ [(id : Int)] else kds sl j⟩ := by
  unfold linkS
  simp only []
  rw [rd70_set _ _ _ _ (by rw [List.length_set]; exact hp), rd70_set _ _ _ _ hid, rd70_set _ _ _ _ hid]
  by_cases h1 : p = j
  · subst h1
    by_cases h2 : id = p
    · subst h2
      simp [par, kds]
    · rw [if_pos rfl, if_neg h2, if_neg (fun e => h2 e.symm), if_pos rfl]
      rfl
  · rw [if_neg h1, if_neg (fun e : j = p => h1 e.symm)]
    by_cases h2 : id = j
    · subst h2
      rw [if_pos rfl, if_pos rfl]; rfl
    · rw [if_neg h2, if_neg (fun e : j = id => h2 e.symm)]; rfl
theorem unlinkS_rd (sl : List S70) (id p : Nat) (hid : id < sl.length) (hp : p < sl.length) (j : Nat) :
    rd_T70 (unlinkS sl id p) (j : Int) = ⟨(rd_T70 sl (j : Int)).f0, if j = id then (-1 : Int) else par sl j, if j = p then (kds sl p).erase (id : Int) else kds sl j⟩ := by
  unfold unlinkS
  simp only []
  rw [rd70_set _ _ _ _ (by rw [List.length_set]; exact hid), rd70_set _ _ _ _ hp, rd70_set _ _ _ _ hp]
  by_cases h1 : id = j
  · subst h1
    rw [if_pos rfl, if_pos rfl]
    by_cases h2 : p = id
    · subst h2
      rw [if_pos rfl, if_pos rfl]; rfl
    · rw [if_neg h2, if_neg (fun e : id = p => h2 e.symm)]; rfl
  · rw [if_neg h1, if_neg (fun e : j = id => h1 e.symm)]
    by_cases h2 : p = j
    · subst h2
      rw [if_pos rfl, if_pos rfl]; rfl
    · rw [if_neg h2, if_neg (fun e : j = p => h2 e.symm)]; rfl
theorem unlink_wf {sl : List S70} (h : Wf sl) (id p : Nat) (hid : id < sl.length) (hp : p < sl.length) (hpar : par sl id = (p : Int)) : Wf (unlinkS sl id p) := by
  have hrd := unlinkS_rd sl id p hid hp
  have hpr : ∀ j, par (unlinkS sl id p) j = if j = id then (-1 : Int) else par sl j := fun j => by unfold par; rw [hrd]; rfl
  have hkd : ∀ j, kds (unlinkS sl id p) j = if j = p then (kds sl p).erase (id : Int) else kds sl j := fun j => by unfold kds; rw [hrd]; rfl
  obtain ⟨d, hu⟩ := h.up
  refine ⟨⟨d, ⟨fun i hi => ?_⟩⟩, fun q hq c => ?_, fun q hq => ?_⟩
  · rw [unlinkS_len] at hi ⊢
    show par (unlinkS sl id p) i = -1 ∨ ∃ q : Nat, q < sl.length ∧ par (unlinkS sl id p) i = (q : Int) ∧ d q < d i
    rw [hpr]
    by_cases e : i = id
    · rw [if_pos e]; exact .inl rfl
    · rw [if_neg e]; exact hu.pr i hi
  · rw [unlinkS_len] at hq ⊢
    rw [hkd]
    by_cases e : q = p
    · subst e
      rw [if_pos rfl, (h.nd q hq).mem_erase_iff, h.kd q hq]
      constructor
      · rintro ⟨h1, i, hi, rfl, h2⟩
        exact ⟨i, hi, rfl, by rw [hpr, if_neg (fun e => h1 (by rw [e]))]; exact h2⟩
      · rintro ⟨i, hi, rfl, h2⟩
        rw [hpr] at h2
        by_cases e : i = id
        · rw [if_pos e] at h2; omega
        · rw [if_neg e] at h2
          exact ⟨fun h3 => e (by omega), i, hi, rfl, h2⟩
    · rw [if_neg e, h.kd q hq]
      constructor
      · rintro ⟨i, hi, rfl, h2⟩
        refine ⟨i, hi, rfl, ?_⟩
        rw [hpr]
        by_cases e2 : i = id
        · subst e2
          rw [hpar] at h2
          omega
        · rw [if_neg e2]; exact h2
      · rintro ⟨i, hi, rfl, h2⟩
        rw [hpr] at h2
        by_cases e2 : i = id
        · rw [if_pos e2] at h2; omega
        · rw [if_neg e2] at h2
          exact ⟨i, hi, rfl, h2⟩
  · rw [unlinkS_len] at hq
    rw [hkd]
    by_cases e : q = p
    · rw [if_pos e]; exact (h.nd p hp).erase _
    · rw [if_neg e]; exact h.nd q hq
theorem link_wf {sl : List S70} (h : Wf sl) (id p : Nat) (hid : id < sl.length) (hp : p < sl.length) (hpar : par sl id = -1) (hna : ¬ Anc sl p id) : Wf (linkS sl id p) := by
  have hrd := linkS_rd sl id p hid hp
  have hpr : ∀ j, par (linkS sl id p) j = if j = id then (p : Int) else par sl j := fun j => by unfold par; rw [hrd]; rfl
  have hkd : ∀ j, kds (linkS sl id p) j = if j = p then kds sl p ++ [(id : Int)] else kds sl j := fun j => by unfold kds; rw [hrd]; rfl
  obtain ⟨d, hu⟩ := h.up
  refine ⟨⟨fun j => open Classical in if Anc sl j id then d j + d p + 1 else d j, ⟨fun i hi => ?_⟩⟩, fun q hq c => ?_, fun q hq => ?_⟩
  · rw [linkS_len] at hi ⊢
    show par (linkS sl id p) i = -1 ∨ ∃ q : Nat, q < sl.length ∧ par (linkS sl id p) i = (q : Int) ∧ _
    rw [hpr]
    by_cases e : i = id
    · rw [if_pos e]
      refine .inr ⟨p, hp, rfl, ?_⟩
      rw [if_neg hna, if_pos (by rw [e]; exact Anc.self sl id)]
      omega
    · rw [if_neg e]
      rcases hu.pr i hi with h1 | ⟨q, hq, h1, hd⟩
      · exact .inl h1
      · refine .inr ⟨q, hq, h1, ?_⟩
        have hiff : Anc sl i id ↔ Anc sl q id := by
          rw [Anc.iff, h1]
          exact ⟨fun h2 => h2.elim (fun e2 => absurd (by omega) e) (fun e2 => e2.2), fun h2 => .inr ⟨by omega, h2⟩⟩
        by_cases ha : Anc sl q id
        · rw [if_pos ha, if_pos (hiff.2 ha)]; omega
        · rw [if_neg ha, if_neg (fun h2 => ha (hiff.1 h2))]; exact hd
  · rw [linkS_len] at hq ⊢
    rw [hkd]
    by_cases e : q = p
    · subst e
      rw [if_pos rfl, List.mem_append, List.mem_singleton, h.kd q hq]
      constructor
      · rintro (⟨i, hi, rfl, h2⟩ | rfl)
        · refine ⟨i, hi, rfl, ?_⟩
          rw [hpr, if_neg (fun e2 => by subst e2; rw [hpar] at h2; omega)]
          exact h2
        · exact ⟨id, hid, rfl, by rw [hpr, if_pos rfl]⟩
      · rintro ⟨i, hi, rfl, h2⟩
        rw [hpr] at h2
        by_cases e2 : i = id
        · exact .inr (by rw [e2])
        · rw [if_neg e2] at h2
          exact .inl ⟨i, hi, rfl, h2⟩
    · rw [if_neg e, h.kd q hq]
      constructor
      · rintro ⟨i, hi, rfl, h2⟩
        refine ⟨i, hi, rfl, ?_⟩
        rw [hpr, if_neg (fun e2 => by subst e2; rw [hpar] at h2; omega)]
        exact h2
      · rintro ⟨i, hi, rfl, h2⟩
        rw [hpr] at h2
        by_cases e2 : i = id
        · rw [if_pos e2] at h2; omega
        · rw [if_neg e2] at h2
          exact ⟨i, hi, rfl, h2⟩
  · rw [linkS_len] at hq
    rw [hkd]
    by_cases e : q = p
    · rw [if_pos e, List.nodup_append]
      refine ⟨h.nd p hp, by simp, fun a ha b hb e2 => ?_⟩
      rw [List.mem_singleton] at hb
      obtain ⟨i, hi, rfl, h2⟩ := (h.kd p hp a).1 ha
      have : i = id := by omega
      subst this
      rw [hpar] at h2
      omega
    · rw [if_neg e]; exact h.nd q hq
theorem anc_unlink {sl : List S70} (id p : Nat) (hid : id < sl.length) (hp : p < sl.length) {d : Nat → Nat} (hu : Up sl d) : ∀ (k : Nat) (i : Int), (i < 0 ∨ ∃ j : Nat, i = j ∧ j < sl.length) → atF (unlinkS sl id p) k i id = true → atF sl k i id = true
  | 0, _, _, h => by unfold atF at h; cases h
  | k + 1, i, hi, h => by
    unfold atF at h ⊢
    by_cases e : i = (id : Int)
    · rw [if_pos e]
    · rw [if_neg e] at h ⊢
      by_cases h0 : i < 0
      · rw [if_pos h0] at h; cases h
      · rw [if_neg h0] at h ⊢
        obtain ⟨j, rfl, hj⟩ := hi.resolve_left h0
        rw [unlinkS_rd sl id p hid hp j] at h
        have h : atF (unlinkS sl id p) k (if j = id then (-1 : Int) else par sl j) id = true := h
        rw [if_neg (fun e2 => e (by rw [e2]))] at h
        refine anc_unlink id p hid hp hu k _ ?_ h
        rcases hu.pr j hj with h1 | ⟨q, hq, h1, _⟩
        · exact .inl (by show (rd_T70 sl (j : Int)).f1 < 0; rw [h1]; omega)
        · exact .inr ⟨q, h1, hq⟩
def moveS (sl : List S70) (id p : Nat) : List S70 := linkS (if 0 ≤ par sl id then unlinkS sl id (par sl id).toNat else sl) id p
theorem moveS_len (sl : List S70) (id p : Nat) : (moveS sl id p).length = sl.length := by
  unfold moveS
  rw [linkS_len]
  split
  · rw [unlinkS_len]
  · rfl
theorem move_wf {sl : List S70} (h : Wf sl) (id p : Nat) (hid : id < sl.length) (hp : p < sl.length) (hna : ¬ Anc sl p id) : Wf (moveS sl id p) := by
  unfold moveS
  obtain ⟨d, hu⟩ := h.up
  rcases hu.pr id hid with h1 | ⟨q, hq, h1, _⟩
  · have h1 : par sl id = -1 := h1
    rw [if_neg (by omega)]
    exact link_wf h id p hid hp h1 hna
  · have h1 : par sl id = (q : Int) := h1
    rw [if_pos (by omega), h1]
    simp only [Int.toNat_natCast]
    have hw := unlink_wf h id q hid hq h1
    refine link_wf hw id p (by rw [unlinkS_len]; exact hid) (by rw [unlinkS_len]; exact hp) ?_ ?_
    · unfold par; rw [unlinkS_rd sl id q hid hq]; simp
    · rintro ⟨k, hk⟩
      exact hna ⟨k, anc_unlink id q hid hq hu k p (.inr ⟨p, rfl, hp⟩) hk⟩
theorem moveS_par {sl : List S70} (h : Wf sl) (id p : Nat) (hid : id < sl.length) (hp : p < sl.length) (j : Nat) : par (moveS sl id p) j = if j = id then (p : Int) else par sl j := by
  unfold moveS
  obtain ⟨d, hu⟩ := h.up
  rcases hu.pr id hid with h1 | ⟨q, hq, h1, _⟩
  · have h1 : par sl id = -1 := h1
    rw [if_neg (by omega)]
    unfold par
    rw [linkS_rd sl id p hid hp]
    rfl
  · have h1 : par sl id = (q : Int) := h1
    rw [if_pos (by omega), h1]
    simp only [Int.toNat_natCast]
    show (rd_T70 (linkS (unlinkS sl id q) id p) (j : Int)).f1 = _
    rw [linkS_rd _ id p (by rw [unlinkS_len]; exact hid) (by rw [unlinkS_len]; exact hp)]
    show (if j = id then (p : Int) else par (unlinkS sl id q) j) = _
    by_cases e : j = id
    · rw [if_pos e, if_pos e]
    · rw [if_neg e, if_neg e]
      unfold par
      rw [unlinkS_rd sl id q hid hq]
      show (if j = id then (-1 : Int) else par sl j) = _
      rw [if_neg e]; rfl
theorem moveS_node {sl : List S70} (h : Wf sl) (id p : Nat) (hid : id < sl.length) (hp : p < sl.length) (j : Nat) : (rd_T70 (moveS sl id p) (j : Int)).f0 = (rd_T70 sl (j : Int)).f0 := by
  unfold moveS
  obtain ⟨d, hu⟩ := h.up
  rcases hu.pr id hid with h1 | ⟨q, hq, h1, _⟩
  · have h1 : par sl id = -1 := h1
    rw [if_neg (by omega), linkS_rd sl id p hid hp]
  · have h1 : par sl id = (q : Int) := h1
    rw [if_pos (by omega), h1]
    simp only [Int.toNat_natCast]
    rw [linkS_rd _ id p (by rw [unlinkS_len]; exact hid) (by rw [unlinkS_len]; exact hp)]
    show (rd_T70 (unlinkS sl id q) (j : Int)).f0 = _
    rw [unlinkS_rd sl id q hid hq]
/-- What Move does. -/
def MoveRel (sl : List S70) (id p : Int) (b : Bool) (sl' : List S70) : Prop :=
  (b = true ∧ ∃ i q : Nat, id = i ∧ p = q ∧ i < sl.length ∧ q < sl.length ∧ i ≠ 0 ∧ ¬ Anc sl q i ∧ sl' = moveS sl i q) ∨ (b = false ∧ sl' = sl ∧ ¬ (hasB sl id = true ∧ hasB sl p = true ∧ id ≠ 0 ∧ ¬ Anc sl p id))
theorem MoveRel.wf {sl sl' : List S70} {id p : Int} {b : Bool} (h : MoveRel sl id p b sl') (hw : Wf sl) : Wf sl' ∧ sl'.length = sl.length := by
  rcases h with ⟨_, i, q, rfl, rfl, hi, hq, _, hna, rfl⟩ | ⟨_, rfl, _⟩
  · exact ⟨move_wf hw i q hi hq hna, moveS_len _ _ _⟩
  · exact ⟨hw, rfl⟩
end Go.Proofs.Ytikfbipjlkhgeaa.P
