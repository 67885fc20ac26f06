/- The document's arena (incipitref06.Arena) in memory; Has, Parent, Children, below read it. -/
import Derived.Test.YtikfbipjlkhgeaaForestC
import Derived.Deep.LoopGhost
import Derived.Deep.DeepCutAuto
namespace Go.Proofs.Ytikfbipjlkhgeaa.P
open Go.RowKit Go.Proofs.YtikfbipjlkhgeaaW.PrintWords Go.Proofs.YtikfbipjlkhgeaaW.PrintLast Go.Proofs.YtikfbipjlkhgeaaW.PrintMore
set_option linter.unusedVariables false
abbrev Lk := List (Int × Int)
def parF : Lk → Int → Int
  | [], _ => -1
  | p :: r, id => if p.2 = id then p.1 else parF r id
def chF : Lk → Int → List Int
  | [], _ => []
  | p :: r, id => if p.1 = id then p.2 :: chF r id else chF r id
def unF : Lk → Int → Lk
  | [], _ => []
  | p :: r, id => if p.2 = id then unF r id else p :: unF r id
def secs (K : Lk) : List Int := K.map (·.2)
def belF (K : Lk) : Nat → Int → Int → Bool
  | 0, _, _ => false
  | k + 1, id, top => if id < 0 then false else if id = top then true else belF K k (parF K id) top
theorem parF_out : ∀ {K : Lk} {id : Int}, id ∉ secs K → parF K id = -1
  | [], _, _ => rfl
  | p :: r, id, h => by
    have h1 : p.2 ≠ id := fun e => h (by rw [← e]; exact List.mem_cons_self ..)
    rw [parF, if_neg h1]
    exact parF_out fun hm => h (List.mem_cons_of_mem _ hm)
theorem parF_in : ∀ {K : Lk} {id : Int}, id ∈ secs K → ∃ q, (q, id) ∈ K ∧ parF K id = q
  | [], _, h => by cases h
  | p :: r, id, h => by
    by_cases e : p.2 = id
    · exact ⟨p.1, by rw [← e]; exact List.mem_cons_self .., by rw [parF, if_pos e]⟩
    · have h1 : id ∈ secs r := by
        rcases List.mem_cons.1 h with h | h
        · exact absurd h.symm e
        · exact h
      obtain ⟨q, hq, hp⟩ := parF_in h1
      exact ⟨q, List.mem_cons_of_mem _ hq, by rw [parF, if_neg e]; exact hp⟩
theorem parF_snoc : ∀ (K : Lk) (q i id : Int), parF (K ++ [(q, i)]) id = if id ∈ secs K then parF K id else if i = id then q else -1
  | [], q, i, id => by
    show (if i = id then q else parF [] id) = _
    rw [if_neg (show id ∉ secs [] by simp [secs])]
    rfl
  | p :: r, q, i, id => by
    rw [List.cons_append, parF, parF, parF_snoc r q i id]
    by_cases e : p.2 = id
    · rw [if_pos e, if_pos e, if_pos (show id ∈ secs (p :: r) by rw [← e]; exact List.mem_cons_self ..)]
    · rw [if_neg e, if_neg e]
      by_cases h : id ∈ secs r
      · rw [if_pos h, if_pos (show id ∈ secs (p :: r) from List.mem_cons_of_mem _ h)]
      · rw [if_neg h, if_neg (show id ∉ secs (p :: r) from fun hm => by rcases List.mem_cons.1 hm with h1 | h1; exact e h1.symm; exact h h1)]
theorem chF_snoc : ∀ (K : Lk) (q i id : Int), chF (K ++ [(q, i)]) id = chF K id ++ (if q = id then [i] else [])
  | [], q, i, id => by
    show (if q = id then i :: chF [] id else chF [] id) = _
    by_cases e : q = id <;> simp [e, chF]
  | p :: r, q, i, id => by
    rw [List.cons_append, chF, chF, chF_snoc r q i id]
    by_cases e : p.1 = id
    · rw [if_pos e, if_pos e, List.cons_append]
    · rw [if_neg e, if_neg e]
theorem chF_mem : ∀ {K : Lk} {id c : Int}, c ∈ chF K id → (id, c) ∈ K
  | p :: r, id, c, h => by
    rw [chF] at h
    by_cases e : p.1 = id
    · rw [if_pos e] at h
      rcases List.mem_cons.1 h with h | h
      · rw [h, ← e]; exact List.mem_cons_self ..
      · exact List.mem_cons_of_mem _ (chF_mem h)
    · rw [if_neg e] at h
      exact List.mem_cons_of_mem _ (chF_mem h)
theorem secs_un : ∀ (K : Lk) (i : Int), secs (unF K i) = (secs K).filter (fun c => c != i)
  | [], i => rfl
  | p :: r, i => by
    rw [unF]
    by_cases e : p.2 = i
    · rw [if_pos e, secs_un r i]
      show _ = List.filter _ (p.2 :: secs r)
      rw [List.filter_cons, if_neg (by simp [e])]
    · rw [if_neg e]
      show p.2 :: secs (unF r i) = List.filter _ (p.2 :: secs r)
      rw [List.filter_cons, if_pos (by simpa using e), secs_un r i]
theorem un_mem : ∀ {K : Lk} {i : Int} {p : Int × Int}, p ∈ unF K i → p ∈ K
  | q :: r, i, p, h => by
    rw [unF] at h
    by_cases e : q.2 = i
    · rw [if_pos e] at h
      exact List.mem_cons_of_mem _ (un_mem h)
    · rw [if_neg e] at h
      rcases List.mem_cons.1 h with h | h
      · rw [h]; exact List.mem_cons_self ..
      · exact List.mem_cons_of_mem _ (un_mem h)
theorem par_un : ∀ (K : Lk) (i j : Int), parF (unF K i) j = if j = i then -1 else parF K j
  | [], i, j => by simp [unF, parF]
  | p :: r, i, j => by
    rw [unF]
    by_cases e : p.2 = i
    · rw [if_pos e, par_un r i j]
      by_cases h : j = i
      · rw [if_pos h, if_pos h]
      · rw [if_neg h, if_neg h, parF, if_neg (fun h2 => h (by rw [← h2, e]))]
    · rw [if_neg e, parF, parF, par_un r i j]
      by_cases h : j = i
      · rw [if_pos h, if_pos h, if_neg (fun h2 => e (by rw [h2, h]))]
      · rw [if_neg h, if_neg h]
theorem ch_un : ∀ (K : Lk) (i j : Int), chF (unF K i) j = (chF K j).filter (fun c => c != i)
  | [], i, j => rfl
  | p :: r, i, j => by
    rw [unF, chF]
    by_cases e : p.2 = i
    · rw [if_pos e, ch_un r i j]
      by_cases h : p.1 = j
      · rw [if_pos h, List.filter_cons, if_neg (by simp [e])]
      · rw [if_neg h]
    · rw [if_neg e, chF, ch_un r i j]
      by_cases h : p.1 = j
      · rw [if_pos h, if_pos h, List.filter_cons, if_pos (by simpa using e)]
      · rw [if_neg h, if_neg h]
theorem un_out : ∀ (K : Lk) (i : Int), i ∉ secs K → unF K i = K
  | [], _, _ => rfl
  | p :: r, i, h => by
    rw [unF, if_neg (fun e => h (by rw [← e]; exact List.mem_cons_self ..)), un_out r i fun hm => h (List.mem_cons_of_mem _ hm)]
/-- The two tell the same. -/
structure Rel (sl : List S70) (L : List S24) (K : Lk) : Prop where
  len : L.length = sl.length
  node : ∀ i : Nat, i < sl.length → rd_T24 L (i : Int) = (rd_T70 sl (i : Int)).f0
  pr : ∀ i : Nat, i < sl.length → parF K (i : Int) = par sl i
  kd : ∀ i : Nat, i < sl.length → chF K (i : Int) = kds sl i
  nd : (secs K).Nodup
  rg : ∀ p ∈ K, (0 ≤ p.1 ∧ p.1 < (sl.length : Int)) ∧ (0 ≤ p.2 ∧ p.2 < (sl.length : Int))
theorem Rel.parI {sl : List S70} {L : List S24} {K : Lk} (h : Rel sl L K) (id : Int) : parF K id = parentB sl id := by
  unfold parentB
  by_cases hb : hasB sl id = true
  · obtain ⟨h0, h1⟩ := (hasB_iff sl id).1 hb
    obtain ⟨n, rfl⟩ : ∃ n : Nat, id = n := ⟨id.toNat, by omega⟩
    rw [if_pos hb]
    exact h.pr n (by omega)
  · rw [if_neg hb]
    refine parF_out fun hm => hb ?_
    obtain ⟨p, hp, rfl⟩ := List.mem_map.1 hm
    exact (hasB_iff sl _).2 (h.rg p hp).2
theorem Rel.kidI {sl : List S70} {L : List S24} {K : Lk} (h : Rel sl L K) (id : Int) : chF K id = kidsB sl id := by
  unfold kidsB
  by_cases hb : hasB sl id = true
  · obtain ⟨h0, h1⟩ := (hasB_iff sl id).1 hb
    obtain ⟨n, rfl⟩ : ∃ n : Nat, id = n := ⟨id.toNat, by omega⟩
    rw [if_pos hb]
    exact h.kd n (by omega)
  · rw [if_neg hb]
    cases hc : chF K id with
    | nil => rfl
    | cons c cs =>
      have := chF_mem (K := K) (id := id) (c := c) (by rw [hc]; exact List.mem_cons_self ..)
      exact absurd ((hasB_iff sl _).2 (h.rg _ this).1) hb
theorem Rel.out {sl : List S70} {L : List S24} {K : Lk} (h : Rel sl L K) (i : Nat) (hi : i < sl.length) (hp : par sl i = -1) : (i : Int) ∉ secs K := fun hm => by
  obtain ⟨q, hq, he⟩ := parF_in hm
  have h1 := h.pr i hi
  have := (h.rg _ hq).1.1
  omega
/-- Whoever has no parent is linked. -/
theorem rel_link {s : List S70} {L : List S24} {K : Lk} (i q : Nat) (hi : i < s.length) (hq : q < s.length) (len : L.length = s.length) (node : ∀ i : Nat, i < s.length → rd_T24 L (i : Int) = (rd_T70 s (i : Int)).f0)
    (pr : ∀ j : Nat, j < s.length → j ≠ i → parF K (j : Int) = par s j) (out : (i : Int) ∉ secs K) (kd : ∀ j : Nat, j < s.length → chF K (j : Int) = kds s j) (nd : (secs K).Nodup)
    (rg : ∀ p ∈ K, (0 ≤ p.1 ∧ p.1 < (s.length : Int)) ∧ (0 ≤ p.2 ∧ p.2 < (s.length : Int))) : Rel (linkS s i q) L (K ++ [((q : Int), (i : Int))]) := by
  have hl := linkS_len s i q
  have hrd := linkS_rd s i q hi hq
  refine ⟨by rw [hl]; exact len, fun j hj => ?_, fun j hj => ?_, fun j hj => ?_, ?_, ?_⟩
  · rw [hl] at hj
    rw [hrd j]
    exact node j hj
  · rw [hl] at hj
    have e1 : par (linkS s i q) j = if j = i then (q : Int) else par s j := by unfold par; rw [hrd j]; rfl
    rw [e1, parF_snoc]
    by_cases e : j = i
    · rw [if_pos e, e, if_neg out, if_pos rfl]
    · rw [if_neg e]
      by_cases h : (j : Int) ∈ secs K
      · rw [if_pos h]; exact pr j hj e
      · rw [if_neg h, if_neg (by omega), ← pr j hj e, parF_out h]
  · rw [hl] at hj
    have e1 : kds (linkS s i q) j = if j = q then kds s q ++ [(i : Int)] else kds s j := by unfold kds; rw [hrd j]; rfl
    rw [e1, chF_snoc, kd j hj]
    by_cases e : j = q
    · rw [if_pos e, e, if_pos rfl]
    · rw [if_neg e, if_neg (by omega), List.append_nil]
  · unfold secs at out nd ⊢
    rw [List.map_append, List.nodup_append]
    refine ⟨nd, by simp, ?_⟩
    rintro a ha b hb rfl
    simp at hb
    exact out (hb ▸ ha)
  · rw [hl]
    intro p hp
    rcases List.mem_append.1 hp with h | h
    · exact rg p h
    · rw [List.mem_singleton.1 h]
      exact ⟨⟨by omega, by show (q : Int) < _; omega⟩, ⟨by omega, by show (i : Int) < _; omega⟩⟩
theorem rd24_app (L : List S24) (x : S24) (i : Nat) : rd_T24 (L ++ [x]) (i : Int) = if i < L.length then rd_T24 L (i : Int) else if i = L.length then x else z24 := getD_app L x z24 i
theorem rel_one (x : S70) (hp : x.f1 = -1) (hk : x.f2 = []) : Rel [x] [x.f0] [] := by
  have e : ∀ i : Nat, i < [x].length → i = 0 := fun i hi => by simp at hi; exact hi
  refine ⟨rfl, fun i hi => ?_, fun i hi => ?_, fun i hi => ?_, by simp [secs], fun p hp => by cases hp⟩
  · obtain rfl := e i hi; rfl
  · obtain rfl := e i hi; exact hp.symm
  · obtain rfl := e i hi; exact hk.symm
theorem rel_add {sl : List S70} {L : List S24} {K : Lk} (h : Rel sl L K) (p : Nat) (hp : p < sl.length) (x : S70) (hx : x.f2 = []) : Rel (addS sl p x) (L ++ [x.f0]) (K ++ [((p : Int), (sl.length : Int))]) := by
  unfold addS
  rw [if_pos ((hasB_iff sl p).2 ⟨by omega, by omega⟩), Int.toNat_natCast]
  have hl : (sl ++ [x]).length = sl.length + 1 := by simp
  refine rel_link sl.length p (by omega) (by omega) (by rw [hl, List.length_append, h.len]; rfl) (fun j hj => ?_) (fun j hj hne => ?_) ?_ (fun j hj => ?_) h.nd (fun q hq => ?_)
  · rw [rd70_app sl x j hj, rd24_app, h.len]
    by_cases e : j < sl.length
    · rw [if_pos e, if_pos e]; exact h.node j e
    · rw [if_neg e, if_neg e, if_pos (by omega)]
  · unfold par
    rw [rd70_app sl x j hj, if_pos (by omega)]
    exact h.pr j (by omega)
  · intro hm
    obtain ⟨q, hq, he⟩ := List.mem_map.1 hm
    have := (h.rg q hq).2.2
    omega
  · unfold kds
    rw [rd70_app sl x j hj]
    by_cases e : j < sl.length
    · rw [if_pos e]; exact h.kd j e
    · rw [if_neg e, hx]
      cases hc : chF K (j : Int) with
      | nil => rfl
      | cons c cs =>
        have := chF_mem (K := K) (id := (j : Int)) (c := c) (by rw [hc]; exact List.mem_cons_self ..)
        have := (h.rg _ this).1.2
        have : (j : Int) < (sl.length : Int) := this
        omega
  · have := h.rg q hq
    rw [hl]
    omega
theorem rel_unlink {sl : List S70} {L : List S24} {K : Lk} (h : Rel sl L K) (hw : Wf sl) (i p : Nat) (hi : i < sl.length) (hp : p < sl.length) (hpar : par sl i = (p : Int)) : Rel (unlinkS sl i p) L (unF K (i : Int)) := by
  have hl := unlinkS_len sl i p
  have hrd := unlinkS_rd sl i p hi hp
  refine ⟨by rw [hl]; exact h.len, fun j hj => ?_, fun j hj => ?_, fun j hj => ?_, ?_, fun q hq => ?_⟩
  · rw [hl] at hj
    rw [hrd j]
    exact h.node j hj
  · rw [hl] at hj
    have e1 : par (unlinkS sl i p) j = if j = i then (-1 : Int) else par sl j := by unfold par; rw [hrd j]; rfl
    rw [e1, par_un]
    by_cases e : j = i
    · rw [if_pos e, if_pos (by omega)]
    · rw [if_neg e, if_neg (by omega)]
      exact h.pr j hj
  · rw [hl] at hj
    have e1 : kds (unlinkS sl i p) j = if j = p then (kds sl p).erase (i : Int) else kds sl j := by unfold kds; rw [hrd j]; rfl
    rw [e1, ch_un, h.kd j hj]
    by_cases e : j = p
    · rw [if_pos e, e]
      exact ((hw.nd p hp).erase_eq_filter _).symm
    · rw [if_neg e]
      refine List.filter_eq_self.2 fun c hc => ?_
      have : c ≠ (i : Int) := fun hci => by
        obtain ⟨i2, _, h2, h3⟩ := (hw.kd j hj c).1 hc
        have : i2 = i := by omega
        subst this
        rw [hpar] at h3
        omega
      simpa using this
  · rw [secs_un]
    exact h.nd.filter _
  · rw [hl]
    exact h.rg q (un_mem hq)
theorem rel_move {sl : List S70} {L : List S24} {K : Lk} (h : Rel sl L K) (hw : Wf sl) (i q : Nat) (hi : i < sl.length) (hq : q < sl.length) : Rel (moveS sl i q) L (unF K (i : Int) ++ [((q : Int), (i : Int))]) := by
  unfold moveS
  obtain ⟨d, hu⟩ := hw.up
  rcases hu.pr i hi with h1 | ⟨p, hp, h1, _⟩
  · have h1 : par sl i = -1 := h1
    rw [if_neg (by omega), un_out K _ (h.out i hi h1)]
    exact rel_link i q hi hq h.len h.node (fun j hj _ => h.pr j hj) (h.out i hi h1) h.kd h.nd h.rg
  · have h1 : par sl i = (p : Int) := h1
    rw [if_pos (by omega), h1, Int.toNat_natCast]
    have h2 := rel_unlink h hw i p hi hp h1
    have hl := unlinkS_len sl i p
    refine rel_link i q (by omega) (by omega) h2.len h2.node (fun j hj _ => h2.pr j hj) (h2.out i (by omega) ?_) h2.kd h2.nd h2.rg
    unfold par
    rw [unlinkS_rd sl i p hi hp i, if_pos rfl]
/-- Fields are set. -/
def setS (sl : List S70) (i : Nat) (x : S24) : List S70 := sl.set i ⟨x, par sl i, kds sl i⟩
theorem setS_rd (sl : List S70) (i : Nat) (x : S24) (hi : i < sl.length) (j : Nat) : rd_T70 (setS sl i x) (j : Int) = ⟨if j = i then x else (rd_T70 sl (j : Int)).f0, par sl j, kds sl j⟩ := by
  unfold setS
  rw [rd70_set _ _ _ _ hi]
  by_cases e : i = j
  · subst e
    rw [if_pos rfl, if_pos rfl]
  · rw [if_neg e, if_neg (fun h => e h.symm)]
    rfl
theorem setS_len (sl : List S70) (i : Nat) (x : S24) : (setS sl i x).length = sl.length := by unfold setS; simp
theorem setS_par (sl : List S70) (i : Nat) (x : S24) (hi : i < sl.length) (j : Nat) : par (setS sl i x) j = par sl j ∧ kds (setS sl i x) j = kds sl j := by
  unfold par kds
  rw [setS_rd sl i x hi j]
  exact ⟨rfl, rfl⟩
theorem set_wf {sl : List S70} (h : Wf sl) (i : Nat) (hi : i < sl.length) (x : S24) : Wf (setS sl i x) := by
  have hl := setS_len sl i x
  have hs := setS_par sl i x hi
  obtain ⟨d, hu⟩ := h.up
  refine ⟨⟨d, ⟨fun j hj => ?_⟩⟩, fun p hp c => ?_, fun p hp => ?_⟩
  · rw [hl] at hj ⊢
    have e : (rd_T70 (setS sl i x) (j : Int)).f1 = (rd_T70 sl (j : Int)).f1 := (hs j).1
    rw [e]
    exact hu.pr j hj
  · rw [hl] at hp ⊢
    rw [(hs p).2, h.kd p hp c]
    constructor
    · rintro ⟨j, hj, hc, he⟩
      exact ⟨j, hj, hc, by rw [(hs j).1]; exact he⟩
    · rintro ⟨j, hj, hc, he⟩
      exact ⟨j, hj, hc, by rw [← (hs j).1]; exact he⟩
  · rw [hl] at hp
    rw [(hs p).2]
    exact h.nd p hp
theorem rel_set {sl : List S70} {L : List S24} {K : Lk} (h : Rel sl L K) (i : Nat) (hi : i < sl.length) (x : S24) : Rel (setS sl i x) (L.set i x) K := by
  have hl := setS_len sl i x
  have hs := setS_par sl i x hi
  refine ⟨by rw [hl, List.length_set]; exact h.len, fun j hj => ?_, fun j hj => ?_, fun j hj => ?_, h.nd, by rw [hl]; exact h.rg⟩
  · rw [hl] at hj
    rw [setS_rd sl i x hi j]
    have e : rd_T24 (L.set i x) (j : Int) = if i = j then x else rd_T24 L (j : Int) := getD_setR L i j x z24 (by rw [h.len]; exact hi)
    rw [e]
    by_cases e2 : i = j
    · rw [if_pos e2, if_pos e2.symm]
    · rw [if_neg e2, if_neg (fun q => e2 q.symm)]
      exact h.node j hj
  · rw [hl] at hj
    rw [(hs j).1]
    exact h.pr j hj
  · rw [hl] at hj
    rw [(hs j).2]
    exact h.kd j hj
/-! who stands above whom -/
theorem bel_anc {sl : List S70} {L : List S24} {K : Lk} (h : Rel sl L K) (top : Int) (ht : 0 ≤ top) : ∀ (k : Nat) (i : Int), i < (sl.length : Int) → belF K k i top = true → Anc sl i top
  | 0, _, _, hb => by cases hb
  | k + 1, i, hi, hb => by
    rw [belF] at hb
    by_cases h0 : i < 0
    · rw [if_pos h0] at hb; cases hb
    · rw [if_neg h0] at hb
      by_cases e : i = top
      · rw [e]; exact Anc.self sl top
      · rw [if_neg e] at hb
        rw [Anc.iff]
        refine .inr ⟨by omega, ?_⟩
        have e1 : parF K i = (rd_T70 sl i).f1 := by
          rw [h.parI, parentB, if_pos ((hasB_iff sl i).2 ⟨by omega, hi⟩)]
        rw [← e1]
        refine bel_anc h top ht k _ ?_ hb
        rw [h.parI]
        unfold parentB
        by_cases hb2 : hasB sl i = true
        · obtain ⟨n, rfl⟩ : ∃ n : Nat, i = n := ⟨i.toNat, by omega⟩
          rw [if_pos hb2]
          have h3 := h.pr n (by omega)
          by_cases hm : (n : Int) ∈ secs K
          · obtain ⟨q, hq, he⟩ := parF_in hm
            have := (h.rg _ hq).1.2
            show par sl n < _
            rw [← h3, he]
            exact this
          · have := parF_out hm
            show par sl n < _
            omega
        · rw [if_neg hb2]; omega
theorem anc_bel {sl : List S70} {L : List S24} {K : Lk} (h : Rel sl L K) (hw : Wf sl) (j : Nat) (hj : j < sl.length) (top : Int) (ht : 0 ≤ top) : ∀ (k s f : Nat), (∀ q : Nat, q < s → 0 ≤ upN sl j q) → sl.length < f + s → atF sl k (upN sl j s) top = true → belF K f (upN sl j s) top = true
  | 0, _, _, _, _, ha => by cases ha
  | k + 1, s, f, hs, hf, ha => by
    rw [atF] at ha
    have h0 : 0 ≤ upN sl j s := by
      by_cases e : upN sl j s = top
      · omega
      · rw [if_neg e] at ha
        by_cases hn : upN sl j s < 0
        · rw [if_pos hn] at ha; cases ha
        · omega
    have hfew := up_few hw j hj s fun q hq => by
      by_cases e : q = s
      · rw [e]; exact h0
      · exact hs q (by omega)
    obtain ⟨f, rfl⟩ : ∃ g, f = g + 1 := ⟨f - 1, by omega⟩
    rw [belF, if_neg (by omega)]
    by_cases e : upN sl j s = top
    · rw [if_pos e]
    · rw [if_neg e] at ha ⊢
      rw [if_neg (by omega)] at ha
      have hin : hasB sl (upN sl j s) = true := by
        cases s with
        | zero => exact (hasB_iff sl _).2 ⟨h0, by show (j : Int) < _; omega⟩
        | succ s =>
          have e1 : upN sl j (s + 1) = parentB sl (upN sl j s) := rfl
          rw [e1] at h0 ⊢
          rw [← h.parI] at h0 ⊢
          by_cases hm : upN sl j s ∈ secs K
          · obtain ⟨q, hq, he⟩ := parF_in hm
            rw [he]
            exact (hasB_iff sl _).2 (h.rg _ hq).1
          · rw [parF_out hm] at h0; omega
      have e2 : (rd_T70 sl (upN sl j s)).f1 = upN sl j (s + 1) := by
        show _ = parentB sl (upN sl j s)
        rw [parentB, if_pos hin]
      rw [e2] at ha
      rw [h.parI]
      exact anc_bel h hw j hj top ht k (s + 1) f (fun q hq => by
        by_cases e : q = s
        · rw [e]; exact h0
        · exact hs q (by omega)) (by omega) ha
theorem bel_iff {sl : List S70} {L : List S24} {K : Lk} (h : Rel sl L K) (hw : Wf sl) (j : Nat) (hj : j < sl.length) (top : Int) (ht : 0 ≤ top) : belF K (sl.length + 1) (j : Int) top = true ↔ Anc sl (j : Int) top :=
  ⟨bel_anc h top ht _ _ (by omega), fun ⟨k, hk⟩ => anc_bel h hw j hj top ht k 0 _ (fun q hq => by omega) (by omega) hk⟩
set_option linter.unusedVariables false
set_option linter.unusedSimpArgs false
def nrow (x : S24) : List Value := [.int .i64 x.f0, .string x.f1, .string x.f2, .int .i64 x.f3, .int .i64 x.f4, .bool x.f5, .slice none 0 0]
def prow (p : Int × Int) : List Value := [.int .i64 p.1, .int .i64 p.2]
structure RfIn (w : World) (B g : Nat) (vL vK : Value) (L : List S24) (K : Lk) : Prop where
  lo : B ≤ g
  blk : w.heap[g]? = some (.cells #[vL, vK] 61 (0, 0))
  rowL : (Kd.raw 7).R 24 w B (fun _ => True) vL (L.map nrow)
  rowK : (Kd.raw 2).R 38 w B (fun _ => True) vK (K.map prow)
def Rf (w : World) (B g : Nat) (L : List S24) (K : Lk) : Prop := ∃ vL vK, RfIn w B g vL vK L K
section
variable {w w1 : World} {B g : Nat} {vL vK : Value} {L : List S24} {K : Lk}
theorem RfIn.step (h : RfIn w B g vL vK L K) (hb : Below w.heap.size w w1) : RfIn w1 B g vL vK L K :=
  ⟨h.lo, (hb.block g (blk_lt h.blk)).trans h.blk, Kd.R_below h.rowL hb, Kd.R_below h.rowK hb⟩
theorem Rf.step (h : Rf w B g L K) (hb : Below w.heap.size w w1) : Rf w1 B g L K := by
  obtain ⟨vL, vK, h⟩ := h
  exact ⟨vL, vK, h.step hb⟩
theorem Rf.size (h : Rf w B g L K) : B ≤ w.heap.size := by
  obtain ⟨vL, vK, h⟩ := h
  have := h.lo
  have := blk_lt h.blk
  omega
theorem Rf.lower {B' : Nat} (h : Rf w B g L K) (hb : B' ≤ B) : Rf w B' g L K := by
  obtain ⟨vL, vK, h⟩ := h
  exact ⟨vL, vK, Nat.le_trans hb h.lo, h.blk, Kd.R_lower h.rowL hb, Kd.R_lower h.rowK hb⟩
theorem R_frame {d : Kd (List Value)} {e : Nat} {v : Value} {xs : List (List Value)} (h : d.R e w B (fun _ => True) v xs) (hE : d.E = []) (he : e ≠ 73 ∧ e ≠ 70 ∧ e ≠ 3) (hf : FrameT w w1) : d.R e w1 B (fun _ => True) v xs := by
  refine Kd.R_mono (Kd.R_move (Kd.R_bound h) (fun k hk => ?_)) (fun _ _ => trivial)
  obtain ⟨_, _, _, q, hq, cells, hc⟩ := hk
  rw [hE] at hq
  have hq : q = e := by simpa using hq
  subst hq
  exact hf k q cells hc he.1 he.2.1 he.2.2
theorem Rf.frame (h : Rf w B g L K) (hf : FrameT w w1) : Rf w1 B g L K := by
  obtain ⟨vL, vK, h⟩ := h
  exact ⟨vL, vK, h.lo, (hf g 61 _ h.blk (by decide) (by decide) (by decide)).trans h.blk, R_frame h.rowL rfl (by decide) hf, R_frame h.rowK rfl (by decide) hf⟩
theorem RfIn.sliceL (h : RfIn w B g vL vK L K) : ∃ A c, vL = .slice A L.length c := by
  obtain ⟨A, c, e⟩ := Kd.R_slice h.rowL
  rw [List.length_map] at e
  exact ⟨A, c, e⟩
theorem RfIn.sliceK (h : RfIn w B g vL vK L K) : ∃ A c, vK = .slice A K.length c := by
  obtain ⟨A, c, e⟩ := Kd.R_slice h.rowK
  rw [List.length_map] at e
  exact ⟨A, c, e⟩
theorem map_getD {α β : Type} (f : α → β) (l : List α) (i : Nat) (z : α) (z' : β) (hi : i < l.length) : (l.map f).getD i z' = f (l.getD i z) := by
  rw [List.getD_eq_getElem?_getD, List.getD_eq_getElem?_getD, List.getElem?_map, List.getElem?_eq_getElem hi]
  rfl
theorem RfIn.atK {A : Option Addr} {c : Nat} (h : RfIn w B g vL (.slice A K.length c) L K) (i : Nat) (hi : i < K.length) : ∃ ad, A = some ad ∧ w.cell? (ad.add (i * 2)) = some (.int .i64 (K.getD i (0, 0)).1) ∧ w.cell? ⟨(ad.add (i * 2)).block, (ad.add (i * 2)).off + 1, none⟩ = some (.int .i64 (K.getD i (0, 0)).2) := by
  obtain ⟨_, _, hC⟩ := Kd.R_reads' h.rowK
  rw [List.length_map] at hC
  obtain ⟨ad, cs, e, hl, hK, hc0⟩ := Kd.C_get hC ([] : List Value) (i : Int) (by omega) (by omega)
  have hc : ∀ j u, cs[j]? = some u → w.cell? (ad.add (i * 2 + j)) = some u := hc0
  have hK : (K.map prow).getD i [] = cs := hK.1.symm
  rw [map_getD prow K i (0, 0) [] hi] at hK
  subst hK
  exact ⟨ad, e, hc 0 _ rfl, by rw [← add_field _ _ 1 (by omega)]; exact hc 1 _ rfl⟩
theorem RfIn.atL {A : Option Addr} {c : Nat} (h : RfIn w B g (.slice A L.length c) vK L K) (i : Nat) (hi : i < L.length) : ∃ ad, A = some ad ∧ ∀ j u, (nrow (rd_T24 L (i : Int)))[j]? = some u → w.cell? (ad.add (i * 7 + j)) = some u := by
  obtain ⟨_, _, hC⟩ := Kd.R_reads' h.rowL
  rw [List.length_map] at hC
  obtain ⟨ad, cs, e, hl, hK, hc0⟩ := Kd.C_get hC ([] : List Value) (i : Int) (by omega) (by omega)
  have hc : ∀ j u, cs[j]? = some u → w.cell? (ad.add (i * 7 + j)) = some u := hc0
  have hK : (L.map nrow).getD i [] = cs := hK.1.symm
  rw [map_getD nrow L i z24 [] hi] at hK
  subst hK
  exact ⟨ad, e, hc⟩
end
def hasF (L : List S24) (id : Int) : Bool := decide (0 ≤ id) && decide (id < (L.length : Int))
set_option maxRecDepth 100000 in
set_option maxHeartbeats 8000000 in
theorem rhas_calls {w : World} {B g : Nat} {L : List S24} {K : Lk} (h : Rf w B g L K) (id : Int) : Calls Try.prog 42 #[.pointer (some ⟨g, 0, none⟩), .int .i64 id] w fun e w' => e = .returned (.bool (hasF L id)) ∧ w' = w := by
  obtain ⟨vL, vK, h⟩ := h
  obtain ⟨A, c, rfl⟩ := h.sliceL
  have h0 : w.cell? ⟨g, 0, none⟩ = some (.slice A L.length c) := blk_cell h.blk 0
  clear h
  by_cases h1 : 0 ≤ id
  · have c1 : decide (0 ≤ id) = true := decide_eq_true h1
    go_enter Try.func42, Try.ntmps42
    go_wp2_with fail
    go_ret
    exact ⟨by simp [hasF, c1], rfl⟩
  · have c1 : decide (0 ≤ id) = false := decide_eq_false h1
    go_enter Try.func42, Try.ntmps42
    go_wp2_with fail
    go_ret
    exact ⟨by simp [hasF, c1], rfl⟩
theorem drop_getD (K : Lk) (k : Nat) (h : k < K.length) : K.drop k = K.getD k (0, 0) :: K.drop (k + 1) := by
  rw [List.drop_eq_getElem_cons h, List.getD_eq_getElem?_getD, List.getElem?_eq_getElem h]
  rfl
set_option maxRecDepth 100000 in
set_option maxHeartbeats 8000000 in
theorem rparent_calls {w : World} {B g : Nat} {L : List S24} {K : Lk} (h : Rf w B g L K) (id : Int) (hl : K.length ≤ 1000000000) : Calls Try.prog 47 #[.pointer (some ⟨g, 0, none⟩), .int .i64 id] w fun e w' => e = .returned (.int .i64 (parF K id)) ∧ w' = w := by
  obtain ⟨vL, vK, h⟩ := h
  obtain ⟨A, c, rfl⟩ := h.sliceK
  have HR := Aside0.mk h
  have h1 : w.cell? ⟨g, 1, none⟩ = some (.slice A K.length c) := blk_cell h.blk 1
  obtain ⟨n, en⟩ : ∃ n, n = K.length := ⟨_, rfl⟩
  have HEN := Aside0.mk en
  rw [← en] at h1 hl
  clear h en
  go_enter Try.func47, Try.ntmps47
  go_wp2_with fail
  go_loopw [5] (fun v wr => ∃ k : Nat, k ≤ n ∧ v = .int .i64 k ∧ wr = w ∧ Aside0 (parF (K.drop k) id = parF K id)) (fun v _ => n - (intOf v).toNat)
  case atStart => exact ⟨0, by omega, rfl, rfl, ⟨rfl⟩⟩
  case round =>
    obtain ⟨k, hk, rfl, rfl, HP⟩ := hrel
    by_cases hlt : k < n
    · have hkl : k < K.length := by rw [← HEN.out]; exact hlt
      obtain ⟨ad, rfl, hx, hy⟩ := HR.out.atK k hkl
      have hp := HP.out
      rw [drop_getD K k hkl, parF] at hp
      have hkI : (k : Int) < (n : Int) := by omega
      have hkN : IntKind.i64.wrap ((k : Int) + 1) = (k : Int) + 1 := by rw [IntKind.wrap_i64]; omega
      generalize (K.getD k (0, 0)).1 = x at hx hp
      generalize (K.getD k (0, 0)).2 = y at hy hp
      by_cases e : y = id
      · have eb : (y == id) = true := by simpa using e
        rw [if_pos e] at hp
        have HP2 := Aside0.mk hp
        clear hp e hkl
        go_wp2_with fail
        go_ret
        exact ⟨by rw [HP2.out]; rfl, rfl⟩
      · have eb : (y == id) = false := by simpa using e
        rw [if_neg e] at hp
        have HP2 := Aside0.mk hp
        clear hp e hkl
        go_wp2_with fail
        go_roundw
        case rel => exact ⟨k + 1, by omega, by go_num, by first | rfl | trivial, HP2⟩
        case measure => simp [intOf]; omega
    · have hkn : k = n := by omega
      subst hkn
      have hkI : ¬ (k : Int) < (k : Int) := by omega
      have hp : parF K id = -1 := by
        rw [← HP.out, HEN.out, List.drop_length]
        rfl
      have HP2 := Aside0.mk hp
      clear hp
      go_wp2_with fail
      go_ret
      exact ⟨by rw [HP2.out]; rfl, rfl⟩
theorem chF_app : ∀ (a b : Lk) (id : Int), chF (a ++ b) id = chF a id ++ chF b id
  | [], _, _ => rfl
  | p :: a, b, id => by
    rw [List.cons_append, chF, chF, chF_app a b id]
    by_cases e : p.1 = id
    · rw [if_pos e, if_pos e, List.cons_append]
    · rw [if_neg e, if_neg e]
theorem chF_len : ∀ (a : Lk) (id : Int), (chF a id).length ≤ a.length
  | [], _ => Nat.le_refl _
  | p :: a, id => by
    have := chF_len a id
    rw [chF]
    split
    · simp; omega
    · simp; omega
theorem take_getD (K : Lk) (k : Nat) (h : k < K.length) : K.take (k + 1) = K.take k ++ [K.getD k (0, 0)] := by
  rw [List.take_succ_eq_append_getElem h, List.getD_eq_getElem?_getD, List.getElem?_eq_getElem h]
  rfl
set_option maxRecDepth 100000 in
set_option maxHeartbeats 8000000 in
theorem rchildren_calls {w : World} {B g : Nat} {L : List S24} {K : Lk} (h : Rf w B g L K) (id : Int) (hl : K.length ≤ 1000000000) : Calls Try.prog 49 #[.pointer (some ⟨g, 0, none⟩), .int .i64 id] w fun e w' => ∃ v', e = .returned v' ∧ (Kd.int .i64).R 3 w' w.heap.size (fun _ => True) v' (chF K id) ∧ Below w.heap.size w w' := by
  obtain ⟨vL, vK, h⟩ := h
  obtain ⟨A, c, rfl⟩ := h.sliceK
  have HR := Aside0.mk h
  obtain ⟨n, en⟩ : ∃ n, n = K.length := ⟨_, rfl⟩
  have HEN := Aside0.mk en
  have h1 : w.cell? ⟨g, 1, none⟩ = some (.slice A K.length c) := blk_cell h.blk 1
  have HG := Aside0.mk (show ∀ w', Below w.heap.size w w' → w'.cell? ⟨g, 1, none⟩ = some (.slice A n c) from fun w' hb => by rw [en]; exact blk_cell (blk_below h.blk hb) 1)
  rw [← en] at h1 hl
  clear h en
  go_enter Try.func49, Try.ntmps49
  go_wp2_with fail
  go_loopw [5, 6] (fun v5 v6 wr => ∃ k : Nat, k ≤ n ∧ v6 = .int .i64 k ∧ Aside0 ((Kd.int .i64).R 3 wr w.heap.size (fun _ => True) v5 (chF (K.take k) id) ∧ Below w.heap.size w wr)) (fun _ v _ => n - (intOf v).toNat)
  case atStart => exact ⟨0, by omega, rfl, ⟨Kd.R_nil _ _ _ _ _, Below.refl _ _⟩⟩
  case round =>
    obtain ⟨k, hk, rfl, HI⟩ := hrel
    have g1 := HG.out wr HI.out.2
    by_cases hlt : k < n
    · have hkl : k < K.length := by rw [← HEN.out]; exact hlt
      obtain ⟨ad, rfl, hx0, hy0⟩ := HR.out.atK k hkl
      have hx := (HI.out.2.cell (World.block_lt_of_cell? w _ hx0)).trans hx0
      have hy := (HI.out.2.cell (World.block_lt_of_cell? w _ hy0)).trans hy0
      have hstep := congrArg (fun l => chF l id) (take_getD K k hkl)
      simp only [chF_app] at hstep
      have hkI : (k : Int) < (n : Int) := by omega
      have hkN : IntKind.i64.wrap ((k : Int) + 1) = (k : Int) + 1 := by rw [IntKind.wrap_i64]; omega
      obtain ⟨out, eout⟩ : ∃ out, out = chF (K.take k) id := ⟨_, rfl⟩
      have hol : out.length ≤ 1000000000 := by
        rw [eout]
        have := chF_len (K.take k) id
        rw [List.length_take] at this
        omega
      rw [← eout] at HI hstep
      clear eout hx0 hy0 hkl
      have e2 : ∀ p : Int × Int, chF [p] id = if p.1 = id then [p.2] else [] := fun p => rfl
      rw [e2] at hstep
      generalize (K.getD k (0, 0)).1 = x at hx hstep
      generalize (K.getD k (0, 0)).2 = y at hy hstep
      by_cases e : x = id
      · have eb : (x == id) = true := by simpa using e
        rw [if_pos e] at hstep
        have HST := Aside0.mk hstep
        have HO := Aside0.mk HI.out.1
        have HB := Aside0.mk HI.out.2
        have HL := Aside0.mk hol
        obtain ⟨Ao, co, eo⟩ := Kd.R_slice HO.out
        subst eo
        clear hstep e e2 hol HI
        go_wp2_with (first | ((with_reducible refine gate_builtin (b := .append) (xs := #[.tmp 26, .tmp 35]) rfl ?_); at_builtin; refine Kd.R_append (Kd.int .i64) (w0 := w) w.heap.size rfl (.tmp 26) (.tmp 35) 52 3 (.int .i64 0) 8 rfl Try.underlying52 info3_ rfl (by decide) (by omega) (.slice Ao out.length co) out y [.int .i64 y] (fun _ => True) (fun _ => False) (by rfl) (by rfl) ?aP (fun _ hk => hk.elim) (fun _ _ => trivial) HO.out HB.out HB.out.size ?aL ?_; (case aP => rfl); (case aL => have := HL.out; omega); intro v9 w9 ho hb hg hat; have HO9 := Aside0.mk ho; have HB9 := Aside0.mk hb; clear ho hb hg hat))
        go_roundw
        case rel => exact ⟨k + 1, by omega, by go_num, ⟨by rw [HST.out]; exact HO9.out, HB9.out⟩⟩
        case measure => simp [intOf]; omega
      · have eb : (x == id) = false := by simpa using e
        rw [if_neg e, List.append_nil] at hstep
        have HST := Aside0.mk hstep
        clear hstep e e2 hol
        go_wp2_with fail
        go_roundw
        case rel => exact ⟨k + 1, by omega, by go_num, ⟨by rw [HST.out]; exact HI.out.1, HI.out.2⟩⟩
        case measure => simp [intOf]; omega
    · have hkn : k = n := by omega
      subst hkn
      have hkI : ¬ (k : Int) < (k : Int) := by omega
      have HI9 := Aside0.mk HI.out
      rw [List.take_of_length_le (by rw [HEN.out]; exact Nat.le_refl _)] at HI9
      clear HI
      go_wp2_with fail
      go_ret
      exact ⟨_, rfl, HI9.out.1, HI9.out.2⟩
set_option maxRecDepth 100000 in
set_option maxHeartbeats 8000000 in
theorem rbelow_calls {w : World} {B g : Nat} {L : List S24} {K : Lk} (h : Rf w B g L K) (id top : Int) (hl : K.length ≤ 1000000000) (hL : L.length ≤ 1000000000) : Calls Try.prog 68 #[.pointer (some ⟨g, 0, none⟩), .int .i64 id, .int .i64 top] w fun e w' => e = .returned (.bool (belF K (L.length + 1) id top)) ∧ w' = w := by
  have CP := Aside0.mk (fun x => rparent_calls h x hl)
  obtain ⟨vL, vK, h⟩ := h
  obtain ⟨A, c, rfl⟩ := h.sliceL
  have h0 : w.cell? ⟨g, 0, none⟩ = some (.slice A L.length c) := blk_cell h.blk 0
  obtain ⟨n, en⟩ : ∃ n, n = L.length := ⟨_, rfl⟩
  rw [← en] at h0 hL ⊢
  clear h en
  go_enter Try.func68, Try.ntmps68
  go_wp2_with fail
  go_loopw [1, 7] (fun v1 v7 wr => ∃ (k : Nat) (x : Int), k ≤ n + 1 ∧ v7 = .int .i64 k ∧ v1 = .int .i64 x ∧ wr = w ∧ Aside0 (belF K (n + 1 - k) x top = belF K (n + 1) id top)) (fun _ v _ => n + 1 - (intOf v).toNat)
  case atStart => exact ⟨0, id, by omega, rfl, rfl, rfl, ⟨rfl⟩⟩
  case round =>
    obtain ⟨k, x, hk, rfl, rfl, rfl, HI⟩ := hrel
    have CX := Aside0.mk (CP.out x)
    by_cases hlt : k ≤ n
    · have hkI : decide ((k : Int) ≤ (n : Int)) = true := decide_eq_true (by omega)
      have hkN : IntKind.i64.wrap ((k : Int) + 1) = (k : Int) + 1 := by rw [IntKind.wrap_i64]; omega
      have hb := HI.out
      rw [show n + 1 - k = (n - k) + 1 by omega, belF] at hb
      by_cases h0x : 0 ≤ x
      · have hxI : decide (0 ≤ x) = true := decide_eq_true h0x
        rw [if_neg (by omega)] at hb
        by_cases e : x = top
        · have eb : (x == top) = true := by simpa using e
          rw [if_pos e] at hb
          have HB := Aside0.mk hb
          clear hb e h0x CX HI
          go_wp2_with fail
          go_ret
          exact ⟨by rw [← HB.out]; rfl, rfl⟩
        · have eb : (x == top) = false := by simpa using e
          rw [if_neg e] at hb
          have HB := Aside0.mk hb
          clear hb e h0x HI
          go_wp2_with (go_at_call 47; refine CX.out.mono ?_; rintro e w1 ⟨rfl, rfl⟩)
          go_roundw
          case rel => exact ⟨k + 1, _, by omega, by go_num, by first | rfl | trivial, by first | rfl | trivial, ⟨by rw [show n + 1 - (k + 1) = n - k by omega]; exact HB.out⟩⟩
          case measure => simp [intOf]; omega
      · have hxI : decide (0 ≤ x) = false := decide_eq_false h0x
        rw [if_pos (by omega)] at hb
        have HB := Aside0.mk hb
        clear hb h0x CX HI
        go_wp2_with fail
        go_ret
        exact ⟨by rw [← HB.out]; rfl, rfl⟩
    · have hkn : k = n + 1 := by omega
      subst hkn
      have hkI : decide (((n + 1 : Nat) : Int) ≤ (n : Int)) = false := decide_eq_false (by omega)
      have hb := HI.out
      rw [show n + 1 - (n + 1) = 0 by omega] at hb
      have HB := Aside0.mk (show belF K (n + 1) id top = false from hb.symm)
      clear hb CX HI
      go_wp2_with fail
      go_ret
      exact ⟨by rw [HB.out]; rfl, rfl⟩
end Go.Proofs.Ytikfbipjlkhgeaa.P
