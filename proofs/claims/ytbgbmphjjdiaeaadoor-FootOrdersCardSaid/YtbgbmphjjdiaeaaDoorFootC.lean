/- Notes' numbers fit: plain. -/
import Derived.Test.YtbgbmphjjdiaeaaDoorFootT
import Derived.Test.YtbgbmphjjdiaeaaDoorFootS
namespace Go.Proofs.YtbgbmphjjdiaeaaDoor.P
open Go.RowKit Go.Proofs.YtbgbmphjjdiaeaaDoorW.PrintWords Go.Proofs.YtbgbmphjjdiaeaaDoorW.PrintLast Go.Proofs.YtbgbmphjjdiaeaaDoorW.PrintMore
set_option linter.unusedVariables false
theorem rfL_nil : rfL [] = [] := by rw [rfL]
theorem ntcL_nil : ntcL [] = 0 := by rw [ntcL]
theorem rfL_one (x : S24) : rfL [x] = rfT x := by rw [rfL, rfL_nil, List.append_nil]
theorem ntcL_one (x : S24) : ntcL [x] = ntT x := by rw [ntcL, ntcL_nil, Nat.add_zero]
theorem rfL_app (a b : List S24) : rfL (a ++ b) = rfL a ++ rfL b := by
  induction a with
  | nil => rw [rfL_nil]; rfl
  | cons x r ih => rw [List.cons_append, rfL, rfL, ih, List.append_assoc]
theorem ntcL_app (a b : List S24) : ntcL (a ++ b) = ntcL a + ntcL b := by
  induction a with
  | nil => rw [ntcL_nil]; simp
  | cons x r ih => rw [List.cons_append, ntcL, ntcL, ih]; omega
/-- References in order lead from one state to another. -/
def Stp (has : Bs → Bool) : Cnt → List S24 → Cnt → Prop
  | st, [], st' => st' = st
  | st, x :: R, st' => has (bts x.f1) = true ∧ x.f3 = (((st.add (bts x.f1)).num (bts x.f1) : Nat) : Int) ∧ x.f4 = (((st.add (bts x.f1)).cnt (bts x.f1) : Nat) : Int) ∧ Stp has (st.add (bts x.f1)) R st'
theorem Stp_app {has : Bs → Bool} : ∀ {A B : List S24} {st m st' : Cnt}, Stp has st A m → Stp has m B st' → Stp has st (A ++ B) st'
  | [], B, st, m, st', h1, h2 => by
    have e : m = st := h1
    rw [e] at h2
    exact h2
  | x :: A, B, st, m, st', h1, h2 => ⟨h1.1, h1.2.1, h1.2.2.1, Stp_app h1.2.2.2 h2⟩
mutual
theorem wkT_stp (has : Bs → Bool) : ∀ (x : S24) (st : Cnt), Stp has st (rfL (wkT has x st).1.toList) (wkT has x st).2 ∧ ntcL (wkT has x st).1.toList = 0
  | ⟨a, b, c, d, e, f, l⟩, st => by
    rw [wkT]
    by_cases h13 : a = 13
    · rw [if_pos h13]
      exact ⟨by show Stp has st (rfL []) st; rw [rfL_nil]; rfl, ntcL_nil⟩
    · rw [if_neg h13]
      by_cases h24 : a = 24
      · rw [if_pos h24]
        by_cases hh : has (bts b) = true
        · rw [if_pos hh]
          obtain ⟨h1, h2⟩ := wkL_stp has l (st.add (bts b))
          refine ⟨?_, ?_⟩
          · show Stp has st (rfL [_]) _
            rw [rfL_one, rfT, if_pos h24]
            exact ⟨hh, rfl, rfl, h1⟩
          · show ntcL [_] = 0
            rw [ntcL_one, ntT, if_neg h13]
            omega
        · rw [if_neg hh]
          refine ⟨?_, ?_⟩
          · show Stp has st (rfL [noRef b]) st
            rw [rfL_one, noRef, rfT, if_neg (by decide), rfL_nil]
            rfl
          · show ntcL [noRef b] = 0
            rw [ntcL_one, noRef, ntT, if_neg (by decide), ntcL_nil]
      · rw [if_neg h24]
        obtain ⟨h1, h2⟩ := wkL_stp has l st
        refine ⟨?_, ?_⟩
        · show Stp has st (rfL [_]) _
          rw [rfL_one, rfT, if_neg h24]
          exact h1
        · show ntcL [_] = 0
          rw [ntcL_one, ntT, if_neg h13]
          omega
theorem wkL_stp (has : Bs → Bool) : ∀ (l : List S24) (st : Cnt), Stp has st (rfL (wkL has l st).1) (wkL has l st).2 ∧ ntcL (wkL has l st).1 = 0
  | [], st => ⟨by rw [wkL]; show Stp has st (rfL []) st; rw [rfL_nil]; rfl, by rw [wkL]; exact ntcL_nil⟩
  | x :: r, st => by
    obtain ⟨h1, h2⟩ := wkT_stp has x st
    obtain ⟨h3, h4⟩ := wkL_stp has r (wkT has x st).2
    rw [wkL]
    refine ⟨?_, ?_⟩
    · show Stp has st (rfL (_ ++ _)) _
      rw [rfL_app]
      exact Stp_app h1 h3
    · show ntcL (_ ++ _) = 0
      rw [ntcL_app, h2, h4]
end
/-- What holds of each state: no label twice, each has a note, each has a reference. -/
structure Fit (has : Bs → Bool) (st : Cnt) : Prop where
  nodup : st.ord.Nodup
  hasn : ∀ s ∈ st.ord, has s = true
  pos : ∀ s ∈ st.ord, 1 ≤ st.cnt s
theorem Fit.zero (has : Bs → Bool) : Fit has cnt0 := ⟨by simp [cnt0], by simp [cnt0], by simp [cnt0]⟩
theorem add_ord (st : Cnt) (s : Bs) : (st.add s).ord = if s ∈ st.ord then st.ord else st.ord ++ [s] := rfl
theorem add_cnt_eq (st : Cnt) (s x : Bs) : (st.add s).cnt x = if x = s then st.cnt x + 1 else st.cnt x := rfl
theorem Fit.add {has : Bs → Bool} {st : Cnt} (h : Fit has st) {s : Bs} (hs : has s = true) : Fit has (st.add s) := by
  refine ⟨?_, ?_, ?_⟩
  · rw [add_ord]
    split
    · exact h.nodup
    · rename_i hm
      rw [List.nodup_append]
      refine ⟨h.nodup, by simp, ?_⟩
      intro x hx y hy e
      rw [List.mem_singleton] at hy
      rw [hy] at e
      exact hm (e ▸ hx)
  · intro x hx
    rw [add_ord] at hx
    split at hx
    · exact h.hasn x hx
    · rcases List.mem_append.1 hx with hx | hx
      · exact h.hasn x hx
      · rw [List.mem_singleton.1 hx]; exact hs
  · intro x hx
    rw [add_cnt_eq]
    by_cases e : x = s
    · rw [if_pos e]; omega
    · rw [if_neg e]
      refine h.pos x ?_
      rw [add_ord] at hx
      split at hx
      · exact hx
      · rcases List.mem_append.1 hx with hx | hx
        · exact hx
        · exact absurd (List.mem_singleton.1 hx) e
theorem add_prefix (st : Cnt) (s : Bs) : st.ord <+: (st.add s).ord := by
  rw [add_ord]
  split
  · exact List.prefix_refl _
  · exact List.prefix_append _ _
theorem Stp_fit {has : Bs → Bool} : ∀ {R : List S24} {st st' : Cnt}, Stp has st R st' → Fit has st → Fit has st' ∧ st.ord <+: st'.ord
  | [], st, st', h, hf => by
    have e : st' = st := h
    rw [e]
    exact ⟨hf, List.prefix_refl _⟩
  | x :: R, st, st', h, hf => by
    obtain ⟨h1, h2⟩ := Stp_fit h.2.2.2 (hf.add h.1)
    exact ⟨h1, (add_prefix st _).trans h2⟩
theorem nodup_le : ∀ {a b : List Bs}, a.Nodup → (∀ x ∈ a, x ∈ b) → a.length ≤ b.length
  | [], _, _, _ => Nat.zero_le _
  | x :: a, b, hn, hs => by
    rw [List.nodup_cons] at hn
    have hx : x ∈ b := hs x (List.mem_cons_self ..)
    have h1 : a.length ≤ (b.erase x).length := nodup_le hn.2 fun y hy => by
      have hne : y ≠ x := fun e => hn.1 (e ▸ hy)
      exact (List.mem_erase_of_ne hne).2 (hs y (List.mem_cons_of_mem _ hy))
    rw [List.length_erase_of_mem hx] at h1
    have := List.length_pos_of_mem hx
    rw [List.length_cons]
    omega
theorem noteF_label (l : List S24) (s : Bs) (h : hasF (noteF l) s = true) : s ∈ (gaL l).map (·.1) := by
  unfold hasF at h
  cases hx : noteF l s with
  | none => rw [hx] at h; cases h
  | some x =>
    rcases fstF_mem _ _ _ _ hx with h | h
    · cases h
    · exact List.mem_map.2 ⟨_, h, rfl⟩
mutual
theorem gaT_lab : ∀ (x : S24) (p : Bs × S24), p ∈ gaT x → p.1.length ≤ 24 * wtT x + 8
  | ⟨a, b, c, d, e, f, l⟩, p, h => by
    rw [gaT] at h
    rw [wtT]
    have hr : p ∈ gaL l → p.1.length ≤ 24 * (1 + b.size + c.size + wtL l) + 8 := fun h => by
      have := gaL_lab l p h
      omega
    split at h
    · rcases List.mem_cons.1 h with rfl | h
      · have := labelS_len (bts b)
        rw [bts_len] at this
        show (T.labelS (bts b)).length ≤ _
        omega
      · exact hr h
    · exact hr h
theorem gaL_lab : ∀ (l : List S24) (p : Bs × S24), p ∈ gaL l → p.1.length ≤ 24 * wtL l + 8
  | [], p, h => by simp [gaL] at h
  | x :: r, p, h => by
    rw [gaL, List.mem_append] at h
    rw [wtL]
    rcases h with h | h
    · have := gaT_lab x p h; omega
    · have := gaL_lab r p h; omega
end
theorem fit_small {l : List S24} {st : Cnt} (h : Fit (hasF (noteF l)) st) : st.ord.length ≤ wtL l ∧ ∀ s ∈ st.ord, s.length ≤ 24 * wtL l + 8 := by
  have h1 := nodup_le h.nodup fun s hs => noteF_label l s (h.hasn s hs)
  rw [List.length_map] at h1
  have h2 := gaL_len l
  refine ⟨by omega, fun s hs => ?_⟩
  obtain ⟨p, hp, rfl⟩ := List.mem_map.1 (noteF_label l s (h.hasn s hs))
  exact gaL_lab l p hp
/-- The notes so far: what they are. -/
structure Out (has : Bs → Bool) (st0 st : Cnt) (out : List S24) : Prop where
  stp : Stp has st0 (out.flatMap fun x => rfL x.f6) st
  le : out.length ≤ st.ord.length
  at_ : ∀ (i : Nat) (h : i < out.length), (rd_T24 out (i : Int)).f0 = 13 ∧ (rd_T24 out (i : Int)).f3 = ((i + 1 : Nat) : Int) ∧ ntcL (rd_T24 out (i : Int)).f6 = 0 ∧ wtL (rd_T24 out (i : Int)).f6 ≤ 6000 ∧ st.ord[i]? = some (bts (rd_T24 out (i : Int)).f1)
theorem rd_app_lt (a b : List S24) (i : Nat) (h : i < a.length) : rd_T24 (a ++ b) (i : Int) = rd_T24 a (i : Int) := by
  unfold rd_T24
  simp only [Int.toNat_natCast, List.getD_eq_getElem?_getD]
  rw [List.getElem?_append_left h]
theorem rd_app_end (a : List S24) (x : S24) : rd_T24 (a ++ [x]) (a.length : Int) = x := by
  unfold rd_T24
  simp [List.getD_eq_getElem?_getD]
theorem prefix_at {a b : List Bs} (h : a <+: b) {i : Nat} {s : Bs} (hi : a[i]? = some s) : b[i]? = some s := by
  obtain ⟨c, rfl⟩ := h
  have hl : i < a.length := (List.getElem?_eq_some_iff.1 hi).1
  rw [List.getElem?_append_left hl]
  exact hi
mutual
theorem wkT_wt (has : Bs → Bool) : ∀ (x : S24) (st : Cnt), wtL (wkT has x st).1.toList ≤ 4 * wtT x
  | ⟨a, b, c, d, e, f, l⟩, st => by
    rw [wkT, wtT]
    have h0 : wtL [] = 0 := by rw [wtL]
    split
    · show wtL [] ≤ _; omega
    · split
      · split
        · have := wkL_wt has l (st.add (bts b))
          show wtL [_] ≤ _
          rw [wtL, wtT, h0]
          omega
        · show wtL [noRef b] ≤ _
          have e1 : (⟨#[91, 94]⟩ ++ b ++ ⟨#[93]⟩ : ByteArray).size = b.size + 3 := by
            rw [ByteArray.size_append, ByteArray.size_append]
            show 2 + b.size + 1 = _
            omega
          have e2 : (⟨#[]⟩ : ByteArray).size = 0 := rfl
          rw [noRef, wtL, wtT, h0, e1, e2]
          omega
      · have := wkL_wt has l st
        show wtL [_] ≤ _
        rw [wtL, wtT, h0]
        omega
theorem wkL_wt (has : Bs → Bool) : ∀ (l : List S24) (st : Cnt), wtL (wkL has l st).1 ≤ 4 * wtL l
  | [], st => by rw [wkL]; show wtL [] ≤ _; omega
  | x :: r, st => by
    have h1 := wkT_wt has x st
    have h2 := wkL_wt has r (wkT has x st).2
    rw [wkL, wtL]
    show wtL (_ ++ _) ≤ _
    rw [wtL_app]
    omega
end
theorem ntL_step (F : Bs → Option S24) (k : Nat) (st : Cnt) (out : List S24) (h1 : out.length < st.ord.length) (h2 : out.length < 100000 ∧ (st.ord.getD out.length []).length ≤ 1000000000) :
    ntL F (k + 1) st out = ntL F k (wkL (hasF F) (ndL F (st.ord.getD out.length [])) st).2 (out ++ [⟨13, txt (st.ord.getD out.length []), ⟨#[]⟩, ((out.length + 1 : Nat) : Int), 0, false, (wkL (hasF F) (ndL F (st.ord.getD out.length [])) st).1⟩]) := by
  rw [ntL, if_pos h1, if_pos h2]
  rfl
theorem Out.next {has : Bs → Bool} {st0 st : Cnt} {out : List S24} (h : Out has st0 st out) {L : List S24} {s : Bs} (hs : st.ord[out.length]? = some s) (hf : Fit has st) (hL : wtL L ≤ 1500) :
    Out has st0 (wkL has L st).2 (out ++ [⟨13, txt s, ⟨#[]⟩, ((out.length + 1 : Nat) : Int), 0, false, (wkL has L st).1⟩]) ∧ Fit has (wkL has L st).2 := by
  obtain ⟨h1, h2⟩ := wkL_stp has L st
  obtain ⟨h3, h4⟩ := Stp_fit h1 hf
  have hl : out.length < st.ord.length := (List.getElem?_eq_some_iff.1 hs).1
  refine ⟨⟨?_, ?_, fun i hi => ?_⟩, h3⟩
  · rw [List.flatMap_append]
    refine Stp_app h.stp ?_
    show Stp has st ([_].flatMap _) _
    rw [List.flatMap_cons, List.flatMap_nil, List.append_nil]
    exact h1
  · have := h4.length_le
    simp
    omega
  · rw [List.length_append, List.length_singleton] at hi
    by_cases e : i = out.length
    · subst e
      rw [rd_app_end]
      exact ⟨rfl, rfl, h2, by have := wkL_wt has L st; show wtL (wkL has L st).1 ≤ 6000; omega, by rw [bts_txt]; exact prefix_at h4 hs⟩
    · have hi' : i < out.length := by omega
      rw [rd_app_lt _ _ _ hi']
      obtain ⟨a1, a2, a3, a5, a4⟩ := h.at_ i hi'
      exact ⟨a1, a2, a3, a5, prefix_at h4 a4⟩
theorem ntL_out (l : List S24) (hw : wtL l ≤ 1500) (st0 : Cnt) : ∀ (d : Nat) (st : Cnt) (out : List S24), wtL l - out.length ≤ d → Fit (hasF (noteF l)) st → Out (hasF (noteF l)) st0 st out →
    ∃ out9 st9, ntL (noteF l) (d + 1) st out = some (out9, st9) ∧ Fit (hasF (noteF l)) st9 ∧ Out (hasF (noteF l)) st0 st9 out9 ∧ out9.length = st9.ord.length := by
  intro d
  induction d with
  | zero =>
    intro st out hd hf ho
    have h1 := (fit_small hf).1
    refine ⟨out, st, ?_, hf, ho, ?_⟩
    · rw [ntL, if_neg (by omega)]
    · have := ho.le
      omega
  | succ d ih =>
    intro st out hd hf ho
    obtain ⟨h1, h2⟩ := fit_small hf
    by_cases hlt : out.length < st.ord.length
    · have hs : st.ord[out.length]? = some (st.ord.getD out.length []) := by
        rw [List.getD_eq_getElem?_getD, List.getElem?_eq_getElem hlt]
        rfl
      have hmem : st.ord.getD out.length [] ∈ st.ord := List.mem_of_getElem? hs
      have h3 := h2 _ hmem
      rw [ntL_step _ _ _ _ hlt ⟨by omega, by omega⟩]
      obtain ⟨g1, g2⟩ := ho.next (L := ndL (noteF l) (st.ord.getD out.length [])) hs hf (by have := noteF_wt l (st.ord.getD out.length []); omega)
      exact ih _ _ (by rw [List.length_append, List.length_singleton]; omega) g2 g1
    · refine ⟨out, st, ?_, hf, ho, ?_⟩
      · rw [ntL, if_neg hlt]
      · have := ho.le
        omega
/-- What foot.Number answers, told by its references. -/
theorem number_fit (l : List S24) (hw : wtL l ≤ 1500) : ∃ (text out9 : List S24) (st1 st9 : Cnt), Ev (fun k => foot_Number.f k l) (text, out9.map (withM st9)) ∧ Stp (hasF (noteF l)) cnt0 (rfL text) st1 ∧ ntcL text = 0 ∧ wtL text ≤ 10000 ∧ Fit (hasF (noteF l)) st9 ∧ Out (hasF (noteF l)) st1 st9 out9 ∧ out9.length = st9.ord.length ∧ st9.ord.length ≤ 1500 := by
  obtain ⟨h1, h2⟩ := wkL_stp (hasF (noteF l)) l cnt0
  obtain ⟨h3, h4⟩ := Stp_fit h1 (Fit.zero _)
  have h5 := wkL_wt (hasF (noteF l)) l cnt0
  obtain ⟨out9, st9, g1, g2, g3, g4⟩ := ntL_out l hw (wkL (hasF (noteF l)) l cnt0).2 (wtL l) (wkL (hasF (noteF l)) l cnt0).2 [] (by simp) h3 ⟨by show Stp _ _ [] _; rfl, by simp, fun i hi => absurd hi (by simp)⟩
  refine ⟨_, out9, _, st9, Ev.of (fun k => foot_Number.mono l k) (k := wtL l + 1) ?_, h1, h2, by omega, g2, g3, g4, by have := (fit_small g2).1; omega⟩
  unfold foot_Number.f
  rw [if_pos (by omega), g1]
  rfl
end Go.Proofs.YtbgbmphjjdiaeaaDoor.P
