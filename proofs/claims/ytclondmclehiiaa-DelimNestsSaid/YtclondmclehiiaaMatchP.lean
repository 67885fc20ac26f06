/- The matcher's lists: unlinking keeps the chain of runs that are not done; plain Lean. -/
import Derived.Test.YtclondmclehiiaaMatchE
namespace Go.Proofs.Ytclondmclehiiaa.P
open Go.RowKit Go.Proofs.YtclondmclehiiaaW.PrintWords
set_option linter.unusedVariables false
set_option linter.unusedSimpArgs false

theorem rd53 (e : List S53) (i : Nat) : rd_T53 e (i : Int) = e.getD i z53 := rfl
theorem rd53_set (e : List S53) (i j : Nat) (x : S53) (hi : i < e.length) : rd_T53 (e.set i x) (j : Int) = if i = j then x else rd_T53 e j := by
  rw [rd53, rd53, List.getD_eq_getElem?_getD, List.getD_eq_getElem?_getD]
  by_cases h : i = j
  · subst h; rw [if_pos rfl, List.getElem?_set_self hi]; rfl
  · rw [if_neg h, List.getElem?_set_ne h]

/-- The chain of what is not done. -/
structure Chain (e : List S53) (al : Nat → Prop) : Prop where
  prev : ∀ i, i < e.length → al i → -1 ≤ (rd_T53 e i).f1 ∧ (rd_T53 e i).f1 < i ∧ (∀ p : Nat, (p : Int) = (rd_T53 e i).f1 → al p) ∧ ∀ m : Nat, (rd_T53 e i).f1 < m → m < i → ¬ al m
  next : ∀ i, i < e.length → al i → (i : Int) < (rd_T53 e i).f2 ∧ (rd_T53 e i).f2 ≤ e.length ∧ (∀ p : Nat, (p : Int) = (rd_T53 e i).f2 → p < e.length → al p) ∧ ∀ m : Nat, (m : Int) < (rd_T53 e i).f2 → i < m → ¬ al m

section
variable {e : List S53} {al : Nat → Prop}
theorem drop1_at (hc : Chain e al) {k : Nat} (hk : k < e.length) (ha : al k) (i : Nat) :
    rd_T53 (m_drop1 e k) i = if (i : Int) = (rd_T53 e k).f1 then ⟨(rd_T53 e i).f0, (rd_T53 e i).f1, (rd_T53 e k).f2⟩ else rd_T53 e i := by
  obtain ⟨h1, h2, h3, h4⟩ := hc.prev k hk ha
  unfold m_drop1
  dsimp only
  by_cases hp : 0 ≤ (rd_T53 e k).f1
  · obtain ⟨p, hp'⟩ := Int.eq_ofNat_of_zero_le hp
    rw [if_pos hp, hp', Int.toNat_natCast, rd53_set _ _ _ _ (by omega)]
    by_cases hpi : p = i
    · rw [if_pos hpi, if_pos (by omega)]; subst hpi; rfl
    · rw [if_neg hpi, if_neg (by omega)]
  · rw [if_neg hp, if_neg (by omega)]
theorem drop2_at (hc : Chain e al) {k : Nat} (hk : k < e.length) (ha : al k) (i : Nat) (hi : i < e.length) :
    rd_T53 (m_drop2 (m_drop1 e k) k) i = ⟨(rd_T53 e i).f0, if (i : Int) = (rd_T53 e k).f2 then (rd_T53 e k).f1 else (rd_T53 e i).f1, if (i : Int) = (rd_T53 e k).f1 then (rd_T53 e k).f2 else (rd_T53 e i).f2⟩ := by
  obtain ⟨h1, h2, h3, h4⟩ := hc.prev k hk ha
  obtain ⟨g1, g2, g3, g4⟩ := hc.next k hk ha
  have hkk : rd_T53 (m_drop1 e k) k = rd_T53 e k := by rw [drop1_at hc hk ha, if_neg (by omega)]
  unfold m_drop2
  dsimp only
  rw [hkk]
  by_cases hq : (rd_T53 e k).f2 < (m_drop1 e k).length
  · rw [if_pos hq]
    obtain ⟨q, hq'⟩ := Int.eq_ofNat_of_zero_le (show 0 ≤ (rd_T53 e k).f2 by omega)
    have hql : q < (m_drop1 e k).length := by omega
    rw [hq', Int.toNat_natCast, rd53_set _ _ _ _ hql]
    by_cases hqi : q = i
    · subst hqi
      rw [if_pos rfl, if_pos rfl, drop1_at hc hk ha, if_neg (by omega), if_neg (by omega)]
    · rw [if_neg hqi, if_neg (by omega), drop1_at hc hk ha]
      by_cases hpi : (i : Int) = (rd_T53 e k).f1
      · rw [if_pos hpi, if_pos hpi, hq']
      · rw [if_neg hpi, if_neg hpi]
  · rw [if_neg hq]
    rw [m_drop1_len] at hq
    rw [drop1_at hc hk ha, if_neg (show ¬ (i : Int) = (rd_T53 e k).f2 by omega)]
    by_cases hpi : (i : Int) = (rd_T53 e k).f1
    · rw [if_pos hpi, if_pos hpi]
    · rw [if_neg hpi, if_neg hpi]
theorem drop_at (hc : Chain e al) {k : Nat} (hk : k < e.length) (ha : al k) (i : Nat) (hi : i < e.length) :
    rd_T53 (m_drop e k) i = ⟨if i = k then 0 else (rd_T53 e i).f0, if (i : Int) = (rd_T53 e k).f2 then (rd_T53 e k).f1 else (rd_T53 e i).f1, if (i : Int) = (rd_T53 e k).f1 then (rd_T53 e k).f2 else (rd_T53 e i).f2⟩ := by
  unfold m_drop m_drop3
  rw [Int.toNat_natCast, rd53_set _ _ _ _ (by rw [m_drop2_len, m_drop1_len]; exact hk)]
  by_cases hik : k = i
  · subst hik
    rw [if_pos rfl, if_pos rfl, drop2_at hc hk ha k hk]
  · rw [if_neg hik, if_neg (Ne.symm hik), drop2_at hc hk ha i hi]
theorem drop_ok (hc : Chain e al) {k : Nat} (hk : k < e.length) (ha : al k) : dropOk e k := by
  obtain ⟨h1, h2, h3, h4⟩ := hc.prev k hk ha
  obtain ⟨g1, g2, g3, g4⟩ := hc.next k hk ha
  have hkk : rd_T53 (m_drop1 e k) k = rd_T53 e k := by rw [drop1_at hc hk ha, if_neg (by omega)]
  unfold dropOk
  rw [hkk]
  refine ⟨by omega, by omega, by omega, by omega, by omega⟩
theorem drop_chain (hc : Chain e al) {k : Nat} (hk : k < e.length) (ha : al k) : Chain (m_drop e k) (fun i => al i ∧ i ≠ k) := by
  obtain ⟨h1, h2, h3, h4⟩ := hc.prev k hk ha
  obtain ⟨g1, g2, g3, g4⟩ := hc.next k hk ha
  constructor
  · rw [m_drop_len]
    rintro i hi ⟨hai, hik⟩
    rw [drop_at hc hk ha i hi]
    dsimp only
    obtain ⟨a1, a2, a3, a4⟩ := hc.prev i hi hai
    by_cases hq : (i : Int) = (rd_T53 e k).f2
    · rw [if_pos hq]
      refine ⟨h1, by omega, fun p hp => ⟨h3 p hp, by omega⟩, fun m hm hmi hmal => ?_⟩
      by_cases hmk : m < k
      · exact h4 m hm hmk hmal.1
      · exact g4 m (by omega) (by have := hmal.2; omega) hmal.1
    · rw [if_neg hq]
      refine ⟨a1, a2, fun p hp => ⟨a3 p hp, ?_⟩, fun m hm hmi hmal => a4 m hm hmi hmal.1⟩
      rintro rfl
      -- prev of i is k, so next of k is i
      rcases Int.lt_trichotomy (rd_T53 e p).f2 i with hlt | heq | hgt
      · obtain ⟨q, hq'⟩ := Int.eq_ofNat_of_zero_le (show 0 ≤ (rd_T53 e p).f2 by omega)
        exact a4 q (by omega) (by omega) (g3 q hq'.symm (by omega))
      · omega
      · exact g4 i hgt (by omega) hai
  · rw [m_drop_len]
    rintro i hi ⟨hai, hik⟩
    rw [drop_at hc hk ha i hi]
    dsimp only
    obtain ⟨a1, a2, a3, a4⟩ := hc.next i hi hai
    by_cases hp : (i : Int) = (rd_T53 e k).f1
    · rw [if_pos hp]
      refine ⟨by omega, g2, fun p hp' hpl => ⟨g3 p hp' hpl, by omega⟩, fun m hm hmi hmal => ?_⟩
      by_cases hmk : m < k
      · exact h4 m (by omega) hmk hmal.1
      · exact g4 m hm (by have := hmal.2; omega) hmal.1
    · rw [if_neg hp]
      refine ⟨a1, a2, fun p hp' hpl => ⟨a3 p hp' hpl, ?_⟩, fun m hm hmi hmal => a4 m hm hmi hmal.1⟩
      rintro rfl
      rcases Int.lt_trichotomy (rd_T53 e p).f1 i with hlt | heq | hgt
      · exact h4 i hlt (by omega) hai
      · omega
      · obtain ⟨q, hq'⟩ := Int.eq_ofNat_of_zero_le (show 0 ≤ (rd_T53 e p).f1 by omega)
        exact a4 q (by omega) (by omega) (h3 q hq'.symm)
theorem Chain.congr {al' : Nat → Prop} (hc : Chain e al) (h : ∀ i, al i ↔ al' i) : Chain e al' := by
  have : al = al' := funext fun i => propext (h i)
  rwa [← this]
theorem dropO_eq (hc : Chain e al) {k : Nat} (hk : k < e.length) (ha : al k) : m_dropO e k = some (m_drop e k) := if_pos (drop_ok hc hk ha)
end

theorem unlink_spec (k j : Nat) (hjk : j < k) : ∀ (d : Nat) (e : List S53) (al : Nat → Prop), Chain e al → k < e.length → al k → al j → (rd_T53 e k).f1 < j + d →
    ∃ n e1, m_unlink k j n e = some e1 ∧ Chain e1 (fun i => al i ∧ ¬ (j < i ∧ i < k)) ∧ e1.length = e.length ∧ ∀ i : Nat, i < e.length → (¬ (j < i ∧ i < k ∧ al i) → (rd_T53 e1 i).f0 = (rd_T53 e i).f0) ∧ (j < i ∧ i < k ∧ al i → (rd_T53 e1 i).f0 = 0) := by
  intro d
  induction d with
  | zero =>
    intro e al hc hk hak haj hd
    obtain ⟨h1, h2, h3, h4⟩ := hc.prev k hk hak
    exact absurd haj (h4 j (by omega) hjk)
  | succ d ih =>
    intro e al hc hk hak haj hd
    obtain ⟨h1, h2, h3, h4⟩ := hc.prev k hk hak
    by_cases hp : (rd_T53 e k).f1 = j
    · refine ⟨1, e, by simp [m_unlink, hp], hc.congr fun i => ⟨fun h => ⟨h, fun hh => h4 i (by omega) hh.2 h⟩, fun h => h.1⟩, rfl, fun i hi => ⟨fun _ => rfl, fun hh => absurd hh.2.2 (h4 i (by omega) hh.2.1)⟩⟩
    · have hge : (j : Int) < (rd_T53 e k).f1 := by
        rcases Int.lt_trichotomy (rd_T53 e k).f1 j with hlt | heq | hgt
        · exact absurd haj (h4 j hlt hjk)
        · exact absurd heq hp
        · exact hgt
      obtain ⟨p, hp'⟩ := Int.eq_ofNat_of_zero_le (show 0 ≤ (rd_T53 e k).f1 by omega)
      have hpk : p < k := by omega
      have hpl : p < e.length := by omega
      have hap : al p := h3 p hp'.symm
      have hkd : rd_T53 (m_drop e p) k = ⟨if k = p then 0 else (rd_T53 e k).f0, if (k : Int) = (rd_T53 e p).f2 then (rd_T53 e p).f1 else (rd_T53 e k).f1, if (k : Int) = (rd_T53 e p).f1 then (rd_T53 e p).f2 else (rd_T53 e k).f2⟩ := drop_at hc hpl hap k hk
      obtain ⟨g1, g2, g3, g4⟩ := hc.next p hpl hap
      obtain ⟨q1, q2, q3, q4⟩ := hc.prev p hpl hap
      have hnx : (k : Int) = (rd_T53 e p).f2 := by
        rcases Int.lt_trichotomy (rd_T53 e p).f2 k with hlt | heq | hgt
        · obtain ⟨q, hq'⟩ := Int.eq_ofNat_of_zero_le (show 0 ≤ (rd_T53 e p).f2 by omega)
          exact absurd (g3 q hq'.symm (by omega)) (h4 q (by omega) (by omega))
        · exact heq.symm
        · exact absurd hak (g4 k hgt hpk)
      have hP : (rd_T53 (m_drop e p) k).f1 = (rd_T53 e p).f1 := by rw [hkd]; exact if_pos hnx
      obtain ⟨n, e1, hun, hc1, hl1, hat⟩ := ih (m_drop e p) (fun i => al i ∧ i ≠ p) (drop_chain hc hpl hap) (by rw [m_drop_len]; exact hk) ⟨hak, by omega⟩ ⟨haj, by omega⟩ (by rw [hP]; omega)
      refine ⟨n + 1, e1, ?_, hc1.congr fun i => ⟨fun h => ⟨h.1.1, h.2⟩, fun h => ⟨⟨h.1, fun he => h.2 ⟨by omega, by omega⟩⟩, h.2⟩⟩, by rw [hl1, m_drop_len], fun i hi => ?_⟩
      · simp only [m_unlink]
        rw [if_neg hp, hp', dropO_eq hc hpl hap]
        exact hun
      · obtain ⟨b1, b2⟩ := hat i (by rw [m_drop_len]; exact hi)
        have hdi := congrArg S53.f0 (drop_at hc hpl hap i hi)
        dsimp only at hdi
        constructor
        · intro hn
          rw [b1 (fun hh => hn ⟨hh.1, hh.2.1, hh.2.2.1⟩), hdi, if_neg]
          rintro rfl
          exact hn ⟨by omega, by omega, hap⟩
        · rintro ⟨c1, c2, c3⟩
          by_cases hip : i = p
          · rw [b1 (fun hh => hh.2.2.2 hip), hdi, if_pos hip]
          · exact b2 ⟨c1, c2, c3, hip⟩

theorem open_spec (l : List S28) (e : List S53) (al : Nat → Prop) (hc : Chain e al) (low : Int) (hlow : -1 ≤ low) (k : Nat) (hk : k < e.length) : ∀ (d : Nat) (c : Int), c < d → -1 ≤ c → (∀ p : Nat, (p : Int) = c → al p) → c < k →
    (∀ m : Nat, c < m → m < k → al m → m_fits l e m k = false) →
    ∃ n r, m_open l e low k n c = some r ∧ ((r = -1 ∧ ∀ m : Nat, low < m → m < k → al m → m_fits l e m k = false) ∨
      ∃ j : Nat, r = j ∧ low < j ∧ j < k ∧ al j ∧ m_fits l e j k = true ∧ ∀ m : Nat, j < m → m < k → al m → m_fits l e m k = false) := by
  intro d
  induction d with
  | zero =>
    intro c hcd h1 hal hck hno
    refine ⟨1, -1, ?_, .inl ⟨rfl, fun m hm hmk hma => hno m (by omega) hmk hma⟩⟩
    simp only [m_open]
    rw [if_neg (by omega)]
  | succ d ih =>
    intro c hcd h1 hal hck hno
    by_cases hlt : low < c
    · obtain ⟨p, hp⟩ := Int.eq_ofNat_of_zero_le (show 0 ≤ c by omega)
      subst hp
      have hap := hal p rfl
      by_cases hf : m_fits l e p k = true
      · refine ⟨1, p, ?_, .inr ⟨p, rfl, hlt, by omega, hap, hf, fun m hm => hno m (by omega)⟩⟩
        simp only [m_open]
        rw [if_pos hlt, if_pos hf]
      · obtain ⟨q1, q2, q3, q4⟩ := hc.prev p (by omega) hap
        obtain ⟨n, r, hr, hcase⟩ := ih (rd_T53 e p).f1 (by omega) q1 q3 (by omega) (fun m hm hmk hma => by
          rcases Int.lt_trichotomy (m : Int) p with h | h | h
          · exact absurd hma (q4 m hm (by omega))
          · have : m = p := by omega
            subst this
            exact Bool.eq_false_iff.mpr hf
          · exact hno m h hmk hma)
        refine ⟨n + 1, r, ?_, hcase⟩
        simp only [m_open]
        rw [if_pos hlt, if_neg hf]
        exact hr
    · refine ⟨1, -1, ?_, .inl ⟨rfl, fun m hm hmk hma => hno m (by omega) hmk hma⟩⟩
      simp only [m_open]
      rw [if_neg hlt]

theorem wrap64_small {a : Int} (h0 : 0 ≤ a) (h1 : a ≤ 1073741824) : wrap64 a = a := by unfold wrap64; omega
theorem sub_at (e : List S53) (x : Nat) (n : Int) (hx : x < e.length) (i : Nat) : rd_T53 (m_sub e x n) i = if x = i then ⟨wrap64 ((rd_T53 e x).f0 - n), (rd_T53 e x).f1, (rd_T53 e x).f2⟩ else rd_T53 e i := by
  unfold m_sub
  rw [Int.toNat_natCast, rd53_set _ _ _ _ hx]
theorem sub_chain {e : List S53} {al : Nat → Prop} (hc : Chain e al) (x : Nat) (n : Int) (hx : x < e.length) : Chain (m_sub e x n) al := by
  have h : ∀ i : Nat, (rd_T53 (m_sub e x n) i).f1 = (rd_T53 e i).f1 ∧ (rd_T53 (m_sub e x n) i).f2 = (rd_T53 e i).f2 := fun i => by
    rw [sub_at e x n hx]
    by_cases hxi : x = i
    · subst hxi; rw [if_pos rfl]; exact ⟨rfl, rfl⟩
    · rw [if_neg hxi]; exact ⟨rfl, rfl⟩
  constructor
  · rw [m_sub_len]
    intro i hi ha
    rw [(h i).1]
    exact hc.prev i hi ha
  · rw [m_sub_len]
    intro i hi ha
    rw [(h i).2]
    exact hc.next i hi ha

theorem tsize : 4 ≤ Try.prog.types.size := of_decide_eq_true (by kernel_rfl)
theorem key57 : Try.prog.keyType 57 = true := by kernel_rfl
theorem cells57 : Try.prog.cellsOf 57 = 3 := by kernel_rfl
theorem cells5 : Try.prog.cellsOf 5 = 1 := by kernel_rfl
theorem cells4 : Try.prog.cellsOf 4 = 1 := by kernel_rfl
theorem cells3 : Try.prog.cellsOf 3 = 1 := by kernel_rfl
theorem keyOf_encK (c : Int) (o : Bool) (n : Int) (hc0 : 0 ≤ c) (hc1 : c ≤ 255) (hn0 : -9223372036854775808 ≤ n) (hn1 : n ≤ 9223372036854775807) : ∃ lit, keyOf Try.prog 57 (encK (c, o, n)) = some lit := by
  have hw1 : (Lit.int .u8 c).wf = true := WalkArith.wf_u8 (by omega)
  have hw2 : (Lit.int .i64 n).wf = true := WalkArith.wf_i64 (by omega)
  unfold keyOf
  rw [Try.underlying57]
  dsimp only
  rw [key57]
  obtain ⟨m, hm⟩ : ∃ m, Try.prog.types.size = m + 4 := ⟨Try.prog.types.size - 4, by have := tsize; omega⟩
  rw [hm]
  simp [encK, Value.formed, Program.keyLits, Value.cells, Try.underlying57, Try.underlying5, Try.underlying4, Try.underlying3, cells57, cells5, cells4, cells3, hw1, hw2]

/-- What pair leaves. -/
theorem pair_spec (l : List S28) (e : List S53) (al : Nat → Prop) (hc : Chain e al) (j k : Nat) (hjk : j < k) (hk : k < e.length) (haj : al j) (hak : al k) (hdead : ∀ i : Nat, i < k → ¬ al i → (rd_T53 e i).f0 = 0)
    (hj1 : 1 ≤ (rd_T53 e j).f0) (hj2 : (rd_T53 e j).f0 ≤ 1073741824) (hk1 : 1 ≤ (rd_T53 e k).f0) (hk2 : (rd_T53 e k).f0 ≤ 1073741824) (hs0 : 0 ≤ m_size l e j k) (hsj : m_size l e j k ≤ (rd_T53 e j).f0) (hsk : m_size l e j k ≤ (rd_T53 e k).f0) :
    ∃ n e' al', m_pair l n e j k = some e' ∧ Chain e' al' ∧ e'.length = e.length ∧ (∀ i : Nat, k ≤ i → al i → al' i) ∧ (∀ i : Nat, i < k → ¬ al' i → (rd_T53 e' i).f0 = 0) ∧
      ∀ i : Nat, i < e.length → (rd_T53 e' i).f0 = if i = j then (rd_T53 e j).f0 - m_size l e j k else if i = k then (rd_T53 e k).f0 - m_size l e j k else if j < i ∧ i < k then 0 else (rd_T53 e i).f0 := by
  obtain ⟨n, e1, hun, hc1, hl1, hat⟩ := unlink_spec k j hjk ((rd_T53 e k).f1 - j + 1).toNat e al hc hk hak haj (by omega)
  obtain ⟨s, hs⟩ : ∃ s, s = m_size l e j k := ⟨_, rfl⟩
  rw [← hs] at hs0 hsj hsk ⊢
  have hj1l : j < e1.length := by omega
  have hk1l : k < (m_sub e1 j s).length := by rw [m_sub_len]; omega
  have hc3 := sub_chain (sub_chain hc1 j s hj1l) k s hk1l
  have hat3 : ∀ i : Nat, i < e.length → (rd_T53 (m_sub (m_sub e1 j s) k s) i).f0 = if i = j then (rd_T53 e j).f0 - s else if i = k then (rd_T53 e k).f0 - s else if j < i ∧ i < k then 0 else (rd_T53 e i).f0 := by
    intro i hi
    obtain ⟨b1, b2⟩ := hat i hi
    obtain ⟨bj1, _⟩ := hat j (by omega)
    obtain ⟨bk1, _⟩ := hat k hk
    rw [sub_at _ k s hk1l]
    by_cases hik : k = i
    · subst hik
      rw [if_pos rfl, if_neg (by omega), if_pos rfl]
      dsimp only
      rw [sub_at _ j s hj1l, if_neg (by omega), bk1 (by omega), wrap64_small (by omega) (by omega)]
    · rw [if_neg hik, sub_at _ j s hj1l]
      by_cases hij : j = i
      · subst hij
        rw [if_pos rfl, if_pos rfl]
        dsimp only
        rw [bj1 (by omega), wrap64_small (by omega) (by omega)]
      · rw [if_neg hij, if_neg (Ne.symm hij), if_neg (Ne.symm hik)]
        by_cases hb : j < i ∧ i < k
        · rw [if_pos hb]
          by_cases ha : al i
          · exact b2 ⟨hb.1, hb.2, ha⟩
          · rw [b1 (fun hh => ha hh.2.2)]
            exact hdead i hb.2 ha
        · rw [if_neg hb]
          exact b1 (fun hh => hb ⟨hh.1, hh.2.1⟩)
  generalize he3 : m_sub (m_sub e1 j s) k s = e3 at *
  have hl3 : e3.length = e.length := by rw [← he3, m_sub_len, m_sub_len, hl1]
  have hdead3 : ∀ i : Nat, i < k → ¬ (al i ∧ ¬ (j < i ∧ i < k)) → (rd_T53 e3 i).f0 = 0 := by
    intro i hi hn
    rw [hat3 i (by omega)]
    by_cases hij : i = j
    · subst hij; exact absurd ⟨haj, by omega⟩ hn
    · rw [if_neg hij, if_neg (by omega)]
      by_cases hb : j < i ∧ i < k
      · rw [if_pos hb]
      · rw [if_neg hb]
        exact hdead i hi (fun ha => hn ⟨ha, hb⟩)
  have hpr : m_pair l n e j k = if (rd_T53 e3 j).f0 = 0 then m_dropO e3 j else some e3 := by
    unfold m_pair
    rw [hun, Option.bind_some, ← hs, he3]
  by_cases hz : (rd_T53 e3 j).f0 = 0
  · rw [if_pos hz] at hpr
    have hjl : j < e3.length := by omega
    have haj3 : al j ∧ ¬ (j < j ∧ j < k) := ⟨haj, by omega⟩
    rw [dropO_eq hc3 hjl haj3] at hpr
    have hdr : ∀ i : Nat, i < e.length → (rd_T53 (m_drop e3 j) i).f0 = (rd_T53 e3 i).f0 := fun i hi => by
      rw [congrArg S53.f0 (drop_at hc3 hjl haj3 i (by omega))]
      dsimp only
      by_cases hij : i = j
      · subst hij; rw [if_pos rfl, hz]
      · rw [if_neg hij]
    refine ⟨n, m_drop e3 j, _, hpr, drop_chain hc3 hjl haj3, by rw [m_drop_len, hl3], fun i hi ha => ⟨⟨ha, by omega⟩, by omega⟩, fun i hi hn => ?_, fun i hi => by rw [hdr i hi]; exact hat3 i hi⟩
    rw [hdr i (by omega)]
    by_cases hij : i = j
    · subst hij; exact hz
    · exact hdead3 i hi (fun hh => hn ⟨hh, hij⟩)
  · rw [if_neg hz] at hpr
    exact ⟨n, e3, _, hpr, hc3, hl3, fun i hi ha => ⟨ha, by omega⟩, fun i hi hn => hdead3 i hi hn, hat3⟩
end Go.Proofs.Ytclondmclehiiaa.P
