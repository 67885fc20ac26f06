/- What Match tells, as a plain search: the nearest opener that fits is looked for anew each time; and the program's way comes to the same. -/
import Derived.Test.YtclondmclehiiaaMatchP
namespace Go.Proofs.Ytclondmclehiiaa.P
open Go.RowKit Go.Proofs.YtclondmclehiiaaW.PrintWords
set_option linter.unusedVariables false
set_option linter.unusedSimpArgs false

def fitN (l : List S28) (left : Nat → Int) (j k : Nat) : Bool :=
  if (rd_T28 l j).f0 = (rd_T28 l k).f0 then (if (rd_T28 l j).f2 = true then (if left j < 1 then false else
    (if (rd_T28 l k).f0 = 126 then decide (left j = left k) else fitsB (rd_T28 l j) (rd_T28 l k))) else false) else false
def findN (l : List S28) (left : Nat → Int) (k : Nat) : Nat → Option Nat
  | 0 => none
  | j + 1 => if fitN l left j k = true then some j else findN l left k j
def sizeN (l : List S28) (left : Nat → Int) (j k : Nat) : Int := if (rd_T28 l k).f0 = 126 then left k else mn (mn (left k) (left j)) 2
def afterN (left : Nat → Int) (j k : Nat) (s : Int) : Nat → Int := fun i => if i = j then left j - s else if i = k then left k - s else if j < i ∧ i < k then 0 else left i
def naive (l : List S28) : Nat → Nat → (Nat → Int) → List S40 → List S40
  | 0, _, _, out => out
  | n + 1, k, left, out =>
    if k < l.length then
      if (rd_T28 l k).f3 = false ∨ left k = 0 then naive l n (k + 1) left out
      else match findN l left k k with
        | some j => naive l n k (afterN left j k (sizeN l left j k)) (out ++ [⟨j, k, sizeN l left j k⟩])
        | none => naive l n (k + 1) (if (rd_T28 l k).f2 = true then left else fun i => if i = k then 0 else left i) out
    else out

theorem find_some {l : List S28} {left : Nat → Int} {k : Nat} : ∀ {n j : Nat}, findN l left k n = some j → j < n ∧ fitN l left j k = true ∧ ∀ m, j < m → m < n → fitN l left m k = false
  | 0, _, h => by cases h
  | n + 1, j, h => by
    simp only [findN] at h
    split at h
    · rename_i hf
      cases h
      exact ⟨by omega, hf, fun m h1 h2 => by omega⟩
    · rename_i hf
      obtain ⟨h1, h2, h3⟩ := find_some h
      refine ⟨by omega, h2, fun m hm hmn => ?_⟩
      by_cases he : m = n
      · subst he; exact Bool.eq_false_iff.mpr hf
      · exact h3 m hm (by omega)
theorem find_none {l : List S28} {left : Nat → Int} {k : Nat} : ∀ {n : Nat}, findN l left k n = none → ∀ m, m < n → fitN l left m k = false
  | 0, _, m, hm => by omega
  | n + 1, h, m, hm => by
    simp only [findN] at h
    split at h
    · cases h
    · rename_i hf
      by_cases he : m = n
      · subst he; exact Bool.eq_false_iff.mpr hf
      · exact find_none h m (by omega)
theorem find_eq {l : List S28} {left : Nat → Int} {k : Nat} {n j : Nat} (h1 : j < n) (h2 : fitN l left j k = true) (h3 : ∀ m, j < m → m < n → fitN l left m k = false) : findN l left k n = some j := by
  cases h : findN l left k n with
  | none => rw [find_none h j h1] at h2; cases h2
  | some i =>
    obtain ⟨g1, g2, g3⟩ := find_some h
    rcases Nat.lt_trichotomy i j with hlt | heq | hgt
    · rw [g3 j hlt h1] at h2; cases h2
    · rw [heq]
    · rw [h3 i hgt g1] at g2; cases g2
theorem find_eq_none {l : List S28} {left : Nat → Int} {k : Nat} {n : Nat} (h : ∀ m, m < n → fitN l left m k = false) : findN l left k n = none := by
  cases h2 : findN l left k n with
  | none => rfl
  | some i =>
    obtain ⟨g1, g2, _⟩ := find_some h2
    rw [h i g1] at g2
    cases g2

/-- May an opener a belong to a closer that may open (o), or not, with v: its number modulo 3? -/
def fitsK (a : S28) (o : Bool) (v : Int) : Bool := if (a.f2 && a.f3 || o) = true then (if (a.f1 % 3 + v) % 3 = 0 then (if a.f1 % 3 = 0 then v == 0 else false) else true) else true
theorem tmod_pos {a : Int} (h : 1 ≤ a) : a.tmod 3 = a % 3 := Int.tmod_eq_emod_of_nonneg (by omega)
theorem fits_key (a b : S28) (ha : 1 ≤ a.f1 ∧ a.f1 ≤ 1073741824) (hb : 1 ≤ b.f1 ∧ b.f1 ≤ 1073741824) (hc : b.f3 = true) : fitsB a b = fitsK a b.f2 (b.f1.tmod 3) := by
  have hw : wrap64 (a.f1 + b.f1) = a.f1 + b.f1 := by unfold wrap64; omega
  unfold fitsB delim_fits.f fitsK
  rw [hw, hc, tmod_pos ha.1, tmod_pos hb.1, tmod_pos (show 1 ≤ a.f1 + b.f1 by omega)]
  have h3 : (a.f1 + b.f1) % 3 = (a.f1 % 3 + b.f1 % 3) % 3 := by omega
  rw [h3]
  rcases a with ⟨_, n, o, c⟩
  rcases b with ⟨_, m, o2, c2⟩
  dsimp only
  cases o <;> cases c <;> cases o2 <;> simp
  all_goals (repeat' split) <;> simp_all

/-! ### every place ahead lies in the list -/
def PB (e : List S53) : Prop := ∀ i : Nat, i < e.length → (rd_T53 e i).f1 < e.length
theorem PB.set {e : List S53} (h : PB e) (x : Nat) (y : S53) (hy : y.f1 < e.length) : PB (e.set x y) := by
  intro i hi
  rw [List.length_set] at hi ⊢
  by_cases hx : x < e.length
  · rw [rd53_set _ _ _ _ hx]
    split
    · exact hy
    · exact h i hi
  · rw [List.set_eq_of_length_le (by omega)]
    exact h i hi
theorem PB.at {e : List S53} (h : PB e) (i : Int) (h1 : i < e.length) : (rd_T53 e i).f1 < e.length ∨ e.length = 0 := by
  by_cases h2 : e.length = 0
  · exact .inr h2
  · left
    by_cases h0 : 0 ≤ i
    · obtain ⟨n, rfl⟩ := Int.eq_ofNat_of_zero_le h0
      exact h n (by omega)
    · have : rd_T53 e i = rd_T53 e ((0 : Nat) : Int) := by
        show e.getD i.toNat z53 = e.getD (Int.toNat ((0 : Nat) : Int)) z53
        rw [show i.toNat = 0 by omega]; rfl
      rw [this]
      exact h 0 (by omega)
theorem PB.drop {e : List S53} (h : PB e) (k : Int) (hk0 : 0 ≤ k) (hk : k < e.length) (hp : (rd_T53 e k).f1 < e.length) (hq0 : 0 ≤ (rd_T53 (m_drop1 e k) k).f2) : PB (m_drop e k) := by
  have h1 : PB (m_drop1 e k) := by
    unfold m_drop1
    dsimp only
    split
    · refine h.set _ _ ?_
      rcases h.at (rd_T53 e k).f1 hp with h2 | h2
      · exact h2
      · omega
    · exact h
  have h2 : PB (m_drop2 (m_drop1 e k) k) := by
    unfold m_drop2
    dsimp only
    split
    · refine h1.set _ _ ?_
      rcases h1.at k (by rw [m_drop1_len]; exact hk) with h2 | h2
      · exact h2
      · rw [m_drop1_len] at h2; omega
    · exact h1
  unfold m_drop m_drop3
  refine h2.set _ _ ?_
  rcases h2.at k (by rw [m_drop2_len, m_drop1_len]; exact hk) with h3 | h3
  · exact h3
  · rw [m_drop2_len, m_drop1_len] at h3; omega
theorem PB.dropO {e e' : List S53} (h : PB e) {k : Int} (hd : m_dropO e k = some e') : PB e' := by
  unfold m_dropO at hd
  split at hd
  · rename_i c
    cases hd
    exact h.drop k c.1.1 c.1.2 c.2.1 c.2.2.2.2
  · cases hd
theorem PB.unlink {k j : Int} : ∀ {n : Nat} {e e' : List S53}, PB e → m_unlink k j n e = some e' → PB e'
  | 0, _, _, _, h => by cases h
  | n + 1, e, e', hp, h => by
    simp only [m_unlink] at h
    split at h
    · cases h; exact hp
    · obtain ⟨e2, h1, h2⟩ := Option.bind_eq_some_iff.mp h
      exact PB.unlink (hp.dropO h1) h2
theorem PB.sub {e : List S53} (h : PB e) (x n : Int) (hx : x < e.length) : PB (m_sub e x n) := by
  unfold m_sub
  by_cases h0 : e.length = 0
  · intro i hi
    rw [List.length_set] at hi
    omega
  · refine h.set _ _ ?_
    rcases h.at x hx with h2 | h2
    · exact h2
    · omega
theorem PB.pair {l : List S28} {n : Nat} {e e' : List S53} {j k : Int} (hp : PB e) (hj : j < e.length) (hk : k < e.length) (h : m_pair l n e j k = some e') : PB e' := by
  unfold m_pair at h
  obtain ⟨e1, h1, h⟩ := Option.bind_eq_some_iff.mp h
  have h2 := hp.unlink h1
  have hl := m_unlink_len h1
  have h3 := (h2.sub j (m_size l e j k) (by omega)).sub k (m_size l e j k) (by rw [m_sub_len]; omega)
  split at h
  · exact h3.dropO h
  · cases h; exact h3

/-! ### the invariant -/
def noFit (l : List S28) (left : Nat → Int) (j : Nat) (q : Key) : Prop := ¬ ((rd_T28 l j).f0 = q.1 ∧ (rd_T28 l j).f2 = true ∧ 1 ≤ left j ∧ (if q.1 = 126 then left j = q.2.2 else fitsK (rd_T28 l j) q.2.1 q.2.2 = true))
structure Inv (l : List S28) (k : Nat) (e : List S53) (al : Nat → Prop) (f : Key → Option Int) (left : Nat → Int) : Prop where
  len : e.length = l.length
  hL : ∀ i : Nat, i < e.length → (rd_T53 e i).f0 = left i
  bnd : ∀ i : Nat, i < e.length → 0 ≤ left i ∧ left i ≤ m_left (rd_T28 l i)
  tilde : ∀ i : Nat, i < e.length → (rd_T28 l i).f0 = 126 → left i = 0 ∨ left i = m_left (rd_T28 l i)
  ch : Chain e al
  alive : ∀ i : Nat, k ≤ i → i < e.length → al i
  dead : ∀ i : Nat, i < k → i < e.length → ¬ al i → left i = 0
  bot : ∀ q b, f q = some b → -1 ≤ b ∧ ∀ j : Nat, (j : Int) ≤ b → j < e.length → noFit l left j q
  pb : PB e
  wf : ∀ i : Nat, i < e.length → 0 ≤ (rd_T28 l i).f0 ∧ (rd_T28 l i).f0 ≤ 255
theorem m_left_pos {r : S28} (h : 1 ≤ m_left r) : 1 ≤ r.f1 ∧ r.f1 ≤ 1073741824 ∧ m_left r = r.f1 := by
  unfold m_left at h ⊢
  split at h
  · omega
  · rename_i hn
    rw [if_neg hn]
    omega
theorem m_left_le (r : S28) : 0 ≤ m_left r ∧ m_left r ≤ 1073741824 := by
  unfold m_left
  split <;> omega
theorem noFit.less {l : List S28} {left left' : Nat → Int} {j : Nat} {q : Key} (h : noFit l left j q) (h1 : left' j ≤ left j) (h2 : (rd_T28 l j).f0 = 126 → left' j = left j ∨ left' j = 0) : noFit l left' j q := by
  rintro ⟨a, b, c, d⟩
  refine h ⟨a, b, by omega, ?_⟩
  by_cases hq : q.1 = 126
  · rw [if_pos hq] at d ⊢
    rcases h2 (by omega) with h3 | h3 <;> omega
  · rw [if_neg hq] at d ⊢
    exact d
section
variable {l : List S28} {k : Nat} {e : List S53} {al : Nat → Prop} {f : Key → Option Int} {left : Nat → Int}
theorem Inv.range (h : Inv l k e al f left) {i : Nat} (hi : i < e.length) (h1 : 1 ≤ left i) : 1 ≤ (rd_T28 l i).f1 ∧ (rd_T28 l i).f1 ≤ 1073741824 := by
  have := m_left_pos (Int.le_trans h1 (h.bnd i hi).2)
  exact ⟨this.1, this.2.1⟩
theorem Inv.fits (h : Inv l k e al f left) (hk : k < e.length) {j : Nat} (hj : j < e.length) : m_fits l e j k = fitN l left j k := by
  unfold m_fits fitN
  rw [h.hL j hj, h.hL k hk]
theorem Inv.fit_iff (h : Inv l k e al f left) (hk : k < e.length) (hc : (rd_T28 l k).f3 = true) (hk1 : left k ≠ 0) {j : Nat} (hj : j < e.length) : fitN l left j k = false ↔ noFit l left j (m_of l e k) := by
  have hk2 : 1 ≤ left k := by have := (h.bnd k hk).1; omega
  have hrk := h.range hk hk2
  by_cases c126 : (rd_T28 l k).f0 = 126
  · have hq : m_of l e k = ((rd_T28 l k).f0, false, left k) := by unfold m_of; rw [if_pos c126, h.hL k hk]
    rw [hq]
    unfold noFit fitN
    dsimp only
    by_cases a : (rd_T28 l j).f0 = (rd_T28 l k).f0
    · rw [if_pos a]
      by_cases b : (rd_T28 l j).f2 = true
      · rw [if_pos b]
        by_cases c : left j < 1
        · rw [if_pos c]
          exact ⟨fun _ hh => by omega, fun _ => rfl⟩
        · rw [if_neg c, if_pos c126]
          constructor
          · intro h1 hh
            have := hh.2.2.2
            rw [if_pos c126] at this
            rw [this] at h1
            simp at h1
          · intro h1
            simp only [decide_eq_false_iff_not]
            intro h2
            exact h1 ⟨a, b, by omega, by rw [if_pos c126]; exact h2⟩
      · rw [if_neg b]
        exact ⟨fun _ hh => b hh.2.1, fun _ => rfl⟩
    · rw [if_neg a]
      exact ⟨fun _ hh => a hh.1, fun _ => rfl⟩
  · have hq : m_of l e k = ((rd_T28 l k).f0, (rd_T28 l k).f2, (rd_T28 l k).f1.tmod 3) := by unfold m_of; rw [if_neg c126]
    rw [hq]
    unfold noFit fitN
    dsimp only
    by_cases a : (rd_T28 l j).f0 = (rd_T28 l k).f0
    · rw [if_pos a]
      by_cases b : (rd_T28 l j).f2 = true
      · rw [if_pos b]
        by_cases c : left j < 1
        · rw [if_pos c]
          exact ⟨fun _ hh => by omega, fun _ => rfl⟩
        · rw [if_neg c, if_neg c126]
          have hrj := h.range hj (by omega)
          rw [fits_key _ _ hrj hrk hc]
          constructor
          · intro h1 hh
            have h2 := hh.2.2.2
            rw [if_neg c126] at h2
            rw [h2] at h1
            cases h1
          · intro h1
            rw [Bool.eq_false_iff]
            intro h2
            exact h1 ⟨a, b, by omega, by rw [if_neg c126]; exact h2⟩
      · rw [if_neg b]
        exact ⟨fun _ hh => b hh.2.1, fun _ => rfl⟩
    · rw [if_neg a]
      exact ⟨fun _ hh => a hh.1, fun _ => rfl⟩
theorem Inv.key (h : Inv l k e al f left) (hk : k < e.length) (hk1 : left k ≠ 0) : ∃ lit, keyOf Try.prog 57 (encK (m_of l e k)) = some lit := by
  have hk2 : 1 ≤ left k := by have := (h.bnd k hk).1; omega
  have hrk := h.range hk hk2
  have hw := h.wf k hk
  have hb := h.bnd k hk
  have hm := m_left_le (rd_T28 l k)
  unfold m_of
  rw [h.hL k hk]
  split
  · exact keyOf_encK _ _ _ hw.1 hw.2 (by omega) (by omega)
  · rw [tmod_pos hrk.1]
    exact keyOf_encK _ _ _ hw.1 hw.2 (by omega) (by omega)
end

/-! ### what is left in all -/
def total (n : Nat) (left : Nat → Int) : Int := ((List.range n).map left).sum
theorem total_succ (n : Nat) (left : Nat → Int) : total (n + 1) left = total n left + left n := by
  unfold total
  rw [List.range_succ, List.map_append, List.sum_append]
  simp
theorem total_nonneg {n : Nat} {left : Nat → Int} (h : ∀ i, i < n → 0 ≤ left i) : 0 ≤ total n left := by
  induction n with
  | zero => simp [total]
  | succ n ih =>
    rw [total_succ]
    have := ih (fun i hi => h i (by omega))
    have := h n (by omega)
    omega
theorem total_le {n : Nat} {a b : Nat → Int} (h : ∀ i, i < n → a i ≤ b i) : total n a ≤ total n b := by
  induction n with
  | zero => simp [total]
  | succ n ih =>
    rw [total_succ, total_succ]
    have := ih (fun i hi => h i (by omega))
    have := h n (by omega)
    omega
theorem total_lt {n : Nat} {a b : Nat → Int} (h : ∀ i, i < n → a i ≤ b i) {j : Nat} (hj : j < n) (hlt : a j < b j) : total n a < total n b := by
  induction n with
  | zero => omega
  | succ n ih =>
    rw [total_succ, total_succ]
    by_cases he : j = n
    · subst he
      have := total_le (fun i hi => h i (Nat.lt_succ_of_lt hi))
      omega
    · have := ih (fun i hi => h i (by omega)) (by omega)
      have := h n (by omega)
      omega

theorem sizeN_eq {l : List S28} {k : Nat} {e : List S53} {al : Nat → Prop} {f : Key → Option Int} {left : Nat → Int} (h : Inv l k e al f left) (hk : k < e.length) {j : Nat} (hj : j < e.length) : m_size l e j k = sizeN l left j k := by
  unfold m_size sizeN
  rw [h.hL j hj, h.hL k hk]
theorem fit_left {l : List S28} {left : Nat → Int} {j k : Nat} (h : fitN l left j k = true) : 1 ≤ left j ∧ (rd_T28 l j).f0 = (rd_T28 l k).f0 ∧ ((rd_T28 l k).f0 = 126 → left j = left k) := by
  unfold fitN at h
  split at h
  · rename_i a
    split at h
    · split at h
      · cases h
      · refine ⟨by omega, a, fun c => ?_⟩
        rw [if_pos c] at h
        simpa using h
    · cases h
  · cases h
theorem size_ok {l : List S28} {left : Nat → Int} {j k : Nat} (h : fitN l left j k = true) (hk : 1 ≤ left k) : 1 ≤ sizeN l left j k ∧ sizeN l left j k ≤ left j ∧ sizeN l left j k ≤ left k := by
  obtain ⟨h1, h2, h3⟩ := fit_left h
  unfold sizeN mn
  by_cases c : (rd_T28 l k).f0 = 126
  · rw [if_pos c]
    have := h3 c
    omega
  · rw [if_neg c]
    repeat' split
    all_goals omega

theorem sim (l : List S28) : ∀ (n k : Nat) (e : List S53) (al : Nat → Prop) (f : Key → Option Int) (left : Nat → Int) (out : List S40), Inv l k e al f left → k ≤ l.length → (l.length : Int) - k + total l.length left < n → (out.length : Int) + total l.length left < 1000000000000 →
    ∃ m, Run l m k e f out (naive l n k left out) := by
  intro n
  induction n with
  | zero =>
    intro k e al f left out hI hk hn
    have := total_nonneg (n := l.length) (left := left) (fun i hi => (hI.bnd i (by rw [hI.len]; exact hi)).1)
    omega
  | succ n ih =>
    intro k e al f left out hI hk hn ho
    have hlen := hI.len
    have htn := total_nonneg (n := l.length) (left := left) (fun i hi => (hI.bnd i (by rw [hI.len]; exact hi)).1)
    simp only [naive]
    by_cases hlt : k < l.length
    · rw [if_pos hlt]
      have hke : k < e.length := by omega
      have hkI : (k : Int) < (l.length : Int) := by omega
      by_cases hsk : (rd_T28 l k).f3 = false ∨ left k = 0
      · rw [if_pos hsk]
        obtain ⟨m, hm⟩ := ih (k + 1) e al f left out ⟨hI.len, hI.hL, hI.bnd, hI.tilde, hI.ch, fun i hi => hI.alive i (by omega), fun i hi hil hna => by
          by_cases he : i = k
          · rw [he] at hna hil; exact absurd (hI.alive k (Nat.le_refl _) hil) hna
          · exact hI.dead i (by omega) hil hna, hI.bot, hI.pb, hI.wf⟩ (by omega) (by omega) ho
        exact ⟨m + 1, Run.skip hkI (by rw [hI.hL k hke]; exact hsk) (by simpa using hm)⟩
      · rw [if_neg hsk]
        have hc : (rd_T28 l k).f3 = true := by
          cases h : (rd_T28 l k).f3 with
          | true => rfl
          | false => exact absurd (.inl h) hsk
        have hk0 : left k ≠ 0 := fun h => hsk (.inr h)
        have hk1 : 1 ≤ left k := by have := (hI.bnd k hke).1; omega
        have hkL : (rd_T53 e k).f0 ≠ 0 := by rw [hI.hL k hke]; exact hk0
        have hpr : ∀ i : Int, 0 ≤ i → i < e.length → (rd_T53 e i).f1 < e.length := fun i h0 h1 => by
          obtain ⟨q, rfl⟩ := Int.eq_ofNat_of_zero_le h0
          exact hI.pb q (by omega)
        have hkey := hI.key hke hk0
        have hlow : -1 ≤ m_low f (m_of l e k) := by
          unfold m_low
          cases hf : f (m_of l e k) with
          | none => simp
          | some b => exact (hI.bot _ b hf).1
        have hlowno : ∀ j : Nat, (j : Int) ≤ m_low f (m_of l e k) → j < e.length → noFit l left j (m_of l e k) := by
          intro j hj hjl
          unfold m_low at hj
          cases hf : f (m_of l e k) with
          | none => rw [hf] at hj; simp at hj; omega
          | some b => rw [hf] at hj; exact (hI.bot _ b hf).2 j hj hjl
        obtain ⟨p1, p2, p3, p4⟩ := hI.ch.prev k hke (hI.alive k (Nat.le_refl _) hke)
        obtain ⟨m, r, hop, hcase⟩ := open_spec l e al hI.ch (m_low f (m_of l e k)) hlow k hke k (rd_T53 e k).f1 (by omega) p1 p3 (by omega) (fun m hm hmk hma => absurd hma (p4 m hm hmk))
        have hnodead : ∀ j : Nat, j < k → ¬ al j → fitN l left j k = false := fun j hj hn => by
          rw [hI.fit_iff hke hc hk0 (by omega)]
          rintro ⟨_, _, h1, _⟩
          rw [hI.dead j hj (by omega) hn] at h1
          omega
        have hnolow : ∀ j : Nat, j < k → (j : Int) ≤ m_low f (m_of l e k) → fitN l left j k = false := fun j hj hl => by
          rw [hI.fit_iff hke hc hk0 (by omega)]
          exact hlowno j hl (by omega)
        rcases hcase with ⟨rfl, hnone⟩ | ⟨j, rfl, hlj, hjk, haj, hfj, hbet⟩
        · have hall : ∀ m : Nat, m < k → fitN l left m k = false := fun m hm => by
            by_cases ha : al m
            · by_cases hl : (m : Int) ≤ m_low f (m_of l e k)
              · exact hnolow m hm hl
              · rw [← hI.fits hke (by omega)]
                exact hnone m (by omega) hm ha
            · exact hnodead m hm ha
          rw [find_eq_none hall]
          dsimp only
          have hbot' : ∀ (left' : Nat → Int), (∀ i : Nat, i < e.length → left' i ≤ left i) → (∀ i : Nat, i < e.length → (rd_T28 l i).f0 = 126 → left' i = left i ∨ left' i = 0) → ∀ q b, (if q = m_of l e k then some (rd_T53 e k).f1 else f q) = some b → -1 ≤ b ∧ ∀ j : Nat, (j : Int) ≤ b → j < e.length → noFit l left' j q := by
            intro left' hle heq q b hb
            by_cases hq : q = m_of l e k
            · rw [if_pos hq] at hb
              cases hb
              refine ⟨p1, fun j hj hjl => ?_⟩
              rw [hq]
              exact ((hI.fit_iff hke hc hk0 hjl).1 (hall j (by omega))).less (hle j hjl) (heq j hjl)
            · rw [if_neg hq] at hb
              exact ⟨(hI.bot q b hb).1, fun j hj hjl => ((hI.bot q b hb).2 j hj hjl).less (hle j hjl) (heq j hjl)⟩
          by_cases h2 : (rd_T28 l k).f2 = true
          · rw [if_pos h2]
            obtain ⟨m2, hm2⟩ := ih (k + 1) e al (fun x => if x = m_of l e k then some (rd_T53 e k).f1 else f x) left out ⟨hI.len, hI.hL, hI.bnd, hI.tilde, hI.ch, fun i hi => hI.alive i (by omega), fun i hi hil hna => by
              by_cases he : i = k
              · rw [he] at hna hil; exact absurd (hI.alive k (Nat.le_refl _) hil) hna
              · exact hI.dead i (by omega) hil hna, hbot' left (fun _ _ => Int.le_refl _) (fun _ _ _ => .inl rfl), hI.pb, hI.wf⟩ (by omega) (by omega) ho
            exact ⟨m2 + 1, Run.keep hkI hc hkL hpr hkey hlow hop h2 (by simpa using hm2)⟩
          · rw [if_neg h2]
            have hak := hI.alive k (Nat.le_refl _) hke
            have hdr := dropO_eq hI.ch hke hak
            have hle : ∀ i : Nat, i < e.length → (if i = k then 0 else left i) ≤ left i := fun i hi => by
              split
              · exact (hI.bnd i hi).1
              · exact Int.le_refl _
            obtain ⟨m2, hm2⟩ := ih (k + 1) (m_drop e k) (fun i => al i ∧ i ≠ k) (fun x => if x = m_of l e k then some (rd_T53 e k).f1 else f x) (fun i => if i = k then 0 else left i) out
              ⟨by rw [m_drop_len]; exact hI.len, fun i hi => by
                rw [m_drop_len] at hi
                rw [congrArg S53.f0 (drop_at hI.ch hke hak i hi)]
                dsimp only
                rw [hI.hL i hi], fun i hi => by
                rw [m_drop_len] at hi
                have := hI.bnd i hi
                try dsimp only
                split <;> omega, fun i hi hc' => by
                rw [m_drop_len] at hi
                try dsimp only
                split
                · exact .inl rfl
                · exact hI.tilde i hi hc', drop_chain hI.ch hke hak, fun i hi hil => by
                rw [m_drop_len] at hil
                exact ⟨hI.alive i (by omega) hil, by omega⟩, fun i hi hil hn => by
                rw [m_drop_len] at hil
                try dsimp only
                split
                · rfl
                · rename_i hne
                  exact hI.dead i (by omega) hil (fun ha => hn ⟨ha, hne⟩), fun q b hb => by
                rw [m_drop_len]
                exact hbot' _ hle (fun i _ _ => by
                  split
                  · exact .inr rfl
                  · exact .inl rfl) q b hb, hI.pb.dropO hdr, fun i hi => by
                rw [m_drop_len] at hi
                exact hI.wf i hi⟩ (by omega) (by
                have := total_le (n := l.length) (a := fun i => if i = k then 0 else left i) (b := left) (fun i hi => hle i (by omega))
                omega) (by
                have := total_le (n := l.length) (a := fun i => if i = k then 0 else left i) (b := left) (fun i hi => hle i (by omega))
                omega)
            exact ⟨m2 + 1, Run.drop hkI hc hkL hpr hkey hlow hop (Bool.eq_false_iff.mpr h2) hdr (by simpa using hm2)⟩
        · have hjl : j < e.length := by omega
          have hfN : fitN l left j k = true := by rw [← hI.fits hke hjl]; exact hfj
          have hfind : findN l left k k = some j := find_eq hjk hfN (fun m hm hmk => by
            by_cases ha : al m
            · rw [← hI.fits hke (by omega)]
              exact hbet m hm hmk ha
            · exact hnodead m hmk ha)
          rw [hfind]
          dsimp only
          obtain ⟨s1, s2, s3⟩ := size_ok hfN hk1
          obtain ⟨l1, l2, l3⟩ := fit_left hfN
          have hseq := sizeN_eq hI hke hjl
          have hmk := m_left_le (rd_T28 l k)
          have hmj := m_left_le (rd_T28 l j)
          have hbk := hI.bnd k hke
          have hbj := hI.bnd j hjl
          obtain ⟨m', e', al', hpa, hch, hle', hal', hdead', hat⟩ := pair_spec l e al hI.ch j k hjk hke haj (hI.alive k (Nat.le_refl _) hke) (fun i hi hn => by rw [hI.hL i (by omega)]; exact hI.dead i hi (by omega) hn)
            (by rw [hI.hL j hjl]; omega) (by rw [hI.hL j hjl]; omega) (by rw [hI.hL k hke]; omega) (by rw [hI.hL k hke]; omega) (by rw [hseq]; omega) (by rw [hseq, hI.hL j hjl]; omega) (by rw [hseq, hI.hL k hke]; omega)
          rw [hseq] at hat
          have hL' : ∀ i : Nat, i < e'.length → (rd_T53 e' i).f0 = afterN left j k (sizeN l left j k) i := fun i hi => by
            rw [hat i (by omega), hI.hL j hjl, hI.hL k hke]
            unfold afterN
            rw [hI.hL i (by omega)]
          generalize hsz : sizeN l left j k = s at *
          have hless : ∀ i : Nat, i < e.length → 0 ≤ afterN left j k s i ∧ afterN left j k s i ≤ left i := fun i hi => by
            have := hI.bnd i hi
            unfold afterN
            by_cases h1 : i = j
            · subst h1; rw [if_pos rfl]; omega
            · rw [if_neg h1]
              by_cases h2 : i = k
              · subst h2; rw [if_pos rfl]; omega
              · rw [if_neg h2]
                split <;> omega
          have h126 : ∀ i : Nat, i < e.length → (rd_T28 l i).f0 = 126 → afterN left j k s i = left i ∨ afterN left j k s i = 0 := fun i hi hc' => by
            have hss : (rd_T28 l k).f0 = 126 → s = left k := fun h => by rw [← hsz]; unfold sizeN; rw [if_pos h]
            unfold afterN
            by_cases h1 : i = j
            · subst h1
              rw [if_pos rfl]
              have h3 := hss (by omega)
              have h4 := l3 (by omega)
              right; omega
            · rw [if_neg h1]
              by_cases h2 : i = k
              · subst h2
                rw [if_pos rfl]
                have h3 := hss hc'
                right; omega
              · rw [if_neg h2]
                split
                · exact .inr rfl
                · exact .inl rfl
          have htl : total l.length (afterN left j k s) < total l.length left := total_lt (fun i hi => (hless i (by omega)).2) (j := j) (by omega) (by unfold afterN; rw [if_pos rfl]; omega)
          obtain ⟨m2, hm2⟩ := ih k e' al' f (afterN left j k s) (out ++ [⟨j, k, s⟩])
            ⟨by omega, hL', fun i hi => by
              have h1 := hless i (by omega)
              have h2 := hI.bnd i (by omega)
              omega, fun i hi hc' => by
              rcases h126 i (by omega) hc' with h1 | h1
              · rw [h1]; exact hI.tilde i (by omega) hc'
              · exact .inl h1, hch, fun i hi hil => hal' i hi (hI.alive i hi (by omega)), fun i hi hil hn => by rw [← hL' i hil]; exact hdead' i hi hn, fun q b hb => by
              rw [hle']
              exact ⟨(hI.bot q b hb).1, fun i hi hil => ((hI.bot q b hb).2 i hi hil).less (hless i hil).2 (h126 i hil)⟩, hI.pb.pair (by omega) (by omega) hpa, fun i hi => hI.wf i (by omega)⟩ hk (by omega) (by rw [List.length_append]; simp only [List.length_cons, List.length_nil]; omega)
          exact ⟨m2 + 1, Run.pair hkI hc hkL hpr hkey hlow hop (by omega) (by omega) hpa (by omega) (by rw [hseq]; exact hm2)⟩
    · rw [if_neg hlt]
      exact ⟨1, Run.done (by omega)⟩
end Go.Proofs.Ytclondmclehiiaa.P
