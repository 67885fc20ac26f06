/- Notes, by number: what foot's functions answer, plain, no program in sight. -/
import Derived.Test.YtbgbmphjjdiaeaaDoorPk0
import Derived.Test.YtbgbmphjjdiaeaaDoorChars3
import Derived.Maps.Keyed
import Derived.Maps.Own
import Derived.Below
import Derived.Laws.AppendOwn
import Derived.WalkKit
import Derived.Deep.RegionHeld3
import Derived.Deep.RegionLaw
import Derived.Deep.DeepCutAuto
import Derived.Deep.LoopGhost
import Derived.Outline
namespace Go.Proofs.YtbgbmphjjdiaeaaDoor.P
open Go.RowKit Go.Proofs.YtbgbmphjjdiaeaaDoorW.PrintWords Go.Proofs.YtbgbmphjjdiaeaaDoorW.PrintLast Go.Proofs.YtbgbmphjjdiaeaaDoorW.PrintMore
set_option linter.unusedVariables false
abbrev Bs := List UInt8
def txt (l : Bs) : ByteArray := ⟨l.toArray⟩
def bts (s : ByteArray) : Bs := s.data.toList
theorem txt_bts (s : ByteArray) : txt (bts s) = s := by simp [txt, bts]
theorem bts_txt (l : Bs) : bts (txt l) = l := by simp [txt, bts]
theorem txt_size (l : Bs) : (txt l).size = l.length := by simp [txt, ByteArray.size]
theorem bts_len (s : ByteArray) : (bts s).length = s.size := by simp [bts]
mutual
def gaT : S24 → List (Bs × S24)
  | ⟨a, b, c, d, e, f, l⟩ => if a = 13 then (T.labelS (bts b), ⟨a, b, c, d, e, f, l⟩) :: gaL l else gaL l
def gaL : List S24 → List (Bs × S24)
  | [] => []
  | x :: r => gaT x ++ gaL r
end
mutual
def wtT : S24 → Nat
  | ⟨_, b, c, _, _, _, l⟩ => 1 + b.size + c.size + wtL l
def wtL : List S24 → Nat
  | [] => 0
  | x :: r => wtT x + wtL r
end
mutual
def dpT : S24 → Nat
  | ⟨_, _, _, _, _, _, l⟩ => dpL l + 1
def dpL : List S24 → Nat
  | [] => 0
  | x :: r => max (dpT x) (dpL r)
end
theorem gaT_eq (x : S24) : gaT x = if x.f0 = 13 then (T.labelS (bts x.f1), x) :: gaL x.f6 else gaL x.f6 := by obtain ⟨a, b, c, d, e, f, l⟩ := x; exact gaT.eq_1 a b c d e f l
theorem wtT_eq (x : S24) : wtT x = 1 + x.f1.size + x.f2.size + wtL x.f6 := by obtain ⟨a, b, c, d, e, f, l⟩ := x; exact wtT.eq_1 a b c d e f l
theorem dpT_eq (x : S24) : dpT x = dpL x.f6 + 1 := by obtain ⟨a, b, c, d, e, f, l⟩ := x; exact dpT.eq_1 a b c d e f l
theorem gaL_app (a b : List S24) : gaL (a ++ b) = gaL a ++ gaL b := by
  induction a with
  | nil => simp [gaL]
  | cons x r ih => rw [List.cons_append, gaL, gaL, ih, List.append_assoc]
theorem wtL_app (a b : List S24) : wtL (a ++ b) = wtL a + wtL b := by
  induction a with
  | nil => simp [wtL]
  | cons x r ih => rw [List.cons_append, wtL, wtL, ih]; omega
theorem rd24_cons (x : S24) (r : List S24) (i : Nat) : rd_T24 (x :: r) ((i + 1 : Nat) : Int) = rd_T24 r (i : Int) := rfl
theorem take_rd {l : List S24} {k : Nat} (h : k < l.length) : l.take (k + 1) = l.take k ++ [rd_T24 l (k : Int)] := by
  rw [List.take_succ_eq_append_getElem h]
  congr 2
  unfold rd_T24
  simp [List.getD_eq_getElem?_getD, List.getElem?_eq_getElem h]
theorem wt_in {l : List S24} {i : Nat} (hi : i < l.length) : wtT (rd_T24 l (i : Int)) ≤ wtL l := by
  induction l generalizing i with
  | nil => simp at hi
  | cons x r ih =>
    rw [wtL]
    cases i with
    | zero => show wtT x ≤ _; omega
    | succ i => have := ih (i := i) (by simpa using hi); rw [rd24_cons]; omega
theorem dp_in {l : List S24} {i : Nat} (hi : i < l.length) : dpL (rd_T24 l (i : Int)).f6 + 1 ≤ dpL l := by
  induction l generalizing i with
  | nil => simp at hi
  | cons x r ih =>
    rw [dpL]
    cases i with
    | zero => have := dpT_eq x; show dpL x.f6 + 1 ≤ _; omega
    | succ i => have := ih (i := i) (by simpa using hi); rw [rd24_cons]; omega
theorem len_wt (l : List S24) : l.length ≤ wtL l := by
  induction l with
  | nil => simp
  | cons x r ih => have := wtT_eq x; rw [wtL, List.length_cons]; omega
mutual
theorem dp_wtT : ∀ x : S24, dpT x ≤ wtT x
  | ⟨_, b, c, _, _, _, l⟩ => by have := dp_wt l; rw [dpT, wtT]; omega
theorem dp_wt : ∀ l : List S24, dpL l ≤ wtL l
  | [] => Nat.le_refl _
  | x :: r => by have h1 := dp_wtT x; have h2 := dp_wt r; rw [dpL, wtL]; omega
end
/-- The labels of what was told, each once. -/
def addO (O : List Bs) (s : Bs) : List Bs := if s ∈ O then O else O ++ [s]
def labF (O : List Bs) : List (Bs × S24) → List Bs
  | [] => O
  | p :: g => labF (addO O p.1) g
theorem labF_app (O : List Bs) (a b : List (Bs × S24)) : labF O (a ++ b) = labF (labF O a) b := by
  induction a generalizing O with
  | nil => rfl
  | cons p g ih => exact ih _
theorem addO_len (O : List Bs) (s : Bs) : (addO O s).length ≤ O.length + 1 := by
  unfold addO
  split
  · omega
  · simp
theorem labF_len (O : List Bs) (g : List (Bs × S24)) : (labF O g).length ≤ O.length + g.length := by
  induction g generalizing O with
  | nil => exact Nat.le_refl _
  | cons p g ih =>
    have := ih (addO O p.1)
    have h2 := addO_len O p.1
    rw [labF, List.length_cons]
    omega
mutual
theorem gaT_len : ∀ x : S24, (gaT x).length ≤ wtT x
  | ⟨a, b, c, d, e, f, l⟩ => by
    have := gaL_len l
    rw [gaT, wtT]
    split
    · rw [List.length_cons]; omega
    · omega
theorem gaL_len : ∀ l : List S24, (gaL l).length ≤ wtL l
  | [] => Nat.le_refl _
  | x :: r => by have h1 := gaT_len x; have h2 := gaL_len r; rw [gaL, wtL, List.length_append]; omega
end
/-- The first note of each label. -/
def fstF (F : Bs → Option S24) : List (Bs × S24) → Bs → Option S24
  | [] => F
  | p :: g => fstF (if (F p.1).isSome then F else fun s => if s = p.1 then some p.2 else F s) g
theorem fstF_app (F : Bs → Option S24) (a b : List (Bs × S24)) : fstF F (a ++ b) = fstF (fstF F a) b := by
  induction a generalizing F with
  | nil => rfl
  | cons p g ih => exact ih _
/-- Which labels have numbers, in order; how many references each has. -/
structure Cnt where
  ord : List Bs
  cnt : Bs → Nat
def Cnt.add (c : Cnt) (s : Bs) : Cnt := ⟨if s ∈ c.ord then c.ord else c.ord ++ [s], fun x => if x = s then c.cnt x + 1 else c.cnt x⟩
def Cnt.num (c : Cnt) (s : Bs) : Nat := c.ord.idxOf s + 1
def noRef (s : ByteArray) : S24 := ⟨14, ⟨#[91, 94]⟩ ++ s ++ ⟨#[93]⟩, ⟨#[]⟩, 0, 0, false, []⟩
mutual
def wkT (has : Bs → Bool) : S24 → Cnt → Option S24 × Cnt
  | ⟨a, b, c, d, e, f, l⟩, st =>
    if a = 13 then (none, st)
    else if a = 24 then
      if has (bts b) = true then
        (some ⟨a, b, c, ((st.add (bts b)).num (bts b) : Nat), ((st.add (bts b)).cnt (bts b) : Nat), f, (wkL has l (st.add (bts b))).1⟩, (wkL has l (st.add (bts b))).2)
      else (some (noRef b), st)
    else (some ⟨a, b, c, d, e, f, (wkL has l st).1⟩, (wkL has l st).2)
def wkL (has : Bs → Bool) : List S24 → Cnt → List S24 × Cnt
  | [], st => ([], st)
  | x :: r, st => ((wkT has x st).1.toList ++ (wkL has r (wkT has x st).2).1, (wkL has r (wkT has x st).2).2)
end
theorem wkT_eq (has : Bs → Bool) (x : S24) (st : Cnt) : wkT has x st =
    if x.f0 = 13 then (none, st)
    else if x.f0 = 24 then
      if has (bts x.f1) = true then
        (some ⟨x.f0, x.f1, x.f2, ((st.add (bts x.f1)).num (bts x.f1) : Nat), ((st.add (bts x.f1)).cnt (bts x.f1) : Nat), x.f5, (wkL has x.f6 (st.add (bts x.f1))).1⟩, (wkL has x.f6 (st.add (bts x.f1))).2)
      else (some (noRef x.f1), st)
    else (some ⟨x.f0, x.f1, x.f2, x.f3, x.f4, x.f5, (wkL has x.f6 st).1⟩, (wkL has x.f6 st).2) := by obtain ⟨a, b, c, d, e, f, l⟩ := x; exact wkT.eq_1 has st a b c d e f l
theorem wkL_app (has : Bs → Bool) (a b : List S24) (st : Cnt) : wkL has (a ++ b) st = ((wkL has a st).1 ++ (wkL has b (wkL has a st).2).1, (wkL has b (wkL has a st).2).2) := by
  induction a generalizing st with
  | nil => simp [wkL]
  | cons x r ih => rw [List.cons_append, wkL, ih, wkL]; simp
theorem wkL_snoc (has : Bs → Bool) (a : List S24) (x : S24) (st : Cnt) : wkL has (a ++ [x]) st = ((wkL has a st).1 ++ (wkT has x (wkL has a st).2).1.toList, (wkT has x (wkL has a st).2).2) := by
  rw [wkL_app, wkL, wkL]; simp
theorem add_len (c : Cnt) (s : Bs) : (c.add s).ord.length ≤ c.ord.length + 1 := by
  unfold Cnt.add
  show (if s ∈ c.ord then c.ord else c.ord ++ [s]).length ≤ _
  split
  · omega
  · simp
theorem add_cnt (c : Cnt) (s x : Bs) : (c.add s).cnt x ≤ c.cnt x + 1 := by
  unfold Cnt.add
  show (if x = s then c.cnt x + 1 else c.cnt x) ≤ _
  split <;> omega
mutual
theorem wkT_ord (has : Bs → Bool) : ∀ (x : S24) (st : Cnt), (wkT has x st).2.ord.length ≤ st.ord.length + wtT x
  | ⟨a, b, c, d, e, f, l⟩, st => by
    rw [wkT, wtT]
    split
    · show st.ord.length ≤ _; omega
    · split
      · split
        · have h1 := wkL_ord has l (st.add (bts b))
          have h2 := add_len st (bts b)
          show (wkL has l (st.add (bts b))).2.ord.length ≤ _
          omega
        · show st.ord.length ≤ _; omega
      · have h1 := wkL_ord has l st
        show (wkL has l st).2.ord.length ≤ _
        omega
theorem wkL_ord (has : Bs → Bool) : ∀ (l : List S24) (st : Cnt), (wkL has l st).2.ord.length ≤ st.ord.length + wtL l
  | [], st => Nat.le_refl _
  | x :: r, st => by
    have h1 := wkT_ord has x st
    have h2 := wkL_ord has r (wkT has x st).2
    rw [wkL, wtL]
    show (wkL has r (wkT has x st).2).2.ord.length ≤ _
    omega
end
mutual
theorem wkT_cnt (has : Bs → Bool) (s : Bs) : ∀ (x : S24) (st : Cnt), (wkT has x st).2.cnt s ≤ st.cnt s + wtT x
  | ⟨a, b, c, d, e, f, l⟩, st => by
    rw [wkT, wtT]
    split
    · show st.cnt s ≤ _; omega
    · split
      · split
        · have h1 := wkL_cnt has s l (st.add (bts b))
          have h2 := add_cnt st (bts b) s
          show (wkL has l (st.add (bts b))).2.cnt s ≤ _
          omega
        · show st.cnt s ≤ _; omega
      · have h1 := wkL_cnt has s l st
        show (wkL has l st).2.cnt s ≤ _
        omega
theorem wkL_cnt (has : Bs → Bool) (s : Bs) : ∀ (l : List S24) (st : Cnt), (wkL has l st).2.cnt s ≤ st.cnt s + wtL l
  | [], st => Nat.le_refl _
  | x :: r, st => by
    have h1 := wkT_cnt has s x st
    have h2 := wkL_cnt has s r (wkT has x st).2
    rw [wkL, wtL]
    show (wkL has r (wkT has x st).2).2.cnt s ≤ _
    omega
end
theorem wkL_len (has : Bs → Bool) (l : List S24) (st : Cnt) : (wkL has l st).1.length ≤ l.length := by
  induction l generalizing st with
  | nil => exact Nat.le_refl _
  | cons x r ih =>
    have := ih (wkT has x st).2
    rw [wkL, List.length_cons]
    show ((wkT has x st).1.toList ++ _).length ≤ _
    rw [List.length_append]
    have h2 : (wkT has x st).1.toList.length ≤ 1 := by cases (wkT has x st).1 <;> simp
    omega
/-- The notes that are referred to, from the k-th on: in rounds, for a note's own references may name further ones. -/
def ntL (F : Bs → Option S24) : Nat → Cnt → List S24 → Option (List S24 × Cnt)
  | 0, _, _ => none
  | k + 1, st, out =>
    if out.length < st.ord.length then
      if out.length < 100000 ∧ (st.ord.getD out.length []).length ≤ 1000000000 then
        ntL F k (wkL (fun s => (F s).isSome) ((F (st.ord.getD out.length [])).getD z24).f6 st).2
          (out ++ [⟨13, txt (st.ord.getD out.length []), ⟨#[]⟩, ((out.length + 1 : Nat) : Int), 0, false, (wkL (fun s => (F s).isSome) ((F (st.ord.getD out.length [])).getD z24).f6 st).1⟩])
      else none
    else some (out, st)
def cnt0 : Cnt := ⟨[], fun _ => 0⟩
def withM (st : Cnt) (x : S24) : S24 := ⟨x.f0, x.f1, x.f2, x.f3, (st.cnt (bts x.f1) : Nat), x.f5, x.f6⟩
def noteF (l : List S24) : Bs → Option S24 := fstF (fun _ => none) (gaL l)
end Go.Proofs.YtbgbmphjjdiaeaaDoor.P
/- For law18: laws for a map that the call has made, told as a function from keys to optional values: made, kept, looked up, stored into. -/
set_option linter.unusedVariables false
set_option linter.unusedSimpArgs false
namespace Go.Proofs.YtbgbmphjjdiaeaaDoor.MF
open Go Go.RowKit Go.Maps Go.ChangeMaps

/-- Block b is a map whose keys are enc a, each once, whose values are V v; f tells it. -/
def MapF {α β : Type} (w : World) (P : Program) (k : TypeId) (enc : α → Value) (V : β → Value) (b : Nat) (f : α → Option β) : Prop :=
  ∃ es clock, w.heap[b]? = some (.map es clock) ∧ (∀ e ∈ es.toList, ∃ a v, e.key = enc a ∧ e.val = V v ∧ f a = some v ∧ ∃ l, keyOf P k (enc a) = some l) ∧
    (∀ a v, f a = some v → ∃ e ∈ es.toList, e.key = enc a) ∧ (es.toList.map (·.key)).Nodup

section
variable {α β : Type} {w w1 : World} {P : Program} {k e t : TypeId} {enc : α → Value} {V : β → Value} {b : Nat} {f : α → Option β}

theorem MapF.made (w : World) (P : Program) (k : TypeId) (enc : α → Value) (V : β → Value) : MapF (w.alloc (.map #[] 0)) P k enc V w.heap.size (fun _ => none) :=
  ⟨#[], 0, (Go.MapKept.heap_alloc w _).1, by simp, by simp, by simp⟩
theorem MapF.lt (h : MapF w P k enc V b f) : b < w.heap.size := by
  obtain ⟨es, clock, hb, _⟩ := h
  exact (Array.getElem?_eq_some_iff.1 hb).1
theorem MapF.step (h : MapF w P k enc V b f) (hm : w1.heap[b]? = w.heap[b]?) : MapF w1 P k enc V b f := by
  obtain ⟨es, clock, hb, r⟩ := h
  exact ⟨es, clock, hm.trans hb, r⟩
theorem MapF.below {B : Nat} (h : MapF w P k enc V b f) (hb : Below B w w1) (hlt : b < B) : MapF w1 P k enc V b f := h.step (hb.block b hlt)
theorem MapF.below' (h : MapF w P k enc V b f) (hb : Below w.heap.size w w1) : MapF w1 P k enc V b f := h.step (hb.block b h.lt)
theorem MapF.grown {row : Option Nat} (h : MapF w P k enc V b f) (hg : w.grownBy w1 row) (hne : some b ≠ row) : MapF w1 P k enc V b f := h.step (hg.block b h.lt hne)
/-- It is no block of cells. -/
theorem MapF.ne_cells (h : MapF w P k enc V b f) {g : Nat} {cs : Array Value} {q : TypeId} {fr : Nat × Nat} (hg : w.heap[g]? = some (.cells cs q fr)) : g ≠ b := by
  rintro rfl
  obtain ⟨es, clock, hb, _⟩ := h
  rw [hb] at hg
  cases hg

theorem MapF.found (K : Keyed P k) (henc : ∀ a a', enc a = enc a' → a = a') (hV : ∀ v v', V v = V v' → v = v') (h : MapF w P k enc V b f) (a : α) (hkey : ∃ l, keyOf P k (enc a) = some l) :
    ∃ es clock, w.heap[b]? = some (.map es clock) ∧ ((f a = none ∧ (Instr.findKey k (enc a) es.toList).run P w = .ok none w) ∨
      ∃ v j x, f a = some v ∧ (Instr.findKey k (enc a) es.toList).run P w = .ok (some (j, V v)) w ∧ es.toList[j]? = some x ∧ x.key = enc a) := by
  obtain ⟨es, clock, hb, h1, h2, h3⟩ := h
  obtain ⟨l, hl⟩ := hkey
  refine ⟨es, clock, hb, ?_⟩
  rcases K.find w hl es.toList (fun x hx => by
    obtain ⟨a', v', hk, _, _, l', hl'⟩ := h1 x hx
    exact ⟨l', by rw [hk]; exact hl'⟩) with ⟨hr, hn⟩ | ⟨j, x, hr, hj, hk⟩
  · refine .inl ⟨?_, hr⟩
    cases hf : f a with
    | none => rfl
    | some v =>
      obtain ⟨x, hx, hk⟩ := h2 a v hf
      exact absurd hk (hn x hx)
  · obtain ⟨a', v', hk', hv', hf', _⟩ := h1 x (List.mem_of_getElem? hj)
    obtain rfl : a = a' := henc _ _ (hk.symm.trans hk')
    exact .inr ⟨v', j, x, hf', by rw [← hv']; exact hr, hj, hk⟩

theorem MapF.look (K : Keyed P k) (ht : P.underlying t = some (.map k e)) (henc : ∀ a a', enc a = enc a' → a = a') (hV : ∀ v v', V v = V v' → v = v') {z : Value} (hz : (zeroValue e).run P w = .ok z w)
    (h : MapF w P k enc V b f) (a : α) (hkey : ∃ l, keyOf P k (enc a) = some l) (c : Bool) :
    (Instr.lookup t (.map (some b)) (enc a) c).run P w = .ok (if c then .tuple #[((f a).map V).getD z, .bool (f a).isSome] else ((f a).map V).getD z) w := by
  obtain ⟨l, hl⟩ := hkey
  obtain ⟨es, clock, hb, hr⟩ := h.found K henc hV a ⟨l, hl⟩
  have hget := Go.MapKept.run_getObj_map (P := P) hb
  have hck := K.check w es.isEmpty hl
  rcases hr with ⟨hf, hr⟩ | ⟨v, j, x, hf, hr, _, _⟩
  · simp [Instr.lookup, run_underlying ht, hget, hck, hr, hz, hf]
  · simp [Instr.lookup, run_underlying ht, hget, hck, hr, hf]

theorem MapF.store [DecidableEq α] (K : Keyed P k) (ht : P.underlying t = some (.map k e)) (henc : ∀ a a', enc a = enc a' → a = a') (hV : ∀ v v', V v = V v' → v = v')
    (h : MapF w P k enc V b f) (a : α) (v : β) (hkey : ∃ l, keyOf P k (enc a) = some l) :
    ∃ w1, (Instr.mapUpdate t (.map (some b)) (enc a) (V v)).run P w = .ok () w1 ∧ MapF w1 P k enc V b (fun x => if x = a then some v else f x) ∧ w.grownBy w1 (some b) := by
  obtain ⟨l, hl⟩ := hkey
  have hF := h
  obtain ⟨es0, clock0, hb0, h1, h2, h3⟩ := h
  obtain ⟨es, clock, hb, hr⟩ := hF.found K henc hV a ⟨l, hl⟩
  rw [hb0] at hb
  injection hb with hb
  injection hb with he hc
  subst he
  subst hc
  have hlt : b < w.heap.size := hF.lt
  have hget := Go.MapKept.run_getObj_map (P := P) hb0
  have hck := K.check w false hl
  have hset : ∀ o : Obj, w.grownBy (setBlock w b o) (some b) := fun o =>
    ⟨rfl, rfl, rfl, by simp [setBlock], fun i hi hne => by
      have : i ≠ b := fun e => hne (by rw [e])
      simp [setBlock, Array.getElem?_setIfInBounds, Ne.symm this]⟩
  have hat : ∀ o : Obj, (setBlock w b o).heap[b]? = some o := fun o => by simp [setBlock, hlt]
  rcases hr with ⟨hf, hr⟩ | ⟨v0, j, x, hf, hr, hj, hk⟩
  · refine ⟨setBlock w b (.map (es0.push ⟨enc a, V v, clock0⟩) (clock0 + 1)), ?_, ⟨_, _, hat _, ?_, ?_, ?_⟩, hset _⟩
    · simp [Instr.mapUpdate, run_underlying ht, hget, hck, hr, Go.MapKept.run_setObj_map _ hb0, Result.andThen, setBlock]
    · intro y hy
      simp only [Array.toList_push, List.mem_append, List.mem_singleton] at hy
      rcases hy with hy | rfl
      · obtain ⟨a', v', hk', hv', hf', hl'⟩ := h1 y hy
        refine ⟨a', v', hk', hv', ?_, hl'⟩
        show (if a' = a then some v else f a') = some v'
        rw [if_neg (fun (h : a' = a) => by subst h; rw [hf] at hf'; cases hf')]
        exact hf'
      · exact ⟨a, v, rfl, rfl, if_pos rfl, l, hl⟩
    · intro a' v' hf'
      simp only [Array.toList_push, List.mem_append, List.mem_singleton]
      by_cases he : a' = a
      · exact ⟨_, .inr rfl, by rw [he]⟩
      · have hf2 : f a' = some v' := by have h9 : (if a' = a then some v else f a') = some v' := hf'; rwa [if_neg he] at h9
        obtain ⟨y, hy, hk'⟩ := h2 a' v' hf2
        exact ⟨y, .inl hy, hk'⟩
    · simp only [Array.toList_push, List.map_append, List.map_cons, List.map_nil]
      rw [List.nodup_append]
      refine ⟨h3, by simp, ?_⟩
      intro x hx y hy
      simp only [List.mem_singleton] at hy
      subst hy
      rintro rfl
      obtain ⟨y, hy, hk'⟩ := List.mem_map.1 hx
      obtain ⟨a', v', hk2, _, hf', _⟩ := h1 y hy
      have : a' = a := henc _ _ (hk2.symm.trans hk')
      subst this
      rw [hf] at hf'
      cases hf'
  · have hjl : j < es0.size := by
      have := (List.getElem?_eq_some_iff.1 hj).1
      simpa using this
    have hxj : es0[j]? = some x := by simpa [Array.getElem?_toList] using hj
    refine ⟨setBlock w b (.map (es0.modify j fun y => { y with key := enc a, val := V v }) clock0), ?_, ⟨_, _, hat _, ?_, ?_, ?_⟩, hset _⟩
    · simp [Instr.mapUpdate, run_underlying ht, hget, hck, hr, hxj, hk, K.stays w hl, Go.MapKept.run_setObj_map _ hb0, Result.andThen, setBlock]
    · intro y hy
      rw [Array.toList_modify] at hy
      obtain ⟨i, hi⟩ := List.mem_iff_getElem?.1 hy
      rw [List.getElem?_modify] at hi
      obtain ⟨y0, hy0, rfl⟩ := Option.map_eq_some_iff.1 hi
      by_cases hij : j = i
      · simp only [hij, if_true]
        exact ⟨a, v, rfl, rfl, if_pos rfl, l, hl⟩
      · simp only [hij, if_false, id]
        obtain ⟨a', v', hk', hv', hf', hl'⟩ := h1 y0 (List.mem_of_getElem? hy0)
        refine ⟨a', v', hk', hv', ?_, hl'⟩
        have hne : a' ≠ a := by
          rintro rfl
          have hnd : ∀ p q, p < q → q < (es0.toList.map (·.key)).length → (es0.toList.map (·.key))[p]? ≠ (es0.toList.map (·.key))[q]? := fun p q hpq hq he => by
            have h10 := List.pairwise_iff_getElem.1 h3 p q (by omega) hq hpq
            rw [List.getElem?_eq_getElem (by omega), List.getElem?_eq_getElem hq] at he
            exact h10 (Option.some.inj he)
          have e1 : (es0.toList.map (·.key))[j]? = some (enc a') := by rw [List.getElem?_map, hj]; simp [hk]
          have e2 : (es0.toList.map (·.key))[i]? = some (enc a') := by rw [List.getElem?_map, hy0]; simp [hk']
          rcases Nat.lt_or_gt_of_ne hij with hlt' | hgt
          · exact hnd j i hlt' (List.getElem?_eq_some_iff.1 e2).1 (e1.trans e2.symm)
          · exact hnd i j hgt (List.getElem?_eq_some_iff.1 e1).1 (e2.trans e1.symm)
        show (if a' = a then some v else f a') = some v'
        rw [if_neg hne]
        exact hf'
    · intro a' v' hf'
      have h9 : (if a' = a then some v else f a') = some v' := hf'
      have hm : ∀ y0 ∈ es0.toList, ∃ y ∈ (es0.modify j fun y => { y with key := enc a, val := V v }).toList, y.key = y0.key := by
        intro y0 hy0
        obtain ⟨i, hi⟩ := List.mem_iff_getElem?.1 hy0
        refine ⟨(if j = i then (fun y : MapEntry => { y with key := enc a, val := V v }) else id) y0, ?_, ?_⟩
        · rw [Array.toList_modify]
          refine List.mem_of_getElem? (i := i) ?_
          rw [List.getElem?_modify, hi]
          by_cases hij : j = i <;> simp [hij]
        · by_cases hij : j = i
          · subst hij
            rw [hj] at hi
            cases hi
            simp [hk]
          · simp [hij]
      by_cases he : a' = a
      · obtain ⟨y, hy, hky⟩ := hm x (List.mem_of_getElem? hj)
        exact ⟨y, hy, by rw [hky, hk, he]⟩
      · rw [if_neg he] at h9
        obtain ⟨y0, hy0, hk0⟩ := h2 a' v' h9
        obtain ⟨y, hy, hky⟩ := hm y0 hy0
        exact ⟨y, hy, hky.trans hk0⟩
    · have he : (es0.modify j fun y => { y with key := enc a, val := V v }).toList.map (·.key) = es0.toList.map (·.key) := by
        apply List.ext_getElem?
        intro i
        rw [List.getElem?_map, List.getElem?_map, Array.toList_modify, List.getElem?_modify]
        by_cases hij : j = i
        · subst hij
          rw [hj]
          simp [hk]
        · simp [hij]
      rw [he]
      exact h3
end
end Go.Proofs.YtbgbmphjjdiaeaaDoor.MF

/- Maps keyed by texts. -/
namespace Go.Proofs.YtbgbmphjjdiaeaaDoor.P
open Go.RowKit Go.Maps Go.ChangeMaps Go.Proofs.YtbgbmphjjdiaeaaDoor.MF Go.Proofs.YtbgbmphjjdiaeaaDoorW.PrintWords Go.Proofs.YtbgbmphjjdiaeaaDoorW.PrintLast Go.Proofs.YtbgbmphjjdiaeaaDoorW.PrintMore
set_option linter.unusedVariables false
theorem key9 : Keyed Tryd.prog 9 := string_keyed Tryd.underlying9
def encT (l : Bs) : Value := .string (txt l)
theorem encT_inj (a b : Bs) (h : encT a = encT b) : a = b := by
  unfold encT at h
  injection h with h
  have := congrArg bts h
  rwa [bts_txt, bts_txt] at this
theorem keyT (a : Bs) (h : a.length ≤ 9223372036854775807) : ∃ l, keyOf Tryd.prog 9 (encT a) = some l := by
  simp [keyOf, mapKey, encT, Tryd.underlying9, txt_size]
  exact h
/-- A map's world behind a store. -/
noncomputable def updW (t mb : Nat) (key val : Value) (w : World) : World :=
  match (Instr.mapUpdate t (.map (some mb)) key val).run Tryd.prog w with
  | .ok _ w1 => w1
  | _ => w
section
variable {β : Type} {w w1 : World} {t e mb : Nat} {V : β → Value} {f : Bs → Option β}
abbrev MapT (w : World) (V : β → Value) (mb : Nat) (f : Bs → Option β) : Prop := MapF w Tryd.prog 9 encT V mb f
theorem lookT (ht : Tryd.prog.underlying t = some (.map 9 e)) (hV : ∀ v v', V v = V v' → v = v') {z : Value} (hz : (zeroValue e).run Tryd.prog w = .ok z w) (h : MapT w V mb f) (a : Bs) (ha : a.length ≤ 9223372036854775807) (c : Bool) :
    (Instr.lookup t (.map (some mb)) (encT a) c).run Tryd.prog w = .ok (if c then .tuple #[((f a).map V).getD z, .bool (f a).isSome] else ((f a).map V).getD z) w :=
  MapF.look key9 ht encT_inj hV hz h a (keyT a ha) c
theorem updT (ht : Tryd.prog.underlying t = some (.map 9 e)) (hV : ∀ v v', V v = V v' → v = v') (h : MapT w V mb f) (a : Bs) (v : β) (ha : a.length ≤ 9223372036854775807) :
    (Instr.mapUpdate t (.map (some mb)) (encT a) (V v)).run Tryd.prog w = .ok () (updW t mb (encT a) (V v) w) ∧ MapT (updW t mb (encT a) (V v) w) V mb (fun x => if x = a then some v else f x) ∧ w.grownBy (updW t mb (encT a) (V v) w) (some mb) := by
  obtain ⟨w1, hrun, hm, hg⟩ := MapF.store key9 ht encT_inj hV h a v (keyT a ha)
  have hw : updW t mb (encT a) (V v) w = w1 := by unfold updW; rw [hrun]
  rw [hw]
  exact ⟨hrun, hm, hg⟩
end
theorem vbool_inj (a b : Bool) (h : Value.bool a = Value.bool b) : a = b := by injection h
theorem vint_inj (a b : Int) (h : Value.int .i64 a = Value.int .i64 b) : a = b := by injection h
/-- Of two worlds the blocks of nodes are the same. -/
def Same24 (w w1 : World) : Prop := w.heap.size ≤ w1.heap.size ∧ ∀ (q : Nat) (cells : Array Value), w.heap[q]? = some (.cells cells 24 (0, 0)) → w1.heap[q]? = some (.cells cells 24 (0, 0))
theorem Same24.refl (w : World) : Same24 w w := ⟨Nat.le_refl _, fun _ _ h => h⟩
theorem Same24.trans {w w1 w2 : World} (h : Same24 w w1) (k : Same24 w1 w2) : Same24 w w2 := ⟨Nat.le_trans h.1 k.1, fun q c hq => k.2 q c (h.2 q c hq)⟩
theorem Same24.below {w w1 : World} (h : Below w.heap.size w w1) : Same24 w w1 := ⟨h.size, fun q c hq => blk_below hq h⟩
theorem Same24.grown {w w1 : World} {row : Option Nat} (h : w.grownBy w1 row) (hr : ∀ (q : Nat) (cells : Array Value), w.heap[q]? = some (.cells cells 24 (0, 0)) → some q ≠ row) : Same24 w w1 :=
  ⟨h.size, fun q c hq => blk_grown hq h (hr q c hq)⟩
theorem Same24.set {w : World} {g : Nat} {t : TypeId} {cs : Array Value} (h : w.heap[g]? = some (.cells cs t (0, 0))) (ht : t ≠ 24) (j : Nat) (v : Value) : Same24 w (w.setCell ⟨g, j, none⟩ v) :=
  ⟨by rw [World.size_setCell]; exact Nat.le_refl _, fun q c hq => blk_far hq (blk_ne hq h (Ne.symm ht)) v⟩
theorem R24_same {w w1 : World} {base : Nat} {ok : Nat → Prop} {v : Value} {xs : List S24} (h : k24.R 24 w base ok v xs) (hs : Same24 w w1) : k24.R 24 w1 base ok v xs := by
  refine Kd.R_mono (Kd.R_move (Kd.R_bound h) (fun k hk => ?_)) (fun k hk => hk.1)
  obtain ⟨_, _, _, q, hq, cells, hc⟩ := hk
  have e : q = 24 := by
    have : q ∈ [24, 24] := hq
    simpa using this
  subst e
  rw [hc]
  exact hs.2 k cells hc
theorem Below.to24 {B : Nat} {w w1 : World} (h : Below B w w1) : ∀ k, k < B → w1.heap[k]? = w.heap[k]? := fun k hk => h.block k hk
theorem R_string_map {w w1 : World} {B mb : Nat} {v : Value} {O : List ByteArray} {β : Type} {V : β → Value} {f : Bs → Option β} (h : Kd.R Kd.string 9 w B (fun _ => True) v O) (hm : MapT w V mb f) (hg : w.grownBy w1 (some mb)) : Kd.R Kd.string 9 w1 B (fun _ => True) v O := by
  refine Kd.R_mono (Kd.R_move (Kd.R_bound h) (fun k hk => hg.block k hk.2.2.1 (fun he => ?_))) (fun _ _ => trivial)
  obtain ⟨_, _, _, q, hq, cells, hc⟩ := hk
  injection he with he
  exact hm.ne_cells hc he
theorem own_ne_map {w : World} {B mb : Nat} {v : Value} {O : List ByteArray} {β : Type} {V : β → Value} {f : Bs → Option β} (h : Kd.R Kd.string 9 w B (fun _ => True) v O) (hm : MapT w V mb f) : some mb ≠ v.ownBlock := by
  rcases (Kd.own_of_R h).2 with ⟨hv, _⟩ | ⟨g, cap, cur, hv, hg, hb, _⟩
  · rw [hv]
    simp [Value.ownBlock]
  · rw [hv]
    intro e
    injection e with e
    exact hm.ne_cells hb e.symm
theorem map_set {w : World} {mb g : Nat} {β : Type} {V : β → Value} {f : Bs → Option β} {t : TypeId} {cs : Array Value} (h : MapT w V mb f) (hg : w.heap[g]? = some (.cells cs t (0, 0))) (j : Nat) (v : Value) : MapT (w.setCell ⟨g, j, none⟩ v) V mb f :=
  h.step (Below.heap_setCell w ⟨g, j, none⟩ v mb (Ne.symm (h.ne_cells hg)))
theorem cells_map {w w1 : World} {mb q : Nat} {β : Type} {V : β → Value} {f : Bs → Option β} {t : TypeId} {cs : Array Value} (hq : w.heap[q]? = some (.cells cs t (0, 0))) (h : MapT w V mb f) (hg : w.grownBy w1 (some mb)) : w1.heap[q]? = some (.cells cs t (0, 0)) :=
  blk_grown hq hg (fun e => by injection e with e; exact h.ne_cells hq e)
end Go.Proofs.YtbgbmphjjdiaeaaDoor.P
/- foot.Labels: what its closure does to the labels so far. -/
namespace Go.Proofs.YtbgbmphjjdiaeaaDoor.P
open Go.RowKit Go.Maps Go.Proofs.YtbgbmphjjdiaeaaDoor.MF Go.Proofs.YtbgbmphjjdiaeaaDoorW.PrintWords Go.Proofs.YtbgbmphjjdiaeaaDoorW.PrintLast Go.Proofs.YtbgbmphjjdiaeaaDoorW.PrintMore
set_option linter.unusedVariables false
set_option linter.unusedSimpArgs false
def inF (O : List Bs) : Bs → Option Bool := fun x => if x ∈ O then some true else none
structure LabI (w0 : World) (mo oo mb : Nat) (O : List Bs) (W : World) : Prop where
  mc : W.heap[mo]? = some (.cells #[.map (some mb)] 91 (0, 0))
  oc : ∃ v, W.heap[oo]? = some (.cells #[v] 34 (0, 0)) ∧ Kd.R Kd.string 9 W w0.heap.size (fun _ => True) v (O.map txt)
  met : MapT W Value.bool mb (inF O)
  below : Below w0.heap.size w0 W
  lo1 : w0.heap.size ≤ mb
  lo2 : w0.heap.size ≤ oo
theorem LabI.step {w0 W W1 : World} {mo oo mb : Nat} {O : List Bs} (h : LabI w0 mo oo mb O W) (hb : Below W.heap.size W W1) : LabI w0 mo oo mb O W1 := by
  obtain ⟨v, h1, h2⟩ := h.oc
  exact ⟨blk_below h.mc hb, ⟨v, blk_below h1 hb, Kd.R_below h2 hb⟩, h.met.below' hb, below_then h.below h.below.size hb, h.lo1, h.lo2⟩
theorem zero4_ (w : World) : (zeroValue 4).run Tryd.prog w = .ok (.bool false) w := Tryd.zeroValue4 w
theorem inF_add (O : List Bs) (s : Bs) : (fun x => if x = s then some true else inF O x) = inF (O ++ [s]) := by
  funext x
  unfold inF
  by_cases h1 : x = s
  · simp [h1]
  · simp [h1]
theorem look91 {w0 W : World} {mo oo mb : Nat} {O : List Bs} (h : LabI w0 mo oo mb O W) (s : Bs) (hs : s.length ≤ 9223372036854775807) : (Instr.lookup 91 (.map (some mb)) (.string (txt s)) false).run Tryd.prog W = .ok (.bool (decide (s ∈ O))) W := by
  have := lookT Tryd.underlying91 vbool_inj (zero4_ W) h.met s hs false
  unfold encT at this
  rw [this]
  unfold inF
  by_cases hm : s ∈ O <;> simp [hm]
section
attribute [local go_sem] World.cell?_alloc_some
set_option maxRecDepth 100000 in
set_option maxHeartbeats 8000000 in
theorem lab77 {w0 W : World} {mo oo mb : Nat} {O : List Bs} (h : LabI w0 mo oo mb O W) (s : Bs) (hs : s.length ≤ 1099511627776) (hO : O.length ≤ 10000000) (b0 : Int) (b1 b2 : ByteArray) (b3 b4 : Int) (b5 : Bool) (b6 : Value) :
    Calls Tryd.prog 77 #[.string (txt s), .agg #[.int .i64 b0, .string b1, .string b2, .int .i64 b3, .int .i64 b4, .bool b5, b6], .pointer (some ⟨mo, 0, none⟩), .pointer (some ⟨oo, 0, none⟩)] W fun e w' =>
      e = .returned (.tuple #[]) ∧ LabI w0 mo oo mb (addO O s) w' ∧ Same24 W w' := by
  have hb1 : Below W.heap.size W (W.alloc (.cells #[.int .i64 b0, .string b1, .string b2, .int .i64 b3, .int .i64 b4, .bool b5, b6] 24)) := below_alloc (Below.refl _ _) _
  have h1 := h.step hb1
  have hs1 := Same24.below hb1
  obtain ⟨W1, eW⟩ : ∃ W1, W1 = W.alloc (.cells #[.int .i64 b0, .string b1, .string b2, .int .i64 b3, .int .i64 b4, .bool b5, b6] 24) := ⟨_, rfl⟩
  have hm1 : W.cell? ⟨mo, 0, none⟩ = some (.map (some mb)) := blk_cell h.mc 0
  rw [← eW] at h1 hs1
  have hlk := look91 h1 s (by omega)
  rw [eW] at hlk
  have HS1 := Aside0.mk hs1
  have HI1 := Aside0.mk h1
  by_cases hm : s ∈ O
  · rw [decide_eq_true hm] at hlk
    have HM := Aside0.mk hm
    have HEW := Aside0.mk eW
    clear hb1 hs1 h1 hm h hs hO eW
    generalize txt s = S at *
    go_enter Tryd.func77, Tryd.ntmps77
    go_wp2_with fail
    go_end0
    unfold addO
    rw [if_pos HM.out, ← HEW.out]
    exact ⟨rfl, HI1.out, HS1.out⟩
  · rw [decide_eq_false hm] at hlk
    obtain ⟨hu, hmet, hgr⟩ := updT Tryd.underlying91 vbool_inj h1.met s true (by omega)
    rw [inF_add] at hmet
    obtain ⟨v, o1, o2⟩ := h1.oc
    have o3 := cells_map o1 h1.met hgr
    have hrow := R_string_map o2 h1.met hgr
    have hne := own_ne_map o2 h1.met
    have hmc := cells_map h1.mc h1.met hgr
    have hbe : Below w0.heap.size w0 (updW 91 mb (encT s) (.bool true) W1) := h1.below.grown hgr h1.below.size (fun i hi => by injection hi with hi; rw [← hi]; exact h1.lo1)
    have hs2 : Same24 W1 (updW 91 mb (encT s) (.bool true) W1) := Same24.grown hgr (fun q cells hq e => by injection e with e; exact h1.met.ne_cells hq e)
    obtain ⟨w4, hw4⟩ : ∃ w4, w4 = updW 91 mb (encT s) (.bool true) W1 := ⟨_, rfl⟩
    unfold encT at hu
    rw [eW] at hu
    unfold encT at hw4 hmet hbe hs2 hrow o3 hmc
    rw [eW] at hw4
    rw [← hw4] at hu
    rw [eW, ← hw4] at hmet hbe hs2 hrow o3 hmc
    obtain ⟨OL, hOL⟩ : ∃ OL, OL = O.map txt := ⟨_, rfl⟩
    have hll : OL.length ≤ 10000000 := by rw [hOL, List.length_map]; exact hO
    have hmn : OL ++ [txt s] = (O ++ [s]).map txt := by rw [hOL]; simp
    rw [← hOL] at hrow
    obtain ⟨Ao, co, eo⟩ := Kd.R_slice hrow
    subst eo
    have c0 : w4.cell? ⟨oo, 0, none⟩ = some (.slice Ao OL.length co) := blk_cell o3 0
    have HLL := Aside0.mk hll
    have HMN := Aside0.mk hmn
    have HME := Aside0.mk hmet
    have HRW := Aside0.mk hrow
    have HBE := Aside0.mk hbe
    have HS2 := Aside0.mk hs2
    have HO3 := Aside0.mk o3
    have HMC := Aside0.mk hmc
    have HNM : Aside0 (s ∉ O) := ⟨hm⟩
    have HEW := Aside0.mk eW
    have HLO := Aside0.mk (And.intro h1.lo1 h1.lo2)
    clear hb1 hs1 h1 hm h hs hO hmet hgr o1 o2 o3 hrow hne hmc hbe hs2 hw4 hOL hll hmn HI1 eW
    generalize txt s = S at *
    go_enter Tryd.func77, Tryd.ntmps77
    go_wp2_with (first | ((with_reducible refine gate_builtin (b := .append) (xs := #[.tmp 12, .tmp 14]) rfl ?_); at_builtin; refine Kd.R_append Kd.string (w0 := w0) w0.heap.size rfl (.tmp 12) (.tmp 14) 34 9 (.string ⟨#[]⟩) 16 rfl Tryd.underlying34 info9 rfl (by decide) (by omega) (.slice Ao OL.length co) OL S [.string S] (fun _ => True) (fun _ => False) rfl rfl ?aP (fun _ hk => hk.elim) ?aF ?aO ?aB ?aS ?aL ?_; (case aP => exact rfl); (case aB => exact HBE.out); (case aF => exact (fun _ _ => trivial)); (case aO => exact HRW.out); (case aS => exact HBE.out.size); (case aL => have := HLL.out; omega); intro v5 w5 ho hb hg hat; obtain ⟨A5, c5, e5⟩ := Kd.R_slice ho; rw [show (OL ++ [S]).length = OL.length + 1 from by simp] at e5; subst e5; have o5 := blk_grown HO3.out hg (Kd.R_ne HRW.out HO3.out (by decide)); have d1 : w5.cell? ⟨oo, 0, none⟩ = some (.slice Ao OL.length co) := blk_cell o5 0; have d2 := blk_frozen o5 0; have HO5 := Aside0.mk o5; have HR5 := Aside0.mk ho; have HB5 := Aside0.mk hb; have HM5 := Aside0.mk (HME.out.grown hg (own_ne_map HRW.out HME.out)); have HC5 := Aside0.mk (blk_grown HMC.out hg (Kd.R_ne HRW.out HMC.out (by decide))); have HS5 := Aside0.mk (Same24.grown hg (fun q cells hq => Kd.R_ne HRW.out hq (by decide))); clear ho hb hg hat o5))
    go_end0
    have hset := blk_put HO5.out 0 (.slice A5 (OL.length + 1) c5) (cs' := #[.slice A5 (OL.length + 1) c5]) (by simp)
    refine ⟨rfl, ?_, ?_⟩
    · unfold addO
      rw [if_neg HNM.out]
      refine ⟨blk_far HC5.out (p := ⟨oo, 0, none⟩) (blk_ne HC5.out HO5.out (by decide)) _, ⟨_, hset, ?_⟩, map_set HM5.out HO5.out 0 _, HB5.out.setCell HLO.out.2 _, HLO.out.1, HLO.out.2⟩
      rw [← HMN.out]
      exact Kd.R_set HR5.out HO5.out (by decide) 0 _
    · have h2 := HS2.out
      rw [← HEW.out] at h2
      exact (HS1.out.trans (h2.trans HS5.out)).trans (Same24.set HO5.out (by decide) 0 _)
end
theorem tell77 {w0 w2 : World} {mo oo mb : Nat} {O : List Bs} (h : LabI w0 mo oo mb O w2) {s : Bs} (hs : s.length ≤ 1099511627776) {y : S24} {A6 : Option Addr} {c6 n6 : Nat} (hn : n6 = y.f6.length) (hl : n6 ≤ c6) (hC : Kd.C k24 w0 A6 n6 y.f6) (hO : O.length ≤ 10000000) :
    Calls Tryd.prog 77 #[.string (txt s), .agg #[.int .i64 y.f0, .string y.f1, .string y.f2, .int .i64 y.f3, .int .i64 y.f4, .bool y.f5, .slice A6 n6 c6], .pointer (some ⟨mo, 0, none⟩), .pointer (some ⟨oo, 0, none⟩)] w2 fun e w' =>
      e = .returned (.tuple #[]) ∧ LabI w0 mo oo mb (labF O [(s, y)]) w' ∧ Same24 w2 w' := lab77 h s hs hO _ _ _ _ _ _ _
theorem box7 {w : World} {gb : Nat} {x0 : Int} {x1 x2 : ByteArray} {x3 x4 : Int} {x5 : Bool} {v6 : Value} (h : w.heap[gb]? = some (.cells #[.int .i64 x0, .string x1, .string x2, .int .i64 x3, .int .i64 x4, .bool x5, v6] 24 (0, 0))) :
    w.cell? ⟨gb, 0, none⟩ = some (.int .i64 x0) ∧ w.cell? ⟨gb, 1, none⟩ = some (.string x1) ∧ w.cell? ⟨gb, 2, none⟩ = some (.string x2) ∧ w.cell? ⟨gb, 3, none⟩ = some (.int .i64 x3) ∧ w.cell? ⟨gb, 4, none⟩ = some (.int .i64 x4) ∧ w.cell? ⟨gb, 5, none⟩ = some (.bool x5) ∧ w.cell? ⟨gb, 6, none⟩ = some v6 :=
  ⟨blk_cell h 0, blk_cell h 1, blk_cell h 2, blk_cell h 3, blk_cell h 4, blk_cell h 5, blk_cell h 6⟩
theorem ga_take {l : List S24} {k : Nat} (h : k < l.length) : gaL (l.take (k + 1)) = gaL (l.take k) ++ gaT (rd_T24 l (k : Int)) := by
  rw [take_rd h, gaL_app, gaL, gaL, List.append_nil]
theorem wt_take {l : List S24} {k : Nat} (h : k < l.length) : wtL (l.take k) + wtT (rd_T24 l (k : Int)) ≤ wtL l := by
  have h1 := wtL_app (l.take (k + 1)) (l.drop (k + 1))
  rw [List.take_append_drop, take_rd h, wtL_app] at h1
  simp only [wtL] at h1
  omega
end Go.Proofs.YtbgbmphjjdiaeaaDoor.P
