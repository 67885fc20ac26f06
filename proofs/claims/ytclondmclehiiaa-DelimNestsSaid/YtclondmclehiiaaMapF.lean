/- Laws for a map that the call has made, told as a function from keys to optional values: made, kept, looked up, stored into. -/
import Derived.Maps.Keyed
import Derived.Maps.Own
import Derived.Below
import Derived.Laws.AppendOwn
import Derived.WalkKit
set_option linter.unusedVariables false
set_option linter.unusedSimpArgs false
namespace Go.Proofs.Ytclondmclehiiaa.M
open Go Go.RowKit Go.Maps Go.ChangeMaps

/-- Block b is a map whose keys are enc a, each once, whose values are V v; f tells it. -/
def MapF {α β : Type} (w : World) (P : Program) (k : TypeId) (enc : α → Value) (V : β → Value) (b : Nat) (f : α → Option β) : Prop :=
  ∃ es clock, w.heap[b]? = some (.map es clock) ∧ (∀ e ∈ es.toList, ∃ a v, e.key = enc a ∧ e.val = V v ∧ f a = some v ∧ ∃ l, keyOf P k (enc a) = some l) ∧
    (∀ a v, f a = some v → ∃ e ∈ es.toList, e.key = enc a) ∧ (es.toList.map (·.key)).Nodup

section
variable {α β : Type} {w w1 : World} {P : Program} {k e t : TypeId} {enc : α → Value} {V : β → Value} {b : Nat} {f : α → Option β}

theorem MapF.made (w : World) (P : Program) (k : TypeId) (enc : α → Value) (V : β → Value) : MapF (w.alloc (.map #[] 0)) P k enc V w.heap.size (fun _ => none) :=
  ⟨#[], 0, (Go.MapKept.heap_alloc w _).1, by simp, by simp, by simp⟩
theorem MapF.lt (h : MapF w P k enc V b f) : b < w.heap.size := by
  obtain ⟨es, clock, hb, _⟩ := h
  exact (Array.getElem?_eq_some_iff.1 hb).1
theorem MapF.step (h : MapF w P k enc V b f) (hm : w1.heap[b]? = w.heap[b]?) : MapF w1 P k enc V b f := by
  obtain ⟨es, clock, hb, r⟩ := h
  exact ⟨es, clock, hm.trans hb, r⟩
theorem MapF.below {B : Nat} (h : MapF w P k enc V b f) (hb : Below B w w1) (hlt : b < B) : MapF w1 P k enc V b f := h.step (hb.block b hlt)
theorem MapF.below' (h : MapF w P k enc V b f) (hb : Below w.heap.size w w1) : MapF w1 P k enc V b f := h.step (hb.block b h.lt)
theorem MapF.grown {row : Option Nat} (h : MapF w P k enc V b f) (hg : w.grownBy w1 row) (hne : some b ≠ row) : MapF w1 P k enc V b f := h.step (hg.block b h.lt hne)
/-- It is no block of cells. -/
theorem MapF.ne_cells (h : MapF w P k enc V b f) {g : Nat} {cs : Array Value} {q : TypeId} {fr : Nat × Nat} (hg : w.heap[g]? = some (.cells cs q fr)) : g ≠ b := by
  rintro rfl
  obtain ⟨es, clock, hb, _⟩ := h
  rw [hb] at hg
  cases hg

theorem MapF.found (K : Keyed P k) (henc : ∀ a a', enc a = enc a' → a = a') (hV : ∀ v v', V v = V v' → v = v') (h : MapF w P k enc V b f) (a : α) (hkey : ∃ l, keyOf P k (enc a) = some l) :
    ∃ es clock, w.heap[b]? = some (.map es clock) ∧ ((f a = none ∧ (Instr.findKey k (enc a) es.toList).run P w = .ok none w) ∨
      ∃ v j x, f a = some v ∧ (Instr.findKey k (enc a) es.toList).run P w = .ok (some (j, V v)) w ∧ es.toList[j]? = some x ∧ x.key = enc a) := by
  obtain ⟨es, clock, hb, h1, h2, h3⟩ := h
  obtain ⟨l, hl⟩ := hkey
  refine ⟨es, clock, hb, ?_⟩
  rcases K.find w hl es.toList (fun x hx => by
    obtain ⟨a', v', hk, _, _, l', hl'⟩ := h1 x hx
    exact ⟨l', by rw [hk]; exact hl'⟩) with ⟨hr, hn⟩ | ⟨j, x, hr, hj, hk⟩
  · refine .inl ⟨?_, hr⟩
    cases hf : f a with
    | none => rfl
    | some v =>
      obtain ⟨x, hx, hk⟩ := h2 a v hf
      exact absurd hk (hn x hx)
  · obtain ⟨a', v', hk', hv', hf', _⟩ := h1 x (List.mem_of_getElem? hj)
    obtain rfl : a = a' := henc _ _ (hk.symm.trans hk')
    exact .inr ⟨v', j, x, hf', by rw [← hv']; exact hr, hj, hk⟩

theorem MapF.look (K : Keyed P k) (ht : P.underlying t = some (.map k e)) (henc : ∀ a a', enc a = enc a' → a = a') (hV : ∀ v v', V v = V v' → v = v') {z : Value} (hz : (zeroValue e).run P w = .ok z w)
    (h : MapF w P k enc V b f) (a : α) (hkey : ∃ l, keyOf P k (enc a) = some l) (c : Bool) :
    (Instr.lookup t (.map (some b)) (enc a) c).run P w = .ok (if c then .tuple #[((f a).map V).getD z, .bool (f a).isSome] else ((f a).map V).getD z) w := by
  obtain ⟨l, hl⟩ := hkey
  obtain ⟨es, clock, hb, hr⟩ := h.found K henc hV a ⟨l, hl⟩
  have hget := Go.MapKept.run_getObj_map (P := P) hb
  have hck := K.check w es.isEmpty hl
  rcases hr with ⟨hf, hr⟩ | ⟨v, j, x, hf, hr, _, _⟩
  · simp [Instr.lookup, run_underlying ht, hget, hck, hr, hz, hf]
  · simp [Instr.lookup, run_underlying ht, hget, hck, hr, hf]

theorem MapF.store [DecidableEq α] (K : Keyed P k) (ht : P.underlying t = some (.map k e)) (henc : ∀ a a', enc a = enc a' → a = a') (hV : ∀ v v', V v = V v' → v = v')
    (h : MapF w P k enc V b f) (a : α) (v : β) (hkey : ∃ l, keyOf P k (enc a) = some l) :
    ∃ w1, (Instr.mapUpdate t (.map (some b)) (enc a) (V v)).run P w = .ok () w1 ∧ MapF w1 P k enc V b (fun x => if x = a then some v else f x) ∧ w.grownBy w1 (some b) := by
  obtain ⟨l, hl⟩ := hkey
  have hF := h
  obtain ⟨es0, clock0, hb0, h1, h2, h3⟩ := h
  obtain ⟨es, clock, hb, hr⟩ := hF.found K henc hV a ⟨l, hl⟩
  rw [hb0] at hb
  injection hb with hb
  injection hb with he hc
  subst he
  subst hc
  have hlt : b < w.heap.size := hF.lt
  have hget := Go.MapKept.run_getObj_map (P := P) hb0
  have hck := K.check w false hl
  have hset : ∀ o : Obj, w.grownBy (setBlock w b o) (some b) := fun o =>
    ⟨rfl, rfl, rfl, by simp [setBlock], fun i hi hne => by
      have : i ≠ b := fun e => hne (by rw [e])
      simp [setBlock, Array.getElem?_setIfInBounds, Ne.symm this]⟩
  have hat : ∀ o : Obj, (setBlock w b o).heap[b]? = some o := fun o => by simp [setBlock, hlt]
  rcases hr with ⟨hf, hr⟩ | ⟨v0, j, x, hf, hr, hj, hk⟩
  · refine ⟨setBlock w b (.map (es0.push ⟨enc a, V v, clock0⟩) (clock0 + 1)), ?_, ⟨_, _, hat _, ?_, ?_, ?_⟩, hset _⟩
    · simp [Instr.mapUpdate, run_underlying ht, hget, hck, hr, Go.MapKept.run_setObj_map _ hb0, Result.andThen, setBlock]
    · intro y hy
      simp only [Array.toList_push, List.mem_append, List.mem_singleton] at hy
      rcases hy with hy | rfl
      · obtain ⟨a', v', hk', hv', hf', hl'⟩ := h1 y hy
        refine ⟨a', v', hk', hv', ?_, hl'⟩
        show (if a' = a then some v else f a') = some v'
        rw [if_neg (fun (h : a' = a) => by subst h; rw [hf] at hf'; cases hf')]
        exact hf'
      · exact ⟨a, v, rfl, rfl, if_pos rfl, l, hl⟩
    · intro a' v' hf'
      simp only [Array.toList_push, List.mem_append, List.mem_singleton]
      by_cases he : a' = a
      · exact ⟨_, .inr rfl, by rw [he]⟩
      · have hf2 : f a' = some v' := by have h9 : (if a' = a then some v else f a') = some v' := hf'; rwa [if_neg he] at h9
        obtain ⟨y, hy, hk'⟩ := h2 a' v' hf2
        exact ⟨y, .inl hy, hk'⟩
    · simp only [Array.toList_push, List.map_append, List.map_cons, List.map_nil]
      rw [List.nodup_append]
      refine ⟨h3, by simp, ?_⟩
      intro x hx y hy
      simp only [List.mem_singleton] at hy
      subst hy
      rintro rfl
      obtain ⟨y, hy, hk'⟩ := List.mem_map.1 hx
      obtain ⟨a', v', hk2, _, hf', _⟩ := h1 y hy
      have : a' = a := henc _ _ (hk2.symm.trans hk')
      subst this
      rw [hf] at hf'
      cases hf'
  · have hjl : j < es0.size := by
      have := (List.getElem?_eq_some_iff.1 hj).1
      simpa using this
    have hxj : es0[j]? = some x := by simpa [Array.getElem?_toList] using hj
    refine ⟨setBlock w b (.map (es0.modify j fun y => { y with key := enc a, val := V v }) clock0), ?_, ⟨_, _, hat _, ?_, ?_, ?_⟩, hset _⟩
    · simp [Instr.mapUpdate, run_underlying ht, hget, hck, hr, hxj, hk, K.stays w hl, Go.MapKept.run_setObj_map _ hb0, Result.andThen, setBlock]
    · intro y hy
      rw [Array.toList_modify] at hy
      obtain ⟨i, hi⟩ := List.mem_iff_getElem?.1 hy
      rw [List.getElem?_modify] at hi
      obtain ⟨y0, hy0, rfl⟩ := Option.map_eq_some_iff.1 hi
      by_cases hij : j = i
      · simp only [hij, if_true]
        exact ⟨a, v, rfl, rfl, if_pos rfl, l, hl⟩
      · simp only [hij, if_false, id]
        obtain ⟨a', v', hk', hv', hf', hl'⟩ := h1 y0 (List.mem_of_getElem? hy0)
        refine ⟨a', v', hk', hv', ?_, hl'⟩
        have hne : a' ≠ a := by
          rintro rfl
          have hnd : ∀ p q, p < q → q < (es0.toList.map (·.key)).length → (es0.toList.map (·.key))[p]? ≠ (es0.toList.map (·.key))[q]? := fun p q hpq hq he => by
            have h10 := List.pairwise_iff_getElem.1 h3 p q (by omega) hq hpq
            rw [List.getElem?_eq_getElem (by omega), List.getElem?_eq_getElem hq] at he
            exact h10 (Option.some.inj he)
          have e1 : (es0.toList.map (·.key))[j]? = some (enc a') := by rw [List.getElem?_map, hj]; simp [hk]
          have e2 : (es0.toList.map (·.key))[i]? = some (enc a') := by rw [List.getElem?_map, hy0]; simp [hk']
          rcases Nat.lt_or_gt_of_ne hij with hlt' | hgt
          · exact hnd j i hlt' (List.getElem?_eq_some_iff.1 e2).1 (e1.trans e2.symm)
          · exact hnd i j hgt (List.getElem?_eq_some_iff.1 e1).1 (e2.trans e1.symm)
        show (if a' = a then some v else f a') = some v'
        rw [if_neg hne]
        exact hf'
    · intro a' v' hf'
      have h9 : (if a' = a then some v else f a') = some v' := hf'
      have hm : ∀ y0 ∈ es0.toList, ∃ y ∈ (es0.modify j fun y => { y with key := enc a, val := V v }).toList, y.key = y0.key := by
        intro y0 hy0
        obtain ⟨i, hi⟩ := List.mem_iff_getElem?.1 hy0
        refine ⟨(if j = i then (fun y : MapEntry => { y with key := enc a, val := V v }) else id) y0, ?_, ?_⟩
        · rw [Array.toList_modify]
          refine List.mem_of_getElem? (i := i) ?_
          rw [List.getElem?_modify, hi]
          by_cases hij : j = i <;> simp [hij]
        · by_cases hij : j = i
          · subst hij
            rw [hj] at hi
            cases hi
            simp [hk]
          · simp [hij]
      by_cases he : a' = a
      · obtain ⟨y, hy, hky⟩ := hm x (List.mem_of_getElem? hj)
        exact ⟨y, hy, by rw [hky, hk, he]⟩
      · rw [if_neg he] at h9
        obtain ⟨y0, hy0, hk0⟩ := h2 a' v' h9
        obtain ⟨y, hy, hky⟩ := hm y0 hy0
        exact ⟨y, hy, hky.trans hk0⟩
    · have he : (es0.modify j fun y => { y with key := enc a, val := V v }).toList.map (·.key) = es0.toList.map (·.key) := by
        apply List.ext_getElem?
        intro i
        rw [List.getElem?_map, List.getElem?_map, Array.toList_modify, List.getElem?_modify]
        by_cases hij : j = i
        · subst hij
          rw [hj]
          simp [hk]
        · simp [hij]
      rw [he]
      exact h3
end
end Go.Proofs.Ytclondmclehiiaa.M
