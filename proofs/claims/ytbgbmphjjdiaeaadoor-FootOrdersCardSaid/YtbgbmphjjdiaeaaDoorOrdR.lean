/- Rows made by literals; for law18's FootOrders. -/
import Derived.Test.YtbgbmphjjdiaeaaDoorPk0
import Derived.Deep.RegionHeldLaw
namespace Go.Proofs.YtbgbmphjjdiaeaaDoor.P
open Go.RowKit Go.Proofs.YtbgbmphjjdiaeaaDoorW.PrintWords Go.Proofs.YtbgbmphjjdiaeaaDoorW.PrintLast Go.Proofs.YtbgbmphjjdiaeaaDoorW.PrintMore
set_option linter.unusedVariables false
theorem cell_lt24 {w : World} {a : Addr} {v : Value} (h : w.cell? a = some v) : a.block < w.heap.size := by
  by_cases hlt : a.block < w.heap.size
  · exact hlt
  · have hn : w.heap[a.block]? = none := by simp; omega
    simp [World.cell?, hn] at h
theorem N_lit0 (W : World) {base : Nat} {ok : Nat → Prop} (hfresh : ok W.heap.size) (hbase : base ≤ W.heap.size) : Kd.N k24 24 (W.alloc (.cells #[] 24)) base ok (.slice (some ⟨W.heap.size, 0, none⟩) 0 0) ([] : List S24) := by
  refine ⟨fun k hk => ?_, [], rfl, ⟨fun k hk => hk.symm, [], ?_, ?_⟩, fun j x c hx _ => by simp at hx⟩
  · have : W.heap.size = k := by simpa [Value.ownBlock] using hk
    subst this
    exact hfresh
  · have h2 := World.ownsRow_lit (base := base) (e := 24) (size := 7) W #[] 0 hbase (by decide) rfl
    exact h2
  · exact ⟨rfl, fun j p hj => by simp at hj⟩
theorem N_lit1 (W : World) {base : Nat} {ok okp : Nat → Prop} {p : S24} {cs : List Value} (hp : Kd.FK k24 W okp p cs) (hok : ∀ k, okp k → ok k) (hfresh : ok W.heap.size) (hbase : base ≤ W.heap.size) : Kd.N k24 24 (W.alloc (.cells cs.toArray 24)) base ok (.slice (some ⟨W.heap.size, 0, none⟩) 1 1) [p] := by
  have hl : cs.length = 7 := k24.K_len (Kd.FK_now hp)
  refine Kd.N_made (d := k24) (W := W) (okp := okp) (rows := [cs]) (xs := [p]) ⟨fun k hk => ?_, cs, ?_, ?_⟩ (World.grownBy_alloc W _ none) ⟨W.heap.size, by simp [Value.ownBlock], Nat.le_refl _⟩ rfl (fun j x c hx hc => ?_) hok hfresh
  · have : W.heap.size = k := by simpa [Value.ownBlock] using hk
    exact this.symm
  · have h2 := World.ownsRow_lit (base := base) (e := 24) (size := 7) W cs.toArray 1 hbase (by decide) (by simpa using hl)
    exact h2
  · refine ⟨by show cs.length = 1 * 7; omega, fun j q hj => ?_⟩
    rcases j with _ | j
    · simp only [List.getElem?_cons_zero, Option.some.injEq] at hj
      rw [← hj]
      have e : (cs.drop (0 * 7)).take 7 = cs := by rw [Nat.zero_mul, List.drop_zero, ← hl, List.take_length]
      show _ = _ ∧ _
      refine ⟨e, ?_, ?_⟩
      · show ((cs.drop (0 * 7)).take 7).length = 7
        rw [e]; exact hl
      · intro u hu
        rw [show ((cs.drop (0 * (Kd.raw k24.sz).sz)).take (Kd.raw k24.sz).sz) = cs from e] at hu
        exact k24.K_one (Kd.FK_now hp) u hu
    · simp at hj
  · rcases j with _ | j
    · simp only [List.getElem?_cons_zero, Option.some.injEq] at hx hc
      rw [← hx, ← hc]
      exact hp
    · simp at hx
theorem N_lit0b {W0 W : World} {g : Nat} {ok : Nat → Prop} (hb : Below W0.heap.size W0 W) (hf : ∀ k, W0.heap.size ≤ k → ok k) (hg : g = W.heap.size) : Kd.N k24 24 (W.alloc (.cells #[] 24)) W0.heap.size ok (.slice (some ⟨g, 0, none⟩) 0 0) ([] : List S24) := by
  subst hg
  exact N_lit0 W (hf _ (below_size hb)) (below_size hb)
theorem N_lit1b {W0 W : World} {g : Nat} {ok : Nat → Prop} {p : S24} {cs : List Value} (hb : Below W0.heap.size W0 W) (hp : Kd.FK k24 W0 (fun k => ok k ∧ k < W0.heap.size) p cs) (hf : ∀ k, W0.heap.size ≤ k → ok k) (u : Value) (hu : ∀ k, u.ownBlock = some k → W0.heap.size ≤ k ∧ k ≠ W.heap.size) (hg : g = W.heap.size) :
    Kd.N k24 24 (W.alloc (.cells cs.toArray 24)) W0.heap.size (fun k => ok k ∧ some k ≠ u.ownBlock) (.slice (some ⟨g, 0, none⟩) 1 1) [p] := by
  subst hg
  refine N_lit1 W (okp := fun k => ok k ∧ k < W0.heap.size) (Kd.FK_below hp hb) (fun k hk => ⟨hk.1, fun he => ?_⟩) ⟨hf _ (below_size hb), fun he => ?_⟩ (below_size hb)
  · have := (hu k he.symm).1
    have := hk.2
    omega
  · exact (hu _ he.symm).2 rfl
theorem huc {g B s : Nat} (h1 : B ≤ g) (h2 : g ≠ s) : ∀ k, (Value.slice (some ⟨g, 0, none⟩) 0 0).ownBlock = some k → B ≤ k ∧ k ≠ s := fun k hk => by
  have e : g = k := by simpa [Value.ownBlock] using hk
  subst e
  exact ⟨h1, h2⟩
theorem huv {w86 W : World} {B : Nat} {ok : Nat → Prop} {v : Value} {xs : List S24} (ho : Kd.N k24 24 w86 B ok v xs) (hs : w86.heap.size ≤ W.heap.size) : ∀ k, v.ownBlock = some k → B ≤ k ∧ k ≠ W.heap.size := fun k hk => by
  have h1 := Kd.N_base ho k hk
  have h2 := Kd.N_lt ho k hk
  exact ⟨h1, by omega⟩
theorem aK0 {B g : Nat} {P : Nat → Prop} (hg : B ≤ g) : ∀ k, (P k ∧ k < B) → P k ∧ some k ≠ (Value.slice (some ⟨g, 0, none⟩) 0 0).ownBlock := fun k hk => ⟨hk.1, fun he => by
  have e : k = g := by simpa [Value.ownBlock] using he
  have := hk.2
  omega⟩
theorem aF0 {B : Nat} {ok : Nat → Prop} {W : World} (hf : ∀ k, B ≤ k → ok k) (hs : B ≤ W.heap.size) : ∀ k, W.heap.size ≤ k → ok k := fun k hk => hf k (Nat.le_trans hs hk)
theorem aL1 {n : Nat} (h : n < 1599289640401) : (([] : List S24).length + n) * 88 ≤ 140737488355328 := by
  show (0 + n) * 88 ≤ _
  omega
theorem aL2 {xs : List S24} (h : xs.length < 1599289640401) : (([] ++ xs).length + 1) * 88 ≤ 140737488355328 := by
  show (xs.length + 1) * 88 ≤ _
  omega
end Go.Proofs.YtbgbmphjjdiaeaaDoor.P
