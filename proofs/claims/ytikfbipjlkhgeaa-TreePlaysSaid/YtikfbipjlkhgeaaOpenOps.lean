/- A slice of steps ([]Op) that comes in is opened: each one's cells. -/
import Derived.Test.YtikfbipjlkhgeaaOpenNode
namespace Go.Proofs.Ytikfbipjlkhgeaa.P
open Go.ChangeShapes Go.WideShapes Go.Deep Go.RowKit Go.Proofs.YtikfbipjlkhgeaaW.PrintWords
set_option linter.unusedVariables false
abbrev OpT := Int × Int × Int × S24
def opRow (o : OpT) (v6 : Value) : List Value := [.int .i64 o.1, .int .i64 o.2.1, .int .i64 o.2.2.1, .int .i64 o.2.2.2.f0, .string o.2.2.2.f1, .string o.2.2.2.f2, .int .i64 o.2.2.2.f3, .int .i64 o.2.2.2.f4, .bool o.2.2.2.f5, v6]
def oz : OpT := (0, 0, 0, z24)
structure OpsC (w : World) (A : Option Addr) (n : Nat) (l : List OpT) : Prop where
  len : l.length = n
  mx : n ≤ 9223372036854775807
  at_ : ∀ i, i < n → ∃ (ad : Addr) (A6 : Option Addr) (n6 c6 : Nat), A = some ad ∧ (∀ j u, (opRow (l.getD i oz) (.slice A6 n6 c6))[j]? = some u → w.cell? (ad.add (i * 10 + j)) = some u) ∧ (l.getD i oz).2.2.2.f1.size ≤ 140737488351232 ∧ (l.getD i oz).2.2.2.f2.size ≤ 140737488351232
theorem list10 {α : Type} (l : List α) (h : l.length = 10) : ∃ c0 c1 c2 c3 c4 c5 c6 c7 c8 c9, l = [c0, c1, c2, c3, c4, c5, c6, c7, c8, c9] :=
  match l, h with
  | [c0, c1, c2, c3, c4, c5, c6, c7, c8, c9], _ => ⟨c0, c1, c2, c3, c4, c5, c6, c7, c8, c9, rfl⟩
theorem open_ops {H : Type} {enc : TypeId × Value → H} {W : World} {a : Option Addr} {len cap : Nat} {d : DataW H} {p : List MemPlace} {ts : List TypeId} {ds : List (DataW H)} {j : Nat}
    (h : DataW.Trod enc Try.prog W 0 (fun _ => true) true 54 (.slice a len cap) d p) (hsz : (DataW.weightsEach Try.prog ts ds).all (· ≤ reachBytes) = true) (ht : ts[j]? = some 54) (hd : ds[j]? = some d) : ∃ l : List OpT, l.length = len ∧ len ≤ cap ∧ OpsC W a len l := by
  have hw : ∀ n ∈ d.weights Try.prog 54, n ≤ reachBytes := fun n hn => by
    have := List.all_eq_true.1 hsz n (DataW.weights_mem_each ht hd n hn)
    simpa using this
  obtain ⟨fuel, hf⟩ := h
  have h58 : Try.prog.cellsOf 58 = 10 := by kernel_rfl
  have h3 : Try.prog.cellsOf 3 = 1 := by kernel_rfl
  have h24 : Try.prog.cellsOf 24 = 7 := by kernel_rfl
  have hml : maxLen = 9223372036854775807 := by decide
  rcases DataW.trod_slice (e := 58) Try.underlying54 hf with ⟨hcs, _⟩ | ⟨ad, len', cap', elems, rest, n', hn, hcs, hy, _, hl, hm, hel, hat, _⟩
  · simp [Value.cells] at hcs
    obtain ⟨rfl, rfl, rfl⟩ := hcs
    exact ⟨[], rfl, Nat.le_refl _, ⟨rfl, by omega, fun i hi => absurd hi (by omega)⟩⟩
  · simp [Value.cells] at hcs
    obtain ⟨rfl, rfl, rfl⟩ := hcs
    have hd2 : d = .slice (elems.map (·.1)) (rest.map (·.1)) := congrArg Prod.fst hy
    have hwe : ∀ y ∈ elems, ∀ m ∈ y.1.weights Try.prog 58, m ≤ reachBytes := by
      intro y hy m hm
      refine hw m ?_
      rw [hd2]
      unfold DataW.weights
      rw [Try.underlying54]
      exact List.mem_cons_of_mem _ (List.mem_append_left _ (weights_all_mem (List.mem_map_of_mem hy) m hm))
    have hone : ∀ i, ∃ o : OpT, i < len → ∃ (A6 : Option Addr) (n6 c6 : Nat), (∀ j u, (opRow o (.slice A6 n6 c6))[j]? = some u → W.cell? (ad.add (i * 10 + j)) = some u) ∧ o.2.2.2.f1.size ≤ 140737488351232 ∧ o.2.2.2.f2.size ≤ 140737488351232 := by
      intro i
      by_cases hlt : i < len
      · have hi := hat i hlt
        rw [List.getElem?_eq_getElem (by omega), h58] at hi
        cases hc : W.cells? 0 (ad.add (i * 10)) 10 with
        | none => rw [hc] at hi; cases hi
        | some cs' =>
          rw [hc] at hi
          have hi : DataW.trod enc Try.prog W 0 (fun _ => true) true n' 58 cs' = some elems[i] := hi
          obtain ⟨_, hcl, hcat⟩ := World.cells?_some hc
          obtain ⟨xs, n, hfu, hx, hlen, hxl, hfld⟩ := DataW.trod_struct Try.underlying58 hi
          rw [h58] at hlen
          have hxl : xs.length = 4 := hxl
          have hwi : ∀ y : DataW H × List MemPlace, xs[3]? = some y → ∀ m ∈ y.1.weights Try.prog 24, m ≤ reachBytes := by
            intro y hy m hm
            refine hwe elems[i] (List.getElem_mem _) m ?_
            rw [hx]
            show m ∈ (DataW.agg (xs.map (·.1))).weights Try.prog 58
            unfold DataW.weights
            rw [Try.underlying58]
            exact DataW.weights_mem_each (j := 3) (d := y.1) rfl (by rw [List.getElem?_map, hy]; rfl) m hm
          obtain ⟨c0, c1, c2, c3, c4, c5, c6, c7, c8, c9, rfl⟩ := list10 cs' hlen
          · skip
            have g0 := hfld 0 _ rfl
            have g1 := hfld 1 _ rfl
            have g2 := hfld 2 _ rfl
            have g3 := hfld 3 _ rfl
            obtain ⟨y0, e0⟩ : ∃ y, xs[0]? = some y := ⟨_, List.getElem?_eq_getElem (by omega)⟩
            obtain ⟨y1, e1⟩ : ∃ y, xs[1]? = some y := ⟨_, List.getElem?_eq_getElem (by omega)⟩
            obtain ⟨y2, e2⟩ : ∃ y, xs[2]? = some y := ⟨_, List.getElem?_eq_getElem (by omega)⟩
            obtain ⟨y3, e3⟩ : ∃ y, xs[3]? = some y := ⟨_, List.getElem?_eq_getElem (by omega)⟩
            rw [e0] at g0
            rw [e1] at g1
            rw [e2] at g2
            rw [e3] at g3
            obtain ⟨x0, q0, _, _⟩ := DataW.trod_int (k := .i64) Try.underlying3 g0
            obtain ⟨x1, q1, _, _⟩ := DataW.trod_int (k := .i64) Try.underlying3 g1
            obtain ⟨x2, q2, _, _⟩ := DataW.trod_int (k := .i64) Try.underlying3 g2
            have q0' : c0 = .int .i64 x0 := (List.cons.inj q0).1
            have q1' : c1 = .int .i64 x1 := (List.cons.inj q1).1
            have q2' : c2 = .int .i64 x2 := (List.cons.inj q2).1
            obtain ⟨t, A6, c6', ht7, _, _, hok⟩ := open_node_cells n _ _ g3 (hwi y3 e3)
            have ht7 : [c3, c4, c5, c6, c7, c8, c9] = [.int .i64 t.f0, .string t.f1, .string t.f2, .int .i64 t.f3, .int .i64 t.f4, .bool t.f5, .slice A6 t.f6.length c6'] := ht7
            simp only [List.cons.injEq, and_true] at ht7
            obtain ⟨r0, r1, r2, r3, r4, r5, r6⟩ := ht7
            subst q0' q1' q2' r0 r1 r2 r3 r4 r5 r6
            obtain ⟨t0, t1, t2, t3, t4, t5, t6⟩ := t
            unfold okT at hok
            refine ⟨(x0, x1, x2, ⟨t0, t1, t2, t3, t4, t5, t6⟩), fun _ => ⟨A6, t6.length, c6', fun j u hj => ?_, hok.2.1, hok.2.2.1⟩⟩
            have hjl : j < 10 := (List.getElem?_eq_some_iff.1 hj).1
            rw [← Go.Deep.add_add]
            exact (hcat j hjl).trans hj
      · exact ⟨oz, fun h => absurd h hlt⟩
    obtain ⟨f, hfn⟩ := Classical.axiomOfChoice hone
    have hll : ((List.range len).map f).length = len := by simp
    refine ⟨(List.range len).map f, hll, hl, ⟨hll, by omega, fun i hi => ?_⟩⟩
    have e : ((List.range len).map f).getD i oz = f i := by
      rw [List.getD_eq_getElem?_getD, List.getElem?_map, List.getElem?_range hi]
      rfl
    rw [e]
    obtain ⟨A6, n6, c6, h1, h2⟩ := hfn i hi
    exact ⟨ad, A6, n6, c6, rfl, h1, h2⟩
end Go.Proofs.Ytikfbipjlkhgeaa.P
