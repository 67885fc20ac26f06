/- A slice of pairs of numbers ([][2]int) that comes in is opened. -/
import Derived.Test.YtikfbipjlkhgeaaAbove
import Derived.Deep.Slices
import Derived.ProofKit
import Derived.OpenShut
import Derived.ChangeOld
import Derived.Below
import Derived.SizedLaws
namespace Go.Proofs.Ytikfbipjlkhgeaa.P
open Go.ChangeShapes Go.WideShapes Go.Deep Go.RowKit Go.Proofs.YtikfbipjlkhgeaaW.PrintWords
set_option linter.unusedVariables false
theorem open_pairs {H : Type} {enc : TypeId × Value → H} {W : World} {a : Option Addr} {len cap : Nat} {d : DataW H} {p : List MemPlace}
    (h : DataW.Trod enc Try.prog W 0 (fun _ => true) true 35 (.slice a len cap) d p) : ∃ l : List (Int × Int), l.length = len ∧ len ≤ cap ∧ Kd.C kp W a len l := by
  obtain ⟨fuel, hf⟩ := h
  rcases open_slice (e := 38) Try.underlying35 hf with ⟨hcs, _⟩ | ⟨ad, l, c, m, n, D, Pl, hcs, _, hl, hm, hmm, _, hi⟩
  · simp [Value.cells] at hcs
    obtain ⟨rfl, rfl, rfl⟩ := hcs
    exact ⟨[], rfl, Nat.le_refl _, Kd.C_nil _ _⟩
  · simp [Value.cells] at hcs
    obtain ⟨rfl, rfl, rfl⟩ := hcs
    rw [if_pos rfl] at hmm
    subst hmm
    have hone : ∀ i, ∃ x : Int × Int, i < len → (∃ cs', kp.K W x cs' ∧ cs'.length = 2 ∧ (∀ j u, cs'[j]? = some u → W.cell? (ad.add (i * 2 + j)) = some u)) := by
      intro i
      by_cases hlt : i < len
      · obtain ⟨cs, hc, ht⟩ := hi i (by omega)
        have h2 : Try.prog.cellsOf 38 = 2 := by kernel_rfl
        have h1 : Try.prog.cellsOf 3 = 1 := by kernel_rfl
        rw [h2] at hc
        obtain ⟨xs, n', hfu, hx, hlen, hxl, hfld⟩ := DataW.trod_array Try.underlying38 ht
        obtain ⟨_, hcl, hat⟩ := World.cells?_some hc
        rw [h2] at hlen
        rw [h1] at hfld
        match cs, hlen with
        | [c0, c1], _ =>
          have g0 := hfld 0 (by omega)
          have g1 := hfld 1 (by omega)
          obtain ⟨y0, e0⟩ : ∃ y, xs[0]? = some y := ⟨_, List.getElem?_eq_getElem (by omega)⟩
          obtain ⟨y1, e1⟩ : ∃ y, xs[1]? = some y := ⟨_, List.getElem?_eq_getElem (by omega)⟩
          rw [e0] at g0
          rw [e1] at g1
          obtain ⟨x0, q0, _, _⟩ := DataW.trod_int (k := .i64) Try.underlying3 g0
          obtain ⟨x1, q1, _, _⟩ := DataW.trod_int (k := .i64) Try.underlying3 g1
          have q0' : c0 = .int .i64 x0 := (List.cons.inj q0).1
          have q1' : c1 = .int .i64 x1 := (List.cons.inj q1).1
          subst q0' q1'
          refine ⟨(x0, x1), fun _ => ⟨_, ⟨[.int .i64 x0], [.int .i64 x1], rfl, rfl, rfl⟩, rfl, fun j u hj => ?_⟩⟩
          have hjl : j < 2 := (List.getElem?_eq_some_iff.1 hj).1
          rw [← Go.Deep.add_add]
          exact (hat j hjl).trans hj
      · exact ⟨(0, 0), fun h => absurd h hlt⟩
    obtain ⟨f, hfn⟩ := Classical.axiomOfChoice hone
    have hll : ((List.range len).map f).length = len := by simp
    have hml : maxLen = 9223372036854775807 := by decide
    refine ⟨(List.range len).map f, hll, hl, hll, by omega, fun _ => ⟨ad, rfl, fun j x hx => ?_⟩⟩
    have hj : j < len := by
      have := (List.getElem?_eq_some_iff.1 hx).1
      rw [hll] at this
      exact this
    rw [List.getElem?_map, List.getElem?_range hj] at hx
    obtain rfl := Option.some.inj hx
    obtain ⟨cs', h1, h2, h3⟩ := hfn j hj
    exact ⟨cs', h2, h1, h3⟩
end Go.Proofs.Ytikfbipjlkhgeaa.P
