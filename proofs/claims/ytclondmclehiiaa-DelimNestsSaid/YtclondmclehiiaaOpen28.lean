/- A slice of runs that comes in is opened: a list of runs whose letters are bytes; and no length beyond its capacity. -/
import Derived.Test.YtclondmclehiiaaPk0
import Derived.Deep.Slices
import Derived.WalkKit
import Derived.ProofKit
import Derived.OpenShut
import Derived.ChangeOld
import Derived.Below
import Derived.SizedLaws
namespace Go.Proofs.Ytclondmclehiiaa.P
open Go.ChangeShapes Go.WideShapes Go.Deep Go.RowKit Go.Proofs.YtclondmclehiiaaW.PrintWords
set_option linter.unusedVariables false

def RunsIn (W : World) (a : Option Addr) (len cap : Nat) (l : List S28) : Prop :=
  l.length = len ∧ len ≤ cap ∧ Kd.C k28 W a len l ∧ ∀ x ∈ l, (0 ≤ x.f0 ∧ x.f0 ≤ 255) ∧ (Lit.int .i64 x.f1).wf = true

theorem open_runs {H : Type} {enc : TypeId × Value → H} {W : World} {a : Option Addr} {len cap : Nat} {d : DataW H} {p : List MemPlace}
    (h : DataW.Trod enc Try.prog W 0 (fun _ => true) true 26 (.slice a len cap) d p) : ∃ l, RunsIn W a len cap l := by
  obtain ⟨fuel, hf⟩ := h
  rcases open_slice (e := 28) Try.underlying26 hf with ⟨hcs, _⟩ | ⟨ad, l, c, m, n, D, Pl, hcs, _, hl, hm, hmm, _, hi⟩
  · simp [Value.cells] at hcs
    obtain ⟨rfl, rfl, rfl⟩ := hcs
    exact ⟨[], rfl, Nat.le_refl _, ⟨rfl, by omega, fun h => absurd h (by decide)⟩, fun x hx => by cases hx⟩
  · simp [Value.cells] at hcs
    obtain ⟨rfl, rfl, rfl⟩ := hcs
    rw [if_pos rfl] at hmm
    subst hmm
    have hone : ∀ i, ∃ x : S28, i < len → (k28.K W x [.int .u8 x.f0, .int .i64 x.f1, .bool x.f2, .bool x.f3] ∧ (∀ j u, [Value.int .u8 x.f0, .int .i64 x.f1, .bool x.f2, .bool x.f3][j]? = some u → W.cell? (ad.add (i * 4 + j)) = some u) ∧ (0 ≤ x.f0 ∧ x.f0 ≤ 255) ∧ (Lit.int .i64 x.f1).wf = true) := by
      intro i
      by_cases hlt : i < len
      · obtain ⟨cs, hc, ht⟩ := hi i (by omega)
        have h4 : Try.prog.cellsOf 28 = 4 := by kernel_rfl
        rw [h4] at hc
        obtain ⟨xs, n', _, _, hlen, hxl, hfld⟩ := DataW.trod_struct Try.underlying28 ht
        obtain ⟨_, hcl, hat⟩ := World.cells?_some hc
        rw [h4] at hlen
        have hxl : xs.length = 4 := hxl
        match cs, hlen with
        | [c0, c1, c2, c3], _ =>
          have g0 := hfld 0 _ rfl
          have g1 := hfld 1 _ rfl
          have g2 := hfld 2 _ rfl
          have g3 := hfld 3 _ rfl
          have e0 : ∃ y, xs[0]? = some y := ⟨_, List.getElem?_eq_getElem (by omega)⟩
          have e1 : ∃ y, xs[1]? = some y := ⟨_, List.getElem?_eq_getElem (by omega)⟩
          have e2 : ∃ y, xs[2]? = some y := ⟨_, List.getElem?_eq_getElem (by omega)⟩
          have e3 : ∃ y, xs[3]? = some y := ⟨_, List.getElem?_eq_getElem (by omega)⟩
          obtain ⟨y0, e0⟩ := e0
          obtain ⟨y1, e1⟩ := e1
          obtain ⟨y2, e2⟩ := e2
          obtain ⟨y3, e3⟩ := e3
          rw [e0] at g0
          rw [e1] at g1
          rw [e2] at g2
          rw [e3] at g3
          obtain ⟨x0, q0, _, w0⟩ := DataW.trod_int (k := .u8) Try.underlying5 g0
          obtain ⟨x1, q1, _, w1⟩ := DataW.trod_int (k := .i64) Try.underlying3 g1
          obtain ⟨x2, q2, _⟩ := DataW.trod_bool Try.underlying4 g2
          obtain ⟨x3, q3, _⟩ := DataW.trod_bool Try.underlying4 g3
          have q0' : c0 = .int .u8 x0 := (List.cons.inj q0).1
          have q1' : c1 = .int .i64 x1 := (List.cons.inj q1).1
          have q2' : c2 = .bool x2 := (List.cons.inj q2).1
          have q3' : c3 = .bool x3 := (List.cons.inj q3).1
          subst q0' q1' q2' q3'
          refine ⟨⟨x0, x1, x2, x3⟩, fun _ => ⟨k28_mk W _, fun j u hj => ?_, ?_, w1⟩⟩
          · have hjl : j < 4 := (List.getElem?_eq_some_iff.1 hj).1
            rw [← Go.Deep.add_add]
            exact (hat j hjl).trans hj
          · simp [Lit.wf] at w0
            have m0 : IntKind.u8.min = 0 := by decide
            have m1 : IntKind.u8.max = 255 := by decide
            show 0 ≤ x0 ∧ x0 ≤ 255
            omega
      · exact ⟨z28, fun h => absurd h hlt⟩
    obtain ⟨f, hfn⟩ := Classical.axiomOfChoice hone
    refine ⟨(List.range len).map f, by simp, hl, ⟨by simp, by have : maxLen = 9223372036854775807 := by decide
                                                              omega, fun _ => ⟨ad, rfl, fun j x hx => ?_⟩⟩, fun x hx => ?_⟩
    · have hj : j < len := by
        have := (List.getElem?_eq_some_iff.1 hx).1
        simpa using this
      rw [List.getElem?_map, List.getElem?_range hj] at hx
      obtain rfl := Option.some.inj hx
      obtain ⟨h1, h2, _⟩ := hfn j hj
      exact ⟨_, rfl, h1, h2⟩
    · obtain ⟨j, hj, rfl⟩ := List.mem_map.1 hx
      exact (hfn j (List.mem_range.1 hj)).2.2
end Go.Proofs.Ytclondmclehiiaa.P
