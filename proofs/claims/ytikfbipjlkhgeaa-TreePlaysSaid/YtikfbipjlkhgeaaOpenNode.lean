/- A tree (api.Node) that comes in is opened: its rows read as lists of trees, its integers and texts are within bounds. -/
import Derived.Test.YtikfbipjlkhgeaaPk0
import Derived.Deep.Slices
import Derived.WalkKit
import Derived.ProofKit
import Derived.OpenShut
import Derived.ChangeOld
import Derived.Below
import Derived.SizedLaws
import Derived.Lib.SmallJoins
namespace Go.Proofs.Ytikfbipjlkhgeaa.P
open Go.ChangeShapes Go.WideShapes Go.Deep Go.RowKit Go.Proofs.YtikfbipjlkhgeaaW.PrintWords
set_option linter.unusedVariables false
mutual
def okT : S24 → Prop
  | ⟨a0, a1, a2, a3, a4, a5, l⟩ => (Lit.int .i64 a0).wf = true ∧ a1.size ≤ 140737488351232 ∧ a2.size ≤ 140737488351232 ∧ (Lit.int .i64 a3).wf = true ∧ (Lit.int .i64 a4).wf = true ∧ l.length * 88 ≤ 140737488351232 ∧ okL l
def okL : List S24 → Prop
  | [] => True
  | x :: l => okT x ∧ okL l
end
theorem okL_of : ∀ (l : List S24), (∀ x ∈ l, okT x) → okL l
  | [], _ => by unfold okL; trivial
  | x :: l, h => by
    unfold okL
    exact ⟨h x List.mem_cons_self, okL_of l fun y hy => h y (List.mem_cons_of_mem _ hy)⟩
theorem weights_all_mem {H : Type} {P : Program} {e : TypeId} : ∀ {l : List (DataW H)} {d : DataW H}, d ∈ l → ∀ n ∈ d.weights P e, n ∈ DataW.weightsAll P e l
  | x :: l, d, hd, n, hn => by
    rw [DataW.weightsAll, List.mem_append]
    rcases List.mem_cons.1 hd with rfl | hd
    · exact .inl hn
    · exact .inr (weights_all_mem hd n hn)
theorem open_node_cells {H : Type} {enc : TypeId × Value → H} {W : World} : ∀ (fuel : Nat) (cs : List Value) (x : DataW H × List MemPlace), DataW.trod enc Try.prog W 0 (fun _ => true) true fuel 24 cs = some x → (∀ n ∈ x.1.weights Try.prog 24, n ≤ reachBytes) →
    ∃ (t : S24) (A : Option Addr) (c : Nat), cs = [.int .i64 t.f0, .string t.f1, .string t.f2, .int .i64 t.f3, .int .i64 t.f4, .bool t.f5, .slice A t.f6.length c] ∧ t.f6.length ≤ c ∧ Kd.C k24 W A t.f6.length t.f6 ∧ okT t := by
  intro fuel
  induction fuel using Nat.strongRecOn with
  | _ fuel IH =>
  intro cs x h hw
  have h7 : Try.prog.cellsOf 24 = 7 := by kernel_rfl
  obtain ⟨xs, n, rfl, hx, hlen, hxl, hfld⟩ := DataW.trod_struct Try.underlying24 h
  rw [h7] at hlen
  have hxl : xs.length = 7 := hxl
  have hwi : ∀ (i : Nat) (ty : TypeId) (y : DataW H × List MemPlace), ([3, 9, 9, 3, 3, 4, 22] : List TypeId)[i]? = some ty → xs[i]? = some y → ∀ m ∈ y.1.weights Try.prog ty, m ≤ reachBytes := by
    intro i ty y hi hy m hm
    refine hw m ?_
    rw [hx]
    show m ∈ (DataW.agg (xs.map (·.1))).weights Try.prog 24
    unfold DataW.weights
    rw [Try.underlying24]
    exact DataW.weights_mem_each (j := i) (d := y.1) hi (by rw [List.getElem?_map, hy]; rfl) m hm
  match cs, hlen with
  | [c0, c1, c2, c3, c4, c5, c6], _ =>
    have g0 := hfld 0 _ rfl
    have g1 := hfld 1 _ rfl
    have g2 := hfld 2 _ rfl
    have g3 := hfld 3 _ rfl
    have g4 := hfld 4 _ rfl
    have g5 := hfld 5 _ rfl
    have g6 := hfld 6 _ rfl
    obtain ⟨y0, e0⟩ : ∃ y, xs[0]? = some y := ⟨_, List.getElem?_eq_getElem (by omega)⟩
    obtain ⟨y1, e1⟩ : ∃ y, xs[1]? = some y := ⟨_, List.getElem?_eq_getElem (by omega)⟩
    obtain ⟨y2, e2⟩ : ∃ y, xs[2]? = some y := ⟨_, List.getElem?_eq_getElem (by omega)⟩
    obtain ⟨y3, e3⟩ : ∃ y, xs[3]? = some y := ⟨_, List.getElem?_eq_getElem (by omega)⟩
    obtain ⟨y4, e4⟩ : ∃ y, xs[4]? = some y := ⟨_, List.getElem?_eq_getElem (by omega)⟩
    obtain ⟨y5, e5⟩ : ∃ y, xs[5]? = some y := ⟨_, List.getElem?_eq_getElem (by omega)⟩
    obtain ⟨y6, e6⟩ : ∃ y, xs[6]? = some y := ⟨_, List.getElem?_eq_getElem (by omega)⟩
    rw [e0] at g0
    rw [e1] at g1
    rw [e2] at g2
    rw [e3] at g3
    rw [e4] at g4
    rw [e5] at g5
    rw [e6] at g6
    obtain ⟨x0, q0, _, w0⟩ := DataW.trod_int (k := .i64) Try.underlying3 g0
    obtain ⟨x1, q1, r1, _⟩ := DataW.trod_string Try.underlying9 g1
    obtain ⟨x2, q2, r2, _⟩ := DataW.trod_string Try.underlying9 g2
    obtain ⟨x3, q3, _, w3⟩ := DataW.trod_int (k := .i64) Try.underlying3 g3
    obtain ⟨x4, q4, _, w4⟩ := DataW.trod_int (k := .i64) Try.underlying3 g4
    obtain ⟨x5, q5, _⟩ := DataW.trod_bool Try.underlying4 g5
    have q0' : c0 = .int .i64 x0 := (List.cons.inj q0).1
    have q1' : c1 = .string x1 := (List.cons.inj q1).1
    have q2' : c2 = .string x2 := (List.cons.inj q2).1
    have q3' : c3 = .int .i64 x3 := (List.cons.inj q3).1
    have q4' : c4 = .int .i64 x4 := (List.cons.inj q4).1
    have q5' : c5 = .bool x5 := (List.cons.inj q5).1
    subst q0' q1' q2' q3' q4' q5'
    have rb : reachBytes = 140737488351232 := by decide
    have s1 : x1.size ≤ 140737488351232 := by
      have := hwi 1 9 y1 rfl e1 x1.data.toList.length (by rw [r1]; simp [DataW.weights])
      rw [rb] at this
      simpa using this
    have s2 : x2.size ≤ 140737488351232 := by
      have := hwi 2 9 y2 rfl e2 x2.data.toList.length (by rw [r2]; simp [DataW.weights])
      rw [rb] at this
      simpa using this
    have hw6 := hwi 6 22 y6 rfl e6
    rcases DataW.trod_slice (e := 24) Try.underlying22 g6 with ⟨hcs, _⟩ | ⟨ad, len, cap, elems, rest, n', hn, hcs, hy6, _, hl, hm, hel, hat, _⟩
    · have hc6 : c6 = .slice none 0 0 := (List.cons.inj hcs).1
      subst hc6
      refine ⟨⟨x0, x1, x2, x3, x4, x5, []⟩, none, 0, rfl, Nat.le_refl _, Kd.C_nil _ _, ?_⟩
      unfold okT okL
      exact ⟨w0, s1, s2, w3, w4, by simp, trivial⟩
    · have hc6 : c6 = .slice (some ad) len cap := (List.cons.inj hcs).1
      subst hc6
      have hwe : ∀ y ∈ elems, ∀ m ∈ y.1.weights Try.prog 24, m ≤ reachBytes := by
        intro y hy m hm
        refine hw6 m ?_
        rw [hy6]
        unfold DataW.weights
        rw [Try.underlying22]
        exact List.mem_cons_of_mem _ (List.mem_append_left _ (weights_all_mem (List.mem_map_of_mem hy) m hm))
      have hone : ∀ i, ∃ t : S24, i < len → (∃ cs', k24.K W t cs' ∧ (∀ j u, cs'[j]? = some u → W.cell? (ad.add (i * 7 + j)) = some u)) ∧ okT t := by
        intro i
        by_cases hlt : i < len
        · have hi := hat i hlt
          rw [List.getElem?_eq_getElem (by omega), h7] at hi
          cases hc : W.cells? 0 (ad.add (i * 7)) 7 with
          | none => rw [hc] at hi; cases hi
          | some cs' =>
            rw [hc] at hi
            have hi : DataW.trod enc Try.prog W 0 (fun _ => true) true n' 24 cs' = some elems[i] := hi
            obtain ⟨t, A, c, rfl, hle, hC, hok⟩ := IH n' (by omega) cs' _ hi (hwe _ (List.getElem_mem _))
            obtain ⟨_, hcl, hcat⟩ := World.cells?_some hc
            refine ⟨t, fun _ => ⟨⟨_, k24_mk W t hle hC, fun j u hj => ?_⟩, hok⟩⟩
            have hjl : j < 7 := (List.getElem?_eq_some_iff.1 hj).1
            rw [← Go.Deep.add_add]
            exact (hcat j hjl).trans hj
        · exact ⟨z24, fun h => absurd h hlt⟩
      obtain ⟨f, hfn⟩ := Classical.axiomOfChoice hone
      have hll : ((List.range len).map f).length = len := by simp
      have hlw : len * 88 ≤ 140737488351232 := by
        have := hw6 ((elems.length + rest.length) * 88) (by
          rw [hy6]
          unfold DataW.weights
          rw [Try.underlying22]
          have hb : Try.prog.bytesOf 24 = 88 := by kernel_rfl
          show _ ∈ ((elems.map (·.1)).length + (rest.map (·.1)).length) * Try.prog.bytesOf 24 :: _
          rw [hb]
          simp)
        rw [rb] at this
        omega
      refine ⟨⟨x0, x1, x2, x3, x4, x5, (List.range len).map f⟩, some ad, cap, ?_, ?_, ?_, ?_⟩
      · show _ = [_, _, _, _, _, _, Value.slice (some ad) ((List.range len).map f).length cap]
        rw [hll]
      · show ((List.range len).map f).length ≤ cap
        rw [hll]; exact hl
      · show Kd.C k24 W (some ad) ((List.range len).map f).length ((List.range len).map f)
        rw [hll]
        refine ⟨hll, by have : maxLen = 9223372036854775807 := by decide
                        omega, fun _ => ⟨ad, rfl, fun j x hx => ?_⟩⟩
        have hj : j < len := by
          have := (List.getElem?_eq_some_iff.1 hx).1
          rw [hll] at this
          exact this
        rw [List.getElem?_map, List.getElem?_range hj] at hx
        obtain rfl := Option.some.inj hx
        obtain ⟨⟨cs', h1, h2⟩, _⟩ := hfn j hj
        exact ⟨cs', k24.K_len h1, h1, h2⟩
      · unfold okT
        refine ⟨w0, s1, s2, w3, w4, by rw [hll]; exact hlw, okL_of _ fun x hx => ?_⟩
        obtain ⟨j, hj, rfl⟩ := List.mem_map.1 hx
        exact (hfn j (List.mem_range.1 hj)).2
theorem open_node {H : Type} {enc : TypeId × Value → H} {W : World} {r : Reach} {b0 : Nat} {v : Value} {d : DataW H} {p : List MemPlace} {ts : List TypeId} {ds : List (DataW H)} {j : Nat} (hv : Value.okWide Try.prog W r b0 24 v) (h : DataW.Trod enc Try.prog W 0 (fun _ => true) true 24 v d p)
    (hsz : (DataW.weightsEach Try.prog ts ds).all (· ≤ reachBytes) = true) (ht : ts[j]? = some 24) (hd : ds[j]? = some d) :
    ∃ (t : S24) (A : Option Addr) (c : Nat), v = .agg #[.int .i64 t.f0, .string t.f1, .string t.f2, .int .i64 t.f3, .int .i64 t.f4, .bool t.f5, .slice A t.f6.length c] ∧ t.f6.length ≤ c ∧ Kd.C k24 W A t.f6.length t.f6 ∧ okT t := by
  obtain ⟨cs, rfl, hs⟩ := okWide_struct Try.underlying24 hv
  obtain ⟨fuel, hf⟩ := h
  obtain ⟨t, A, c, hcs, h1, h2, h3⟩ := open_node_cells fuel _ _ hf (fun n hn => by
    have := List.all_eq_true.1 hsz n (DataW.weights_mem_each ht hd n hn)
    simpa using this)
  refine ⟨t, A, c, ?_, h1, h2, h3⟩
  have hk : Value.cells (.agg cs) = cs := rfl
  rw [hk] at hcs
  congr 1
  exact Array.toList_inj.1 hcs
end Go.Proofs.Ytikfbipjlkhgeaa.P
