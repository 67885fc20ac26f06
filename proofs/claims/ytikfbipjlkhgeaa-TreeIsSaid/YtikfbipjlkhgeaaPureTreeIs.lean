/- TreeIs, the plain law: what the program tells of two trees is what the reference tells. -/
import Derived.Test.YtikfbipjlkhgeaaPk6
import Derived.Test.YtikfbipjlkhgeaaTreeW
namespace Go.Proofs.Ytikfbipjlkhgeaa.P
open Go.RowKit Go.Proofs.YtikfbipjlkhgeaaW.PrintWords Go.Proofs.YtikfbipjlkhgeaaW.PrintLast Go.Proofs.YtikfbipjlkhgeaaW.PrintMore
set_option linter.unusedVariables false
set_option linter.unusedSimpArgs false
theorem len_lt {t : S24} (h : okT t) : t.f6.length < 4611686018427387904 := by
  obtain ⟨a0, a1, a2, a3, a4, a5, l⟩ := t
  unfold okT at h
  show l.length < _
  omega
theorem cnt_len (t : S24) : t.f6.length < cntT t := by
  obtain ⟨a0, a1, a2, a3, a4, a5, l⟩ := t
  unfold cntT
  have := len_cntL l
  show l.length < _
  omega
theorem same_f (a b : S24) : tree_Same.f a.f0 a.f1 a.f2 a.f3 a.f4 a.f5 a.f6 b.f0 b.f1 b.f2 b.f3 b.f4 b.f5 b.f6 = some (sameT a b) := by cases a; cases b; rfl
theorem well_f (a : S24) : tree_Well.f a.f0 a.f1 a.f2 a.f3 a.f4 a.f5 a.f6 = some ((a.f0 == 1) && wellT false a) := by cases a; rfl
theorem treeIs_j0 (a b : S24) (ha : okT a) (hb : okT b) (x : Bool) (hx : x = false → cntT a ≤ 2000 ∧ cntT b ≤ 2000) :
    Ev (fun k => incipitlaw06_TreeIs.j0 k true x a.f0 a.f1 a.f2 a.f3 a.f4 a.f5 a.f6 b.f0 b.f1 b.f2 b.f3 b.f4 b.f5 b.f6) true := by
  cases x with
  | true => exact Ev.step (f := fun _ => some true) (fun k => by simp only [incipitlaw06_TreeIs.j0]; rfl) (Ev.now _)
  | false =>
    obtain ⟨ca, cb⟩ := hx rfl
    obtain ⟨K1, h1⟩ := rsame_ev a (len_lt ha) (fun u hu => by have := cnt_len u; omega) b
    obtain ⟨K2, h2⟩ := count_ev a (by omega)
    obtain ⟨K3, h3⟩ := rcount_ev a (by omega)
    obtain ⟨K4, h4⟩ := depth_ev a (by omega)
    obtain ⟨K5, h5⟩ := rdepth_ev a (by omega)
    obtain ⟨K6, h6⟩ := rWell_ev a (by omega)
    refine ⟨K1 + K2 + K3 + K4 + K5 + K6 + 1, fun k hk => ?_⟩
    obtain ⟨k, rfl⟩ : ∃ q, k = q + 1 := ⟨k - 1, by omega⟩
    have e1 := h1 k (by omega)
    have e2 := h2 k (by omega)
    have e3 := h3 k (by omega)
    have e4 := h4 k (by omega)
    have e5 := h5 k (by omega)
    have e6 := h6 k (by omega)
    dsimp only at e1 e2 e3 e4 e5 e6
    simp only [incipitlaw06_TreeIs.j0]
    rw [if_neg (by decide), if_pos trivial]
    rw [same_f a b, Option.bind_some, e1, Option.bind_some, if_pos (by simp),
      same_f a a, Option.bind_some, sameT_refl, if_pos rfl, e2, Option.bind_some, e3, Option.bind_some, if_pos rfl, e4, Option.bind_some, e5, Option.bind_some, if_pos rfl,
      well_f a, Option.bind_some, e6, Option.bind_some]
    simp
theorem TreeIs_pure (a b : S24) (ha : okT a) (hb : okT b) : ∃ k, incipitlaw06_TreeIs.f k a.f0 a.f1 a.f2 a.f3 a.f4 a.f5 a.f6 b.f0 b.f1 b.f2 b.f3 b.f4 b.f5 b.f6 = some true := by
  obtain ⟨ra, ea, fa⟩ := Few_ev a ha 2000 (by omega) (by omega)
  obtain ⟨rb, eb, fb⟩ := Few_ev b hb 2000 (by omega) (by omega)
  refine Ev.rounds (g := fun k => incipitlaw06_TreeIs.f k a.f0 a.f1 a.f2 a.f3 a.f4 a.f5 a.f6 b.f0 b.f1 b.f2 b.f3 b.f4 b.f5 b.f6) ?_
  unfold incipitlaw06_TreeIs.f
  simp only [incipitlaw06_awake.f, Option.bind_some]
  refine Ev.bind (f := fun k t168 => (if t168 = true then ((incipitref06_Few.f k b.f0 b.f1 b.f2 b.f3 b.f4 b.f5 b.f6 2000).bind fun t169 => (incipitlaw06_TreeIs.j0 k true (!t169) a.f0 a.f1 a.f2 a.f3 a.f4 a.f5 a.f6 b.f0 b.f1 b.f2 b.f3 b.f4 b.f5 b.f6)) else (incipitlaw06_TreeIs.j0 k true true a.f0 a.f1 a.f2 a.f3 a.f4 a.f5 a.f6 b.f0 b.f1 b.f2 b.f3 b.f4 b.f5 b.f6))) ea ?_
  cases ra with
  | false =>
    refine Ev.congr (fun k => if_neg (by decide)) ?_
    exact treeIs_j0 a b ha hb true (fun h => by cases h)
  | true =>
    refine Ev.congr (fun k => if_pos rfl) ?_
    refine Ev.bind (f := fun k t169 => incipitlaw06_TreeIs.j0 k true (!t169) a.f0 a.f1 a.f2 a.f3 a.f4 a.f5 a.f6 b.f0 b.f1 b.f2 b.f3 b.f4 b.f5 b.f6) eb ?_
    refine treeIs_j0 a b ha hb (!rb) (fun h => ?_)
    have := fa rfl
    have := fb (by simpa using h)
    omega
end Go.Proofs.Ytikfbipjlkhgeaa.P
