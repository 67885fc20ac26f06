/- task.Apply in the printer's form. -/
import Derived.Test.YtikfbipjlkhgeaaApp1
namespace Go.Proofs.Ytikfbipjlkhgeaa.P
open Go.RowKit Go.Proofs.YtikfbipjlkhgeaaW.PrintWords Go.Proofs.YtikfbipjlkhgeaaW.PrintLast Go.Proofs.YtikfbipjlkhgeaaW.PrintMore
set_option linter.unusedVariables false
set_option linter.unusedSimpArgs false
def task_Apply.f (l : List S24) : Option (List S24) := if cnL l < 100000000 then some (appL false l) else none
section
attribute [local go_sem] World.cell?_alloc_some
set_option maxRecDepth 100000 in
set_option maxHeartbeats 8000000 in
theorem task_Apply.calls (A0 : Option Addr) (c0 : Nat) (l0 : List S24) (r : List S24) (w : World) (hr0 : Kd.C k24 w A0 l0.length l0) (hc0 : l0.length ≤ c0) (h : task_Apply.f l0 = some r) :
    Calls Try.prog 31 #[.slice A0 l0.length c0] w fun e w' => ∃ v, e = .returned v ∧ Kd.N k24 24 w' w.heap.size (fun k => w.heap.size ≤ k) v r ∧ Below w.heap.size w w' := by
  unfold task_Apply.f at h
  by_cases hcn : cnL l0 < 100000000
  · rw [if_pos hcn] at h
    have h := Option.some.inj h
    subst h
    have hu75 := Try.underlying75
    have HW := Aside0.mk (Below.alloc (Below.refl w.heap.size w) (Nat.le_refl _) (.cells #[.nilFunc] 75))
    have hn := blk_new w (.cells #[.nilFunc] 75)
    have n0 : (w.alloc (.cells #[.nilFunc] 75)).cell? ⟨w.heap.size, 0, none⟩ = some .nilFunc := blk_cell hn 0
    have f0 : (w.alloc (.cells #[.nilFunc] 75)).frozen? ⟨w.heap.size, 0, none⟩ = false := blk_frozen hn 0
    have HN := Aside0.mk (blk_new w (.cells #[.func (.func 60) #[] #[.pointer (some ⟨w.heap.size, 0, none⟩)]] 75))
    have HW2 := Aside0.mk (Below.alloc (Below.refl w.heap.size w) (Nat.le_refl _) (.cells #[.func (.func 60) #[] #[.pointer (some ⟨w.heap.size, 0, none⟩)]] 75))
    have hst : (store ⟨w.heap.size, 0, none⟩ (.func (.func 60) #[] #[.pointer (some ⟨w.heap.size, 0, none⟩)])).run Try.prog (w.alloc (.cells #[.nilFunc] 75)) = .ok () ((w.alloc (.cells #[.nilFunc] 75)).setCell ⟨w.heap.size, 0, none⟩ (.func (.func 60) #[] #[.pointer (some ⟨w.heap.size, 0, none⟩)])) := by
      rw [run_store Try.prog _ _ _ _ rfl, n0]
      simp [f0]
    clear hn
    have CA := Aside0.mk (fun (W : World) (hb : Below w.heap.size w W) g hg => apply60 (dpL l0 + 1) l0 false W A0 c0 g (by omega) hcn (Kd.C_below hr0 hb) hc0 hg)
    clear hr0 hcn
    go_enter Try.func31, Try.ntmps31
    go_wp2_with (go_at_call 60; refine (CA.out _ HW2.out w.heap.size HN.out).mono ?_; rintro e w2 ⟨v, rfl, hR, hb⟩; have HR := Aside0.mk hR; have HB := Aside0.mk hb; clear hR hb)
    go_ret
    exact ⟨v, rfl, Kd.R_N (Kd.R_mono (Kd.R_bound (Kd.R_lower HR.out HW2.out.size)) (fun k hk => hk.2.1)), below_step HW2.out HB.out⟩
  · rw [if_neg hcn] at h
    cases h
end
end Go.Proofs.Ytikfbipjlkhgeaa.P
