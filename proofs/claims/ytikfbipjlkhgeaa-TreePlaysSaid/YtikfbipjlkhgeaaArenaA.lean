/- tree.Arena: what an arena is in memory; Len, has and Parent read it. -/
import Derived.Test.YtikfbipjlkhgeaaPk0
import Derived.Deep.RegionHeld3
import Derived.Deep.DeepCutAuto
import Derived.Deep.LoopGhost
namespace Go.Proofs.Ytikfbipjlkhgeaa.P
open Go.RowKit Go.Proofs.YtikfbipjlkhgeaaW.PrintWords Go.Proofs.YtikfbipjlkhgeaaW.PrintLast Go.Proofs.YtikfbipjlkhgeaaW.PrintMore
set_option linter.unusedVariables false
set_option linter.unusedSimpArgs false
/-- An arena at block g, as it is read: one cell, which holds a row of slots. -/
structure ArRd (w : World) (g : Nat) (v : Value) (sl : List S70) : Prop where
  blk : w.heap[g]? = some (.cells #[v] 73 (0, 0))
  len : ∃ A c, v = .slice A sl.length c ∧ sl.length ≤ c ∧ Kd.C k70 w A sl.length sl
def hasB (sl : List S70) (id : Int) : Bool := decide (0 ≤ id) && decide (id < (sl.length : Int))
def parentB (sl : List S70) (id : Int) : Int := if hasB sl id = true then (rd_T70 sl id).f1 else -1
set_option maxRecDepth 100000 in
set_option maxHeartbeats 8000000 in
theorem len_calls {w : World} {g : Nat} {v : Value} {sl : List S70} (h : ArRd w g v sl) : Calls Try.prog 26 #[.pointer (some ⟨g, 0, none⟩)] w fun e w' => e = .returned (.int .i64 sl.length) ∧ w' = w := by
  obtain ⟨A, c, rfl, hc, hC⟩ := h.len
  have h0 : w.cell? ⟨g, 0, none⟩ = some (.slice A sl.length c) := blk_cell h.blk 0
  clear h hC
  go_enter Try.func26, Try.ntmps26
  go_wp2_with fail
  go_ret
  exact ⟨rfl, rfl⟩
set_option maxRecDepth 100000 in
set_option maxHeartbeats 8000000 in
theorem has_calls {w : World} {g : Nat} {v : Value} {sl : List S70} (h : ArRd w g v sl) (id : Int) : Calls Try.prog 57 #[.pointer (some ⟨g, 0, none⟩), .int .i64 id] w fun e w' => e = .returned (.bool (hasB sl id)) ∧ w' = w := by
  have CC := Aside0.mk (len_calls h)
  clear h
  by_cases h1 : 0 ≤ id
  · have c1 : decide (0 ≤ id) = true := decide_eq_true h1
    go_enter Try.func57, Try.ntmps57
    go_wp2_with (go_at_call 26; refine CC.out.mono ?_; rintro e w1 ⟨rfl, rfl⟩)
    go_ret
    exact ⟨by simp [hasB, c1], rfl⟩
  · have c1 : decide (0 ≤ id) = false := decide_eq_false h1
    go_enter Try.func57, Try.ntmps57
    go_wp2_with fail
    go_ret
    exact ⟨by simp [hasB, c1], rfl⟩
set_option maxRecDepth 100000 in
set_option maxHeartbeats 8000000 in
theorem parent_calls {w : World} {g : Nat} {v : Value} {sl : List S70} (h : ArRd w g v sl) (id : Int) : Calls Try.prog 29 #[.pointer (some ⟨g, 0, none⟩), .int .i64 id] w fun e w' => e = .returned (.int .i64 (parentB sl id)) ∧ w' = w := by
  have CC := Aside0.mk (has_calls h id)
  obtain ⟨A, c, rfl, hc, hC⟩ := h.len
  have h0 : w.cell? ⟨g, 0, none⟩ = some (.slice A sl.length c) := blk_cell h.blk 0
  clear h
  cases hb : hasB sl id with
  | false =>
    go_enter Try.func29, Try.ntmps29
    go_wp2_with (go_at_call 57; refine CC.out.mono ?_; rintro e w1 ⟨rfl, rfl⟩; rw [hb])
    go_ret
    exact ⟨by simp [parentB, hb], rfl⟩
  | true =>
    have hb2 := hb
    unfold hasB at hb2
    rw [Bool.and_eq_true] at hb2
    have i0 : 0 ≤ id := of_decide_eq_true hb2.1
    have i1 : id < (sl.length : Int) := of_decide_eq_true hb2.2
    clear hb2
    obtain ⟨ad, A6, c6, A8, c8, rfl, x0, x1, x2, x3, x4, x5, x6, x7, x8, _⟩ := at_T70 hC id i0 i1
    clear hC
    go_enter Try.func29, Try.ntmps29
    go_wp2_with (go_at_call 57; refine CC.out.mono ?_; rintro e w1 ⟨rfl, rfl⟩; rw [hb])
    go_ret
    exact ⟨by simp [parentB, hb], rfl⟩
end Go.Proofs.Ytikfbipjlkhgeaa.P
