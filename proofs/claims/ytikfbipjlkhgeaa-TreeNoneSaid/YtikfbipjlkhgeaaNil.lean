/- An arena that is none; Get. -/
import Derived.Test.YtikfbipjlkhgeaaKin
namespace Go.Proofs.Ytikfbipjlkhgeaa.P
open Go.RowKit Go.Proofs.YtikfbipjlkhgeaaW.PrintWords Go.Proofs.YtikfbipjlkhgeaaW.PrintLast Go.Proofs.YtikfbipjlkhgeaaW.PrintMore
set_option linter.unusedVariables false
set_option linter.unusedSimpArgs false
section
set_option maxRecDepth 100000
set_option maxHeartbeats 8000000
theorem len_nil (w : World) : Calls Try.prog 26 #[.pointer none] w fun e w' => e = .returned (.int .i64 0) ∧ w' = w := by
  go_enter Try.func26, Try.ntmps26
  go_wp2_with fail
  go_ret
  exact ⟨rfl, rfl⟩
theorem has_nil (id : Int) (w : World) : Calls Try.prog 57 #[.pointer none, .int .i64 id] w fun e w' => e = .returned (.bool false) ∧ w' = w := by
  by_cases h1 : 0 ≤ id
  · have c1 : decide (0 ≤ id) = true := decide_eq_true h1
    have c2 : decide (id < 0) = false := decide_eq_false (by omega)
    go_enter Try.func57, Try.ntmps57
    go_wp2_with (go_at_call 26; refine (len_nil _).mono ?_; rintro e w1 ⟨rfl, rfl⟩)
    go_ret
    exact ⟨rfl, rfl⟩
  · have c1 : decide (0 ≤ id) = false := decide_eq_false h1
    go_enter Try.func57, Try.ntmps57
    go_wp2_with fail
    go_ret
    exact ⟨rfl, rfl⟩
theorem add_nil (id : Int) (x0 : Int) (x1 x2 : ByteArray) (x3 x4 : Int) (x5 : Bool) (A : Option Addr) (n c : Nat) (w : World) :
    Calls Try.prog 27 #[.pointer none, .int .i64 id, .agg #[.int .i64 x0, .string x1, .string x2, .int .i64 x3, .int .i64 x4, .bool x5, .slice A n c]] w fun e w' => e = .returned (.int .i64 (-1)) ∧ Below w.heap.size w w' := by
  have hu24 := Try.underlying24
  have HB := Aside0.mk (below_alloc (Below.refl w.heap.size w) (.cells #[.int .i64 x0, .string x1, .string x2, .int .i64 x3, .int .i64 x4, .bool x5, .slice A n c] 24))
  go_enter Try.func27, Try.ntmps27
  go_wp2_with (go_at_call 57; refine (has_nil id _).mono ?_; rintro e w1 ⟨rfl, rfl⟩)
  go_ret
  exact ⟨rfl, HB.out⟩
theorem set_nil (id : Int) (x0 : Int) (x1 x2 : ByteArray) (x3 x4 : Int) (x5 : Bool) (A : Option Addr) (n c : Nat) (w : World) :
    Calls Try.prog 40 #[.pointer none, .int .i64 id, .agg #[.int .i64 x0, .string x1, .string x2, .int .i64 x3, .int .i64 x4, .bool x5, .slice A n c]] w fun e w' => e = .returned (.bool false) ∧ Below w.heap.size w w' := by
  have hu24 := Try.underlying24
  have HB := Aside0.mk (below_alloc (Below.refl w.heap.size w) (.cells #[.int .i64 x0, .string x1, .string x2, .int .i64 x3, .int .i64 x4, .bool x5, .slice A n c] 24))
  go_enter Try.func40, Try.ntmps40
  go_wp2_with (go_at_call 57; refine (has_nil id _).mono ?_; rintro e w1 ⟨rfl, rfl⟩)
  go_ret
  exact ⟨rfl, HB.out⟩
theorem parent_nil (id : Int) (w : World) : Calls Try.prog 29 #[.pointer none, .int .i64 id] w fun e w' => e = .returned (.int .i64 (-1)) ∧ w' = w := by
  go_enter Try.func29, Try.ntmps29
  go_wp2_with (go_at_call 57; refine (has_nil id _).mono ?_; rintro e w1 ⟨rfl, rfl⟩)
  go_ret
  exact ⟨rfl, rfl⟩
theorem children_nil (id : Int) (w : World) : Calls Try.prog 37 #[.pointer none, .int .i64 id] w fun e w' => e = .returned (.slice none 0 0) ∧ w' = w := by
  go_enter Try.func37, Try.ntmps37
  go_wp2_with (go_at_call 57; refine (has_nil id _).mono ?_; rintro e w1 ⟨rfl, rfl⟩)
  go_ret
  exact ⟨rfl, rfl⟩
theorem unlink_nil (id : Int) (w : World) : Calls Try.prog 36 #[.pointer none, .int .i64 id] w fun e w' => e = .returned (.bool false) ∧ w' = w := by
  go_enter Try.func36, Try.ntmps36
  go_wp2_with fail
  refine (parent_nil id _).mono ?_
  rintro e w1 ⟨rfl, rfl⟩
  go_wp2_with fail
  go_ret
  exact ⟨rfl, rfl⟩
theorem move_nil (id p : Int) (w : World) : Calls Try.prog 28 #[.pointer none, .int .i64 id, .int .i64 p] w fun e w' => e = .returned (.bool false) ∧ w' = w := by
  go_enter Try.func28, Try.ntmps28
  go_wp2_with (go_at_call 57; refine (has_nil id _).mono ?_; rintro e w1 ⟨rfl, rfl⟩)
  go_ret
  exact ⟨rfl, rfl⟩
theorem get_nil (id : Int) (w : World) : Calls Try.prog 46 #[.pointer none, .int .i64 id] w fun e w' => e = .returned (.agg #[.int .i64 0, .string ⟨#[]⟩, .string ⟨#[]⟩, .int .i64 0, .int .i64 0, .bool false, .slice none 0 0]) ∧ Below w.heap.size w w' := by
  have hu24 := Try.underlying24
  have HZ := Aside0.mk (blk_new w (.cells #[.int .i64 0, .string ⟨#[]⟩, .string ⟨#[]⟩, .int .i64 0, .int .i64 0, .bool false, .slice none 0 0] 24))
  have HB := Aside0.mk (below_alloc (Below.refl w.heap.size w) (.cells #[.int .i64 0, .string ⟨#[]⟩, .string ⟨#[]⟩, .int .i64 0, .int .i64 0, .bool false, .slice none 0 0] 24))
  go_enter Try.func46, Try.ntmps46
  go_wp2_with (go_at_call 57; refine (has_nil id _).mono ?_; rintro e w1 ⟨rfl, rfl⟩)
  refine bodyPost_ret (results_cell_row rfl _ _ w.heap.size 24 #[.int .i64 0, .string ⟨#[]⟩, .string ⟨#[]⟩, .int .i64 0, .int .i64 0, .bool false, .slice none 0 0] (0, 0) _ rfl HZ.out Try.underlying24 rfl (by kernel_rfl)) rfl ⟨rfl, HB.out⟩
theorem Tree_nil (w : World) : Calls Try.prog 25 #[.pointer none] w fun e w' => e = .returned (.agg #[.int .i64 0, .string ⟨#[]⟩, .string ⟨#[]⟩, .int .i64 0, .int .i64 0, .bool false, .slice none 0 0]) ∧ Below w.heap.size w w' := by
  have hu24 := Try.underlying24
  have HZ := Aside0.mk (blk_new w (.cells #[.int .i64 0, .string ⟨#[]⟩, .string ⟨#[]⟩, .int .i64 0, .int .i64 0, .bool false, .slice none 0 0] 24))
  have HB := Aside0.mk (below_alloc (Below.refl w.heap.size w) (.cells #[.int .i64 0, .string ⟨#[]⟩, .string ⟨#[]⟩, .int .i64 0, .int .i64 0, .bool false, .slice none 0 0] 24))
  go_enter Try.func25, Try.ntmps25
  go_wp2_with (go_at_call 26; refine (len_nil _).mono ?_; rintro e w1 ⟨rfl, rfl⟩)
  refine bodyPost_ret (results_cell_row rfl _ _ w.heap.size 24 #[.int .i64 0, .string ⟨#[]⟩, .string ⟨#[]⟩, .int .i64 0, .int .i64 0, .bool false, .slice none 0 0] (0, 0) _ rfl HZ.out Try.underlying24 rfl (by kernel_rfl)) rfl ⟨rfl, HB.out⟩
theorem get_calls {w : World} {B g : Nat} {sl : List S70} (h : Ar w B g sl) (i : Nat) (hi : i < sl.length) (x0 : Int) (x1 x2 : ByteArray) (x3 x4 : Int) (x5 : Bool) (l : List S24) (hx : (rd_T70 sl (i : Int)).f0 = ⟨x0, x1, x2, x3, x4, x5, l⟩) :
    Calls Try.prog 46 #[.pointer (some ⟨g, 0, none⟩), .int .i64 i] w fun e w' => e = .returned (.agg #[.int .i64 x0, .string x1, .string x2, .int .i64 x3, .int .i64 x4, .bool x5, .slice none 0 0]) ∧ Below w.heap.size w w' := by
  have hu24 := Try.underlying24
  have hu70 := Try.underlying70
  have hu73 := Try.underlying73
  have hA := h.below (below_alloc (Below.refl w.heap.size w) (.cells #[.int .i64 0, .string ⟨#[]⟩, .string ⟨#[]⟩, .int .i64 0, .int .i64 0, .bool false, .slice none 0 0] 24))
  have HZ := Aside0.mk (blk_new w (.cells #[.int .i64 x0, .string x1, .string x2, .int .i64 x3, .int .i64 x4, .bool x5, .slice none 0 0] 24))
  have HB := Aside0.mk (below_alloc (Below.refl w.heap.size w) (.cells #[.int .i64 x0, .string x1, .string x2, .int .i64 x3, .int .i64 x4, .bool x5, .slice none 0 0] 24))
  have hb : hasB sl (i : Int) = true := (hasB_iff sl _).2 ⟨by omega, by omega⟩
  obtain ⟨v, rows, h1⟩ := hA
  have CC := Aside0.mk (has_calls h1.rd (i : Int))
  rw [hb] at CC
  obtain ⟨r, cap, rfl, hr, cs, hty⟩ := h1.row0 (by omega)
  have g0 := blk_cell h1.blk 0
  have g0 : (w.alloc (.cells #[.int .i64 0, .string ⟨#[]⟩, .string ⟨#[]⟩, .int .i64 0, .int .i64 0, .bool false, .slice none 0 0] 24)).cell? ⟨g, 0, none⟩ = some (.slice (some ⟨r, 0, none⟩) sl.length cap) := g0
  obtain ⟨c0, c1, c2, c3, c4, c5, c6⟩ := h1.cells6 i hi
  rw [hx] at c0 c1 c2 c3 c4 c5
  have i0 : (i : Int) < (sl.length : Int) := by omega
  clear h h1 hty hb hx
  go_enter Try.func46, Try.ntmps46
  go_wp2_with (go_at_call 57; refine CC.out.mono ?_; rintro e w1 ⟨rfl, rfl⟩)
  refine bodyPost_ret (results_cell_row rfl _ _ w.heap.size 24 #[.int .i64 x0, .string x1, .string x2, .int .i64 x3, .int .i64 x4, .bool x5, .slice none 0 0] (0, 0) _ rfl HZ.out Try.underlying24 rfl (by kernel_rfl)) rfl ⟨rfl, HB.out⟩
end
end Go.Proofs.Ytikfbipjlkhgeaa.P
