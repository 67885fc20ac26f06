/- (*Arena).Unlink of a node without a parent, Children, Move. -/
import Derived.Test.YtikfbipjlkhgeaaArenaU
namespace Go.Proofs.Ytikfbipjlkhgeaa.P
open Go.RowKit Go.Proofs.YtikfbipjlkhgeaaW.PrintWords Go.Proofs.YtikfbipjlkhgeaaW.PrintLast Go.Proofs.YtikfbipjlkhgeaaW.PrintMore
set_option linter.unusedVariables false
set_option linter.unusedSimpArgs false
set_option maxRecDepth 100000 in
set_option maxHeartbeats 8000000 in
theorem unlink_no {w : World} {B g : Nat} {sl : List S70} (h : Ar w B g sl) (id : Int) (hpar : parentB sl id < 0) :
    Calls Try.prog 36 #[.pointer (some ⟨g, 0, none⟩), .int .i64 id] w fun e w' => e = .returned (.bool false) ∧ w' = w := by
  obtain ⟨v, rows, h⟩ := h
  have CP := Aside0.mk (parent_calls h.rd id)
  have hp0 : decide (parentB sl id < 0) = true := decide_eq_true hpar
  generalize parentB sl id = pv at CP hp0
  clear h hpar
  go_enter Try.func36, Try.ntmps36
  go_wp2_with fail
  refine CP.out.mono ?_
  rintro e w1 ⟨rfl, rfl⟩
  go_wp2_with fail
  go_ret
  exact ⟨rfl, rfl⟩
def kidsB (sl : List S70) (id : Int) : List Int := if hasB sl id = true then (rd_T70 sl id).f2 else []
theorem clone_calls {w : World} {B : Nat} {v : Value} {xs : List Int} (h : (Kd.int .i64).R 3 w B (fun _ => True) v xs) (hl : xs.length < 1000000000) :
    Calls Try.prog 66 #[v] w fun e w' => ∃ v', e = .returned v' ∧ (Kd.int .i64).R 3 w' w.heap.size (fun _ => True) v' xs ∧ Below w.heap.size w w' := by
  obtain ⟨hlen, ho⟩ := Kd.own_of_R h
  rcases ho with ⟨rfl, hn⟩ | ⟨b, cap, cur, rfl, hb, hblk, hnc, hcm, hcs, hct⟩
  · have e : xs = [] := List.length_eq_zero_iff.1 hn
    subst e
    refine (Try.slices_Clone_int_nil 0 0 w).mono ?_
    rintro e w' ⟨rfl, rfl⟩
    exact ⟨_, rfl, Kd.R_nil _ _ _ _ _, Below.refl _ _⟩
  · have hc : ∀ j, j < xs.length → w.cell? ⟨b, 0 + j, none⟩ = some (.int .i64 (xs.getD j 0)) := fun j hj => by
      have := (Kd.R_cell (0 : Int) h (j : Int) (by omega) (by omega)).1
      rw [Nat.zero_add]
      exact this
    refine (Try.slices_Clone_int b 0 xs.length cap xs w (Nat.le_refl _) (by omega) hc).mono ?_
    rintro e w' ⟨v', rfl, hown, _, hbl⟩
    rw [List.take_length] at hown
    exact ⟨v', rfl, Kd.R_of_own hown (fun _ _ => trivial), hbl⟩
set_option maxRecDepth 100000 in
set_option maxHeartbeats 8000000 in
theorem children_calls {w : World} {B g : Nat} {sl : List S70} (h : Ar w B g sl) (id : Int) (hk : ∀ i : Nat, i < sl.length → (rd_T70 sl (i : Int)).f2.length < 1000000000) :
    Calls Try.prog 37 #[.pointer (some ⟨g, 0, none⟩), .int .i64 id] w fun e w' => ∃ v', e = .returned v' ∧ (Kd.int .i64).R 3 w' w.heap.size (fun _ => True) v' (kidsB sl id) ∧ Below w.heap.size w w' := by
  have hu70 := Try.underlying70
  have hu73 := Try.underlying73
  obtain ⟨v, rows, h⟩ := h
  have CC := Aside0.mk (has_calls h.rd id)
  cases hb : hasB sl id with
  | false =>
    have e0 : kidsB sl id = [] := by unfold kidsB; rw [hb]; rfl
    rw [e0]
    clear h hk
    go_enter Try.func37, Try.ntmps37
    go_wp2_with (go_at_call 57; refine CC.out.mono ?_; rintro e w1 ⟨rfl, rfl⟩; rw [hb])
    go_ret
    exact ⟨_, rfl, Kd.R_nil _ _ _ _ _, Below.refl _ _⟩
  | true =>
    have e0 : kidsB sl id = (rd_T70 sl id).f2 := by unfold kidsB; rw [hb]; rfl
    obtain ⟨h0, h1⟩ := (hasB_iff sl id).1 hb
    obtain ⟨i, rfl⟩ : ∃ i : Nat, id = i := ⟨id.toNat, by omega⟩
    have hi : i < sl.length := by omega
    obtain ⟨r, cap, rfl, hr, cells, hty⟩ := h.row0 (by omega)
    have g0 : w.cell? ⟨g, 0, none⟩ = some (.slice (some ⟨r, 0, none⟩) sl.length cap) := blk_cell h.blk 0
    have hkr := h.kids i hi
    have g8 := h.cell8 i hi
    have CK := Aside0.mk (clone_calls hkr (hk i hi))
    obtain ⟨A8, c8, hv8⟩ := Kd.R_slice hkr
    rw [hv8] at g8 CK
    rw [e0]
    have CH := Aside0.mk (show True from trivial)
    generalize (rd_T70 sl (i : Int)).f2 = kl at CK g8
    clear h hty hkr hv8 hk e0
    go_enter Try.func37, Try.ntmps37
    go_wp2_with (go_at_call 57; refine CC.out.mono ?_; rintro e w1 ⟨rfl, rfl⟩; rw [hb])
    refine CK.out.mono ?_
    rintro e w2 ⟨v', rfl, hR, hbl⟩
    have HR := Aside0.mk hR
    have HB := Aside0.mk hbl
    clear hR hbl
    go_wp2_with fail
    go_ret
    exact ⟨_, rfl, HR.out, HB.out⟩
end Go.Proofs.Ytikfbipjlkhgeaa.P
