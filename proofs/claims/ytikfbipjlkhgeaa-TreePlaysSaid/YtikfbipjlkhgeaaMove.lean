/- (*Arena).Move. -/
import Derived.Test.YtikfbipjlkhgeaaForestW
namespace Go.Proofs.Ytikfbipjlkhgeaa.P
open Go.RowKit Go.Proofs.YtikfbipjlkhgeaaW.PrintWords Go.Proofs.YtikfbipjlkhgeaaW.PrintLast Go.Proofs.YtikfbipjlkhgeaaW.PrintMore
set_option linter.unusedVariables false
set_option linter.unusedSimpArgs false
set_option maxRecDepth 100000 in
set_option maxHeartbeats 8000000 in
theorem move_calls {w : World} {B g : Nat} {sl : List S70} (h : Ar w B g sl) (hw : Wf sl) (hs : sl.length < 1000000) (id p : Int) :
    Calls Try.prog 28 #[.pointer (some ⟨g, 0, none⟩), .int .i64 id, .int .i64 p] w fun e w' => ∃ sl' b, e = .returned (.bool b) ∧ Below B w w' ∧ FrameT w w' ∧ Ar w' B g sl' ∧ MoveRel sl id p b sl' := by
  have HA := Aside0.mk h
  have HW := Aside0.mk hw
  have CH := Aside0.mk (fun (x : Int) => show Calls Try.prog 57 #[.pointer (some ⟨g, 0, none⟩), .int .i64 x] w fun e w' => e = .returned (.bool (hasB sl x)) ∧ w' = w from by obtain ⟨v, rows, h⟩ := h; exact has_calls h.rd x)
  clear h hw
  cases h1 : hasB sl id with
  | false =>
    go_enter Try.func28, Try.ntmps28
    go_wp2_with (first | (go_at_call 57; refine (CH.out id).mono ?_; rintro e w1 ⟨rfl, rfl⟩; rw [h1]))
    go_ret
    exact ⟨sl, false, rfl, Below.refl _ _, FrameT.refl _, HA.out, .inr ⟨rfl, rfl, fun h => by rw [h1] at h; cases h.1⟩⟩
  | true =>
  cases h2 : hasB sl p with
  | false =>
    go_enter Try.func28, Try.ntmps28
    go_wp2_with fail
    refine (CH.out id).mono ?_
    rintro e w1 ⟨rfl, rfl⟩
    rw [h1]
    go_wp2_with fail
    refine (CH.out p).mono ?_
    rintro e w1 ⟨rfl, rfl⟩
    rw [h2]
    go_wp2_with fail
    go_ret
    exact ⟨sl, false, rfl, Below.refl _ _, FrameT.refl _, HA.out, .inr ⟨rfl, rfl, fun h => by rw [h2] at h; cases h.2.1⟩⟩
  | true =>
  obtain ⟨a0, a1⟩ := (hasB_iff sl id).1 h1
  obtain ⟨b0, b1⟩ := (hasB_iff sl p).1 h2
  obtain ⟨i, rfl⟩ : ∃ i : Nat, id = i := ⟨id.toNat, by omega⟩
  obtain ⟨q, rfl⟩ : ∃ q : Nat, p = q := ⟨p.toNat, by omega⟩
  have hi : i < sl.length := by omega
  have hq : q < sl.length := by omega
  clear a0 a1 b0 b1
  by_cases h3 : i = 0
  · have c3 : ((i : Int) == 0) = true := beq_iff_eq.2 (by omega)
    have H3 := Aside0.mk h3
    clear h3
    go_enter Try.func28, Try.ntmps28
    go_wp2_with fail
    refine (CH.out i).mono ?_
    rintro e w1 ⟨rfl, rfl⟩
    rw [h1]
    go_wp2_with fail
    refine (CH.out q).mono ?_
    rintro e w1 ⟨rfl, rfl⟩
    rw [h2]
    go_wp2_with fail
    go_ret
    exact ⟨sl, false, rfl, Below.refl _ _, FrameT.refl _, HA.out, .inr ⟨rfl, rfl, fun h => h.2.2.1 (by have := H3.out; omega)⟩⟩
  have c3 : ((i : Int) == 0) = false := beq_eq_false_iff_ne.2 (by omega)
  have H3 := Aside0.mk h3
  clear h3
  obtain ⟨d, hu⟩ := HW.out.up
  have CA := Aside0.mk (at_calls HA.out hu q hq (i : Int) (d q + 2) (by omega))
  have hat := at_enough hu (i : Int) (d q + 1) q (d q + 2) (by omega) hq (by omega)
  have HAT := Aside0.mk hat
  clear hat
  cases h4 : atF sl (d q + 2) q i with
  | true =>
    have hanc := HAT.out.1 h4
    go_enter Try.func28, Try.ntmps28
    go_wp2_with fail
    refine (CH.out i).mono ?_
    rintro e w1 ⟨rfl, rfl⟩
    rw [h1]
    go_wp2_with fail
    refine (CH.out q).mono ?_
    rintro e w1 ⟨rfl, rfl⟩
    rw [h2]
    go_wp2_with fail
    refine CA.out.mono ?_
    rintro e w1 ⟨rfl, rfl⟩
    rw [h4]
    go_wp2_with fail
    go_ret
    exact ⟨sl, false, rfl, Below.refl _ _, FrameT.refl _, HA.out, .inr ⟨rfl, rfl, fun h => h.2.2.2 hanc⟩⟩
  | false =>
    have hna : ¬ Anc sl q i := fun h => by have := HAT.out.2 h; rw [h4] at this; cases this
    have hkb := HW.out.kb
    have CU : Aside0 (∃ b, Calls Try.prog 36 #[.pointer (some ⟨g, 0, none⟩), .int .i64 i] w fun e w' => e = .returned (.bool b) ∧ Below B w w' ∧ FrameT w w' ∧ Ar w' B g (if 0 ≤ par sl i then unlinkS sl i (par sl i).toNat else sl)) := ⟨by
      rcases hu.pr i hi with e | ⟨r, hr, e, _⟩
      · have e : par sl i = -1 := e
        rw [if_neg (by omega)]
        refine ⟨false, (unlink_no HA.out i ?_).mono ?_⟩
        · show parentB sl i < 0
          unfold parentB
          rw [if_pos h1]
          show par sl i < 0
          omega
        · rintro e w' ⟨rfl, rfl⟩
          exact ⟨rfl, Below.refl _ _, FrameT.refl _, HA.out⟩
      · have e : par sl i = (r : Int) := e
        rw [if_pos (by omega), e]
        simp only [Int.toNat_natCast]
        exact ⟨true, unlink_yes HA.out i r hi hr e ((HW.out.kd r hr i).2 ⟨i, hi, rfl, e⟩) (by have := hkb r hr; omega)⟩⟩
    obtain ⟨b, cu⟩ := CU.out
    have CV := Aside0.mk cu
    have HL := Aside0.mk (show ∀ j : Nat, j < sl.length → (rd_T70 (if 0 ≤ par sl i then unlinkS sl i (par sl i).toNat else sl) (j : Int)).f2.length < 1000000000 ∧ (if 0 ≤ par sl i then unlinkS sl i (par sl i).toNat else sl).length = sl.length from fun j hj => by
      rcases hu.pr i hi with e | ⟨r, hr, e, _⟩
      · have e : par sl i = -1 := e
        rw [if_neg (by omega)]
        have := hkb j hj
        exact ⟨by omega, rfl⟩
      · have e : par sl i = (r : Int) := e
        rw [if_pos (by omega), e]
        simp only [Int.toNat_natCast]
        have hw := (unlink_wf HW.out i r hi hr e).kb j (by rw [unlinkS_len]; exact hj)
        rw [unlinkS_len] at hw
        exact ⟨by omega, unlinkS_len _ _ _⟩)
    have HM := Aside0.mk (show moveS sl i q = linkS (if 0 ≤ par sl i then unlinkS sl i (par sl i).toNat else sl) i q from rfl)
    generalize (if 0 ≤ par sl i then unlinkS sl i (par sl i).toNat else sl) = s1 at CV HL HM
    clear cu CU hkb
    go_enter Try.func28, Try.ntmps28
    go_wp2_with fail
    refine (CH.out i).mono ?_
    rintro e w1 ⟨rfl, rfl⟩
    rw [h1]
    go_wp2_with fail
    refine (CH.out q).mono ?_
    rintro e w1 ⟨rfl, rfl⟩
    rw [h2]
    go_wp2_with fail
    refine CA.out.mono ?_
    rintro e w1 ⟨rfl, rfl⟩
    rw [h4]
    go_wp2_with fail
    refine CV.out.mono ?_
    rintro e w2 ⟨rfl, hb2, hf2, ha2⟩
    have CL := Aside0.mk (link_calls ha2 i q (by rw [(HL.out q hq).2]; exact hi) (by rw [(HL.out q hq).2]; exact hq) (HL.out q hq).1)
    have B2 := Aside0.mk hb2
    have F2 := Aside0.mk hf2
    clear hb2 hf2 ha2
    go_wp2_with fail
    refine CL.out.mono ?_
    rintro e w3 ⟨rfl, hb3, hf3, ha3⟩
    have B3 := Aside0.mk (B2.out.trans hb3)
    have F3 := Aside0.mk (F2.out.trans hf3)
    have HA3 := Aside0.mk ha3
    clear hb3 hf3 ha3
    go_wp2_with fail
    go_ret
    exact ⟨moveS sl i q, true, rfl, B3.out, F3.out, by rw [HM.out]; exact HA3.out, .inl ⟨rfl, i, q, rfl, rfl, hi, hq, H3.out, hna, rfl⟩⟩
end Go.Proofs.Ytikfbipjlkhgeaa.P
