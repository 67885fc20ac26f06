/- FootIds: no two notes, and no two references, have one id. -/
import Derived.Test.YtbgbmphjjdiaeaaDoorIdsP
import Derived.Test.YtbgbmphjjdiaeaaDoorFootQ
namespace Go.Proofs.YtbgbmphjjdiaeaaDoor.P
open Go Go.RowKit Go.Proofs.YtbgbmphjjdiaeaaDoorW.PrintWords Go.Proofs.YtbgbmphjjdiaeaaDoorW.PrintLast Go.Proofs.YtbgbmphjjdiaeaaDoorW.PrintMore
attribute [local go_sem] max2_int min2_int max_two min_two
set_option linter.unusedVariables false
set_option linter.unusedSimpArgs false
theorem and65535 (n : Int) : ∃ m : Nat, wrap64 (1 + (Go.bits .and .i64 n 65535)) = (m : Int) ∧ 1 ≤ m ∧ m ≤ 65536 := by
  have h7 : (BitVec.ofInt 64 65535).toNat = 2 ^ 16 - 1 := by decide
  have key : (BitVec.ofInt 64 n &&& BitVec.ofInt 64 65535).toNat = (n % ((2 ^ 64 : Nat) : Int)).toNat % 2 ^ 16 := by
    rw [BitVec.toNat_and, BitVec.toNat_ofInt, h7, Nat.and_two_pow_sub_one_eq_mod]
  have e : bits .and .i64 n 65535 = (((n % ((2 ^ 64 : Nat) : Int)).toNat % 2 ^ 16 : Nat) : Int) := by
    show IntKind.i64.wrap ((BitVec.ofInt 64 n &&& BitVec.ofInt 64 65535).toNat : Nat) = _
    rw [key, IntKind.wrap_i64]
    omega
  refine ⟨1 + (n % ((2 ^ 64 : Nat) : Int)).toNat % 2 ^ 16, ?_, by omega, by omega⟩
  rw [e]
  unfold wrap64
  omega
theorem ids_f (w x : Nat) (hw : w ≤ 65536) (hx : x ≤ 65536) : foot_Ids.f (w : Int) (x : Int) = some (idN (w : Int), idR (w : Int) (x : Int)) := by
  unfold foot_Ids.f
  rw [if_pos (by omega)]
theorem beq_of {a b : List UInt8} {p : Bool} (h : a = b ↔ p = true) : (a == b) = p := by
  cases p with
  | true => exact beq_iff_eq.2 (h.2 rfl)
  | false => exact beq_eq_false_iff_ne.2 fun e => by cases h.1 e
theorem ids_law (w x y z : Nat) (hw : 1 ≤ w) (hx : 1 ≤ x) (hy : 1 ≤ y) (hz : 1 ≤ z) : ∃ bW bX : Bool, ((w : Int) == (y : Int)) = bW ∧ ((x : Int) == (z : Int)) = bX ∧ ((idN (w : Int)).toList == (idN (y : Int)).toList) = bW ∧ ((idR (w : Int) (x : Int)).toList == (idR (y : Int) (z : Int)).toList) = (bW && bX) ∧
    ((idN (w : Int)).toList == (idR (w : Int) (x : Int)).toList) = false ∧ ((idN (w : Int)).toList == (idR (y : Int) (z : Int)).toList) = false ∧ ((idN (y : Int)).toList == (idR (w : Int) (x : Int)).toList) = false := by
  refine ⟨decide (w = y), decide (x = z), ?_, ?_, ?_, ?_, ?_, ?_, ?_⟩
  · by_cases h : w = y
    · rw [decide_eq_true h, h]; exact beq_self_eq_true _
    · rw [decide_eq_false h]; exact beq_eq_false_iff_ne.2 (by omega)
  · by_cases h : x = z
    · rw [decide_eq_true h, h]; exact beq_self_eq_true _
    · rw [decide_eq_false h]; exact beq_eq_false_iff_ne.2 (by omega)
  · exact beq_of ((idN_eq w y hw hy).trans (by simp))
  · exact beq_of ((idR_eq w x y z hw hx hy hz).trans (by simp))
  · exact beq_eq_false_iff_ne.2 (idNR_ne w x w hw hw)
  · exact beq_eq_false_iff_ne.2 (idNR_ne w z y hw hy)
  · exact beq_eq_false_iff_ne.2 (idNR_ne y x w hy hw)
set_option maxRecDepth 100000 in
set_option maxHeartbeats 8000000 in
theorem FootIds.walk (a0 a1 a2 a3 : Int) (w : World) (hT : Tabs w) : Calls Tryd.prog 17 #[.int .i64 a0, .int .i64 a1, .int .i64 a2, .int .i64 a3] w fun e w' => e = .returned (.bool true) ∧ Below w.heap.size w w' := by
  have HT := Aside0.mk hT
  have HB := Aside0.mk (Below.refl w.heap.size w)
  obtain ⟨m0, e0, l0, u0⟩ := and65535 a0
  obtain ⟨m1, e1, l1, u1⟩ := and65535 a1
  obtain ⟨m2, e2, l2, u2⟩ := and65535 a2
  obtain ⟨m3, e3, l3, u3⟩ := and65535 a3
  obtain ⟨bW, bX, g1, g2, g3, g4, g5, g6, g7⟩ := ids_law m0 m1 m2 m3 l0 l1 l2 l3
  have AS0 := Aside0.mk (awake18 3 (Nat.le_refl _))
  have AS1 := Aside0.mk (ids_f m0 m1 u0 u1)
  have AS2 := Aside0.mk (ids_f m2 m3 u2 u3)
  generalize idN (m0 : Int) = tP at *
  generalize idR (m0 : Int) (m1 : Int) = tQ at *
  generalize idN (m2 : Int) = tR at *
  generalize idR (m2 : Int) (m3 : Int) = tS at *
  rw [← e0, ← e1] at AS1
  rw [← e2, ← e3] at AS2
  rw [← e0, ← e2] at g1
  rw [← e1, ← e3] at g2
  clear e0 e1 e2 e3 l0 l1 l2 l3 u0 u1 u2 u3 hT
  have n5 : (tP.toList != tQ.toList) = true := by rw [bne, g5]; rfl
  have n6 : (tP.toList != tS.toList) = true := by rw [bne, g6]; rfl
  have n7 : (tR.toList != tQ.toList) = true := by rw [bne, g7]; rfl
  cases bW
  all_goals
    cases bX
    all_goals
      (try simp only [Bool.and_true, Bool.and_false, Bool.true_and, Bool.false_and, Bool.and_self] at g4)
      go_enter Tryd.func17, Tryd.ntmps17
      go_wp2_with (first | ((with_reducible refine gate_callee (f := 18) rfl ?_); refine goesL_ (some 18) rfl rfl Tryd.func18 (by kernel_rfl) rfl #[] rfl (by (try simp only [List.map_toArray, List.map_cons, List.map_nil]); first | done | rfl | (simp only [List.length_drop, List.length_take]; rfl)) ?_; (with_reducible refine (incipitlaw18_awake.calls 3 true _ AS0.out (Tabs.below HT.out (by repeat (first | (with_reducible first | exact HB.out | apply below_alloc | apply pw_below_drewN | apply below_drew1) | exact HB.out)))).mono ?_); rintro e w14 ⟨rfl, hb⟩; refine ⟨_, rfl, ?_⟩; have n0_ := Aside0.mk (below_step (by repeat (first | (with_reducible first | exact HB.out | apply below_alloc | apply pw_below_drewN | apply below_drew1) | exact HB.out)) hb); clear HB; have HB := n0_; clear n0_; (try clear hb); (try clear hb2); (try clear hk); (try clear hi)) | ((with_reducible refine gate_callee (f := 46) rfl ?_); refine goesL_ (some 34) rfl rfl Tryd.func46 (by kernel_rfl) rfl #[.int .i64 (wrap64 (1 + (Go.bits .and .i64 a0 65535))), .int .i64 (wrap64 (1 + (Go.bits .and .i64 a1 65535)))] rfl (by (try simp only [List.map_toArray, List.map_cons, List.map_nil]); first | done | rfl | (simp only [List.length_drop, List.length_take]; rfl)) ?_; (with_reducible refine (foot_Ids.calls (wrap64 (1 + (Go.bits .and .i64 a0 65535))) (wrap64 (1 + (Go.bits .and .i64 a1 65535))) tP tQ _ AS1.out (Tabs.below HT.out (by repeat (first | (with_reducible first | exact HB.out | apply below_alloc | apply pw_below_drewN | apply below_drew1) | exact HB.out)))).mono ?_); rintro e w15 ⟨rfl, hb⟩; refine ⟨_, rfl, ?_⟩; have n0_ := Aside0.mk (below_step (by repeat (first | (with_reducible first | exact HB.out | apply below_alloc | apply pw_below_drewN | apply below_drew1) | exact HB.out)) hb); clear HB; have HB := n0_; clear n0_; (try clear hb); (try clear hb2); (try clear hk); (try clear hi)) | ((with_reducible refine gate_callee (f := 46) rfl ?_); refine goesL_ (some 40) rfl rfl Tryd.func46 (by kernel_rfl) rfl #[.int .i64 (wrap64 (1 + (Go.bits .and .i64 a2 65535))), .int .i64 (wrap64 (1 + (Go.bits .and .i64 a3 65535)))] rfl (by (try simp only [List.map_toArray, List.map_cons, List.map_nil]); first | done | rfl | (simp only [List.length_drop, List.length_take]; rfl)) ?_; (with_reducible refine (foot_Ids.calls (wrap64 (1 + (Go.bits .and .i64 a2 65535))) (wrap64 (1 + (Go.bits .and .i64 a3 65535))) tR tS _ AS2.out (Tabs.below HT.out (by repeat (first | (with_reducible first | exact HB.out | apply below_alloc | apply pw_below_drewN | apply below_drew1) | exact HB.out)))).mono ?_); rintro e w16 ⟨rfl, hb⟩; refine ⟨_, rfl, ?_⟩; have n0_ := Aside0.mk (below_step (by repeat (first | (with_reducible first | exact HB.out | apply below_alloc | apply pw_below_drewN | apply below_drew1) | exact HB.out)) hb); clear HB; have HB := n0_; clear n0_; (try clear hb); (try clear hb2); (try clear hk); (try clear hi)))
      go_ret
      exact ⟨by first | rfl | (simp; done), HB.out⟩
end Go.Proofs.YtbgbmphjjdiaeaaDoor.P
