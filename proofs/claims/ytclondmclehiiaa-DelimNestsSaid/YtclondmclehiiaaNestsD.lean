/- DelimNests as a plain Lean function (printed by the kit's printer, its ways to 'false' left out). -/
import Derived.Test.YtclondmclehiiaaMatch
import Derived.Test.YtclondmclehiiaaPk0
import Derived.Test.YtclondmclehiiaaPk4
namespace Go.Proofs.Ytclondmclehiiaa.P
open Go.RowKit Go.Proofs.YtclondmclehiiaaW.PrintWords Go.Proofs.YtclondmclehiiaaW.PrintLast Go.Proofs.YtclondmclehiiaaW.PrintMore
attribute [local go_sem] max2_int min2_int max_two min_two max_three min_three max_four min_four   -- for this text's walks alone
set_option linter.unusedVariables false
set_option linter.unusedSimpArgs false

/-! ### incipitlaw13_DelimNests: function 5 -/
mutual
def incipitlaw13_DelimNests.l0 : Nat → List (S28) → Bool → List Int → Int → Option (Bool)
  | 0, _, _, _, _ => none
  | k + 1, x0, x3, x4, x5 => if x5 < (x0.length : Int) then (if 0 ≤ x5 then (if ((rd_T28 x0 x5).f1) > 200 then (some x3) else (incipitlaw13_DelimNests.l0 k x0 x3 x4 (wrap64 (x5 + 1)))) else (none)) else ((delim_Match.f x0).bind fun t219 => (incipitlaw13_DelimNests.l1 k x0 x3 x4 t219 0))
def incipitlaw13_DelimNests.l1 : Nat → List (S28) → Bool → List Int → List (S40) → Int → Option (Bool)
  | 0, _, _, _, _, _ => none
  | k + 1, x0, x3, x4, x6, x7 => if x7 < (x6.length : Int) then (if 0 ≤ x7 then (if ((rd_T40 x6 x7).f0) < 0 then (none) else (if ((rd_T40 x6 x7).f1) ≥ (x0.length : Int) then (none) else (if ((rd_T40 x6 x7).f0) ≥ ((rd_T40 x6 x7).f1) then (none) else (if ((rd_T40 x6 x7).f2) < 1 then (none) else (if 0 ≤ ((rd_T40 x6 x7).f0) then (if ((rd_T40 x6 x7).f0) < (x0.length : Int) then (if 0 ≤ ((rd_T40 x6 x7).f1) then (if ((rd_T40 x6 x7).f1) < (x0.length : Int) then (if ((rd_T28 x0 ((rd_T40 x6 x7).f0)).f0) = ((rd_T28 x0 ((rd_T40 x6 x7).f1)).f0) then (if ((rd_T28 x0 ((rd_T40 x6 x7).f0)).f2 = true) then (if ((rd_T28 x0 ((rd_T40 x6 x7).f1)).f3 = true) then (if ((rd_T40 x6 x7).f2) > 2 then (incipitlaw13_DelimNests.j2 k x0 x3 x4 x6 x7 (((rd_T28 x0 ((rd_T40 x6 x7).f0)).f0) != 126) ((rd_T40 x6 x7).f0) ((rd_T40 x6 x7).f1) ((rd_T40 x6 x7).f2)) else (incipitlaw13_DelimNests.j2 k x0 x3 x4 x6 x7 false ((rd_T40 x6 x7).f0) ((rd_T40 x6 x7).f1) ((rd_T40 x6 x7).f2))) else (none)) else (none)) else (none)) else (none)) else (none)) else (none)) else (none)))))) else (none)) else (incipitlaw13_DelimNests.l3 k x0 x3 x4 0)
def incipitlaw13_DelimNests.j2 : Nat → List (S28) → Bool → List Int → List (S40) → Int → Bool → Int → Int → Int → Option (Bool)
  | 0, _, _, _, _, _, _, _, _, _ => none
  | k + 1, x0, x3, x4, x6, x7, x113, x224000, x224001, x224002 => if x113 = true then (none) else (if 0 ≤ x224000 then (if x224000 < (x4.length : Int) then ((some (x4.set (x224000 : Int).toNat (wrap64 ((rd x4 x224000) + x224002)) : List Int)).bind fun y230 => (if 0 ≤ x224001 then (if x224001 < (x4.length : Int) then (incipitlaw13_DelimNests.l2 k x0 x3 (y230.set (x224001 : Int).toNat (wrap64 ((rd y230 x224001) + x224002))) x6 x7 0 x224000 x224001 x224002) else (none)) else (none))) else (none)) else (none))
def incipitlaw13_DelimNests.l2 : Nat → List (S28) → Bool → List Int → List (S40) → Int → Int → Int → Int → Int → Option (Bool)
  | 0, _, _, _, _, _, _, _, _, _ => none
  | k + 1, x0, x3, x4, x6, x7, x9, x224000, x224001, x224002 => if x9 < x7 then (if 0 ≤ x9 then (if x9 < (x6.length : Int) then (if ((rd_T40 x6 x9).f0) < x224000 then (if x224000 < ((rd_T40 x6 x9).f1) then (if ((rd_T40 x6 x9).f1) < x224001 then (none) else (if x224000 < ((rd_T40 x6 x9).f0) then (if ((rd_T40 x6 x9).f0) < x224001 then (if x224001 < ((rd_T40 x6 x9).f1) then (none) else (incipitlaw13_DelimNests.l2 k x0 x3 x4 x6 x7 (wrap64 (x9 + 1)) x224000 x224001 x224002)) else (incipitlaw13_DelimNests.l2 k x0 x3 x4 x6 x7 (wrap64 (x9 + 1)) x224000 x224001 x224002)) else (incipitlaw13_DelimNests.l2 k x0 x3 x4 x6 x7 (wrap64 (x9 + 1)) x224000 x224001 x224002))) else (if x224000 < ((rd_T40 x6 x9).f0) then (if ((rd_T40 x6 x9).f0) < x224001 then (if x224001 < ((rd_T40 x6 x9).f1) then (none) else (incipitlaw13_DelimNests.l2 k x0 x3 x4 x6 x7 (wrap64 (x9 + 1)) x224000 x224001 x224002)) else (incipitlaw13_DelimNests.l2 k x0 x3 x4 x6 x7 (wrap64 (x9 + 1)) x224000 x224001 x224002)) else (incipitlaw13_DelimNests.l2 k x0 x3 x4 x6 x7 (wrap64 (x9 + 1)) x224000 x224001 x224002))) else (if x224000 < ((rd_T40 x6 x9).f0) then (if ((rd_T40 x6 x9).f0) < x224001 then (if x224001 < ((rd_T40 x6 x9).f1) then (none) else (incipitlaw13_DelimNests.l2 k x0 x3 x4 x6 x7 (wrap64 (x9 + 1)) x224000 x224001 x224002)) else (incipitlaw13_DelimNests.l2 k x0 x3 x4 x6 x7 (wrap64 (x9 + 1)) x224000 x224001 x224002)) else (incipitlaw13_DelimNests.l2 k x0 x3 x4 x6 x7 (wrap64 (x9 + 1)) x224000 x224001 x224002))) else (none)) else (none)) else (incipitlaw13_DelimNests.l1 k x0 x3 x4 x6 (wrap64 (x7 + 1)))
def incipitlaw13_DelimNests.l3 : Nat → List (S28) → Bool → List Int → Int → Option (Bool)
  | 0, _, _, _, _ => none
  | k + 1, x0, x3, x4, x11 => if x11 < (x0.length : Int) then (if 0 ≤ x11 then (if x11 < (x4.length : Int) then (if (rd x4 x11) > (mx 0 ((rd_T28 x0 x11).f1)) then (none) else (incipitlaw13_DelimNests.l3 k x0 x3 x4 (wrap64 (x11 + 1)))) else (none)) else (none)) else (some x3)
end
def incipitlaw13_DelimNests.f (k : Nat) (l0 : List (S28)) : Option (Bool) := (incipitlaw13_awake.f).bind fun t214 => (if (l0.length : Int) > 80 then (some t214) else (if 0 ≤ (l0.length : Int) then (if ((l0.length : Int) : Int).toNat ≤ 35184372088832 then (incipitlaw13_DelimNests.l0 k l0 t214 (List.replicate ((l0.length : Int) : Int).toNat 0) 0) else (none)) else (none)))
theorem incipitlaw13_DelimNests.mono_l : ∀ k, (∀ y0 y1 y2 y3, LeO (incipitlaw13_DelimNests.l0 k y0 y1 y2 y3) (incipitlaw13_DelimNests.l0 (k + 1) y0 y1 y2 y3)) ∧ (∀ y0 y1 y2 y3 y4, LeO (incipitlaw13_DelimNests.l1 k y0 y1 y2 y3 y4) (incipitlaw13_DelimNests.l1 (k + 1) y0 y1 y2 y3 y4)) ∧ (∀ y0 y1 y2 y3 y4 y5 y6 y7 y8, LeO (incipitlaw13_DelimNests.j2 k y0 y1 y2 y3 y4 y5 y6 y7 y8) (incipitlaw13_DelimNests.j2 (k + 1) y0 y1 y2 y3 y4 y5 y6 y7 y8)) ∧ (∀ y0 y1 y2 y3 y4 y5 y6 y7 y8, LeO (incipitlaw13_DelimNests.l2 k y0 y1 y2 y3 y4 y5 y6 y7 y8) (incipitlaw13_DelimNests.l2 (k + 1) y0 y1 y2 y3 y4 y5 y6 y7 y8)) ∧ (∀ y0 y1 y2 y3, LeO (incipitlaw13_DelimNests.l3 k y0 y1 y2 y3) (incipitlaw13_DelimNests.l3 (k + 1) y0 y1 y2 y3))
  | 0 => ⟨fun _ _ _ _ r h => by simp [incipitlaw13_DelimNests.l0] at h, fun _ _ _ _ _ r h => by simp [incipitlaw13_DelimNests.l1] at h, fun _ _ _ _ _ _ _ _ _ r h => by simp [incipitlaw13_DelimNests.j2] at h, fun _ _ _ _ _ _ _ _ _ r h => by simp [incipitlaw13_DelimNests.l2] at h, fun _ _ _ _ r h => by simp [incipitlaw13_DelimNests.l3] at h⟩
  | k + 1 => by
    obtain ⟨ih0, ih1, ih2, ih3, ih4⟩ := incipitlaw13_DelimNests.mono_l k
    refine ⟨?_, ?_, ?_, ?_, ?_⟩
    · intro y0 y1 y2 y3
      unfold incipitlaw13_DelimNests.l0
      repeat' first
      | (with_reducible exact ih0 _ _ _ _)
      | (with_reducible exact ih1 _ _ _ _ _)
      | (with_reducible exact ih2 _ _ _ _ _ _ _ _ _)
      | (with_reducible exact ih3 _ _ _ _ _ _ _ _ _)
      | (with_reducible exact ih4 _ _ _ _)
      | (with_reducible exact LeO.refl _)
      | (with_reducible exact LeO.none _)
      | (with_reducible refine LeO.ite ?_ ?_)
      | (with_reducible refine LeO.bind ?_ (fun _ => ?_))
      | exact ih0 _ _ _ _
      | exact ih1 _ _ _ _ _
      | exact ih2 _ _ _ _ _ _ _ _ _
      | exact ih3 _ _ _ _ _ _ _ _ _
      | exact ih4 _ _ _ _
      | exact LeO.none _
      | refine LeO.ite ?_ ?_
      | refine LeO.bind ?_ (fun _ => ?_)
    · intro y0 y1 y2 y3 y4
      unfold incipitlaw13_DelimNests.l1
      repeat' first
      | (with_reducible exact ih0 _ _ _ _)
      | (with_reducible exact ih1 _ _ _ _ _)
      | (with_reducible exact ih2 _ _ _ _ _ _ _ _ _)
      | (with_reducible exact ih3 _ _ _ _ _ _ _ _ _)
      | (with_reducible exact ih4 _ _ _ _)
      | (with_reducible exact LeO.refl _)
      | (with_reducible exact LeO.none _)
      | (with_reducible refine LeO.ite ?_ ?_)
      | (with_reducible refine LeO.bind ?_ (fun _ => ?_))
      | exact ih0 _ _ _ _
      | exact ih1 _ _ _ _ _
      | exact ih2 _ _ _ _ _ _ _ _ _
      | exact ih3 _ _ _ _ _ _ _ _ _
      | exact ih4 _ _ _ _
      | exact LeO.none _
      | refine LeO.ite ?_ ?_
      | refine LeO.bind ?_ (fun _ => ?_)
    · intro y0 y1 y2 y3 y4 y5 y6 y7 y8
      unfold incipitlaw13_DelimNests.j2
      repeat' first
      | (with_reducible exact ih0 _ _ _ _)
      | (with_reducible exact ih1 _ _ _ _ _)
      | (with_reducible exact ih2 _ _ _ _ _ _ _ _ _)
      | (with_reducible exact ih3 _ _ _ _ _ _ _ _ _)
      | (with_reducible exact ih4 _ _ _ _)
      | (with_reducible exact LeO.refl _)
      | (with_reducible exact LeO.none _)
      | (with_reducible refine LeO.ite ?_ ?_)
      | (with_reducible refine LeO.bind ?_ (fun _ => ?_))
      | exact ih0 _ _ _ _
      | exact ih1 _ _ _ _ _
      | exact ih2 _ _ _ _ _ _ _ _ _
      | exact ih3 _ _ _ _ _ _ _ _ _
      | exact ih4 _ _ _ _
      | exact LeO.none _
      | refine LeO.ite ?_ ?_
      | refine LeO.bind ?_ (fun _ => ?_)
    · intro y0 y1 y2 y3 y4 y5 y6 y7 y8
      unfold incipitlaw13_DelimNests.l2
      repeat' first
      | (with_reducible exact ih0 _ _ _ _)
      | (with_reducible exact ih1 _ _ _ _ _)
      | (with_reducible exact ih2 _ _ _ _ _ _ _ _ _)
      | (with_reducible exact ih3 _ _ _ _ _ _ _ _ _)
      | (with_reducible exact ih4 _ _ _ _)
      | (with_reducible exact LeO.refl _)
      | (with_reducible exact LeO.none _)
      | (with_reducible refine LeO.ite ?_ ?_)
      | (with_reducible refine LeO.bind ?_ (fun _ => ?_))
      | exact ih0 _ _ _ _
      | exact ih1 _ _ _ _ _
      | exact ih2 _ _ _ _ _ _ _ _ _
      | exact ih3 _ _ _ _ _ _ _ _ _
      | exact ih4 _ _ _ _
      | exact LeO.none _
      | refine LeO.ite ?_ ?_
      | refine LeO.bind ?_ (fun _ => ?_)
    · intro y0 y1 y2 y3
      unfold incipitlaw13_DelimNests.l3
      repeat' first
      | (with_reducible exact ih0 _ _ _ _)
      | (with_reducible exact ih1 _ _ _ _ _)
      | (with_reducible exact ih2 _ _ _ _ _ _ _ _ _)
      | (with_reducible exact ih3 _ _ _ _ _ _ _ _ _)
      | (with_reducible exact ih4 _ _ _ _)
      | (with_reducible exact LeO.refl _)
      | (with_reducible exact LeO.none _)
      | (with_reducible refine LeO.ite ?_ ?_)
      | (with_reducible refine LeO.bind ?_ (fun _ => ?_))
      | exact ih0 _ _ _ _
      | exact ih1 _ _ _ _ _
      | exact ih2 _ _ _ _ _ _ _ _ _
      | exact ih3 _ _ _ _ _ _ _ _ _
      | exact ih4 _ _ _ _
      | exact LeO.none _
      | refine LeO.ite ?_ ?_
      | refine LeO.bind ?_ (fun _ => ?_)
theorem incipitlaw13_DelimNests.mono : ∀ a0 k, LeO (incipitlaw13_DelimNests.f k a0) (incipitlaw13_DelimNests.f (k + 1) a0) := by
  intro a0 k
  obtain ⟨ih0, ih1, ih2, ih3, ih4⟩ := incipitlaw13_DelimNests.mono_l k
  unfold incipitlaw13_DelimNests.f
  repeat' first
      | (with_reducible exact ih0 _ _ _ _)
      | (with_reducible exact ih1 _ _ _ _ _)
      | (with_reducible exact ih2 _ _ _ _ _ _ _ _ _)
      | (with_reducible exact ih3 _ _ _ _ _ _ _ _ _)
      | (with_reducible exact ih4 _ _ _ _)
      | (with_reducible exact LeO.refl _)
      | (with_reducible exact LeO.none _)
      | (with_reducible refine LeO.ite ?_ ?_)
      | (with_reducible refine LeO.bind ?_ (fun _ => ?_))
      | exact ih0 _ _ _ _
      | exact ih1 _ _ _ _ _
      | exact ih2 _ _ _ _ _ _ _ _ _
      | exact ih3 _ _ _ _ _ _ _ _ _
      | exact ih4 _ _ _ _
      | exact LeO.none _
      | refine LeO.ite ?_ ?_
      | refine LeO.bind ?_ (fun _ => ?_)
def incipitlaw13_DelimNests.T15 : Bool × List (List Nat × List Nat) := (true, [([], []), ([0], [0]), ([1], [1]), ([2], [2]), ([3], [3]), ([4, 3], [3, 4]), ([3], [3]), ([6, 3], [3, 6]), ([5, 7, 3], [3, 5, 7]), ([3, 8], [3, 8]), ([9, 3], [9]), ([10], [10]), ([11, 10], [10, 11]), ([10], [10]), ([13, 10], [10, 13]), ([12, 14, 10], [10, 12, 14]), ([10, 15], [10, 15]), ([16, 10], [16]), ([17], [17]), ([18, 17], [17, 18]), ([19, 17], [17, 19]), ([17, 20], [17, 20]), ([21, 17], [21]), ([22], [22]), ([22], [22]), ([24, 22], [22, 24]), ([23, 25, 22], [22, 23, 25]), ([26, 22], [22, 26]), ([27, 22], [22, 27]), ([22], [22]), ([22], [22]), ([30, 22], [22, 30]), ([29, 31, 22], [22, 29, 31]), ([32, 22], [22, 32]), ([33, 22], [22, 33]), ([28, 34, 22], [22, 28, 34]), ([22, 35], [22, 35]), ([36, 22], [36]), ([37], [37]), ([37], [37]), ([39, 37], [37, 39]), ([38, 40, 37], [37, 38, 40]), ([41, 37], [37, 41]), ([42, 37], [37, 42]), ([43, 37], [37, 43]), ([37, 44], [37, 44]), ([45, 37], [45]), ([46], [46]), ([46], [46]), ([48, 46], [46, 48]), ([47, 49, 46], [46, 47, 49]), ([50, 46], [46, 50]), ([51, 46], [46, 51]), ([52, 46], [46, 52]), ([46, 53], [46, 53]), ([54, 46], [54]), ([55], [55]), ([56, 55], [55, 56]), ([57, 55], [55, 57]), ([58, 55, 55], [55, 58]), ([59], [59]), ([59], [59]), ([61, 59], [59, 61]), ([60, 62, 59], [59, 60, 62]), ([63, 59], [59, 63]), ([64, 59], [59, 64]), ([65, 59], [59, 65]), ([59, 66, 55], [55, 59, 66]), ([55, 67], [55, 67])])
def incipitlaw13_DelimNests.B15 : List Nat := [0, 1, 3, 7, 15, 31, 15, 79, 255, 511, 1023, 2047, 4095, 2047, 10239, 32767, 65535, 131071, 262143, 524287, 1048575, 2097151, 4194303, 8388607, 8388607, 25165823, 67108863, 134217727, 268435455, 8388607, 8388607, 1082130431, 3766484991, 8061452287, 16651386879, 34359738367, 68719476735, 137438953471, 274877906943, 274877906943, 824633720831, 2199023255551, 4398046511103, 8796093022207, 17592186044415, 35184372088831, 70368744177663, 140737488355327, 140737488355327, 422212465065983, 1125899906842623, 2251799813685247, 4503599627370495, 9007199254740991, 18014398509481983, 36028797018963967, 72057594037927935, 144115188075855871, 288230376151711743, 576460752303423487, 1152921504606846975, 1152921504606846975, 3458764513820540927, 9223372036854775807, 18446744073709551615, 36893488147419103231, 73786976294838206463, 147573952589676412927, 295147905179352825855]
theorem incipitlaw13_DelimNests.tab15 : rtab .any (opsOf Try.f5 15) = incipitlaw13_DelimNests.T15 := by kernel_rfl
theorem incipitlaw13_DelimNests.bits15 : waitsOk incipitlaw13_DelimNests.T15.2 incipitlaw13_DelimNests.B15 = true := by kernel_rfl
def incipitlaw13_DelimNests.T17 : Bool × List (List Nat × List Nat) := (true, [([], []), ([], []), ([1], [1]), ([], []), ([], []), ([4], [4]), ([3, 5], [3, 5]), ([6], [6]), ([], []), ([8], [8]), ([7, 9], [7, 9]), ([0, 2, 0, 1, 2, 3, 4, 5, 6, 7, 8, 9, 10], [0, 2]), ([11, 10, 0, 1, 2, 3, 4, 5, 6, 7, 8, 9, 10], [10, 11])])
def incipitlaw13_DelimNests.B17 : List Nat := [0, 0, 2, 0, 0, 16, 56, 120, 0, 256, 1016, 2047, 4095]
theorem incipitlaw13_DelimNests.tab17 : rtab .any (opsOf Try.f5 17) = incipitlaw13_DelimNests.T17 := by kernel_rfl
theorem incipitlaw13_DelimNests.bits17 : waitsOk incipitlaw13_DelimNests.T17.2 incipitlaw13_DelimNests.B17 = true := by kernel_rfl
def incipitlaw13_DelimNests.T18 : Bool × List (List Nat × List Nat) := (true, [([], []), ([], []), ([1], [1]), ([], []), ([], []), ([4], [4]), ([3, 5], [3, 5]), ([6], [6]), ([], []), ([8], [8]), ([7, 9], [7, 9]), ([0, 2, 0, 1, 2, 3, 4, 5, 6, 7, 8, 9, 10], [0, 2]), ([11, 10, 0, 1, 2, 3, 4, 5, 6, 7, 8, 9, 10], [10, 11])])
def incipitlaw13_DelimNests.B18 : List Nat := [0, 0, 2, 0, 0, 16, 56, 120, 0, 256, 1016, 2047, 4095]
theorem incipitlaw13_DelimNests.tab18 : rtab .any (opsOf Try.f5 18) = incipitlaw13_DelimNests.T18 := by kernel_rfl
theorem incipitlaw13_DelimNests.bits18 : waitsOk incipitlaw13_DelimNests.T18.2 incipitlaw13_DelimNests.B18 = true := by kernel_rfl
def incipitlaw13_DelimNests.T28 : Bool × List (List Nat × List Nat) := (true, [([], []), ([], []), ([0, 1], [0, 1]), ([2], [2]), ([], []), ([], []), ([4, 5], [4, 5]), ([6], [6]), ([7], [7]), ([8], [8]), ([3, 9], [3, 9])])
def incipitlaw13_DelimNests.B28 : List Nat := [0, 0, 3, 7, 0, 0, 48, 112, 240, 496, 1023]
theorem incipitlaw13_DelimNests.tab28 : rtab .any (opsOf Try.f5 28) = incipitlaw13_DelimNests.T28 := by kernel_rfl
theorem incipitlaw13_DelimNests.bits28 : waitsOk incipitlaw13_DelimNests.T28.2 incipitlaw13_DelimNests.B28 = true := by kernel_rfl
end Go.Proofs.Ytclondmclehiiaa.P
