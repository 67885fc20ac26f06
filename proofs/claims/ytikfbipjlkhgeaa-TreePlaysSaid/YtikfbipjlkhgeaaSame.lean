/- tree.Same: for all trees the call returns whether they are the same, and writes to no memory that was there. -/
import Derived.Test.YtikfbipjlkhgeaaPk0
import Derived.Deep.RegionHeld3
import Derived.Deep.DeepCutAuto
import Derived.Deep.LoopGhost
namespace Go.Proofs.Ytikfbipjlkhgeaa.P
open Go.RowKit Go.Proofs.YtikfbipjlkhgeaaW.PrintWords Go.Proofs.YtikfbipjlkhgeaaW.PrintLast Go.Proofs.YtikfbipjlkhgeaaW.PrintMore
set_option linter.unusedVariables false
set_option linter.unusedSimpArgs false
mutual
def sameT : S24 → S24 → Bool
  | ⟨a0, a1, a2, a3, a4, a5, l⟩, ⟨b0, b1, b2, b3, b4, b5, m⟩ => (a0 == b0) && ((a1.toList == b1.toList) && ((a2.toList == b2.toList) && ((a3 == b3) && ((a4 == b4) && ((a5 == b5) && sameL l m)))))
def sameL : List S24 → List S24 → Bool
  | [], [] => true
  | x :: l, y :: m => sameT x y && sameL l m
  | [], _ :: _ => false
  | _ :: _, [] => false
end
theorem sameL_iff : ∀ (l m : List S24), sameL l m = true ↔ l.length = m.length ∧ ∀ i : Nat, i < l.length → sameT (rd_T24 l (i : Int)) (rd_T24 m (i : Int)) = true
  | [], [] => by simp [sameL]
  | [], _ :: _ => by simp [sameL]
  | _ :: _, [] => by simp [sameL]
  | x :: l, y :: m => by
    unfold sameL
    rw [Bool.and_eq_true, sameL_iff l m]
    constructor
    · rintro ⟨h1, h2, h3⟩
      refine ⟨by simp [h2], fun i hi => ?_⟩
      cases i with
      | zero => exact h1
      | succ i => exact h3 i (by simpa using hi)
    · rintro ⟨h1, h2⟩
      refine ⟨h2 0 (by simp), by simpa using h1, fun i hi => h2 (i + 1) (by simpa using hi)⟩

section
attribute [local go_sem] World.cell?_alloc_some
set_option maxRecDepth 100000 in
set_option maxHeartbeats 8000000 in
theorem equalFunc_calls (w : World) (A B : Option Addr) (c d : Nat) (l m : List S24) (hl : Kd.C k24 w A l.length l) (hm : Kd.C k24 w B m.length m)
    (ih : ∀ i : Nat, i < l.length → i < m.length → ∀ (w1 : World) (A6 B6 : Option Addr) (c6 d6 : Nat), Kd.C k24 w1 A6 (rd_T24 l (i : Int)).f6.length (rd_T24 l (i : Int)).f6 → Kd.C k24 w1 B6 (rd_T24 m (i : Int)).f6.length (rd_T24 m (i : Int)).f6 →
      Calls Try.prog 15 #[.agg #[.int .i64 (rd_T24 l (i : Int)).f0, .string (rd_T24 l (i : Int)).f1, .string (rd_T24 l (i : Int)).f2, .int .i64 (rd_T24 l (i : Int)).f3, .int .i64 (rd_T24 l (i : Int)).f4, .bool (rd_T24 l (i : Int)).f5, .slice A6 (rd_T24 l (i : Int)).f6.length c6], .agg #[.int .i64 (rd_T24 m (i : Int)).f0, .string (rd_T24 m (i : Int)).f1, .string (rd_T24 m (i : Int)).f2, .int .i64 (rd_T24 m (i : Int)).f3, .int .i64 (rd_T24 m (i : Int)).f4, .bool (rd_T24 m (i : Int)).f5, .slice B6 (rd_T24 m (i : Int)).f6.length d6]] w1 fun e w2 => e = .returned (.bool (sameT (rd_T24 l (i : Int)) (rd_T24 m (i : Int)))) ∧ Below w1.heap.size w1 w2) :
    Calls Try.prog 52 #[.slice A l.length c, .slice B m.length d, .func (.func 15) #[] #[]] w fun e w' => e = .returned (.bool (sameL l m)) ∧ Below w.heap.size w w' := by
  have hu24 := Try.underlying24
  have HL := Aside0.mk hl
  have HM := Aside0.mk hm
  have IH := Aside0.mk ih
  have hnl : l.length ≤ 9223372036854775807 := hl.2.1
  clear hl hm ih
  by_cases hlen : l.length = m.length
  rotate_left
  · have e0 : sameL l m = false := by
      cases h : sameL l m with
      | false => rfl
      | true => exact absurd ((sameL_iff l m).1 h).1 hlen
    have c0 : ((l.length : Int) != (m.length : Int)) = true := by simp; omega
    have c1 : ((l.length : Int) == (m.length : Int)) = false := by simp; omega
    rw [e0]
    go_enter Try.func52, Try.ntmps52
    go_wp2_with fail
    go_ret
    exact ⟨rfl, Below.refl _ _⟩
  have c0 : ((l.length : Int) != (m.length : Int)) = false := by simp [hlen]
  have c1 : ((l.length : Int) == (m.length : Int)) = true := by simp [hlen]
  have HLEN := Aside0.mk hlen
  clear hlen
  go_enter Try.func52, Try.ntmps52
  go_wp2_with fail
  go_loopw [17] (fun v wr => ∃ i : Nat, i ≤ l.length ∧ v = .int .i64 i ∧ Aside0 (∀ j : Nat, j < i → sameT (rd_T24 l (j : Int)) (rd_T24 m (j : Int)) = true) ∧ Aside0 (Below w.heap.size w wr)) (fun v _ => l.length - (intOf v).toNat)
  case atStart => exact ⟨0, by omega, rfl, ⟨fun j hj => by omega⟩, ⟨Below.refl _ _⟩⟩
  case round =>
    obtain ⟨i, hi, rfl, HS, HB⟩ := hrel
    by_cases hlt : i < l.length
    · obtain ⟨ad, A6, c6, rfl, x0, x1, x2, x3, x4, x5, x6, xc, xg⟩ := at_T24 (Kd.C_below HL.out HB.out) (i : Int) (by omega) (by omega)
      obtain ⟨bd, B6, d6, rfl, y0, y1, y2, y3, y4, y5, y6, yc, yg⟩ := at_T24 (Kd.C_below HM.out HB.out) (i : Int) (by omega) (by have := HLEN.out; omega)
      have XG := Aside0.mk xg
      have YG := Aside0.mk yg
      have IHI := Aside0.mk (IH.out i hlt (by have := HLEN.out; omega))
      have b0 := below_step HB.out (below_alloc (below_alloc (Below.refl wr.heap.size wr) (.cells #[.int .i64 (rd_T24 l (i : Int)).f0, .string (rd_T24 l (i : Int)).f1, .string (rd_T24 l (i : Int)).f2, .int .i64 (rd_T24 l (i : Int)).f3, .int .i64 (rd_T24 l (i : Int)).f4, .bool (rd_T24 l (i : Int)).f5, .slice A6 (rd_T24 l (i : Int)).f6.length c6] 24)) (.cells #[.int .i64 (rd_T24 m (i : Int)).f0, .string (rd_T24 m (i : Int)).f1, .string (rd_T24 m (i : Int)).f2, .int .i64 (rd_T24 m (i : Int)).f3, .int .i64 (rd_T24 m (i : Int)).f4, .bool (rd_T24 m (i : Int)).f5, .slice B6 (rd_T24 m (i : Int)).f6.length d6] 24))
      have B0 := Aside0.mk b0
      clear xg yg b0
      simp only [Int.toNat_natCast] at x0 x1 x2 x3 x4 x5 x6 y0 y1 y2 y3 y4 y5 y6
      have n0 := World.new_ne wr _ y0
      have hiI : (i : Int) < (l.length : Int) := by omega
      have hiM : (i : Int) < (m.length : Int) := by have := HLEN.out; omega
      cases hr : sameT (rd_T24 l (i : Int)) (rd_T24 m (i : Int)) with
      | true =>
        go_wp2_with (go_at_call 15; refine (IHI.out _ A6 B6 c6 d6 (Kd.C_below XG.out ?_) (Kd.C_below YG.out ?_)).mono ?_; exact below_alloc (below_alloc (Below.refl _ _) _) _; exact below_alloc (below_alloc (Below.refl _ _) _) _; rintro e w1 ⟨rfl, hb⟩; have B1 := Aside0.mk (below_step B0.out hb); clear hb; rw [hr])
        go_roundw
        case rel => exact ⟨i + 1, by omega, by go_num, ⟨fun j hj => by
          by_cases e : j = i
          · rw [e]; exact hr
          · exact HS.out j (by omega)⟩, B1⟩
        case measure => simp [intOf]; omega
      | false =>
        have e0 : sameL l m = false := by
          cases h : sameL l m with
          | false => rfl
          | true => rw [((sameL_iff l m).1 h).2 i hlt] at hr; cases hr
        go_wp2_with (go_at_call 15; refine (IHI.out _ A6 B6 c6 d6 (Kd.C_below XG.out ?_) (Kd.C_below YG.out ?_)).mono ?_; exact below_alloc (below_alloc (Below.refl _ _) _) _; exact below_alloc (below_alloc (Below.refl _ _) _) _; rintro e w1 ⟨rfl, hb⟩; have B1 := Aside0.mk (below_step B0.out hb); clear hb; rw [hr])
        go_ret
        exact ⟨by first | rfl | (rw [e0]; rfl), B1.out⟩
    · have e0 : sameL l m = true := (sameL_iff l m).2 ⟨HLEN.out, fun j hj => HS.out j (by omega)⟩
      have hiI : ¬ (i : Int) < (l.length : Int) := by omega
      go_wp2_with fail
      go_ret
      exact ⟨by first | rfl | (rw [e0]; rfl), HB.out⟩
end
theorem rd24_mem (l : List S24) (i : Nat) (hi : i < l.length) : rd_T24 l (i : Int) ∈ l := by
  show l.getD i z24 ∈ l
  rw [List.getD_eq_getElem?_getD, List.getElem?_eq_getElem hi]
  exact List.getElem_mem hi
section
attribute [local go_sem] World.cell?_alloc_some
set_option maxRecDepth 100000 in
set_option maxHeartbeats 8000000 in
theorem same_calls : ∀ (n : Nat) (x0 : Int) (x1 x2 : ByteArray) (x3 x4 : Int) (x5 : Bool) (l : List S24) (y0 : Int) (y1 y2 : ByteArray) (y3 y4 : Int) (y5 : Bool) (m : List S24) (A B : Option Addr) (c d : Nat) (w : World), SizeOf.sizeOf l < n → Kd.C k24 w A l.length l → Kd.C k24 w B m.length m →
    Calls Try.prog 15 #[.agg #[.int .i64 x0, .string x1, .string x2, .int .i64 x3, .int .i64 x4, .bool x5, .slice A l.length c], .agg #[.int .i64 y0, .string y1, .string y2, .int .i64 y3, .int .i64 y4, .bool y5, .slice B m.length d]] w fun e w' => e = .returned (.bool (sameT ⟨x0, x1, x2, x3, x4, x5, l⟩ ⟨y0, y1, y2, y3, y4, y5, m⟩)) ∧ Below w.heap.size w w'
  | 0, _, _, _, _, _, _, _, _, _, _, _, _, _, _, _, _, _, _, _, h, _, _ => absurd h (by omega)
  | n + 1, x0, x1, x2, x3, x4, x5, l, y0, y1, y2, y3, y4, y5, m, A, B, c, d, w, h, hl, hm => by
    have HL := Aside0.mk hl
    have HM := Aside0.mk hm
    have IH : Aside0 (∀ i : Nat, i < l.length → i < m.length → ∀ (w1 : World) (A6 B6 : Option Addr) (c6 d6 : Nat), Kd.C k24 w1 A6 (rd_T24 l (i : Int)).f6.length (rd_T24 l (i : Int)).f6 → Kd.C k24 w1 B6 (rd_T24 m (i : Int)).f6.length (rd_T24 m (i : Int)).f6 →
        Calls Try.prog 15 #[.agg #[.int .i64 (rd_T24 l (i : Int)).f0, .string (rd_T24 l (i : Int)).f1, .string (rd_T24 l (i : Int)).f2, .int .i64 (rd_T24 l (i : Int)).f3, .int .i64 (rd_T24 l (i : Int)).f4, .bool (rd_T24 l (i : Int)).f5, .slice A6 (rd_T24 l (i : Int)).f6.length c6], .agg #[.int .i64 (rd_T24 m (i : Int)).f0, .string (rd_T24 m (i : Int)).f1, .string (rd_T24 m (i : Int)).f2, .int .i64 (rd_T24 m (i : Int)).f3, .int .i64 (rd_T24 m (i : Int)).f4, .bool (rd_T24 m (i : Int)).f5, .slice B6 (rd_T24 m (i : Int)).f6.length d6]] w1
          fun e w2 => e = .returned (.bool (sameT (rd_T24 l (i : Int)) (rd_T24 m (i : Int)))) ∧ Below w1.heap.size w1 w2) := ⟨fun i hi hi2 w1 A6 B6 c6 d6 h1 h2 => by
      have hs := List.sizeOf_lt_of_mem (rd24_mem l i hi)
      cases hx : rd_T24 l (i : Int) with
      | mk u0 u1 u2 u3 u4 u5 u6 =>
        cases hy : rd_T24 m (i : Int) with
        | mk v0 v1 v2 v3 v4 v5 v6 =>
          rw [hx] at h1 hs
          rw [hy] at h2
          exact same_calls n u0 u1 u2 u3 u4 u5 u6 v0 v1 v2 v3 v4 v5 v6 A6 B6 c6 d6 w1 (by simp only [S24.mk.sizeOf_spec] at hs; omega) h1 h2⟩
    clear hl hm
    obtain ⟨r, hr⟩ : ∃ r, sameT ⟨x0, x1, x2, x3, x4, x5, l⟩ ⟨y0, y1, y2, y3, y4, y5, m⟩ = r := ⟨_, rfl⟩
    rw [hr]
    have hr2 : ((x0 == y0) && ((x1.toList == y1.toList) && ((x2.toList == y2.toList) && ((x3 == y3) && ((x4 == y4) && ((x5 == y5) && sameL l m)))))) = r := by rw [← hr]; unfold sameT; rfl
    clear hr
    have HR := Aside0.mk hr2
    clear hr2
    have hu24 := Try.underlying24
    have HB := Aside0.mk (below_alloc (below_alloc (Below.refl w.heap.size w) (.cells #[.int .i64 x0, .string x1, .string x2, .int .i64 x3, .int .i64 x4, .bool x5, .slice A l.length c] 24)) (.cells #[.int .i64 y0, .string y1, .string y2, .int .i64 y3, .int .i64 y4, .bool y5, .slice B m.length d] 24))
    cases h0 : (x0 == y0) with
    | false =>
      have H := HR.out
      rw [h0] at H
      simp only [Bool.false_and, Bool.and_false, Bool.true_and] at H
      subst H
      go_enter Try.func15, Try.ntmps15
      go_wp2_with fail
      go_ret
      exact ⟨rfl, HB.out⟩
    | true =>
    cases h1 : (x1.toList == y1.toList) with
    | false =>
      have H := HR.out
      rw [h0, h1] at H
      simp only [Bool.false_and, Bool.and_false, Bool.true_and] at H
      subst H
      go_enter Try.func15, Try.ntmps15
      go_wp2_with fail
      go_ret
      exact ⟨rfl, HB.out⟩
    | true =>
    cases h2 : (x2.toList == y2.toList) with
    | false =>
      have H := HR.out
      rw [h0, h1, h2] at H
      simp only [Bool.false_and, Bool.and_false, Bool.true_and] at H
      subst H
      go_enter Try.func15, Try.ntmps15
      go_wp2_with fail
      go_ret
      exact ⟨rfl, HB.out⟩
    | true =>
    cases h3 : (x3 == y3) with
    | false =>
      have H := HR.out
      rw [h0, h1, h2, h3] at H
      simp only [Bool.false_and, Bool.and_false, Bool.true_and] at H
      subst H
      go_enter Try.func15, Try.ntmps15
      go_wp2_with fail
      go_ret
      exact ⟨rfl, HB.out⟩
    | true =>
    cases h4 : (x4 == y4) with
    | false =>
      have H := HR.out
      rw [h0, h1, h2, h3, h4] at H
      simp only [Bool.false_and, Bool.and_false, Bool.true_and] at H
      subst H
      go_enter Try.func15, Try.ntmps15
      go_wp2_with fail
      go_ret
      exact ⟨rfl, HB.out⟩
    | true =>
    cases h5 : (x5 == y5) with
    | false =>
      have H := HR.out
      rw [h0, h1, h2, h3, h4, h5] at H
      simp only [Bool.false_and, Bool.and_false, Bool.true_and] at H
      subst H
      go_enter Try.func15, Try.ntmps15
      go_wp2_with fail
      go_ret
      exact ⟨rfl, HB.out⟩
    | true =>
    have H := HR.out
    rw [h0, h1, h2, h3, h4, h5] at H
    simp only [Bool.true_and] at H
    subst H
    clear HR
    go_enter Try.func15, Try.ntmps15
    go_wp2_with (go_at_call 52; refine (equalFunc_calls _ A B c d l m (Kd.C_below HL.out ?_) (Kd.C_below HM.out ?_) IH.out).mono ?_; exact below_alloc (below_alloc (Below.refl _ _) _) _; exact below_alloc (below_alloc (Below.refl _ _) _) _; rintro e w1 ⟨rfl, hb⟩; have B1 := Aside0.mk (below_step HB.out hb); clear hb)
    go_ret
    exact ⟨rfl, B1.out⟩
end
def tree_Same.f (a0_0 : Int) (a0_1 : ByteArray) (a0_2 : ByteArray) (a0_3 : Int) (a0_4 : Int) (a0_5 : Bool) (l0_6 : List S24) (a1_0 : Int) (a1_1 : ByteArray) (a1_2 : ByteArray) (a1_3 : Int) (a1_4 : Int) (a1_5 : Bool) (l1_6 : List S24) : Option Bool :=
  some (sameT ⟨a0_0, a0_1, a0_2, a0_3, a0_4, a0_5, l0_6⟩ ⟨a1_0, a1_1, a1_2, a1_3, a1_4, a1_5, l1_6⟩)
theorem tree_Same.calls (a0_0 : Int) (a0_1 : ByteArray) (a0_2 : ByteArray) (a0_3 : Int) (a0_4 : Int) (a0_5 : Bool) (A0_6 : Option Addr) (c0_6 : Nat) (l0_6 : List S24) (a1_0 : Int) (a1_1 : ByteArray) (a1_2 : ByteArray) (a1_3 : Int) (a1_4 : Int) (a1_5 : Bool) (A1_6 : Option Addr) (c1_6 : Nat) (l1_6 : List S24) (r : Bool) (w : World)
    (hr0_6 : Kd.C k24 w A0_6 l0_6.length l0_6) (hc0_6 : l0_6.length ≤ c0_6) (hr1_6 : Kd.C k24 w A1_6 l1_6.length l1_6) (hc1_6 : l1_6.length ≤ c1_6) (h : tree_Same.f a0_0 a0_1 a0_2 a0_3 a0_4 a0_5 l0_6 a1_0 a1_1 a1_2 a1_3 a1_4 a1_5 l1_6 = some r) :
    Calls Try.prog 15 #[.agg #[.int .i64 a0_0, .string a0_1, .string a0_2, .int .i64 a0_3, .int .i64 a0_4, .bool a0_5, .slice A0_6 l0_6.length c0_6], .agg #[.int .i64 a1_0, .string a1_1, .string a1_2, .int .i64 a1_3, .int .i64 a1_4, .bool a1_5, .slice A1_6 l1_6.length c1_6]] w fun e w' => e = .returned (.bool r) ∧ Below w.heap.size w w' := by
  obtain rfl := Option.some.inj h
  exact same_calls _ a0_0 a0_1 a0_2 a0_3 a0_4 a0_5 l0_6 a1_0 a1_1 a1_2 a1_3 a1_4 a1_5 l1_6 A0_6 A1_6 c0_6 c1_6 w (Nat.lt_succ_self _) hr0_6 hr1_6
end Go.Proofs.Ytikfbipjlkhgeaa.P
