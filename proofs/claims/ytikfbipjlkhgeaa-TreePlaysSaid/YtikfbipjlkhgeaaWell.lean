/- tree.Well: for all trees the call returns whether only what may stands in each node, and writes to no memory that was there. -/
import Derived.Test.YtikfbipjlkhgeaaMay
import Derived.Deep.RegionHeld3
import Derived.Deep.DeepCutAuto
import Derived.Deep.LoopGhost
namespace Go.Proofs.Ytikfbipjlkhgeaa.P
open Go.RowKit Go.Proofs.YtikfbipjlkhgeaaW.PrintWords Go.Proofs.YtikfbipjlkhgeaaW.PrintLast Go.Proofs.YtikfbipjlkhgeaaW.PrintMore
set_option linter.unusedVariables false
set_option linter.unusedSimpArgs false
mutual
def wellT : Bool → S24 → Bool
  | lk, ⟨a0, a1, a2, a3, a4, a5, l⟩ => !((a0 == 20) && lk) && !(badL a0 (lk || (a0 == 20)) l)
def badL : Int → Bool → List S24 → Bool
  | _, _, [] => false
  | a0, lk, x :: l => (!mayB a0 x.f0 || !wellT lk x) || badL a0 lk l
end
theorem badL_any (a0 : Int) (lk : Bool) : ∀ l, badL a0 lk l = l.any fun x => !mayB a0 x.f0 || !wellT lk x
  | [] => by simp [badL]
  | x :: l => by rw [badL, badL_any a0 lk l, List.any_cons]
theorem any_get (l : List S24) (p : S24 → Bool) (i : Nat) (hi : i < l.length) (h : p (rd_T24 l (i : Int)) = true) : l.any p = true := by
  rw [List.any_eq_true]
  refine ⟨rd_T24 l (i : Int), ?_, h⟩
  show l.getD i z24 ∈ l
  rw [List.getD_eq_getElem?_getD, List.getElem?_eq_getElem hi]
  exact List.getElem_mem hi
theorem any_none (l : List S24) (p : S24 → Bool) (h : ∀ j : Nat, j < l.length → p (rd_T24 l (j : Int)) = false) : l.any p = false := by
  rw [List.any_eq_false]
  intro x hx
  obtain ⟨j, hj, rfl⟩ := List.getElem_of_mem hx
  have := h j hj
  have e : rd_T24 l (j : Int) = l[j] := by
    show l.getD j z24 = _
    rw [List.getD_eq_getElem?_getD, List.getElem?_eq_getElem hj]; rfl
  rw [e] at this
  simp [this]
section
attribute [local go_sem] World.cell?_alloc_some
set_option maxRecDepth 100000 in
set_option maxHeartbeats 8000000 in
theorem indexFunc_calls (w : World) (A : Option Addr) (c : Nat) (l : List S24) (b1 b2 b3 : Value) (p : S24 → Bool) (hl : Kd.C k24 w A l.length l)
    (ih : ∀ i : Nat, i < l.length → ∀ (w1 : World) (A6 : Option Addr) (c6 : Nat), Below w.heap.size w w1 → Kd.C k24 w1 A6 (rd_T24 l (i : Int)).f6.length (rd_T24 l (i : Int)).f6 →
      Calls Try.prog 70 #[.agg #[.int .i64 (rd_T24 l (i : Int)).f0, .string (rd_T24 l (i : Int)).f1, .string (rd_T24 l (i : Int)).f2, .int .i64 (rd_T24 l (i : Int)).f3, .int .i64 (rd_T24 l (i : Int)).f4, .bool (rd_T24 l (i : Int)).f5, .slice A6 (rd_T24 l (i : Int)).f6.length c6], b1, b2, b3] w1 fun e w2 => e = .returned (.bool (p (rd_T24 l (i : Int)))) ∧ Below w1.heap.size w1 w2) :
    Calls Try.prog 76 #[.slice A l.length c, .func (.func 70) #[] #[b1, b2, b3]] w fun e w' => (∃ i : Int, e = .returned (.int .i64 i) ∧ (decide (0 ≤ i)) = l.any p) ∧ Below w.heap.size w w' := by
  have hu24 := Try.underlying24
  have HL := Aside0.mk hl
  have IH := Aside0.mk ih
  have hnl : l.length ≤ 9223372036854775807 := hl.2.1
  clear hl ih
  go_enter Try.func76, Try.ntmps76
  go_wp2_with fail
  go_loopw [8] (fun v wr => ∃ i : Nat, i ≤ l.length ∧ v = .int .i64 i ∧ Aside0 (∀ j : Nat, j < i → p (rd_T24 l (j : Int)) = false) ∧ Aside0 (Below w.heap.size w wr)) (fun v _ => l.length - (intOf v).toNat)
  case atStart => exact ⟨0, by omega, rfl, ⟨fun j hj => by omega⟩, ⟨Below.refl _ _⟩⟩
  case round =>
    obtain ⟨i, hi, rfl, HS, HB⟩ := hrel
    by_cases hlt : i < l.length
    · obtain ⟨ad, A6, c6, rfl, x0, x1, x2, x3, x4, x5, x6, xc, xg⟩ := at_T24 (Kd.C_below HL.out HB.out) (i : Int) (by omega) (by omega)
      have CC := Aside0.mk (IH.out i hlt wr A6 c6 HB.out xg)
      clear xg
      simp only [Int.toNat_natCast] at x0 x1 x2 x3 x4 x5 x6
      have hiI : (i : Int) < (l.length : Int) := by omega
      cases hr : p (rd_T24 l (i : Int)) with
      | true =>
        have e0 : l.any p = true := any_get l p i hlt hr
        go_wp2_with (go_at_call 70; refine CC.out.mono ?_; rintro e w1 ⟨rfl, hb⟩; have B1 := Aside0.mk (below_step HB.out hb); clear hb; rw [hr])
        go_ret
        exact ⟨⟨_, rfl, by rw [e0]; simp⟩, B1.out⟩
      | false =>
        go_wp2_with (go_at_call 70; refine CC.out.mono ?_; rintro e w1 ⟨rfl, hb⟩; have B1 := Aside0.mk (below_step HB.out hb); clear hb; rw [hr])
        go_roundw
        case rel => exact ⟨i + 1, by omega, by go_num, ⟨fun j hj => by
          by_cases e : j = i
          · rw [e]; exact hr
          · exact HS.out j (by omega)⟩, B1⟩
        case measure => simp [intOf]; omega
    · have e0 : l.any p = false := any_none l p fun j hj => HS.out j (by omega)
      have hiI : ¬ (i : Int) < (l.length : Int) := by omega
      go_wp2_with fail
      go_ret
      exact ⟨⟨_, rfl, by first | (rw [e0]; rfl) | decide | simp⟩, HB.out⟩
set_option maxRecDepth 100000 in
set_option maxHeartbeats 8000000 in
theorem containsFunc_calls (w : World) (A : Option Addr) (c : Nat) (l : List S24) (b1 b2 b3 : Value) (p : S24 → Bool) (hl : Kd.C k24 w A l.length l)
    (ih : ∀ i : Nat, i < l.length → ∀ (w1 : World) (A6 : Option Addr) (c6 : Nat), Below w.heap.size w w1 → Kd.C k24 w1 A6 (rd_T24 l (i : Int)).f6.length (rd_T24 l (i : Int)).f6 →
      Calls Try.prog 70 #[.agg #[.int .i64 (rd_T24 l (i : Int)).f0, .string (rd_T24 l (i : Int)).f1, .string (rd_T24 l (i : Int)).f2, .int .i64 (rd_T24 l (i : Int)).f3, .int .i64 (rd_T24 l (i : Int)).f4, .bool (rd_T24 l (i : Int)).f5, .slice A6 (rd_T24 l (i : Int)).f6.length c6], b1, b2, b3] w1 fun e w2 => e = .returned (.bool (p (rd_T24 l (i : Int)))) ∧ Below w1.heap.size w1 w2) :
    Calls Try.prog 69 #[.slice A l.length c, .func (.func 70) #[] #[b1, b2, b3]] w fun e w' => e = .returned (.bool (l.any p)) ∧ Below w.heap.size w w' := by
  have CC := Aside0.mk (indexFunc_calls w A c l b1 b2 b3 p hl ih)
  clear hl ih
  go_enter Try.func69, Try.ntmps69
  go_wp2_with (go_at_call 76; refine CC.out.mono ?_; rintro e w1 ⟨⟨i, rfl, hi⟩, hb⟩; have HI := Aside0.mk hi; have B1 := Aside0.mk hb; clear hi hb)
  go_ret
  exact ⟨by first | (rw [← HI.out]; done) | (rw [← HI.out]; rfl) | (simp [← HI.out]; done) | (simp [HI.out]; done), B1.out⟩
set_option maxRecDepth 100000 in
set_option maxHeartbeats 8000000 in
theorem wellClosure_calls (w : World) (g1 g2 g3 : Nat) (a0 : Int) (lk own : Bool) (x : S24) (A6 : Option Addr) (c6 : Nat)
    (h1 : w.cell? ⟨g1, 0, none⟩ = some (.int .i64 a0)) (h2 : w.cell? ⟨g2, 0, none⟩ = some (.bool lk)) (h3 : w.cell? ⟨g3, 0, none⟩ = some (.bool own)) (hx : Kd.C k24 w A6 x.f6.length x.f6)
    (ih : ∀ w1 : World, Kd.C k24 w1 A6 x.f6.length x.f6 → Calls Try.prog 53 #[.agg #[.int .i64 x.f0, .string x.f1, .string x.f2, .int .i64 x.f3, .int .i64 x.f4, .bool x.f5, .slice A6 x.f6.length c6], .bool (lk || own)] w1 fun e w2 => e = .returned (.bool (wellT (lk || own) x)) ∧ Below w1.heap.size w1 w2) :
    Calls Try.prog 70 #[.agg #[.int .i64 x.f0, .string x.f1, .string x.f2, .int .i64 x.f3, .int .i64 x.f4, .bool x.f5, .slice A6 x.f6.length c6], .pointer (some ⟨g1, 0, none⟩), .pointer (some ⟨g2, 0, none⟩), .pointer (some ⟨g3, 0, none⟩)] w fun e w' => e = .returned (.bool (!mayB a0 x.f0 || !wellT (lk || own) x)) ∧ Below w.heap.size w w' := by
  have hu24 := Try.underlying24
  have HX := Aside0.mk hx
  have IH := Aside0.mk (fun w1 (hw : Below w.heap.size w w1) => ih w1 (Kd.C_below hx hw))
  clear hx ih
  have n1 := World.new_ne w _ h1
  have n2 := World.new_ne w _ h2
  have n3 := World.new_ne w _ h3
  have HB := Aside0.mk (below_alloc (Below.refl w.heap.size w) (.cells #[.int .i64 x.f0, .string x.f1, .string x.f2, .int .i64 x.f3, .int .i64 x.f4, .bool x.f5, .slice A6 x.f6.length c6] 24))
  cases hm : mayB a0 x.f0 with
  | false =>
    go_enter Try.func70, Try.ntmps70
    go_wp2_with (go_at_call 71; refine (may_calls a0 x.f0 _).mono ?_; rintro e w1 ⟨rfl, rfl⟩; rw [hm])
    go_ret
    exact ⟨by simp, HB.out⟩
  | true =>
    cases lk with
    | true =>
      cases hr : wellT (true || own) x with
      | true =>
        go_enter Try.func70, Try.ntmps70
        go_wp2_with (first | (go_at_call 71; refine (may_calls a0 x.f0 _).mono ?_; rintro e w1 ⟨rfl, rfl⟩; rw [hm]) | (go_at_call 53; refine (IH.out _ HB.out).mono ?_; rintro e w1 ⟨rfl, hb⟩; have B1 := Aside0.mk (below_step HB.out hb); clear hb; rw [hr]))
        go_ret
        exact ⟨by simp, B1.out⟩
      | false =>
        go_enter Try.func70, Try.ntmps70
        go_wp2_with (first | (go_at_call 71; refine (may_calls a0 x.f0 _).mono ?_; rintro e w1 ⟨rfl, rfl⟩; rw [hm]) | (go_at_call 53; refine (IH.out _ HB.out).mono ?_; rintro e w1 ⟨rfl, hb⟩; have B1 := Aside0.mk (below_step HB.out hb); clear hb; rw [hr]))
        go_ret
        exact ⟨by simp, B1.out⟩
    | false =>
      cases hr : wellT (false || own) x with
      | true =>
        go_enter Try.func70, Try.ntmps70
        go_wp2_with (first | (go_at_call 71; refine (may_calls a0 x.f0 _).mono ?_; rintro e w1 ⟨rfl, rfl⟩; rw [hm]) | (go_at_call 53; refine (IH.out _ HB.out).mono ?_; rintro e w1 ⟨rfl, hb⟩; have B1 := Aside0.mk (below_step HB.out hb); clear hb; rw [hr]))
        go_ret
        exact ⟨by simp, B1.out⟩
      | false =>
        go_enter Try.func70, Try.ntmps70
        go_wp2_with (first | (go_at_call 71; refine (may_calls a0 x.f0 _).mono ?_; rintro e w1 ⟨rfl, rfl⟩; rw [hm]) | (go_at_call 53; refine (IH.out _ HB.out).mono ?_; rintro e w1 ⟨rfl, hb⟩; have B1 := Aside0.mk (below_step HB.out hb); clear hb; rw [hr]))
        go_ret
        exact ⟨by simp, B1.out⟩
theorem rd24_mem' (l : List S24) (i : Nat) (hi : i < l.length) : rd_T24 l (i : Int) ∈ l := by
  show l.getD i z24 ∈ l
  rw [List.getD_eq_getElem?_getD, List.getElem?_eq_getElem hi]
  exact List.getElem_mem hi
set_option maxRecDepth 100000 in
set_option maxHeartbeats 8000000 in
theorem well_calls : ∀ (n : Nat) (a0 : Int) (a1 a2 : ByteArray) (a3 a4 : Int) (a5 : Bool) (l : List S24) (A : Option Addr) (c : Nat) (lk : Bool) (w : World), SizeOf.sizeOf l < n → Kd.C k24 w A l.length l →
    Calls Try.prog 53 #[.agg #[.int .i64 a0, .string a1, .string a2, .int .i64 a3, .int .i64 a4, .bool a5, .slice A l.length c], .bool lk] w fun e w' => e = .returned (.bool (wellT lk ⟨a0, a1, a2, a3, a4, a5, l⟩)) ∧ Below w.heap.size w w'
  | 0, _, _, _, _, _, _, _, _, _, _, _, h, _ => absurd h (by omega)
  | n + 1, a0, a1, a2, a3, a4, a5, l, A, c, lk, w, h, hl => by
    have hu24 := Try.underlying24
    have HB := Aside0.mk (below_alloc (below_alloc (below_alloc (Below.refl w.heap.size w) (.cells #[.int .i64 a0, .string a1, .string a2, .int .i64 a3, .int .i64 a4, .bool a5, .slice A l.length c] 24)) (.cells #[.bool lk] 4)) (.cells #[.bool (a0 == 20)] 4))
    have e0 : ((((w.alloc (.cells #[.int .i64 a0, .string a1, .string a2, .int .i64 a3, .int .i64 a4, .bool a5, .slice A l.length c] 24)).alloc (.cells #[.bool lk] 4)).alloc (.cells #[.bool (a0 == 20)] 4))).cell? ⟨w.heap.size, 0, none⟩ = some (.int .i64 a0) :=
      (blk_cell (blk_alloc (blk_alloc (blk_new w (.cells #[.int .i64 a0, .string a1, .string a2, .int .i64 a3, .int .i64 a4, .bool a5, .slice A l.length c] 24)) (.cells #[.bool lk] 4)) (.cells #[.bool (a0 == 20)] 4)) 0).trans rfl
    have e1 : ((((w.alloc (.cells #[.int .i64 a0, .string a1, .string a2, .int .i64 a3, .int .i64 a4, .bool a5, .slice A l.length c] 24)).alloc (.cells #[.bool lk] 4)).alloc (.cells #[.bool (a0 == 20)] 4))).cell? ⟨w.heap.size + 1, 0, none⟩ = some (.bool lk) := by
      have h := blk_new (w.alloc (.cells #[.int .i64 a0, .string a1, .string a2, .int .i64 a3, .int .i64 a4, .bool a5, .slice A l.length c] 24)) (.cells #[.bool lk] 4)
      rw [World.size_alloc] at h
      exact (blk_cell (blk_alloc h (.cells #[.bool (a0 == 20)] 4)) 0).trans rfl
    have e2 : ((((w.alloc (.cells #[.int .i64 a0, .string a1, .string a2, .int .i64 a3, .int .i64 a4, .bool a5, .slice A l.length c] 24)).alloc (.cells #[.bool lk] 4)).alloc (.cells #[.bool (a0 == 20)] 4))).cell? ⟨w.heap.size + 2, 0, none⟩ = some (.bool (a0 == 20)) := by
      have h := blk_cell (blk_new ((w.alloc (.cells #[.int .i64 a0, .string a1, .string a2, .int .i64 a3, .int .i64 a4, .bool a5, .slice A l.length c] 24)).alloc (.cells #[.bool lk] 4)) (.cells #[.bool (a0 == 20)] 4)) 0
      rw [World.size_alloc, World.size_alloc] at h
      exact h.trans rfl
    have CC := Aside0.mk (containsFunc_calls ((((w.alloc (.cells #[.int .i64 a0, .string a1, .string a2, .int .i64 a3, .int .i64 a4, .bool a5, .slice A l.length c] 24)).alloc (.cells #[.bool lk] 4)).alloc (.cells #[.bool (a0 == 20)] 4))) A c l (.pointer (some ⟨w.heap.size, 0, none⟩)) (.pointer (some ⟨w.heap.size + 1, 0, none⟩)) (.pointer (some ⟨w.heap.size + 2, 0, none⟩)) (fun x => !mayB a0 x.f0 || !wellT (lk || (a0 == 20)) x) (Kd.C_below hl HB.out)
      fun i hi w1 A6 c6 hw h6 => by
        have hs := List.sizeOf_lt_of_mem (rd24_mem' l i hi)
        have k0 := (hw.cell (World.block_lt_of_cell? _ _ e0)).trans e0
        have k1 := (hw.cell (World.block_lt_of_cell? _ _ e1)).trans e1
        have k2 := (hw.cell (World.block_lt_of_cell? _ _ e2)).trans e2
        cases hx : rd_T24 l (i : Int) with
        | mk u0 u1 u2 u3 u4 u5 u6 =>
          rw [hx] at h6 hs
          exact wellClosure_calls w1 _ _ _ a0 lk (a0 == 20) ⟨u0, u1, u2, u3, u4, u5, u6⟩ A6 c6 k0 k1 k2 h6 fun w2 h2 => well_calls n u0 u1 u2 u3 u4 u5 u6 A6 c6 _ w2 (by simp only [S24.mk.sizeOf_spec] at hs; omega) h2)
    clear e0 e1 e2 hl
    obtain ⟨r, hr⟩ : ∃ r, wellT lk ⟨a0, a1, a2, a3, a4, a5, l⟩ = r := ⟨_, rfl⟩
    rw [hr]
    have hr2 : (!((a0 == 20) && lk) && !(badL a0 (lk || (a0 == 20)) l)) = r := by rw [← hr]; unfold wellT; rfl
    rw [badL_any] at hr2
    clear hr
    have HR := Aside0.mk hr2
    clear hr2
    obtain ⟨b, hb⟩ : ∃ b, (l.any fun x => !mayB a0 x.f0 || !wellT (lk || (a0 == 20)) x) = b := ⟨_, rfl⟩
    have CD : Aside0 (Calls Try.prog 69 #[.slice A l.length c, .func (.func 70) #[] #[.pointer (some ⟨w.heap.size, 0, none⟩), .pointer (some ⟨w.heap.size + 1, 0, none⟩), .pointer (some ⟨w.heap.size + 2, 0, none⟩)]] ((((w.alloc (.cells #[.int .i64 a0, .string a1, .string a2, .int .i64 a3, .int .i64 a4, .bool a5, .slice A l.length c] 24)).alloc (.cells #[.bool lk] 4)).alloc (.cells #[.bool (a0 == 20)] 4))) fun e w' => e = .returned (.bool b) ∧ Below ((((w.alloc (.cells #[.int .i64 a0, .string a1, .string a2, .int .i64 a3, .int .i64 a4, .bool a5, .slice A l.length c] 24)).alloc (.cells #[.bool lk] 4)).alloc (.cells #[.bool (a0 == 20)] 4))).heap.size ((((w.alloc (.cells #[.int .i64 a0, .string a1, .string a2, .int .i64 a3, .int .i64 a4, .bool a5, .slice A l.length c] 24)).alloc (.cells #[.bool lk] 4)).alloc (.cells #[.bool (a0 == 20)] 4))) w') := ⟨by
      rw [← hb]; exact CC.out⟩
    have H := HR.out
    rw [hb] at H
    clear hb HR CC
    cases ho : (a0 == 20) with
    | true =>
      rw [ho] at CD HB H
      cases lk with
      | true =>
        simp only [Bool.and_self, Bool.not_true, Bool.false_and] at H
        subst H
        go_enter Try.func53, Try.ntmps53
        go_wp2_with fail
        go_ret
        exact ⟨rfl, HB.out⟩
      | false =>
        cases b <;> simp only [Bool.and_false, Bool.not_false, Bool.not_true, Bool.true_and, Bool.and_self] at H <;> subst H <;> (
          go_enter Try.func53, Try.ntmps53
          go_wp2_with (go_at_call 69; refine CD.out.mono ?_; rintro e w1 ⟨rfl, hb⟩; have B1 := Aside0.mk (below_step HB.out hb); clear hb)
          go_ret
          exact ⟨rfl, B1.out⟩)
    | false =>
      rw [ho] at CD HB H
      cases b <;> simp only [Bool.false_and, Bool.not_false, Bool.not_true, Bool.true_and, Bool.and_self, Bool.and_false] at H <;> subst H <;> (
        go_enter Try.func53, Try.ntmps53
        go_wp2_with (go_at_call 69; refine CD.out.mono ?_; rintro e w1 ⟨rfl, hb⟩; have B1 := Aside0.mk (below_step HB.out hb); clear hb)
        go_ret
        exact ⟨rfl, B1.out⟩)
def tree_Well.f (a0_0 : Int) (a0_1 : ByteArray) (a0_2 : ByteArray) (a0_3 : Int) (a0_4 : Int) (a0_5 : Bool) (l0_6 : List S24) : Option Bool :=
  some ((a0_0 == 1) && wellT false ⟨a0_0, a0_1, a0_2, a0_3, a0_4, a0_5, l0_6⟩)
set_option maxRecDepth 100000 in
set_option maxHeartbeats 8000000 in
theorem tree_Well.calls (a0_0 : Int) (a0_1 : ByteArray) (a0_2 : ByteArray) (a0_3 : Int) (a0_4 : Int) (a0_5 : Bool) (A0_6 : Option Addr) (c0_6 : Nat) (l0_6 : List S24) (r : Bool) (w : World)
    (hr0_6 : Kd.C k24 w A0_6 l0_6.length l0_6) (hc0_6 : l0_6.length ≤ c0_6) (h : tree_Well.f a0_0 a0_1 a0_2 a0_3 a0_4 a0_5 l0_6 = some r) :
    Calls Try.prog 21 #[.agg #[.int .i64 a0_0, .string a0_1, .string a0_2, .int .i64 a0_3, .int .i64 a0_4, .bool a0_5, .slice A0_6 l0_6.length c0_6]] w fun e w' => e = .returned (.bool r) ∧ Below w.heap.size w w' := by
  have hu24 := Try.underlying24
  have H := Option.some.inj h
  clear h
  have HB := Aside0.mk (below_alloc (Below.refl w.heap.size w) (.cells #[.int .i64 a0_0, .string a0_1, .string a0_2, .int .i64 a0_3, .int .i64 a0_4, .bool a0_5, .slice A0_6 l0_6.length c0_6] 24))
  have CC := Aside0.mk (well_calls _ a0_0 a0_1 a0_2 a0_3 a0_4 a0_5 l0_6 A0_6 c0_6 false _ (Nat.lt_succ_self _) (Kd.C_below hr0_6 HB.out))
  clear hr0_6
  cases h1 : (a0_0 == 1) with
  | false =>
    rw [h1, Bool.false_and] at H
    subst H
    go_enter Try.func21, Try.ntmps21
    go_wp2_with fail
    go_ret
    exact ⟨rfl, HB.out⟩
  | true =>
    rw [h1, Bool.true_and] at H
    subst H
    go_enter Try.func21, Try.ntmps21
    go_wp2_with (go_at_call 53; refine CC.out.mono ?_; rintro e w1 ⟨rfl, hb⟩; have B1 := Aside0.mk (below_step HB.out hb); clear hb)
    go_ret
    exact ⟨rfl, B1.out⟩
end
end Go.Proofs.Ytikfbipjlkhgeaa.P
