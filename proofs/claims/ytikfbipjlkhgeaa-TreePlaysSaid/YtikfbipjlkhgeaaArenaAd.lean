/- (*Arena).Add: a new slot, the last child of another one. -/
import Derived.Test.YtikfbipjlkhgeaaArenaL
import Derived.Test.YtikfbipjlkhgeaaArenaN
namespace Go.Proofs.Ytikfbipjlkhgeaa.P
open Go.RowKit Go.Proofs.YtikfbipjlkhgeaaW.PrintWords Go.Proofs.YtikfbipjlkhgeaaW.PrintLast Go.Proofs.YtikfbipjlkhgeaaW.PrintMore
set_option linter.unusedVariables false
set_option linter.unusedSimpArgs false
def addR (sl : List S70) (p : Int) : Int := if hasB sl p = true then sl.length else -1
def addS (sl : List S70) (p : Int) (x : S70) : List S70 := if hasB sl p = true then linkS (sl ++ [x]) sl.length p.toNat else sl
theorem hasB_iff (sl : List S70) (id : Int) : hasB sl id = true ↔ 0 ≤ id ∧ id < (sl.length : Int) := by
  unfold hasB
  rw [Bool.and_eq_true, decide_eq_true_iff, decide_eq_true_iff]
theorem getD_app {α : Type} (l : List α) (x z : α) (i : Nat) : (l ++ [x]).getD i z = if i < l.length then l.getD i z else if i = l.length then x else z := by
  rw [List.getD_eq_getElem?_getD, List.getElem?_append]
  by_cases h : i < l.length
  · rw [if_pos h, if_pos h, List.getD_eq_getElem?_getD]
  · rw [if_neg h, if_neg h]
    by_cases e : i = l.length
    · rw [if_pos e, e, Nat.sub_self]; rfl
    · rw [if_neg e, List.getElem?_eq_none (by simp; omega)]; rfl
theorem rd70_app (l : List S70) (x : S70) (i : Nat) (hi : i < (l ++ [x]).length) : rd_T70 (l ++ [x]) (i : Int) = if i < l.length then rd_T70 l (i : Int) else x := by
  show (l ++ [x]).getD i z70 = if i < l.length then l.getD i z70 else x
  rw [getD_app]
  by_cases h : i < l.length
  · rw [if_pos h, if_pos h]
  · rw [if_neg h, if_neg h, if_pos (by simp at hi; omega)]
/-- The slots' row has grown by one. -/
theorem ArIn.push {w w1 : World} {B g : Nat} {v v1 : Value} {rows : List (List Value)} {sl : List S70} (h : ArIn w B g v rows sl) (x : S70) (hx : x.f0.f6 = []) (hx2 : x.f2 = [])
    (hR : (Kd.raw 9).R 70 w1 B (fun _ => True) v1 (rows ++ [rowOf x (.slice none 0 0)])) (hg : w.grownBy w1 v.ownBlock) : ArIn (w1.setCell ⟨g, 0, none⟩ v1) B g v1 (rows ++ [rowOf x (.slice none 0 0)]) (sl ++ [x]) := by
  have hlr := h.len
  have hgr : some g ≠ v.ownBlock := Kd.R_ne h.row h.blk (by decide)
  have hb1 := blk_grown h.blk hg hgr
  have hrow : ∀ i, i < (sl ++ [x]).length → (rows ++ [rowOf x (.slice none 0 0)]).getD i [] = if i < sl.length then rows.getD i [] else rowOf x (.slice none 0 0) := fun i hi => by
    rw [getD_app, hlr]
    by_cases e : i < sl.length
    · rw [if_pos e, if_pos e]
    · rw [if_neg e, if_neg e, if_pos (by simp at hi; omega)]
  refine ⟨h.lo, blk_put hb1 0 v1 rfl, Kd.R_set hR hb1 (by decide) 0 v1, by simp [hlr], fun i hi => ?_, fun i hi => ?_, fun i hi => ?_, fun i j hi hj hne k hk => ?_⟩
  · rw [hrow i hi, rd70_app _ _ _ hi]
    by_cases e : i < sl.length
    · rw [if_pos e, if_pos e]; exact h.at_ i e
    · rw [if_neg e, if_neg e]; rfl
  · rw [rd70_app _ _ _ hi]
    by_cases e : i < sl.length
    · rw [if_pos e]; exact h.bare i e
    · rw [if_neg e]; exact hx
  · rw [hrow i hi, rd70_app _ _ _ hi]
    by_cases e : i < sl.length
    · rw [if_pos e, if_pos e]
      exact Kd.R_set (Kd.R_over (h.kids i e) h.row (by decide) hg) hb1 (by decide) 0 v1
    · rw [if_neg e, if_neg e, hx2]; exact Kd.R_nil _ _ _ _ _
  · rw [hrow i hi] at hk
    rw [hrow j hj]
    by_cases e : i < sl.length
    · rw [if_pos e] at hk
      by_cases e2 : j < sl.length
      · rw [if_pos e2]; exact h.apart i j e e2 hne k hk
      · rw [if_neg e2]; intro hc; cases hc
    · rw [if_neg e] at hk; cases hk
theorem FrameT.drew {w w1 : World} (h : FrameT w w1) : FrameT w w1.drew := h
theorem ArIn.drew {w : World} {B g : Nat} {v : Value} {rows : List (List Value)} {sl : List S70} (h : ArIn w B g v rows sl) : ArIn w.drew B g v rows sl := h.below (below_drew (Below.refl _ _))
theorem add_mid {w w1 w2 : World} {B g : Nat} {v : Value} {rows : List (List Value)} {sl : List S70} (h : ArIn w1 B g v rows sl) (hb : Below w1.drew.heap.size w1.drew w2) (HB : Below B w w1) (HF : FrameT w w1) :
    ArIn w2 B g v rows sl ∧ Below B w w2 ∧ FrameT w w2 ∧ B ≤ w2.heap.size ∧ w2.cell? ⟨g, 0, none⟩ = some v := by
  have h2 : ArIn w2 B g v rows sl := ArIn.below h.drew hb
  have hB1 : B ≤ w1.heap.size := Ar.size ⟨_, _, h⟩
  exact ⟨h2, HB.drew.trans (hb.mono hB1), FrameT.trans HF.drew (FrameT.below hb), Nat.le_trans hB1 hb.size, blk_cell h2.blk 0⟩
theorem add_end {w w2 w3 : World} {B g r sz cap c1 : Nat} {A1 : Option Addr} {rows : List (List Value)} {sl : List S70} (x : S70) (hx : x.f0.f6 = []) (hx2 : x.f2 = []) (hlr : rows.length = sl.length) (h : ArIn w2 B g (.slice (some ⟨r, 0, none⟩) sz cap) rows sl) (B3 : Below B w w3) (F2 : FrameT w w2)
    (hR : (Kd.raw 9).R 70 w3 B (fun _ => True) (.slice A1 (rows ++ [rowOf x (.slice none 0 0)]).length c1) (rows ++ [rowOf x (.slice none 0 0)])) (hg : w2.grownBy w3 (Value.slice (some ⟨r, 0, none⟩) sz cap).ownBlock) :
    Ar (w3.setCell ⟨g, 0, none⟩ (.slice A1 (rows.length + 1) c1)) B g (sl ++ [x]) ∧ Below B w (w3.setCell ⟨g, 0, none⟩ (.slice A1 (rows.length + 1) c1)) ∧ FrameT w (w3.setCell ⟨g, 0, none⟩ (.slice A1 (rows.length + 1) c1)) := by
  rw [List.length_append, List.length_singleton] at hR
  refine ⟨⟨_, _, h.push x hx hx2 hR hg⟩, B3.setCell h.lo _, FrameT.trans (FrameT.trans F2 (FrameT.grown hg fun k hk => ?_)) (FrameT.set (blk_grown h.blk hg (Kd.R_ne h.row h.blk (by decide))) (.inl rfl) _ _)⟩
  obtain ⟨cells, hc⟩ := Kd.R_typed h.row k hk
  exact ⟨70, cells, hc, .inr (.inl rfl)⟩
attribute [local go_sem] World.cell?_alloc_some
set_option maxRecDepth 100000 in
set_option maxHeartbeats 8000000 in
theorem add_calls {w : World} {B g : Nat} {sl : List S70} (h : Ar w B g sl) (p : Int) (x0 : Int) (x1 x2 : ByteArray) (x3 x4 : Int) (x5 : Bool) (A : Option Addr) (n c : Nat) (hs : sl.length < 1000000000)
    (hk : ∀ i : Nat, i < sl.length → (rd_T70 sl (i : Int)).f2.length < 1000000000) :
    Calls Try.prog 27 #[.pointer (some ⟨g, 0, none⟩), .int .i64 p, .agg #[.int .i64 x0, .string x1, .string x2, .int .i64 x3, .int .i64 x4, .bool x5, .slice A n c]] w
      fun e w' => e = .returned (.int .i64 (addR sl p)) ∧ Below B w w' ∧ FrameT w w' ∧ Ar w' B g (addS sl p (slotOf x0 x1 x2 x3 x4 x5 0)) := by
  have hu24 := Try.underlying24
  have hu70 := Try.underlying70
  have hu73 := Try.underlying73
  have hB := h.size
  have HA := Aside0.mk (Ar.below h (below_alloc (Below.refl w.heap.size w) (.cells #[.int .i64 x0, .string x1, .string x2, .int .i64 x3, .int .i64 x4, .bool x5, .slice A n c] 24)))
  have HB := Aside0.mk (show Below B w (w.alloc (.cells #[.int .i64 x0, .string x1, .string x2, .int .i64 x3, .int .i64 x4, .bool x5, .slice A n c] 24)) from (Below.refl B w).alloc hB _)
  have HF := Aside0.mk (FrameT.below (below_alloc (Below.refl w.heap.size w) (.cells #[.int .i64 x0, .string x1, .string x2, .int .i64 x3, .int .i64 x4, .bool x5, .slice A n c] 24)))
  have hbx := blk_new w (.cells #[.int .i64 x0, .string x1, .string x2, .int .i64 x3, .int .i64 x4, .bool x5, .slice A n c] 24)
  have HX := Aside0.mk hbx
  have HK := Aside0.mk hk
  clear h hbx hk
  cases hb : hasB sl p with
  | false =>
    have e1 : addR sl p = -1 := by unfold addR; rw [hb]; rfl
    have e2 : addS sl p (slotOf x0 x1 x2 x3 x4 x5 0) = sl := by unfold addS; rw [hb]; rfl
    rw [e1, e2]
    have CC := Aside0.mk (fun w1 (h1 : Ar w1 B g sl) => by obtain ⟨v, rows, h1⟩ := h1; exact has_calls h1.rd p)
    go_enter Try.func27, Try.ntmps27
    go_wp2_with (go_at_call 57; refine (CC.out _ HA.out).mono ?_; rintro e w1 ⟨rfl, rfl⟩; rw [hb])
    go_ret
    exact ⟨rfl, HB.out, HF.out, HA.out⟩
  | true =>
    have hb2 := (hasB_iff sl p).1 hb
    obtain ⟨q, rfl⟩ : ∃ q : Nat, p = q := ⟨p.toNat, by omega⟩
    have hq : q < sl.length := by omega
    have e1 : addR sl q = sl.length := by unfold addR; rw [hb]; rfl
    have e2 : addS sl q (slotOf x0 x1 x2 x3 x4 x5 0) = linkS (sl ++ [slotOf x0 x1 x2 x3 x4 x5 0]) sl.length q := by unfold addS; rw [hb]; rfl
    rw [e1, e2]
    have HKQ := Aside0.mk (HK.out q hq)
    clear HK e1 e2 hb2
    have CC := Aside0.mk (fun w1 (h1 : Ar w1 B g sl) => by obtain ⟨v, rows, h1⟩ := h1; exact has_calls h1.rd (q : Int))
    obtain ⟨v, rows, h1⟩ := HA.out
    obtain ⟨r, cap, rfl, hr, cells, hty⟩ := h1.row0 (by omega)
    have g0 : (w.alloc (.cells #[.int .i64 x0, .string x1, .string x2, .int .i64 x3, .int .i64 x4, .bool x5, .slice A n c] 24)).cell? ⟨g, 0, none⟩ = some (.slice (some ⟨r, 0, none⟩) sl.length cap) := blk_cell h1.blk 0
    have H1 := Aside0.mk h1
    have HT := Aside0.mk hty
    clear h1 hty
    go_enter Try.func27, Try.ntmps27
    go_wp2_with (go_at_call 57; refine (CC.out _ HA.out).mono ?_; rintro e w1 ⟨rfl, rfl⟩; rw [hb])
    clear CC HA hb
    generalize w.alloc (.cells #[.int .i64 x0, .string x1, .string x2, .int .i64 x3, .int .i64 x4, .bool x5, .slice A n c] 24) = w1 at HB HF HX H1 HT g0 ⊢
    generalize w.heap.size = gb at HX ⊢
    have k0 : w1.cell? ⟨gb, 0, none⟩ = some (.int .i64 x0) := blk_cell HX.out 0
    have k1 : w1.cell? ⟨gb, 1, none⟩ = some (.string x1) := blk_cell HX.out 1
    have k2 : w1.cell? ⟨gb, 2, none⟩ = some (.string x2) := blk_cell HX.out 2
    have k3 : w1.cell? ⟨gb, 3, none⟩ = some (.int .i64 x3) := blk_cell HX.out 3
    have k4 : w1.cell? ⟨gb, 4, none⟩ = some (.int .i64 x4) := blk_cell HX.out 4
    have k5 : w1.cell? ⟨gb, 5, none⟩ = some (.bool x5) := blk_cell HX.out 5
    have k6 : w1.cell? ⟨gb, 6, none⟩ = some (.slice A n c) := blk_cell HX.out 6
    have hfz1 : w1.frozen? ⟨g, 0, none⟩ = false := blk_frozen H1.out.blk 0
    have hgr : some g ≠ (Value.slice (some ⟨r, 0, none⟩) sl.length cap).ownBlock := Kd.R_ne H1.out.row H1.out.blk (by decide)
    have HS1 := Aside0.mk (show B ≤ w1.heap.size by have := Ar.size ⟨_, _, H1.out⟩; exact this)
    have HLR := Aside0.mk H1.out.len
    have HXR := Aside0.mk (show (Kd.raw 9).M w1 B (fun _ => False) (rowOf (slotOf x0 x1 x2 x3 x4 x5 0) (.slice none 0 0)) (rowOf (slotOf x0 x1 x2 x3 x4 x5 0) (.slice none 0 0)) from ⟨rfl, rfl, fun u hu => by
      simp only [rowOf, List.mem_cons, List.not_mem_nil, or_false] at hu
      rcases hu with rfl | rfl | rfl | rfl | rfl | rfl | rfl | rfl | rfl <;> rfl⟩)
    have hsl : (rows.length + 1) * 120 ≤ 140737488355328 := by rw [HLR.out]; omega
    go_region_law (first
      | (refine Kd.R_append_step (Kd.raw 9) (w0 := w) B (by rfl) _ _ 71 70 _ 120 (by rfl) Try.underlying71 info70 rfl (by decide) (by decide) (.slice (some ⟨r, 0, none⟩) sl.length cap) rows (rowOf (slotOf x0 x1 x2 x3 x4 x5 0) (.slice none 0 0)) (rowOf (slotOf x0 x1 x2 x3 x4 x5 0) (.slice none 0 0)) (fun _ => True) (fun _ => False) (by rfl) (by rfl) HXR.out (fun _ h => h.elim) (fun _ _ => trivial) H2.out.row B2.out HS2.out hsl ?_; intro v1 w3 ho hb3 hg hat; obtain ⟨A1, c1, hv1⟩ := Kd.R_slice ho; subst hv1; have hgb := blk_grown H2.out.blk hg hgr; have g03 : w3.cell? ⟨g, 0, none⟩ = some (.slice (some ⟨r, 0, none⟩) sl.length cap) := blk_cell hgb 0; have hfz3 : w3.frozen? ⟨g, 0, none⟩ = false := blk_frozen hgb 0; have HO := Aside0.mk ho; have HB3 := Aside0.mk hb3; have HG := Aside0.mk hg; clear ho hb3 hg hat hgb)
      | (go_simp; go_at_call 55; refine (bare_nil _ _ _ _ _ _ _ _ _ _).mono ?_; rintro e w2 ⟨rfl, hb⟩; obtain ⟨h2, b2, f2, s2, g02⟩ := add_mid H1.out hb HB.out HF.out; have H2 := Aside0.mk h2; have B2 := Aside0.mk b2; have F2 := Aside0.mk f2; have HS2 := Aside0.mk s2; clear hb h2 b2 f2 s2))
    all_goals
      obtain ⟨h4, b4, f4⟩ := add_end (slotOf x0 x1 x2 x3 x4 x5 0) rfl rfl HLR.out H2.out HB3.out F2.out HO.out HG.out
      have CL := Aside0.mk (link_calls h4 sl.length q (by simp) (by simp; omega) (by rw [rd70_app _ _ _ (by simp; omega), if_pos hq]; exact HKQ.out))
      have B4 := Aside0.mk b4
      have F4 := Aside0.mk f4
      clear h4 b4 f4 HO HG H2 B2 F2 HS2 HB3 HX HXR HB HF H1 HT
      generalize w3.setCell ⟨g, 0, none⟩ (.slice A1 (rows.length + 1) c1) = w4 at CL B4 F4 ⊢
      go_wp2_with (go_at_call 58; refine CL.out.mono ?_; rintro e w5 ⟨rfl, hb, hf, ha⟩; have HB5 := Aside0.mk (B4.out.trans hb); have HF5 := Aside0.mk (F4.out.trans hf); have HA5 := Aside0.mk ha; clear hb hf ha)
      go_ret
      exact ⟨rfl, HB5.out, HF5.out, HA5.out⟩
end Go.Proofs.Ytikfbipjlkhgeaa.P
