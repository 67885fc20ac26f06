/- tree.Arena: Set, Get, Unlink, told whole; for TreePlays. -/
import Derived.Test.YtikfbipjlkhgeaaRfA
import Derived.Test.YtikfbipjlkhgeaaMove
import Derived.Deep.RegionHeld3
import Derived.Deep.RegionLaw
namespace Go.Proofs.Ytikfbipjlkhgeaa.P
open Go.RowKit Go.Proofs.YtikfbipjlkhgeaaW.PrintWords Go.Proofs.YtikfbipjlkhgeaaW.PrintLast Go.Proofs.YtikfbipjlkhgeaaW.PrintMore
set_option linter.unusedVariables false
set_option linter.unusedSimpArgs false
section
set_option maxRecDepth 100000
set_option maxHeartbeats 8000000
/-- What Unlink does. -/
def UnlinkRel (sl : List S70) (id : Int) (b : Bool) (sl' : List S70) : Prop :=
  (b = true ∧ ∃ i q : Nat, id = i ∧ i < sl.length ∧ q < sl.length ∧ par sl i = (q : Int) ∧ sl' = unlinkS sl i q) ∨ (b = false ∧ sl' = sl ∧ parentB sl id < 0)
theorem unlink_calls {w : World} {B g : Nat} {sl : List S70} (h : Ar w B g sl) (hw : Wf sl) (hs : sl.length < 1000000) (id : Int) :
    Calls Try.prog 36 #[.pointer (some ⟨g, 0, none⟩), .int .i64 id] w fun e w' => ∃ sl' b, e = .returned (.bool b) ∧ Below B w w' ∧ FrameT w w' ∧ Ar w' B g sl' ∧ UnlinkRel sl id b sl' := by
  by_cases hp : parentB sl id < 0
  · refine (unlink_no h id hp).mono ?_
    rintro e w' ⟨rfl, rfl⟩
    exact ⟨sl, false, rfl, Below.refl _ _, FrameT.refl _, h, .inr ⟨rfl, rfl, hp⟩⟩
  · have hb : hasB sl id = true := by
      cases e : hasB sl id with
      | true => rfl
      | false => exact absurd (by unfold parentB; rw [e, if_neg (by decide)]; omega) hp
    obtain ⟨a0, a1⟩ := (hasB_iff sl id).1 hb
    obtain ⟨i, rfl⟩ : ∃ i : Nat, id = i := ⟨id.toNat, by omega⟩
    have hi : i < sl.length := by omega
    have e : parentB sl (i : Int) = par sl i := by unfold parentB; rw [if_pos hb]; rfl
    rw [e] at hp
    obtain ⟨d, hu⟩ := hw.up
    rcases hu.pr i hi with h1 | ⟨q, hq, h1, _⟩
    · have h1 : par sl i = -1 := h1
      omega
    · have h1 : par sl i = q := h1
      refine (unlink_yes h i q hi hq h1 ((hw.kd q hq i).2 ⟨i, hi, rfl, h1⟩) (by have := hw.kb q hq; omega)).mono ?_
      rintro e w' ⟨rfl, hb2, hf2, ha2⟩
      exact ⟨_, true, rfl, hb2, hf2, ha2, .inl ⟨rfl, i, q, rfl, hi, hq, h1, rfl⟩⟩
theorem UnlinkRel.wf {sl sl' : List S70} {id : Int} {b : Bool} (h : UnlinkRel sl id b sl') (hw : Wf sl) : Wf sl' ∧ sl'.length = sl.length := by
  rcases h with ⟨_, i, q, rfl, hi, hq, hp, rfl⟩ | ⟨_, rfl, _⟩
  · exact ⟨unlink_wf hw i q hi hq hp, unlinkS_len _ _ _⟩
  · exact ⟨hw, rfl⟩

section
attribute [local go_sem] World.cell?_alloc_some
theorem get_calls {w : World} {B g : Nat} {sl : List S70} (h : Ar w B g sl) (i : Nat) (hi : i < sl.length) (x0 : Int) (x1 x2 : ByteArray) (x3 x4 : Int) (x5 : Bool) (l : List S24) (hx : (rd_T70 sl (i : Int)).f0 = ⟨x0, x1, x2, x3, x4, x5, l⟩) :
    Calls Try.prog 46 #[.pointer (some ⟨g, 0, none⟩), .int .i64 i] w fun e w' => e = .returned (.agg #[.int .i64 x0, .string x1, .string x2, .int .i64 x3, .int .i64 x4, .bool x5, .slice none 0 0]) ∧ Below w.heap.size w w' := by
  have hu24 := Try.underlying24
  have hu70 := Try.underlying70
  have hu73 := Try.underlying73
  have hA := h.below (below_alloc (Below.refl w.heap.size w) (.cells #[.int .i64 0, .string ⟨#[]⟩, .string ⟨#[]⟩, .int .i64 0, .int .i64 0, .bool false, .slice none 0 0] 24))
  have HZ := Aside0.mk (blk_new w (.cells #[.int .i64 x0, .string x1, .string x2, .int .i64 x3, .int .i64 x4, .bool x5, .slice none 0 0] 24))
  have HB := Aside0.mk (below_alloc (Below.refl w.heap.size w) (.cells #[.int .i64 x0, .string x1, .string x2, .int .i64 x3, .int .i64 x4, .bool x5, .slice none 0 0] 24))
  have hb : hasB sl (i : Int) = true := (hasB_iff sl _).2 ⟨by omega, by omega⟩
  obtain ⟨v, rows, h1⟩ := hA
  have CC := Aside0.mk (has_calls h1.rd (i : Int))
  rw [hb] at CC
  obtain ⟨r, cap, rfl, hr, cs, hty⟩ := h1.row0 (by omega)
  have g0 := blk_cell h1.blk 0
  have g0 : (w.alloc (.cells #[.int .i64 0, .string ⟨#[]⟩, .string ⟨#[]⟩, .int .i64 0, .int .i64 0, .bool false, .slice none 0 0] 24)).cell? ⟨g, 0, none⟩ = some (.slice (some ⟨r, 0, none⟩) sl.length cap) := g0
  obtain ⟨c0, c1, c2, c3, c4, c5, c6⟩ := h1.cells6 i hi
  rw [hx] at c0 c1 c2 c3 c4 c5
  have i0 : (i : Int) < (sl.length : Int) := by omega
  clear h h1 hty hb hx
  go_enter Try.func46, Try.ntmps46
  go_wp2_with (go_at_call 57; refine CC.out.mono ?_; rintro e w1 ⟨rfl, rfl⟩)
  refine bodyPost_ret (results_cell_row rfl _ _ w.heap.size 24 #[.int .i64 x0, .string x1, .string x2, .int .i64 x3, .int .i64 x4, .bool x5, .slice none 0 0] (0, 0) _ rfl HZ.out Try.underlying24 rfl (by kernel_rfl)) rfl ⟨rfl, HB.out⟩

theorem get_out {w : World} {B g : Nat} {sl : List S70} (h : Ar w B g sl) (id : Int) (hb : hasB sl id = false) :
    Calls Try.prog 46 #[.pointer (some ⟨g, 0, none⟩), .int .i64 id] w fun e w' => e = .returned (.agg #[.int .i64 0, .string ⟨#[]⟩, .string ⟨#[]⟩, .int .i64 0, .int .i64 0, .bool false, .slice none 0 0]) ∧ Below w.heap.size w w' := by
  have hu24 := Try.underlying24
  have hA := h.below (below_alloc (Below.refl w.heap.size w) (.cells #[.int .i64 0, .string ⟨#[]⟩, .string ⟨#[]⟩, .int .i64 0, .int .i64 0, .bool false, .slice none 0 0] 24))
  have HZ := Aside0.mk (blk_new w (.cells #[.int .i64 0, .string ⟨#[]⟩, .string ⟨#[]⟩, .int .i64 0, .int .i64 0, .bool false, .slice none 0 0] 24))
  have HB := Aside0.mk (below_alloc (Below.refl w.heap.size w) (.cells #[.int .i64 0, .string ⟨#[]⟩, .string ⟨#[]⟩, .int .i64 0, .int .i64 0, .bool false, .slice none 0 0] 24))
  obtain ⟨v, rows, h1⟩ := hA
  have CC := Aside0.mk (has_calls h1.rd id)
  rw [hb] at CC
  clear h h1 hb
  go_enter Try.func46, Try.ntmps46
  go_wp2_with (go_at_call 57; refine CC.out.mono ?_; rintro e w1 ⟨rfl, rfl⟩)
  refine bodyPost_ret (results_cell_row rfl _ _ w.heap.size 24 #[.int .i64 0, .string ⟨#[]⟩, .string ⟨#[]⟩, .int .i64 0, .int .i64 0, .bool false, .slice none 0 0] (0, 0) _ rfl HZ.out Try.underlying24 rfl (by kernel_rfl)) rfl ⟨rfl, HB.out⟩
end
end
def nrow' (x : S24) : List Value := [.int .i64 x.f0, .string x.f1, .string x.f2, .int .i64 x.f3, .int .i64 x.f4, .bool x.f5, .slice none 0 0]
/-- A slot's fields are others. -/
theorem ArIn.setNode {w : World} {B g r n cap : Nat} {rows : List (List Value)} {sl : List S70} (h : ArIn w B g (.slice (some ⟨r, 0, none⟩) n cap) rows sl) (i : Nat) (hi : i < sl.length) (x : S24) (hx : x.f6 = []) :
    ArIn (w.setCells r (i * 9) (nrow' x)) B g (.slice (some ⟨r, 0, none⟩) n cap) (rows.set i (nrow' x ++ (rows.getD i []).drop 7)) (setS sl i x) ∧ w.grownBy (w.setCells r (i * 9) (nrow' x)) (some r) := by
  have hlr := h.len
  have hir : i < rows.length := by omega
  have hl := setS_len sl i x
  obtain ⟨cells, hty⟩ := Kd.R_typed h.row r rfl
  obtain ⟨hn, hnc, _⟩ := Kd.R_reads' h.row
  obtain ⟨c, hcl, hM, hcell, _⟩ := Kd.R_elem h.row ([] : List Value) (i : Int) (by omega) (by omega)
  simp only [Int.toNat_natCast] at hM hcell
  obtain ⟨hc1, hc2, hc3⟩ := hM
  have hcl9 : c.length = 9 := hcl
  have hseg := Kd.R_seg h.row (i : Int) (by omega) (by omega) (c := c) (seg := nrow' x) (j := 0) (okp := fun _ => False) hcl (by simpa using hcell) (by show 0 + 7 ≤ 9; omega) (x' := nrow' x ++ (rows.getD i []).drop 7)
    (by
      rw [List.take_zero, List.nil_append, show 0 + (nrow' x).length = 7 from rfl, ← hc1]
      refine ⟨rfl, ?_, fun v hv => ?_⟩
      · show (nrow' x ++ c.drop 7).length = 9
        rw [List.length_append, List.length_drop, hcl9]
        rfl
      · rw [List.mem_append] at hv
        rcases hv with hv | hv
        · simp only [nrow', List.mem_cons, List.not_mem_nil, or_false] at hv
          rcases hv with rfl | rfl | rfl | rfl | rfl | rfl | rfl <;> rfl
        · exact hc3 v (List.mem_of_mem_drop hv)) (fun k hk => hk.elim)
  simp only [Int.toNat_natCast] at hseg
  have hW : w.setCells r (i * (Kd.raw 9).sz + 0) (nrow' x) = w.setCells r (i * 9) (nrow' x) := rfl
  rw [hW] at hseg
  obtain ⟨hs1, hs2⟩ := hseg
  have hne : some g ≠ some r := Kd.R_ne h.row h.blk (by decide)
  have hrow : ∀ q : Nat, (rows.set i (nrow' x ++ (rows.getD i []).drop 7)).getD q [] = if i = q then nrow' x ++ (rows.getD i []).drop 7 else rows.getD q [] := fun q => getD_setR _ _ _ _ _ hir
  have hri := h.at_ i hi
  have hnew : nrow' x ++ (rows.getD i []).drop 7 = rowOf ⟨x, par sl i, kds sl i⟩ (kid (rows.getD i [])) := by
    have e : (rows.getD i []).drop 7 = [.int .i64 (par sl i), kid (rows.getD i [])] := by
      conv => lhs; rw [hri]
      rfl
    rw [e]
    rfl
  have hkid : ∀ q : Nat, q < sl.length → kid ((rows.set i (nrow' x ++ (rows.getD i []).drop 7)).getD q []) = kid (rows.getD q []) := fun q hq => by
    rw [hrow q]
    by_cases e : i = q
    · rw [if_pos e, hnew, ← e]
      rfl
    · rw [if_neg e]
  have hrd := setS_rd sl i x hi
  refine ⟨⟨h.lo, blk_grown h.blk hs2 hne, hs1, by rw [List.length_set, hl]; exact hlr, fun q hq => ?_, fun q hq => ?_, fun q hq => ?_, fun q p hq hp hqp k hk => ?_⟩, hs2⟩
  · rw [hl] at hq
    rw [hkid q hq, hrow q, hrd q]
    by_cases e : i = q
    · subst e
      rw [if_pos rfl, if_pos rfl, hnew]
    · rw [if_neg e, if_neg (fun e2 => e e2.symm)]
      exact h.at_ q hq
  · rw [hl] at hq
    rw [hrd q]
    by_cases e : q = i
    · rw [if_pos e]; exact hx
    · rw [if_neg e]; exact h.bare q hq
  · rw [hl] at hq
    rw [hkid q hq, hrd q]
    exact Kd.R_over (h.kids q hq) h.row (by decide) hs2
  · rw [hl] at hq hp
    rw [hkid q hq] at hk
    rw [hkid p hp]
    exact h.apart q p hq hp hqp k hk
theorem set7_eq' (w : World) (r o : Nat) (u0 u1 u2 u3 u4 u5 u6 : Value) : ((((((w.setCell ⟨r, o, none⟩ u0).setCell ⟨r, o + 1, none⟩ u1).setCell ⟨r, o + 2, none⟩ u2).setCell ⟨r, o + 3, none⟩ u3).setCell ⟨r, o + 4, none⟩ u4).setCell ⟨r, o + 5, none⟩ u5).setCell ⟨r, o + 6, none⟩ u6 = w.setCells r o [u0, u1, u2, u3, u4, u5, u6] := rfl
theorem aset_fin {w w1 w2 : World} {B g r n cap : Nat} {rows : List (List Value)} {sl : List S70} (HB : Below B w w1) (HF : FrameT w w1) (hr : B ≤ r) (h : ArIn w2 B g (.slice (some ⟨r, 0, none⟩) n cap) rows sl) (hb : Below w1.drew.heap.size w1.drew w2) (hB1 : B ≤ w1.heap.size) (i : Nat) (hi : i < sl.length) (x : S24) (hx : x.f6 = []) :
    Below B w (w2.setCells r (i * 9) (nrow' x)) ∧ FrameT w (w2.setCells r (i * 9) (nrow' x)) ∧ Ar (w2.setCells r (i * 9) (nrow' x)) B g (setS sl i x) := by
  obtain ⟨h1, h3⟩ := h.setNode i hi x hx
  obtain ⟨cells, hty⟩ := Kd.R_typed h.row r rfl
  have hb2 : Below B w w2 := HB.drew.trans (hb.mono hB1)
  refine ⟨hb2.grown h3 (Nat.le_trans hB1 hb.size) (fun k hk => by injection hk with hk; rw [← hk]; exact hr), ((FrameT.trans HF.drew (FrameT.below hb))).trans (FrameT.grown h3 fun k hk => ?_), ⟨_, _, h1⟩⟩
  injection hk with hk
  subst hk
  exact ⟨70, cells, hty, .inr (.inl rfl)⟩
section
attribute [local go_sem] World.cell?_alloc_some
set_option maxRecDepth 100000 in
set_option maxHeartbeats 8000000 in
theorem aset_calls {w : World} {B g : Nat} {sl : List S70} (h : Ar w B g sl) (id : Int) (x0 : Int) (x1 x2 : ByteArray) (x3 x4 : Int) (x5 : Bool) (A : Option Addr) (n c : Nat) :
    Calls Try.prog 40 #[.pointer (some ⟨g, 0, none⟩), .int .i64 id, .agg #[.int .i64 x0, .string x1, .string x2, .int .i64 x3, .int .i64 x4, .bool x5, .slice A n c]] w
      fun e w' => e = .returned (.bool (hasB sl id)) ∧ Below B w w' ∧ FrameT w w' ∧ Ar w' B g (if hasB sl id = true then setS sl id.toNat ⟨x0, x1, x2, x3, x4, x5, []⟩ else sl) := by
  have hu24 := Try.underlying24
  have hu70 := Try.underlying70
  have hu73 := Try.underlying73
  have hB := h.size
  have HA := Aside0.mk (h.below (below_alloc (Below.refl w.heap.size w) (.cells #[.int .i64 x0, .string x1, .string x2, .int .i64 x3, .int .i64 x4, .bool x5, .slice A n c] 24)))
  have HB := Aside0.mk (show Below B w (w.alloc (.cells #[.int .i64 x0, .string x1, .string x2, .int .i64 x3, .int .i64 x4, .bool x5, .slice A n c] 24)) from (Below.refl B w).alloc hB _)
  have HF := Aside0.mk (FrameT.below (below_alloc (Below.refl w.heap.size w) (.cells #[.int .i64 x0, .string x1, .string x2, .int .i64 x3, .int .i64 x4, .bool x5, .slice A n c] 24)))
  have HX := Aside0.mk (blk_new w (.cells #[.int .i64 x0, .string x1, .string x2, .int .i64 x3, .int .i64 x4, .bool x5, .slice A n c] 24))
  have CC := Aside0.mk (show Calls Try.prog 57 #[.pointer (some ⟨g, 0, none⟩), .int .i64 id] (w.alloc (.cells #[.int .i64 x0, .string x1, .string x2, .int .i64 x3, .int .i64 x4, .bool x5, .slice A n c] 24)) _ from by obtain ⟨v, rows, h1⟩ := HA.out; exact has_calls h1.rd id)
  cases hb : hasB sl id with
  | false =>
    rw [hb] at CC
    clear h
    go_enter Try.func40, Try.ntmps40
    go_wp2_with (go_at_call 57; refine CC.out.mono ?_; rintro e w1 ⟨rfl, rfl⟩)
    go_ret
    exact ⟨rfl, HB.out, HF.out, HA.out⟩
  | true =>
    rw [hb] at CC
    have hb2 := (hasB_iff sl id).1 hb
    obtain ⟨i, rfl⟩ : ∃ q : Nat, id = q := ⟨id.toNat, by omega⟩
    have hi : i < sl.length := by omega
    obtain ⟨v, rows, h1⟩ := HA.out
    obtain ⟨r, cap, rfl, hr, cells, hty⟩ := h1.row0 (by omega)
    have g0 : (w.alloc (.cells #[.int .i64 x0, .string x1, .string x2, .int .i64 x3, .int .i64 x4, .bool x5, .slice A n c] 24)).cell? ⟨g, 0, none⟩ = some (.slice (some ⟨r, 0, none⟩) sl.length cap) := blk_cell h1.blk 0
    have H1 := Aside0.mk h1
    have HT := Aside0.mk hty
    have i0 : (i : Int) < (sl.length : Int) := by omega
    clear h1 hty hb hb2 h
    go_enter Try.func40, Try.ntmps40
    go_wp2_with (go_at_call 57; refine CC.out.mono ?_; rintro e w1 ⟨rfl, hw⟩; obtain rfl := hw.symm)
    clear CC
    generalize w.alloc (.cells #[.int .i64 x0, .string x1, .string x2, .int .i64 x3, .int .i64 x4, .bool x5, .slice A n c] 24) = w1 at HA HB HF HX H1 HT g0 ⊢
    generalize w.heap.size = gb at HX ⊢
    have k0 : w1.cell? ⟨gb, 0, none⟩ = some (.int .i64 x0) := blk_cell HX.out 0
    have k1 : w1.cell? ⟨gb, 1, none⟩ = some (.string x1) := blk_cell HX.out 1
    have k2 : w1.cell? ⟨gb, 2, none⟩ = some (.string x2) := blk_cell HX.out 2
    have k3 : w1.cell? ⟨gb, 3, none⟩ = some (.int .i64 x3) := blk_cell HX.out 3
    have k4 : w1.cell? ⟨gb, 4, none⟩ = some (.int .i64 x4) := blk_cell HX.out 4
    have k5 : w1.cell? ⟨gb, 5, none⟩ = some (.bool x5) := blk_cell HX.out 5
    have k6 : w1.cell? ⟨gb, 6, none⟩ = some (.slice A n c) := blk_cell HX.out 6
    go_region_law (first
      | (go_simp; go_at_call 55; refine (bare_nil _ _ _ _ _ _ _ _ _ _).mono ?_; rintro e w2 ⟨rfl, hb⟩; have H2 := Aside0.mk (ArIn.below (H1.out.below (below_drew (Below.refl _ _))) hb); have HT2 := Aside0.mk (blk_below (blk_below HT.out (below_drew (Below.refl _ _))) hb); have HB2 := Aside0.mk hb; have g02 : w2.cell? ⟨g, 0, none⟩ = some (.slice (some ⟨r, 0, none⟩) sl.length cap) := blk_cell H2.out.blk 0; obtain ⟨j0, j1, j2, j3, j4, j5, j6⟩ := H2.out.cells6 i hi; have z0 := blk_frozen HT2.out (i * 9); have z1 := blk_frozen HT2.out (i * 9 + 1); have z2 := blk_frozen HT2.out (i * 9 + 2); have z3 := blk_frozen HT2.out (i * 9 + 3); have z4 := blk_frozen HT2.out (i * 9 + 4); have z5 := blk_frozen HT2.out (i * 9 + 5); have z6 := blk_frozen HT2.out (i * 9 + 6); clear hb))
    all_goals
      go_wp2_with fail
      go_ret
      rw [set7_eq']
      exact ⟨rfl, aset_fin HB.out HF.out hr H2.out HB2.out HA.out.size i hi ⟨x0, x1, x2, x3, x4, x5, []⟩ rfl⟩
end
end Go.Proofs.Ytikfbipjlkhgeaa.P
