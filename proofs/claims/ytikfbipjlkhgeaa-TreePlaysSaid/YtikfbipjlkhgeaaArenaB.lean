/- tree.Arena, told whole: its slots' cells, and that each slot's children lie in a row of their own; what reads it goes over to the kind of slots. -/
import Derived.Test.YtikfbipjlkhgeaaArenaA
namespace Go.Proofs.Ytikfbipjlkhgeaa.P
open Go.RowKit Go.Proofs.YtikfbipjlkhgeaaW.PrintWords Go.Proofs.YtikfbipjlkhgeaaW.PrintLast Go.Proofs.YtikfbipjlkhgeaaW.PrintMore
set_option linter.unusedVariables false
set_option linter.unusedSimpArgs false
def rowOf (x : S70) (v : Value) : List Value := [.int .i64 x.f0.f0, .string x.f0.f1, .string x.f0.f2, .int .i64 x.f0.f3, .int .i64 x.f0.f4, .bool x.f0.f5, .slice none 0 0, .int .i64 x.f1, v]
def kid (row : List Value) : Value := row.getD 8 (.slice none 0 0)
structure ArIn (w : World) (B g : Nat) (v : Value) (rows : List (List Value)) (sl : List S70) : Prop where
  lo : B ≤ g
  blk : w.heap[g]? = some (.cells #[v] 73 (0, 0))
  row : (Kd.raw 9).R 70 w B (fun _ => True) v rows
  len : rows.length = sl.length
  at_ : ∀ i : Nat, i < sl.length → rows.getD i [] = rowOf (rd_T70 sl (i : Int)) (kid (rows.getD i []))
  bare : ∀ i : Nat, i < sl.length → (rd_T70 sl (i : Int)).f0.f6 = []
  kids : ∀ i : Nat, i < sl.length → (Kd.int .i64).R 3 w B (fun _ => True) (kid (rows.getD i [])) (rd_T70 sl (i : Int)).f2
  apart : ∀ i j : Nat, i < sl.length → j < sl.length → i ≠ j → ∀ k, (kid (rows.getD i [])).ownBlock = some k → (kid (rows.getD j [])).ownBlock ≠ some k
theorem ArIn.below {w w1 : World} {B g : Nat} {v : Value} {rows : List (List Value)} {sl : List S70} (h : ArIn w B g v rows sl) (hb : Below w.heap.size w w1) : ArIn w1 B g v rows sl :=
  ⟨h.lo, (hb.block g (blk_lt h.blk)).trans h.blk, Kd.R_below h.row hb, h.len, h.at_, h.bare, fun i hi => Kd.R_below (h.kids i hi) hb, h.apart⟩
theorem ArIn.reads {w : World} {B g : Nat} {v : Value} {rows : List (List Value)} {sl : List S70} (h : ArIn w B g v rows sl) : ∃ A c, v = .slice A sl.length c ∧ sl.length ≤ c ∧ Kd.C k70 w A sl.length sl := by
  obtain ⟨A, c, rfl⟩ := Kd.R_slice h.row
  obtain ⟨_, hc, hC⟩ := Kd.R_reads' h.row
  rw [h.len] at hc hC ⊢
  refine ⟨A, c, rfl, hc, rfl, hC.2.1, fun h0 => ?_⟩
  obtain ⟨ad, rfl, ha⟩ := hC.2.2 h0
  refine ⟨ad, rfl, fun j x hx => ?_⟩
  have hj : j < sl.length := (List.getElem?_eq_some_iff.1 hx).1
  have hjr : j < rows.length := by rw [h.len]; exact hj
  obtain ⟨cs, hl, hR, hcell⟩ := ha j _ (List.getElem?_eq_getElem hjr)
  obtain ⟨hcs, hl9, _⟩ := hR
  have ex : rd_T70 sl (j : Int) = x := by
    show sl.getD j z70 = x
    rw [List.getD_eq_getElem?_getD, hx]; rfl
  have er : rows.getD j [] = rows[j] := by rw [List.getD_eq_getElem?_getD, List.getElem?_eq_getElem hjr]; rfl
  have hrow := h.at_ j hj
  have hbare := h.bare j hj
  have hkid := h.kids j hj
  rw [er, ex] at hrow
  rw [ex] at hbare
  rw [er, ex] at hkid
  obtain ⟨A8, c8, hv8⟩ := Kd.R_slice hkid
  rw [hv8] at hkid hrow
  obtain ⟨_, hc8, hC8⟩ := Kd.R_reads' hkid
  refine ⟨cs, hl, ?_, hcell⟩
  rw [hcs, hrow]
  have h6 : x.f0.f6.length = 0 := by rw [hbare]; rfl
  have := k70_mk w x (A6 := none) (c6 := 0) (by omega) (by rw [hbare]; exact ⟨rfl, by simp, fun h => absurd h (by simp)⟩) (A8 := A8) (c8 := c8) hc8 hC8
  rw [h6] at this
  exact this
theorem ArIn.rd {w : World} {B g : Nat} {v : Value} {rows : List (List Value)} {sl : List S70} (h : ArIn w B g v rows sl) : ArRd w g v sl := ⟨h.blk, h.reads⟩
/-- The same, but for the children of slot ex. -/
structure ArEx (w : World) (B g : Nat) (v : Value) (rows : List (List Value)) (sl : List S70) (ex : Nat) : Prop where
  lo : B ≤ g
  blk : w.heap[g]? = some (.cells #[v] 73 (0, 0))
  row : (Kd.raw 9).R 70 w B (fun _ => True) v rows
  len : rows.length = sl.length
  at_ : ∀ i : Nat, i < sl.length → rows.getD i [] = rowOf (rd_T70 sl (i : Int)) (kid (rows.getD i []))
  bare : ∀ i : Nat, i < sl.length → (rd_T70 sl (i : Int)).f0.f6 = []
  kids : ∀ i : Nat, i < sl.length → i ≠ ex → (Kd.int .i64).R 3 w B (fun _ => True) (kid (rows.getD i [])) (rd_T70 sl (i : Int)).f2
  apart : ∀ i j : Nat, i < sl.length → j < sl.length → i ≠ ex → j ≠ ex → i ≠ j → ∀ k, (kid (rows.getD i [])).ownBlock = some k → (kid (rows.getD j [])).ownBlock ≠ some k
theorem ArIn.ex {w : World} {B g : Nat} {v : Value} {rows : List (List Value)} {sl : List S70} (h : ArIn w B g v rows sl) (ex : Nat) : ArEx w B g v rows sl ex :=
  ⟨h.lo, h.blk, h.row, h.len, h.at_, h.bare, fun i hi _ => h.kids i hi, fun i j hi hj _ _ => h.apart i j hi hj⟩
theorem R_int_ok {w : World} {B : Nat} {ok ok' : Nat → Prop} {v : Value} {l : List Int} (h : (Kd.int .i64).R 3 w B ok v l) (h' : ∀ k, v.ownBlock = some k → ok' k) : (Kd.int .i64).R 3 w B ok' v l := Kd.R_of_own (Kd.own_of_R h) h'
/-- Another thing than an arena's blocks stays. -/
def FrameT (w w' : World) : Prop := ∀ (k : Nat) (q : TypeId) (cells : Array Value), w.heap[k]? = some (Obj.cells cells q (0, 0)) → q ≠ 73 → q ≠ 70 → q ≠ 3 → w'.heap[k]? = w.heap[k]?
theorem FrameT.refl (w : World) : FrameT w w := fun _ _ _ _ _ _ _ => rfl
theorem FrameT.trans {w w1 w2 : World} (h : FrameT w w1) (h' : FrameT w1 w2) : FrameT w w2 := fun k q c hk a b d => (h' k q c ((h k q c hk a b d).trans hk) a b d).trans (h k q c hk a b d)
theorem FrameT.below {w w1 : World} (h : Below w.heap.size w w1) : FrameT w w1 := fun k _ _ hk _ _ _ => h.block k (blk_lt hk)
theorem FrameT.set {w : World} {g t : Nat} {c0 : Array Value} (hb : w.heap[g]? = some (.cells c0 t (0, 0))) (ht : t = 73 ∨ t = 70 ∨ t = 3) (j : Nat) (u : Value) : FrameT w (w.setCell ⟨g, j, none⟩ u) := fun k q c hk a b d =>
  Below.heap_setCell w ⟨g, j, none⟩ u k (fun e => by
    have e : k = g := e
    subst e
    rw [hb] at hk
    injection hk with hk
    injection hk with _ hk
    exact ht.elim (fun e => a (hk.symm.trans e)) (fun e => e.elim (fun e => b (hk.symm.trans e)) (fun e => d (hk.symm.trans e))))
theorem FrameT.grown {w w1 : World} {row : Option Nat} (hg : w.grownBy w1 row) (hty : ∀ k, row = some k → ∃ t c0, w.heap[k]? = some (.cells c0 t (0, 0)) ∧ (t = 73 ∨ t = 70 ∨ t = 3)) : FrameT w w1 := fun k q c hk a b d =>
  hg.block k (blk_lt hk) (fun e => by
    obtain ⟨t, c0, hb, ht⟩ := hty k e.symm
    rw [hb] at hk
    injection hk with hk
    injection hk with _ hk
    exact ht.elim (fun e => a (hk.symm.trans e)) (fun e => e.elim (fun e => b (hk.symm.trans e)) (fun e => d (hk.symm.trans e))))
def Ar (w : World) (B g : Nat) (sl : List S70) : Prop := ∃ v rows, ArIn w B g v rows sl
theorem Ar.below {w w1 : World} {B g : Nat} {sl : List S70} (h : Ar w B g sl) (hb : Below w.heap.size w w1) : Ar w1 B g sl := by
  obtain ⟨v, rows, h⟩ := h
  exact ⟨v, rows, h.below hb⟩
theorem Ar.size {w : World} {B g : Nat} {sl : List S70} (h : Ar w B g sl) : B ≤ w.heap.size := by
  obtain ⟨v, rows, h⟩ := h
  have := h.lo
  have := blk_lt h.blk
  omega
end Go.Proofs.Ytikfbipjlkhgeaa.P
