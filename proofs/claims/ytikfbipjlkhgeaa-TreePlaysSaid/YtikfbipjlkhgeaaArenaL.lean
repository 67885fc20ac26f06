/- (*Arena).link: a slot becomes the last child of another one. -/
import Derived.Test.YtikfbipjlkhgeaaArenaP
import Derived.Deep.RegionHeld3
import Derived.Deep.RegionLaw
import Derived.Deep.DeepCutAuto
namespace Go.Proofs.Ytikfbipjlkhgeaa.P
open Go.RowKit Go.Proofs.YtikfbipjlkhgeaaW.PrintWords Go.Proofs.YtikfbipjlkhgeaaW.PrintLast Go.Proofs.YtikfbipjlkhgeaaW.PrintMore
set_option linter.unusedVariables false
set_option linter.unusedSimpArgs false
def linkS (sl : List S70) (id p : Nat) : List S70 :=
  let s1 := sl.set id ⟨(rd_T70 sl (id : Int)).f0, p, (rd_T70 sl (id : Int)).f2⟩
  s1.set p ⟨(rd_T70 s1 (p : Int)).f0, (rd_T70 s1 (p : Int)).f1, (rd_T70 s1 (p : Int)).f2 ++ [(id : Int)]⟩
theorem info3_ : (Try.prog.info? 3).map (fun i => (i.zero, i.size, i.bytes)) = some (some (.int .i64 0), 1, 8) := by kernel_rfl
theorem ArIn.row0 {w : World} {B g : Nat} {v : Value} {rows : List (List Value)} {sl : List S70} (h : ArIn w B g v rows sl) (hp : 0 < sl.length) : ∃ r cap, v = .slice (some ⟨r, 0, none⟩) sl.length cap ∧ B ≤ r ∧ ∃ cells, w.heap[r]? = some (.cells cells 70 (0, 0)) := by
  obtain ⟨r, cap, e, hr, hrl, hty⟩ := Kd.R_form h.row (by rw [h.len]; exact hp)
  rw [h.len] at e
  exact ⟨r, cap, e, hr, hty⟩
/-- A slot's cells. -/
theorem ArIn.cell {w : World} {B g r n cap : Nat} {rows : List (List Value)} {sl : List S70} (h : ArIn w B g (.slice (some ⟨r, 0, none⟩) n cap) rows sl) (i : Nat) (hi : i < sl.length) (j : Nat) (u : Value) (hu : (rows.getD i [])[j]? = some u) : w.cell? ⟨r, i * 9 + j, none⟩ = some u := by
  have hn := (Kd.R_reads' h.row).1
  obtain ⟨c, hcl, hM, hcell, _⟩ := Kd.R_elem h.row ([] : List Value) (i : Int) (by omega) (by have := h.len; omega)
  simp only [Int.toNat_natCast] at hM hcell
  obtain ⟨hc1, _, _⟩ := hM
  exact hcell j u (by rw [hc1]; exact hu)
theorem ArIn.cell8 {w : World} {B g r n cap : Nat} {rows : List (List Value)} {sl : List S70} (h : ArIn w B g (.slice (some ⟨r, 0, none⟩) n cap) rows sl) (i : Nat) (hi : i < sl.length) : w.cell? ⟨r, i * 9 + 8, none⟩ = some (kid (rows.getD i [])) := by
  refine h.cell i hi 8 _ ?_
  have := h.at_ i hi
  generalize kid (rows.getD i []) = k at this ⊢
  rw [this]; rfl
theorem ArIn.cell7 {w : World} {B g r n cap : Nat} {rows : List (List Value)} {sl : List S70} (h : ArIn w B g (.slice (some ⟨r, 0, none⟩) n cap) rows sl) (i : Nat) (hi : i < sl.length) : w.cell? ⟨r, i * 9 + 7, none⟩ = some (.int .i64 (rd_T70 sl (i : Int)).f1) := by
  refine h.cell i hi 7 _ ?_
  have := h.at_ i hi
  generalize kid (rows.getD i []) = k at this ⊢
  rw [this]; rfl
theorem grown_drew {w w1 : World} {row : Option Nat} (hg : w.drew.grownBy w1 row) : w.grownBy w1 row := ⟨hg.os, hg.tape, hg.output, hg.size, hg.block⟩
theorem kid_row {w : World} {B : Nat} {v : Value} {l : List Int} (h : (Kd.int .i64).R 3 w B (fun _ => True) v l) : ∀ k, v.ownBlock = some k → ∃ t c0, w.heap[k]? = some (Obj.cells c0 t (0, 0)) ∧ (t = 73 ∨ t = 70 ∨ t = 3) := fun k hk => by
  obtain ⟨cells, hc⟩ := Kd.R_typed h k hk
  exact ⟨3, cells, hc, .inr (.inr rfl)⟩
theorem link_close {w w1 w2 : World} {B g r cap : Nat} {A8 A1 : Option Addr} {c8 c1 : Nat} {sl s1 : List S70} {rows1 : List (List Value)} {kl : List Int} {id p : Nat} {cells' : Array Value} (hr : B ≤ r)
    (B1 : Below B w w1) (F1 : FrameT w w1) (ES : s1 = sl.set id ⟨(rd_T70 sl (id : Int)).f0, p, (rd_T70 sl (id : Int)).f2⟩) (HS : ArIn w1 B g (.slice (some ⟨r, 0, none⟩) s1.length cap) rows1 s1) (hp1 : p < s1.length)
    (HV8 : kid (rows1.getD p []) = .slice A8 kl.length c8) (HKL : kl = (rd_T70 s1 (p : Int)).f2) (HT1 : w1.heap[r]? = some (Obj.cells cells' 70 (0, 0)))
    (hb : Below B w1 w2) (hg : w1.drew.grownBy w2 (Value.slice A8 kl.length c8).ownBlock) (ho : (Kd.int .i64).R 3 w2 B (fun _ => True) (.slice A1 (kl ++ [(id : Int)]).length c1) (kl ++ [(id : Int)]))
    (hat : (Value.slice A1 (kl ++ [(id : Int)]).length c1).ownBlock = (Value.slice A8 kl.length c8).ownBlock ∨ ∃ b, (Value.slice A1 (kl ++ [(id : Int)]).length c1).ownBlock = some b ∧ w1.drew.heap.size ≤ b) :
    Below B w (w2.setCell ⟨r, p * 9 + 8, none⟩ (.slice A1 (kl.length + 1) c1)) ∧ FrameT w (w2.setCell ⟨r, p * 9 + 8, none⟩ (.slice A1 (kl.length + 1) c1)) ∧ Ar (w2.setCell ⟨r, p * 9 + 8, none⟩ (.slice A1 (kl.length + 1) c1)) B g (linkS sl id p) := by
  have hkr := HS.kids p hp1
  rw [← HV8] at hg hat
  rw [List.length_append, List.length_singleton] at ho hat
  have hg := grown_drew hg
  have gr2 : some r ≠ (kid (rows1.getD p [])).ownBlock := Kd.R_ne hkr HT1 (by decide)
  refine ⟨(B1.trans hb).setCell hr _, F1.trans (FrameT.trans (FrameT.grown hg (kid_row hkr)) (FrameT.set (blk_grown HT1 hg gr2) (.inr (.inl rfl)) _ _)), ?_⟩
  have := HS.kidPut p hp1 (.slice A1 (kl.length + 1) c1) (kl ++ [(id : Int)]) ho hg hat
  have e : linkS sl id p = s1.set p ⟨(rd_T70 s1 (p : Int)).f0, (rd_T70 s1 (p : Int)).f1, kl ++ [(id : Int)]⟩ := by
    unfold linkS
    rw [← ES, HKL]
  rw [e]
  exact ⟨_, _, this⟩
set_option maxRecDepth 100000 in
set_option maxHeartbeats 8000000 in
theorem link_calls {w : World} {B g : Nat} {sl : List S70} (h : Ar w B g sl) (id p : Nat) (hid : id < sl.length) (hp : p < sl.length) (hk : (rd_T70 sl (p : Int)).f2.length < 1000000000) :
    Calls Try.prog 58 #[.pointer (some ⟨g, 0, none⟩), .int .i64 id, .int .i64 p] w fun e w' => e = .returned (.tuple #[]) ∧ Below B w w' ∧ FrameT w w' ∧ Ar w' B g (linkS sl id p) := by
  have hu70 := Try.underlying70
  have hu73 := Try.underlying73
  obtain ⟨v, rows, h⟩ := h
  obtain ⟨r, cap, rfl, hr, cells, hty⟩ := h.row0 (by omega)
  have h0 : w.cell? ⟨g, 0, none⟩ = some (.slice (some ⟨r, 0, none⟩) sl.length cap) := blk_cell h.blk 0
  have hf7 : w.frozen? ⟨r, id * 9 + 7, none⟩ = false := blk_frozen hty _
  have h7 := h.cell7 id hid
  generalize (Value.int .i64 (rd_T70 sl (id : Int)).f1) = u7 at h7
  have i0 : (id : Int) < (sl.length : Int) := by omega
  have i1 : (p : Int) < (sl.length : Int) := by omega
  have hgr : g ≠ r := fun e => by
    have h1 := h.blk
    rw [e, hty] at h1
    injection h1 with h1
    injection h1 with _ h1
    exact absurd h1 (by decide)
  have H := Aside0.mk h
  have HT := Aside0.mk hty
  have HS := Aside0.mk (h.setParent id hid p)
  clear h hty
  go_enter Try.func58, Try.ntmps58
  go_wp2_with fail
  have B1 := Aside0.mk (show Below B w (w.setCell ⟨r, id * 9 + 7, none⟩ (.int .i64 (p : Int))) from (Below.refl B w).setCell hr _)
  have F1 := Aside0.mk (FrameT.set HT.out (.inr (.inl rfl)) (id * 9 + 7) (.int .i64 (p : Int)))
  generalize w.setCell ⟨r, id * 9 + 7, none⟩ (.int .i64 (p : Int)) = w1 at HS B1 F1 ⊢
  obtain ⟨s1, es1⟩ : ∃ s1 : List S70, s1 = sl.set id ⟨(rd_T70 sl (id : Int)).f0, p, (rd_T70 sl (id : Int)).f2⟩ := ⟨_, rfl⟩
  rw [← es1] at HS
  have hl1 : s1.length = sl.length := by rw [es1, List.length_set]
  have hkl : (rd_T70 s1 (p : Int)).f2.length < 1000000000 := by
    rw [es1, rd70_set _ _ _ _ hid]
    by_cases e : id = p
    · rw [if_pos e, e]; exact hk
    · rw [if_neg e]; exact hk
  have ES := Aside0.mk es1
  clear es1 hk H HT h0 hf7 h7
  generalize rows.set id ((rows.getD id []).set 7 (Value.int .i64 (p : Int))) = rows1 at HS
  rw [← hl1] at HS i1 ⊢
  have hp1 : p < s1.length := by omega
  have g0 : w1.cell? ⟨g, 0, none⟩ = some (.slice (some ⟨r, 0, none⟩) s1.length cap) := blk_cell HS.out.blk 0
  have g8 := HS.out.cell8 p hp1
  have hkr := HS.out.kids p hp1
  have gr1 : some g ≠ (kid (rows1.getD p [])).ownBlock := Kd.R_ne hkr HS.out.blk (by decide)
  obtain ⟨r', cap', er, hr', cells', hty'⟩ := HS.out.row0 (by omega)
  have er := (Value.slice.inj er).1
  injection er with er
  injection er with er
  subst er
  have hfr : w1.frozen? ⟨r, p * 9 + 8, none⟩ = false := blk_frozen hty' _
  have gr2 : some r ≠ (kid (rows1.getD p [])).ownBlock := Kd.R_ne hkr hty' (by decide)
  obtain ⟨A8, c8, hv8⟩ := Kd.R_slice hkr
  obtain ⟨kl, ekl⟩ : ∃ kl : List Int, kl = (rd_T70 s1 (p : Int)).f2 := ⟨_, rfl⟩
  rw [← ekl] at hkr hv8 hkl
  rw [hv8] at g8 gr1 gr2 hkr
  have HV8 := Aside0.mk hv8
  have HKL := Aside0.mk ekl
  have HKR := Aside0.mk hkr
  have HT1 := Aside0.mk hty'
  have HH := Aside0.mk (show B ≤ w1.heap.size by have := Ar.size ⟨_, _, HS.out⟩; exact this)
  have HL1 := Aside0.mk hl1
  clear hkr hv8 ekl hty' er hl1
  have ga0 : (w1.alloc (.cells #[.int .i64 (id : Int)] 3)).cell? ⟨g, 0, none⟩ = some (.slice (some ⟨r, 0, none⟩) s1.length cap) := (World.cell?_alloc_some _ _ _ (by rw [g0]; rfl)).trans g0
  have ga8 : (w1.alloc (.cells #[.int .i64 (id : Int)] 3)).cell? ⟨r, p * 9 + 8, none⟩ = some (.slice A8 kl.length c8) := (World.cell?_alloc_some _ _ _ (by rw [g8]; rfl)).trans g8
  go_region_law
    ((refine Kd.R_append_step (Kd.int .i64) (w0 := w1) B (by rfl) _ _ 52 3 (.int .i64 0) 8 (by rfl) Try.underlying52 info3_ rfl (by decide) (by decide) (.slice A8 kl.length c8) kl (id : Int) [.int .i64 id] (fun _ => True) (fun _ => False) (by rfl) (by rfl) rfl (fun _ h => h.elim) (fun _ _ => trivial) (Kd.R_drew HKR.out) (below_drew1 (Below.refl B w1)) HH.out (by omega) ?_; intro v1 w2 ho hb hg hat; obtain ⟨A1, c1, hv1⟩ := Kd.R_slice ho; subst hv1; have g02 : w2.cell? ⟨g, 0, none⟩ = some (.slice (some ⟨r, 0, none⟩) s1.length cap) := hg.cell g0 gr1; have g82 : w2.cell? ⟨r, p * 9 + 8, none⟩ = some (.slice A8 kl.length c8) := hg.cell g8 gr2; have hfz : w2.frozen? ⟨r, p * 9 + 8, none⟩ = false := blk_frozen (blk_grown (blk_drew HT1.out) hg gr2) _))
  all_goals
    go_end0
    exact ⟨rfl, link_close hr B1.out F1.out ES.out HS.out hp1 HV8.out HKL.out HT1.out hb hg ho hat⟩
end Go.Proofs.Ytikfbipjlkhgeaa.P
