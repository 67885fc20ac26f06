/- (*Arena).Unlink, Children: over the shelf's slices.Delete and slices.Clone. -/
import Derived.Test.YtikfbipjlkhgeaaArenaM
import Derived.Test.YtikfbipjlkhgeaaShelf
import Derived.Test.YtikfbipjlkhgeaaPk12
import Derived.Deep.RegionLaw
import Derived.IntWalk
namespace Go.Proofs.Ytikfbipjlkhgeaa.P
open Go.RowKit Go.Proofs.YtikfbipjlkhgeaaW.PrintWords Go.Proofs.YtikfbipjlkhgeaaW.PrintLast Go.Proofs.YtikfbipjlkhgeaaW.PrintMore
set_option linter.unusedVariables false
set_option linter.unusedSimpArgs false
theorem wr64' {a : Int} (h0 : -4611686018427387904 ≤ a) (h1 : a ≤ 4611686018427387904) : wrap64 a = a := by unfold wrap64; omega
theorem index_ev (l : List Int) (x : Int) (hl : l.length < 4611686018427387904) (q : Nat) (hq : q < l.length) (hx : rd l q = x) (hne : ∀ j : Nat, j < q → rd l j ≠ x) :
    ∀ (d i : Nat), i + d = q → Ev (fun k => slices_Index_int_int.l0 k l x (l.length : Int) (i : Int)) (q : Int) := by
  intro d
  induction d with
  | zero =>
    intro i hi
    have e : i = q := by omega
    subst e
    refine Ev.step (f := fun _ => some (i : Int)) (fun k => ?_) (Ev.now _)
    simp only [slices_Index_int_int.l0]
    rw [if_pos (by omega), if_pos (by omega), if_pos (by omega), if_pos hx.symm]
  | succ d ih =>
    intro i hi
    refine Ev.step (f := fun k => slices_Index_int_int.l0 k l x (l.length : Int) ((i + 1 : Nat) : Int)) (fun k => ?_) (ih (i + 1) (by omega))
    simp only [slices_Index_int_int.l0]
    rw [if_pos (by omega), if_pos (by omega), if_pos (by omega), if_neg (fun e => hne i (by omega) e.symm), wr64' (by omega) (by omega)]
    rfl
theorem index_some (l : List Int) (x : Int) (hl : l.length < 4611686018427387904) (q : Nat) (hq : q < l.length) (hx : rd l q = x) (hne : ∀ j : Nat, j < q → rd l j ≠ x) : ∃ k, slices_Index_int_int.f k l x = some (q : Int) := by
  obtain ⟨k, h⟩ := (index_ev l x hl q hq hx hne q 0 (by omega)).rounds
  exact ⟨k, by unfold slices_Index_int_int.f; exact h⟩
/-- Where a number first stands. -/
theorem first_at : ∀ (l : List Int) (x : Int), x ∈ l → ∃ q : Nat, q < l.length ∧ rd l q = x ∧ (∀ j : Nat, j < q → rd l j ≠ x) ∧ l.eraseIdx q = l.erase x
  | y :: l, x, h => by
    by_cases e : y = x
    · exact ⟨0, by simp, e, fun j hj => by omega, by simp [e]⟩
    · obtain ⟨q, h1, h2, h3, h4⟩ := first_at l x ((List.mem_cons.1 h).resolve_left (fun h => e h.symm))
      refine ⟨q + 1, by simp; omega, h2, fun j hj => ?_, ?_⟩
      · cases j with
        | zero => exact e
        | succ j => exact h3 j (by omega)
      · rw [List.eraseIdx_cons_succ, h4, List.erase_cons_tail (by simpa using e)]
theorem del_calls {w : World} {B b cap : Nat} {xs : List Int} (h : (Kd.int .i64).R 3 w B (fun _ => True) (.slice (some ⟨b, 0, none⟩) xs.length cap) xs) (q : Nat) (hq : q < xs.length) :
    Calls Try.prog 65 #[.slice (some ⟨b, 0, none⟩) xs.length cap, .int .i64 q, .int .i64 ((q : Int) + 1)] w fun e w' => e = .returned (.slice (some ⟨b, 0, none⟩) (xs.length - 1) cap) ∧ (Kd.int .i64).R 3 w' B (fun _ => True) (.slice (some ⟨b, 0, none⟩) (xs.length - 1) cap) (xs.eraseIdx q) ∧ w.grownBy w' (some b) := by
  have hown := Kd.own_of_R h
  obtain ⟨hlen, ho⟩ := hown
  rcases ho with ⟨he, _⟩ | ⟨g', cap', cur, he, hb, hblk, hnc, hcm, hcs, hct⟩
  · cases he
  have he := Value.slice.inj he
  obtain ⟨e1, _, e2⟩ := he
  injection e1 with e1
  injection e1 with e1
  subst e1 e2
  have hm : maxLen = 9223372036854775807 := by decide
  have hc : ∀ j, j < xs.length → w.cell? ⟨b, 0 + j, none⟩ = some (.int .i64 (xs.getD j 0)) := fun j hj => by
    have := (Kd.R_cell (0 : Int) h (j : Int) (by omega) (by omega)).1
    rw [Nat.zero_add]
    exact this
  have hcall := Try.slices_Delete_int_cells b 0 xs.length cap q (q + 1) xs w (Nat.le_refl _) hnc (by omega) (by omega) (by omega) hc (fun j _ => blk_frozen hblk _)
  rw [show ((q : Int) + 1) = ((q + 1 : Nat) : Int) by omega]
  refine hcall.mono ?_
  rintro e w' ⟨rfl, n, rfl⟩
  have hlen2 : ((xs.take xs.length).take q ++ (xs.take xs.length).drop (q + 1) ++ List.replicate (q + 1 - q) (0 : Int)).length = xs.length := by simp; omega
  obtain ⟨cur', h1, h2, h3⟩ := setCells_row (g := b) (e := 3) (((xs.take xs.length).take q ++ (xs.take xs.length).drop (q + 1) ++ List.replicate (q + 1 - q) (0 : Int)).map (Value.int .i64)) 0 (w.drewN n) cur hblk (by rw [List.length_map, hlen2, hcs]; omega)
  obtain ⟨s1, s2, s3, s4⟩ := setCells_same b (((xs.take xs.length).take q ++ (xs.take xs.length).drop (q + 1) ++ List.replicate (q + 1 - q) (0 : Int)).map (Value.int .i64)) 0 (w.drewN n)
  refine ⟨by rw [show q + 1 - q = 1 by omega], ?_, ⟨s1, s2, s3, Nat.le_of_eq s4.symm, fun k hk hne => setCells_far _ 0 k (fun e => hne (by rw [e]))⟩⟩
  have hel : (xs.eraseIdx q).length = xs.length - 1 := by rw [List.length_eraseIdx]; rw [if_pos hq]
  refine Kd.R_of_own ?_ (fun _ _ => trivial)
  rw [hel]
  refine ⟨by rw [show (encs (Value.int .i64) (xs.eraseIdx q)).length = (xs.eraseIdx q).length from List.length_map _, hel]; omega, .inr ⟨b, cap, cur', rfl, hb, h1, by omega, hcm, by rw [h2]; exact hcs, ?_⟩⟩
  rw [h3]
  have e1 : xs.take xs.length = xs := List.take_length
  rw [e1, List.take_zero, List.nil_append, List.eraseIdx_eq_take_drop_succ, List.map_append]
  show List.take ((xs.length - 1) * 1) _ = List.map _ _
  rw [List.append_assoc, List.take_append_of_le_length (by simp; omega), List.take_of_length_le (by simp; omega)]
def unlinkS (sl : List S70) (id p : Nat) : List S70 :=
  let s1 := sl.set p ⟨(rd_T70 sl (p : Int)).f0, (rd_T70 sl (p : Int)).f1, (rd_T70 sl (p : Int)).f2.erase (id : Int)⟩
  s1.set id ⟨(rd_T70 s1 (id : Int)).f0, -1, (rd_T70 s1 (id : Int)).f2⟩
theorem unlink_close {w w1 w2 : World} {B g r b cap c8 : Nat} {sl : List S70} {rows : List (List Value)} {cells : Array Value} {id p q : Nat} (hr : B ≤ r) (hid : id < sl.length) (hp : p < sl.length)
    (HB1 : Below B w w1) (F1 : FrameT w w1) (H1 : ArIn w1 B g (.slice (some ⟨r, 0, none⟩) sl.length cap) rows sl) (HT : w1.heap[r]? = some (Obj.cells cells 70 (0, 0))) (hv8 : kid (rows.getD p []) = .slice (some ⟨b, 0, none⟩) (rd_T70 sl (p : Int)).f2.length c8)
    (hq : (rd_T70 sl (p : Int)).f2.eraseIdx q = (rd_T70 sl (p : Int)).f2.erase (id : Int))
    (hR : (Kd.int .i64).R 3 w2 B (fun _ => True) (.slice (some ⟨b, 0, none⟩) ((rd_T70 sl (p : Int)).f2.length - 1) c8) ((rd_T70 sl (p : Int)).f2.eraseIdx q)) (hg : w1.drew.grownBy w2 (some b)) :
    ArIn (w2.setCell ⟨r, p * 9 + 8, none⟩ (.slice (some ⟨b, 0, none⟩) ((rd_T70 sl (p : Int)).f2.length - 1) c8)) B g (.slice (some ⟨r, 0, none⟩) sl.length cap) (rows.set p ((rows.getD p []).set 8 (.slice (some ⟨b, 0, none⟩) ((rd_T70 sl (p : Int)).f2.length - 1) c8))) (sl.set p ⟨(rd_T70 sl (p : Int)).f0, (rd_T70 sl (p : Int)).f1, (rd_T70 sl (p : Int)).f2.erase (id : Int)⟩) ∧
      Below B w (w2.setCell ⟨r, p * 9 + 8, none⟩ (.slice (some ⟨b, 0, none⟩) ((rd_T70 sl (p : Int)).f2.length - 1) c8)) ∧ FrameT w (w2.setCell ⟨r, p * 9 + 8, none⟩ (.slice (some ⟨b, 0, none⟩) ((rd_T70 sl (p : Int)).f2.length - 1) c8)) := by
  have hkr := H1.kids p hp
  have hob : (kid (rows.getD p [])).ownBlock = some b := by rw [hv8]; rfl
  have hg := grown_drew hg
  rw [← hob] at hg
  have gr2 : some r ≠ (kid (rows.getD p [])).ownBlock := Kd.R_ne hkr HT (by decide)
  rw [hq] at hR
  refine ⟨H1.kidPut p hp _ _ hR hg (.inl ?_), (HB1.grown hg ?_ (Kd.R_base hkr)).setCell hr _, F1.trans (FrameT.trans (FrameT.grown hg (kid_row hkr)) (FrameT.set (blk_grown HT hg gr2) (.inr (.inl rfl)) _ _))⟩
  · rw [hob]; rfl
  · exact Ar.size ⟨_, _, H1⟩
set_option maxRecDepth 100000 in
set_option maxHeartbeats 8000000 in
theorem unlink_yes {w : World} {B g : Nat} {sl : List S70} (h : Ar w B g sl) (id p : Nat) (hid : id < sl.length) (hp : p < sl.length) (hpar : (rd_T70 sl (id : Int)).f1 = (p : Int)) (hmem : (id : Int) ∈ (rd_T70 sl (p : Int)).f2) (hkl : (rd_T70 sl (p : Int)).f2.length < 1000000000) :
    Calls Try.prog 36 #[.pointer (some ⟨g, 0, none⟩), .int .i64 id] w fun e w' => e = .returned (.bool true) ∧ Below B w w' ∧ FrameT w w' ∧ Ar w' B g (unlinkS sl id p) := by
  have hu70 := Try.underlying70
  have hu73 := Try.underlying73
  obtain ⟨v, rows, h⟩ := h
  have CP := Aside0.mk (show Calls Try.prog 29 #[.pointer (some ⟨g, 0, none⟩), .int .i64 id] w fun e w' => e = .returned (.int .i64 p) ∧ w' = w by
    have := parent_calls h.rd (id : Int)
    have e : parentB sl (id : Int) = p := by unfold parentB; rw [if_pos ((hasB_iff sl id).2 ⟨by omega, by omega⟩), hpar]
    rw [e] at this
    exact this)
  obtain ⟨r, cap, rfl, hr, cells, hty⟩ := h.row0 (by omega)
  have g0 : w.cell? ⟨g, 0, none⟩ = some (.slice (some ⟨r, 0, none⟩) sl.length cap) := blk_cell h.blk 0
  have hkr := h.kids p hp
  have hpos : 0 < (rd_T70 sl (p : Int)).f2.length := List.length_pos_of_mem hmem
  obtain ⟨b, c8, hv8, hbb, hblt, cb, hcb⟩ := Kd.R_form hkr hpos
  have g8 := h.cell8 p hp
  rw [hv8] at g8 hkr
  obtain ⟨_, hc8, hCk⟩ := Kd.R_reads' hkr
  obtain ⟨q, hq1, hq2, hq3, hq4⟩ := first_at _ _ hmem
  obtain ⟨kx, hkx⟩ := index_some _ _ (by omega) q hq1 hq2 hq3
  have CI := Aside0.mk (fun w1 (h1 : Kd.C (Kd.int .i64) w1 (some ⟨b, 0, none⟩) (rd_T70 sl (p : Int)).f2.length (rd_T70 sl (p : Int)).f2) => slices_Index_int_int.calls kx (some ⟨b, 0, none⟩) c8 _ (id : Int) (q : Int) w1 h1 hc8 hkx)
  have CD := Aside0.mk (fun w1 (h1 : (Kd.int .i64).R 3 w1 B (fun _ => True) (.slice (some ⟨b, 0, none⟩) (rd_T70 sl (p : Int)).f2.length c8) (rd_T70 sl (p : Int)).f2) => del_calls h1 q hq1)
  have i0 : (id : Int) < (sl.length : Int) := by omega
  have i1 : (p : Int) < (sl.length : Int) := by omega
  have hp0 : decide ((p : Int) < 0) = false := decide_eq_false (by omega)
  have hwq : IntKind.i64.wrap ((q : Int) + 1) = (q : Int) + 1 := IntWalk.i64_in _ (by omega)
  have hgr : g ≠ r := fun e => by
    have h1 := h.blk
    rw [e, hty] at h1
    injection h1 with h1
    injection h1 with _ h1
    exact absurd h1 (by decide)
  have H := Aside0.mk h
  have HT := Aside0.mk hty
  have HV8 := Aside0.mk hv8
  have HQ := Aside0.mk hq4
  have HKR := Aside0.mk hkr
  have HCK := Aside0.mk hCk
  generalize hkl0 : (rd_T70 sl (p : Int)).f2.length = kn at CI CD g8 hkl
  have HKN := Aside0.mk hkl0
  clear h hty hmem hpos hv8 hbb hblt hcb hkr hc8 hCk hq1 hq2 hq3 hq4 hkx hpar hkl0
  go_enter Try.func36, Try.ntmps36
  go_wp2_with fail
  refine CP.out.mono ?_
  rintro e w1 ⟨rfl, rfl⟩
  go_wp2_with fail
  refine (CI.out _ (by rw [← HKN.out]; exact HCK.out)).mono ?_
  rintro e w2 ⟨rfl, hdr⟩
  obtain ⟨n, rfl⟩ := hdr.out
  clear hdr CP CI
  have gne : some g ≠ (some b : Option Nat) := by
    have := Kd.R_ne HKR.out H.out.blk (by decide)
    simpa [Value.ownBlock] using this
  have rne : some r ≠ (some b : Option Nat) := by
    have := Kd.R_ne HKR.out HT.out (by decide)
    simpa [Value.ownBlock] using this
  go_wp2_with fail
  go_region_law ((go_simp; go_at_call 65; refine (CD.out _ (by rw [← HKN.out]; exact Kd.R_drew (Kd.R_drewN HKR.out n))).mono ?_; rintro e w3 ⟨rfl, hR, hg⟩; have g03 : w3.cell? ⟨g, 0, none⟩ = some (.slice (some ⟨r, 0, none⟩) sl.length cap) := hg.cell g0 gne; have g83 : w3.cell? ⟨r, p * 9 + 8, none⟩ = some (.slice (some ⟨b, 0, none⟩) kn c8) := hg.cell g8 rne; have hfz3 : w3.frozen? ⟨r, p * 9 + 8, none⟩ = false := blk_frozen (blk_grown (blk_drew (blk_drewN HT.out n)) hg rne) _))
  all_goals
    obtain ⟨h4, b4, f4⟩ := unlink_close hr hid hp (Below.refl B w1 |> fun h => (show Below B w1 (w1.drewN n) from pw_below_drewN h n)) (show FrameT w1 (w1.drewN n) from FrameT.refl w1) (show ArIn (w1.drewN n) B g _ rows sl from H.out.below (pw_below_drewN (Below.refl _ _) n)) (show (w1.drewN n).heap[r]? = _ from HT.out) HV8.out HQ.out (by rw [HKN.out]; exact hR) hg
    rw [HKN.out] at h4 b4 f4
    have H4 := Aside0.mk h4
    have B4 := Aside0.mk b4
    have F4 := Aside0.mk f4
    have HS := Aside0.mk (ArIn.setParent h4 id (by rw [List.length_set]; exact hid) (-1))
    have HTS := Aside0.mk (show ∃ cs, (w3.setCell ⟨r, p * 9 + 8, none⟩ (.slice (some ⟨b, 0, none⟩) (kn - 1) c8)).heap[r]? = some (Obj.cells cs 70 (0, 0)) from ⟨_, blk_put (blk_grown (blk_drew (blk_drewN HT.out n)) hg rne) _ _ rfl⟩)
    obtain ⟨cs5, hcs5⟩ := HTS.out
    have hf7 : (w3.setCell ⟨r, p * 9 + 8, none⟩ (.slice (some ⟨b, 0, none⟩) (kn - 1) c8)).frozen? ⟨r, id * 9 + 7, none⟩ = false := blk_frozen hcs5 _
    have h70 : (w3.setCell ⟨r, p * 9 + 8, none⟩ (.slice (some ⟨b, 0, none⟩) (kn - 1) c8)).cell? ⟨g, 0, none⟩ = some (.slice (some ⟨r, 0, none⟩) sl.length cap) := blk_cell h4.blk 0
    have h77 := h4.cell7 id (by rw [List.length_set]; exact hid)
    have HC5 := Aside0.mk hcs5
    clear h4 b4 f4 hR hg g03 g83 hfz3 hcs5 HTS
    generalize (w3.setCell ⟨r, p * 9 + 8, none⟩ (.slice (some ⟨b, 0, none⟩) (kn - 1) c8)) = w5 at H4 B4 F4 HS HC5 hf7 h70 h77 ⊢
    generalize (Value.int .i64 (rd_T70 (sl.set p ⟨(rd_T70 sl (p : Int)).f0, (rd_T70 sl (p : Int)).f1, (rd_T70 sl (p : Int)).f2.erase (id : Int)⟩) (id : Int)).f1) = u7 at h77
    go_wp2_with fail
    go_ret
    exact ⟨rfl, B4.out.setCell hr _, F4.out.trans (FrameT.set HC5.out (.inr (.inl rfl)) _ _), ⟨_, _, HS.out⟩⟩
end Go.Proofs.Ytikfbipjlkhgeaa.P
