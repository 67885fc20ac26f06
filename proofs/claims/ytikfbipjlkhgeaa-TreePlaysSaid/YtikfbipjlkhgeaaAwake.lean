/- incipitlaw06.awake: the document's example holds. -/
import Derived.Test.YtikfbipjlkhgeaaPk1
import Derived.Test.YtikfbipjlkhgeaaArenaT
import Derived.Test.YtikfbipjlkhgeaaArenaAd
import Derived.Test.YtikfbipjlkhgeaaSame
import Derived.Test.YtikfbipjlkhgeaaWell
namespace Go.Proofs.Ytikfbipjlkhgeaa.P
open Go.RowKit Go.Proofs.YtikfbipjlkhgeaaW.PrintWords Go.Proofs.YtikfbipjlkhgeaaW.PrintLast Go.Proofs.YtikfbipjlkhgeaaW.PrintMore
set_option linter.unusedVariables false
set_option linter.unusedSimpArgs false
def awT : S24 := ⟨1, ⟨#[]⟩, ⟨#[]⟩, 0, 0, false, [⟨7, ⟨#[]⟩, ⟨#[]⟩, 0, 0, false, [⟨14, ⟨#[97]⟩, ⟨#[]⟩, 0, 0, false, []⟩]⟩]⟩
def awL : List S24 := [⟨7, ⟨#[]⟩, ⟨#[]⟩, 0, 0, false, [⟨14, ⟨#[97]⟩, ⟨#[]⟩, 0, 0, false, []⟩]⟩]
def aw0 : List S70 := [slotOf 1 ⟨#[]⟩ ⟨#[]⟩ 0 0 false (-1)]
def aw1 : List S70 := addS aw0 0 (slotOf 7 ⟨#[]⟩ ⟨#[]⟩ 0 0 false 0)
def aw2 : List S70 := addS aw1 1 (slotOf 14 ⟨#[97]⟩ ⟨#[]⟩ 0 0 false 0)
theorem aw1_eq : aw1 = [⟨⟨1, ⟨#[]⟩, ⟨#[]⟩, 0, 0, false, []⟩, -1, [1]⟩, ⟨⟨7, ⟨#[]⟩, ⟨#[]⟩, 0, 0, false, []⟩, 0, []⟩] := rfl
theorem aw2_eq : aw2 = [⟨⟨1, ⟨#[]⟩, ⟨#[]⟩, 0, 0, false, []⟩, -1, [1]⟩, ⟨⟨7, ⟨#[]⟩, ⟨#[]⟩, 0, 0, false, []⟩, 0, [2]⟩, ⟨⟨14, ⟨#[97]⟩, ⟨#[]⟩, 0, 0, false, []⟩, 1, []⟩] := rfl
theorem aw_tr : trT 0 aw2 0 ⟨1, ⟨#[]⟩, ⟨#[]⟩, 0, 0, false, awL⟩ := by
  rw [aw2_eq]
  unfold trT awL
  refine ⟨by omega, by decide, rfl, ?_⟩
  show trL 0 _ [1] [_]
  unfold trL
  refine ⟨⟨by decide, ?_⟩, by unfold trL; trivial⟩
  unfold trT
  refine ⟨by omega, by decide, rfl, ?_⟩
  show trL 0 _ [2] [_]
  unfold trL
  refine ⟨⟨by decide, ?_⟩, by unfold trL; trivial⟩
  unfold trT
  refine ⟨by omega, by decide, rfl, ?_⟩
  show trL 0 _ [] []
  unfold trL
  trivial
theorem aw_count : tree_Count.f 20 1 ⟨#[]⟩ ⟨#[]⟩ 0 0 false awL = some 3 := by decide +kernel
theorem aw_depth : tree_Depth.f 20 1 ⟨#[]⟩ ⟨#[]⟩ 0 0 false awL = some 3 := by decide +kernel
theorem aw_well : tree_Well.f 1 ⟨#[]⟩ ⟨#[]⟩ 0 0 false awL = some true := by decide +kernel
theorem aw_same : tree_Same.f 1 ⟨#[]⟩ ⟨#[]⟩ 0 0 false awL 1 ⟨#[]⟩ ⟨#[]⟩ 0 0 false awL = some true := by decide +kernel
theorem aw_kids (sl : List S70) (n : Nat) (h : (sl.all fun x => decide (x.f2.length < n)) = true) (hn : 0 < n) : ∀ i : Nat, i < sl.length → (rd_T70 sl (i : Int)).f2.length < n := fun i hi => by
  have e : rd_T70 sl (i : Int) = sl[i] := by
    show sl.getD i z70 = _
    rw [List.getD_eq_getElem?_getD, List.getElem?_eq_getElem hi]; rfl
  rw [e]
  exact of_decide_eq_true (List.all_eq_true.1 h _ (List.getElem_mem hi))
theorem box7 {w : World} {gb : Nat} {x0 : Int} {x1 x2 : ByteArray} {x3 x4 : Int} {x5 : Bool} {v6 : Value} (h : w.heap[gb]? = some (.cells #[.int .i64 x0, .string x1, .string x2, .int .i64 x3, .int .i64 x4, .bool x5, v6] 24 (0, 0))) :
    w.cell? ⟨gb, 0, none⟩ = some (.int .i64 x0) ∧ w.cell? ⟨gb, 1, none⟩ = some (.string x1) ∧ w.cell? ⟨gb, 2, none⟩ = some (.string x2) ∧ w.cell? ⟨gb, 3, none⟩ = some (.int .i64 x3) ∧ w.cell? ⟨gb, 4, none⟩ = some (.int .i64 x4) ∧ w.cell? ⟨gb, 5, none⟩ = some (.bool x5) ∧ w.cell? ⟨gb, 6, none⟩ = some v6 :=
  ⟨blk_cell h 0, blk_cell h 1, blk_cell h 2, blk_cell h 3, blk_cell h 4, blk_cell h 5, blk_cell h 6⟩
def incipitlaw06_awake.f : Option Bool := some true
set_option maxRecDepth 100000 in
set_option maxHeartbeats 8000000 in
theorem incipitlaw06_awake.calls (r : Bool) (w : World) (h : incipitlaw06_awake.f = some r) : Calls Try.prog 13 #[] w fun e w' => e = .returned (.bool r) ∧ Below w.heap.size w w' := by
  obtain rfl := Option.some.inj h
  have hu24 := Try.underlying24
  have HB := Aside0.mk (Below.refl w.heap.size w)
  go_enter Try.func13, Try.ntmps13
  go_wp2_with fail
  refine (new_calls 1 ⟨#[]⟩ ⟨#[]⟩ 0 0 false none 0 0 w).mono ?_
  rintro e w1 ⟨g, rfl, ha, hb⟩
  have HA := Aside0.mk ha
  have B1 := Aside0.mk hb
  clear ha hb HB
  go_wp2_with fail
  refine (add_calls (sl := aw0) HA.out 0 7 ⟨#[]⟩ ⟨#[]⟩ 0 0 false none 0 0 (by decide) (aw_kids _ _ (by decide) (by decide))).mono ?_
  rintro e w2 ⟨rfl, hb, _, ha⟩
  have B2 := Aside0.mk (B1.out.trans hb)
  have HA2 := Aside0.mk (show Ar w2 w.heap.size g aw1 from ha)
  rw [show addR aw0 0 = 1 from rfl]
  clear ha hb HA B1
  go_wp2_with fail
  refine (add_calls (sl := aw1) HA2.out 1 14 ⟨#[97]⟩ ⟨#[]⟩ 0 0 false none 0 0 (by rw [aw1_eq]; decide) (by rw [aw1_eq]; exact aw_kids _ _ (by decide) (by decide))).mono ?_
  rintro e w3 ⟨rfl, hb, _, ha⟩
  have B3 := Aside0.mk (B2.out.trans hb)
  have HA3 := Aside0.mk (show Ar w3 w.heap.size g aw2 from ha)
  rw [show addR aw1 1 = 2 from rfl]
  clear ha hb HA2 B2
  go_wp2_with fail
  refine (Tree_calls 1 ⟨#[]⟩ ⟨#[]⟩ 0 0 false awL 0 aw2 w3 w.heap.size g (by rw [aw2_eq]; exact aw_kids _ _ (by decide) (by decide)) HA3.out aw_tr).mono ?_
  rintro e w4 ⟨v6, rfl, hR, hb⟩
  have B4 := Aside0.mk (below_step B3.out hb)
  have HA4 := Aside0.mk (HA3.out.below hb)
  obtain ⟨A6, q6, hv6⟩ := Kd.R_slice hR
  subst hv6
  obtain ⟨_, hq, hC⟩ := Kd.R_reads' hR
  have HQ := Aside0.mk hq
  have HC := Aside0.mk hC
  clear hb HA3 B3 hR hq hC
  have HX := Aside0.mk (blk_new w4 (.cells #[.int .i64 1, .string ⟨#[]⟩, .string ⟨#[]⟩, .int .i64 0, .int .i64 0, .bool false, .slice A6 awL.length q6] 24))
  have B5 := Aside0.mk (below_alloc B4.out (.cells #[.int .i64 1, .string ⟨#[]⟩, .string ⟨#[]⟩, .int .i64 0, .int .i64 0, .bool false, .slice A6 awL.length q6] 24))
  have HA5 := Aside0.mk (HA4.out.below (below_alloc (Below.refl _ _) (.cells #[.int .i64 1, .string ⟨#[]⟩, .string ⟨#[]⟩, .int .i64 0, .int .i64 0, .bool false, .slice A6 awL.length q6] 24)))
  have HC5 := Aside0.mk (Kd.C_alloc HC.out (.cells #[.int .i64 1, .string ⟨#[]⟩, .string ⟨#[]⟩, .int .i64 0, .int .i64 0, .bool false, .slice A6 awL.length q6] 24))
  clear B4 HA4 HC
  go_wp2_with fail
  generalize w4.alloc (.cells #[.int .i64 1, .string ⟨#[]⟩, .string ⟨#[]⟩, .int .i64 0, .int .i64 0, .bool false, .slice A6 awL.length q6] 24) = w5 at HX B5 HA5 HC5 ⊢
  generalize w4.heap.size = gb at HX ⊢
  refine (tree_Count.calls 20 1 ⟨#[]⟩ ⟨#[]⟩ 0 0 false A6 q6 awL 3 _ HC5.out HQ.out aw_count).mono ?_
  rintro e w6 ⟨rfl, hb⟩
  have HX6 := Aside0.mk (blk_below HX.out hb)
  have B6 := Aside0.mk (below_step B5.out hb)
  have HA6 := Aside0.mk (HA5.out.below hb)
  have HC6 := Aside0.mk (Kd.C_below HC5.out hb)
  obtain ⟨k0, k1, k2, k3, k4, k5, k6⟩ := box7 HX6.out
  clear hb HX B5 HA5 HC5
  go_wp2_with fail
  clear k0 k1 k2 k3 k4 k5 k6
  refine (tree_Depth.calls 20 1 ⟨#[]⟩ ⟨#[]⟩ 0 0 false A6 q6 awL 3 _ HC6.out HQ.out aw_depth).mono ?_
  rintro e w7 ⟨rfl, hb⟩
  have HX7 := Aside0.mk (blk_below HX6.out hb)
  have B7 := Aside0.mk (below_step B6.out hb)
  have HA7 := Aside0.mk (HA6.out.below hb)
  have HC7 := Aside0.mk (Kd.C_below HC6.out hb)
  obtain ⟨k0, k1, k2, k3, k4, k5, k6⟩ := box7 HX7.out
  clear hb HX6 B6 HA6 HC6
  go_wp2_with fail
  clear k0 k1 k2 k3 k4 k5 k6
  refine (tree_Well.calls 1 ⟨#[]⟩ ⟨#[]⟩ 0 0 false A6 q6 awL true _ HC7.out HQ.out aw_well).mono ?_
  rintro e w8 ⟨rfl, hb⟩
  have HX8 := Aside0.mk (blk_below HX7.out hb)
  have B8 := Aside0.mk (below_step B7.out hb)
  have HA8 := Aside0.mk (HA7.out.below hb)
  have HC8 := Aside0.mk (Kd.C_below HC7.out hb)
  obtain ⟨k0, k1, k2, k3, k4, k5, k6⟩ := box7 HX8.out
  clear hb HX7 B7 HA7 HC7
  go_wp2_with fail
  clear k0 k1 k2 k3 k4 k5 k6
  refine (tree_Same.calls 1 ⟨#[]⟩ ⟨#[]⟩ 0 0 false A6 q6 awL 1 ⟨#[]⟩ ⟨#[]⟩ 0 0 false A6 q6 awL true _ HC8.out HQ.out HC8.out HQ.out aw_same).mono ?_
  rintro e w9 ⟨rfl, hb⟩
  have HX9 := Aside0.mk (blk_below HX8.out hb)
  have B9 := Aside0.mk (below_step B8.out hb)
  have HA9 := Aside0.mk (HA8.out.below hb)
  have HC9 := Aside0.mk (Kd.C_below HC8.out hb)
  obtain ⟨k0, k1, k2, k3, k4, k5, k6⟩ := box7 HX9.out
  clear hb HX8 B8 HA8 HC8
  go_wp2_with fail
  clear k0 k1 k2 k3 k4 k5 k6
  obtain ⟨v, rows, h9⟩ := HA9.out
  refine (len_calls h9.rd).mono ?_
  rintro e w10 ⟨rfl, rfl⟩
  rw [aw2_eq]
  go_wp2_with fail
  go_ret
  exact ⟨rfl, B9.out⟩
end Go.Proofs.Ytikfbipjlkhgeaa.P
