/- TreePlays: whatever is laid, set, unlinked and moved is told as the document says. -/
import Derived.Test.YtikfbipjlkhgeaaPlayS
import Derived.Test.YtikfbipjlkhgeaaOpenOps
import Derived.Test.YtikfbipjlkhgeaaAwake
import Derived.Deep.LoopGhost
import Derived.Deep.DeepCutAuto
import Derived.Deep.CutBlock
import Derived.Deep.RegionHeld3
namespace Go.Proofs.Ytikfbipjlkhgeaa.P
open Go.RowKit Go.Proofs.YtikfbipjlkhgeaaW.PrintWords Go.Proofs.YtikfbipjlkhgeaaW.PrintLast Go.Proofs.YtikfbipjlkhgeaaW.PrintMore
set_option linter.unusedVariables false
set_option linter.unusedSimpArgs false
theorem box10 {w : World} {b : Nat} {u0 u1 u2 u3 u4 u5 u6 u7 u8 u9 : Value} (h : OB w b #[u0, u1, u2, u3, u4, u5, u6, u7, u8, u9]) :
    w.cell? ⟨b, 0, none⟩ = some u0 ∧ w.cell? ⟨b, 1, none⟩ = some u1 ∧ w.cell? ⟨b, 2, none⟩ = some u2 ∧ w.cell? ⟨b, 3, none⟩ = some u3 ∧ w.cell? ⟨b, 4, none⟩ = some u4 ∧ w.cell? ⟨b, 5, none⟩ = some u5 ∧ w.cell? ⟨b, 6, none⟩ = some u6 ∧ w.cell? ⟨b, 7, none⟩ = some u7 ∧ w.cell? ⟨b, 8, none⟩ = some u8 ∧ w.cell? ⟨b, 9, none⟩ = some u9 :=
  ⟨blk_cell h 0, blk_cell h 1, blk_cell h 2, blk_cell h 3, blk_cell h 4, blk_cell h 5, blk_cell h 6, blk_cell h 7, blk_cell h 8, blk_cell h 9⟩
theorem box7n {w : World} {b : Nat} {u0 u1 u2 u3 u4 u5 u6 : Value} (h : w.heap[b]? = some (.cells #[u0, u1, u2, u3, u4, u5, u6] 24 (0, 0))) :
    w.cell? ⟨b, 0, none⟩ = some u0 ∧ w.cell? ⟨b, 1, none⟩ = some u1 ∧ w.cell? ⟨b, 2, none⟩ = some u2 ∧ w.cell? ⟨b, 3, none⟩ = some u3 ∧ w.cell? ⟨b, 4, none⟩ = some u4 ∧ w.cell? ⟨b, 5, none⟩ = some u5 ∧ w.cell? ⟨b, 6, none⟩ = some u6 :=
  ⟨blk_cell h 0, blk_cell h 1, blk_cell h 2, blk_cell h 3, blk_cell h 4, blk_cell h 5, blk_cell h 6⟩
theorem drew_heap_ (w : World) : w.drew.heap = w.heap := rfl
theorem set7_n {B : Nat} {wd w : World} {b : Nat} {a0 a1 a2 a3 a4 a5 a6 : Value} (h : w.heap[b]? = some (.cells #[a0, a1, a2, a3, a4, a5, a6] 24 (0, 0))) (hb : B ≤ b) (hB : Below B wd w) (u0 u1 u2 u3 u4 u5 u6 : Value) :
    Below B wd (((((((w.setCell ⟨b, 0, none⟩ u0).setCell ⟨b, 1, none⟩ u1).setCell ⟨b, 2, none⟩ u2).setCell ⟨b, 3, none⟩ u3).setCell ⟨b, 4, none⟩ u4).setCell ⟨b, 5, none⟩ u5).setCell ⟨b, 6, none⟩ u6).drew ∧
    (((((((w.setCell ⟨b, 0, none⟩ u0).setCell ⟨b, 1, none⟩ u1).setCell ⟨b, 2, none⟩ u2).setCell ⟨b, 3, none⟩ u3).setCell ⟨b, 4, none⟩ u4).setCell ⟨b, 5, none⟩ u5).setCell ⟨b, 6, none⟩ u6).drew.heap[b]? = some (.cells #[u0, u1, u2, u3, u4, u5, u6] 24 (0, 0)) := by
  have h0 : w.heap[b]? = some (.cells #[a0, a1, a2, a3, a4, a5, a6] 24 (0, 0)) := h
  have h1 := blk_put h0 0 u0 (cs' := #[u0, a1, a2, a3, a4, a5, a6]) rfl
  have h2 := blk_put h1 1 u1 (cs' := #[u0, u1, a2, a3, a4, a5, a6]) rfl
  have h3 := blk_put h2 2 u2 (cs' := #[u0, u1, u2, a3, a4, a5, a6]) rfl
  have h4 := blk_put h3 3 u3 (cs' := #[u0, u1, u2, u3, a4, a5, a6]) rfl
  have h5 := blk_put h4 4 u4 (cs' := #[u0, u1, u2, u3, u4, a5, a6]) rfl
  have h6 := blk_put h5 5 u5 (cs' := #[u0, u1, u2, u3, u4, u5, a6]) rfl
  have h7 := blk_put h6 6 u6 (cs' := #[u0, u1, u2, u3, u4, u5, u6]) rfl
  exact ⟨Below.drew ((((((((hB.setCell hb _).setCell hb _).setCell hb _).setCell hb _).setCell hb _).setCell hb _).setCell hb _)), by rw [drew_heap_]; exact h7⟩
theorem op_cells {w w1 : World} {ad : Addr} {k : Nat} {o : OpT} {v6 : Value} (h : ∀ j u, (opRow o v6)[j]? = some u → w.cell? (ad.add (k * 10 + j)) = some u) (hb : Below w.heap.size w w1) :
    w1.cell? (ad.add (k * 10)) = some (.int .i64 o.1) ∧ w1.cell? ⟨(ad.add (k * 10)).block, (ad.add (k * 10)).off + 1, none⟩ = some (.int .i64 o.2.1) ∧ w1.cell? ⟨(ad.add (k * 10)).block, (ad.add (k * 10)).off + 2, none⟩ = some (.int .i64 o.2.2.1) ∧
    w1.cell? ⟨(ad.add (k * 10)).block, (ad.add (k * 10)).off + 3, none⟩ = some (.int .i64 o.2.2.2.f0) ∧ w1.cell? ⟨(ad.add (k * 10)).block, (ad.add (k * 10)).off + 4, none⟩ = some (.string o.2.2.2.f1) ∧ w1.cell? ⟨(ad.add (k * 10)).block, (ad.add (k * 10)).off + 5, none⟩ = some (.string o.2.2.2.f2) ∧
    w1.cell? ⟨(ad.add (k * 10)).block, (ad.add (k * 10)).off + 6, none⟩ = some (.int .i64 o.2.2.2.f3) ∧ w1.cell? ⟨(ad.add (k * 10)).block, (ad.add (k * 10)).off + 7, none⟩ = some (.int .i64 o.2.2.2.f4) ∧ w1.cell? ⟨(ad.add (k * 10)).block, (ad.add (k * 10)).off + 8, none⟩ = some (.bool o.2.2.2.f5) ∧
    w1.cell? ⟨(ad.add (k * 10)).block, (ad.add (k * 10)).off + 9, none⟩ = some v6 := by
  have h1 : ∀ j u, (opRow o v6)[j]? = some u → w1.cell? (ad.add (k * 10 + j)) = some u := fun j u hj => (hb.cell (World.block_lt_of_cell? w _ (h j u hj))).trans (h j u hj)
  have h2 : ∀ (j : Nat) u, 0 < j → (opRow o v6)[j]? = some u → w1.cell? ⟨(ad.add (k * 10)).block, (ad.add (k * 10)).off + j, none⟩ = some u := fun j u hj hu => by
    rw [← add_field _ _ j (by omega)]
    exact h1 j u hu
  exact ⟨h1 0 _ rfl, h2 1 _ (by omega) rfl, h2 2 _ (by omega) rfl, h2 3 _ (by omega) rfl, h2 4 _ (by omega) rfl, h2 5 _ (by omega) rfl, h2 6 _ (by omega) rfl, h2 7 _ (by omega) rfl, h2 8 _ (by omega) rfl, h2 9 _ (by omega) rfl⟩
theorem play_start {w w1 w2 : World} {g g2 : Nat} {x : S24} (ha : Ar w1 w.heap.size g [⟨x, -1, []⟩]) (hb1 : Below w.heap.size w w1) (hr : Rf w2 w1.heap.size g2 [x] []) (hb2 : Below w1.heap.size w1 w2) : PlS w w2 g g2 0 :=
  ⟨hb1.trans (hb2.mono hb1.size), _, _, _, ha.below hb2, hr.lower hb1.size, rel_one ⟨x, -1, []⟩ rfl rfl, one_wf _ rfl rfl, by simp, by simp⟩
section
attribute [local go_sem] World.cell?_alloc_some
set_option maxRecDepth 100000 in
set_option maxHeartbeats 8000000 in
theorem incipitlaw06_TreePlays.calls (x0 : Int) (x1 x2 : ByteArray) (x3 x4 : Int) (x5 : Bool) (A : Option Addr) (c : Nat) (lt : List S24) (Al : Option Addr) (cl : Nat) (l : List OpT) (w : World) (hr : Kd.C k24 w A lt.length lt) (hc : lt.length ≤ c) (hO : OpsC w Al l.length l) (hcl : l.length ≤ cl) (hok : okT ⟨x0, x1, x2, x3, x4, x5, lt⟩) :
    Calls Try.prog 11 #[.agg #[.int .i64 x0, .string x1, .string x2, .int .i64 x3, .int .i64 x4, .bool x5, .slice A lt.length c], .slice Al l.length cl] w fun e w' => e = .returned (.bool true) ∧ Below w.heap.size w w' := by
  have hu24 := Try.underlying24
  have hu58 := Try.underlying58
  have hs1 : x1.size ≤ 140737488351232 ∧ x2.size ≤ 140737488351232 := by unfold okT at hok; exact ⟨hok.2.1, hok.2.2.1⟩
  have HO := Aside0.mk hO
  have hnl := hO.mx
  have HB0 := Aside0.mk (below_alloc (Below.refl w.heap.size w) (.cells #[.int .i64 x0, .string x1, .string x2, .int .i64 x3, .int .i64 x4, .bool x5, .slice A lt.length c] 24))
  have HX0 := Aside0.mk (blk_new w (.cells #[.int .i64 x0, .string x1, .string x2, .int .i64 x3, .int .i64 x4, .bool x5, .slice A lt.length c] 24))
  obtain ⟨nl, enl⟩ : ∃ nl, nl = l.length := ⟨_, rfl⟩
  have HNL := Aside0.mk enl
  rw [← enl] at hnl hcl ⊢
  have hsw : IntKind.i64.wrap ((x1.size : Int) + (x2.size : Int)) = (x1.size : Int) + (x2.size : Int) := by rw [IntKind.wrap_i64]; omega
  clear hr hc hO hok enl
  by_cases h60 : 60 < nl
  · have c60 : decide ((60 : Int) < (nl : Int)) = true := decide_eq_true (by omega)
    go_enter Try.func11, Try.ntmps11
    go_wp2_with fail
    refine (incipitlaw06_awake.calls true _ rfl).mono ?_
    rintro e w1 ⟨rfl, hb⟩
    have B1 := Aside0.mk (below_step HB0.out hb)
    clear hb
    go_wp2_with fail
    go_ret
    exact ⟨rfl, B1.out⟩
  · have c60 : decide ((60 : Int) < (nl : Int)) = false := decide_eq_false (by omega)
    have H60 := Aside0.mk h60
    clear h60
    by_cases h1000 : (1000 : Int) < (x1.size : Int) + (x2.size : Int)
    · have c1000 : decide ((1000 : Int) < (x1.size : Int) + (x2.size : Int)) = true := decide_eq_true h1000
      clear h1000
      go_enter Try.func11, Try.ntmps11
      go_wp2_with fail
      refine (incipitlaw06_awake.calls true _ rfl).mono ?_
      rintro e w1 ⟨rfl, hb⟩
      have B1 := Aside0.mk (below_step HB0.out hb)
      obtain ⟨k0, k1, k2, k3, k4, k5, k6⟩ := box7n (blk_below HX0.out hb)
      clear hb
      go_wp2_with fail
      go_ret
      exact ⟨rfl, B1.out⟩
    · have c1000 : decide ((1000 : Int) < (x1.size : Int) + (x2.size : Int)) = false := decide_eq_false h1000
      clear h1000
      go_enter Try.func11, Try.ntmps11
      go_wp2_with fail
      refine (incipitlaw06_awake.calls true _ rfl).mono ?_
      rintro e w1 ⟨rfl, hb⟩
      have B1 := Aside0.mk (below_step HB0.out hb)
      have HX1 := Aside0.mk (blk_below HX0.out hb)
      obtain ⟨k0, k1, k2, k3, k4, k5, k6⟩ := box7n HX1.out
      clear hb
      go_wp2_with fail
      refine (new_calls x0 x1 x2 x3 x4 x5 A lt.length c w1).mono ?_
      rintro e w2 ⟨g, rfl, ha, hb⟩
      have HA2 := Aside0.mk ha
      have B2 := Aside0.mk hb
      clear ha hb
      obtain ⟨k0, k1, k2, k3, k4, k5, k6⟩ := box7n (blk_below HX1.out B2.out)
      go_wp2_with fail
      refine (rnew_calls x0 x1 x2 x3 x4 x5 A lt.length c w2).mono ?_
      rintro e w3 ⟨g2, rfl, hrf, hb⟩
      have HP := Aside0.mk (play_start (x := ⟨x0, x1, x2, x3, x4, x5, []⟩) HA2.out B2.out hrf hb)
      clear hrf hb HA2 B2 HX1 HX0 HB0 k0 k1 k2 k3 k4 k5 k6
      clear hsw hs1 c1000 c60
      go_wp2_with fail
      go_loopw [8] (fun v wr => ∃ k : Nat, k ≤ nl ∧ v = .int .i64 k ∧ Aside0 (PlS w1 wr g g2 k)) (fun v _ => nl - (intOf v).toNat)
      case atStart => exact ⟨0, by omega, rfl, HP⟩
      case round =>
        clear HP
        obtain ⟨k, hk, rfl, HP⟩ := hrel
        by_cases hlt : k < nl
        · have hkl : k < l.length := by rw [← HNL.out]; exact hlt
          obtain ⟨ad, A6, n6, c6, rfl, hcell, hz1, hz2⟩ := HO.out.at_ k hkl
          have hbw : Below w.heap.size w wr := below_step B1.out HP.out.below
          obtain ⟨q0, q1, q2, q3, q4, q5, q6, q7, q8, q9⟩ := op_cells hcell hbw
          generalize l.getD k oz = o at q0 q1 q2 q3 q4 q5 q6 q7 q8 q9 hz1 hz2
          obtain ⟨o0, o1, o2, y0, y1, y2, y3, y4, y5, y6⟩ := o
          simp only at q0 q1 q2 q3 q4 q5 q6 q7 q8 q9 hz1 hz2
          have HBW := Aside0.mk hbw
          have hkI : (k : Int) < (nl : Int) := by omega
          have hkN : IntKind.i64.wrap ((k : Int) + 1) = (k : Int) + 1 := by rw [IntKind.wrap_i64]; omega
          have hsw : IntKind.i64.wrap ((y1.size : Int) + (y2.size : Int)) = (y1.size : Int) + (y2.size : Int) := by rw [IntKind.wrap_i64]; omega
          have hb1 : Below wr.heap.size wr (wr.alloc (.cells #[.int .i64 o0, .int .i64 o1, .int .i64 o2, .int .i64 y0, .string y1, .string y2, .int .i64 y3, .int .i64 y4, .bool y5, .slice A6 n6 c6] 58)) := below_alloc (Below.refl _ _) _
          have HP1 := Aside0.mk (HP.out.step hb1)
          have HBW1 := Aside0.mk (below_step HBW.out hb1)
          have HOB := Aside0.mk (show OB (wr.alloc (.cells #[.int .i64 o0, .int .i64 o1, .int .i64 o2, .int .i64 y0, .string y1, .string y2, .int .i64 y3, .int .i64 y4, .bool y5, .slice A6 n6 c6] 58)) wr.heap.size #[.int .i64 o0, .int .i64 o1, .int .i64 o2, .int .i64 y0, .string y1, .string y2, .int .i64 y3, .int .i64 y4, .bool y5, .slice A6 n6 c6] from blk_new wr _)
          clear hcell hbw hz1 hz2 hkl hb1
          by_cases h1000 : (1000 : Int) < (y1.size : Int) + (y2.size : Int)
          · have c1000 : decide ((1000 : Int) < (y1.size : Int) + (y2.size : Int)) = true := decide_eq_true h1000
            clear h1000
            go_wp2_with fail
            go_ret
            exact ⟨rfl, HBW1.out⟩
          · have c1000 : decide ((1000 : Int) < (y1.size : Int) + (y2.size : Int)) = false := decide_eq_false h1000
            clear h1000
            go_upto_block 2 with fail
            clear q0 q1 q2 q3 q4 q5 q6 q7 q8 q9
            generalize (wr.alloc (.cells #[.int .i64 o0, .int .i64 o1, .int .i64 o2, .int .i64 y0, .string y1, .string y2, .int .i64 y3, .int .i64 y4, .bool y5, .slice A6 n6 c6] 58)) = W at HP1 HBW1 HOB ⊢
            obtain ⟨bo, ebo⟩ : ∃ bo, bo = wr.heap.size := ⟨_, rfl⟩
            rw [← ebo] at HOB ⊢
            have HBO := Aside0.mk ebo
            clear ebo
            go_cut [9] (fun v9 wc => v9 = .pointer (some ⟨bo, 0, none⟩) ∧ Aside0 (PlS w1 wc g g2 (k + 1) ∧ OB wc bo #[.int .i64 o0, .int .i64 o1, .int .i64 o2, .int .i64 y0, .string y1, .string y2, .int .i64 y3, .int .i64 y4, .bool y5, .slice A6 n6 c6]))
            case first =>
              have HPD := Aside0.mk (HP1.out.step (below_drew (Below.refl _ _)))
              have HOBD := Aside0.mk (OB.step HOB.out (below_drew (Below.refl _ _)))
              have hk6 : k ≤ 100000 := by have := H60.out; omega
              obtain ⟨r0, r1, r2, r3, r4, r5, r6, r7, r8, r9⟩ := box10 HOB.out
              by_cases e0 : o0 = 0
              · have b0 : (o0 == 0) = true := by simpa using e0
                obtain ⟨r, hca⟩ := play_add HPD.out HOBD.out hk6 o1 y0 y1 y2 y3 y4 y5 A6 n6 c6
                have CA := Aside0.mk hca
                clear hca e0 hk6
                go_upto_region 16 with fail
                go_region_held3 (fun w' => w'.cell? ⟨bo, 0, none⟩ = some (.int .i64 o0) ∧ w'.cell? ⟨bo, 1, none⟩ = some (.int .i64 o1) ∧ w'.cell? ⟨bo, 2, none⟩ = some (.int .i64 o2) ∧ w'.cell? ⟨bo, 3, none⟩ = some (.int .i64 y0) ∧ w'.cell? ⟨bo, 4, none⟩ = some (.string y1) ∧ w'.cell? ⟨bo, 5, none⟩ = some (.string y2) ∧ w'.cell? ⟨bo, 6, none⟩ = some (.int .i64 y3) ∧ w'.cell? ⟨bo, 7, none⟩ = some (.int .i64 y4) ∧ w'.cell? ⟨bo, 8, none⟩ = some (.bool y5) ∧ w'.cell? ⟨bo, 9, none⟩ = some (.slice A6 n6 c6))
                  (first | exact box10 hob4 | exact box10 hob3 | exact box10 hob2 | exact box10 HOBD.out | exact box10 HOB.out)
                  (first
                  | (go_at_call 27; (with_reducible refine CA.out.mono ?_); rintro e w2 ⟨rfl, hob2, hnx⟩)
                  | (go_at_call 39; (with_reducible refine (hnx _ (Below.refl _ _)).mono ?_); rintro e w3 ⟨rfl, hob3, hp3⟩))
                all_goals
                  go_wp2_with fail
                  go_meet
                  case rel => exact ⟨rfl, ⟨hp3, hob3⟩⟩
              · have b0 : (o0 == 0) = false := by simpa using e0
                by_cases e1 : o0 = 1
                · have b1 : (o0 == 1) = true := by simpa using e1
                  obtain ⟨r, hca⟩ := play_set HPD.out HOBD.out hk6 o1 y0 y1 y2 y3 y4 y5 A6 n6 c6
                  have CA := Aside0.mk hca
                  clear hca e0 e1 hk6
                  go_upto_region 19 with fail
                  go_region_held3 (fun w' => w'.cell? ⟨bo, 0, none⟩ = some (.int .i64 o0) ∧ w'.cell? ⟨bo, 1, none⟩ = some (.int .i64 o1) ∧ w'.cell? ⟨bo, 2, none⟩ = some (.int .i64 o2) ∧ w'.cell? ⟨bo, 3, none⟩ = some (.int .i64 y0) ∧ w'.cell? ⟨bo, 4, none⟩ = some (.string y1) ∧ w'.cell? ⟨bo, 5, none⟩ = some (.string y2) ∧ w'.cell? ⟨bo, 6, none⟩ = some (.int .i64 y3) ∧ w'.cell? ⟨bo, 7, none⟩ = some (.int .i64 y4) ∧ w'.cell? ⟨bo, 8, none⟩ = some (.bool y5) ∧ w'.cell? ⟨bo, 9, none⟩ = some (.slice A6 n6 c6))
                    (first | exact box10 hob4 | exact box10 hob3 | exact box10 hob2 | exact box10 HOBD.out | exact box10 HOB.out)
                    (first
                  | (go_at_call 40; (with_reducible refine CA.out.mono ?_); rintro e w2 ⟨rfl, hob2, hnx⟩)
                  | (go_at_call 41; (with_reducible refine (hnx _ (Below.refl _ _)).mono ?_); rintro e w3 ⟨rfl, hob3, hp3⟩))
                  all_goals
                    go_wp2_with fail
                    go_meet
                    case rel => exact ⟨rfl, ⟨hp3, hob3⟩⟩
                · have b1 : (o0 == 1) = false := by simpa using e1
                  by_cases e2 : o0 = 2
                  · have b2 : (o0 == 2) = true := by simpa using e2
                    obtain ⟨r, bh, hr0, hca⟩ := play_unlink HPD.out HOBD.out hk6 o1
                    have CA := Aside0.mk hca
                    clear hca e0 e1 e2 hk6
                    cases bh with
                    | false =>
                      obtain rfl := hr0 rfl
                      go_upto_region 22 with fail
                      first
                      | go_region_law (first
                            | (go_simp; go_at_call 36; (with_reducible refine CA.out.mono ?_); rintro e w2 ⟨rfl, hob2, hnx⟩; have hp2 := (hnx _ (Below.refl _ _)).2.1 (by first | rfl | trivial); obtain ⟨s0, s1, s2, s3, s4, s5, s6, s7, s8, s9⟩ := box10 hob2)
                            | (go_simp; go_at_call 42; (with_reducible refine ((hnx _ (Below.refl _ _)).1).mono ?_); rintro e w3 ⟨rfl, hw⟩; obtain rfl := hw.symm))
                      | fail "no"
                      all_goals
                        go_wp2_with fail
                        go_meet
                        case rel => exact ⟨rfl, ⟨hp2, hob2⟩⟩
                    | true =>
                      clear hr0
                      go_upto_region 22 with fail
                      go_region_held3 (fun w' => w'.cell? ⟨bo, 0, none⟩ = some (.int .i64 o0) ∧ w'.cell? ⟨bo, 1, none⟩ = some (.int .i64 o1) ∧ w'.cell? ⟨bo, 2, none⟩ = some (.int .i64 o2) ∧ w'.cell? ⟨bo, 3, none⟩ = some (.int .i64 y0) ∧ w'.cell? ⟨bo, 4, none⟩ = some (.string y1) ∧ w'.cell? ⟨bo, 5, none⟩ = some (.string y2) ∧ w'.cell? ⟨bo, 6, none⟩ = some (.int .i64 y3) ∧ w'.cell? ⟨bo, 7, none⟩ = some (.int .i64 y4) ∧ w'.cell? ⟨bo, 8, none⟩ = some (.bool y5) ∧ w'.cell? ⟨bo, 9, none⟩ = some (.slice A6 n6 c6))
                        (first | exact box10 hob4 | exact box10 hob3 | exact box10 hob2 | exact box10 HOBD.out | exact box10 HOB.out)
                        (first
                          | (go_at_call 36; (with_reducible refine CA.out.mono ?_); rintro e w2 ⟨rfl, hob2, hnx⟩)
                          | (go_at_call 42; (with_reducible refine ((hnx _ (Below.refl _ _)).1).mono ?_); rintro e w3 ⟨rfl, hw⟩; obtain rfl := hw.symm)
                          | (go_at_call 43; (with_reducible refine ((hnx _ (Below.refl _ _)).2.2 (by first | rfl | trivial) _ (Below.refl _ _)).mono ?_); rintro e w4 ⟨rfl, hob4, hp4⟩))
                      all_goals
                        go_wp2_with fail
                        go_meet
                        case rel => exact ⟨rfl, ⟨hp4, hob4⟩⟩
                  · have b2 : (o0 == 2) = false := by simpa using e2
                    obtain ⟨r, hca⟩ := play_move HPD.out HOBD.out hk6 o1 o2
                    have CA := Aside0.mk hca
                    clear hca e0 e1 e2 hk6
                    go_upto_region 13 with fail
                    go_region_held3 (fun w' => w'.cell? ⟨bo, 0, none⟩ = some (.int .i64 o0) ∧ w'.cell? ⟨bo, 1, none⟩ = some (.int .i64 o1) ∧ w'.cell? ⟨bo, 2, none⟩ = some (.int .i64 o2) ∧ w'.cell? ⟨bo, 3, none⟩ = some (.int .i64 y0) ∧ w'.cell? ⟨bo, 4, none⟩ = some (.string y1) ∧ w'.cell? ⟨bo, 5, none⟩ = some (.string y2) ∧ w'.cell? ⟨bo, 6, none⟩ = some (.int .i64 y3) ∧ w'.cell? ⟨bo, 7, none⟩ = some (.int .i64 y4) ∧ w'.cell? ⟨bo, 8, none⟩ = some (.bool y5) ∧ w'.cell? ⟨bo, 9, none⟩ = some (.slice A6 n6 c6))
                      (first | exact box10 hob4 | exact box10 hob3 | exact box10 hob2 | exact box10 HOBD.out | exact box10 HOB.out)
                      (first
                  | (go_at_call 28; (with_reducible refine CA.out.mono ?_); rintro e w2 ⟨rfl, hob2, hnx⟩)
                  | (go_at_call 44; (with_reducible refine (hnx _ (Below.refl _ _)).mono ?_); rintro e w3 ⟨rfl, hob3, hp3⟩))
                    all_goals
                      go_wp2_with fail
                      go_meet
                      case rel => exact ⟨rfl, ⟨hp3, hob3⟩⟩
            case rest =>
              obtain ⟨rfl, HC⟩ := hcut
              obtain ⟨wd, rfl⟩ : ∃ wd, wd = wc := ⟨wc, rfl⟩
              clear HP1 HBW1 HOB HP
              obtain ⟨hb5, sl, L, K, ha5, hr5, hrel5, hw5, hl5, hk5⟩ := HC.out.1
              have HOB5 := Aside0.mk HC.out.2
              have HP5 := Aside0.mk HC.out.1
              obtain ⟨z, ez⟩ : ∃ z, z = nodeAt sl o1 := ⟨_, rfl⟩
              have hz6 : z.f6 = [] := by
                rw [ez]
                unfold nodeAt
                by_cases hb : hasB sl o1 = true
                · rw [if_pos hb]
                  obtain ⟨i, rfl⟩ : ∃ i : Nat, o1 = i := ⟨o1.toNat, by have := (hasB_iff sl o1).1 hb; omega⟩
                  obtain ⟨v, rows, h1⟩ := ha5
                  exact h1.bare i (by have := (hasB_iff sl i).1 hb; omega)
                · rw [if_neg hb]; rfl
              obtain ⟨nb, enb⟩ : ∃ nb, nb = wd.heap.size := ⟨_, rfl⟩
              have h6 := H60.out
              obtain ⟨n5, en5⟩ : ∃ n5, n5 = sl.length := ⟨_, rfl⟩
              have hLn : L.length = n5 := by rw [hrel5.len, en5]
              have CG := Aside0.mk (fun w' (hb : Below wd.heap.size wd w') => play_get (ha5.below hb) o1 z ez)
              have CPa := Aside0.mk (fun w' (hb : Below wd.heap.size wd w') => show Calls Try.prog 29 #[.pointer (some ⟨g, 0, none⟩), .int .i64 o1] w' fun e w'' => e = .returned (.int .i64 (parentB sl o1)) ∧ w'' = w' from by obtain ⟨v, rows, h⟩ := ha5.below hb; exact parent_calls h.rd o1)
              have CPb := Aside0.mk (fun w' (hb : Below wd.heap.size wd w') => rparent_calls (hr5.step hb) o1 (by omega))
              have CCa := Aside0.mk (fun w' (hb : Below wd.heap.size wd w') => children_calls (ha5.below hb) o1 (fun i hi => by have := hw5.kb i hi; omega))
              have CCb := Aside0.mk (fun w' (hb : Below wd.heap.size wd w') => rchildren_calls (hr5.step hb) o1 (by omega))
              have CLa := Aside0.mk (fun w' (hb : Below wd.heap.size wd w') => show Calls Try.prog 26 #[.pointer (some ⟨g, 0, none⟩)] w' fun e w'' => e = .returned (.int .i64 sl.length) ∧ w'' = w' from by obtain ⟨v, rows, h⟩ := ha5.below hb; exact len_calls h.rd)
              have CH := Aside0.mk (fun w' (hb : Below wd.heap.size wd w') => rhas_calls (hr5.step hb) o1)
              rw [hrel5.parI] at CPb
              rw [hrel5.kidI] at CCb
              rw [← en5] at CLa
              rw [hrel5.has] at CH
              have hkl : (kidsB sl o1).length ≤ 4294967296 := by
                unfold kidsB
                by_cases hb : hasB sl o1 = true
                · rw [if_pos hb]
                  obtain ⟨i, rfl⟩ : ∃ i : Nat, o1 = i := ⟨o1.toNat, by have := (hasB_iff sl o1).1 hb; omega⟩
                  have := hw5.kb i (by have := (hasB_iff sl i).1 hb; omega)
                  show (rd_T70 sl (i : Int)).f2.length ≤ _
                  omega
                · rw [if_neg hb]; simp
              obtain ⟨kn, hkn⟩ := numbers_same (kidsB sl o1) hkl
              generalize parentB sl o1 = pv at CPa CPb
              generalize kidsB sl o1 = kl at CCa CCb hkn
              have CN := Aside0.mk (fun (A7 A8 : Option Addr) (c7 c8 : Nat) (w' : World) h1 h2 h3 h4 => incipitlaw06_numbers.calls kn A7 c7 kl A8 c8 kl true w' h1 h2 h3 h4 hkn)
              obtain ⟨vL, vK, hr6⟩ := hr5
              obtain ⟨AL, cL, rfl⟩ := hr6.sliceL
              have HR6 := Aside0.mk hr6
              have hbz : Below wd.heap.size wd (wd.alloc (.cells #[.int .i64 0, .string ⟨#[]⟩, .string ⟨#[]⟩, .int .i64 0, .int .i64 0, .bool false, .slice none 0 0] 24)) := below_alloc (Below.refl _ _) _
              have HBZ := Aside0.mk hbz
              have HNZ := Aside0.mk (blk_new wd (.cells #[.int .i64 0, .string ⟨#[]⟩, .string ⟨#[]⟩, .int .i64 0, .int .i64 0, .bool false, .slice none 0 0] 24))
              rw [← enb] at HNZ
              obtain ⟨r0, r1, r2, r3, r4, r5, r6, r7, r8, r9⟩ := box10 HOB5.out
              have HREL := Aside0.mk hrel5
              have HENB := Aside0.mk enb
              have HW5 := Aside0.mk hw5
              have HEZ := Aside0.mk ez
              clear ha5 hb5 hrel5 hw5 hkn hr6 hl5 hk5 HC ez enb en5 hbz
              obtain ⟨z0, z1, z2, z3, z4, z5, z6⟩ := z
              simp only at hz6
              subst hz6
              have CO := Aside0.mk (fun w' => show Calls Try.prog 45 #[.agg #[.int .i64 z0, .string z1, .string z2, .int .i64 z3, .int .i64 z4, .bool z5, .slice none 0 0], .agg #[.int .i64 z0, .string z1, .string z2, .int .i64 z3, .int .i64 z4, .bool z5, .slice none 0 0]] w' fun e w'' => e = .returned (.bool true) ∧ Below w'.heap.size w' w'' from incipitref06_Own.calls z0 z1 z2 z3 z4 z5 none 0 [] z0 z1 z2 z3 z4 z5 none 0 [] true w' (Kd.C_nil _ _) (Nat.le_refl _) (Kd.C_nil _ _) (Nat.le_refl _) (own_f ⟨z0, z1, z2, z3, z4, z5, []⟩))
              simp only at CG
              have hfd : ∀ W, (Instr.field 24 (.agg #[.int .i64 z0, .string z1, .string z2, .int .i64 z3, .int .i64 z4, .bool z5, .slice none 0 0]) 6).run Try.prog W = .ok (.slice none 0 0) W := fun _ => by kernel_rfl
              have HLN := Aside0.mk hLn
              clear hLn
              go_upto_if 117 with (go_at_call 42; (with_reducible refine (CH.out _ HBZ.out).mono ?_); rintro e w4 ⟨rfl, hw⟩; obtain rfl := hw.symm)
              clear CH
              go_cut [10] (fun v10 wc => v10 = .pointer (some ⟨nb, 0, none⟩) ∧ Aside0 (Below wd.heap.size wd wc ∧ wc.heap[nb]? = some (.cells #[.int .i64 z0, .string z1, .string z2, .int .i64 z3, .int .i64 z4, .bool z5, .slice none 0 0] 24 (0, 0))))
              case first =>
                cases hbh : hasB sl o1 with
                | false =>
                  have hn3 : (wd.alloc (.cells #[.int .i64 0, .string ⟨#[]⟩, .string ⟨#[]⟩, .int .i64 0, .int .i64 0, .bool false, .slice none 0 0] 24)).heap[nb]? = some (.cells #[.int .i64 z0, .string z1, .string z2, .int .i64 z3, .int .i64 z4, .bool z5, .slice none 0 0] 24 (0, 0)) := by
                    have e := HEZ.out
                    unfold nodeAt at e
                    rw [hbh, if_neg (by decide)] at e
                    unfold zn at e
                    injection e with t0 t1 t2 t3 t4 t5 _
                    rw [t0, t1, t2, t3, t4, t5]
                    exact HNZ.out
                  have HN3 := Aside0.mk hn3
                  clear hn3
                  go_wp2_with fail
                  go_meet
                  case rel => exact ⟨by rw [HENB.out], ⟨HBZ.out, HN3.out⟩⟩
                | true =>
                  obtain ⟨i1, rfl⟩ : ∃ i : Nat, o1 = i := ⟨o1.toNat, by have := (hasB_iff sl o1).1 hbh; omega⟩
                  have hi1 : i1 < sl.length := by have := (hasB_iff sl i1).1 hbh; omega
                  have hiL : i1 < L.length := by rw [HREL.out.len]; exact hi1
                  have hI1 : (i1 : Int) < (n5 : Int) := by rw [← HLN.out]; omega
                  obtain ⟨r, cap, e, hr, _, cells, hty⟩ := Kd.R_form HR6.out.rowL (by rw [List.length_map]; omega)
                  rw [List.length_map] at e
                  injection e with e1 e2 e3
                  subst e1 e3
                  have hnode : rd_T24 L (i1 : Int) = ⟨z0, z1, z2, z3, z4, z5, []⟩ := by
                    rw [HREL.out.node i1 hi1]
                    have e := HEZ.out
                    unfold nodeAt at e
                    rw [if_pos hbh] at e
                    exact e.symm
                  go_upto_region 26 with fail
                  rw [← HENB.out]
                  generalize (wd.alloc (.cells #[.int .i64 0, .string ⟨#[]⟩, .string ⟨#[]⟩, .int .i64 0, .int .i64 0, .bool false, .slice none 0 0] 24)) = W2 at HNZ HBZ ⊢
                  have p1 : W2.cell? ⟨bo, 1, none⟩ = some (.int .i64 (i1 : Int)) := (box10 (OB.step HOB5.out HBZ.out)).2.1
                  have p2 : W2.cell? ⟨g2, 0, none⟩ = some (.slice (some ⟨r, 0, none⟩) n5 cL) := by rw [← HLN.out]; exact blk_cell (HR6.out.step HBZ.out).blk 0
                  obtain ⟨j0, j1, j2, j3, j4, j5, j6⟩ := cells7 (HR6.out.step HBZ.out) i1 hiL
                  rw [hnode] at j0 j1 j2 j3 j4 j5
                  simp only at j0 j1 j2 j3 j4 j5
                  have f0 : W2.frozen? ⟨nb, 0, none⟩ = false := blk_frozen HNZ.out _
                  have f1 : W2.frozen? ⟨nb, 1, none⟩ = false := blk_frozen HNZ.out _
                  have f2 : W2.frozen? ⟨nb, 2, none⟩ = false := blk_frozen HNZ.out _
                  have f3 : W2.frozen? ⟨nb, 3, none⟩ = false := blk_frozen HNZ.out _
                  have f4 : W2.frozen? ⟨nb, 4, none⟩ = false := blk_frozen HNZ.out _
                  have f5 : W2.frozen? ⟨nb, 5, none⟩ = false := blk_frozen HNZ.out _
                  have f6 : W2.frozen? ⟨nb, 6, none⟩ = false := blk_frozen HNZ.out _
                  obtain ⟨t0, t1, t2, t3, t4, t5, t6⟩ := box7n HNZ.out
                  have HS7 := Aside0.mk (set7_n (B := wd.heap.size) (wd := wd) HNZ.out (by rw [HENB.out]; exact Nat.le_refl _) HBZ.out (.int .i64 z0) (.string z1) (.string z2) (.int .i64 z3) (.int .i64 z4) (.bool z5) (.slice none 0 0))
                  clear r0 r1 r2 r3 r4 r5 r6 r7 r8 r9 hbh hiL hty hnode
                  go_region_law fail
                  all_goals
                    go_wp2_with fail
                    go_meet
                    case rel => exact ⟨rfl, HS7⟩
              case rest =>
                obtain ⟨rfl, HQ⟩ := hcut
                obtain ⟨W3, rfl⟩ : ∃ W3, W3 = wc := ⟨wc, rfl⟩
                have HB3 := Aside0.mk HQ.out.1
                have HN3 := Aside0.mk HQ.out.2
                clear HQ HBZ HNZ HEZ HREL
                go_upto_region 27 with fail
                have HK := Aside0.mk (show ∀ w', Below W3.heap.size W3 w' → w'.cell? ⟨bo, 1, none⟩ = some (.int .i64 o1) ∧ w'.cell? ⟨g2, 0, none⟩ = some (.slice AL n5 cL) ∧ w'.cell? ⟨nb, 0, none⟩ = some (.int .i64 z0) ∧ w'.cell? ⟨nb, 1, none⟩ = some (.string z1) ∧ w'.cell? ⟨nb, 2, none⟩ = some (.string z2) ∧ w'.cell? ⟨nb, 3, none⟩ = some (.int .i64 z3) ∧ w'.cell? ⟨nb, 4, none⟩ = some (.int .i64 z4) ∧ w'.cell? ⟨nb, 5, none⟩ = some (.bool z5) ∧ w'.cell? ⟨nb, 6, none⟩ = some (.slice none 0 0) from fun w' hb => ⟨(box10 (OB.step (OB.step HOB5.out HB3.out) hb)).2.1, by rw [← HLN.out]; exact blk_cell (blk_below (HR6.out.step HB3.out).blk hb) 0, box7n (blk_below HN3.out hb)⟩)
                obtain ⟨m0, m1, m2, m3, m4, m5, m6, m7, m8⟩ := HK.out W3 (Below.refl _ _)
                have hbk : Below wd.heap.size wd W3.drew := below_step HB3.out (below_drew (Below.refl _ _))
                have hb3 : Below W3.heap.size W3 W3.drew := below_drew (Below.refl _ _)
                clear r0 r1 r2 r3 r4 r5 r6 r7 r8 r9
                go_region_held3 (fun w' => w'.cell? ⟨bo, 1, none⟩ = some (.int .i64 o1) ∧ w'.cell? ⟨g2, 0, none⟩ = some (.slice AL n5 cL) ∧ w'.cell? ⟨nb, 0, none⟩ = some (.int .i64 z0) ∧ w'.cell? ⟨nb, 1, none⟩ = some (.string z1) ∧ w'.cell? ⟨nb, 2, none⟩ = some (.string z2) ∧ w'.cell? ⟨nb, 3, none⟩ = some (.int .i64 z3) ∧ w'.cell? ⟨nb, 4, none⟩ = some (.int .i64 z4) ∧ w'.cell? ⟨nb, 5, none⟩ = some (.bool z5) ∧ w'.cell? ⟨nb, 6, none⟩ = some (.slice none 0 0))
                  (first | exact HK.out _ hb3 | exact HK.out _ (Below.refl _ _))
                  (first
                    | (go_at_call 46; (with_reducible refine (CG.out _ hbk).mono ?_); rintro e w4 ⟨rfl, hb⟩; replace hbk := below_step hbk hb; replace hb3 := below_step hb3 hb; clear hb)
                    | (go_at_call 45; (with_reducible refine (CO.out _).mono ?_); rintro e w4 ⟨rfl, hb⟩; replace hbk := below_step hbk hb; replace hb3 := below_step hb3 hb; clear hb)
                    | (go_at_call 29; (with_reducible refine (CPa.out _ hbk).mono ?_); rintro e w4 ⟨rfl, hw⟩; obtain rfl := hw.symm)
                    | (go_at_call 47; (with_reducible refine (CPb.out _ hbk).mono ?_); rintro e w4 ⟨rfl, hw⟩; obtain rfl := hw.symm)
                    | (go_at_call 37; (with_reducible refine (CCa.out _ hbk).mono ?_); rintro e w4 ⟨v7, rfl, hr7, hb⟩; replace hbk := below_step hbk hb; replace hb3 := below_step hb3 hb; obtain ⟨A7, c7, hv7⟩ := Kd.R_slice hr7; subst hv7; clear hb)
                    | (go_at_call 49; (with_reducible refine (CCb.out _ hbk).mono ?_); rintro e w5 ⟨v8, rfl, hr8, hb⟩; replace hr7 := Kd.R_below hr7 hb; replace hbk := below_step hbk hb; replace hb3 := below_step hb3 hb; obtain ⟨A8, c8, hv8⟩ := Kd.R_slice hr8; subst hv8; clear hb)
                    | (go_at_call 48; (with_reducible refine (CN.out A7 A8 c7 c8 _ (Kd.R_reads' hr7).2.2 (Kd.R_reads' hr7).2.1 (Kd.R_reads' hr8).2.2 (Kd.R_reads' hr8).2.1).mono ?_); rintro e w6 ⟨rfl, hd⟩; have hb := hd.below; replace hbk := below_step hbk hb; replace hb3 := below_step hb3 hb; clear hb hd)
                    | (go_at_call 26; (with_reducible refine (CLa.out _ hbk).mono ?_); rintro e w7 ⟨rfl, hw⟩; obtain rfl := hw.symm))
                all_goals
                  go_wp2_with fail
                  go_roundw
                  case rel => exact ⟨k + 1, by omega, by go_num, ⟨HP5.out.step hbk⟩⟩
                  case measure => simp [intOf]; omega
        · have hkF : ¬ ((k : Int) < (nl : Int)) := by omega
          obtain ⟨hb5, sl, L, K, ha5, hr5, hrel5, hw5, hl5, hk5⟩ := HP.out
          have h60 := H60.out
          have hbare : ∀ i : Nat, i < sl.length → (rd_T70 sl (i : Int)).f0.f6 = [] := by
            obtain ⟨v, rows, h1⟩ := ha5
            exact h1.bare
          obtain ⟨z0, z1, z2, z3, z4, z5, zl, ks, ht, hks⟩ := end_same hw5 hbare (by omega) (by omega)
          have CT := Aside0.mk (fun w' (hb : Below wr.heap.size wr w') => Tree_calls z0 z1 z2 z3 z4 z5 zl 0 sl w' w1.heap.size g (fun i hi => by have := hw5.kb i hi; show (rd_T70 sl (i : Int)).f2.length < _; omega) (ha5.below hb) ht)
          have CR := Aside0.mk (fun w' (hb : Below wr.heap.size wr w') => show Calls Try.prog 50 #[.pointer (some ⟨g2, 0, none⟩), .int .i64 0] w' fun e w'' => ∃ v6, e = .returned (.agg #[.int .i64 z0, .string z1, .string z2, .int .i64 z3, .int .i64 z4, .bool z5, v6]) ∧ Kd.R k24 24 w'' w'.heap.size (fun _ => True) v6 zl ∧ Below w'.heap.size w' w'' from rtree_calls (SizeOf.sizeOf zl + 1) z0 z1 z2 z3 z4 z5 zl 0 0 sl L K w' w1.heap.size g2 (by omega) (by omega) hrel5 (hr5.step hb) ht)
          have CS := Aside0.mk (fun (A7 A8 : Option Addr) (c7 c8 : Nat) (w' : World) h1 h2 h3 h4 => incipitref06_Same.calls ks z0 z1 z2 z3 z4 z5 A7 c7 zl z0 z1 z2 z3 z4 z5 A8 c8 zl true w' h1 h2 h3 h4 hks)
          have HBW := Aside0.mk (show Below w.heap.size w wr from below_step B1.out HP.out.below)
          clear ha5 hr5 hrel5 hw5 hl5 hk5 hb5 h60 hbare ht hks hlt HP
          go_wp2_with (first
            | (go_at_call 25; (with_reducible refine (CT.out _ (Below.refl _ _)).mono ?_); rintro e w4 ⟨v7, rfl, hr7, hb7⟩; obtain ⟨A7, c7, hv7⟩ := Kd.R_slice hr7; subst hv7)
            | (go_at_call 50; (with_reducible refine (CR.out _ hb7).mono ?_); rintro e w5 ⟨v8, rfl, hr8, hb8⟩; replace hr7 := Kd.R_below hr7 hb8; obtain ⟨A8, c8, hv8⟩ := Kd.R_slice hr8; subst hv8)
            | (go_at_call 16; (with_reducible refine (CS.out A7 A8 c7 c8 _ (Kd.R_reads' hr7).2.2 (Kd.R_reads' hr7).2.1 (Kd.R_reads' hr8).2.2 (Kd.R_reads' hr8).2.1).mono ?_); rintro e w6 ⟨rfl, hb9⟩))
          go_ret
          exact ⟨rfl, below_step (below_step (below_step HBW.out hb7) hb8) hb9⟩
end
end Go.Proofs.Ytikfbipjlkhgeaa.P
