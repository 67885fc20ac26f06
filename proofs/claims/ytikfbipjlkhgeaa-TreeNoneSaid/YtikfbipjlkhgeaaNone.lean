/- TreeNone: an arena that is none has no nodes; what is told of children, or of a tree, is its own no more. -/
import Derived.Test.YtikfbipjlkhgeaaNil
import Derived.Test.YtikfbipjlkhgeaaLay
import Derived.Test.YtikfbipjlkhgeaaPk1
import Derived.Test.YtikfbipjlkhgeaaPk12
namespace Go.Proofs.Ytikfbipjlkhgeaa.P
open Go.RowKit Go.Proofs.YtikfbipjlkhgeaaW.PrintWords Go.Proofs.YtikfbipjlkhgeaaW.PrintLast Go.Proofs.YtikfbipjlkhgeaaW.PrintMore
set_option linter.unusedVariables false
set_option linter.unusedSimpArgs false
def no0 : List S70 := [slotOf 1 ⟨#[]⟩ ⟨#[]⟩ 0 0 false (-1)]
def no1 : List S70 := addS no0 0 (slotOf 7 ⟨#[]⟩ ⟨#[]⟩ 0 0 false 0)
def no2 : List S70 := addS no1 0 (slotOf 9 ⟨#[]⟩ ⟨#[]⟩ 0 0 false 0)
theorem no1_eq : no1 = [⟨⟨1, ⟨#[]⟩, ⟨#[]⟩, 0, 0, false, []⟩, -1, [1]⟩, ⟨⟨7, ⟨#[]⟩, ⟨#[]⟩, 0, 0, false, []⟩, 0, []⟩] := rfl
theorem no2_eq : no2 = [⟨⟨1, ⟨#[]⟩, ⟨#[]⟩, 0, 0, false, []⟩, -1, [1, 2]⟩, ⟨⟨7, ⟨#[]⟩, ⟨#[]⟩, 0, 0, false, []⟩, 0, []⟩, ⟨⟨9, ⟨#[]⟩, ⟨#[]⟩, 0, 0, false, []⟩, 0, []⟩] := rfl
def noL : List S24 := [⟨7, ⟨#[]⟩, ⟨#[]⟩, 0, 0, false, []⟩, ⟨9, ⟨#[]⟩, ⟨#[]⟩, 0, 0, false, []⟩]
theorem no_tr : trT 0 no2 0 ⟨1, ⟨#[]⟩, ⟨#[]⟩, 0, 0, false, noL⟩ := by
  rw [no2_eq]
  unfold trT noL
  refine ⟨by omega, by decide, rfl, ?_⟩
  show trL 0 _ [1, 2] [_, _]
  unfold trL
  refine ⟨⟨by decide, ?_⟩, ?_⟩
  · unfold trT
    refine ⟨by omega, by decide, rfl, ?_⟩
    show trL 0 _ [] []
    unfold trL
    trivial
  · unfold trL
    refine ⟨⟨by decide, ?_⟩, by unfold trL; trivial⟩
    unfold trT
    refine ⟨by omega, by decide, rfl, ?_⟩
    show trL 0 _ [] []
    unfold trL
    trivial
theorem no_kids (i : Nat) (hi : i < no2.length) : (rd_T70 no2 (i : Int)).f2.length < 1000000000 := by rw [no2_eq] at hi ⊢; exact aw_kids _ _ (by decide) (by decide) i hi
theorem no_lit (w : World) : Kd.C (Kd.int .i64) (w.alloc (.cells #[.int .i64 1, .int .i64 2] 3)) (some ⟨w.heap.size, 0, none⟩) ([1, 2] : List Int).length [1, 2] := by
  have h := own_lit w w.heap.size 3 .i64 [1, 2] (Nat.le_refl _) (by decide)
  have hR : (Kd.int .i64).R 3 (w.alloc (.cells #[.int .i64 1, .int .i64 2] 3)) w.heap.size (fun _ => True) (.slice (some ⟨w.heap.size, 0, none⟩) 2 2) [1, 2] := Kd.R_of_own h (fun _ _ => trivial)
  exact (Kd.R_reads' hR).2.2
theorem no_numbers : incipitlaw06_numbers.f 10 [1, 2] [1, 2] = some true := by decide +kernel
set_option maxRecDepth 100000 in
set_option maxHeartbeats 8000000 in
theorem incipitlaw06_TreeNone.calls (x0 : Int) (x1 x2 : ByteArray) (x3 x4 : Int) (x5 : Bool) (A : Option Addr) (c : Nat) (l : List S24) (id : Int) (w : World) (hr : Kd.C k24 w A l.length l) (hc : l.length ≤ c) (hok : okT ⟨x0, x1, x2, x3, x4, x5, l⟩) :
    Calls Try.prog 12 #[.agg #[.int .i64 x0, .string x1, .string x2, .int .i64 x3, .int .i64 x4, .bool x5, .slice A l.length c], .int .i64 id] w fun e w' => e = .returned (.bool true) ∧ Below w.heap.size w w' := by
  have hu24 := Try.underlying24
  have hfd0 : ∀ w, (Instr.field 24 (.agg #[.int .i64 0, .string ⟨#[]⟩, .string ⟨#[]⟩, .int .i64 0, .int .i64 0, .bool false, .slice none 0 0]) 0).run Try.prog w = .ok (.int .i64 0) w := fun _ => by kernel_rfl
  have hfd7 : ∀ w, (Instr.field 24 (.agg #[.int .i64 7, .string ⟨#[]⟩, .string ⟨#[]⟩, .int .i64 0, .int .i64 0, .bool false, .slice none 0 0]) 0).run Try.prog w = .ok (.int .i64 7) w := fun _ => by kernel_rfl
  obtain ⟨b, hb, hcnt⟩ := Few_ev ⟨x0, x1, x2, x3, x4, x5, l⟩ hok 500 (by omega) (by omega)
  obtain ⟨kf, hkf⟩ := hb.rounds
  have HB := Aside0.mk (below_alloc (Below.refl w.heap.size w) (.cells #[.int .i64 x0, .string x1, .string x2, .int .i64 x3, .int .i64 x4, .bool x5, .slice A l.length c] 24))
  have HX := Aside0.mk (blk_new w (.cells #[.int .i64 x0, .string x1, .string x2, .int .i64 x3, .int .i64 x4, .bool x5, .slice A l.length c] 24))
  have HR := Aside0.mk (Kd.C_below hr HB.out)
  have HC := Aside0.mk hc
  have CF := Aside0.mk (fun w1 (h1 : Kd.C k24 w1 A l.length l) => incipitref06_Few.calls kf x0 x1 x2 x3 x4 x5 A c l 500 b w1 h1 hc hkf)
  clear hr hc hcnt hb hkf hok
  go_enter Try.func12, Try.ntmps12
  go_wp2_with fail
  refine (incipitlaw06_awake.calls true _ rfl).mono ?_
  rintro e w1 ⟨rfl, hb⟩
  have B1 := Aside0.mk (below_step HB.out hb)
  have HX1 := Aside0.mk (blk_below HX.out hb)
  have HR1 := Aside0.mk (Kd.C_below HR.out hb)
  clear hb HB HX HR
  generalize w.heap.size = gb at HX1 ⊢
  obtain ⟨k0, k1, k2, k3, k4, k5, k6⟩ := box7 HX1.out
  go_wp2_with fail
  refine (CF.out _ HR1.out).mono ?_
  rintro e w2 ⟨rfl, hb⟩
  have B2 := Aside0.mk (below_step B1.out hb)
  have HX2 := Aside0.mk (blk_below HX1.out hb)
  clear hb HX1 HR1 B1 k0 k1 k2 k3 k4 k5 k6 CF
  cases b with
  | false =>
    go_wp2_with fail
    go_ret
    exact ⟨rfl, B2.out⟩
  | true =>
    have HK := Aside0.mk (show ∀ w', Below w2.heap.size w2 w' → w'.cell? ⟨gb, 0, none⟩ = some (.int .i64 x0) ∧ w'.cell? ⟨gb, 1, none⟩ = some (.string x1) ∧ w'.cell? ⟨gb, 2, none⟩ = some (.string x2) ∧ w'.cell? ⟨gb, 3, none⟩ = some (.int .i64 x3) ∧ w'.cell? ⟨gb, 4, none⟩ = some (.int .i64 x4) ∧ w'.cell? ⟨gb, 5, none⟩ = some (.bool x5) ∧ w'.cell? ⟨gb, 6, none⟩ = some (.slice A l.length c) from fun w' hb => box7 (blk_below HX2.out hb))
    go_wp2_with fail
    refine (new_calls 1 ⟨#[]⟩ ⟨#[]⟩ 0 0 false none 0 0 w2).mono ?_
    rintro e w3 ⟨g, rfl, ha, hb3⟩
    have HA3 := Aside0.mk (show Ar w3 w2.heap.size g no0 from ha)
    have B3 := Aside0.mk hb3
    clear ha hb3
    go_wp2_with fail
    refine (add_calls (sl := no0) HA3.out 0 7 ⟨#[]⟩ ⟨#[]⟩ 0 0 false none 0 0 (by decide) (aw_kids _ _ (by decide) (by decide))).mono ?_
    rintro e w4 ⟨rfl, hb, _, ha⟩
    have B4 := Aside0.mk (B3.out.trans hb)
    have HA4 := Aside0.mk (show Ar w4 w2.heap.size g no1 from ha)
    clear ha hb HA3 B3
    go_wp2_with fail
    refine (add_calls (sl := no1) HA4.out 0 9 ⟨#[]⟩ ⟨#[]⟩ 0 0 false none 0 0 (by rw [no1_eq]; decide) (by rw [no1_eq]; exact aw_kids _ _ (by decide) (by decide))).mono ?_
    rintro e w5 ⟨rfl, hb, _, ha⟩
    have B5 := Aside0.mk (B4.out.trans hb)
    have HA5 := Aside0.mk (show Ar w5 w2.heap.size g no2 from ha)
    clear ha hb HA4 B4
    go_wp2_with fail
    refine (children_calls HA5.out 0 no_kids).mono ?_
    rintro e w6 ⟨v8, rfl, hR, hb⟩
    have hR : (Kd.int .i64).R 3 w6 w5.heap.size (fun _ => True) v8 [1, 2] := hR
    have B6 := Aside0.mk (below_step B5.out hb)
    have HA6 := Aside0.mk (HA5.out.below hb)
    obtain ⟨kb, cb, hv8, hkb, _, cs8, hcs8⟩ := Kd.R_form hR (by decide)
    subst hv8
    have c8 : w6.cell? ⟨kb, 0, none⟩ = some (.int .i64 1) := (Kd.R_cell (0 : Int) hR 0 (by decide) (by decide)).1
    have f8 : w6.frozen? ⟨kb, 0, none⟩ = false := blk_frozen hcs8 0
    have B6b := Aside0.mk (show Below w2.heap.size w2 (w6.setCell ⟨kb, 0, none⟩ (.int .i64 2)) from B6.out.setCell (by have := B5.out.size; exact Nat.le_trans this hkb) _)
    have HA6b := Aside0.mk (show Ar (w6.setCell ⟨kb, 0, none⟩ (.int .i64 2)) w2.heap.size g no2 from HA5.out.below ((below_step (Below.refl w5.heap.size w5) hb).setCell hkb _))
    clear hR hb hkb hcs8 B6 HA6 B5 HA5
    go_wp2_with fail
    generalize w6.setCell ⟨kb, 0, none⟩ (.int .i64 2) = w7 at B6b HA6b ⊢
    clear c8 f8
    refine (Tree_calls 1 ⟨#[]⟩ ⟨#[]⟩ 0 0 false noL 0 no2 w7 w2.heap.size g no_kids HA6b.out no_tr).mono ?_
    rintro e w8 ⟨v6, rfl, hR, hb⟩
    obtain ⟨kt, ct, hv6, hkt, _, cst, hcst⟩ := Kd.R_form hR (by decide)
    have hv6 : v6 = .slice (some ⟨kt, 0, none⟩) 2 ct := hv6
    subst hv6
    obtain ⟨ad0, _, _, he0, hx0, _⟩ := at_T24 (Kd.R_reads' hR).2.2 0 (by decide) (by decide)
    have he0 : ad0 = ⟨kt, 0, none⟩ := by injection he0 with he0; exact he0.symm
    subst he0
    have hx0 : w8.cell? ⟨kt, 0, none⟩ = some (.int .i64 7) := by
      have := hx0
      rw [add_at] at this
      exact this
    have hxa := cell_alloc hx0 (.cells #[.int .i64 1, .string ⟨#[]⟩, .string ⟨#[]⟩, .int .i64 0, .int .i64 0, .bool false, .slice (some ⟨kt, 0, none⟩) 2 ct] 24)
    have hfa : (w8.alloc (.cells #[.int .i64 1, .string ⟨#[]⟩, .string ⟨#[]⟩, .int .i64 0, .int .i64 0, .bool false, .slice (some ⟨kt, 0, none⟩) 2 ct] 24)).frozen? ⟨kt, 0, none⟩ = false := blk_frozen (blk_alloc hcst _) 0
    have B10 := Aside0.mk (show Below w2.heap.size w2 ((w8.setCell ⟨kt, 0, none⟩ (.int .i64 9)).alloc (.cells #[.int .i64 1, .string ⟨#[]⟩, .string ⟨#[]⟩, .int .i64 0, .int .i64 0, .bool false, .slice (some ⟨kt, 0, none⟩) 2 ct] 24)) from below_alloc ((below_step B6b.out hb).setCell (Nat.le_trans B6b.out.size hkt) _) _)
    have HA10 := Aside0.mk (show Ar ((w8.setCell ⟨kt, 0, none⟩ (.int .i64 9)).alloc (.cells #[.int .i64 1, .string ⟨#[]⟩, .string ⟨#[]⟩, .int .i64 0, .int .i64 0, .bool false, .slice (some ⟨kt, 0, none⟩) 2 ct] 24)) w2.heap.size g no2 from HA6b.out.below (below_alloc (hb.setCell hkt _) _))
    obtain ⟨k0, k1, k2, k3, k4, k5, k6⟩ := HK.out _ B10.out
    clear hR hb hkt hcst HA6b B6b hx0
    go_wp2_with fail
    clear k0 k1 k2 k3 k4 k5 k6 hxa hfa
    generalize ((w8.setCell ⟨kt, 0, none⟩ (.int .i64 9)).alloc (.cells #[.int .i64 1, .string ⟨#[]⟩, .string ⟨#[]⟩, .int .i64 0, .int .i64 0, .bool false, .slice (some ⟨kt, 0, none⟩) 2 ct] 24)) = w10 at B10 HA10 ⊢
    clear HX2
    refine (add_nil id x0 x1 x2 x3 x4 x5 A l.length c _).mono ?_
    rintro e w11 ⟨rfl, hb⟩
    have B11 := Aside0.mk (below_step B10.out hb)
    have HA11 := Aside0.mk (HA10.out.below hb)
    obtain ⟨k0, k1, k2, k3, k4, k5, k6⟩ := HK.out _ B11.out
    clear hb B10 HA10
    go_wp2_with fail
    refine (set_nil id x0 x1 x2 x3 x4 x5 A l.length c _).mono ?_
    rintro e w12 ⟨rfl, hb⟩
    have B12 := Aside0.mk (below_step B11.out hb)
    have HA12 := Aside0.mk (HA11.out.below hb)
    clear hb B11 HA11 k0 k1 k2 k3 k4 k5 k6
    go_wp2_with fail
    refine (get_nil id _).mono ?_
    rintro e w13 ⟨rfl, hb⟩
    have B13 := Aside0.mk (below_step B12.out hb)
    have HA13 := Aside0.mk (HA12.out.below hb)
    clear hb B12 HA12
    go_wp2_with fail
    refine (parent_nil id _).mono ?_
    rintro e w14 ⟨rfl, rfl⟩
    go_wp2_with fail
    refine (children_nil id _).mono ?_
    rintro e w15 ⟨rfl, rfl⟩
    go_wp2_with fail
    refine (unlink_nil id _).mono ?_
    rintro e w16 ⟨rfl, rfl⟩
    go_wp2_with fail
    refine (move_nil id id _).mono ?_
    rintro e w17 ⟨rfl, rfl⟩
    go_wp2_with fail
    refine (len_nil _).mono ?_
    rintro e w18 ⟨rfl, rfl⟩
    go_wp2_with fail
    refine (Tree_nil _).mono ?_
    rintro e w19 ⟨rfl, hb⟩
    have B19 := Aside0.mk (below_step B13.out hb)
    have HA19 := Aside0.mk (HA13.out.below hb)
    clear hb B13 HA13
    go_wp2_with fail
    refine (children_calls HA19.out 0 no_kids).mono ?_
    rintro e w20 ⟨v9, rfl, hR, hb⟩
    have hR : (Kd.int .i64).R 3 w20 w19.heap.size (fun _ => True) v9 [1, 2] := hR
    have B20 := Aside0.mk (below_step B19.out hb)
    have HA20 := Aside0.mk (HA19.out.below hb)
    obtain ⟨A9, c9, hv9⟩ := Kd.R_slice hR
    subst hv9
    have hC9 := (Kd.R_reads' hR).2
    have HC9 := Aside0.mk hC9
    clear hR hb B19 HA19 hC9
    go_wp2_with fail
    have HN := Aside0.mk (no_lit w20)
    have B20b := Aside0.mk (below_alloc B20.out (.cells #[.int .i64 1, .int .i64 2] 3))
    have HA20b := Aside0.mk (HA20.out.below (below_alloc (Below.refl _ _) (.cells #[.int .i64 1, .int .i64 2] 3)))
    refine (incipitlaw06_numbers.calls 10 A9 c9 [1, 2] (some ⟨w20.heap.size, 0, none⟩) 2 [1, 2] true _ (Kd.C_alloc HC9.out.2 _) HC9.out.1 HN.out (by decide) no_numbers).mono ?_
    rintro e w21 ⟨rfl, hdr⟩
    obtain ⟨n, hn⟩ := hdr.out
    subst hn
    have B21 := Aside0.mk (pw_below_drewN B20b.out n)
    have HA21 := Aside0.mk (HA20b.out.below (pw_below_drewN (Below.refl _ _) n))
    clear hdr B20 B20b HA20 HA20b HN
    generalize (w20.alloc (.cells #[.int .i64 1, .int .i64 2] 3)).drewN n = w21 at B21 HA21 ⊢
    go_wp2_with fail
    refine (get_calls HA21.out 1 (by rw [no2_eq]; decide) 7 ⟨#[]⟩ ⟨#[]⟩ 0 0 false [] (by rw [no2_eq]; rfl)).mono ?_
    rintro e w22 ⟨rfl, hb⟩
    have B22 := Aside0.mk (below_step B21.out hb)
    clear hb
    go_wp2_with fail
    go_ret
    exact ⟨rfl, below_step B2.out B22.out⟩
end Go.Proofs.Ytikfbipjlkhgeaa.P
