/- foot.gather, for the closure of foot.Labels: each note is told, in order. -/
import Derived.Test.YtbgbmphjjdiaeaaDoorFootA
import Derived.Test.YtbgbmphjjdiaeaaDoorFormsL
namespace Go.Proofs.YtbgbmphjjdiaeaaDoor.P
open Go.RowKit Go.Maps Go.Proofs.YtbgbmphjjdiaeaaDoor.MF Go.Proofs.YtbgbmphjjdiaeaaDoorW.PrintWords Go.Proofs.YtbgbmphjjdiaeaaDoorW.PrintLast Go.Proofs.YtbgbmphjjdiaeaaDoorW.PrintMore
set_option linter.unusedVariables false
set_option linter.unusedSimpArgs false
section
attribute [local go_sem] World.cell?_alloc_some World.cell?_setCell_far
set_option maxRecDepth 100000 in
set_option maxHeartbeats 8000000 in
theorem gather77 : ∀ (s : Nat) (l : List S24) (O : List Bs) (w0 W : World) (A : Option Addr) (c : Nat) (mo oo mb : Nat), dpL l < s → O.length + wtL l ≤ 10000000 → Kd.C k24 w0 A l.length l → l.length ≤ c → LabI w0 mo oo mb O W → Tabs w0 →
    Calls Tryd.prog 49 #[.slice A l.length c, .func (.func 77) #[] #[.pointer (some ⟨mo, 0, none⟩), .pointer (some ⟨oo, 0, none⟩)]] W fun e w' => e = .returned (.tuple #[]) ∧ LabI w0 mo oo mb (labF O (gaL l)) w' ∧ Same24 W w'
  | 0, _, _, _, _, _, _, _, _, _, h, _, _, _, _, _ => absurd h (by omega)
  | s + 1, l, O, w0, W, A, c, mo, oo, mb, hd, hwt, hC, hc, hI, hT => by
    obtain ⟨n, en⟩ : ∃ n, n = l.length := ⟨_, rfl⟩
    have HEN := Aside0.mk en
    have HD := Aside0.mk hd
    have HWT := Aside0.mk hwt
    have HC := Aside0.mk hC
    have HI := Aside0.mk hI
    have HT := Aside0.mk hT
    have hn9 : n ≤ 10000000 := by have := len_wt l; omega
    rw [← en] at hc ⊢
    have IH := Aside0.mk (fun (L : List S24) (O1 : List Bs) (W1 : World) (A1 : Option Addr) (c1 : Nat) h1 h2 h3 h4 h5 => gather77 s L O1 w0 W1 A1 c1 mo oo mb h1 h2 h3 h4 h5 hT)
    clear en hd hwt hC hI hT
    go_enter Tryd.func49, Tryd.ntmps49
    go_wp2_with fail
    go_loopw [8] (fun v wr => ∃ k : Nat, k ≤ n ∧ v = .int .i64 k ∧ Aside0 (LabI w0 mo oo mb (labF O (gaL (l.take k))) wr ∧ Same24 W wr)) (fun v _ => n - (intOf v).toNat)
    case atStart => exact ⟨0, by omega, rfl, ⟨by simpa [gaL, labF] using HI.out, Same24.refl _⟩⟩
    case round =>
      clear HI
      obtain ⟨k, hk, rfl, HI⟩ := hrel
      by_cases hlt : k < n
      · have hkl : k < l.length := by rw [← HEN.out]; exact hlt
        have hstep := ga_take hkl
        have hwk := wt_take hkl
        have hwx := wtT_eq (rd_T24 l (k : Int))
        have hdx := dp_in hkl
        have hW1 := HWT.out
        have hD1 := HD.out
        obtain ⟨O1, eO⟩ : ∃ O1, O1 = labF O (gaL (l.take k)) := ⟨_, rfl⟩
        have hI1 := HI.out.1
        rw [← eO] at hI1
        have hO1 : O1.length + wtT (rd_T24 l (k : Int)) ≤ 10000000 := by
          have h1 := labF_len O (gaL (l.take k))
          have h2 := gaL_len (l.take k)
          rw [← eO] at h1
          omega
        have hres : labF O (gaL (l.take (k + 1))) = labF O1 (gaT (rd_T24 l (k : Int))) := by rw [hstep, labF_app, ← eO]
        rw [gaT_eq] at hres
        have p1 : (0 : Int) ≤ (k : Int) := by omega
        have q1 : (k : Int) < (n : Int) := by omega
        have hCr := Kd.C_below HC.out hI1.below
        rw [← HEN.out] at hCr
        obtain ⟨ad, A6, c6, rfl, x0, x1, x2, x3, x4, x5, x6, hl6, hi6⟩ := at_T24 hCr (k : Int) p1 q1
        have hC6 := (at_T24 (by have := HC.out; rwa [← HEN.out] at this) (k : Int) p1 q1)
        obtain ⟨ad', A6', c6', ead, _, _, _, _, _, _, x6', hl6', hi6'⟩ := hC6
        injection ead with ead
        subst ead
        have x6'' := (hI1.below.cell (World.block_lt_of_cell? w0 _ x6')).trans x6'
        have e6 := Option.some.inj (x6''.symm.trans x6)
        injection e6 with e6 _ e6c
        subst e6
        subst e6c
        clear x6' x6'' hl6' hi6
        simp only [Int.toNat_natCast] at x0 x1 x2 x3 x4 x5 x6
        obtain ⟨y, ey⟩ : ∃ y, y = rd_T24 l (k : Int) := ⟨_, rfl⟩
        rw [← ey] at x0 x1 x2 x3 x4 x5 x6 hl6 hi6' hres hwx hdx hwk hO1
        obtain ⟨y0, y1, y2, y3, y4, y5, y6⟩ := y
        simp only at x0 x1 x2 x3 x4 x5 x6 hl6 hi6' hres hwx hdx
        have hkI : (k : Int) < (n : Int) := by omega
        have hkN : IntKind.i64.wrap ((k : Int) + 1) = (k : Int) + 1 := by rw [IntKind.wrap_i64]; omega
        have hls := labelS_len (bts y1)
        rw [bts_len] at hls
        have hls2 : (T.labelS (bts y1)).length ≤ 1099511627776 := by omega
        obtain ⟨n6, en6⟩ : ∃ n6, n6 = y6.length := ⟨_, rfl⟩
        rw [← en6] at x6 hl6 hi6'
        have HB1 := Aside0.mk (below_alloc (Below.refl wr.heap.size wr) (.cells #[.int .i64 y0, .string y1, .string y2, .int .i64 y3, .int .i64 y4, .bool y5, .slice A6' n6 c6'] 24))
        have HN1 := Aside0.mk (blk_new wr (.cells #[.int .i64 y0, .string y1, .string y2, .int .i64 y3, .int .i64 y4, .bool y5, .slice A6' n6 c6'] 24))
        have HI1 := Aside0.mk (hI1.step HB1.out)
        have HS1 := Aside0.mk (HI.out.2.trans (Same24.below HB1.out))
        have HK := Aside0.mk (show ∀ w', Same24 (wr.alloc (.cells #[.int .i64 y0, .string y1, .string y2, .int .i64 y3, .int .i64 y4, .bool y5, .slice A6' n6 c6'] 24)) w' → _ from fun w' hs => box7 (hs.2 _ _ HN1.out))
        have HL6 := Aside0.mk hl6
        have HC6 := Aside0.mk hi6'
        have HE6 := Aside0.mk en6
        have HRES := Aside0.mk hres
        have HLS := Aside0.mk hls2
        have HDX := Aside0.mk (show dpL y6 < s by omega)
        have CT := Aside0.mk (fun (w2 : World) (h : LabI w0 mo oo mb O1 w2) => tell77 h hls2 (y := ⟨y0, y1, y2, y3, y4, y5, y6⟩) en6 hl6 hi6' (by omega))
        by_cases hk13 : y0 = 13
        · have hkb : (y0 == 13) = true := by rw [hk13]; rfl
          rw [if_pos hk13] at hres
          have HRES := Aside0.mk hres
          have HW6 := Aside0.mk (show (labF O1 [(T.labelS (bts y1), (⟨y0, y1, y2, y3, y4, y5, y6⟩ : S24))]).length + wtL y6 ≤ 10000000 by have := labF_len O1 [(T.labelS (bts y1), (⟨y0, y1, y2, y3, y4, y5, y6⟩ : S24))]; simp at this; omega)
          have CL := Aside0.mk (fun (w2 : World) (hT2 : Tabs w2) => class_Label.calls y1 (txt (T.labelS (bts y1))) w2 (by rw [label_f y1 (by omega)]; rfl) hT2)
          have CI : Aside0 (∀ w3, LabI w0 mo oo mb (labF O1 [(T.labelS (bts y1), (⟨y0, y1, y2, y3, y4, y5, y6⟩ : S24))]) w3 → Calls Tryd.prog 49 #[.slice A6' n6 c6', .func (.func 77) #[] #[.pointer (some ⟨mo, 0, none⟩), .pointer (some ⟨oo, 0, none⟩)]] w3 fun e w' => e = .returned (.tuple #[]) ∧ LabI w0 mo oo mb (labF (labF O1 [(T.labelS (bts y1), (⟨y0, y1, y2, y3, y4, y5, y6⟩ : S24))]) (gaL y6)) w' ∧ Same24 w3 w') := ⟨fun w3 h => by
            have := IH.out y6 _ w3 A6' c6' HDX.out HW6.out (by rw [← en6]; exact hi6') (by rw [← en6]; exact hl6) h
            rw [← en6] at this
            exact this⟩
          have HEO := Aside0.mk eO
          clear hres hstep hwk hwx hdx hW1 hD1 hI1 hO1 eO p1 q1 hCr hls hls2 hl6 hi6' en6 ey hk13 HB1 hkl
          go_wp2_with fail
          obtain ⟨W1, eW1⟩ : ∃ W1, W1 = wr.alloc (.cells #[.int .i64 y0, .string y1, .string y2, .int .i64 y3, .int .i64 y4, .bool y5, .slice A6' n6 c6'] 24) := ⟨_, rfl⟩
          rw [← eW1] at HN1 HI1 HS1 HK ⊢
          clear x0 x1 x2 x3 x4 x5 x6 eW1
          obtain ⟨bx, ebx⟩ : ∃ bx, bx = wr.heap.size := ⟨_, rfl⟩
          rw [← ebx] at HN1 HK ⊢
          clear ebx
          obtain ⟨k0, k1, k2, k3, k4, k5, k6⟩ := HK.out W1 (Same24.refl _)
          go_region_held3 (fun w' => w'.cell? ⟨bx, 0, none⟩ = some (.int .i64 y0) ∧ w'.cell? ⟨bx, 1, none⟩ = some (.string y1) ∧ w'.cell? ⟨bx, 2, none⟩ = some (.string y2) ∧ w'.cell? ⟨bx, 3, none⟩ = some (.int .i64 y3) ∧ w'.cell? ⟨bx, 4, none⟩ = some (.int .i64 y4) ∧ w'.cell? ⟨bx, 5, none⟩ = some (.bool y5) ∧ w'.cell? ⟨bx, 6, none⟩ = some (.slice A6' n6 c6'))
            (first | exact HK.out _ (by first | assumption | exact Same24.refl _))
            (first
              | (go_at_call 33; (with_reducible refine (CL.out _ (Tabs.below HT.out (below_drew HI1.out.below))).mono ?_); rintro e w2 ⟨rfl, hb⟩; have hs2 : Same24 W1 w2 := Same24.below (show Below W1.heap.size W1 w2 from ⟨hb.os, hb.tape, hb.output, hb.size, hb.block⟩); have HI2 := Aside0.mk (HI1.out.step (show Below W1.heap.size W1 w2 from ⟨hb.os, hb.tape, hb.output, hb.size, hb.block⟩)); clear hb)
              | (go_at_call 77; (with_reducible refine (CT.out _ HI2.out).mono ?_); rintro e w3 ⟨rfl, hi, hss⟩; have hs3 : Same24 W1 w3 := hs2.trans hss; have HI3 := Aside0.mk hi; clear hi hss))
          all_goals
            obtain ⟨k0, k1, k2, k3, k4, k5, k6⟩ := HK.out w3 hs3
            have HS3 := Aside0.mk (HS1.out.trans hs3)
            clear hs2 hs3
            go_wp2_with (go_at_call 49; refine (CI.out _ HI3.out).mono ?_; rintro e w4 ⟨rfl, hi, hss⟩; have HI4 := Aside0.mk hi; have HS4 := Aside0.mk (HS3.out.trans hss); clear hi hss)
            go_roundw
            case rel => exact ⟨k + 1, by omega, by go_num, ⟨by rw [HRES.out]; exact HI4.out, HS4.out⟩⟩
            case measure => simp [intOf]; omega
        · have hkb : (y0 == 13) = false := by simpa using hk13
          rw [if_neg hk13] at hres
          have HRES := Aside0.mk hres
          have HW6 := Aside0.mk (show O1.length + wtL y6 ≤ 10000000 by omega)
          have CI : Aside0 (∀ w3, LabI w0 mo oo mb O1 w3 → Calls Tryd.prog 49 #[.slice A6' n6 c6', .func (.func 77) #[] #[.pointer (some ⟨mo, 0, none⟩), .pointer (some ⟨oo, 0, none⟩)]] w3 fun e w' => e = .returned (.tuple #[]) ∧ LabI w0 mo oo mb (labF O1 (gaL y6)) w' ∧ Same24 w3 w') := ⟨fun w3 h => by
            have := IH.out y6 _ w3 A6' c6' HDX.out HW6.out (by rw [← en6]; exact hi6') (by rw [← en6]; exact hl6) h
            rw [← en6] at this
            exact this⟩
          clear hres hstep hwk hwx hdx hW1 hD1 hI1 hO1 eO p1 q1 hCr hls hls2 hl6 hi6' en6 ey hk13 HB1 hkl CT
          go_wp2_with (go_at_call 49; refine (CI.out _ HI1.out).mono ?_; rintro e w4 ⟨rfl, hi, hss⟩; have HI4 := Aside0.mk hi; have HS4 := Aside0.mk (HS1.out.trans hss); clear hi hss)
          go_roundw
          case rel => exact ⟨k + 1, by omega, by go_num, ⟨by rw [HRES.out]; exact HI4.out, HS4.out⟩⟩
          case measure => simp [intOf]; omega
      · have hkn : k = n := by omega
        subst hkn
        have hkI : ¬ (k : Int) < (k : Int) := by omega
        have HI9 := Aside0.mk HI.out
        rw [List.take_of_length_le (by rw [HEN.out]; exact Nat.le_refl _)] at HI9
        go_wp2_with fail
        go_end0
        exact ⟨rfl, HI9.out.1, HI9.out.2⟩
end
end Go.Proofs.YtbgbmphjjdiaeaaDoor.P
/- foot.Labels in the printer's form. -/
namespace Go.Proofs.YtbgbmphjjdiaeaaDoor.P
open Go.RowKit Go.Maps Go.Proofs.YtbgbmphjjdiaeaaDoor.MF Go.Proofs.YtbgbmphjjdiaeaaDoorW.PrintWords Go.Proofs.YtbgbmphjjdiaeaaDoorW.PrintLast Go.Proofs.YtbgbmphjjdiaeaaDoorW.PrintMore
set_option linter.unusedVariables false
set_option linter.unusedSimpArgs false
theorem size_alloc (w : World) (o : Obj) : (w.alloc o).heap.size = w.heap.size + 1 := by simp
theorem lab0 (w : World) : LabI w (w.heap.size + 1 + 1) w.heap.size (w.heap.size + 1) [] (((w.alloc (.cells #[.slice none 0 0] 34)).alloc (.map #[] 0)).alloc (.cells #[.map (some (w.heap.size + 1))] 91)) := by
  have h1 := blk_new ((w.alloc (.cells #[.slice none 0 0] 34)).alloc (.map #[] 0)) (.cells #[.map (some (w.heap.size + 1))] 91)
  rw [size_alloc, size_alloc] at h1
  have h2 := blk_alloc (blk_alloc (blk_new w (.cells #[.slice none 0 0] 34)) (.map #[] 0)) (.cells #[.map (some (w.heap.size + 1))] 91)
  have h3 := MapF.made (w.alloc (.cells #[.slice none 0 0] 34)) Tryd.prog 9 encT Value.bool
  rw [size_alloc] at h3
  have hb : Below w.heap.size w (((w.alloc (.cells #[.slice none 0 0] 34)).alloc (.map #[] 0)).alloc (.cells #[.map (some (w.heap.size + 1))] 91)) := below_alloc (below_alloc (below_alloc (Below.refl _ _) _) _) _
  refine ⟨h1, ⟨_, h2, Kd.R_nil _ _ _ _ _⟩, ?_, hb, by omega, by omega⟩
  have e : inF [] = fun _ => none := by funext x; simp [inF]
  rw [e]
  exact h3.below' (below_alloc (Below.refl _ _) _)
def foot_Labels.f (l0 : List S24) : Option (List ByteArray) := if wtL l0 ≤ 1000000 then some ((labF [] (gaL l0)).map txt) else none
section
attribute [local go_sem] World.cell?_alloc_some
set_option maxRecDepth 100000 in
set_option maxHeartbeats 8000000 in
theorem foot_Labels.calls (A0 : Option Addr) (c0 : Nat) (l0 : List S24) (r : List ByteArray) (w : World) (hr0 : Kd.C k24 w A0 l0.length l0) (hc0 : l0.length ≤ c0) (h : foot_Labels.f l0 = some r) (hT : Tabs w) :
    Calls Tryd.prog 47 #[.slice A0 l0.length c0] w fun e w' => ∃ v0_ : Value, e = .returned (v0_) ∧ Kd.R Kd.string 9 w' w.heap.size (fun _ => True) v0_ r ∧ Below w.heap.size w w' := by
  unfold foot_Labels.f at h
  by_cases hw : wtL l0 ≤ 1000000
  · rw [if_pos hw] at h
    have h := Option.some.inj h
    have HR := Aside0.mk h
    have HL := Aside0.mk (lab0 w)
    have CG := Aside0.mk (fun W h => gather77 (dpL l0 + 1) l0 [] w W A0 c0 (w.heap.size + 1 + 1) w.heap.size (w.heap.size + 1) (by omega) (by simp; omega) hr0 hc0 h hT)
    have hmm := @run_makeMap Tryd.prog
    clear h hr0 hw hc0 hT
    go_enter Tryd.func47, Tryd.ntmps47
    go_wp2_with (go_at_call 49; refine (CG.out _ HL.out).mono ?_; rintro e w1 ⟨rfl, hi, hs⟩; obtain ⟨v, o1, o2⟩ := hi.oc; have d1 : w1.cell? ⟨w.heap.size, 0, none⟩ = some v := blk_cell o1 0; have HO2 := Aside0.mk o2; have HBE := Aside0.mk hi.below; clear hi hs o1 o2)
    go_ret
    exact ⟨_, rfl, by rw [← HR.out]; exact HO2.out, HBE.out⟩
  · rw [if_neg hw] at h
    cases h
end
end Go.Proofs.YtbgbmphjjdiaeaaDoor.P
