/- incipitlaw06.lay: a list of trees is laid below a slot; TreeBack: what is laid is the tree. -/
import Derived.Test.YtikfbipjlkhgeaaAwake
import Derived.Test.YtikfbipjlkhgeaaTreeP
import Derived.Test.YtikfbipjlkhgeaaTreeWr
import Derived.Test.YtikfbipjlkhgeaaPk1
namespace Go.Proofs.Ytikfbipjlkhgeaa.P
open Go.RowKit Go.Proofs.YtikfbipjlkhgeaaW.PrintWords Go.Proofs.YtikfbipjlkhgeaaW.PrintLast Go.Proofs.YtikfbipjlkhgeaaW.PrintMore
set_option linter.unusedVariables false
set_option linter.unusedSimpArgs false
/-- No slot has more children than there are slots. -/
def KB (sl : List S70) : Prop := ∀ i : Nat, i < sl.length → (rd_T70 sl (i : Int)).f2.length ≤ sl.length
theorem addS_len (sl : List S70) (p : Nat) (x : S70) (hp : p < sl.length) : (addS sl p x).length = sl.length + 1 := by
  unfold addS
  rw [if_pos ((hasB_iff sl p).2 ⟨by omega, by omega⟩)]
  unfold linkS
  simp
theorem addS_rd (sl : List S70) (p : Nat) (x : S70) (hp : p < sl.length) (j : Nat) (hj : j < sl.length + 1) :
    rd_T70 (addS sl p x) (j : Int) = if j = sl.length then ⟨x.f0, p, x.f2⟩ else if j = p then ⟨(rd_T70 sl (p : Int)).f0, (rd_T70 sl (p : Int)).f1, (rd_T70 sl (p : Int)).f2 ++ [(sl.length : Int)]⟩ else rd_T70 sl (j : Int) := by
  unfold addS
  rw [if_pos ((hasB_iff sl p).2 ⟨by omega, by omega⟩)]
  unfold linkS
  simp only [Int.toNat_natCast]
  have hl : sl.length < (sl ++ [x]).length := by simp
  have hx : rd_T70 (sl ++ [x]) (sl.length : Int) = x := by rw [rd70_app _ _ _ hl, if_neg (by omega)]
  have hpp : ∀ q : Nat, q < sl.length → rd_T70 (sl ++ [x]) (q : Int) = rd_T70 sl (q : Int) := fun q hq => by rw [rd70_app _ _ _ (by simp; omega), if_pos hq]
  rw [rd70_set _ _ _ _ (by simp; omega), rd70_set _ _ _ _ hl, rd70_set _ _ _ _ hl, hx, if_neg (show ¬ sl.length = p by omega), hpp p hp]
  by_cases h1 : j = sl.length
  · rw [if_pos h1, if_neg (by omega), if_pos h1.symm]
  · rw [if_neg h1]
    by_cases h2 : j = p
    · rw [if_pos h2, if_pos h2.symm]
    · rw [if_neg h2, if_neg (fun e => h2 e.symm), if_neg (fun e => h1 e.symm), hpp j (by omega)]
theorem addS_KB (sl : List S70) (p : Nat) (x : S70) (hp : p < sl.length) (hx : x.f2 = []) (h : KB sl) : KB (addS sl p x) := fun i hi => by
  rw [addS_len sl p x hp] at hi ⊢
  rw [addS_rd sl p x hp i hi]
  by_cases h1 : i = sl.length
  · rw [if_pos h1]; show x.f2.length ≤ _; rw [hx]; simp
  · rw [if_neg h1]
    by_cases h2 : i = p
    · rw [if_pos h2]
      have := h p hp
      simp
      omega
    · rw [if_neg h2]
      have := h i (by omega)
      omega
/-- What has been laid below slot p. -/
def LayRel (sl : List S70) (p : Nat) (l : List S24) (sl' : List S70) : Prop :=
  sl'.length = sl.length + cntL l ∧ KB sl' ∧ (∀ j : Nat, j < sl.length → j ≠ p → rd_T70 sl' (j : Int) = rd_T70 sl (j : Int)) ∧ (rd_T70 sl' (p : Int)).f0 = (rd_T70 sl (p : Int)).f0 ∧
    ∃ cs, (rd_T70 sl' (p : Int)).f2 = (rd_T70 sl (p : Int)).f2 ++ cs ∧ trL sl.length sl' cs l
theorem LayRel.nil (sl : List S70) (p : Nat) (h : KB sl) : LayRel sl p [] sl := ⟨by unfold cntL; rfl, h, fun _ _ _ => rfl, rfl, [], by simp, by unfold trL; trivial⟩
theorem cntL_app : ∀ (l m : List S24), cntL (l ++ m) = cntL l + cntL m
  | [], m => by simp [cntL]
  | x :: l, m => by
    have h := cntL_app l m
    have e1 : cntL (x :: l ++ m) = cntT x + cntL (l ++ m) := by rw [List.cons_append]; exact cntL.eq_2 _ _
    have e2 : cntL (x :: l) = cntT x + cntL l := cntL.eq_2 _ _
    omega
theorem LayRel.snoc {sl sl1 sl3 : List S70} {p : Nat} {l : List S24} {y0 : Int} {y1 y2 : ByteArray} {y3 y4 : Int} {y5 : Bool} {y6 : List S24} (hp : p < sl.length) (h : LayRel sl p l sl1) (h3 : LayRel (addS sl1 p (slotOf y0 y1 y2 y3 y4 y5 0)) sl1.length y6 sl3) :
    LayRel sl p (l ++ [⟨y0, y1, y2, y3, y4, y5, y6⟩]) sl3 := by
  obtain ⟨a1, _, a2, a3, cs, a4, a5⟩ := h
  obtain ⟨b1, bk, b2, b3, ds, b4, b5⟩ := h3
  have hp1 : p < sl1.length := by omega
  have hl := addS_len sl1 p (slotOf y0 y1 y2 y3 y4 y5 0) hp1
  have hrd := addS_rd sl1 p (slotOf y0 y1 y2 y3 y4 y5 0) hp1
  have hid := hrd sl1.length (by omega)
  rw [if_pos rfl] at hid
  have hpp := hrd p (by omega)
  rw [if_neg (by omega), if_pos rfl] at hpp
  have hold : ∀ j : Nat, j < sl1.length → j ≠ p → rd_T70 sl3 (j : Int) = rd_T70 sl1 (j : Int) := fun j hj hne => by
    rw [b2 j (by omega) (by omega), hrd j (by omega), if_neg (by omega), if_neg hne]
  have hp3 := b2 p (by omega) (by omega)
  rw [hpp] at hp3
  rw [hid] at b3 b4
  refine ⟨?_, bk, fun j hj hne => by rw [hold j (by omega) hne, a2 j hj hne], by rw [hp3]; exact a3, cs ++ [(sl1.length : Int)], ?_, trL_app (trL_mono (Nat.le_refl _) (by omega) (fun j h1 h2 => hold j h2 (by omega)) _ _ a5) ?_⟩
  · rw [b1, hl, a1, cntL_app]
    simp [cntL, cntT]
    omega
  · rw [hp3]
    show (rd_T70 sl1 (p : Int)).f2 ++ [(sl1.length : Int)] = _
    rw [a4, List.append_assoc]
  · unfold trL
    refine ⟨⟨by omega, ?_⟩, by unfold trL; trivial⟩
    simp only [Int.toNat_natCast]
    unfold trT
    refine ⟨by omega, by omega, b3, ?_⟩
    rw [b4]
    show trL sl.length sl3 ([] ++ ds) y6
    rw [List.nil_append]
    exact trL_mono (by omega) (Nat.le_refl _) (fun _ _ _ => rfl) _ _ b5
def LayAt (W0 wr : World) (g : Nat) (sl : List S70) (p : Nat) (l : List S24) : Prop := Below W0.heap.size W0 wr ∧ ∃ sl', Ar wr W0.heap.size g sl' ∧ LayRel sl p l sl'
section
attribute [local go_sem] World.cell?_alloc_some
set_option maxRecDepth 100000 in
set_option maxHeartbeats 8000000 in
theorem lay_calls : ∀ (s p : Nat) (l : List S24) (A : Option Addr) (c : Nat) (W0 w : World) (g : Nat) (sl : List S70), SizeOf.sizeOf l < s → Ar w W0.heap.size g sl → Below W0.heap.size W0 w → Kd.C k24 W0 A l.length l → p < sl.length → KB sl → sl.length + cntL l < 1000000000 →
    Calls Try.prog 24 #[.pointer (some ⟨g, 0, none⟩), .int .i64 p, .slice A l.length c] w fun e w' => e = .returned (.bool true) ∧ LayAt W0 w' g sl p l
  | 0, _, _, _, _, _, _, _, _, h, _, _, _, _, _, _ => absurd h (by omega)
  | s + 1, p, l, A, c, W0, w, g, sl, hs, ha, hb, hC, hp, hkb, hn => by
    have hu24 := Try.underlying24
    have HC := Aside0.mk hC
    have HN := Aside0.mk hn
    have hlen := len_cntL l
    have hll : l.length ≤ 9223372036854775807 := by omega
    have HL := Aside0.mk (show LayAt W0 w g sl p (l.take 0) from ⟨hb, sl, ha, by rw [List.take_zero]; exact LayRel.nil sl p hkb⟩)
    clear hC hn ha hb hkb hlen
    go_enter Try.func24, Try.ntmps24
    go_wp2_with fail
    go_loopw [7] (fun v wr => ∃ k : Nat, k ≤ l.length ∧ v = .int .i64 k ∧ Aside0 (LayAt W0 wr g sl p (l.take k))) (fun v _ => l.length - (intOf v).toNat)
    case atStart => exact ⟨0, by omega, rfl, HL⟩
    case round =>
      clear HL
      obtain ⟨k, hk, rfl, HL⟩ := hrel
      by_cases hlt : k < l.length
      · obtain ⟨B0, sl1, ha, hrel⟩ := HL.out
        obtain ⟨ad, A6, c6, rfl, z0, z1, z2, z3, z4, z5, z6, xc, xg⟩ := at_T24 HC.out (k : Int) (by omega) (by omega)
        simp only [Int.toNat_natCast] at z0 z1 z2 z3 z4 z5 z6
        have hsz := List.sizeOf_lt_of_mem (rdm l k hlt)
        have hcm := cntL_mem (rdm l k hlt)
        have HTK := Aside0.mk (take_snoc24 l k hlt)
        obtain ⟨ch, hch⟩ : ∃ ch : S24, ch = rd_T24 l (k : Int) := ⟨_, rfl⟩
        rw [← hch] at z0 z1 z2 z3 z4 z5 z6 xc xg hsz hcm HTK
        have HCN := Aside0.mk (show cntL (l.take k) + cntT ch ≤ cntL l by
          have e : l = l.take (k + 1) ++ l.drop (k + 1) := (List.take_append_drop _ _).symm
          rw [e, cntL_app, HTK.out, cntL_app]
          have : cntL [ch] = cntT ch := by simp [cntL]
          rw [List.take_append_of_le_length (by simp; omega)]
          have e2 : (l.take k ++ [ch]).take k = l.take k := by rw [List.take_append_of_le_length (by simp; omega), List.take_of_length_le (by simp; omega)]
          rw [e2]
          omega)
        obtain ⟨y0, y1, y2, y3, y4, y5, y6⟩ := ch
        clear hch
        have LT := fun {a : Addr} {u : Value} (h : W0.cell? a = some u) => (B0.cell (World.block_lt_of_cell? W0 _ h)).trans h
        have x0 := LT z0
        have x1 := LT z1
        have x2 := LT z2
        have x3 := LT z3
        have x4 := LT z4
        have x5 := LT z5
        have x6 := LT z6
        have Z6 := Aside0.mk z6
        have XG := Aside0.mk xg
        obtain ⟨r1, r2, _⟩ := id hrel
        have hp1 : p < sl1.length := by omega
        have hcy : cntT ⟨y0, y1, y2, y3, y4, y5, y6⟩ = 1 + cntL y6 := by unfold cntT; rfl
        have CA := Aside0.mk (add_calls ha (p : Int) y0 y1 y2 y3 y4 y5 A6 y6.length c6 (by have := HN.out; have := HCN.out; omega) (fun i hi => by have := r2 i hi; have := HN.out; have := HCN.out; omega))
        have e1 : addR sl1 (p : Int) = sl1.length := by unfold addR; rw [if_pos ((hasB_iff sl1 p).2 ⟨by omega, by omega⟩)]
        rw [e1] at CA
        have IH := Aside0.mk (fun w' (h1 : Ar w' W0.heap.size g (addS sl1 p (slotOf y0 y1 y2 y3 y4 y5 0))) (h2 : Below W0.heap.size W0 w') =>
          lay_calls s sl1.length y6 A6 c6 W0 w' g (addS sl1 p (slotOf y0 y1 y2 y3 y4 y5 0)) (by simp only [S24.mk.sizeOf_spec] at hsz; omega) h1 h2 xg (by rw [addS_len _ _ _ hp1]; omega) (addS_KB _ _ _ hp1 rfl r2) (by rw [addS_len _ _ _ hp1]; have := HN.out; have := HCN.out; omega))
        have HREL := Aside0.mk hrel
        have HB0 := Aside0.mk B0
        have g0 : decide ((sl1.length : Int) < 0) = false := decide_eq_false (by omega)
        have hkI : (k : Int) < (l.length : Int) := by omega
        clear ha hrel z0 z1 z2 z3 z4 z5 z6 xg hsz hcm LT B0 r1 r2 hcy e1 HL
        go_wp2_with fail
        refine CA.out.mono ?_
        rintro e w2 ⟨rfl, hb2, _, ha2⟩
        have B2 := Aside0.mk (HB0.out.trans hb2)
        have HA2 := Aside0.mk ha2
        have x6b := (B2.out.cell (World.block_lt_of_cell? W0 _ Z6.out)).trans Z6.out
        clear hb2 ha2 x0 x1 x2 x3 x4 x5 x6
        go_wp2_with fail
        refine (IH.out _ HA2.out B2.out).mono ?_
        rintro e w3 ⟨rfl, hb3, sl3, ha3, hrel3⟩
        have HL3 := Aside0.mk (show LayAt W0 w3 g sl p (l.take (k + 1)) from ⟨hb3, sl3, ha3, by rw [HTK.out]; exact HREL.out.snoc hp hrel3⟩)
        clear hb3 ha3 hrel3
        go_wp2_with fail
        go_roundw
        case rel => exact ⟨k + 1, by omega, by go_num, HL3⟩
        case measure => simp [intOf]; omega
      · have hkl : k = l.length := by omega
        have hkI : ¬ (k : Int) < (l.length : Int) := by omega
        have HL2 := Aside0.mk (show LayAt W0 wr g sl p l from by have := HL.out; rw [List.take_of_length_le (by omega)] at this; exact this)
        clear hkl HL
        go_wp2_with fail
        go_ret
        exact ⟨rfl, HL2.out⟩
theorem lenA {w : World} {B g : Nat} {sl : List S70} {n : Int} (h : Ar w B g sl) (hn : (sl.length : Int) = n) : Calls Try.prog 26 #[.pointer (some ⟨g, 0, none⟩)] w fun e w' => e = .returned (.int .i64 n) ∧ w' = w := by
  obtain ⟨v, rows, h⟩ := h
  rw [← hn]
  exact len_calls h.rd
theorem tb_mid {W0 w : World} {g : Nat} {x0 : Int} {x1 x2 : ByteArray} {x3 x4 : Int} {x5 : Bool} {l : List S24} (h : LayAt W0 w g [slotOf x0 x1 x2 x3 x4 x5 (-1)] 0 l) (hn : 1 + cntL l ≤ 2000) :
    Below W0.heap.size W0 w ∧ ∃ sl', Ar w W0.heap.size g sl' ∧ trT 0 sl' 0 ⟨x0, x1, x2, x3, x4, x5, l⟩ ∧ (∀ i : Nat, i < sl'.length → (rd_T70 sl' (i : Int)).f2.length < 1000000000) ∧ sl'.length = 1 + cntL l := by
  obtain ⟨hb, sl', ha, h1, h2, h3, h4, cs, h5, h6⟩ := h
  have h1 : sl'.length = 1 + cntL l := h1
  refine ⟨hb, sl', ha, ?_, fun i hi => by have := h2 i hi; omega, h1⟩
  unfold trT
  refine ⟨Nat.le_refl _, by omega, h4, ?_⟩
  rw [h5]
  show trL 0 sl' ([] ++ cs) l
  rw [List.nil_append]
  exact trL_mono (by simp) (Nat.le_refl _) (fun _ _ _ => rfl) _ _ h6
set_option maxRecDepth 100000 in
set_option maxHeartbeats 8000000 in
theorem incipitlaw06_TreeBack.calls (x0 : Int) (x1 x2 : ByteArray) (x3 x4 : Int) (x5 : Bool) (A : Option Addr) (c : Nat) (l : List S24) (w : World) (hr : Kd.C k24 w A l.length l) (hc : l.length ≤ c) (hok : okT ⟨x0, x1, x2, x3, x4, x5, l⟩) :
    Calls Try.prog 4 #[.agg #[.int .i64 x0, .string x1, .string x2, .int .i64 x3, .int .i64 x4, .bool x5, .slice A l.length c]] w fun e w' => e = .returned (.bool true) ∧ Below w.heap.size w w' := by
  have hu24 := Try.underlying24
  obtain ⟨b, hb, hcnt⟩ := Few_ev ⟨x0, x1, x2, x3, x4, x5, l⟩ hok 2000 (by omega) (by omega)
  obtain ⟨kf, hkf⟩ := hb.rounds
  have HB := Aside0.mk (below_alloc (Below.refl w.heap.size w) (.cells #[.int .i64 x0, .string x1, .string x2, .int .i64 x3, .int .i64 x4, .bool x5, .slice A l.length c] 24))
  have HX := Aside0.mk (blk_new w (.cells #[.int .i64 x0, .string x1, .string x2, .int .i64 x3, .int .i64 x4, .bool x5, .slice A l.length c] 24))
  have HR := Aside0.mk (Kd.C_below hr HB.out)
  have HC := Aside0.mk hc
  have HCNT := Aside0.mk hcnt
  have CF := Aside0.mk (fun w1 (h1 : Kd.C k24 w1 A l.length l) => incipitref06_Few.calls kf x0 x1 x2 x3 x4 x5 A c l 2000 b w1 h1 hc hkf)
  clear hr hc hcnt hb hkf hok
  go_enter Try.func4, Try.ntmps4
  go_wp2_with fail
  refine (incipitlaw06_awake.calls true _ rfl).mono ?_
  rintro e w1 ⟨rfl, hb⟩
  have B1 := Aside0.mk (below_step HB.out hb)
  have HX1 := Aside0.mk (blk_below HX.out hb)
  have HR1 := Aside0.mk (Kd.C_below HR.out hb)
  clear hb HB HX HR
  generalize w.heap.size = gb at HX1 ⊢
  obtain ⟨k0, k1, k2, k3, k4, k5, k6⟩ := box7 HX1.out
  go_wp2_with fail
  refine (CF.out _ HR1.out).mono ?_
  rintro e w2 ⟨rfl, hb⟩
  have B2 := Aside0.mk (below_step B1.out hb)
  have HX2 := Aside0.mk (blk_below HX1.out hb)
  have HR2 := Aside0.mk (Kd.C_below HR1.out hb)
  clear hb HX1 HR1 B1 k0 k1 k2 k3 k4 k5 k6
  cases b with
  | false =>
    go_wp2_with fail
    go_ret
    exact ⟨rfl, B2.out⟩
  | true =>
    have hcl : cntT ⟨x0, x1, x2, x3, x4, x5, l⟩ ≤ 2000 := by have := HCNT.out (by first | rfl | trivial); omega
    have hce : cntT ⟨x0, x1, x2, x3, x4, x5, l⟩ = 1 + cntL l := by unfold cntT; rfl
    obtain ⟨kc, c1⟩ := (count_ev ⟨x0, x1, x2, x3, x4, x5, l⟩ (by omega)).rounds
    rw [hce] at c1 hcl
    have HCL := Aside0.mk hcl
    have HK := Aside0.mk (show ∀ w', Below w2.heap.size w2 w' → w'.cell? ⟨gb, 0, none⟩ = some (.int .i64 x0) ∧ w'.cell? ⟨gb, 1, none⟩ = some (.string x1) ∧ w'.cell? ⟨gb, 2, none⟩ = some (.string x2) ∧ w'.cell? ⟨gb, 3, none⟩ = some (.int .i64 x3) ∧ w'.cell? ⟨gb, 4, none⟩ = some (.int .i64 x4) ∧ w'.cell? ⟨gb, 5, none⟩ = some (.bool x5) ∧ w'.cell? ⟨gb, 6, none⟩ = some (.slice A l.length c) from fun w' hb => box7 (blk_below HX2.out hb))
    obtain ⟨k0, k1, k2, k3, k4, k5, k6⟩ := box7 HX2.out
    go_wp2_with fail
    refine (new_calls x0 x1 x2 x3 x4 x5 A l.length c w2).mono ?_
    rintro e w3 ⟨g, rfl, ha, hb⟩
    have HB3 := Aside0.mk hb
    have HA3 := Aside0.mk ha
    have CL := Aside0.mk (show ∀ w', Ar w' w2.heap.size g [slotOf x0 x1 x2 x3 x4 x5 (-1)] → Below w2.heap.size w2 w' → Calls Try.prog 24 #[.pointer (some ⟨g, 0, none⟩), .int .i64 0, .slice A l.length c] w' fun e w'' => e = .returned (.bool true) ∧ LayAt w2 w'' g [slotOf x0 x1 x2 x3 x4 x5 (-1)] 0 l from
      fun w' h1 h2 => lay_calls (SizeOf.sizeOf l + 1) 0 l A c w2 w' g _ (by omega) h1 h2 HR2.out (by simp) (fun i hi => by
        have : i = 0 := by simp at hi; exact hi
        subst this
        simp [slotOf, rd_T70, z70]) (by simp; omega))
    have CC := Aside0.mk (fun w' (h2 : Below w2.heap.size w2 w') => tree_Count.calls kc x0 x1 x2 x3 x4 x5 A c l _ w' (Kd.C_below HR2.out h2) HC.out c1)
    have e0 : (((1 + cntL l : Nat) : Int) == ((1 + cntL l : Nat) : Int)) = true := beq_self_eq_true _
    clear ha hb c1 hcl hce HCNT CF k0 k1 k2 k3 k4 k5 k6
    have ST := Aside0.mk (show tree_Same.f x0 x1 x2 x3 x4 x5 l x0 x1 x2 x3 x4 x5 l = some true from congrArg some (sameT_refl _))
    have HNC := Aside0.mk (show ∀ n : Nat, n = 1 + cntL l → (n : Int) = ((1 + cntL l : Nat) : Int) from fun n h => by rw [h])
    go_wp2_with fail
    generalize ((1 + cntL l : Nat) : Int) = Cn at CC e0 HNC
    go_region_held3 (fun w' => w'.cell? ⟨gb, 0, none⟩ = some (.int .i64 x0) ∧ w'.cell? ⟨gb, 1, none⟩ = some (.string x1) ∧ w'.cell? ⟨gb, 2, none⟩ = some (.string x2) ∧ w'.cell? ⟨gb, 3, none⟩ = some (.int .i64 x3) ∧ w'.cell? ⟨gb, 4, none⟩ = some (.int .i64 x4) ∧ w'.cell? ⟨gb, 5, none⟩ = some (.bool x5) ∧ w'.cell? ⟨gb, 6, none⟩ = some (.slice A l.length c))
      (first | exact HK.out _ (by first | assumption | exact below_drew HB3.out))
      (first
        | (go_at_call 24; (with_reducible refine (CL.out _ (Ar.drew HA3.out) (below_drew HB3.out)).mono ?_); rintro e w4 ⟨rfl, hl⟩; obtain ⟨hb4, sl', ha4, ht4, hk4, hn4⟩ := tb_mid hl HCL.out; have HA4 := Aside0.mk ha4; have HT4 := Aside0.mk ht4; have HK4 := Aside0.mk hk4; have HN4 := Aside0.mk (HNC.out _ hn4); clear hl ha4 ht4 hk4 hn4)
        | (go_at_call 25; (with_reducible refine (Tree_calls x0 x1 x2 x3 x4 x5 l 0 sl' _ w2.heap.size g HK4.out HA4.out HT4.out).mono ?_); rintro e w5 ⟨v6, rfl, hR, hbt⟩; obtain ⟨A6, q6, hv6⟩ := Kd.R_slice hR; subst hv6; have HR5 := Aside0.mk (Kd.R_reads' hR).2; have HA5 := Aside0.mk (HA4.out.below hbt); have hb5 := below_step hb4 hbt; clear hbt hR)
        | (go_at_call 15; (with_reducible refine (tree_Same.calls x0 x1 x2 x3 x4 x5 A6 q6 l x0 x1 x2 x3 x4 x5 A c l true _ HR5.out.2 HR5.out.1 (Kd.C_below HR2.out hb5) HC.out ST.out).mono ?_); rintro e w6 ⟨rfl, hbt⟩; have HA6 := Aside0.mk (HA5.out.below hbt); have hb6 := below_step hb5 hbt; clear hbt)
        | (go_at_call 17; (with_reducible refine (CC.out _ (by assumption)).mono ?_); rintro e w7 ⟨rfl, hbt⟩; have HA7 := Aside0.mk (HA6.out.below hbt); have hb7 := below_step hb6 hbt; clear hbt)
        | (go_at_call 26; (with_reducible refine (lenA (sl := sl') (by first | exact HA6.out | exact HA7.out) HN4.out).mono ?_); rintro e w8 ⟨rfl, rfl⟩))
    all_goals
      go_wp2_with fail
      go_ret
      exact ⟨rfl, below_step B2.out (by assumption)⟩
end
end Go.Proofs.Ytikfbipjlkhgeaa.P
