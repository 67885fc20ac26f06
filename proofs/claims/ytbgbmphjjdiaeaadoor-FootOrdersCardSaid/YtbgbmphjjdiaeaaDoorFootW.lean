/- (*foot.counter).walk. -/
import Derived.Test.YtbgbmphjjdiaeaaDoorFootN
namespace Go.Proofs.YtbgbmphjjdiaeaaDoor.P
open Go.RowKit Go.Maps Go.Proofs.YtbgbmphjjdiaeaaDoor.MF Go.Proofs.YtbgbmphjjdiaeaaDoorW.PrintWords Go.Proofs.YtbgbmphjjdiaeaaDoorW.PrintLast Go.Proofs.YtbgbmphjjdiaeaaDoorW.PrintMore
set_option linter.unusedVariables false
set_option linter.unusedSimpArgs false
theorem Same24.fresh_x {w w1 w2 : World} {nx : Nat} (h : Same24 w w1) (hx : Same24x nx w1 w2) (hn : w.heap.size ≤ nx) : Same24 w w2 :=
  ⟨Nat.le_trans h.1 hx.1, fun q c hq => hx.2 q c (by have := blk_lt hq; omega) (h.2 q c hq)⟩
theorem Same24.fresh_set {w w1 : World} {g j : Nat} {v : Value} (h : Same24 w w1) (hn : w.heap.size ≤ g) : Same24 w (w1.setCell ⟨g, j, none⟩ v) := h.fresh_x (Same24x.set w1 g j v) hn
theorem Same24.fresh_grown {w w1 w2 : World} {row : Option Nat} (h : Same24 w w1) (hg : w1.grownBy w2 row) (hr : ∀ k, row = some k → w.heap.size ≤ k) : Same24 w w2 :=
  ⟨Nat.le_trans h.1 hg.size, fun q c hq => blk_grown (h.2 q c hq) hg (fun e => by have := hr q e.symm; have := blk_lt hq; omega)⟩
theorem CnI.setN {w0 W : World} {cb nb ub rb nx : Nat} {F : Bs → Option S24} {st : Cnt} (h : CnI w0 cb nb ub rb F st W) {cs : Array Value} (hx : W.heap[nx]? = some (.cells cs 24 (0, 0))) (hlo : w0.heap.size ≤ nx) (j : Nat) (u : Value) : CnI w0 cb nb ub rb F st (W.setCell ⟨nx, j, none⟩ u) := by
  obtain ⟨v, hR⟩ := h.toR
  exact (hR.setN hx hlo j u).toI rfl rfl rfl
theorem own24 {w : World} {B : Nat} {ok : Nat → Prop} {v : Value} {xs : List S24} (h : k24.R 24 w B ok v xs) : ∀ k, v.ownBlock = some k → ok k ∧ k < w.heap.size ∧ ∃ cells, w.heap[k]? = some (.cells cells 24 (0, 0)) := fun k hk =>
  ⟨h.1 k hk, Kd.R_lt h k hk, Kd.R_typed h k hk⟩
theorem CnI.grown24 {w0 W W1 : World} {cb nb ub rb : Nat} {F : Bs → Option S24} {st : Cnt} (h : CnI w0 cb nb ub rb F st W) {row : Option Nat} (hg : W.grownBy W1 row) (hr : ∀ k, row = some k → w0.heap.size ≤ k ∧ ∃ cells, W.heap[k]? = some (.cells cells 24 (0, 0))) : CnI w0 cb nb ub rb F st W1 := by
  obtain ⟨v, h1, h2⟩ := h.sc
  obtain ⟨V, h3, h4⟩ := h.nt
  have hm : ∀ {mb : Nat} {β : Type} {V : β → Value} {f : Bs → Option β}, MapT W V mb f → some mb ≠ row := fun hm e => by
    obtain ⟨_, cells, hc⟩ := hr _ e.symm
    exact hm.ne_cells hc rfl
  have hc : ∀ {q t : Nat} {cs : Array Value}, W.heap[q]? = some (.cells cs t (0, 0)) → t ≠ 24 → some q ≠ row := fun hq ht e => by
    obtain ⟨_, cells, hc⟩ := hr _ e.symm
    rw [hc] at hq
    injection hq with hq
    injection hq with _ hq
    exact ht hq.symm
  refine ⟨⟨v, blk_grown h1 hg (hc h1 (by decide)), Kd.R_mono (Kd.R_step (Kd.R_bound h2) (fun k hk hlt => hg.block k hlt ?_)) (fun _ _ => trivial)⟩, blk_grown h.pc hg (hc h.pc (by decide)), ⟨V, h3.grown hg (hm h3), h4⟩, h.um.grown hg (hm h.um), h.rm.grown hg (hm h.rm), h.below.grown hg h.below.size (fun i hi => (hr i hi).1), h.lo, h.ne⟩
  obtain ⟨_, _, _, q, hq, cells, hcc⟩ := hk
  have e : q = 9 := by
    have : q ∈ [9] := hq
    simpa using this
  subst e
  exact hc hcc (by decide)
/-- What stands at the head of the round for the k-th node. -/
structure WkI (w0 W : World) (cb nb ub rb : Nat) (F : Bs → Option S24) (st : Cnt) (out : List S24) (v : Value) (wr : World) : Prop where
  cn : CnI w0 cb nb ub rb F st wr
  row : k24.R 24 wr w0.heap.size (fun k => W.heap.size ≤ k) v out
  same : Same24 W wr
def hasF (F : Bs → Option S24) : Bs → Bool := fun s => (F s).isSome
/-- A node is appended: its own part lies in new memory. -/
theorem WkI.close {w0 W w4 w5 : World} {cb nb ub rb : Nat} {F : Bs → Option S24} {st : Cnt} {out : List S24} {p : S24} {v v1 : Value} (h : WkI w0 W cb nb ub rb F st out v w4) (hW : w0.heap.size ≤ W.heap.size) (hg : w4.grownBy w5 v.ownBlock) (hr : k24.R 24 w5 w0.heap.size (fun k => W.heap.size ≤ k) v1 (out ++ [p])) : WkI w0 W cb nb ub rb F st (out ++ [p]) v1 w5 :=
  ⟨h.cn.grown24 hg (fun k hk => ⟨Nat.le_trans hW (own24 h.row k hk).1, (own24 h.row k hk).2.2⟩), hr, h.same.fresh_grown hg (fun k hk => (own24 h.row k hk).1)⟩
section
attribute [local go_sem] World.cell?_alloc_some World.cell?_setCell_far
set_option maxRecDepth 100000 in
set_option maxHeartbeats 8000000 in
theorem walk_calls : ∀ (s : Nat) (l : List S24) (st : Cnt) (w0 W : World) (A : Option Addr) (c cb nb ub rb : Nat) (F : Bs → Option S24), dpL l < s → wtL l ≤ 10000000 → (∀ x, st.cnt x + wtL l ≤ 1000000000000) → st.ord.length + wtL l ≤ 1000000000000 →
    Kd.C k24 w0 A l.length l → l.length ≤ c → CnI w0 cb nb ub rb F st W →
    Calls Tryd.prog 51 #[.pointer (some ⟨cb, 0, none⟩), .slice A l.length c] W fun e w' => ∃ v, e = .returned v ∧ WkI w0 W cb nb ub rb F (wkL (hasF F) l st).2 (wkL (hasF F) l st).1 v w'
  | 0, _, _, _, _, _, _, _, _, _, _, _, h, _, _, _, _, _, _ => absurd h (by omega)
  | s + 1, l, st, w0, W, A, c, cb, nb, ub, rb, F, hd, hwt, hcn, hol, hC, hc, hI => by
    obtain ⟨n, en⟩ : ∃ n, n = l.length := ⟨_, rfl⟩
    have HEN := Aside0.mk en
    have HD := Aside0.mk hd
    have HWT := Aside0.mk hwt
    have HCN := Aside0.mk hcn
    have HOL := Aside0.mk hol
    have HC := Aside0.mk hC
    have HW0 := Aside0.mk hI.below.size
    have HI : Aside0 (WkI w0 W cb nb ub rb F (wkL (hasF F) (l.take 0) st).2 (wkL (hasF F) (l.take 0) st).1 (.slice none 0 0) W) := ⟨⟨by simpa [wkL] using hI, by simp [wkL]; exact Kd.R_nil _ _ _ _ _, Same24.refl _⟩⟩
    have hn9 : n ≤ 10000000 := by have := len_wt l; omega
    rw [← en] at hc ⊢
    have IH := Aside0.mk (fun (L : List S24) (st1 : Cnt) (W1 : World) (A1 : Option Addr) (c1 : Nat) h1 h2 h3 h4 h5 h6 h7 => walk_calls s L st1 w0 W1 A1 c1 cb nb ub rb F h1 h2 h3 h4 h5 h6 h7)
    clear en hd hwt hC hI hcn hol
    go_enter Tryd.func51, Tryd.ntmps51
    go_wp2_with fail
    go_loopw [5, 10] (fun v5 v10 wr => ∃ k : Nat, k ≤ n ∧ v10 = .int .i64 k ∧ Aside0 (WkI w0 W cb nb ub rb F (wkL (hasF F) (l.take k) st).2 (wkL (hasF F) (l.take k) st).1 v5 wr)) (fun _ v _ => n - (intOf v).toNat)
    case atStart => exact ⟨0, by omega, rfl, HI⟩
    case round =>
      clear HI
      obtain ⟨k, hk, rfl, HI⟩ := hrel
      by_cases hlt : k < n
      · have hkl : k < l.length := by rw [← HEN.out]; exact hlt
        have hstep := congrArg (fun L => wkL (hasF F) L st) (take_rd hkl)
        simp only [wkL_snoc] at hstep
        have hwk := wt_take hkl
        have hwx := wtT_eq (rd_T24 l (k : Int))
        have hdx := dp_in hkl
        have hW1 := HWT.out
        have hD1 := HD.out
        have hlenO := wkL_len (hasF F) (l.take k) st
        have hordO := wkL_ord (hasF F) (l.take k) st
        have hcntO := fun x => wkL_cnt (hasF F) x (l.take k) st
        obtain ⟨out, eout⟩ : ∃ out, out = (wkL (hasF F) (l.take k) st).1 := ⟨_, rfl⟩
        obtain ⟨st1, est⟩ : ∃ st1, st1 = (wkL (hasF F) (l.take k) st).2 := ⟨_, rfl⟩
        rw [← eout, ← est] at HI hstep
        rw [← eout] at hlenO
        rw [← est] at hordO
        have hol : out.length ≤ 10000000 := by
          rw [List.length_take] at hlenO
          omega
        have hb1 : st1.ord.length + wtT (rd_T24 l (k : Int)) ≤ 1000000000000 := by have := HOL.out; omega
        have hb2 : ∀ x, st1.cnt x + wtT (rd_T24 l (k : Int)) ≤ 1000000000000 := fun x => by have := HCN.out x; have := hcntO x; rw [← est] at this; omega
        have p1 : (0 : Int) ≤ (k : Int) := by omega
        have q1 : (k : Int) < (n : Int) := by omega
        have hCr := Kd.C_below HC.out HI.out.cn.below
        rw [← HEN.out] at hCr
        obtain ⟨ad, A6, c6, rfl, x0, x1, x2, x3, x4, x5, x6, hl6, hi6⟩ := at_T24 hCr (k : Int) p1 q1
        obtain ⟨ad', A6', c6', ead, _, _, _, _, _, _, x6', hl6', hi6'⟩ := at_T24 (by have := HC.out; rwa [← HEN.out] at this) (k : Int) p1 q1
        injection ead with ead
        subst ead
        have x6'' := (HI.out.cn.below.cell (World.block_lt_of_cell? w0 _ x6')).trans x6'
        have e6 := Option.some.inj (x6''.symm.trans x6)
        injection e6 with e6 _ e6c
        subst e6
        subst e6c
        clear x6' x6'' hl6' hi6
        simp only [Int.toNat_natCast] at x0 x1 x2 x3 x4 x5 x6
        obtain ⟨y, ey⟩ : ∃ y, y = rd_T24 l (k : Int) := ⟨_, rfl⟩
        rw [← ey] at x0 x1 x2 x3 x4 x5 x6 hl6 hi6' hwx hdx hwk hstep hb1 hb2
        rw [wkT_eq] at hstep
        obtain ⟨y0, y1, y2, y3, y4, y5, y6⟩ := y
        simp only at x0 x1 x2 x3 x4 x5 x6 hl6 hi6' hwx hdx hstep
        have hkN : IntKind.i64.wrap ((k : Int) + 1) = (k : Int) + 1 := by rw [IntKind.wrap_i64]; omega
        obtain ⟨n6, en6⟩ : ∃ n6, n6 = y6.length := ⟨_, rfl⟩
        rw [← en6] at x6 hl6 hi6'
        have hy1 : y1.size ≤ 10000000 := by omega
        have HB1 := Aside0.mk (below_alloc (Below.refl wr.heap.size wr) (.cells #[.int .i64 y0, .string y1, .string y2, .int .i64 y3, .int .i64 y4, .bool y5, .slice A6' n6 c6'] 24))
        have HN1 := Aside0.mk (blk_new wr (.cells #[.int .i64 y0, .string y1, .string y2, .int .i64 y3, .int .i64 y4, .bool y5, .slice A6' n6 c6'] 24))
        have HCN1 := Aside0.mk (HI.out.cn.step HB1.out)
        have HSW := Aside0.mk (Same24.below HB1.out)
        have HWW := Aside0.mk HI.out.same
        have HL6 := Aside0.mk hl6
        have HC6 := Aside0.mk hi6'
        have HE6 := Aside0.mk en6
        have HDX := Aside0.mk (show dpL y6 < s by omega)
        by_cases hk13 : y0 = 13
        · -- a note: it is left out
          have hkb : (y0 == 13) = true := by rw [hk13]; rfl
          rw [if_pos hk13] at hstep
          have HNX : Aside0 (WkI w0 W cb nb ub rb F (wkL (hasF F) (l.take (k + 1)) st).2 (wkL (hasF F) (l.take (k + 1)) st).1 u5 (wr.alloc (.cells #[.int .i64 y0, .string y1, .string y2, .int .i64 y3, .int .i64 y4, .bool y5, .slice A6' n6 c6'] 24))) := ⟨by
            rw [hstep]
            refine ⟨HCN1.out, ?_, HWW.out.trans HSW.out⟩
            simp only [Option.toList_none, List.append_nil]
            exact R24_same HI.out.row HSW.out⟩
          clear hstep hwk hwx hdx hW1 hD1 eout est hb1 hb2 hcntO hCr hl6 hi6' en6 ey hk13 HB1 hkl hlenO hordO
          go_wp2_with fail
          go_roundw
          case rel => exact ⟨k + 1, by omega, by go_num, HNX⟩
          case measure => simp [intOf]; omega
        · have hkb : (y0 == 13) = false := by simpa using hk13
          rw [if_neg hk13] at hstep
          by_cases hno : y0 = 24 ∧ hasF F (bts y1) = false
          · -- a reference to no note
            obtain ⟨hk24, hF⟩ := hno
            have hkc : (y0 == 24) = true := by rw [hk24]; rfl
            rw [if_pos hk24, if_neg (by rw [hF]; decide)] at hstep
            have hFn : F (bts y1) = none := by
              unfold hasF at hF
              cases h : F (bts y1) with
              | none => rfl
              | some x => rw [h] at hF; cases hF
            have CN := Aside0.mk (fun (W2 : World) (h1 : CnI w0 cb nb ub rb F st1 W2) h2 => number_no (nx := wr.heap.size) (y0 := y0) (y1 := y1) (y2 := y2) (y3 := y3) (y4 := y4) (y5 := y5) (y6 := .slice A6' n6 c6') h1 h2 (by omega) hFn)
            have g1 : 2 + y1.size ≤ 9223372036854775807 := by omega
            have g2 : (⟨#[91, 94]⟩ ++ y1 : ByteArray).size + 1 ≤ 9223372036854775807 := by
              rw [ByteArray.size_append]
              show 2 + y1.size + 1 ≤ _
              omega
            have g3 : 2 + y1.size + 1 ≤ 9223372036854775807 := by omega
            have c1b0 := eq_true g1
            have c1b1 := eq_true g2
            have c1b2 : (9223372036854775807 < 2 + y1.size) = False := eq_false (Nat.not_lt.2 g1)
            have c1b3 : (9223372036854775807 < (⟨#[91, 94]⟩ ++ y1 : ByteArray).size + 1) = False := eq_false (Nat.not_lt.2 g2)
            have c1b4 := eq_true g3
            have c1b5 : (9223372036854775807 < 2 + y1.size + 1) = False := eq_false (Nat.not_lt.2 g3)
            have HST := Aside0.mk hstep
            have HLO := Aside0.mk hol
            clear g1 g2 g3 hstep hwk hwx hdx hW1 hD1 eout est hb1 hb2 hcntO hCr hl6 hi6' en6 ey hk13 HB1 hkl hlenO hordO hk24 hF hFn hy1 hol
            go_wp2_with (first | (go_at_call 78; (with_reducible refine (CN.out _ HCN1.out HN1.out).mono ?_); rintro e w2 ⟨rfl, hb⟩; have q1c := (box7 (blk_below HN1.out hb)).2.1; have HWK := Aside0.mk (show WkI w0 W cb nb ub rb F st1 out u5 w2 from ⟨HCN1.out.step hb, R24_same HI.out.row (HSW.out.trans (Same24.below hb)), HWW.out.trans (HSW.out.trans (Same24.below hb))⟩); have HFR : Aside0 (∀ k, w2.heap.size ≤ k → W.heap.size ≤ k) := ⟨fun k hk => Nat.le_trans HWK.out.same.1 hk⟩; clear hb) | ((with_reducible refine gate_builtin (b := .append) (xs := #[.tmp 27, .tmp 33]) rfl ?_); at_builtin; refine Kd.R_append k24 (w0 := w0) w0.heap.size rfl (.tmp 27) (.tmp 33) 22 24 (.agg #[(.int .i64 0), (.string ⟨#[]⟩), (.string ⟨#[]⟩), (.int .i64 0), (.int .i64 0), (.bool false), (.slice none 0 0)]) 88 rfl Tryd.underlying22 info24 rfl (by decide) (by omega) u5 out (noRef y1) [.int .i64 14, .string ((⟨#[91, 94]⟩ : ByteArray) ++ y1 ++ (⟨#[93]⟩ : ByteArray)), .string ⟨#[]⟩, .int .i64 0, .int .i64 0, .bool false, .slice none 0 0] (fun k => W.heap.size ≤ k) (fun _ => False) (by rfl) (by rfl) ?aP (fun _ h => h.elim) ?aF ?aO ?aB ?aS ?aL ?_; (case aP => exact k24_mkM _ w0.heap.size (fun _ => False) (noRef y1) (Kd.R_nil _ _ _ _ _)); (case aF => exact HFR.out); (case aO => exact HWK.out.row); (case aB => exact HWK.out.cn.below); (case aS => exact HWK.out.cn.below.size); (case aL => have := HLO.out; omega); intro v9 w9 ho hb hg hat; have HW9 := Aside0.mk (HWK.out.close HW0.out hg ho); clear ho hb hg hat))
            go_roundw
            case rel => exact ⟨k + 1, by omega, by go_num, ⟨by rw [HST.out]; exact HW9.out⟩⟩
            case measure => simp [intOf]; omega
          · by_cases hk24 : y0 = 24
            case' pos =>
              have hF : hasF F (bts y1) = true := by
                cases h : hasF F (bts y1) with
                | true => rfl
                | false => exact absurd ⟨hk24, h⟩ hno
              have hkc : (y0 == 24) = true := by rw [hk24]; rfl
              rw [if_pos hk24, if_pos hF] at hstep
              have CN := Aside0.mk (number_yes (nx := wr.heap.size) HCN1.out HN1.out HI.out.cn.below.size (by omega) hF (by have := hb2 (bts y1); omega) (by omega))
              have hb3 : (st1.add (bts y1)).ord.length + wtL y6 ≤ 1000000000000 := by have := add_len st1 (bts y1); omega
              have hb4 : ∀ x, (st1.add (bts y1)).cnt x + wtL y6 ≤ 1000000000000 := fun x => by have := add_cnt st1 (bts y1) x; have := hb2 x; omega
              have HB3 := Aside0.mk hb3
              have HB4 := Aside0.mk hb4
              have HW6 : Aside0 (wtL y6 ≤ 10000000) := ⟨by omega⟩
              have HST := Aside0.mk hstep
              have HLO := Aside0.mk hol
              clear hb3 hb4 hstep hwk hwx hdx hW1 hD1 eout est hb1 hb2 hcntO hCr hl6 hi6' ey hk13 HB1 hkl hlenO hordO hk24 hF hy1 hol en6 hno
              go_upto_region 8 with (first | (go_at_call 78; (with_reducible refine (CN.out).mono ?_); rintro e w2 ⟨rfl, hcn2, hx2, hs2⟩; have HSW2 := Aside0.mk (HSW.out.fresh_x hs2 (Nat.le_refl _)); have HCN2 := Aside0.mk hcn2; have HX2 := Aside0.mk hx2; clear hcn2 hx2 hs2))
              generalize (((st1.add (bts y1)).num (bts y1) : Nat) : Int) = N2 at HX2 HST
              generalize (((st1.add (bts y1)).cnt (bts y1) : Nat) : Int) = M2 at HX2 HST
              generalize st1.add (bts y1) = st2 at HCN2 HST HB3 HB4
            case' neg =>
              have hkc : (y0 == 24) = false := by simpa using hk24
              rw [if_neg hk24] at hstep
              have hb3 : st1.ord.length + wtL y6 ≤ 1000000000000 := by omega
              have hb4 : ∀ x, st1.cnt x + wtL y6 ≤ 1000000000000 := fun x => by have := hb2 x; omega
              have HB3 := Aside0.mk hb3
              have HB4 := Aside0.mk hb4
              have HW6 : Aside0 (wtL y6 ≤ 10000000) := ⟨by omega⟩
              have HST := Aside0.mk hstep
              have HLO := Aside0.mk hol
              have HX2 := Aside0.mk HN1.out
              have HSW2 := Aside0.mk HSW.out
              have HCN2 := Aside0.mk HCN1.out
              clear hb3 hb4 hstep hwk hwx hdx hW1 hD1 eout est hb1 hb2 hcntO hCr hl6 hi6' ey hk13 HB1 hkl hlenO hordO hk24 hy1 hol en6 hno
              go_upto_region 8 with (fail)
              obtain ⟨N2, eN2⟩ : ∃ N2, N2 = y3 := ⟨_, rfl⟩
              obtain ⟨M2, eM2⟩ : ∃ M2, M2 = y4 := ⟨_, rfl⟩
              rw [← eN2, ← eM2] at HX2 HST HSW2 HCN2 ⊢
              generalize (wr.alloc (.cells #[.int .i64 y0, .string y1, .string y2, .int .i64 N2, .int .i64 M2, .bool y5, .slice A6' n6 c6'] 24)) = w2 at HX2 HSW2 HCN2 ⊢
              obtain ⟨st2, est2⟩ : ∃ st2, st2 = st1 := ⟨_, rfl⟩
              rw [← est2] at HCN2 HST HB3 HB4
              clear eN2 eM2 est2
            all_goals
              clear x0 x1 x2 x3 x4 x5 x6 HCN1 HN1 HSW
              have q6 : w2.cell? ⟨wr.heap.size, 6, none⟩ = some (.slice A6' n6 c6') := (box7 HX2.out).2.2.2.2.2.2
              have CI : Aside0 (Calls Tryd.prog 51 #[.pointer (some ⟨cb, 0, none⟩), .slice A6' n6 c6'] w2 fun e w' => ∃ v, e = .returned v ∧ WkI w0 w2 cb nb ub rb F (wkL (hasF F) y6 st2).2 (wkL (hasF F) y6 st2).1 v w') := ⟨by
                have := IH.out y6 st2 w2 A6' c6' HDX.out HW6.out HB4.out HB3.out (by rw [← HE6.out]; exact HC6.out) (by rw [← HE6.out]; exact HL6.out) HCN2.out
                rw [← HE6.out] at this
                exact this⟩
              generalize (wkL (hasF F) y6 st2).2 = st3 at CI HST
              generalize (wkL (hasF F) y6 st2).1 = L2 at CI HST
              have HBW : Aside0 (wr.heap.size < w2.heap.size) := ⟨blk_lt HX2.out⟩
              go_wp2_with (first
                | (go_at_call 51; (with_reducible refine CI.out.mono ?_); rintro e w3 ⟨v38, rfl, hw⟩; obtain ⟨A38, c38, e38⟩ := Kd.R_slice hw.row; subst e38; have hx3 := hw.same.2 _ _ HX2.out; have d1 : w3.cell? ⟨wr.heap.size, 6, none⟩ = some (.slice A6' n6 c6') := (box7 hx3).2.2.2.2.2.2; have d2 := blk_frozen hx3 6; have hx4 := blk_put hx3 6 (.slice A38 L2.length c38) (cs' := #[.int .i64 y0, .string y1, .string y2, .int .i64 N2, .int .i64 M2, .bool y5, .slice A38 L2.length c38]) (by simp); obtain ⟨k0, k1, k2, k3, k4, k5, k6⟩ := box7 hx4; have HWK := Aside0.mk (show WkI w0 W cb nb ub rb F st3 out u5 (w3.setCell ⟨wr.heap.size, 6, none⟩ (.slice A38 L2.length c38)) from ⟨hw.cn.setN hx3 HI.out.cn.below.size 6 _, R24_same HI.out.row ((HSW2.out.trans hw.same).fresh_set (Nat.le_refl _)), HWW.out.trans ((HSW2.out.trans hw.same).fresh_set (Nat.le_refl _))⟩); have HM := Aside0.mk (k24_mkM (w3.setCell ⟨wr.heap.size, 6, none⟩ (.slice A38 L2.length c38)) w0.heap.size (fun k => w2.heap.size ≤ k) (⟨y0, y1, y2, N2, M2, y5, L2⟩ : S24) (Kd.R_far (p := ⟨wr.heap.size, 6, none⟩) hw.row (fun k hk e => by have := HBW.out; have e : k = wr.heap.size := e; omega) _)); have HOK : Aside0 (∀ k, w2.heap.size ≤ k → W.heap.size ≤ k ∧ some k ≠ (u5 : Value).ownBlock) := ⟨fun k hk => ⟨by have := HWW.out.1; have := HBW.out; omega, fun e => by have := (own24 HI.out.row k e.symm).2.1; have := HBW.out; omega⟩⟩; have HFR : Aside0 (∀ k, (w3.setCell ⟨wr.heap.size, 6, none⟩ (.slice A38 L2.length c38)).heap.size ≤ k → W.heap.size ≤ k) := ⟨fun k hk => Nat.le_trans HWK.out.same.1 hk⟩; clear hw hx3 hx4)
                | ((with_reducible refine gate_builtin (b := .append) (xs := #[.tmp 40, .tmp 42]) rfl ?_); at_builtin; refine Kd.R_append k24 (w0 := w0) w0.heap.size rfl (.tmp 40) (.tmp 42) 22 24 (.agg #[(.int .i64 0), (.string ⟨#[]⟩), (.string ⟨#[]⟩), (.int .i64 0), (.int .i64 0), (.bool false), (.slice none 0 0)]) 88 rfl Tryd.underlying22 info24 rfl (by decide) (by omega) u5 out (⟨y0, y1, y2, N2, M2, y5, L2⟩ : S24) [.int .i64 y0, .string y1, .string y2, .int .i64 N2, .int .i64 M2, .bool y5, .slice A38 L2.length c38] (fun k => W.heap.size ≤ k) (fun k => w2.heap.size ≤ k) (by rfl) (by rw [World.size_setCell]; rfl) ?aP ?aK ?aF ?aO ?aB ?aS ?aL ?_; (case aP => exact HM.out); (case aK => exact HOK.out); (case aF => exact HFR.out); (case aO => exact HWK.out.row); (case aB => exact HWK.out.cn.below); (case aS => exact HWK.out.cn.below.size); (case aL => have := HLO.out; omega); intro v9 w9 ho hb hg hat; have HW9 := Aside0.mk (HWK.out.close HW0.out hg ho); clear ho hb hg hat))
              go_roundw
              case rel => exact ⟨k + 1, by omega, by go_num, ⟨by rw [HST.out]; exact HW9.out⟩⟩
              case measure => simp [intOf]; omega
      · have hkn : k = n := by omega
        subst hkn
        have hkI : ¬ (k : Int) < (k : Int) := by omega
        have HI9 := Aside0.mk HI.out
        rw [List.take_of_length_le (by rw [HEN.out]; exact Nat.le_refl _)] at HI9
        go_wp2_with fail
        go_ret
        exact ⟨_, rfl, HI9.out⟩
end
end Go.Proofs.YtbgbmphjjdiaeaaDoor.P
