/- The document's arena: Add. -/
import Derived.Test.YtikfbipjlkhgeaaRfC
namespace Go.Proofs.Ytikfbipjlkhgeaa.P
open Go.RowKit Go.Proofs.YtikfbipjlkhgeaaW.PrintWords Go.Proofs.YtikfbipjlkhgeaaW.PrintLast Go.Proofs.YtikfbipjlkhgeaaW.PrintMore
set_option linter.unusedVariables false
set_option linter.unusedSimpArgs false
section
attribute [local go_sem] World.cell?_alloc_some World.cell?_setCell_far
def addF (L : List S24) (p : Int) : Int := if hasF L p = true then L.length else -1
set_option maxRecDepth 100000 in
set_option maxHeartbeats 8000000 in
theorem radd_calls {w : World} {B g : Nat} {L : List S24} {K : Lk} (h : Rf w B g L K) (p : Int) (x0 : Int) (x1 x2 : ByteArray) (x3 x4 : Int) (x5 : Bool) (A : Option Addr) (n c : Nat) (hL : L.length ≤ 1000000000) (hK : K.length ≤ 1000000000) :
    Calls Try.prog 39 #[.pointer (some ⟨g, 0, none⟩), .int .i64 p, .agg #[.int .i64 x0, .string x1, .string x2, .int .i64 x3, .int .i64 x4, .bool x5, .slice A n c]] w
      fun e w' => e = .returned (.int .i64 (addF L p)) ∧ Below B w w' ∧ FrameR w w' ∧ Rf w' B g (if hasF L p = true then L ++ [⟨x0, x1, x2, x3, x4, x5, []⟩] else L) (if hasF L p = true then K ++ [(p, (L.length : Int))] else K) := by
  have hu24 := Try.underlying24
  have hu61 := Try.underlying61
  have hu38 := Try.underlying38
  have hB := h.size
  have HA := Aside0.mk (h.step (below_alloc (Below.refl w.heap.size w) (.cells #[.int .i64 x0, .string x1, .string x2, .int .i64 x3, .int .i64 x4, .bool x5, .slice A n c] 24)))
  have HB := Aside0.mk (show Below B w (w.alloc (.cells #[.int .i64 x0, .string x1, .string x2, .int .i64 x3, .int .i64 x4, .bool x5, .slice A n c] 24)) from (Below.refl B w).alloc hB _)
  have HF := Aside0.mk (FrameR.below (below_alloc (Below.refl w.heap.size w) (.cells #[.int .i64 x0, .string x1, .string x2, .int .i64 x3, .int .i64 x4, .bool x5, .slice A n c] 24)))
  have HX := Aside0.mk (blk_new w (.cells #[.int .i64 x0, .string x1, .string x2, .int .i64 x3, .int .i64 x4, .bool x5, .slice A n c] 24))
  have CC := Aside0.mk (rhas_calls HA.out p)
  unfold addF
  cases hb : hasF L p with
  | false =>
    rw [hb] at CC
    clear h
    go_enter Try.func39, Try.ntmps39
    go_wp2_with (go_at_call 42; refine CC.out.mono ?_; rintro e w1 ⟨rfl, rfl⟩)
    go_ret
    exact ⟨rfl, HB.out, HF.out, HA.out⟩
  | true =>
    rw [hb] at CC
    obtain ⟨vL, vK, h1⟩ := HA.out
    obtain ⟨Al, cl, rfl⟩ := h1.sliceL
    have g0 : (w.alloc (.cells #[.int .i64 x0, .string x1, .string x2, .int .i64 x3, .int .i64 x4, .bool x5, .slice A n c] 24)).cell? ⟨g, 0, none⟩ = some (.slice Al L.length cl) := blk_cell h1.blk 0
    have H1 := Aside0.mk h1
    have HLL := Aside0.mk hL
    have HKK := Aside0.mk hK
    clear h1 hb h hL hK
    go_enter Try.func39, Try.ntmps39
    go_upto_region 3 with (go_at_call 42; refine CC.out.mono ?_; rintro e w1 ⟨rfl, hw⟩; obtain rfl := hw.symm)
    clear CC
    generalize w.alloc (.cells #[.int .i64 x0, .string x1, .string x2, .int .i64 x3, .int .i64 x4, .bool x5, .slice A n c] 24) = w1 at HA HB HF HX H1 g0 ⊢
    generalize w.heap.size = gb at HX ⊢
    go_cut [6] (fun v6 wc => v6 = .int .i64 0 ∧ Aside0 (Below B w wc ∧ FrameR w wc ∧ Rf wc B g (L ++ [⟨x0, x1, x2, x3, x4, x5, []⟩]) K))
    case first =>
      have k0 : w1.cell? ⟨gb, 0, none⟩ = some (.int .i64 x0) := blk_cell HX.out 0
      have k1 : w1.cell? ⟨gb, 1, none⟩ = some (.string x1) := blk_cell HX.out 1
      have k2 : w1.cell? ⟨gb, 2, none⟩ = some (.string x2) := blk_cell HX.out 2
      have k3 : w1.cell? ⟨gb, 3, none⟩ = some (.int .i64 x3) := blk_cell HX.out 3
      have k4 : w1.cell? ⟨gb, 4, none⟩ = some (.int .i64 x4) := blk_cell HX.out 4
      have k5 : w1.cell? ⟨gb, 5, none⟩ = some (.bool x5) := blk_cell HX.out 5
      have k6 : w1.cell? ⟨gb, 6, none⟩ = some (.slice A n c) := blk_cell HX.out 6
      have HD := Aside0.mk (show Below w1.heap.size w1 w1.drew from below_drew (Below.refl _ _))
      have HLit := Aside0.mk (blk_new w1.drew (.cells zc 24))
      have HB1 := Aside0.mk (show B ≤ w1.heap.size from HA.out.size)
      have hnN : (L.length : Int) < (L.length : Int) + 1 := by omega
      go_region_law (first
        | ((with_reducible refine gateD (d := 16) rfl ?_); go_simp; go_at_call 67; refine (rbare_nil _ _ _ _ _ _ _ _ _ _).mono ?_; rintro e w2 ⟨rfl, hb⟩; have hb0 : Below w1.heap.size w1 w2 := (by first | exact below_then HD.out HD.out.size hb | exact below_then (below_alloc HD.out _) (below_alloc HD.out _).size hb); have H2 := Aside0.mk (H1.out.step hb0); have HB2 := Aside0.mk hb0; (first | (have HL2 := Aside0.mk (blk_below HLit.out hb)) | skip); have g02 : w2.cell? ⟨g, 0, none⟩ = some (.slice Al L.length cl) := blk_cell H2.out.blk 0; have g0a : (w2.alloc (.cells zc 24)).cell? ⟨g, 0, none⟩ = some (.slice Al L.length cl) := blk_cell (blk_alloc H2.out.blk _) 0; clear hb hb0)
        | ((with_reducible refine gateD (d := 19) rfl ?_); refine Kd.R_append_step (Kd.raw 7) (w0 := w2) B (by rfl) _ _ 22 24 _ 88 (by rfl) Try.underlying22 info24_ rfl (by decide) (by decide) (.slice Al L.length cl) (L.map nrow) (nrow zn) (nrow zn) (fun _ => True) (fun _ => False) (by rfl) (by rfl) (raw7 _ _ _) (fun _ h => h.elim) (fun _ _ => trivial) H2.out.rowL (Below.refl _ _) (Nat.le_trans HB1.out HB2.out.size) (by have := HLL.out; rw [List.length_map]; omega) ?_; intro v1 w3 ho hb3 hg hat; obtain ⟨r1, c1, e1, hr1, hrl, cs1, hty1⟩ := Kd.R_form ho (by simp); rw [List.length_append, List.length_map] at e1; simp only [List.length_cons, List.length_nil, Nat.zero_add] at e1; subst e1; obtain ⟨f1, f2, f3⟩ := add_mid7 H2.out ho hty1 hg; have HO := Aside0.mk ho; have HG := Aside0.mk hg; have HB3 := Aside0.mk hb3; have HT1 := Aside0.mk hty1; have HR1 := Aside0.mk hr1; obtain ⟨j0, j1, j2, j3, j4, j5, j6⟩ := f1; obtain ⟨z0, z1, z2, z3, z4, z5, z6⟩ := frozen7 hty1 (L.length * 7); obtain ⟨g03, hfz3, hne, hne'⟩ := f2; clear ho hb3 hg hat hty1 hr1 hrl f3)
        | ((with_reducible refine gateD (d := 19) rfl ?_); refine Kd.R_append_rows_step (Kd.raw 7) (w0 := w2) B (by rfl) _ _ 22 24 _ 88 (by rfl) Try.underlying22 info24_ rfl (by decide) (by decide) (.slice Al L.length cl) (L.map nrow) [nrow zn] (some ⟨w1.heap.size, 0, none⟩) 1 1 (fun _ => True) (fun _ => False) (by rfl) (by rfl) H2.out.rowL (lit_reads HL2.out) (fun x cs h => h) (fun _ h => h.elim) (fun _ _ => trivial) (Below.refl _ _) (Nat.le_trans HB1.out HB2.out.size) (by have := HLL.out; rw [List.length_map]; omega) ?_; intro v1 w3 ho hb3 hg hat; obtain ⟨r1, c1, e1, hr1, hrl, cs1, hty1⟩ := Kd.R_form ho (by simp); rw [List.length_append, List.length_map] at e1; simp only [List.length_cons, List.length_nil, Nat.zero_add] at e1; subst e1; obtain ⟨f1, f2, f3⟩ := add_mid7 H2.out ho hty1 hg; have HO := Aside0.mk ho; have HG := Aside0.mk hg; have HB3 := Aside0.mk hb3; have HT1 := Aside0.mk hty1; have HR1 := Aside0.mk hr1; obtain ⟨j0, j1, j2, j3, j4, j5, j6⟩ := f1; obtain ⟨z0, z1, z2, z3, z4, z5, z6⟩ := frozen7 hty1 (L.length * 7); obtain ⟨g03, hfz3, hne, hne'⟩ := f2; clear ho hb3 hg hat hty1 hr1 hrl f3))
      all_goals
        go_wp2_with fail
        go_meet
        case rel =>
          have hfin := add_fin HB.out HF.out HB2.out HB1.out H2.out HO.out HT1.out HR1.out HB3.out HG.out (⟨x0, x1, x2, x3, x4, x5, []⟩ : S24)
          simp only [nrow] at hfin
          refine ⟨rfl, ⟨?_⟩⟩
          rw [set7_eq]
          with_reducible first | exact hfin.1 | exact hfin.2
    case rest =>
      obtain ⟨rfl, HI⟩ := hcut
      obtain ⟨wd, rfl⟩ : ∃ wd, wd = wc := ⟨wc, rfl⟩
      clear HA HB HF HX H1 g0
      obtain ⟨hb4, hf4, vL, vK, h4⟩ := HI.out
      obtain ⟨A4, c4, rfl⟩ := h4.sliceL
      obtain ⟨Ak, ck, rfl⟩ := h4.sliceK
      obtain ⟨m, em⟩ : ∃ m, m = (L ++ [(⟨x0, x1, x2, x3, x4, x5, []⟩ : S24)]).length := ⟨_, rfl⟩
      have hm : m = L.length + 1 := by rw [em]; simp
      have l0 : wd.cell? ⟨g, 0, none⟩ = some (.slice A4 m c4) := by rw [em]; exact blk_cell h4.blk 0
      have l1 : wd.cell? ⟨g, 1, none⟩ = some (.slice Ak K.length ck) := blk_cell h4.blk 1
      have hmw : IntKind.i64.wrap ((m : Int) - 1) = (L.length : Int) := by rw [IntKind.wrap_i64]; have := HLL.out; omega
      have hd4 : Below wd.heap.size wd wd.drew := below_drew (Below.refl _ _)
      have H4 := Aside0.mk (h4.step hd4)
      have HB4 := Aside0.mk hb4
      have HF4 := Aside0.mk hf4
      have HS4 := Aside0.mk (Rf.size ⟨_, _, h4⟩)
      have ga0 : (wd.alloc (.cells #[.int .i64 p, .int .i64 (L.length : Int)] 38)).cell? ⟨g, 0, none⟩ = some (.slice A4 m c4) := by rw [em]; exact blk_cell (blk_alloc h4.blk _) 0
      have ga1 : (wd.alloc (.cells #[.int .i64 p, .int .i64 (L.length : Int)] 38)).cell? ⟨g, 1, none⟩ = some (.slice Ak K.length ck) := blk_cell (blk_alloc h4.blk _) 1
      have hne := Kd.R_ne H4.out.rowK H4.out.blk (by decide)
      have HEM := Aside0.mk em
      have HMM := Aside0.mk hm
      clear h4 hb4 hf4 hd4 em HI hm
      go_upto_region 4 with fail
      go_cut [6] (fun v6 wc' => v6 = .int .i64 0 ∧ Aside0 (Below B w wc' ∧ FrameR w wc' ∧ Rf wc' B g (L ++ [⟨x0, x1, x2, x3, x4, x5, []⟩]) (K ++ [(p, (L.length : Int))])))
      case first =>
        go_region_law (first
          | (refine Kd.R_append_step (Kd.raw 2) (w0 := wd) B (by rfl) _ _ 35 38 _ 16 (by rfl) Try.underlying35 info38 rfl (by decide) (by decide) (.slice Ak K.length ck) (K.map prow) (prow (p, (L.length : Int))) [.int .i64 p, .int .i64 (L.length : Int)] (fun _ => True) (fun _ => False) (by rfl) (by rfl) (raw2 _ _ _ _) (fun _ h => h.elim) (fun _ _ => trivial) H4.out.rowK (below_drew1 (Below.refl _ _)) HS4.out (by have := HKK.out; rw [List.length_map]; omega) ?_; intro v1 w5 ho hb hg hat; obtain ⟨A5, c5, e5⟩ := Kd.R_slice ho; rw [show (K.map prow ++ [prow (p, (L.length : Int))]).length = K.length + 1 by simp] at e5; subst e5; have g05 : w5.cell? ⟨g, 1, none⟩ = some (.slice Ak K.length ck) := blk_cell (blk_grown H4.out.blk hg hne) 1; have hfz5 : w5.frozen? ⟨g, 1, none⟩ = false := blk_frozen (blk_grown H4.out.blk hg hne) 1; have HO := Aside0.mk ho; have HBB := Aside0.mk hb; have HG := Aside0.mk hg; clear ho hb hg hat))
        all_goals
          go_wp2_with fail
          go_meet
          case rel => exact ⟨rfl, ⟨link_fin HB4.out HF4.out H4.out HO.out HBB.out HG.out⟩⟩
      case rest =>
        obtain ⟨rfl, HI⟩ := hcut
        obtain ⟨hb6, hf6, vL, vK, h6⟩ := HI.out
        obtain ⟨A6, c6, rfl⟩ := h6.sliceL
        have g06 : wc.cell? ⟨g, 0, none⟩ = some (.slice A6 m c6) := by rw [HEM.out]; exact blk_cell h6.blk 0
        have HFIN := Aside0.mk HI.out
        clear hb6 hf6 h6 HI
        go_wp2_with fail
        go_ret
        exact ⟨rfl, HFIN.out⟩
end
end Go.Proofs.Ytikfbipjlkhgeaa.P
