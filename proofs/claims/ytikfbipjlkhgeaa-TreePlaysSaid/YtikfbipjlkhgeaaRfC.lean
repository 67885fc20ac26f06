/- The document's arena: Set, Add. -/
import Derived.Test.YtikfbipjlkhgeaaRfB
import Derived.Deep.RegionHeld3
import Derived.Deep.RegionLaw
namespace Go.Proofs.Ytikfbipjlkhgeaa.P
open Go.RowKit Go.Proofs.YtikfbipjlkhgeaaW.PrintWords Go.Proofs.YtikfbipjlkhgeaaW.PrintLast Go.Proofs.YtikfbipjlkhgeaaW.PrintMore
set_option linter.unusedVariables false
set_option linter.unusedSimpArgs false
theorem gateD {P : Program} {ops : Array Oper} {o : Oper} {a : Act} {w : World} {K : Act → World → Prop} {Q : Exit → Act → World → Prop} {E : Prop} {d : Nat} (h : o.dst = some d) (hp : if Region.wanted o (yielded ops a.tmps) = true then Oper.wp P o a w K Q else E) : if Region.wanted o (yielded ops a.tmps) = true then Oper.wp P o a w K Q else E := hp
theorem nrow_one (x : S24) : ∀ u ∈ nrow x, u.oneCell' = true := fun u hu => by
  simp only [nrow, List.mem_cons, List.not_mem_nil, or_false] at hu
  rcases hu with rfl | rfl | rfl | rfl | rfl | rfl | rfl <;> rfl
theorem raw7 (w : World) (B : Nat) (x : S24) : (Kd.raw 7).M w B (fun _ => False) (nrow x) (nrow x) := ⟨rfl, rfl, nrow_one x⟩
theorem R_put7 {w : World} {B r n cap : Nat} {ok : Nat → Prop} {L : List S24} (h : (Kd.raw 7).R 24 w B ok (.slice (some ⟨r, 0, none⟩) n cap) (L.map nrow)) (i : Nat) (hi : i < L.length) (x : S24) :
    (Kd.raw 7).R 24 (w.setCells r (i * 7) (nrow x)) B ok (.slice (some ⟨r, 0, none⟩) n cap) ((L.set i x).map nrow) ∧ w.grownBy (w.setCells r (i * 7) (nrow x)) (some r) := by
  have hn := (Kd.R_reads' h).1
  rw [List.length_map] at hn
  obtain ⟨c, hcl, hM, hcell, _⟩ := Kd.R_elem h ([] : List Value) (i : Int) (by omega) (by omega)
  simp only [Int.toNat_natCast] at hM hcell
  have hcl7 : c.length = 7 := hcl
  have hseg := Kd.R_seg h (i : Int) (by omega) (by omega) (c := c) (seg := nrow x) (j := 0) (okp := fun _ => False) hcl (by simpa using hcell) (by show 0 + 7 ≤ 7; omega) (x' := nrow x)
    (by
      rw [List.take_zero, List.nil_append, show (nrow x).length = 7 from rfl, List.drop_of_length_le (by omega), List.append_nil]
      exact raw7 w B x) (fun k hk => hk.elim)
  simp only [Int.toNat_natCast] at hseg
  rw [List.map_set]
  exact hseg
theorem RfIn.put {w : World} {B g r n cap : Nat} {vK : Value} {L : List S24} {K : Lk} (h : RfIn w B g (.slice (some ⟨r, 0, none⟩) n cap) vK L K) (i : Nat) (hi : i < L.length) (x : S24) :
    RfIn (w.setCells r (i * 7) (nrow x)) B g (.slice (some ⟨r, 0, none⟩) n cap) vK (L.set i x) K ∧ FrameR w (w.setCells r (i * 7) (nrow x)) ∧ w.grownBy (w.setCells r (i * 7) (nrow x)) (some r) := by
  obtain ⟨h1, h2⟩ := R_put7 h.rowL i hi x
  obtain ⟨cells, hty⟩ := Kd.R_typed h.rowL r rfl
  have hne : some g ≠ some r := Kd.R_ne h.rowL h.blk (by decide)
  refine ⟨⟨h.lo, blk_grown h.blk h2 hne, h1, Kd.R_over h.rowK h.rowL (by decide) h2⟩, FrameR.grown h2 fun k hk => ?_, h2⟩
  injection hk with hk
  subst hk
  exact ⟨24, cells, hty, .inr (.inl rfl)⟩
theorem set7_eq (w : World) (r o : Nat) (u0 u1 u2 u3 u4 u5 u6 : Value) : ((((((w.setCell ⟨r, o, none⟩ u0).setCell ⟨r, o + 1, none⟩ u1).setCell ⟨r, o + 2, none⟩ u2).setCell ⟨r, o + 3, none⟩ u3).setCell ⟨r, o + 4, none⟩ u4).setCell ⟨r, o + 5, none⟩ u5).setCell ⟨r, o + 6, none⟩ u6 = w.setCells r o [u0, u1, u2, u3, u4, u5, u6] := rfl
theorem set_fin {w w1 w2 : World} {B g r n cap : Nat} {vK : Value} {L : List S24} {K : Lk} (HB : Below B w w1) (HF : FrameR w w1) (hr : B ≤ r) (h : RfIn w2 B g (.slice (some ⟨r, 0, none⟩) n cap) vK L K) (hb : Below w1.drew.heap.size w1.drew w2) (hB1 : B ≤ w1.heap.size) (i : Nat) (hi : i < L.length) (x : S24) :
    Below B w (w2.setCells r (i * 7) (nrow x)) ∧ FrameR w (w2.setCells r (i * 7) (nrow x)) ∧ Rf (w2.setCells r (i * 7) (nrow x)) B g (L.set i x) K := by
  obtain ⟨h1, h2, h3⟩ := h.put i hi x
  have hb2 : Below B w w2 := HB.drew.trans (hb.mono hB1)
  exact ⟨hb2.grown h3 (Nat.le_trans hB1 hb.size) (fun k hk => by injection hk with hk; rw [← hk]; exact hr), (HF.drew.trans (FrameR.below hb)).trans h2, ⟨_, _, h1⟩⟩
theorem cells7 {w : World} {B g r n cap : Nat} {vK : Value} {L : List S24} {K : Lk} (h : RfIn w B g (.slice (some ⟨r, 0, none⟩) n cap) vK L K) (i : Nat) (hi : i < L.length) :
    w.cell? ⟨r, i * 7, none⟩ = some (.int .i64 (rd_T24 L (i : Int)).f0) ∧ w.cell? ⟨r, i * 7 + 1, none⟩ = some (.string (rd_T24 L (i : Int)).f1) ∧ w.cell? ⟨r, i * 7 + 2, none⟩ = some (.string (rd_T24 L (i : Int)).f2) ∧ w.cell? ⟨r, i * 7 + 3, none⟩ = some (.int .i64 (rd_T24 L (i : Int)).f3) ∧ w.cell? ⟨r, i * 7 + 4, none⟩ = some (.int .i64 (rd_T24 L (i : Int)).f4) ∧ w.cell? ⟨r, i * 7 + 5, none⟩ = some (.bool (rd_T24 L (i : Int)).f5) ∧ w.cell? ⟨r, i * 7 + 6, none⟩ = some (.slice none 0 0) := by
  have hn := (Kd.R_reads' h.rowL).1
  rw [List.length_map] at hn
  obtain ⟨c, hcl, hM, hcell, _⟩ := Kd.R_elem h.rowL ([] : List Value) (i : Int) (by omega) (by omega)
  simp only [Int.toNat_natCast] at hM hcell
  have hK : c = nrow (rd_T24 L (i : Int)) := by
    rw [hM.1, map_getD nrow L i z24 [] hi]
    rfl
  subst hK
  have hc : ∀ j u, (nrow (rd_T24 L (i : Int)))[j]? = some u → w.cell? ⟨r, i * 7 + j, none⟩ = some u := hcell
  exact ⟨hc 0 _ rfl, hc 1 _ rfl, hc 2 _ rfl, hc 3 _ rfl, hc 4 _ rfl, hc 5 _ rfl, hc 6 _ rfl⟩
theorem frozen7 {w : World} {r : Nat} {cells : Array Value} {t : TypeId} (h : w.heap[r]? = some (.cells cells t (0, 0))) (o : Nat) :
    w.frozen? ⟨r, o, none⟩ = false ∧ w.frozen? ⟨r, o + 1, none⟩ = false ∧ w.frozen? ⟨r, o + 2, none⟩ = false ∧ w.frozen? ⟨r, o + 3, none⟩ = false ∧ w.frozen? ⟨r, o + 4, none⟩ = false ∧ w.frozen? ⟨r, o + 5, none⟩ = false ∧ w.frozen? ⟨r, o + 6, none⟩ = false :=
  ⟨blk_frozen h _, blk_frozen h _, blk_frozen h _, blk_frozen h _, blk_frozen h _, blk_frozen h _, blk_frozen h _⟩
section
attribute [local go_sem] World.cell?_alloc_some
set_option maxRecDepth 100000 in
set_option maxHeartbeats 8000000 in
theorem rset_calls {w : World} {B g : Nat} {L : List S24} {K : Lk} (h : Rf w B g L K) (id : Int) (x0 : Int) (x1 x2 : ByteArray) (x3 x4 : Int) (x5 : Bool) (A : Option Addr) (n c : Nat) :
    Calls Try.prog 41 #[.pointer (some ⟨g, 0, none⟩), .int .i64 id, .agg #[.int .i64 x0, .string x1, .string x2, .int .i64 x3, .int .i64 x4, .bool x5, .slice A n c]] w
      fun e w' => e = .returned (.bool (hasF L id)) ∧ Below B w w' ∧ FrameR w w' ∧ Rf w' B g (if hasF L id = true then L.set id.toNat ⟨x0, x1, x2, x3, x4, x5, []⟩ else L) K := by
  have hu24 := Try.underlying24
  have hu61 := Try.underlying61
  have hB := h.size
  have HA := Aside0.mk (h.step (below_alloc (Below.refl w.heap.size w) (.cells #[.int .i64 x0, .string x1, .string x2, .int .i64 x3, .int .i64 x4, .bool x5, .slice A n c] 24)))
  have HB := Aside0.mk (show Below B w (w.alloc (.cells #[.int .i64 x0, .string x1, .string x2, .int .i64 x3, .int .i64 x4, .bool x5, .slice A n c] 24)) from (Below.refl B w).alloc hB _)
  have HF := Aside0.mk (FrameR.below (below_alloc (Below.refl w.heap.size w) (.cells #[.int .i64 x0, .string x1, .string x2, .int .i64 x3, .int .i64 x4, .bool x5, .slice A n c] 24)))
  have HX := Aside0.mk (blk_new w (.cells #[.int .i64 x0, .string x1, .string x2, .int .i64 x3, .int .i64 x4, .bool x5, .slice A n c] 24))
  have CC := Aside0.mk (rhas_calls HA.out id)
  cases hb : hasF L id with
  | false =>
    rw [hb] at CC
    clear h
    go_enter Try.func41, Try.ntmps41
    go_wp2_with (go_at_call 42; refine CC.out.mono ?_; rintro e w1 ⟨rfl, rfl⟩)
    go_ret
    exact ⟨rfl, HB.out, HF.out, HA.out⟩
  | true =>
    rw [hb] at CC
    have hb2 : 0 ≤ id ∧ id < (L.length : Int) := by
      unfold hasF at hb
      rw [Bool.and_eq_true] at hb
      exact ⟨of_decide_eq_true hb.1, of_decide_eq_true hb.2⟩
    obtain ⟨i, rfl⟩ : ∃ q : Nat, id = q := ⟨id.toNat, by omega⟩
    have hi : i < L.length := by omega
    obtain ⟨vL, vK, h1⟩ := HA.out
    obtain ⟨r, cap, e, hr, _, cells, hty⟩ := Kd.R_form h1.rowL (by rw [List.length_map]; omega)
    rw [List.length_map] at e
    subst e
    have g0 : (w.alloc (.cells #[.int .i64 x0, .string x1, .string x2, .int .i64 x3, .int .i64 x4, .bool x5, .slice A n c] 24)).cell? ⟨g, 0, none⟩ = some (.slice (some ⟨r, 0, none⟩) L.length cap) := blk_cell h1.blk 0
    have H1 := Aside0.mk h1
    have HT := Aside0.mk hty
    have i0 : (i : Int) < (L.length : Int) := by omega
    clear h1 hty hb hb2 h
    go_enter Try.func41, Try.ntmps41
    go_wp2_with (go_at_call 42; refine CC.out.mono ?_; rintro e w1 ⟨rfl, hw⟩; obtain rfl := hw.symm)
    clear CC
    generalize w.alloc (.cells #[.int .i64 x0, .string x1, .string x2, .int .i64 x3, .int .i64 x4, .bool x5, .slice A n c] 24) = w1 at HA HB HF HX H1 HT g0 ⊢
    generalize w.heap.size = gb at HX ⊢
    have k0 : w1.cell? ⟨gb, 0, none⟩ = some (.int .i64 x0) := blk_cell HX.out 0
    have k1 : w1.cell? ⟨gb, 1, none⟩ = some (.string x1) := blk_cell HX.out 1
    have k2 : w1.cell? ⟨gb, 2, none⟩ = some (.string x2) := blk_cell HX.out 2
    have k3 : w1.cell? ⟨gb, 3, none⟩ = some (.int .i64 x3) := blk_cell HX.out 3
    have k4 : w1.cell? ⟨gb, 4, none⟩ = some (.int .i64 x4) := blk_cell HX.out 4
    have k5 : w1.cell? ⟨gb, 5, none⟩ = some (.bool x5) := blk_cell HX.out 5
    have k6 : w1.cell? ⟨gb, 6, none⟩ = some (.slice A n c) := blk_cell HX.out 6
    go_region_law (first
      | (go_simp; go_at_call 67; refine (rbare_nil _ _ _ _ _ _ _ _ _ _).mono ?_; rintro e w2 ⟨rfl, hb⟩; have H2 := Aside0.mk (RfIn.step (H1.out.step (below_drew (Below.refl _ _))) hb); have HT2 := Aside0.mk (blk_below (blk_below HT.out (below_drew (Below.refl _ _))) hb); have HB2 := Aside0.mk hb; have g02 : w2.cell? ⟨g, 0, none⟩ = some (.slice (some ⟨r, 0, none⟩) L.length cap) := blk_cell H2.out.blk 0; obtain ⟨j0, j1, j2, j3, j4, j5, j6⟩ := cells7 H2.out i hi; obtain ⟨z0, z1, z2, z3, z4, z5, z6⟩ := frozen7 HT2.out (i * 7); clear hb))
    all_goals
      go_wp2_with fail
      go_ret
      rw [set7_eq]
      exact ⟨rfl, set_fin HB.out HF.out hr H2.out HB2.out HA.out.size i hi ⟨x0, x1, x2, x3, x4, x5, []⟩⟩
attribute [local go_sem] World.cell?_setCell_far
theorem info24_ : (Try.prog.info? 24).map (fun i => (i.zero, i.size, i.bytes)) = some (some (.agg #[.int .i64 0, .string ⟨#[]⟩, .string ⟨#[]⟩, .int .i64 0, .int .i64 0, .bool false, .slice none 0 0]), 7, 88) := by kernel_rfl
def zn : S24 := ⟨0, ⟨#[]⟩, ⟨#[]⟩, 0, 0, false, []⟩
abbrev zc : Array Value := #[.int .i64 0, .string ⟨#[]⟩, .string ⟨#[]⟩, .int .i64 0, .int .i64 0, .bool false, .slice none 0 0]
theorem lit_reads {w : World} {B b : Nat} (h : w.heap[b]? = some (.cells zc 24 (0, 0))) : ReadsRow ((Kd.raw 7).M w B (fun _ => False)) (Kd.raw 7).sz w (some ⟨b, 0, none⟩) 1 [nrow zn] := by
  refine ⟨rfl, by decide, fun _ => ⟨_, rfl, fun j x hx => ?_⟩⟩
  have hj : j = 0 := by
    have := (List.getElem?_eq_some_iff.1 hx).1
    simp at this
    exact this
  subst hj
  obtain rfl := Option.some.inj hx
  refine ⟨nrow zn, rfl, raw7 _ _ _, fun j u hu => ?_⟩
  have hc : (zc : Array Value)[j]? = some u := by
    have : (nrow zn).toArray = zc := rfl
    rw [← this]
    simpa using hu
  have h9 := blk_cell h j
  rw [hc] at h9
  rw [show (⟨b, 0, none⟩ : Addr).add (0 * (Kd.raw 7).sz + j) = ⟨b, j, none⟩ by
    simp only [Addr.add, Nat.zero_mul, Nat.zero_add]
    split
    · rename_i e; rw [e]
    · rfl]
  exact h9
theorem add_mid7 {w2 w3 : World} {B g r1 c1 : Nat} {Al : Option Addr} {cl : Nat} {vK : Value} {L : List S24} {K : Lk} {cs1 : Array Value} (h : RfIn w2 B g (.slice Al L.length cl) vK L K)
    (ho : (Kd.raw 7).R 24 w3 B (fun _ => True) (.slice (some ⟨r1, 0, none⟩) (L.length + 1) c1) (L.map nrow ++ [nrow zn])) (hty : w3.heap[r1]? = some (.cells cs1 24 (0, 0))) (hg : w2.grownBy w3 (Value.slice Al L.length cl).ownBlock) :
    (w3.cell? ⟨r1, L.length * 7, none⟩ = some (.int .i64 0) ∧ w3.cell? ⟨r1, L.length * 7 + 1, none⟩ = some (.string ⟨#[]⟩) ∧ w3.cell? ⟨r1, L.length * 7 + 2, none⟩ = some (.string ⟨#[]⟩) ∧ w3.cell? ⟨r1, L.length * 7 + 3, none⟩ = some (.int .i64 0) ∧ w3.cell? ⟨r1, L.length * 7 + 4, none⟩ = some (.int .i64 0) ∧ w3.cell? ⟨r1, L.length * 7 + 5, none⟩ = some (.bool false) ∧ w3.cell? ⟨r1, L.length * 7 + 6, none⟩ = some (.slice none 0 0)) ∧
    (w3.cell? ⟨g, 0, none⟩ = some (.slice Al L.length cl) ∧ w3.frozen? ⟨g, 0, none⟩ = false ∧ g ≠ r1 ∧ r1 ≠ g) ∧ True := by
  have hb := blk_grown h.blk hg (Kd.R_ne h.rowL h.blk (by decide))
  have hne : g ≠ r1 := fun e => by
    rw [e, hty] at hb
    injection hb with hb
    injection hb with _ hb
    exact absurd hb (by decide)
  refine ⟨?_, ⟨blk_cell hb 0, blk_frozen hb 0, hne, hne.symm⟩, trivial⟩
  obtain ⟨c, hcl, hM, hcell, _⟩ := Kd.R_elem ho ([] : List Value) (L.length : Int) (by omega) (by omega)
  simp only [Int.toNat_natCast] at hM hcell
  have hK : c = nrow zn := by
    rw [hM.1]
    show (L.map nrow ++ [nrow zn]).getD L.length [] = _
    rw [List.getD_eq_getElem?_getD, List.getElem?_append_right (by simp)]
    simp
  subst hK
  have hc : ∀ j u, (nrow zn)[j]? = some u → w3.cell? ⟨r1, L.length * 7 + j, none⟩ = some u := hcell
  exact ⟨hc 0 _ rfl, hc 1 _ rfl, hc 2 _ rfl, hc 3 _ rfl, hc 4 _ rfl, hc 5 _ rfl, hc 6 _ rfl⟩
theorem nrow_snoc (L : List S24) (x : S24) : L.map nrow ++ [nrow x] = (L ++ [x]).map nrow := by simp
theorem add_fin {w w1 w2 w3 : World} {B g r1 c1 : Nat} {Al : Option Addr} {cl : Nat} {vK : Value} {L : List S24} {K : Lk} {cs1 : Array Value} (HB : Below B w w1) (HF : FrameR w w1) (HB2 : Below w1.heap.size w1 w2) (HB1 : B ≤ w1.heap.size) (h : RfIn w2 B g (.slice Al L.length cl) vK L K)
    (ho : (Kd.raw 7).R 24 w3 B (fun _ => True) (.slice (some ⟨r1, 0, none⟩) (L.length + 1) c1) (L.map nrow ++ [nrow zn])) (hty : w3.heap[r1]? = some (.cells cs1 24 (0, 0))) (hr : B ≤ r1) (hb3 : Below B w2 w3) (hg : w2.grownBy w3 (Value.slice Al L.length cl).ownBlock) (x : S24) :
    (Below B w ((w3.setCells r1 (L.length * 7) (nrow x)).setCell ⟨g, 0, none⟩ (.slice (some ⟨r1, 0, none⟩) (L.length + 1) c1)) ∧ FrameR w ((w3.setCells r1 (L.length * 7) (nrow x)).setCell ⟨g, 0, none⟩ (.slice (some ⟨r1, 0, none⟩) (L.length + 1) c1)) ∧ Rf ((w3.setCells r1 (L.length * 7) (nrow x)).setCell ⟨g, 0, none⟩ (.slice (some ⟨r1, 0, none⟩) (L.length + 1) c1)) B g (L ++ [x]) K) ∧
    (Below B w ((w3.setCell ⟨g, 0, none⟩ (.slice (some ⟨r1, 0, none⟩) (L.length + 1) c1)).setCells r1 (L.length * 7) (nrow x)) ∧ FrameR w ((w3.setCell ⟨g, 0, none⟩ (.slice (some ⟨r1, 0, none⟩) (L.length + 1) c1)).setCells r1 (L.length * 7) (nrow x)) ∧ Rf ((w3.setCell ⟨g, 0, none⟩ (.slice (some ⟨r1, 0, none⟩) (L.length + 1) c1)).setCells r1 (L.length * 7) (nrow x)) B g (L ++ [x]) K) := by
  rw [nrow_snoc] at ho
  have hgn := Kd.R_ne h.rowL h.blk (by decide)
  have hblk := blk_grown h.blk hg hgn
  have hK := Kd.R_over h.rowK h.rowL (by decide) hg
  have hf3 : FrameR w w3 := (HF.trans (FrameR.below HB2)).trans (FrameR.grown hg fun k hk => by
    obtain ⟨cells, hc⟩ := Kd.R_typed h.rowL k hk
    exact ⟨24, cells, hc, .inr (.inl rfl)⟩)
  have hbw3 : Below B w w3 := (HB.trans (HB2.mono HB1)).trans hb3
  have hB3 : B ≤ w3.heap.size := Nat.le_trans HB1 (Nat.le_trans HB2.size hb3.size)
  have hne : some g ≠ some r1 := fun e => by
    injection e with e
    rw [e, hty] at hblk
    injection hblk with hblk
    injection hblk with _ hblk
    exact absurd hblk (by decide)
  have hrow : ∀ k, some r1 = some k → B ≤ k := fun k hk => by injection hk with hk; rw [← hk]; exact hr
  have hi : L.length < (L ++ [zn]).length := by simp
  have hset : (L ++ [zn]).set L.length x = L ++ [x] := by
    rw [List.set_append_right _ _ (Nat.le_refl _), Nat.sub_self]
    rfl
  constructor
  · obtain ⟨p1, p2⟩ := R_put7 ho L.length hi x
    rw [hset] at p1
    have hb5 := blk_grown hblk p2 hne
    have hK5 := Kd.R_over hK ho (by decide) p2
    refine ⟨(hbw3.grown p2 hB3 hrow).setCell h.lo _, (hf3.trans (FrameR.grown p2 fun k hk => ?_)).trans (FrameR.set hb5 (.inl rfl) 0 _), ⟨_, _, h.lo, blk_put hb5 0 _ (by simp), Kd.R_set p1 hb5 (by decide) 0 _, Kd.R_set hK5 hb5 (by decide) 0 _⟩⟩
    injection hk with hk
    subst hk
    exact ⟨24, cs1, hty, .inr (.inl rfl)⟩
  · have ho2 := Kd.R_set ho hblk (by decide) 0 (.slice (some ⟨r1, 0, none⟩) (L.length + 1) c1)
    have hK2 := Kd.R_set hK hblk (by decide) 0 (.slice (some ⟨r1, 0, none⟩) (L.length + 1) c1)
    have hb2 := blk_put hblk 0 (.slice (some ⟨r1, 0, none⟩) (L.length + 1) c1) (cs' := #[.slice (some ⟨r1, 0, none⟩) (L.length + 1) c1, vK]) (by simp)
    obtain ⟨p1, p2⟩ := R_put7 ho2 L.length hi x
    rw [hset] at p1
    have hty2 := blk_far hty (p := ⟨g, 0, none⟩) (fun e => hne (by rw [show r1 = g from e])) (.slice (some ⟨r1, 0, none⟩) (L.length + 1) c1)
    refine ⟨(hbw3.setCell h.lo _).grown p2 (by rw [World.size_setCell]; exact hB3) hrow, (hf3.trans (FrameR.set hblk (.inl rfl) 0 _)).trans (FrameR.grown p2 fun k hk => ?_), ⟨_, _, h.lo, blk_grown hb2 p2 hne, p1, Kd.R_over hK2 ho2 (by decide) p2⟩⟩
    injection hk with hk
    subst hk
    exact ⟨24, cs1, hty2, .inr (.inl rfl)⟩
theorem link_fin {w wc w5 : World} {B g : Nat} {vL : Value} {Ak A5 : Option Addr} {ck c5 : Nat} {L : List S24} {K : Lk} {p i : Int} (HB : Below B w wc) (HF : FrameR w wc) (h : RfIn wc.drew B g vL (.slice Ak K.length ck) L K)
    (ho : (Kd.raw 2).R 38 w5 B (fun _ => True) (.slice A5 (K.length + 1) c5) (K.map prow ++ [prow (p, i)])) (hb : Below B wc w5) (hg : wc.drew.grownBy w5 (Value.slice Ak K.length ck).ownBlock) :
    Below B w (w5.setCell ⟨g, 1, none⟩ (.slice A5 (K.length + 1) c5)) ∧ FrameR w (w5.setCell ⟨g, 1, none⟩ (.slice A5 (K.length + 1) c5)) ∧ Rf (w5.setCell ⟨g, 1, none⟩ (.slice A5 (K.length + 1) c5)) B g L (K ++ [(p, i)]) := by
  have hgn := Kd.R_ne h.rowK h.blk (by decide)
  have hblk := blk_grown h.blk hg hgn
  have hL := Kd.R_over h.rowL h.rowK (by decide) hg
  rw [show K.map prow ++ [prow (p, i)] = (K ++ [(p, i)]).map prow by simp] at ho
  refine ⟨(HB.trans hb).setCell h.lo _, (HF.drew.trans (FrameR.grown hg fun k hk => ?_)).trans (FrameR.set hblk (.inl rfl) 1 _), ⟨_, _, h.lo, blk_put hblk 1 _ (by simp), Kd.R_set hL hblk (by decide) 1 _, Kd.R_set ho hblk (by decide) 1 _⟩⟩
  obtain ⟨cells, hc⟩ := Kd.R_typed h.rowK k hk
  exact ⟨38, cells, hc, .inr (.inr rfl)⟩
end
end Go.Proofs.Ytikfbipjlkhgeaa.P
