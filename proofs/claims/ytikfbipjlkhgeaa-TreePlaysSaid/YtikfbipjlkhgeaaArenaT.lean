/- (*Arena).tree, Tree: what an arena's slots are from a slot on, told as a tree in new memory. -/
import Derived.Test.YtikfbipjlkhgeaaArenaL
import Derived.Test.YtikfbipjlkhgeaaForest
namespace Go.Proofs.Ytikfbipjlkhgeaa.P
open Go.RowKit Go.Proofs.YtikfbipjlkhgeaaW.PrintWords Go.Proofs.YtikfbipjlkhgeaaW.PrintLast Go.Proofs.YtikfbipjlkhgeaaW.PrintMore
set_option linter.unusedVariables false
set_option linter.unusedSimpArgs false
theorem ArIn.cells6 {w : World} {B g r n cap : Nat} {rows : List (List Value)} {sl : List S70} (h : ArIn w B g (.slice (some ⟨r, 0, none⟩) n cap) rows sl) (i : Nat) (hi : i < sl.length) :
    w.cell? ⟨r, i * 9, none⟩ = some (.int .i64 (rd_T70 sl (i : Int)).f0.f0) ∧ w.cell? ⟨r, i * 9 + 1, none⟩ = some (.string (rd_T70 sl (i : Int)).f0.f1) ∧ w.cell? ⟨r, i * 9 + 2, none⟩ = some (.string (rd_T70 sl (i : Int)).f0.f2) ∧
    w.cell? ⟨r, i * 9 + 3, none⟩ = some (.int .i64 (rd_T70 sl (i : Int)).f0.f3) ∧ w.cell? ⟨r, i * 9 + 4, none⟩ = some (.int .i64 (rd_T70 sl (i : Int)).f0.f4) ∧ w.cell? ⟨r, i * 9 + 5, none⟩ = some (.bool (rd_T70 sl (i : Int)).f0.f5) ∧ w.cell? ⟨r, i * 9 + 6, none⟩ = some (.slice none 0 0) := by
  have ha := h.at_ i hi
  generalize kid (rows.getD i []) = k at ha
  refine ⟨h.cell i hi 0 _ ?_, h.cell i hi 1 _ ?_, h.cell i hi 2 _ ?_, h.cell i hi 3 _ ?_, h.cell i hi 4 _ ?_, h.cell i hi 5 _ ?_, h.cell i hi 6 _ ?_⟩ <;> (rw [ha]; rfl)
theorem rd24_in (l : List S24) (i : Nat) (hi : i < l.length) : rd_T24 l (i : Int) ∈ l := by
  show l.getD i z24 ∈ l
  rw [List.getD_eq_getElem?_getD, List.getElem?_eq_getElem hi]
  exact List.getElem_mem hi
theorem take_snoc24 (l : List S24) (k : Nat) (hk : k < l.length) : l.take (k + 1) = l.take k ++ [rd_T24 l (k : Int)] := by
  rw [List.take_succ_eq_append_getElem hk]
  show _ = _ ++ [l.getD k z24]
  rw [List.getD_eq_getElem?_getD, List.getElem?_eq_getElem hk]; rfl
/-- A box for the result, and one that holds the node, whose trees so far are done. -/
def TreeAt (w wr : World) (x0 : Int) (x1 x2 : ByteArray) (x3 x4 : Int) (x5 : Bool) (l : List S24) : Prop :=
  ∃ v6, wr.heap[w.heap.size]? = some (.cells #[.int .i64 0, .string ⟨#[]⟩, .string ⟨#[]⟩, .int .i64 0, .int .i64 0, .bool false, .slice none 0 0] 24) ∧
    wr.heap[w.heap.size + 1]? = some (.cells #[.int .i64 x0, .string x1, .string x2, .int .i64 x3, .int .i64 x4, .bool x5, v6] 24) ∧
    Kd.R k24 24 wr w.heap.size (fun b => b ≠ w.heap.size ∧ b ≠ w.heap.size + 1) v6 l ∧ Below w.heap.size w wr
theorem TreeAt.below {w wr : World} {x0 : Int} {x1 x2 : ByteArray} {x3 x4 : Int} {x5 : Bool} {l : List S24} (h : TreeAt w wr x0 x1 x2 x3 x4 x5 l) : Below w.heap.size w wr := by
  obtain ⟨_, _, _, _, h⟩ := h
  exact h
theorem Ar.drew {w : World} {B g : Nat} {sl : List S70} (h : Ar w B g sl) : Ar w.drew B g sl := h.below (below_drew (Below.refl _ _))
theorem tree_fresh {w2 : World} {n : Nat} {c1 c2 : Array Value} {t1 t2 : Nat} (h1 : w2.heap[n]? = some (.cells c1 t1 (0, 0))) (h2 : w2.heap[n + 1]? = some (.cells c2 t2 (0, 0))) : ∀ k, w2.heap.size ≤ k → k ≠ n ∧ k ≠ n + 1 := fun k hk => by
  have := blk_lt h1
  have := blk_lt h2
  omega
theorem tree_mid {w wr w2 : World} {cz cn : Array Value} {A6 AY : Option Addr} {n q6 ny qy : Nat} {ls y6 : List S24} (hz : wr.heap[w.heap.size]? = some (.cells cz 24 (0, 0))) (hn : wr.heap[w.heap.size + 1]? = some (.cells cn 24 (0, 0)))
    (hR : Kd.R k24 24 wr w.heap.size (fun b => b ≠ w.heap.size ∧ b ≠ w.heap.size + 1) (.slice A6 n q6) ls) (hB : Below w.heap.size w wr) (hr : Kd.R k24 24 w2 wr.drew.heap.size (fun _ => True) (.slice AY ny qy) y6) (hb : Below wr.drew.heap.size wr.drew w2) :
    w2.heap[w.heap.size]? = some (.cells cz 24 (0, 0)) ∧ w2.heap[w.heap.size + 1]? = some (.cells cn 24 (0, 0)) ∧ Kd.R k24 24 w2 w.heap.size (fun b => b ≠ w.heap.size ∧ b ≠ w.heap.size + 1) (.slice A6 n q6) ls ∧ Below w.heap.size w w2 ∧
      Kd.R k24 24 w2 w.heap.size (fun b => b ≠ w.heap.size ∧ b ≠ w.heap.size + 1 ∧ some b ≠ (Value.slice A6 n q6).ownBlock) (.slice AY ny qy) y6 := by
  have hz' := blk_lt hz
  have hn' := blk_lt hn
  refine ⟨blk_below (w := wr.drew) hz hb, blk_below (w := wr.drew) hn hb, Kd.R_below (w := wr.drew) (Kd.R_drew hR) hb, below_step (W := wr.drew) (below_drew hB) hb, Kd.R_mono (Kd.R_lower (base' := w.heap.size) (Kd.R_bound hr) ?_) fun b hb' => ?_⟩
  · have := hB.size
    exact this
  · have hb2 : wr.heap.size ≤ b := hb'.2.1
    refine ⟨by omega, by omega, fun e => ?_⟩
    have := Kd.R_lt hR b e.symm
    omega
theorem tree_next {w w3 : World} {A1 : Option Addr} {cp1 : Nat} {x0 : Int} {x1 x2 : ByteArray} {x3 x4 : Int} {x5 : Bool} {v6 : Value} {lk : List S24} {ch : S24}
    (hz : w3.heap[w.heap.size]? = some (.cells #[.int .i64 0, .string ⟨#[]⟩, .string ⟨#[]⟩, .int .i64 0, .int .i64 0, .bool false, .slice none 0 0] 24 (0, 0)))
    (hn : w3.heap[w.heap.size + 1]? = some (.cells #[.int .i64 x0, .string x1, .string x2, .int .i64 x3, .int .i64 x4, .bool x5, v6] 24 (0, 0)))
    (hR : Kd.R k24 24 w3 w.heap.size (fun b => b ≠ w.heap.size ∧ b ≠ w.heap.size + 1) (.slice A1 (lk ++ [ch]).length cp1) (lk ++ [ch])) (hB : Below w.heap.size w w3) :
    TreeAt w (w3.setCell ⟨w.heap.size + 1, 6, none⟩ (.slice A1 (lk.length + 1) cp1)) x0 x1 x2 x3 x4 x5 (lk ++ [ch]) := by
  rw [List.length_append, List.length_singleton] at hR
  exact ⟨_, blk_far hz (by show w.heap.size ≠ w.heap.size + 1; omega) _, blk_put hn 6 _ rfl, Kd.R_far (p := ⟨w.heap.size + 1, 6, none⟩) hR (fun _ hk => hk.2) _, below_set hB (by omega)⟩
theorem tree_far7 {w wr : World} {v : Value} {l : List S24} (h : Kd.R k24 24 wr w.heap.size (fun b => b ≠ w.heap.size ∧ b ≠ w.heap.size + 1) v l) (u0 u1 u2 u3 u4 u5 u6 : Value) :
    Kd.R k24 24 (((((((wr.setCell ⟨w.heap.size, 0, none⟩ u0).setCell ⟨w.heap.size, 1, none⟩ u1).setCell ⟨w.heap.size, 2, none⟩ u2).setCell ⟨w.heap.size, 3, none⟩ u3).setCell ⟨w.heap.size, 4, none⟩ u4).setCell ⟨w.heap.size, 5, none⟩ u5).setCell ⟨w.heap.size, 6, none⟩ u6) w.heap.size (fun _ => True) v l :=
  Kd.R_mono (Kd.R_far (p := ⟨w.heap.size, 6, none⟩) (Kd.R_far (p := ⟨w.heap.size, 5, none⟩) (Kd.R_far (p := ⟨w.heap.size, 4, none⟩) (Kd.R_far (p := ⟨w.heap.size, 3, none⟩) (Kd.R_far (p := ⟨w.heap.size, 2, none⟩) (Kd.R_far (p := ⟨w.heap.size, 1, none⟩) (Kd.R_far (p := ⟨w.heap.size, 0, none⟩) h (fun _ hk => hk.1) _) (fun _ hk => hk.1) _) (fun _ hk => hk.1) _) (fun _ hk => hk.1) _) (fun _ hk => hk.1) _) (fun _ hk => hk.1) _) (fun _ hk => hk.1) _) (fun _ _ => trivial)
theorem tree_far7b {w wr : World} {v : Value} {l : List S24} (h : Kd.R k24 24 wr w.heap.size (fun b => b ≠ w.heap.size ∧ b ≠ w.heap.size) v l) (u0 u1 u2 u3 u4 u5 u6 : Value) :
    Kd.R k24 24 (((((((wr.setCell ⟨w.heap.size, 0, none⟩ u0).setCell ⟨w.heap.size, 1, none⟩ u1).setCell ⟨w.heap.size, 2, none⟩ u2).setCell ⟨w.heap.size, 3, none⟩ u3).setCell ⟨w.heap.size, 4, none⟩ u4).setCell ⟨w.heap.size, 5, none⟩ u5).setCell ⟨w.heap.size, 6, none⟩ u6) w.heap.size (fun _ => True) v l :=
  Kd.R_mono (Kd.R_far (p := ⟨w.heap.size, 6, none⟩) (Kd.R_far (p := ⟨w.heap.size, 5, none⟩) (Kd.R_far (p := ⟨w.heap.size, 4, none⟩) (Kd.R_far (p := ⟨w.heap.size, 3, none⟩) (Kd.R_far (p := ⟨w.heap.size, 2, none⟩) (Kd.R_far (p := ⟨w.heap.size, 1, none⟩) (Kd.R_far (p := ⟨w.heap.size, 0, none⟩) h (fun _ hk => hk.1) _) (fun _ hk => hk.1) _) (fun _ hk => hk.1) _) (fun _ hk => hk.1) _) (fun _ hk => hk.1) _) (fun _ hk => hk.1) _) (fun _ hk => hk.1) _) (fun _ _ => trivial)
theorem tree_below7 {w wr : World} (h : Below w.heap.size w wr) (u0 u1 u2 u3 u4 u5 u6 : Value) : Below w.heap.size w (((((((wr.setCell ⟨w.heap.size, 0, none⟩ u0).setCell ⟨w.heap.size, 1, none⟩ u1).setCell ⟨w.heap.size, 2, none⟩ u2).setCell ⟨w.heap.size, 3, none⟩ u3).setCell ⟨w.heap.size, 4, none⟩ u4).setCell ⟨w.heap.size, 5, none⟩ u5).setCell ⟨w.heap.size, 6, none⟩ u6) :=
  below_set (below_set (below_set (below_set (below_set (below_set (below_set h (Nat.le_refl _)) (Nat.le_refl _)) (Nat.le_refl _)) (Nat.le_refl _)) (Nat.le_refl _)) (Nat.le_refl _)) (Nat.le_refl _)
section
attribute [local go_sem] World.cell?_alloc_some World.cell?_setCell_far
set_option maxRecDepth 100000 in
set_option maxHeartbeats 8000000 in
theorem tree_calls : ∀ (s : Nat) (x0 : Int) (x1 x2 : ByteArray) (x3 x4 : Int) (x5 : Bool) (l : List S24) (i m : Nat) (sl : List S70) (w : World) (B g : Nat), SizeOf.sizeOf l < s → (∀ i : Nat, i < sl.length → (rd_T70 sl (i : Int)).f2.length < 1000000000) → Ar w B g sl → trT m sl i ⟨x0, x1, x2, x3, x4, x5, l⟩ →
    Calls Try.prog 56 #[.pointer (some ⟨g, 0, none⟩), .int .i64 i] w fun e w' => ∃ v6, e = .returned (.agg #[.int .i64 x0, .string x1, .string x2, .int .i64 x3, .int .i64 x4, .bool x5, v6]) ∧ Kd.R k24 24 w' w.heap.size (fun _ => True) v6 l ∧ Below w.heap.size w w'
  | 0, _, _, _, _, _, _, _, _, _, _, _, _, _, h, _, _, _ => absurd h (by omega)
  | s + 1, x0, x1, x2, x3, x4, x5, l, i, m, sl, w, B, g, hs, hbd, h, ht => by
    have hu24 := Try.underlying24
    have hu70 := Try.underlying70
    have hu73 := Try.underlying73
    unfold trT at ht
    obtain ⟨t1, t2, t3, t4⟩ := ht
    have hA := h
    obtain ⟨v, rows, h⟩ := h
    obtain ⟨r, cap, rfl, hr, cells, hty⟩ := h.row0 (by omega)
    have g0 : w.cell? ⟨g, 0, none⟩ = some (.slice (some ⟨r, 0, none⟩) sl.length cap) := blk_cell h.blk 0
    obtain ⟨c0, c1, c2, c3, c4, c5, c6⟩ := h.cells6 i t2
    rw [t3] at c0 c1 c2 c3 c4 c5
    have c8 := h.cell8 i t2
    obtain ⟨A8, cp8, hv8⟩ := Kd.R_slice (h.kids i t2)
    have hkr := h.kids i t2
    rw [hv8] at c8 hkr
    have i0 : (i : Int) < (sl.length : Int) := by omega
    have HKC := Aside0.mk (Kd.R_reads' hkr).2.2
    have HTL := Aside0.mk t4
    obtain ⟨kl, ekl⟩ : ∃ kl : List Int, kl = (rd_T70 sl (i : Int)).f2 := ⟨_, rfl⟩
    rw [← ekl] at c8 HKC HTL
    have HA := Aside0.mk hA
    have hkb : kl.length < 1000000000 := by rw [ekl]; exact hbd i t2
    have HBD := Aside0.mk hbd
    clear hbd
    clear h hA hty hkr hv8 t3 t4 ekl
    go_enter Try.func56, Try.ntmps56
    go_wp2_with fail
    have HW := Aside0.mk (Below.refl w.heap.size w)
    have hz1 := blk_new w (.cells #[.int .i64 0, .string ⟨#[]⟩, .string ⟨#[]⟩, .int .i64 0, .int .i64 0, .bool false, .slice none 0 0] 24)
    have hz2 := blk_new (w.alloc (.cells #[.int .i64 0, .string ⟨#[]⟩, .string ⟨#[]⟩, .int .i64 0, .int .i64 0, .bool false, .slice none 0 0] 24)) (.cells #[.int .i64 x0, .string x1, .string x2, .int .i64 x3, .int .i64 x4, .bool x5, .slice none 0 0] 24)
    rw [World.size_alloc] at hz2
    have HT := Aside0.mk (show TreeAt w ((w.alloc (.cells #[.int .i64 0, .string ⟨#[]⟩, .string ⟨#[]⟩, .int .i64 0, .int .i64 0, .bool false, .slice none 0 0] 24)).alloc (.cells #[.int .i64 x0, .string x1, .string x2, .int .i64 x3, .int .i64 x4, .bool x5, .slice none 0 0] 24)) x0 x1 x2 x3 x4 x5 [] from
      ⟨.slice none 0 0, blk_alloc hz1 _, hz2, Kd.R_nil _ _ _ _ _, below_alloc (below_alloc (Below.refl _ _) _) _⟩)
    clear hz1 hz2
    have hkl := trL_len HTL.out
    have HKL := Aside0.mk hkl
    have hkm : kl.length ≤ 9223372036854775807 := HKC.out.2.1
    clear hkl
    generalize ((w.alloc (.cells #[.int .i64 0, .string ⟨#[]⟩, .string ⟨#[]⟩, .int .i64 0, .int .i64 0, .bool false, .slice none 0 0] 24)).alloc (.cells #[.int .i64 x0, .string x1, .string x2, .int .i64 x3, .int .i64 x4, .bool x5, .slice none 0 0] 24)) = ws at HT ⊢
    clear g0 c0 c1 c2 c3 c4 c5 c6 c8
    go_loopw [25] (fun v wr => ∃ k : Nat, k ≤ kl.length ∧ v = .int .i64 k ∧ Aside0 (TreeAt w wr x0 x1 x2 x3 x4 x5 (l.take k))) (fun v _ => kl.length - (intOf v).toNat)
    case atStart => exact ⟨0, by omega, rfl, HT⟩
    case round =>
      clear HT
      obtain ⟨k, hk, rfl, HT⟩ := hrel
      by_cases hlt : k < kl.length
      · obtain ⟨ad, rfl, hx⟩ := Kd.at_int (Kd.C_below HKC.out HT.out.below) (k : Int) (by omega) (by omega)
        simp only [Int.toNat_natCast] at hx
        obtain ⟨hj0, hjt⟩ := trL_get HTL.out k (by rw [← HKL.out]; exact hlt)
        obtain ⟨j, hj⟩ : ∃ j : Nat, rd kl k = j := ⟨(rd kl k).toNat, by omega⟩
        rw [hj] at hx hjt
        simp only [Int.toNat_natCast] at hjt
        have hsz := List.sizeOf_lt_of_mem (rd24_in l k (by rw [← HKL.out]; exact hlt))
        obtain ⟨ch, hch⟩ : ∃ ch : S24, ch = rd_T24 l (k : Int) := ⟨_, rfl⟩
        rw [← hch] at hjt hsz
        have HCH := Aside0.mk (show l.take (k + 1) = l.take k ++ [ch] by rw [hch]; exact take_snoc24 l k (by rw [← HKL.out]; exact hlt))
        obtain ⟨y0, y1, y2, y3, y4, y5, y6⟩ := ch
        have IH := Aside0.mk (fun w' (hA : Ar w' B g sl) => tree_calls s y0 y1 y2 y3 y4 y5 y6 j m sl w' B g (by simp only [S24.mk.sizeOf_spec] at hsz; omega) HBD.out hA hjt)
        clear hjt hsz hch hj hj0
        obtain ⟨lk, elk⟩ : ∃ lk : List S24, lk = l.take k := ⟨_, rfl⟩
        rw [← elk] at HT HCH
        obtain ⟨v6, hz, hn, hR, hb⟩ := HT.out
        obtain ⟨A6, q6, rfl⟩ := Kd.R_slice hR
        have n6 : wr.cell? ⟨w.heap.size + 1, 6, none⟩ = some (.slice A6 lk.length q6) := blk_cell hn 6
        have HZ := Aside0.mk hz
        have HN := Aside0.mk hn
        have HR := Aside0.mk hR
        have HB := Aside0.mk hb
        have HA1 := Aside0.mk (HA.out.below hb)
        have hlk : lk.length ≤ k := by rw [elk, List.length_take]; omega
        clear elk
        have hsl : (lk.length + 1) * 88 ≤ 140737488355328 := by omega
        clear hlk
        clear hz hn hR hb HT
        have hkI : (k : Int) < (kl.length : Int) := by omega
        go_wp2_with fail
        go_region_law (first
          | (refine Kd.R_append_step k24 (w0 := w) w.heap.size (by rfl) _ _ 22 24 _ 88 (by rfl) Try.underlying22 info24 rfl (by decide) (by decide) (.slice A6 lk.length q6) lk ⟨y0, y1, y2, y3, y4, y5, y6⟩ [.int .i64 y0, .string y1, .string y2, .int .i64 y3, .int .i64 y4, .bool y5, .slice AY y6.length qy] (fun b => b ≠ w.heap.size ∧ b ≠ w.heap.size + 1) (fun b => b ≠ w.heap.size ∧ b ≠ w.heap.size + 1 ∧ some b ≠ (Value.slice A6 lk.length q6).ownBlock) (by rfl) (by rfl) (k24_mkM _ _ _ ⟨y0, y1, y2, y3, y4, y5, y6⟩ HY.out) (fun _ h => ⟨⟨h.1, h.2.1⟩, h.2.2⟩) (tree_fresh HZ2.out HN2.out) HR2.out HB2.out HB2.out.size hsl ?_; intro v1 w3 ho hb3 hg hat; obtain ⟨A1, cp1, hv1⟩ := Kd.R_slice ho; subst hv1; have HZ3 := Aside0.mk (blk_grown HZ2.out hg (Kd.R_away HR2.out (fun _ hk => hk.1))); have hn3 := blk_grown HN2.out hg (Kd.R_away HR2.out (fun _ hk => hk.2)); have n63 : w3.cell? ⟨w.heap.size + 1, 6, none⟩ = some (.slice A6 lk.length q6) := blk_cell hn3 6; have hfz3 : w3.frozen? ⟨w.heap.size + 1, 6, none⟩ = false := blk_frozen hn3 6; have HN3 := Aside0.mk hn3; have HO := Aside0.mk ho; have HB3 := Aside0.mk hb3; clear ho hb3 hg hat hn3)
          | (go_simp; go_at_call 56; refine (IH.out _ HA1.out.drew).mono ?_; rintro e w2 ⟨v6, rfl, hr, hb⟩; obtain ⟨AY, qy, hv6⟩ := Kd.R_slice hr; subst hv6; obtain ⟨hz2, hn2, hr2, hb2, hy⟩ := tree_mid HZ.out HN.out HR.out HB.out hr hb; have n62 : w2.cell? ⟨w.heap.size + 1, 6, none⟩ = some (.slice A6 lk.length q6) := blk_cell hn2 6; have HZ2 := Aside0.mk hz2; have HN2 := Aside0.mk hn2; have HR2 := Aside0.mk hr2; have HB2 := Aside0.mk hb2; have HY := Aside0.mk hy; clear hz2 hn2 hr2 hb2 hy hr hb))
        all_goals
          go_wp2_with fail
          go_roundw
          case rel => exact ⟨k + 1, by omega, by go_num, ⟨by rw [HCH.out]; exact tree_next HZ3.out HN3.out HO.out HB3.out⟩⟩
          case measure => simp [intOf]; omega
      · have hkl : k = kl.length := by omega
        obtain ⟨v6, hz, hn, hR, hb⟩ := HT.out
        rw [List.take_of_length_le (by have := HKL.out; omega)] at hR
        obtain ⟨A6, q6, rfl⟩ := Kd.R_slice hR
        have n0 : wr.cell? ⟨w.heap.size + 1, 0, none⟩ = some (.int .i64 x0) := blk_cell hn 0
        have n1 : wr.cell? ⟨w.heap.size + 1, 1, none⟩ = some (.string x1) := blk_cell hn 1
        have n2 : wr.cell? ⟨w.heap.size + 1, 2, none⟩ = some (.string x2) := blk_cell hn 2
        have n3 : wr.cell? ⟨w.heap.size + 1, 3, none⟩ = some (.int .i64 x3) := blk_cell hn 3
        have n4 : wr.cell? ⟨w.heap.size + 1, 4, none⟩ = some (.int .i64 x4) := blk_cell hn 4
        have n5 : wr.cell? ⟨w.heap.size + 1, 5, none⟩ = some (.bool x5) := blk_cell hn 5
        have n6 : wr.cell? ⟨w.heap.size + 1, 6, none⟩ = some (.slice A6 l.length q6) := blk_cell hn 6
        have z0 : wr.cell? ⟨w.heap.size, 0, none⟩ = some (.int .i64 0) := blk_cell hz 0
        have z1 : wr.cell? ⟨w.heap.size, 1, none⟩ = some (.string ⟨#[]⟩) := blk_cell hz 1
        have z2 : wr.cell? ⟨w.heap.size, 2, none⟩ = some (.string ⟨#[]⟩) := blk_cell hz 2
        have z3 : wr.cell? ⟨w.heap.size, 3, none⟩ = some (.int .i64 0) := blk_cell hz 3
        have z4 : wr.cell? ⟨w.heap.size, 4, none⟩ = some (.int .i64 0) := blk_cell hz 4
        have z5 : wr.cell? ⟨w.heap.size, 5, none⟩ = some (.bool false) := blk_cell hz 5
        have z6 : wr.cell? ⟨w.heap.size, 6, none⟩ = some (.slice none 0 0) := blk_cell hz 6
        have zf0 : wr.frozen? ⟨w.heap.size, 0, none⟩ = false := blk_frozen hz 0
        have zf1 : wr.frozen? ⟨w.heap.size, 1, none⟩ = false := blk_frozen hz 1
        have zf2 : wr.frozen? ⟨w.heap.size, 2, none⟩ = false := blk_frozen hz 2
        have zf3 : wr.frozen? ⟨w.heap.size, 3, none⟩ = false := blk_frozen hz 3
        have zf4 : wr.frozen? ⟨w.heap.size, 4, none⟩ = false := blk_frozen hz 4
        have zf5 : wr.frozen? ⟨w.heap.size, 5, none⟩ = false := blk_frozen hz 5
        have zf6 : wr.frozen? ⟨w.heap.size, 6, none⟩ = false := blk_frozen hz 6
        have HZ := Aside0.mk hz
        have HR := Aside0.mk hR
        have HB := Aside0.mk hb
        have hkI : ¬ (k : Int) < (kl.length : Int) := by omega
        clear hz hn hR hb HT hkl
        go_wp2_with fail
        refine bodyPost_ret (results_cell_row rfl _ _ w.heap.size 24 #[.int .i64 x0, .string x1, .string x2, .int .i64 x3, .int .i64 x4, .bool x5, .slice A6 l.length q6] (0, 0) _ rfl (by refine blk_put (cs := #[.int .i64 x0, .string x1, .string x2, .int .i64 x3, .int .i64 x4, .bool x5, .slice none 0 0]) ?_ 6 _ rfl; refine blk_put (cs := #[.int .i64 x0, .string x1, .string x2, .int .i64 x3, .int .i64 x4, .bool false, .slice none 0 0]) ?_ 5 _ rfl; refine blk_put (cs := #[.int .i64 x0, .string x1, .string x2, .int .i64 x3, .int .i64 0, .bool false, .slice none 0 0]) ?_ 4 _ rfl; refine blk_put (cs := #[.int .i64 x0, .string x1, .string x2, .int .i64 0, .int .i64 0, .bool false, .slice none 0 0]) ?_ 3 _ rfl; refine blk_put (cs := #[.int .i64 x0, .string x1, .string ⟨#[]⟩, .int .i64 0, .int .i64 0, .bool false, .slice none 0 0]) ?_ 2 _ rfl; refine blk_put (cs := #[.int .i64 x0, .string ⟨#[]⟩, .string ⟨#[]⟩, .int .i64 0, .int .i64 0, .bool false, .slice none 0 0]) ?_ 1 _ rfl; refine blk_put (cs := #[.int .i64 0, .string ⟨#[]⟩, .string ⟨#[]⟩, .int .i64 0, .int .i64 0, .bool false, .slice none 0 0]) ?_ 0 _ rfl; exact HZ.out) Try.underlying24 rfl (by kernel_rfl)) rfl ?_
        exact ⟨_, rfl, tree_far7 HR.out _ _ _ _ _ _ _, tree_below7 HB.out _ _ _ _ _ _ _⟩
set_option maxRecDepth 100000 in
set_option maxHeartbeats 8000000 in
theorem Tree_calls (x0 : Int) (x1 x2 : ByteArray) (x3 x4 : Int) (x5 : Bool) (l : List S24) (m : Nat) (sl : List S70) (w : World) (B g : Nat) (hbd : ∀ i : Nat, i < sl.length → (rd_T70 sl (i : Int)).f2.length < 1000000000) (h : Ar w B g sl) (ht : trT m sl 0 ⟨x0, x1, x2, x3, x4, x5, l⟩) :
    Calls Try.prog 25 #[.pointer (some ⟨g, 0, none⟩)] w fun e w' => ∃ v6, e = .returned (.agg #[.int .i64 x0, .string x1, .string x2, .int .i64 x3, .int .i64 x4, .bool x5, v6]) ∧ Kd.R k24 24 w' w.heap.size (fun _ => True) v6 l ∧ Below w.heap.size w w' := by
  have hu24 := Try.underlying24
  have hlen : 0 < sl.length := by unfold trT at ht; exact ht.2.1
  have HA := Aside0.mk (Ar.below h (below_alloc (Below.refl w.heap.size w) (.cells #[.int .i64 0, .string ⟨#[]⟩, .string ⟨#[]⟩, .int .i64 0, .int .i64 0, .bool false, .slice none 0 0] 24)))
  have CT := Aside0.mk (fun w1 (h1 : Ar w1 B g sl) => tree_calls (SizeOf.sizeOf l + 1) x0 x1 x2 x3 x4 x5 l 0 m sl w1 B g (by omega) hbd h1 ht)
  have CL := Aside0.mk (fun w1 (h1 : Ar w1 B g sl) => by obtain ⟨v, rows, h1⟩ := h1; exact len_calls h1.rd)
  have HZ := Aside0.mk (blk_new w (.cells #[.int .i64 0, .string ⟨#[]⟩, .string ⟨#[]⟩, .int .i64 0, .int .i64 0, .bool false, .slice none 0 0] 24))
  have c0 : ((sl.length : Int) == 0) = false := beq_eq_false_iff_ne.mpr (by omega)
  clear h ht hbd
  go_enter Try.func25, Try.ntmps25
  go_wp2_with (go_at_call 26; refine (CL.out _ HA.out).mono ?_; rintro e w1 ⟨rfl, rfl⟩)
  refine (CT.out _ HA.out).mono ?_
  rintro e w1 ⟨v6, rfl, hR, hb⟩
  obtain ⟨A6, q6, rfl⟩ := Kd.R_slice hR
  have hz1 := blk_below HZ.out hb
  rw [World.size_alloc] at hR
  have hR2 : Kd.R k24 24 w1 w.heap.size (fun b => b ≠ w.heap.size ∧ b ≠ w.heap.size) (.slice A6 l.length q6) l := Kd.R_mono (Kd.R_lower (base' := w.heap.size) (Kd.R_bound hR) (by omega)) (fun b hb => by have := hb.2.1; omega)
  have HR := Aside0.mk hR2
  have HB := Aside0.mk (below_step (below_alloc (Below.refl w.heap.size w) (.cells #[.int .i64 0, .string ⟨#[]⟩, .string ⟨#[]⟩, .int .i64 0, .int .i64 0, .bool false, .slice none 0 0] 24)) hb)
  have z0 : w1.cell? ⟨w.heap.size, 0, none⟩ = some (.int .i64 0) := blk_cell hz1 0
  have zf0 : w1.frozen? ⟨w.heap.size, 0, none⟩ = false := blk_frozen hz1 0
  have z1 : w1.cell? ⟨w.heap.size, 1, none⟩ = some (.string ⟨#[]⟩) := blk_cell hz1 1
  have zf1 : w1.frozen? ⟨w.heap.size, 1, none⟩ = false := blk_frozen hz1 1
  have z2 : w1.cell? ⟨w.heap.size, 2, none⟩ = some (.string ⟨#[]⟩) := blk_cell hz1 2
  have zf2 : w1.frozen? ⟨w.heap.size, 2, none⟩ = false := blk_frozen hz1 2
  have z3 : w1.cell? ⟨w.heap.size, 3, none⟩ = some (.int .i64 0) := blk_cell hz1 3
  have zf3 : w1.frozen? ⟨w.heap.size, 3, none⟩ = false := blk_frozen hz1 3
  have z4 : w1.cell? ⟨w.heap.size, 4, none⟩ = some (.int .i64 0) := blk_cell hz1 4
  have zf4 : w1.frozen? ⟨w.heap.size, 4, none⟩ = false := blk_frozen hz1 4
  have z5 : w1.cell? ⟨w.heap.size, 5, none⟩ = some (.bool false) := blk_cell hz1 5
  have zf5 : w1.frozen? ⟨w.heap.size, 5, none⟩ = false := blk_frozen hz1 5
  have z6 : w1.cell? ⟨w.heap.size, 6, none⟩ = some (.slice none 0 0) := blk_cell hz1 6
  have zf6 : w1.frozen? ⟨w.heap.size, 6, none⟩ = false := blk_frozen hz1 6
  have HZ1 := Aside0.mk hz1
  clear hR hR2 hb hz1
  go_wp2_with fail
  refine bodyPost_ret (results_cell_row rfl _ _ w.heap.size 24 #[.int .i64 x0, .string x1, .string x2, .int .i64 x3, .int .i64 x4, .bool x5, .slice A6 l.length q6] (0, 0) _ rfl (by refine blk_put (cs := #[.int .i64 x0, .string x1, .string x2, .int .i64 x3, .int .i64 x4, .bool x5, .slice none 0 0]) ?_ 6 _ rfl; refine blk_put (cs := #[.int .i64 x0, .string x1, .string x2, .int .i64 x3, .int .i64 x4, .bool false, .slice none 0 0]) ?_ 5 _ rfl; refine blk_put (cs := #[.int .i64 x0, .string x1, .string x2, .int .i64 x3, .int .i64 0, .bool false, .slice none 0 0]) ?_ 4 _ rfl; refine blk_put (cs := #[.int .i64 x0, .string x1, .string x2, .int .i64 0, .int .i64 0, .bool false, .slice none 0 0]) ?_ 3 _ rfl; refine blk_put (cs := #[.int .i64 x0, .string x1, .string ⟨#[]⟩, .int .i64 0, .int .i64 0, .bool false, .slice none 0 0]) ?_ 2 _ rfl; refine blk_put (cs := #[.int .i64 x0, .string ⟨#[]⟩, .string ⟨#[]⟩, .int .i64 0, .int .i64 0, .bool false, .slice none 0 0]) ?_ 1 _ rfl; refine blk_put (cs := #[.int .i64 0, .string ⟨#[]⟩, .string ⟨#[]⟩, .int .i64 0, .int .i64 0, .bool false, .slice none 0 0]) ?_ 0 _ rfl; exact HZ1.out) Try.underlying24 rfl (by kernel_rfl)) rfl ?_
  exact ⟨_, rfl, tree_far7b HR.out _ _ _ _ _ _ _, tree_below7 HB.out _ _ _ _ _ _ _⟩
end
end Go.Proofs.Ytikfbipjlkhgeaa.P
