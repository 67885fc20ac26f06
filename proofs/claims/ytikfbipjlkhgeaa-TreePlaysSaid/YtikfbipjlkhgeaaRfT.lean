/- The document's arena: Tree. -/
import Derived.Test.YtikfbipjlkhgeaaRfC
import Derived.Deep.RegionLaw
namespace Go.Proofs.Ytikfbipjlkhgeaa.P
open Go.RowKit Go.Proofs.YtikfbipjlkhgeaaW.PrintWords Go.Proofs.YtikfbipjlkhgeaaW.PrintLast Go.Proofs.YtikfbipjlkhgeaaW.PrintMore
set_option linter.unusedVariables false
set_option linter.unusedSimpArgs false
theorem TreeAt.step {w wr w2 : World} {x0 : Int} {x1 x2 : ByteArray} {x3 x4 : Int} {x5 : Bool} {l : List S24} (h : TreeAt w wr x0 x1 x2 x3 x4 x5 l) (hb : Below wr.heap.size wr w2) : TreeAt w w2 x0 x1 x2 x3 x4 x5 l := by
  obtain ⟨v6, h1, h2, h3, h4⟩ := h
  exact ⟨v6, blk_below h1 hb, blk_below h2 hb, Kd.R_below h3 hb, h4.trans (hb.mono h4.size)⟩
section
attribute [local go_sem] World.cell?_alloc_some World.cell?_setCell_far
set_option maxRecDepth 100000 in
set_option maxHeartbeats 8000000 in
theorem rtree_calls : ∀ (s : Nat) (x0 : Int) (x1 x2 : ByteArray) (x3 x4 : Int) (x5 : Bool) (l : List S24) (i m : Nat) (sl : List S70) (L : List S24) (K : Lk) (w : World) (B g : Nat), SizeOf.sizeOf l < s → K.length ≤ 1000000000 → Rel sl L K → Rf w B g L K → trT m sl i ⟨x0, x1, x2, x3, x4, x5, l⟩ →
    Calls Try.prog 50 #[.pointer (some ⟨g, 0, none⟩), .int .i64 i] w fun e w' => ∃ v6, e = .returned (.agg #[.int .i64 x0, .string x1, .string x2, .int .i64 x3, .int .i64 x4, .bool x5, v6]) ∧ Kd.R k24 24 w' w.heap.size (fun _ => True) v6 l ∧ Below w.heap.size w w'
  | 0, _, _, _, _, _, _, _, _, _, _, _, _, _, _, _, h, _, _, _, _ => absurd h (by omega)
  | s + 1, x0, x1, x2, x3, x4, x5, l, i, m, sl, L, K, w, B, g, hs, hkl0, hrel0, h, ht => by
    have hu24 := Try.underlying24
    have hu61 := Try.underlying61
    unfold trT at ht
    obtain ⟨t1, t2, t3, t4⟩ := ht
    have hiL : i < L.length := by rw [hrel0.len]; exact t2
    have HA := Aside0.mk h
    obtain ⟨vL, vK, h⟩ := h
    obtain ⟨r, cap, e, hr, _, cells, hty⟩ := Kd.R_form h.rowL (by rw [List.length_map]; omega)
    rw [List.length_map] at e
    subst e
    have g0 : w.cell? ⟨g, 0, none⟩ = some (.slice (some ⟨r, 0, none⟩) L.length cap) := blk_cell h.blk 0
    obtain ⟨c0, c1, c2, c3, c4, c5, c6⟩ := cells7 h i hiL
    rw [hrel0.node i t2, t3] at c0 c1 c2 c3 c4 c5
    have i0 : (i : Int) < (L.length : Int) := by omega
    obtain ⟨kl, ekl⟩ : ∃ kl : List Int, kl = (rd_T70 sl (i : Int)).f2 := ⟨_, rfl⟩
    have ech : chF K (i : Int) = kl := by rw [ekl]; exact hrel0.kd i t2
    rw [← ekl] at t4
    have HTL := Aside0.mk t4
    have CC := Aside0.mk (fun w1 (h1 : Rf w1 B g L K) => rchildren_calls h1 (i : Int) hkl0)
    rw [ech] at CC
    have hkb : kl.length ≤ 1000000000 := by rw [← ech]; exact Nat.le_trans (chF_len K _) hkl0
    have HRL := Aside0.mk hrel0
    have HKL0 := Aside0.mk hkl0
    clear h hty t3 t4 ekl ech hrel0 hkl0 t1 t2 hiL
    have HT := Aside0.mk (show TreeAt w ((w.alloc (.cells #[.int .i64 0, .string ⟨#[]⟩, .string ⟨#[]⟩, .int .i64 0, .int .i64 0, .bool false, .slice none 0 0] 24)).alloc (.cells #[.int .i64 x0, .string x1, .string x2, .int .i64 x3, .int .i64 x4, .bool x5, .slice none 0 0] 24)) x0 x1 x2 x3 x4 x5 [] from
      ⟨.slice none 0 0, blk_alloc (blk_new w _) _, by
        have hz2 := blk_new (w.alloc (.cells #[.int .i64 0, .string ⟨#[]⟩, .string ⟨#[]⟩, .int .i64 0, .int .i64 0, .bool false, .slice none 0 0] 24)) (.cells #[.int .i64 x0, .string x1, .string x2, .int .i64 x3, .int .i64 x4, .bool x5, .slice none 0 0] 24)
        rw [World.size_alloc] at hz2
        exact hz2, Kd.R_nil _ _ _ _ _, below_alloc (below_alloc (Below.refl _ _) _) _⟩)
    go_enter Try.func50, Try.ntmps50
    go_wp2_with (go_at_call 49; refine (CC.out _ (HA.out.step HT.out.below)).mono ?_; rintro e w2 ⟨v8, rfl, hk8, hb8⟩; have HT2 := Aside0.mk (HT.out.step hb8); obtain ⟨A8, cp8, hv8⟩ := Kd.R_slice hk8; subst hv8; have HK2 := Aside0.mk (Kd.R_lower hk8 HT.out.below.size); clear hk8 hb8)
    clear HT CC
    have hkl := trL_len HTL.out
    have HKL := Aside0.mk hkl
    have hkm : kl.length ≤ 9223372036854775807 := by omega
    clear hkl
    clear g0 c0 c1 c2 c3 c4 c5 c6
    go_loopw [7] (fun v wr => ∃ k : Nat, k ≤ kl.length ∧ v = .int .i64 k ∧ Aside0 (TreeAt w wr x0 x1 x2 x3 x4 x5 (l.take k) ∧ (Kd.int .i64).R 3 wr w.heap.size (fun _ => True) (.slice A8 kl.length cp8) kl)) (fun v _ => kl.length - (intOf v).toNat)
    case atStart => exact ⟨0, by omega, rfl, ⟨HT2.out, HK2.out⟩⟩
    case round =>
      clear HT2 HK2
      obtain ⟨k, hk, rfl, HTK⟩ := hrel
      have HT := Aside0.mk HTK.out.1
      have HK := Aside0.mk HTK.out.2
      clear HTK
      by_cases hlt : k < kl.length
      · obtain ⟨ad, e8, hx⟩ := Kd.at_int (Kd.R_reads' HK.out).2.2 (k : Int) (by omega) (by omega)
        subst e8
        simp only [Int.toNat_natCast] at hx
        obtain ⟨hj0, hjt⟩ := trL_get HTL.out k (by rw [← HKL.out]; exact hlt)
        obtain ⟨j, hj⟩ : ∃ j : Nat, rd kl k = j := ⟨(rd kl k).toNat, by omega⟩
        rw [hj] at hx hjt
        simp only [Int.toNat_natCast] at hjt
        have hsz := List.sizeOf_lt_of_mem (rd24_in l k (by rw [← HKL.out]; exact hlt))
        obtain ⟨ch, hch⟩ : ∃ ch : S24, ch = rd_T24 l (k : Int) := ⟨_, rfl⟩
        rw [← hch] at hjt hsz
        have HCH := Aside0.mk (show l.take (k + 1) = l.take k ++ [ch] by rw [hch]; exact take_snoc24 l k (by rw [← HKL.out]; exact hlt))
        obtain ⟨y0, y1, y2, y3, y4, y5, y6⟩ := ch
        have IH := Aside0.mk (fun w' (hA : Rf w' B g L K) => rtree_calls s y0 y1 y2 y3 y4 y5 y6 j m sl L K w' B g (by simp only [S24.mk.sizeOf_spec] at hsz; omega) HKL0.out HRL.out hA hjt)
        clear hjt hsz hch hj hj0
        obtain ⟨lk, elk⟩ : ∃ lk : List S24, lk = l.take k := ⟨_, rfl⟩
        rw [← elk] at HT HCH
        obtain ⟨v6, hz, hn, hR, hb⟩ := HT.out
        obtain ⟨A6, q6, rfl⟩ := Kd.R_slice hR
        have n6 : wr.cell? ⟨w.heap.size + 1, 6, none⟩ = some (.slice A6 lk.length q6) := blk_cell hn 6
        have HZ := Aside0.mk hz
        have HN := Aside0.mk hn
        have HR := Aside0.mk hR
        have HB := Aside0.mk hb
        have HA1 := Aside0.mk ((HA.out.step hb).step (below_drew (Below.refl _ _)))
        have hlk : lk.length ≤ k := by rw [elk, List.length_take]; omega
        clear elk
        have hsl : (lk.length + 1) * 88 ≤ 140737488355328 := by omega
        clear hlk
        clear hz hn hR hb HT
        have hkI : (k : Int) < (kl.length : Int) := by omega
        have hkN : IntKind.i64.wrap ((k : Int) + 1) = (k : Int) + 1 := by rw [IntKind.wrap_i64]; omega
        go_wp2_with fail
        go_region_law (first
          | (refine Kd.R_append_step k24 (w0 := w) w.heap.size (by rfl) _ _ 22 24 _ 88 (by rfl) Try.underlying22 info24 rfl (by decide) (by decide) (.slice A6 lk.length q6) lk ⟨y0, y1, y2, y3, y4, y5, y6⟩ [.int .i64 y0, .string y1, .string y2, .int .i64 y3, .int .i64 y4, .bool y5, .slice AY y6.length qy] (fun b => b ≠ w.heap.size ∧ b ≠ w.heap.size + 1) (fun b => b ≠ w.heap.size ∧ b ≠ w.heap.size + 1 ∧ some b ≠ (Value.slice A6 lk.length q6).ownBlock) (by rfl) (by rfl) (k24_mkM _ _ _ ⟨y0, y1, y2, y3, y4, y5, y6⟩ HY.out) (fun _ h => ⟨⟨h.1, h.2.1⟩, h.2.2⟩) (tree_fresh HZ2.out HN2.out) HR2.out HB2.out HB2.out.size hsl ?_; intro v1 w3 ho hb3 hg hat; obtain ⟨A1, cp1, hv1⟩ := Kd.R_slice ho; subst hv1; have HZ3 := Aside0.mk (blk_grown HZ2.out hg (Kd.R_away HR2.out (fun _ hk => hk.1))); have hn3 := blk_grown HN2.out hg (Kd.R_away HR2.out (fun _ hk => hk.2)); have n63 : w3.cell? ⟨w.heap.size + 1, 6, none⟩ = some (.slice A6 lk.length q6) := blk_cell hn3 6; have hfz3 : w3.frozen? ⟨w.heap.size + 1, 6, none⟩ = false := blk_frozen hn3 6; have HN3 := Aside0.mk hn3; have HO := Aside0.mk ho; have HB3 := Aside0.mk hb3; have HK3 := Aside0.mk (Kd.R_over' HK2.out (Kd.R_typed HR2.out) (by decide) hg); clear ho hb3 hg hat hn3)
          | ((with_reducible refine gateD (d := 31) rfl ?_); go_simp; go_at_call 50; refine (IH.out _ HA1.out).mono ?_; rintro e w2 ⟨v6, rfl, hr, hb⟩; have HK2 := Aside0.mk (Kd.R_below (Kd.R_below HK.out (below_drew (Below.refl _ _))) hb); obtain ⟨AY, qy, hv6⟩ := Kd.R_slice hr; subst hv6; obtain ⟨hz2, hn2, hr2, hb2, hy⟩ := tree_mid HZ.out HN.out HR.out HB.out hr hb; have n62 : w2.cell? ⟨w.heap.size + 1, 6, none⟩ = some (.slice A6 lk.length q6) := blk_cell hn2 6; have HZ2 := Aside0.mk hz2; have HN2 := Aside0.mk hn2; have HR2 := Aside0.mk hr2; have HB2 := Aside0.mk hb2; have HY := Aside0.mk hy; clear hz2 hn2 hr2 hb2 hy hr hb))
        all_goals
          go_wp2_with fail
          go_roundw
          case rel => exact ⟨k + 1, by omega, by go_num, ⟨by rw [HCH.out]; exact tree_next HZ3.out HN3.out HO.out HB3.out, Kd.R_set HK3.out HN3.out (by decide) 6 _⟩⟩
          case measure => simp [intOf]; omega
      · have hkl : k = kl.length := by omega
        obtain ⟨v6, hz, hn, hR, hb⟩ := HT.out
        rw [List.take_of_length_le (by have := HKL.out; omega)] at hR
        obtain ⟨A6, q6, rfl⟩ := Kd.R_slice hR
        have n0 : wr.cell? ⟨w.heap.size + 1, 0, none⟩ = some (.int .i64 x0) := blk_cell hn 0
        have n1 : wr.cell? ⟨w.heap.size + 1, 1, none⟩ = some (.string x1) := blk_cell hn 1
        have n2 : wr.cell? ⟨w.heap.size + 1, 2, none⟩ = some (.string x2) := blk_cell hn 2
        have n3 : wr.cell? ⟨w.heap.size + 1, 3, none⟩ = some (.int .i64 x3) := blk_cell hn 3
        have n4 : wr.cell? ⟨w.heap.size + 1, 4, none⟩ = some (.int .i64 x4) := blk_cell hn 4
        have n5 : wr.cell? ⟨w.heap.size + 1, 5, none⟩ = some (.bool x5) := blk_cell hn 5
        have n6 : wr.cell? ⟨w.heap.size + 1, 6, none⟩ = some (.slice A6 l.length q6) := blk_cell hn 6
        have z0 : wr.cell? ⟨w.heap.size, 0, none⟩ = some (.int .i64 0) := blk_cell hz 0
        have z1 : wr.cell? ⟨w.heap.size, 1, none⟩ = some (.string ⟨#[]⟩) := blk_cell hz 1
        have z2 : wr.cell? ⟨w.heap.size, 2, none⟩ = some (.string ⟨#[]⟩) := blk_cell hz 2
        have z3 : wr.cell? ⟨w.heap.size, 3, none⟩ = some (.int .i64 0) := blk_cell hz 3
        have z4 : wr.cell? ⟨w.heap.size, 4, none⟩ = some (.int .i64 0) := blk_cell hz 4
        have z5 : wr.cell? ⟨w.heap.size, 5, none⟩ = some (.bool false) := blk_cell hz 5
        have z6 : wr.cell? ⟨w.heap.size, 6, none⟩ = some (.slice none 0 0) := blk_cell hz 6
        have zf0 : wr.frozen? ⟨w.heap.size, 0, none⟩ = false := blk_frozen hz 0
        have zf1 : wr.frozen? ⟨w.heap.size, 1, none⟩ = false := blk_frozen hz 1
        have zf2 : wr.frozen? ⟨w.heap.size, 2, none⟩ = false := blk_frozen hz 2
        have zf3 : wr.frozen? ⟨w.heap.size, 3, none⟩ = false := blk_frozen hz 3
        have zf4 : wr.frozen? ⟨w.heap.size, 4, none⟩ = false := blk_frozen hz 4
        have zf5 : wr.frozen? ⟨w.heap.size, 5, none⟩ = false := blk_frozen hz 5
        have zf6 : wr.frozen? ⟨w.heap.size, 6, none⟩ = false := blk_frozen hz 6
        have HZ := Aside0.mk hz
        have HR := Aside0.mk hR
        have HB := Aside0.mk hb
        have hkI : ¬ (k : Int) < (kl.length : Int) := by omega
        clear hz hn hR hb HT hkl HK
        go_wp2_with fail
        refine bodyPost_ret (results_cell_row rfl _ _ w.heap.size 24 #[.int .i64 x0, .string x1, .string x2, .int .i64 x3, .int .i64 x4, .bool x5, .slice A6 l.length q6] (0, 0) _ rfl (by refine blk_put (cs := #[.int .i64 x0, .string x1, .string x2, .int .i64 x3, .int .i64 x4, .bool x5, .slice none 0 0]) ?_ 6 _ rfl; refine blk_put (cs := #[.int .i64 x0, .string x1, .string x2, .int .i64 x3, .int .i64 x4, .bool false, .slice none 0 0]) ?_ 5 _ rfl; refine blk_put (cs := #[.int .i64 x0, .string x1, .string x2, .int .i64 x3, .int .i64 0, .bool false, .slice none 0 0]) ?_ 4 _ rfl; refine blk_put (cs := #[.int .i64 x0, .string x1, .string x2, .int .i64 0, .int .i64 0, .bool false, .slice none 0 0]) ?_ 3 _ rfl; refine blk_put (cs := #[.int .i64 x0, .string x1, .string ⟨#[]⟩, .int .i64 0, .int .i64 0, .bool false, .slice none 0 0]) ?_ 2 _ rfl; refine blk_put (cs := #[.int .i64 x0, .string ⟨#[]⟩, .string ⟨#[]⟩, .int .i64 0, .int .i64 0, .bool false, .slice none 0 0]) ?_ 1 _ rfl; refine blk_put (cs := #[.int .i64 0, .string ⟨#[]⟩, .string ⟨#[]⟩, .int .i64 0, .int .i64 0, .bool false, .slice none 0 0]) ?_ 0 _ rfl; exact HZ.out) Try.underlying24 rfl (by kernel_rfl)) rfl ?_
        exact ⟨_, rfl, tree_far7 HR.out _ _ _ _ _ _ _, tree_below7 HB.out _ _ _ _ _ _ _⟩
end
end Go.Proofs.Ytikfbipjlkhgeaa.P
