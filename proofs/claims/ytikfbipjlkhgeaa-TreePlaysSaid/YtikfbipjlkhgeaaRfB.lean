/- The document's arena: New, Unlink, Move. -/
import Derived.Test.YtikfbipjlkhgeaaRfA
import Derived.Deep.RegionHeld3
import Derived.Deep.RegionLaw
namespace Go.Proofs.Ytikfbipjlkhgeaa.P
open Go.RowKit Go.Proofs.YtikfbipjlkhgeaaW.PrintWords Go.Proofs.YtikfbipjlkhgeaaW.PrintLast Go.Proofs.YtikfbipjlkhgeaaW.PrintMore
set_option linter.unusedVariables false
set_option linter.unusedSimpArgs false
/-- Another thing than a document's arena's blocks stays. -/
def FrameR (w w' : World) : Prop := ∀ (k : Nat) (q : TypeId) (cells : Array Value), w.heap[k]? = some (Obj.cells cells q (0, 0)) → q ≠ 61 → q ≠ 24 → q ≠ 38 → w'.heap[k]? = w.heap[k]?
theorem FrameR.refl (w : World) : FrameR w w := fun _ _ _ _ _ _ _ => rfl
theorem FrameR.trans {w w1 w2 : World} (h : FrameR w w1) (h' : FrameR w1 w2) : FrameR w w2 := fun k q c hk a b d => (h' k q c ((h k q c hk a b d).trans hk) a b d).trans (h k q c hk a b d)
theorem FrameR.below {w w1 : World} (h : Below w.heap.size w w1) : FrameR w w1 := fun k _ _ hk _ _ _ => h.block k (blk_lt hk)
theorem FrameR.drew {w w1 : World} (h : FrameR w w1) : FrameR w w1.drew := h
theorem FrameR.set {w : World} {g t : Nat} {c0 : Array Value} (hb : w.heap[g]? = some (.cells c0 t (0, 0))) (ht : t = 61 ∨ t = 24 ∨ t = 38) (j : Nat) (u : Value) : FrameR w (w.setCell ⟨g, j, none⟩ u) := fun k q c hk a b d =>
  Below.heap_setCell w ⟨g, j, none⟩ u k (fun e => by
    have e : k = g := e
    subst e
    rw [hb] at hk
    injection hk with hk
    injection hk with _ hk
    subst hk
    exact ht.elim a (fun h => h.elim b d))
theorem FrameR.grown {w w1 : World} {row : Option Nat} (hg : w.grownBy w1 row) (hty : ∀ k, row = some k → ∃ t c0, w.heap[k]? = some (.cells c0 t (0, 0)) ∧ (t = 61 ∨ t = 24 ∨ t = 38)) : FrameR w w1 := fun k q c hk a b d =>
  hg.block k (blk_lt hk) (fun e => by
    obtain ⟨t, c0, hb, ht⟩ := hty k e.symm
    rw [hb] at hk
    injection hk with hk
    injection hk with _ hk
    subst hk
    exact ht.elim a (fun h => h.elim b d))
theorem R_frameR {α : Type} {d : Kd α} {w w1 : World} {B : Nat} {e : Nat} {v : Value} {xs : List α} (h : d.R e w B (fun _ => True) v xs) (hE : d.E = []) (he : e ≠ 61 ∧ e ≠ 24 ∧ e ≠ 38) (hf : FrameR w w1) : d.R e w1 B (fun _ => True) v xs := by
  refine Kd.R_mono (Kd.R_move (Kd.R_bound h) (fun k hk => ?_)) (fun _ _ => trivial)
  obtain ⟨_, _, _, q, hq, cells, hc⟩ := hk
  rw [hE] at hq
  have hq : q = e := by simpa using hq
  subst hq
  exact hf k q cells hc he.1 he.2.1 he.2.2
theorem Ar.frameR {w w1 : World} {B g : Nat} {sl : List S70} (h : Ar w B g sl) (hf : FrameR w w1) : Ar w1 B g sl := by
  obtain ⟨v, rows, h⟩ := h
  exact ⟨v, rows, h.lo, (hf g 73 _ h.blk (by decide) (by decide) (by decide)).trans h.blk, R_frameR h.row rfl (by decide) hf, h.len, h.at_, h.bare, fun i hi => R_frameR (h.kids i hi) rfl (by decide) hf, h.apart⟩
theorem Ar.lower {w : World} {B B' g : Nat} {sl : List S70} (h : Ar w B g sl) (hb : B' ≤ B) : Ar w B' g sl := by
  obtain ⟨v, rows, h⟩ := h
  exact ⟨v, rows, Nat.le_trans hb h.lo, h.blk, Kd.R_lower h.row hb, h.len, h.at_, h.bare, fun i hi => Kd.R_lower (h.kids i hi) hb, h.apart⟩
section
attribute [local go_sem] World.cell?_alloc_some
set_option maxRecDepth 100000 in
set_option maxHeartbeats 8000000 in
theorem rbare_nil (x0 : Int) (x1 x2 : ByteArray) (x3 x4 : Int) (x5 : Bool) (A : Option Addr) (n c : Nat) (w : World) :
    Calls Try.prog 67 #[.agg #[.int .i64 x0, .string x1, .string x2, .int .i64 x3, .int .i64 x4, .bool x5, .slice A n c]] w
      fun e w' => e = .returned (.agg #[.int .i64 x0, .string x1, .string x2, .int .i64 x3, .int .i64 x4, .bool x5, .slice none 0 0]) ∧ Below w.heap.size w w' := by
  have hu24 := Try.underlying24
  have HB := Aside0.mk (Below.refl w.heap.size w)
  go_enter Try.func67, Try.ntmps67
  go_wp2_with (first | ((with_reducible refine gate_dst (N := 1) rfl ?_); refine box_event ?hg (N := 1) ?hd (cs := #[.int .i64 x0, .string x1, .string x2, .int .i64 x3, .int .i64 x4, .bool x5, .slice A n c]) (t := 24) ?hr ?_; (case hd => rfl); (case hg => rfl); (case hr => first | (go_simp; done) | (go_simp; rfl)); intro gb110 hg w2 hbox hb; have n0_ := Aside0.mk (below_step (by repeat (first | (with_reducible first | exact HB.out | apply below_alloc | apply pw_below_drewN | apply below_drew1) | exact HB.out)) hb); have n1_ := Aside0.mk (hbox); have n2_ := Aside0.mk ((by rw [hg]; exact (below_size (by repeat (first | (with_reducible first | exact HB.out | apply below_alloc | apply pw_below_drewN | apply below_drew1) | exact HB.out))) : w.heap.size ≤ gb110)); have n3_ := Aside0.mk ((by rw [hg]; exact (below_size (by repeat (first | (with_reducible first | exact HB.out | apply below_alloc | apply pw_below_drewN | apply below_drew1) | exact HB.out))) : w.heap.size ≤ gb110)); clear HB; have HB := n0_; have BK110 := n1_; have GW110 := n2_; have GE110 := n3_; clear n0_ n1_ n2_ n3_; clear hb hbox hg) | ((with_reducible refine gate_dst (N := 2) rfl ?_); refine box_event ?hg (N := 2) ?hd (cs := #[.int .i64 0, .string (⟨#[]⟩ : ByteArray), .string (⟨#[]⟩ : ByteArray), .int .i64 0, .int .i64 0, .bool false, .slice none 0 0]) (t := 24) ?hr ?_; (case hd => rfl); (case hg => rfl); (case hr => first | (go_simp; done) | (go_simp; rfl)); intro gb111 hg w3 hbox hb; have n0_ := Aside0.mk (blk_below (g := gb110) (o := .cells #[.int .i64 x0, .string x1, .string x2, .int .i64 x3, .int .i64 x4, .bool x5, .slice A n c] 24 (0, 0)) (by (with_reducible repeat (first | refine blk_drewN ?_ _ | refine blk_drew ?_ | refine blk_alloc ?_ _)); exact BK110.out) hb); have n1_ := Aside0.mk (below_step (by repeat (first | (with_reducible first | exact HB.out | apply below_alloc | apply pw_below_drewN | apply below_drew1 | refine below_set ?_ GE110.out) | exact HB.out)) hb); have n2_ := Aside0.mk (hbox); have n3_ := Aside0.mk ((by rw [hg]; exact (below_size (by repeat (first | (with_reducible first | exact HB.out | apply below_alloc | apply pw_below_drewN | apply below_drew1 | refine below_set ?_ GE110.out) | exact HB.out))) : w.heap.size ≤ gb111)); have n4_ := Aside0.mk ((by rw [hg]; exact (below_size (by repeat (first | (with_reducible first | exact HB.out | apply below_alloc | apply pw_below_drewN | apply below_drew1 | refine below_set ?_ GE110.out) | exact HB.out))) : w.heap.size ≤ gb111)); have n5_ := Aside0.mk ((by rw [hg]; exact Nat.ne_of_lt (blk_lt (g := gb110) (o := .cells #[.int .i64 x0, .string x1, .string x2, .int .i64 x3, .int .i64 x4, .bool x5, .slice A n c] 24 (0, 0)) (by (with_reducible repeat (first | refine blk_drewN ?_ _ | refine blk_drew ?_ | refine blk_alloc ?_ _)); exact BK110.out)) : gb110 ≠ gb111)); have n6_ := Aside0.mk ((by rw [hg]; exact Nat.ne_of_gt (blk_lt (g := gb110) (o := .cells #[.int .i64 x0, .string x1, .string x2, .int .i64 x3, .int .i64 x4, .bool x5, .slice A n c] 24 (0, 0)) (by (with_reducible repeat (first | refine blk_drewN ?_ _ | refine blk_drew ?_ | refine blk_alloc ?_ _)); exact BK110.out)) : gb111 ≠ gb110)); clear BK110; clear HB; have BK110 := n0_; have HB := n1_; have BK111 := n2_; have GW111 := n3_; have GE111 := n4_; have NB110_111 := n5_; have NB111_110 := n6_; clear n0_ n1_ n2_ n3_ n4_ n5_ n6_; clear hb hbox hg; have hnb4 := NB110_111.out; have hnc4 := NB111_110.out; have hcz5_0 : w3.cell? ⟨gb110, 0, none⟩ = some (.int .i64 x0) := (blk_cell BK110.out 0).trans rfl; have hcz5_1 : w3.cell? ⟨gb110, 1, none⟩ = some (.string x1) := (blk_cell BK110.out 1).trans rfl; have hcz5_2 : w3.cell? ⟨gb110, 2, none⟩ = some (.string x2) := (blk_cell BK110.out 2).trans rfl; have hcz5_3 : w3.cell? ⟨gb110, 3, none⟩ = some (.int .i64 x3) := (blk_cell BK110.out 3).trans rfl; have hcz5_4 : w3.cell? ⟨gb110, 4, none⟩ = some (.int .i64 x4) := (blk_cell BK110.out 4).trans rfl; have hcz5_5 : w3.cell? ⟨gb110, 5, none⟩ = some (.bool x5) := (blk_cell BK110.out 5).trans rfl; have hcz5_6 : w3.cell? ⟨gb110, 6, none⟩ = some (.slice A n c) := (blk_cell BK110.out 6).trans rfl; have hfz5_0 := blk_frozen BK110.out 0; have hfz5_1 := blk_frozen BK110.out 1; have hfz5_2 := blk_frozen BK110.out 2; have hfz5_3 := blk_frozen BK110.out 3; have hfz5_4 := blk_frozen BK110.out 4; have hfz5_5 := blk_frozen BK110.out 5; have hfz5_6 := blk_frozen BK110.out 6; have hcz6_0 : w3.cell? ⟨gb111, 0, none⟩ = some (.int .i64 0) := (blk_cell BK111.out 0).trans rfl; have hcz6_1 : w3.cell? ⟨gb111, 1, none⟩ = some (.string (⟨#[]⟩ : ByteArray)) := (blk_cell BK111.out 1).trans rfl; have hcz6_2 : w3.cell? ⟨gb111, 2, none⟩ = some (.string (⟨#[]⟩ : ByteArray)) := (blk_cell BK111.out 2).trans rfl; have hcz6_3 : w3.cell? ⟨gb111, 3, none⟩ = some (.int .i64 0) := (blk_cell BK111.out 3).trans rfl; have hcz6_4 : w3.cell? ⟨gb111, 4, none⟩ = some (.int .i64 0) := (blk_cell BK111.out 4).trans rfl; have hcz6_5 : w3.cell? ⟨gb111, 5, none⟩ = some (.bool false) := (blk_cell BK111.out 5).trans rfl; have hcz6_6 : w3.cell? ⟨gb111, 6, none⟩ = some (.slice none 0 0) := (blk_cell BK111.out 6).trans rfl; have hfz6_0 := blk_frozen BK111.out 0; have hfz6_1 := blk_frozen BK111.out 1; have hfz6_2 := blk_frozen BK111.out 2; have hfz6_3 := blk_frozen BK111.out 3; have hfz6_4 := blk_frozen BK111.out 4; have hfz6_5 := blk_frozen BK111.out 5; have hfz6_6 := blk_frozen BK111.out 6))
  refine bodyPost_ret (results_cell_row rfl _ _ gb111 24 #[.int .i64 x0, .string x1, .string x2, .int .i64 x3, .int .i64 x4, .bool x5, .slice none 0 0] (0, 0) _ rfl (by (with_reducible repeat (first | refine blk_drewN ?_ _ | refine blk_drew ?_ | refine blk_alloc ?_ _)); refine blk_put (cs := #[.int .i64 x0, .string x1, .string x2, .int .i64 x3, .int .i64 x4, .bool x5, .slice none 0 0]) ?_ 6 _ rfl; (with_reducible repeat (first | refine blk_drewN ?_ _ | refine blk_drew ?_ | refine blk_alloc ?_ _)); refine blk_put (cs := #[.int .i64 x0, .string x1, .string x2, .int .i64 x3, .int .i64 x4, .bool false, .slice none 0 0]) ?_ 5 _ rfl; (with_reducible repeat (first | refine blk_drewN ?_ _ | refine blk_drew ?_ | refine blk_alloc ?_ _)); refine blk_put (cs := #[.int .i64 x0, .string x1, .string x2, .int .i64 x3, .int .i64 0, .bool false, .slice none 0 0]) ?_ 4 _ rfl; (with_reducible repeat (first | refine blk_drewN ?_ _ | refine blk_drew ?_ | refine blk_alloc ?_ _)); refine blk_put (cs := #[.int .i64 x0, .string x1, .string x2, .int .i64 0, .int .i64 0, .bool false, .slice none 0 0]) ?_ 3 _ rfl; (with_reducible repeat (first | refine blk_drewN ?_ _ | refine blk_drew ?_ | refine blk_alloc ?_ _)); refine blk_put (cs := #[.int .i64 x0, .string x1, .string (⟨#[]⟩ : ByteArray), .int .i64 0, .int .i64 0, .bool false, .slice none 0 0]) ?_ 2 _ rfl; (with_reducible repeat (first | refine blk_drewN ?_ _ | refine blk_drew ?_ | refine blk_alloc ?_ _)); refine blk_put (cs := #[.int .i64 x0, .string (⟨#[]⟩ : ByteArray), .string (⟨#[]⟩ : ByteArray), .int .i64 0, .int .i64 0, .bool false, .slice none 0 0]) ?_ 1 _ rfl; (with_reducible repeat (first | refine blk_drewN ?_ _ | refine blk_drew ?_ | refine blk_alloc ?_ _)); refine blk_put (cs := #[.int .i64 0, .string (⟨#[]⟩ : ByteArray), .string (⟨#[]⟩ : ByteArray), .int .i64 0, .int .i64 0, .bool false, .slice none 0 0]) ?_ 0 _ rfl; (with_reducible repeat (first | refine blk_drewN ?_ _ | refine blk_drew ?_ | refine blk_alloc ?_ _)); refine blk_far ?_ NB111_110.out _; (with_reducible repeat (first | refine blk_drewN ?_ _ | refine blk_drew ?_ | refine blk_alloc ?_ _)); exact BK111.out) Try.underlying24 rfl (by kernel_rfl)) rfl ?_
  exact ⟨rfl, by repeat (first | (with_reducible first | exact HB.out | apply below_alloc | apply pw_below_drewN | apply below_drew1 | refine below_set ?_ GE110.out | refine below_set ?_ GE111.out) | exact HB.out)⟩
set_option maxRecDepth 100000 in
set_option maxHeartbeats 8000000 in
theorem rnew_calls (x0 : Int) (x1 x2 : ByteArray) (x3 x4 : Int) (x5 : Bool) (A : Option Addr) (n c : Nat) (w : World) :
    Calls Try.prog 38 #[.agg #[.int .i64 x0, .string x1, .string x2, .int .i64 x3, .int .i64 x4, .bool x5, .slice A n c]] w
      fun e w' => ∃ g, e = .returned (.pointer (some ⟨g, 0, none⟩)) ∧ Rf w' w.heap.size g [⟨x0, x1, x2, x3, x4, x5, []⟩] [] ∧ Below w.heap.size w w' := by
  have hu24 := Try.underlying24
  have hu61 := Try.underlying61
  have HB := Aside0.mk (below_alloc (Below.refl w.heap.size w) (.cells #[.int .i64 x0, .string x1, .string x2, .int .i64 x3, .int .i64 x4, .bool x5, .slice A n c] 24))
  go_enter Try.func38, Try.ntmps38
  go_wp2_with (go_at_call 67; refine (rbare_nil _ _ _ _ _ _ _ _ _ _).mono ?_; rintro e w1 ⟨rfl, hb⟩; have B1 := Aside0.mk (below_step HB.out hb); clear hb)
  go_ret
  have hsz : w.heap.size ≤ w1.heap.size := B1.out.size
  refine ⟨w1.heap.size + 1, rfl, ⟨.slice (some ⟨w1.heap.size, 0, none⟩) 1 1, .slice none 0 0, by omega, ?_, ?_, Kd.R_nil _ _ _ _ _⟩, below_alloc (below_alloc B1.out _) _⟩
  · have h := blk_new (w1.alloc (.cells #[.int .i64 x0, .string x1, .string x2, .int .i64 x3, .int .i64 x4, .bool x5, .slice none 0 0] 24)) (.cells #[.slice (some ⟨w1.heap.size, 0, none⟩) 1 1, .slice none 0 0] 61)
    rw [World.size_alloc] at h
    exact h
  · refine Kd.R_below ?_ (below_alloc (Below.refl _ _) _)
    refine R_lit0 (Kd.raw 7) w1 w.heap.size 24 (xs := [nrow ⟨x0, x1, x2, x3, x4, x5, []⟩]) (inner := nrow ⟨x0, x1, x2, x3, x4, x5, []⟩) (okp := fun _ => True) ⟨rfl, fun j p hj => ?_⟩ (fun k hk => hk) trivial hsz (by simp)
    have hj0 : j = 0 := by
      have := (List.getElem?_eq_some_iff.1 hj).1
      simp at this
      exact this
    subst hj0
    obtain rfl := Option.some.inj hj
    refine ⟨rfl, rfl, fun u hu => ?_⟩
    have hu2 : u ∈ nrow ⟨x0, x1, x2, x3, x4, x5, []⟩ := List.mem_of_mem_drop (List.mem_of_mem_take hu)
    simp only [nrow, List.mem_cons, List.not_mem_nil, or_false] at hu2
    rcases hu2 with rfl | rfl | rfl | rfl | rfl | rfl | rfl <;> rfl
end
theorem unF_app : ∀ (a b : Lk) (id : Int), unF (a ++ b) id = unF a id ++ unF b id
  | [], _, _ => rfl
  | p :: a, b, id => by
    rw [List.cons_append, unF, unF, unF_app a b id]
    by_cases e : p.2 = id
    · rw [if_pos e, if_pos e]
    · rw [if_neg e, if_neg e, List.cons_append]
theorem unF_len : ∀ (a : Lk) (id : Int), (unF a id).length ≤ a.length
  | [], _ => Nat.le_refl _
  | p :: a, id => by
    have := unF_len a id
    rw [unF]
    split
    · simp; omega
    · simp; omega
theorem info38 : (Try.prog.info? 38).map (fun i => (i.zero, i.size, i.bytes)) = some (some (.agg #[.int .i64 0, .int .i64 0]), 2, 16) := by kernel_rfl
theorem raw2 (w : World) (B : Nat) (x y : Int) : (Kd.raw 2).M w B (fun _ => False) (prow (x, y)) [.int .i64 x, .int .i64 y] := ⟨rfl, rfl, fun u hu => by
  simp only [List.mem_cons, List.not_mem_nil, or_false] at hu
  rcases hu with rfl | rfl <;> rfl⟩
def unK (K : Lk) (id : Int) : Lk := if 0 ≤ parF K id then unF K id else K
/-- The links are others. -/
theorem RfIn.links {w : World} {B g : Nat} {vL vK v : Value} {L : List S24} {K K' : Lk} (h : RfIn w B g vL vK L K) (hR : (Kd.raw 2).R 38 w B (fun _ => True) v (K'.map prow)) : Rf (w.setCell ⟨g, 1, none⟩ v) B g L K' ∧ FrameR w (w.setCell ⟨g, 1, none⟩ v) :=
  ⟨⟨vL, v, h.lo, blk_put h.blk 1 v (by simp), Kd.R_set h.rowL h.blk (by decide) 1 v, Kd.R_set hR h.blk (by decide) 1 v⟩, FrameR.set h.blk (.inl rfl) 1 v⟩
set_option maxRecDepth 100000 in
set_option maxHeartbeats 8000000 in
theorem runlink_calls {w : World} {B g : Nat} {L : List S24} {K : Lk} (h : Rf w B g L K) (id : Int) (hl : K.length ≤ 1000000000) :
    Calls Try.prog 43 #[.pointer (some ⟨g, 0, none⟩), .int .i64 id] w fun e w' => e = .returned (.bool (decide (0 ≤ parF K id))) ∧ Below B w w' ∧ FrameR w w' ∧ Rf w' B g L (unK K id) := by
  have hBs := h.size
  have HH := Aside0.mk h
  have CP := Aside0.mk (rparent_calls h id hl)
  unfold unK
  by_cases h0 : 0 ≤ parF K id
  · rw [decide_eq_true h0, if_pos h0]
    obtain ⟨vL, vK, h⟩ := h
    obtain ⟨A, c, rfl⟩ := h.sliceK
    have HR := Aside0.mk h
    obtain ⟨n, en⟩ : ∃ n, n = K.length := ⟨_, rfl⟩
    have HEN := Aside0.mk en
    have hn0 : decide (parF K id < 0) = false := decide_eq_false (by omega)
    have h1 : w.cell? ⟨g, 1, none⟩ = some (.slice A K.length c) := blk_cell h.blk 1
    have HG := Aside0.mk (show ∀ w', Below w.heap.size w w' → w'.cell? ⟨g, 1, none⟩ = some (.slice A n c) from fun w' hb => by rw [en]; exact blk_cell (blk_below h.blk hb) 1)
    rw [← en] at h1 hl
    clear h en h0
    generalize parF K id = pk at CP hn0
    go_enter Try.func43, Try.ntmps43
    go_wp2_with (go_at_call 47; refine CP.out.mono ?_; rintro e w1 ⟨rfl, hw⟩; obtain rfl := hw.symm)
    go_loopw [5, 6] (fun v5 v6 wr => ∃ k : Nat, k ≤ n ∧ v6 = .int .i64 k ∧ Aside0 ((Kd.raw 2).R 38 wr w.heap.size (fun _ => True) v5 ((unF (K.take k) id).map prow) ∧ Below w.heap.size w wr)) (fun _ v _ => n - (intOf v).toNat)
    case atStart => exact ⟨0, by omega, rfl, ⟨Kd.R_nil _ _ _ _ _, Below.refl _ _⟩⟩
    case round =>
      obtain ⟨k, hk, rfl, HI⟩ := hrel
      have g1 := HG.out wr HI.out.2
      by_cases hlt : k < n
      · have hkl : k < K.length := by rw [← HEN.out]; exact hlt
        obtain ⟨ad, rfl, hx0, hy0⟩ := HR.out.atK k hkl
        have hx := (HI.out.2.cell (World.block_lt_of_cell? w _ hx0)).trans hx0
        have hy := (HI.out.2.cell (World.block_lt_of_cell? w _ hy0)).trans hy0
        have hstep := congrArg (fun l => (unF l id).map prow) (take_getD K k hkl)
        simp only [unF_app, List.map_append] at hstep
        have hkI : (k : Int) < (n : Int) := by omega
        have hkN : IntKind.i64.wrap ((k : Int) + 1) = (k : Int) + 1 := by rw [IntKind.wrap_i64]; omega
        obtain ⟨out, eout⟩ : ∃ out, out = (unF (K.take k) id).map prow := ⟨_, rfl⟩
        have hol : out.length ≤ 1000000000 := by
          rw [eout, List.length_map]
          have := unF_len (K.take k) id
          rw [List.length_take] at this
          omega
        rw [← eout] at HI hstep
        clear eout hx0 hy0 hkl
        have e2 : ∀ p : Int × Int, unF [p] id = if p.2 = id then [] else [p] := fun p => rfl
        rw [e2] at hstep
        obtain ⟨⟨x, y⟩, exy⟩ : ∃ p : Int × Int, p = K.getD k (0, 0) := ⟨_, rfl⟩
        rw [← exy] at hx hy hstep
        simp only at hx hy hstep
        clear exy
        by_cases e : y = id
        · have eb : (y == id) = true := by simpa using e
          have eb2 : (y != id) = false := by simpa using e
          rw [if_pos e, List.map_nil, List.append_nil] at hstep
          have HST := Aside0.mk hstep
          clear hstep e e2 hol
          go_wp2_with fail
          go_roundw
          case rel => exact ⟨k + 1, by omega, by go_num, ⟨by rw [HST.out]; exact HI.out.1, HI.out.2⟩⟩
          case measure => simp [intOf]; omega
        · have eb : (y == id) = false := by simpa using e
          have eb2 : (y != id) = true := by simpa using e
          rw [if_neg e] at hstep
          have HST := Aside0.mk hstep
          have HO := Aside0.mk HI.out.1
          have HB := Aside0.mk HI.out.2
          have HL := Aside0.mk hol
          have HX := Aside0.mk (raw2 wr w.heap.size x y)
          obtain ⟨Ao, co, eo⟩ := Kd.R_slice HO.out
          subst eo
          clear hstep e e2 hol HI
          go_wp2_with (first | ((with_reducible refine gate_builtin (b := .append) (xs := #[.tmp 30, .tmp 38]) rfl ?_); at_builtin; refine Kd.R_append (Kd.raw 2) (w0 := w) w.heap.size rfl (.tmp 30) (.tmp 38) 35 38 (.agg #[.int .i64 0, .int .i64 0]) 16 rfl Try.underlying35 info38 rfl (by decide) (by omega) (.slice Ao out.length co) out (prow (x, y)) [.int .i64 x, .int .i64 y] (fun _ => True) (fun _ => False) (by rfl) (by rfl) ?aP (fun _ hk => hk.elim) (fun _ _ => trivial) HO.out HB.out HB.out.size ?aL ?_; (case aP => exact HX.out); (case aL => have := HL.out; omega); intro v9 w9 ho hb hg hat; have HO9 := Aside0.mk ho; have HB9 := Aside0.mk hb; clear ho hb hg hat))
          go_roundw
          case rel => exact ⟨k + 1, by omega, by go_num, ⟨by rw [HST.out]; exact HO9.out, HB9.out⟩⟩
          case measure => simp [intOf]; omega
      · have hkn : k = n := by omega
        subst hkn
        have hkI : ¬ (k : Int) < (k : Int) := by omega
        have HI9 := Aside0.mk HI.out
        rw [List.take_of_length_le (by rw [HEN.out]; exact Nat.le_refl _)] at HI9
        obtain ⟨Ao, co, eo⟩ := Kd.R_slice HI9.out.1
        rw [List.length_map] at eo
        subst eo
        have hfin := (HR.out.step HI9.out.2).links (Kd.R_lower HI9.out.1 hBs)
        have HFin := Aside0.mk hfin
        have hfz : wr.frozen? ⟨g, 1, none⟩ = false := blk_frozen (HR.out.step HI9.out.2).blk 1
        have HLO := Aside0.mk HR.out.lo
        clear HI hfin
        go_wp2_with fail
        go_ret
        exact ⟨rfl, (HI9.out.2.mono hBs).setCell HLO.out _, (FrameR.below HI9.out.2).trans HFin.out.2, HFin.out.1⟩
  · rw [decide_eq_false h0, if_neg h0]
    have hn0 : decide (parF K id < 0) = true := decide_eq_true (by omega)
    clear h0
    generalize parF K id = pk at CP hn0
    go_enter Try.func43, Try.ntmps43
    go_wp2_with (go_at_call 47; refine CP.out.mono ?_; rintro e w1 ⟨rfl, rfl⟩)
    go_ret
    exact ⟨rfl, Below.refl _ _, FrameR.refl _, HH.out⟩
def mvB (L : List S24) (K : Lk) (id p : Int) : Bool := hasF L id && (hasF L p && (!(id == 0) && !belF K (L.length + 1) p id))
set_option maxRecDepth 100000 in
set_option maxHeartbeats 8000000 in
theorem rmove_calls {w : World} {B g : Nat} {L : List S24} {K : Lk} (h : Rf w B g L K) (id p : Int) (hl : K.length ≤ 1000000000) (hL : L.length ≤ 1000000000) :
    Calls Try.prog 44 #[.pointer (some ⟨g, 0, none⟩), .int .i64 id, .int .i64 p] w fun e w' => e = .returned (.bool (mvB L K id p)) ∧ Below B w w' ∧ FrameR w w' ∧ Rf w' B g L (if mvB L K id p = true then unK K id ++ [(p, id)] else K) := by
  have hBs := h.size
  have HH := Aside0.mk h
  have C1 := Aside0.mk (rhas_calls h id)
  have C2 := Aside0.mk (rhas_calls h p)
  have C3 := Aside0.mk (rbelow_calls h p id hl hL)
  have C4 := Aside0.mk (runlink_calls h id hl)
  unfold mvB
  cases b1 : hasF L id with
  | false =>
    rw [b1] at C1
    go_enter Try.func44, Try.ntmps44
    go_wp2_with (first | (go_at_call 42; refine C1.out.mono ?_; rintro e w1 ⟨rfl, rfl⟩))
    go_ret
    exact ⟨rfl, Below.refl _ _, FrameR.refl _, HH.out⟩
  | true =>
    rw [b1] at C1
    cases b2 : hasF L p with
    | false =>
      rw [b2] at C2
      go_enter Try.func44, Try.ntmps44
      go_wp2_with (first | (go_at_call_of 42 id; refine C1.out.mono ?_; rintro e w1 ⟨rfl, rfl⟩) | (go_at_call 42; refine C2.out.mono ?_; rintro e w1 ⟨rfl, rfl⟩))
      go_ret
      exact ⟨rfl, Below.refl _ _, FrameR.refl _, HH.out⟩
    | true =>
      rw [b2] at C2
      cases b3 : (id == 0) with
      | true =>
        go_enter Try.func44, Try.ntmps44
        go_wp2_with (first | (go_at_call_of 42 id; refine C1.out.mono ?_; rintro e w1 ⟨rfl, rfl⟩) | (go_at_call 42; refine C2.out.mono ?_; rintro e w1 ⟨rfl, rfl⟩))
        go_ret
        exact ⟨rfl, Below.refl _ _, FrameR.refl _, HH.out⟩
      | false =>
        cases b4 : belF K (L.length + 1) p id with
        | true =>
          rw [b4] at C3
          go_enter Try.func44, Try.ntmps44
          go_wp2_with (first | (go_at_call_of 42 id; refine C1.out.mono ?_; rintro e w1 ⟨rfl, rfl⟩) | (go_at_call 42; refine C2.out.mono ?_; rintro e w1 ⟨rfl, rfl⟩) | (go_at_call 68; refine C3.out.mono ?_; rintro e w1 ⟨rfl, rfl⟩))
          go_ret
          exact ⟨rfl, Below.refl _ _, FrameR.refl _, HH.out⟩
        | false =>
          rw [b4] at C3
          have HUL := Aside0.mk (show (unK K id).length ≤ 1000000000 by unfold unK; split; exact Nat.le_trans (unF_len K id) hl; exact hl)
          obtain ⟨K2, eK⟩ : ∃ K2, K2 = unK K id := ⟨_, rfl⟩
          rw [← eK] at C4 HUL
          have HEK := Aside0.mk eK
          clear eK hl hL b1 b2 b4 h
          go_enter Try.func44, Try.ntmps44
          go_wp2_with (first
            | (go_at_call_of 42 id; refine C1.out.mono ?_; rintro e w1 ⟨rfl, rfl⟩)
            | (go_at_call 42; refine C2.out.mono ?_; rintro e w1 ⟨rfl, rfl⟩)
            | (go_at_call 68; refine C3.out.mono ?_; rintro e w1 ⟨rfl, rfl⟩)
            | (go_at_call 43; refine C4.out.mono ?_; rintro e w2 ⟨rfl, hb, hf, hr⟩; obtain ⟨vL, vK, hr⟩ := hr; obtain ⟨Ak, ck, ek⟩ := hr.sliceK; subst ek; have g1 : w2.cell? ⟨g, 1, none⟩ = some (.slice Ak K2.length ck) := blk_cell hr.blk 1; have HR2 := Aside0.mk hr; have HB2 := Aside0.mk hb; have HF2 := Aside0.mk hf; have HO2 := Aside0.mk hr.rowK; have hne2 := Kd.R_ne hr.rowK hr.blk (by decide); have HS2 := Aside0.mk (show B ≤ w2.heap.size from Rf.size ⟨_, _, hr⟩); clear hb hf hr)
            | ((with_reducible refine gate_builtin (b := .append) (xs := #[.tmp 34, .tmp 38]) rfl ?_); at_builtin; refine Kd.R_append (Kd.raw 2) (w0 := w2) B rfl (.tmp 34) (.tmp 38) 35 38 (.agg #[.int .i64 0, .int .i64 0]) 16 rfl Try.underlying35 info38 rfl (by decide) (by omega) (.slice Ak K2.length ck) (K2.map prow) (prow (p, id)) [.int .i64 p, .int .i64 id] (fun _ => True) (fun _ => False) (by rfl) (by rfl) ?aP (fun _ hk => hk.elim) (fun _ _ => trivial) HO2.out (Below.refl _ _) HS2.out ?aL ?_; (case aP => exact raw2 _ _ _ _); (case aL => have := HUL.out; rw [List.length_map]; omega); intro v9 w9 ho hb hg hat; have g19 : w9.cell? ⟨g, 1, none⟩ = some (.slice Ak K2.length ck) := blk_cell (blk_grown HR2.out.blk hg hne2) 1; have hfz9 : w9.frozen? ⟨g, 1, none⟩ = false := blk_frozen (blk_grown HR2.out.blk hg hne2) 1; obtain ⟨A9, c9, e9⟩ := Kd.R_slice ho; rw [show (K2.map prow ++ [prow (p, id)]).length = K2.length + 1 by simp] at e9; subst e9; have HO9 := Aside0.mk ho; have HB9 := Aside0.mk hb; have HG9 := Aside0.mk hg; clear ho hb hg hat))
          go_ret
          have hm := Kd.R_over HR2.out.rowL HO2.out (by decide) HG9.out
          have hin : RfIn w9 B g vL (.slice Ak K2.length ck) L K2 → True := fun _ => trivial
          have hblk := blk_grown HR2.out.blk HG9.out hne2
          have hrow := HO9.out
          rw [show K2.map prow ++ [prow (p, id)] = (K2 ++ [(p, id)]).map prow by simp] at hrow
          refine ⟨rfl, (HB2.out.trans HB9.out).setCell HR2.out.lo _, (HF2.out.trans (FrameR.grown HG9.out fun k hk => ?_)).trans (FrameR.set hblk (.inl rfl) 1 _), ?_⟩
          · obtain ⟨cells, hc⟩ := Kd.R_typed HO2.out k hk
            exact ⟨38, cells, hc, .inr (.inr rfl)⟩
          · show Rf _ B g L (unK K id ++ [(p, id)])
            rw [← HEK.out]
            exact ⟨vL, _, HR2.out.lo, blk_put hblk 1 _ (by simp), Kd.R_set hm hblk (by decide) 1 _, Kd.R_set hrow hblk (by decide) 1 _⟩
end Go.Proofs.Ytikfbipjlkhgeaa.P
