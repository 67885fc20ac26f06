/- (*foot.counter).number. -/
import Derived.Test.YtbgbmphjjdiaeaaDoorFootE
import Derived.BigRegion
import Derived.Outline
namespace Go.Proofs.YtbgbmphjjdiaeaaDoor.P
open Go.RowKit Go.Maps Go.Proofs.YtbgbmphjjdiaeaaDoor.MF Go.Proofs.YtbgbmphjjdiaeaaDoorW.PrintWords Go.Proofs.YtbgbmphjjdiaeaaDoorW.PrintLast Go.Proofs.YtbgbmphjjdiaeaaDoorW.PrintMore
set_option linter.unusedVariables false
set_option linter.unusedSimpArgs false
/-- The counter's parts, each by itself. -/
structure CnR (w0 : World) (cb nb ub rb : Nat) (F : Bs → Option S24) (v : Value) (O : List Bs) (U R : Bs → Option Int) (W : World) : Prop where
  sc : W.heap[cb]? = some (.cells #[.map (some nb), .map (some ub), v, .map (some rb)] 62 (0, 0))
  row : Kd.R Kd.string 9 W w0.heap.size (fun _ => True) v (O.map txt)
  pc : W.heap[cb + 1]? = some (.cells #[.pointer (some ⟨cb, 0, none⟩)] 58 (0, 0))
  nt : ∃ V : Bs → Option Value, MapT W id nb V ∧ NotesOk w0 V F
  um : MapT W (Value.int .i64) ub U
  rm : MapT W (Value.int .i64) rb R
  below : Below w0.heap.size w0 W
  lo : w0.heap.size ≤ cb ∧ w0.heap.size ≤ nb ∧ w0.heap.size ≤ ub ∧ w0.heap.size ≤ rb
  ne : nb ≠ ub ∧ nb ≠ rb ∧ ub ≠ rb
section
variable {w0 W W1 : World} {cb nb ub rb : Nat} {F : Bs → Option S24} {st : Cnt} {v : Value} {O : List Bs} {U R : Bs → Option Int}
theorem CnI.toR (h : CnI w0 cb nb ub rb F st W) : ∃ v, CnR w0 cb nb ub rb F v st.ord (numF st) (refF st) W := by
  obtain ⟨v, h1, h2⟩ := h.sc
  exact ⟨v, h1, h2, h.pc, h.nt, h.um, h.rm, h.below, h.lo, h.ne⟩
theorem CnR.toI (h : CnR w0 cb nb ub rb F v O U R W) (hO : O = st.ord) (hU : U = numF st) (hR : R = refF st) : CnI w0 cb nb ub rb F st W := by
  subst hO; subst hU; subst hR
  exact ⟨⟨v, h.sc, h.row⟩, h.pc, h.nt, h.um, h.rm, h.below, h.lo, h.ne⟩
theorem CnR.step (h : CnR w0 cb nb ub rb F v O U R W) (hb : Below W.heap.size W W1) : CnR w0 cb nb ub rb F v O U R W1 := by
  obtain ⟨V, h3, h4⟩ := h.nt
  exact ⟨blk_below h.sc hb, Kd.R_below h.row hb, blk_below h.pc hb, ⟨V, h3.below' hb, h4⟩, h.um.below' hb, h.rm.below' hb, below_then h.below h.below.size hb, h.lo, h.ne⟩
theorem CnR.c0 (h : CnR w0 cb nb ub rb F v O U R W) : W.cell? ⟨cb, 0, none⟩ = some (.map (some nb)) := blk_cell h.sc 0
theorem CnR.c1 (h : CnR w0 cb nb ub rb F v O U R W) : W.cell? ⟨cb, 1, none⟩ = some (.map (some ub)) := blk_cell h.sc 1
theorem CnR.c2 (h : CnR w0 cb nb ub rb F v O U R W) : W.cell? ⟨cb, 2, none⟩ = some v := blk_cell h.sc 2
theorem CnR.c3 (h : CnR w0 cb nb ub rb F v O U R W) : W.cell? ⟨cb, 3, none⟩ = some (.map (some rb)) := blk_cell h.sc 3
theorem zero3_ (w : World) : (zeroValue 3).run Tryd.prog w = .ok (.int .i64 0) w := Tryd.zeroValue3 w
theorem look60 {w : World} {mb : Nat} {f : Bs → Option Int} (h : MapT w (Value.int .i64) mb f) (s : Bs) (hs : s.length ≤ 9223372036854775807) :
    (Instr.lookup 60 (.map (some mb)) (.string (txt s)) false).run Tryd.prog w = .ok (.int .i64 ((f s).getD 0)) w := by
  have := lookT Tryd.underlying60 vint_inj (zero3_ w) h s hs false
  unfold encT at this
  rw [this]
  cases f s <;> rfl
theorem CnR.setU (h : CnR w0 cb nb ub rb F v O U R W) (s : Bs) (i : Int) (hs : s.length ≤ 9223372036854775807) :
    ∃ w1, (Instr.mapUpdate 60 (.map (some ub)) (.string (txt s)) (.int .i64 i)).run Tryd.prog W = .ok () w1 ∧ CnR w0 cb nb ub rb F v O (fun x => if x = s then some i else U x) R w1 ∧ Same24 W w1 := by
  obtain ⟨hu, hm, hg⟩ := updT Tryd.underlying60 vint_inj h.um s i hs
  obtain ⟨V, h3, h4⟩ := h.nt
  exact ⟨_, hu, ⟨cells_map h.sc h.um hg, R_string_map h.row h.um hg, cells_map h.pc h.um hg, ⟨V, h3.grown hg (fun e => h.ne.1 (Option.some.inj e)), h4⟩, hm, h.rm.grown hg (fun e => h.ne.2.2 (Option.some.inj e).symm), h.below.grown hg h.below.size (fun i hi => by injection hi with hi; rw [← hi]; exact h.lo.2.2.1), h.lo, h.ne⟩, Same24.grown hg (fun q cells hq e => by injection e with e; exact h.um.ne_cells hq e)⟩
theorem CnR.setR (h : CnR w0 cb nb ub rb F v O U R W) (s : Bs) (i : Int) (hs : s.length ≤ 9223372036854775807) :
    ∃ w1, (Instr.mapUpdate 60 (.map (some rb)) (.string (txt s)) (.int .i64 i)).run Tryd.prog W = .ok () w1 ∧ CnR w0 cb nb ub rb F v O U (fun x => if x = s then some i else R x) w1 ∧ Same24 W w1 := by
  obtain ⟨hu, hm, hg⟩ := updT Tryd.underlying60 vint_inj h.rm s i hs
  obtain ⟨V, h3, h4⟩ := h.nt
  exact ⟨_, hu, ⟨cells_map h.sc h.rm hg, R_string_map h.row h.rm hg, cells_map h.pc h.rm hg, ⟨V, h3.grown hg (fun e => h.ne.2.1 (Option.some.inj e)), h4⟩, h.um.grown hg (fun e => h.ne.2.2 (Option.some.inj e)), hm, h.below.grown hg h.below.size (fun i hi => by injection hi with hi; rw [← hi]; exact h.lo.2.2.2), h.lo, h.ne⟩, Same24.grown hg (fun q cells hq e => by injection e with e; exact h.rm.ne_cells hq e)⟩
end
section
attribute [local go_sem] World.cell?_alloc_some World.cell?_setCell_far
set_option maxRecDepth 100000 in
set_option maxHeartbeats 8000000 in
/-- No note has the label. -/
theorem number_no {w0 W : World} {cb nb ub rb nx : Nat} {F : Bs → Option S24} {st : Cnt} (h : CnI w0 cb nb ub rb F st W) {y0 y3 y4 : Int} {y1 y2 : ByteArray} {y5 : Bool} {y6 : Value} (hx : W.heap[nx]? = some (.cells #[.int .i64 y0, .string y1, .string y2, .int .i64 y3, .int .i64 y4, .bool y5, y6] 24 (0, 0)))
    (hs : y1.size ≤ 1099511627776) (hF : F (bts y1) = none) :
    Calls Tryd.prog 78 #[.pointer (some ⟨cb, 0, none⟩), .pointer (some ⟨nx, 0, none⟩)] W fun e w' => e = .returned (.bool false) ∧ Below W.heap.size W w' := by
  obtain ⟨v, hR⟩ := h.toR
  obtain ⟨V, h3, h4⟩ := hR.nt
  have hlk := look59 h3 (bts y1) (by rw [bts_len]; omega) true
  rw [if_pos rfl, txt_bts] at hlk
  have hv : V (bts y1) = none := by
    rcases h4 (bts y1) with ⟨hv, _⟩ | ⟨x, A, n, c, hf, _⟩
    · exact hv
    · rw [hF] at hf; cases hf
  rw [hv] at hlk
  simp only [Option.getD_none, Option.isSome_none] at hlk
  unfold zag at hlk
  have hlw : ∀ w', Below W.heap.size W w' → (Instr.lookup 59 (.map (some nb)) (.string y1) true).run Tryd.prog w' = .ok (.tuple #[.agg #[.int .i64 0, .string ⟨#[]⟩, .string ⟨#[]⟩, .int .i64 0, .int .i64 0, .bool false, .slice none 0 0], .bool false]) w' := fun w' hb => by
    have hlk := look59 (h3.below' hb) (bts y1) (by rw [bts_len]; omega) true
    rw [if_pos rfl, txt_bts, hv] at hlk
    exact hlk
  have hlk1 := hlw _ (below_drew (Below.refl _ _))
  have hlk2 := hlw _ (below_drew (below_alloc (Below.refl _ _) (.cells #[.int .i64 0, .string ⟨#[]⟩, .string ⟨#[]⟩, .int .i64 0, .int .i64 0, .bool false, .slice none 0 0] 24)))
  clear hlw
  have HK := Aside0.mk (show ∀ w', Below W.heap.size W w' → w'.cell? ⟨cb, 0, none⟩ = some (.map (some nb)) ∧ w'.cell? ⟨nx, 1, none⟩ = some (.string y1) from fun w' hb => ⟨(hR.step hb).c0, blk_cell (blk_below hx hb) 1⟩)
  have c0 := hR.c0
  have n1 : W.cell? ⟨nx, 1, none⟩ = some (.string y1) := blk_cell hx 1
  clear hR h3 h4 hv hF hs hx h hlk
  go_enter Tryd.func78, Tryd.ntmps78
  go_wp2_with fail
  go_region_held3 (fun w' => w'.cell? ⟨cb, 0, none⟩ = some (.map (some nb)) ∧ w'.cell? ⟨nx, 1, none⟩ = some (.string y1)) (exact HK.out _ (by repeat (first | exact Below.refl _ _ | apply below_drew | apply below_alloc | (refine below_set ?_ (by first | exact Nat.le_refl _ | simp))))) (fail)
  all_goals
    go_wp2_with fail
    go_ret
    exact ⟨rfl, by repeat (first | exact Below.refl _ _ | apply below_drew | apply below_alloc | (refine below_set ?_ (by first | exact Nat.le_refl _ | simp)))⟩
/-- But for one block, the blocks of nodes are the same. -/
def Same24x (nx : Nat) (w w1 : World) : Prop := w.heap.size ≤ w1.heap.size ∧ ∀ (q : Nat) (cells : Array Value), q ≠ nx → w.heap[q]? = some (.cells cells 24 (0, 0)) → w1.heap[q]? = some (.cells cells 24 (0, 0))
theorem Same24.x {w w1 : World} (h : Same24 w w1) (nx : Nat) : Same24x nx w w1 := ⟨h.1, fun q c _ hq => h.2 q c hq⟩
theorem Same24x.trans {w w1 w2 : World} {nx : Nat} (h : Same24x nx w w1) (k : Same24x nx w1 w2) : Same24x nx w w2 := ⟨Nat.le_trans h.1 k.1, fun q c hne hq => k.2 q c hne (h.2 q c hne hq)⟩
theorem Same24x.set (w : World) (nx j : Nat) (v : Value) : Same24x nx w (w.setCell ⟨nx, j, none⟩ v) :=
  ⟨by rw [World.size_setCell]; exact Nat.le_refl _, fun q c hne hq => blk_far hq (p := ⟨nx, j, none⟩) hne v⟩
theorem refF_get (st : Cnt) (s : Bs) : (refF st s).getD 0 = (st.cnt s : Int) := by
  unfold refF
  by_cases h : st.cnt s = 0
  · rw [if_pos h, h]; rfl
  · rw [if_neg h]; rfl
theorem numF_get (st : Cnt) (s : Bs) (h : s ∈ st.ord) : (numF st s).getD 0 = (st.num s : Int) := by
  unfold numF
  rw [if_pos h]; rfl
theorem refF_add (st : Cnt) (s : Bs) : (fun x => if x = s then some ((st.cnt s : Int) + 1) else refF st x) = refF (st.add s) := by
  funext x
  unfold refF
  show _ = if (if x = s then st.cnt x + 1 else st.cnt x) = 0 then none else some (((if x = s then st.cnt x + 1 else st.cnt x) : Nat) : Int)
  by_cases h : x = s
  · subst h
    rw [if_pos rfl, if_pos rfl, if_neg (by omega)]
    rfl
  · rw [if_neg h, if_neg h]
theorem CnR.setN {w0 W : World} {cb nb ub rb nx : Nat} {F : Bs → Option S24} {v : Value} {O : List Bs} {U R : Bs → Option Int} (h : CnR w0 cb nb ub rb F v O U R W) {cs : Array Value} (hx : W.heap[nx]? = some (.cells cs 24 (0, 0))) (hlo : w0.heap.size ≤ nx) (j : Nat) (u : Value) : CnR w0 cb nb ub rb F v O U R (W.setCell ⟨nx, j, none⟩ u) := by
  obtain ⟨V, h3, h4⟩ := h.nt
  exact ⟨blk_far h.sc (p := ⟨nx, j, none⟩) (blk_ne h.sc hx (by decide)) u, Kd.R_set h.row hx (by decide) j u, blk_far h.pc (p := ⟨nx, j, none⟩) (blk_ne h.pc hx (by decide)) u, ⟨V, map_set h3 hx j u, h4⟩, map_set h.um hx j u, map_set h.rm hx j u, h.below.setCell hlo u, h.lo, h.ne⟩
theorem numF_hit (st : Cnt) (s : Bs) (h : s ∈ st.ord) : numF st = numF (st.add s) ∧ st.ord = (st.add s).ord ∧ (numF st s).getD 0 = (((st.add s).num s : Nat) : Int) := by
  have eO : st.ord = (st.add s).ord := by
    show _ = if s ∈ st.ord then st.ord else _
    rw [if_pos h]
  have eN : numF st = numF (st.add s) := by unfold numF Cnt.num; rw [← eO]
  refine ⟨eN, eO, ?_⟩
  rw [eN, numF_get (st.add s) s (by rw [← eO]; exact h)]
theorem add_new (st : Cnt) (s : Bs) (h : s ∉ st.ord) : (st.add s).ord = st.ord ++ [s] ∧ (st.add s).num s = st.ord.length + 1 := by
  have eO : (st.add s).ord = st.ord ++ [s] := by
    show (if s ∈ st.ord then st.ord else _) = _
    rw [if_neg h]
  refine ⟨eO, ?_⟩
  unfold Cnt.num
  rw [eO, List.idxOf_append, if_neg h]
  simp
theorem add_mem (st : Cnt) (s : Bs) : s ∈ (st.add s).ord := by
  show s ∈ if s ∈ st.ord then st.ord else st.ord ++ [s]
  split
  · assumption
  · simp
theorem numF_new (st : Cnt) (s : Bs) (h : s ∉ st.ord) : (fun x => if x = s then some (((st.add s).num s : Nat) : Int) else numF st x) = numF (st.add s) := by
  obtain ⟨eO, eN⟩ := add_new st s h
  funext x
  by_cases hx : x = s
  · subst hx
    rw [if_pos rfl]
    unfold numF
    rw [if_pos (by rw [eO]; simp)]
  · rw [if_neg hx]
    unfold numF
    by_cases hm : x ∈ st.ord
    · rw [if_pos hm, if_pos (by rw [eO]; simp [hm])]
      unfold Cnt.num
      rw [eO, List.idxOf_append, if_pos hm]
    · rw [if_neg hm, if_neg (by rw [eO]; simp [hm, hx])]
theorem CnR.appO {w0 W W1 : World} {cb nb ub rb : Nat} {F : Bs → Option S24} {v v1 : Value} {O : List Bs} {U R : Bs → Option Int} (h : CnR w0 cb nb ub rb F v O U R W) {s : Bs} (hb : Below w0.heap.size w0 W1) (hg : W.drew.grownBy W1 v.ownBlock) (hr : Kd.R Kd.string 9 W1 w0.heap.size (fun _ => True) v1 (O.map txt ++ [txt s])) :
    CnR w0 cb nb ub rb F v1 (O ++ [s]) U R (W1.setCell ⟨cb, 2, none⟩ v1) ∧ Same24 W (W1.setCell ⟨cb, 2, none⟩ v1) := by
  obtain ⟨V, h3, h4⟩ := h.nt
  have hsc := blk_grown (blk_drew h.sc) hg (Kd.R_ne h.row h.sc (by decide))
  have hput := blk_put hsc 2 v1 (cs' := #[.map (some nb), .map (some ub), v1, .map (some rb)]) (by simp)
  have hd : Below W.heap.size W W.drew := below_drew (Below.refl _ _)
  have g3 := (h3.below' hd).grown hg (own_ne_map h.row h3)
  have gu := (h.um.below' hd).grown hg (own_ne_map h.row h.um)
  have gr := (h.rm.below' hd).grown hg (own_ne_map h.row h.rm)
  refine ⟨⟨hput, ?_, blk_far (blk_grown (blk_drew h.pc) hg (Kd.R_ne h.row h.pc (by decide))) (p := ⟨cb, 2, none⟩) (show cb + 1 ≠ cb by omega) v1, ⟨V, map_set g3 hsc 2 v1, h4⟩, map_set gu hsc 2 v1, map_set gr hsc 2 v1, hb.setCell h.lo.1 v1, h.lo, h.ne⟩, ?_⟩
  · rw [List.map_append]
    exact Kd.R_set hr hsc (by decide) 2 v1
  · exact ((Same24.below hd).trans (Same24.grown hg (fun q cells hq => Kd.R_ne h.row hq (by decide)))).trans (Same24.set hsc (by decide) 2 v1)
set_option maxRecDepth 100000 in
set_option maxHeartbeats 8000000 in
/-- The label has a note. -/
theorem number_yes {w0 W : World} {cb nb ub rb nx : Nat} {F : Bs → Option S24} {st : Cnt} (h : CnI w0 cb nb ub rb F st W) {y0 y3 y4 : Int} {y1 y2 : ByteArray} {y5 : Bool} {y6 : Value} (hx : W.heap[nx]? = some (.cells #[.int .i64 y0, .string y1, .string y2, .int .i64 y3, .int .i64 y4, .bool y5, y6] 24 (0, 0)))
    (hlo : w0.heap.size ≤ nx) (hs : y1.size ≤ 1099511627776) (hF : (F (bts y1)).isSome = true) (hcn : st.cnt (bts y1) ≤ 1000000000000) (hol : st.ord.length ≤ 1000000000000) :
    Calls Tryd.prog 78 #[.pointer (some ⟨cb, 0, none⟩), .pointer (some ⟨nx, 0, none⟩)] W fun e w' => e = .returned (.bool true) ∧ CnI w0 cb nb ub rb F (st.add (bts y1)) w' ∧
      w'.heap[nx]? = some (.cells #[.int .i64 y0, .string y1, .string y2, .int .i64 (((st.add (bts y1)).num (bts y1) : Nat) : Int), .int .i64 (((st.add (bts y1)).cnt (bts y1) : Nat) : Int), .bool y5, y6] 24 (0, 0)) ∧ Same24x nx W w' := by
  obtain ⟨v, hR⟩ := h.toR
  obtain ⟨V, h3, h4⟩ := hR.nt
  obtain ⟨x, A, n, c, hf, hv, hn, hnc, hC⟩ : ∃ (x : S24) (A : Option Addr) (n c : Nat), F (bts y1) = some x ∧ V (bts y1) = some (.agg #[.int .i64 x.f0, .string x.f1, .string x.f2, .int .i64 x.f3, .int .i64 x.f4, .bool x.f5, .slice A n c]) ∧ n = x.f6.length ∧ n ≤ c ∧ Kd.C k24 w0 A n x.f6 := by
    rcases h4 (bts y1) with ⟨_, hv⟩ | h
    · rw [hv] at hF; cases hF
    · exact h
  obtain ⟨x0, x1, x2, x3, x4, x5, x6⟩ := x
  simp only at hv
  have hsl : (bts y1).length ≤ 9223372036854775807 := by rw [bts_len]; omega
  have hlw : ∀ w', Below W.heap.size W w' → (Instr.lookup 59 (.map (some nb)) (.string y1) true).run Tryd.prog w' = .ok (.tuple #[.agg #[.int .i64 x0, .string x1, .string x2, .int .i64 x3, .int .i64 x4, .bool x5, .slice A n c], .bool true]) w' := fun w' hb => by
    have hlk := look59 (h3.below' hb) (bts y1) hsl true
    rw [if_pos rfl, txt_bts, hv] at hlk
    exact hlk
  have hlk1 := hlw _ (below_drew (Below.refl _ _))
  have hlk2 := hlw _ (below_drew (below_alloc (Below.refl _ _) (.cells #[.int .i64 0, .string ⟨#[]⟩, .string ⟨#[]⟩, .int .i64 0, .int .i64 0, .bool false, .slice none 0 0] 24)))
  have HK := Aside0.mk (show ∀ w', Below W.heap.size W w' → w'.cell? ⟨cb, 0, none⟩ = some (.map (some nb)) ∧ w'.cell? ⟨nx, 1, none⟩ = some (.string y1) from fun w' hb => ⟨(hR.step hb).c0, blk_cell (blk_below hx hb) 1⟩)
  have c0 := hR.c0
  have n1 : W.cell? ⟨nx, 1, none⟩ = some (.string y1) := blk_cell hx 1
  -- the numbers
  obtain ⟨nm, enm⟩ : ∃ nm : Nat, nm = (st.add (bts y1)).num (bts y1) := ⟨_, rfl⟩
  obtain ⟨cm, ecm⟩ : ∃ cm : Nat, cm = st.cnt (bts y1) := ⟨_, rfl⟩
  have hnm1 : 1 ≤ nm := by rw [enm]; unfold Cnt.num; omega
  have e2 : (st.add (bts y1)).cnt (bts y1) = cm + 1 := by
    rw [ecm]
    show (if bts y1 = bts y1 then _ else _) = _
    rw [if_pos rfl]
  have eR : (refF st (bts y1)).getD 0 = (cm : Int) := by rw [refF_get, ecm]
  have eRR := refF_add st (bts y1)
  rw [← enm, e2]
  have HX := Aside0.mk hx
  have HR := Aside0.mk hR
  have HSL := Aside0.mk hsl
  have HER := Aside0.mk eR
  have HRR := Aside0.mk eRR
  have HLO := Aside0.mk hlo
  have HCM := Aside0.mk ecm
  have HNM := Aside0.mk enm
  have HOL := Aside0.mk hol
  have hcm1 : cm ≤ 1000000000000 := by omega
  clear h h3 h4 hv hF hx hs hR hf hn hnc hC hsl hlw hcn hol enm e2 eR eRR hlo ecm
  go_enter Tryd.func78, Tryd.ntmps78
  go_upto_region 1 with (fail)
  go_cut [6] (fun v6 wc => v6 = .bool true ∧ Aside0 (Below W.heap.size W wc))
  case first =>
    go_region_held3 (fun w' => w'.cell? ⟨cb, 0, none⟩ = some (.map (some nb)) ∧ w'.cell? ⟨nx, 1, none⟩ = some (.string y1)) (exact HK.out _ (by repeat (first | exact Below.refl _ _ | apply below_drew | apply below_alloc | (refine below_set ?_ (by first | exact Nat.le_refl _ | simp))))) (fail)
    all_goals
      go_wp2_with fail
      go_meet
      case rel => exact ⟨rfl, ⟨below_drew (below_alloc (Below.refl _ _) _)⟩⟩
  case rest =>
    obtain ⟨rfl, B1⟩ := hcut
    have B1 := B1.out
    obtain ⟨W1, eW1⟩ : ∃ W1, W1 = wc := ⟨_, rfl⟩
    rw [← eW1] at B1 ⊢
    have HS1 := Aside0.mk ((Same24.below B1).x nx)
    have HR1 := Aside0.mk (HR.out.step B1)
    have HX1 := Aside0.mk (blk_below HX.out B1)
    clear c0 n1 hlk1 hlk2 HK B1 eW1
    have d1 := HR1.out.c1
    have n1 : W1.cell? ⟨nx, 1, none⟩ = some (.string y1) := blk_cell HX1.out 1
    by_cases hO : bts y1 ∈ st.ord
    case' pos =>
      obtain ⟨eN, eO, eU⟩ := numF_hit st (bts y1) hO
      have hl4 : (Instr.lookup 60 (.map (some ub)) (.string y1) false).run Tryd.prog W1.drew = .ok (.int .i64 (nm : Int)) W1.drew := by
        have := look60 (HR1.out.step (below_drew (Below.refl _ _))).um (bts y1) HSL.out
        rw [txt_bts, eU, ← HNM.out] at this
        exact this
      have hnz : ((nm : Int) == 0) = false := by rw [beq_eq_false_iff_ne]; omega
      have HEO := Aside0.mk eO
      have HEN := Aside0.mk eN
      clear hO eN eO eU
      go_wp2_with fail
      go_region_held3 (fun w' => w'.cell? ⟨cb, 1, none⟩ = some (.map (some ub)) ∧ w'.cell? ⟨nx, 1, none⟩ = some (.string y1)) (exact ⟨d1, n1⟩) (fail)
      clear hl4 d1 n1
      have HS2 := Aside0.mk (HS1.out.trans ((Same24.below (below_drew (Below.refl W1.heap.size W1))).x nx))
      have HR2 := Aside0.mk (HR1.out.step (below_drew (Below.refl _ _)))
      have HX2 := Aside0.mk (blk_below HX1.out (below_drew (Below.refl _ _)))
      clear HS1 HR1 HX1
      generalize W1.drew = W2 at HS2 HR2 HX2 ⊢
    case' neg =>
      obtain ⟨eO, eM⟩ := add_new st (bts y1) hO
      have eN := numF_new st (bts y1) hO
      have hl4 : (Instr.lookup 60 (.map (some ub)) (.string y1) false).run Tryd.prog W1.drew = .ok (.int .i64 0) W1.drew := by
        have := look60 (HR1.out.step (below_drew (Below.refl _ _))).um (bts y1) HSL.out
        have e0 : numF st (bts y1) = none := by unfold numF; rw [if_neg hO]
        rw [txt_bts, e0] at this
        exact this
      rw [← HNM.out] at eN eM
      have HEO := Aside0.mk eO.symm
      have HEN := Aside0.mk eN
      have HEM := Aside0.mk eM
      clear hO eN eO eM
      go_wp2_with fail
      go_region_held3 (fun w' => w'.cell? ⟨cb, 1, none⟩ = some (.map (some ub)) ∧ w'.cell? ⟨nx, 1, none⟩ = some (.string y1)) (exact ⟨d1, n1⟩) (fail)
      clear hl4 d1 n1
      have HS2 := Aside0.mk (HS1.out.trans ((Same24.below (below_drew (Below.refl W1.heap.size W1))).x nx))
      have HR2 := Aside0.mk (HR1.out.step (below_drew (Below.refl _ _)))
      have HX2 := Aside0.mk (blk_below HX1.out (below_drew (Below.refl _ _)))
      clear HS1 HR1 HX1
      generalize W1.drew = Wa at HS2 HR2 HX2 ⊢
      -- the order grows
      have d2 := HR2.out.c2
      have n1 : Wa.cell? ⟨nx, 1, none⟩ = some (.string y1) := blk_cell HX2.out 1
      obtain ⟨OL, hOL⟩ : ∃ OL, OL = st.ord.map txt := ⟨_, rfl⟩
      have hrow := HR2.out.row
      rw [← hOL] at hrow
      have hll : OL.length + 1 = nm := by rw [hOL, List.length_map, HEM.out]
      have hll2 : OL.length ≤ 1000000000000 := by rw [hOL, List.length_map]; exact HOL.out
      obtain ⟨Ao, co, eo⟩ := Kd.R_slice hrow
      subst eo
      have HRW := Aside0.mk hrow
      have HLL := Aside0.mk hll
      have HLL2 := Aside0.mk hll2
      have HOLE := Aside0.mk hOL
      have hne := Kd.R_ne hrow HR2.out.sc (by decide)
      have hne2 := Kd.R_ne hrow HX2.out (by decide)
      have hbe : Aside0 (Below w0.heap.size w0 Wa.drew) := ⟨below_drew HR2.out.below⟩
      have ga2 : (Wa.alloc (.cells #[.string y1] 9)).cell? ⟨cb, 2, none⟩ = some (.slice Ao OL.length co) := (World.cell?_alloc_some _ _ _ (by rw [d2]; rfl)).trans d2
      have gan : (Wa.alloc (.cells #[.string y1] 9)).cell? ⟨nx, 1, none⟩ = some (.string y1) := (World.cell?_alloc_some _ _ _ (by rw [n1]; rfl)).trans n1
      clear hrow hll hll2 hOL
      have HD2 := Aside0.mk d2
      have HN1 := Aside0.mk n1
      go_wp2_with fail
      go_cut [31] (fun v31 wc => ∃ (A1 : Option Addr) (c1 : Nat), Aside0 (CnR w0 cb nb ub rb F (.slice A1 nm c1) (st.ord ++ [bts y1]) (numF st) (refF st) wc ∧ Same24 Wa wc))
      case' first =>
        go_region_law
          ((refine Kd.R_append_step Kd.string (w0 := w0) w0.heap.size (by rfl) _ _ 34 9 (.string ⟨#[]⟩) 16 (by rfl) Tryd.underlying34 info9 rfl (by decide) (by decide) (.slice Ao OL.length co) OL y1 [.string y1] (fun _ => True) (fun _ => False) (by rfl) (by rfl) rfl (fun _ h => h.elim) (fun _ _ => trivial) (Kd.R_drew HRW.out) hbe.out hbe.out.size (by have := HLL2.out; omega) ?_; intro v1 w2 ho hb hg hat; obtain ⟨A1, c1, hv1⟩ := Kd.R_slice ho; rw [show (OL ++ [y1]).length = nm from by rw [List.length_append]; exact HLL.out] at hv1; subst hv1; have g02 : w2.cell? ⟨cb, 2, none⟩ = some (.slice Ao OL.length co) := hg.cell HD2.out hne; have g82 : w2.cell? ⟨nx, 1, none⟩ = some (.string y1) := hg.cell HN1.out hne2; have hfz : w2.frozen? ⟨cb, 2, none⟩ = false := blk_frozen (blk_grown (blk_drew HR2.out.sc) hg hne) _))
        all_goals
          go_wp2_with fail
          go_meet
          case rel =>
            have h_ := HR2.out.appO (s := bts y1) hb hg (by rw [txt_bts, ← HOLE.out]; exact ho)
            exact ⟨A1, c1, ⟨h_⟩⟩
      case' rest =>
        obtain ⟨A1, c1, HH⟩ := hcut
        have HR5 := Aside0.mk HH.out.1
        have HX5 := Aside0.mk (HH.out.2.2 _ _ HX2.out)
        have HS5 := Aside0.mk (HS2.out.trans (HH.out.2.x nx))
        clear HH HR2 HX2 HS2 HRW hne hne2 hbe ga2 gan d2 n1 HD2 HN1 HLL HLL2
        obtain ⟨Wb, eWb⟩ : ∃ Wb, Wb = wc := ⟨_, rfl⟩
        rw [← eWb] at HR5 HX5 HS5 ⊢
        clear eWb
        -- its number
        have d1 := HR5.out.c1
        have d2 := HR5.out.c2
        have n1 : Wb.cell? ⟨nx, 1, none⟩ = some (.string y1) := blk_cell HX5.out 1
        obtain ⟨W2, hu6, hR6, hS6⟩ := (HR5.out.step (below_drew (Below.refl _ _))).setU (bts y1) (nm : Int) HSL.out
        rw [txt_bts] at hu6
        have HR2 := Aside0.mk hR6
        have HX2 := Aside0.mk (hS6.2 _ _ (blk_drew HX5.out))
        have HS2 := Aside0.mk (HS5.out.trans (((Same24.below (below_drew (Below.refl Wb.heap.size Wb))).trans hS6).x nx))
        have e1 := HR2.out.c1
        have e2 := HR2.out.c2
        have en : W2.cell? ⟨nx, 1, none⟩ = some (.string y1) := blk_cell HX2.out 1
        clear hR6 hS6 HS5 HR5 HX5
        go_wp2_with fail
        go_region_held3 (fun w' => w'.cell? ⟨cb, 1, none⟩ = some (.map (some ub)) ∧ w'.cell? ⟨cb, 2, none⟩ = some (.slice A1 nm c1) ∧ w'.cell? ⟨nx, 1, none⟩ = some (.string y1)) (first | exact ⟨d1, d2, n1⟩ | exact ⟨e1, e2, en⟩) (fail)
        clear d1 d2 n1 e1 e2 en hu6
    all_goals
      have d3 := HR2.out.c3
      have n1 : W2.cell? ⟨nx, 1, none⟩ = some (.string y1) := blk_cell HX2.out 1
      have hR3 := HR2.out.step (below_drew (Below.refl _ _))
      have hl7 : (Instr.lookup 60 (.map (some rb)) (.string y1) false).run Tryd.prog W2.drew = .ok (.int .i64 (cm : Int)) W2.drew := by
        have := look60 hR3.rm (bts y1) HSL.out
        rw [txt_bts, HER.out] at this
        exact this
      have hcw : IntKind.i64.wrap ((cm : Int) + 1) = (cm : Int) + 1 := by rw [IntKind.wrap_i64]; omega
      obtain ⟨W4, hu7, hR4, hS4⟩ := hR3.setR (bts y1) ((cm : Int) + 1) HSL.out
      rw [txt_bts] at hu7
      have HR4 := Aside0.mk hR4
      have HX4 := Aside0.mk (hS4.2 _ _ (blk_drew HX2.out))
      have HS4 := Aside0.mk (HS2.out.trans (((Same24.below (below_drew (Below.refl W2.heap.size W2))).trans hS4).x nx))
      have e3 := HR4.out.c3
      have e1 : W4.cell? ⟨nx, 1, none⟩ = some (.string y1) := blk_cell HX4.out 1
      clear hR3 hR4 hS4 HS2
      go_wp2_with fail
      go_region_held3 (fun w' => w'.cell? ⟨cb, 3, none⟩ = some (.map (some rb)) ∧ w'.cell? ⟨nx, 1, none⟩ = some (.string y1)) (first | exact ⟨d3, n1⟩ | exact ⟨e3, e1⟩) (fail)
      clear d3 n1 e3 e1 hl7 hu7
      have hR5 := HR4.out.step (below_drew (Below.refl _ _))
      have hX5 := blk_drew HX4.out
      have hl8 : (Instr.lookup 60 (.map (some ub)) (.string y1) false).run Tryd.prog W4.drew = .ok (.int .i64 (nm : Int)) W4.drew := by
        have hum := hR5.um
        rw [HEN.out] at hum
        have := look60 hum (bts y1) HSL.out
        rw [txt_bts, numF_get _ _ (add_mem st (bts y1)), ← HNM.out] at this
        exact this
      have hl9 : (Instr.lookup 60 (.map (some rb)) (.string y1) false).run Tryd.prog W4.drew = .ok (.int .i64 ((cm : Int) + 1)) W4.drew := by
        have := look60 hR5.rm (bts y1) HSL.out
        rw [txt_bts, if_pos rfl] at this
        exact this
      have HS5 := Aside0.mk (HS4.out.trans ((Same24.below (below_drew (Below.refl W4.heap.size W4))).x nx))
      clear HR4 HX4 HS4
      have f1 := hR5.c1
      have f3 := hR5.c3
      have n1 : W4.drew.cell? ⟨nx, 1, none⟩ = some (.string y1) := blk_cell hX5 1
      have n3 : W4.drew.cell? ⟨nx, 3, none⟩ = some (.int .i64 y3) := blk_cell hX5 3
      have n4 : W4.drew.cell? ⟨nx, 4, none⟩ = some (.int .i64 y4) := blk_cell hX5 4
      have z3 : W4.drew.frozen? ⟨nx, 3, none⟩ = false := blk_frozen hX5 3
      have z4 : W4.drew.frozen? ⟨nx, 4, none⟩ = false := blk_frozen hX5 4
      have hX6 := blk_put hX5 3 (.int .i64 (nm : Int)) (cs' := #[.int .i64 y0, .string y1, .string y2, .int .i64 (nm : Int), .int .i64 y4, .bool y5, y6]) (by simp)
      have hX6' := blk_put hX5 4 (.int .i64 ((cm : Int) + 1)) (cs' := #[.int .i64 y0, .string y1, .string y2, .int .i64 y3, .int .i64 ((cm : Int) + 1), .bool y5, y6]) (by simp)
      have hX7 := blk_put hX6 4 (.int .i64 ((cm : Int) + 1)) (cs' := #[.int .i64 y0, .string y1, .string y2, .int .i64 (nm : Int), .int .i64 ((cm : Int) + 1), .bool y5, y6]) (by simp)
      have hX7' := blk_put hX6' 3 (.int .i64 (nm : Int)) (cs' := #[.int .i64 y0, .string y1, .string y2, .int .i64 (nm : Int), .int .i64 ((cm : Int) + 1), .bool y5, y6]) (by simp)
      have hR6 := hR5.setN hX5 HLO.out 3 (.int .i64 (nm : Int))
      have hR6' := hR5.setN hX5 HLO.out 4 (.int .i64 ((cm : Int) + 1))
      have hR7 := hR6.setN hX6 HLO.out 4 (.int .i64 ((cm : Int) + 1))
      have hR7' := hR6'.setN hX6' HLO.out 3 (.int .i64 (nm : Int))
      have K6 := Aside0.mk (And.intro hR6.c1 (And.intro hR6.c3 (box7 hX6).2.1))
      have K6' := Aside0.mk (And.intro hR6'.c1 (And.intro hR6'.c3 (box7 hX6').2.1))
      have K7 := Aside0.mk (And.intro hR7.c1 (And.intro hR7.c3 (box7 hX7).2.1))
      have K7' := Aside0.mk (And.intro hR7'.c1 (And.intro hR7'.c3 (box7 hX7').2.1))
      have F7 := Aside0.mk (And.intro hR7 hX7)
      have F7' := Aside0.mk (And.intro hR7' hX7')
      have m4 : (W4.drew.setCell ⟨nx, 3, none⟩ (.int .i64 (nm : Int))).cell? ⟨nx, 4, none⟩ = some (.int .i64 y4) := blk_cell hX6 4
      have m3 : (W4.drew.setCell ⟨nx, 4, none⟩ (.int .i64 ((cm : Int) + 1))).cell? ⟨nx, 3, none⟩ = some (.int .i64 y3) := blk_cell hX6' 3
      have k4 := blk_frozen hX6 4
      have k3 := blk_frozen hX6' 3
      have HNX := Aside0.mk (And.intro (Same24x.set W4.drew nx 3 (.int .i64 (nm : Int))) (And.intro (Same24x.set W4.drew nx 4 (.int .i64 ((cm : Int) + 1))) (And.intro (Same24x.set (W4.drew.setCell ⟨nx, 3, none⟩ (.int .i64 (nm : Int))) nx 4 (.int .i64 ((cm : Int) + 1))) (Same24x.set (W4.drew.setCell ⟨nx, 4, none⟩ (.int .i64 ((cm : Int) + 1))) nx 3 (.int .i64 (nm : Int))))))
      clear hR5 hX5 hX6 hX6' hX7 hX7' hR6 hR6' hR7 hR7'
      simp only [World.setCell_drew] at m4 m3 k4 k3 K6 K6' K7 K7' F7 F7' HNX
      go_wp2_with fail
      go_region_held3 (fun w' => w'.cell? ⟨cb, 1, none⟩ = some (.map (some ub)) ∧ w'.cell? ⟨cb, 3, none⟩ = some (.map (some rb)) ∧ w'.cell? ⟨nx, 1, none⟩ = some (.string y1)) (first | exact ⟨f1, f3, n1⟩ | exact K6.out | exact K6'.out | exact K7.out | exact K7'.out) (fail)
      all_goals
        go_wp2_with fail
        go_ret
        exact ⟨rfl, F7.out.1.toI HEO.out HEN.out (by rw [HCM.out]; exact HRR.out), F7.out.2, HS5.out.trans (HNX.out.1.trans HNX.out.2.2.1)⟩
end
end Go.Proofs.YtbgbmphjjdiaeaaDoor.P
