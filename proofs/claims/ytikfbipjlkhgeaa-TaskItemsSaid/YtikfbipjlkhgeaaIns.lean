/- slices.Clone and slices.Insert (at the head, one element) at []api.Node: what they leave, cell by cell. -/
import Derived.Test.YtikfbipjlkhgeaaPk0
import Derived.Deep.RegionLaw
import Derived.Lib.Overlaps
import Derived.Lib.AppendZerosOnto
import Derived.Laws.CopyOwn
import Derived.Laws.Externs
import Derived.Laws.NewBlocks
namespace Go.Proofs.Ytikfbipjlkhgeaa.P
open Go.RowKit Go.Proofs.YtikfbipjlkhgeaaW.PrintWords Go.Proofs.YtikfbipjlkhgeaaW.PrintLast Go.Proofs.YtikfbipjlkhgeaaW.PrintMore
set_option linter.unusedVariables false
set_option linter.unusedSimpArgs false
theorem i24 : ∃ i0, Try.prog.info? 24 = some i0 ∧ i0.zero = some (.agg #[(.int .i64 0), (.string ⟨#[]⟩), (.string ⟨#[]⟩), (.int .i64 0), (.int .i64 0), (.bool false), (.slice none 0 0)]) ∧ i0.size = 7 ∧ i0.bytes = 88 := by
  obtain ⟨i0, hi, hz⟩ := Option.map_eq_some_iff.1 info24
  simp only [Prod.mk.injEq] at hz
  exact ⟨i0, hi, hz.1, hz.2.1, hz.2.2⟩
theorem run_copy7 (w : World) (ty : TypeId) (g o dLen dCap : Nat) (a : Addr) (sLen sCap : Nat) (cur : Array Value) (t : TypeId) (cs : List Value)
    (hg : w.heap[g]? = some (.cells cur t (0, 0))) (hn : cs.length = Nat.min sLen dLen * 7)
    (hsrc : ∀ j v, cs[j]? = some v → w.cell? (a.add j) = some v) (hfit : o + cs.length ≤ cur.size) (h1 : ∀ v ∈ cs, v.oneCell' = true) :
    (Builtin.copy_ #[22, 22] ty #[.slice (some ⟨g, o, none⟩) dLen dCap, .slice (some a) sLen sCap]).run Try.prog w =
      .ok (goInt (Nat.min sLen dLen)) (w.setRow g (cur.toList.take o ++ cs ++ cur.toList.drop (o + cs.length)).toArray) := by
  have hl := run_loadCells_list (P := Try.prog) w a cs hsrc
  have hst := run_storeCells_at Try.prog g o t cs 0 cur w hg (by simpa using hfit) h1
  obtain ⟨i0, hi, _, hs, _⟩ := i24
  simp [Builtin.copy_, run_underlying Try.underlying22, Builtin.lenOf, Builtin.firstCells, sizeOf, typeInfo, hi, hs, ← hn, hl, hst]
/-- copy as a step of the walk: what the block holds afterwards; every other block stays. -/
theorem wp_copy7 {w : World} {ops : Array Oper} {rest : List Oper} {o : Oper} {a : Act} {Q : Exit → Act → World → Prop} (hgd : o.guard = none) (d s : Operand)
    (ho : o.op = .call { callee := .builtin .copy, args := #[d, s], argTypes := #[22, 22] })
    (g off dLen dCap : Nat) (ad : Addr) (sLen sCap : Nat) (hd : a.eval d = .slice (some ⟨g, off, none⟩) dLen dCap) (hs : a.eval s = .slice (some ad) sLen sCap)
    (cur : Array Value) (t : TypeId) (hg : w.heap[g]? = some (.cells cur t (0, 0))) (cs : List Value) (hn : cs.length = Nat.min sLen dLen * 7)
    (hsrc : ∀ j v, cs[j]? = some v → w.cell? (ad.add j) = some v) (hfit : off + cs.length ≤ cur.size) (h1 : ∀ v ∈ cs, v.oneCell' = true)
    (h : ∀ w', w'.heap[g]? = some (.cells (splice cur.toList off cs).toArray t (0, 0)) → w.grownBy w' (some g) → wpList Try.prog ops Q rest (a.put o.dst (goInt (Nat.min sLen dLen))) w') : wpList Try.prog ops Q (o :: rest) a w := by
  refine wpList_plain hgd fun K hK => ?_
  have hrun := run_copy7 w o.type g off dLen dCap ad sLen sCap cur t cs hg hn hsrc hfit h1
  unfold Oper.wp
  simp [execOp, ho, resolve, invoke, builtin, hd, hs, hrun, Result.andThen]
  exact hK _ _ (h _ (by simpa only [splice] using setRow_heap w g _ _ t _ hg) ⟨rfl, rfl, rfl, by simp [World.setRow], fun k hk hne => setRow_other w g k _ (fun e => hne (by rw [e]))⟩)
theorem st_copy7 {ops : Array Oper} {o : Oper} {a : Act} {w : World} {K : Act → World → Prop} {Q : Exit → Act → World → Prop} {E : Prop} (hgd : o.guard = none) (d s : Operand)
    (ho : o.op = .call { callee := .builtin .copy, args := #[d, s], argTypes := #[22, 22] })
    (g off dLen dCap : Nat) (ad : Addr) (sLen sCap : Nat) (hd : a.eval d = .slice (some ⟨g, off, none⟩) dLen dCap) (hs : a.eval s = .slice (some ad) sLen sCap)
    (cur : Array Value) (t : TypeId) (hg : w.heap[g]? = some (.cells cur t (0, 0))) (cs : List Value) (hn : cs.length = Nat.min sLen dLen * 7)
    (hsrc : ∀ j v, cs[j]? = some v → w.cell? (ad.add j) = some v) (hfit : off + cs.length ≤ cur.size) (h1 : ∀ v ∈ cs, v.oneCell' = true)
    (h : ∀ w', w'.heap[g]? = some (.cells (splice cur.toList off cs).toArray t (0, 0)) → w.grownBy w' (some g) → K (a.put o.dst (goInt (Nat.min sLen dLen))) w') :
    if Region.wanted o (yielded ops a.tmps) = true then Oper.wp Try.prog o a w K Q else E := by
  have hw : Region.wanted o (yielded ops a.tmps) = true := by simp [Region.wanted, hgd]
  rw [if_pos hw]
  have hrun := run_copy7 w o.type g off dLen dCap ad sLen sCap cur t cs hg hn hsrc hfit h1
  unfold Oper.wp
  simp [execOp, ho, resolve, invoke, builtin, hd, hs, hrun, Result.andThen]
  exact h _ (by simpa only [splice] using setRow_heap w g _ _ t _ hg) ⟨rfl, rfl, rfl, by simp [World.setRow], fun k hk hne => setRow_other w g k _ (fun e => hne (by rw [e]))⟩
theorem spl_room {cur inner vs : List Value} {n c : Nat} (hc : cur.length = c * 7) (hn : n + 1 ≤ c) (hi : cur.take (n * 7) = inner) (hv : vs.length = 7) :
    (splice (splice cur 7 inner) 0 vs).take ((n + 1) * 7) = vs ++ inner ∧ (splice (splice cur 7 inner) 0 vs).length = c * 7 := by
  have hil : inner.length = n * 7 := by rw [← hi, List.length_take]; omega
  have h1 : (splice cur 7 inner).length = cur.length := length_splice _ _ _ (by omega)
  refine ⟨?_, by rw [length_splice _ _ _ (by omega)]; omega⟩
  have e : (splice (splice cur 7 inner) 0 vs) = (vs ++ inner) ++ cur.drop (7 + inner.length) := by
    unfold splice
    rw [List.take_zero, List.nil_append, hv, Nat.zero_add]
    have e2 : (cur.take 7 ++ (inner ++ cur.drop (7 + inner.length))).drop 7 = inner ++ cur.drop (7 + inner.length) := by
      rw [List.drop_append_of_le_length (by rw [List.length_take]; omega), List.drop_eq_nil_of_le (by rw [List.length_take]; omega), List.nil_append]
    rw [e2, List.append_assoc]
  rw [e, List.take_append_of_le_length (by rw [List.length_append]; omega), List.take_of_length_le (by rw [List.length_append]; omega)]
theorem spl_new {Z inner vs : List Value} {n G : Nat} (hc : Z.length = G * 7) (hn : n + 1 ≤ G) (hil : inner.length = n * 7) (hv : vs.length = 7) :
    (splice (splice Z 0 vs) 7 inner).take ((n + 1) * 7) = vs ++ inner ∧ (splice (splice Z 0 vs) 7 inner).length = G * 7 := by
  have h1 : (splice Z 0 vs).length = Z.length := length_splice _ _ _ (by omega)
  refine ⟨?_, by rw [length_splice _ _ _ (by omega)]; omega⟩
  have e : (splice Z 0 vs).take 7 = vs := by
    unfold splice
    rw [List.take_zero, List.nil_append, List.take_append_of_le_length (by omega), List.take_of_length_le (by omega)]
  have e2 : splice (splice Z 0 vs) 7 inner = (vs ++ inner) ++ (splice Z 0 vs).drop (7 + inner.length) := by
    conv => lhs; unfold splice
    rw [show (List.take 0 Z ++ (vs ++ List.drop (0 + vs.length) Z)) = splice Z 0 vs from rfl, e, List.append_assoc]
  rw [e2, List.take_append_of_le_length (by rw [List.length_append]; omega), List.take_of_length_le (by rw [List.length_append]; omega)]
theorem raw_front {w : World} {B b c n : Nat} {rows : List (List Value)} {inner vs cur : List Value} (hr : Reps ((Kd.raw 7).M w B (fun k => True ∧ some k ≠ (Value.slice (some ⟨b, 0, none⟩) n c).ownBlock)) 7 rows inner) (hvl : vs.length = 7) (h1v : ∀ u ∈ vs, u.oneCell' = true)
    {w' : World} {b' c' : Nat} (hB : B ≤ b') (hb : w'.heap[b']? = some (.cells cur.toArray 24 (0, 0))) (hcl : cur.length = c' * 7) (hcc : rows.length + 1 ≤ c') (hcm : c' ≤ maxLen) (ht : cur.take ((rows.length + 1) * 7) = vs ++ inner) :
    (Kd.raw 7).R 24 w' B (fun _ => True) (.slice (some ⟨b', 0, none⟩) (rows.length + 1) c') (vs :: rows) :=
  ⟨fun _ _ => trivial, vs ++ inner, ⟨by rw [List.length_append, hr.1, hvl, List.length_cons]; simp only [Kd.raw]; omega, .inr ⟨b', c', cur.toArray, rfl, hB, hb, hcc, hcm, by show cur.toArray.size = c' * 7; simpa using hcl, by simpa [Kd.raw] using ht⟩⟩,
    Reps.front (⟨rfl, hvl, h1v⟩ : (Kd.raw 7).M w' B _ vs vs) hvl (hr.imp_ fun _ _ h => h) rfl⟩
theorem cell_in {w : World} {b m : Nat} {cur : Array Value} {inner : List Value} (hb : w.heap[b]? = some (.cells cur 24 (0, 0))) (ht : cur.toList.take m = inner) (j : Nat) (v : Value) (hj : inner[j]? = some v) : w.cell? ((⟨b, 0, none⟩ : Addr).add j) = some v := by
  rw [Addr.add_lit, Nat.zero_add, blk_cell hb, ← Array.getElem?_toList]
  rw [← ht, List.getElem?_take] at hj
  split at hj
  · exact hj
  · cases hj
theorem szof24 (w : World) : (Go.sizeOf 24).run Try.prog w = .ok 7 w := by
  obtain ⟨i0, hi, _, hs, _⟩ := i24
  simp [sizeOf, typeInfo, hi, hs]
theorem shape24 {w : World} {b : Nat} {cur : Array Value} (hb : w.heap[b]? = some (.cells cur 24 (0, 0))) : w.shape? b = some (24, cur.size) := by
  simp [World.shape?, hb]
theorem spl_fit {cur : Array Value} {inner vs : List Value} {n c : Nat} (hc : cur.size = c * 7) (hn : n + 1 ≤ c) (hi : cur.toList.take (n * 7) = inner) (hv : vs.length = 7) : 0 + vs.length ≤ (splice cur.toList 7 inner).toArray.size := by
  have hil : inner.length = n * 7 := by rw [← hi, List.length_take]; simp; omega
  have h1 : (splice cur.toList 7 inner).length = cur.toList.length := length_splice _ _ _ (by simp; omega)
  simp only [List.size_toArray, h1, Array.length_toList]; omega
theorem spl_fit2 {ROW : Array Value} {inner vs : List Value} {n G : Nat} (hc : ROW.size = G * 7) (hn : n + 1 ≤ G) (hi : inner.length = n * 7) (hv : vs.length = 7) : 7 + inner.length ≤ (splice ROW.toList 0 vs).toArray.size := by
  have h1 : (splice ROW.toList 0 vs).length = ROW.toList.length := length_splice _ _ _ (by simp; omega)
  simp only [List.size_toArray, h1, Array.length_toList]; omega
section
set_option maxRecDepth 100000 in
set_option maxHeartbeats 8000000 in
theorem insert_room {w : World} {B b c vb : Nat} {rows : List (List Value)} {vs : List Value} (h : (Kd.raw 7).R 24 w B (fun _ => True) (.slice (some ⟨b, 0, none⟩) rows.length c) rows) (h0 : 0 < rows.length) (hl : rows.length < 1000000000) (hroom : rows.length + 1 ≤ c)
    (hv : w.heap[vb]? = some (.cells vs.toArray 24 (0, 0))) (hvl : vs.length = 7) (h1v : ∀ u ∈ vs, u.oneCell' = true) (hne : vb ≠ b) (hBw : B ≤ w.heap.size) :
    Calls Try.prog 74 #[.slice (some ⟨b, 0, none⟩) rows.length c, .int .i64 0, .slice (some ⟨vb, 0, none⟩) 1 1] w fun e w' => ∃ v', e = .returned v' ∧ (Kd.raw 7).R 24 w' B (fun _ => True) v' (vs :: rows) ∧ Below B w w' := by
  obtain ⟨_, inner, ⟨hil, ho⟩, hr⟩ := h
  obtain ⟨g, cap, cur, he, hBg, hblk, hnc, hcm, hcs, hct⟩ := ho.resolve_left (fun hh => by injection hh.1; contradiction)
  injection he with he _ hec
  injection he with he
  injection he with he
  subst he; subst hec
  have hil : inner.length = rows.length * 7 := hil
  have hcs : cur.size = c * 7 := hcs
  have hct : cur.toList.take (rows.length * 7) = inner := hct
  have h1c : ∀ u ∈ inner, u.oneCell' = true := Kd.reps_one hr (by decide) (fun p c hc => hc.2.2)
  obtain ⟨n, en⟩ : ∃ n, n = rows.length := ⟨_, rfl⟩
  have HF := Aside0.mk (@raw_front w B b c n rows inner vs)
  rw [← en] at h0 hl hroom hil hct hnc HF ⊢
  have EN := Aside0.mk en
  have HR := Aside0.mk hr
  have HCT := Aside0.mk hct
  have HIL := Aside0.mk hil
  clear hr hct hil ho
  have hov : ∀ lb cb, (callFunc 79 #[.slice (some ⟨vb, 0, none⟩) 1 1, .slice (some ⟨b, 7, none⟩) lb cb]).run Try.prog w = .ok (.value (.bool false)) w := fun lb cb => by
    rw [run_callFunc_extern Try.func79 (by kernel_rfl) (by kernel_rfl) (by kernel_rfl) (e := Extern.SlicesOverlaps.overlaps #[22, 22] #[4]) (by kernel_rfl),
      Lib.run_overlaps_apart w 22 4 24 Try.underlying22 7 szof24 ⟨vb, 0, none⟩ ⟨b, 7, none⟩ 1 1 lb cb hne 24 24 vs.toArray.size cur.size (shape24 hv) (shape24 hblk) (by omega) (blk_frozen hv 0) (blk_frozen hv _)]
    rfl
  have hz1 : ¬ ((n : Int) = 0) := by omega
  have hz2 : ¬ ((c : Int) < (n : Int) + 1) := by omega
  have hw1 : IntKind.i64.wrap ((n : Int) + 1) = (n : Int) + 1 := by rw [IntKind.wrap_i64]; omega
  have hc63 : c ≤ 9223372036854775807 := hcm
  clear en
  go_enter Try.func74, Try.ntmps74
  have hb2 : ¬ (c = 1) := by omega
  have hwi : IntKind.i64.wrap 1 = 1 := by rw [IntKind.wrap_i64]; rfl
  have hb3 : (1 : Int) ≤ (n : Int) + 1 := by omega
  have hb4 : (0 : Int) ≤ (n : Int) + 1 := by omega
  have HB := Aside0.mk hblk
  have HCS := Aside0.mk hcs
  have HV := Aside0.mk hv
  clear hblk hv
  go_wp2_with (simp only [hov])
  go_region_law (refine st_copy7 rfl (.tmp 73) (.tmp 76) rfl b 7 n (c - 1) ⟨b, 0, none⟩ (n + 1) c (by simp [Act.eval, Act.put]) (by simp [Act.eval, Act.put]) cur 24 HB.out inner (by rw [HIL.out]; simp only [Nat.min_def]; split <;> omega) (cell_in HB.out HCT.out) (by rw [HIL.out]; omega) h1c ?_; intro w1 hg1 hb1; have HG1 := Aside0.mk hg1; have HW1 := Aside0.mk hb1; clear hg1 hb1)
  have hv1 := blk_grown (w := w.drew) HV.out HW1.out (fun e => hne (Option.some.inj e))
  go_wp2_with (refine wp_copy7 rfl (.tmp 80) (.tmp 81) rfl b 0 (n + 1) c ⟨vb, 0, none⟩ 1 1 (by rfl) (by rfl) (splice cur.toList 7 inner).toArray 24 HG1.out vs (by rw [hvl]; simp only [Nat.min_def]; split <;> omega) (fun j v hj => by rw [Addr.add_lit, Nat.zero_add, blk_cell hv1, List.getElem?_toArray]; exact hj) (spl_fit HCS.out hroom HCT.out hvl) h1v ?_; intro w2 hg2 hb2'; have HG2 := Aside0.mk hg2; have HW2 := Aside0.mk hb2'; clear hg2 hb2')
  go_ret
  obtain ⟨s1, s2⟩ := spl_room (by simpa using HCS.out) hroom HCT.out hvl
  exact ⟨_, rfl, HF.out (by rw [EN.out]; exact HR.out) hvl h1v hBg HG2.out s2 hroom hcm s1, pw_below_grown (pw_below_grown (below_drew (Below.refl B w)) (some b) hBw HW1.out (fun k e => by injection e with e; omega)) (some b) (Nat.le_trans hBw HW1.out.size) HW2.out (fun k e => by injection e with e; omega)⟩
set_option maxRecDepth 100000 in
set_option maxHeartbeats 8000000 in
theorem insert_grow {w : World} {B b c vb : Nat} {rows : List (List Value)} {vs : List Value} (h : (Kd.raw 7).R 24 w B (fun _ => True) (.slice (some ⟨b, 0, none⟩) rows.length c) rows) (h0 : 0 < rows.length) (hl : rows.length < 1000000000) (hroom : c < rows.length + 1)
    (hv : w.heap[vb]? = some (.cells vs.toArray 24 (0, 0))) (hvl : vs.length = 7) (h1v : ∀ u ∈ vs, u.oneCell' = true) (hne : vb ≠ b) (hBw : B ≤ w.heap.size) :
    Calls Try.prog 74 #[.slice (some ⟨b, 0, none⟩) rows.length c, .int .i64 0, .slice (some ⟨vb, 0, none⟩) 1 1] w fun e w' => ∃ v', e = .returned v' ∧ (Kd.raw 7).R 24 w' B (fun _ => True) v' (vs :: rows) ∧ Below B w w' := by
  obtain ⟨_, inner, ⟨hil, ho⟩, hr⟩ := h
  obtain ⟨g, cap, cur, he, hBg, hblk, hnc, hcm, hcs, hct⟩ := ho.resolve_left (fun hh => by injection hh.1; contradiction)
  injection he with he _ hec
  injection he with he
  injection he with he
  subst he; subst hec
  have hil : inner.length = rows.length * 7 := hil
  have hcs : cur.size = c * 7 := hcs
  have hct : cur.toList.take (rows.length * 7) = inner := hct
  have h1c : ∀ u ∈ inner, u.oneCell' = true := Kd.reps_one hr (by decide) (fun p c hc => hc.2.2)
  obtain ⟨n, en⟩ : ∃ n, n = rows.length := ⟨_, rfl⟩
  have HF := Aside0.mk (@raw_front w B b c n rows inner vs)
  rw [← en] at h0 hl hroom hil hct hnc HF ⊢
  have EN := Aside0.mk en
  have HR := Aside0.mk hr
  have HCT := Aside0.mk hct
  have HIL := Aside0.mk hil
  clear hr hct hil ho
  have hz1 : ¬ ((n : Int) = 0) := by omega
  have hz2 : (c : Int) < (n : Int) + 1 := by omega
  have hw1 : IntKind.i64.wrap ((n : Int) + 1) = (n : Int) + 1 := by rw [IntKind.wrap_i64]; omega
  have hc63 : c ≤ 9223372036854775807 := hcm
  clear en
  have hwi : IntKind.i64.wrap 1 = 1 := by rw [IntKind.wrap_i64]; rfl
  have hb3 : (1 : Int) ≤ (n : Int) + 1 := by omega
  have hb4 : (0 : Int) ≤ (n : Int) + 1 := by omega
  have HB := Aside0.mk hblk
  have HCS := Aside0.mk hcs
  have HV := Aside0.mk hv
  obtain ⟨i0, hi0, hz0, hzs, hzb⟩ := i24
  have hrz : ∀ ty, (Builtin.append_ #[22, 3] ty #[.slice (some ⟨b, 0, none⟩) 0 c, .int .i64 ((n : Int) + 1)]).run Try.prog w = _ := fun ty =>
    Lib.run_append_grow_zeros w 22 3 ty 24 i0 _ .i64 .i64 Try.underlying22 Try.underlying3 hi0 hz0 (some ⟨b, 0, none⟩) 0 c [] (run_firstCells_some w.drew _ 0 ⟨b, 0, none⟩ 0 c [] (by simp) (fun j v hj => by simp at hj)) (n + 1) (by omega) (by omega) (by omega) (by omega) (by rw [hzb]; omega) (by rw [hzb]; exact growslice_fits (by omega) (by omega))
  rw [Nat.zero_add] at hrz
  obtain ⟨G, hG⟩ : ∃ G, G = grownCap w (n + 1) c 24 := ⟨_, rfl⟩
  rw [← hG] at hrz
  have hGn : n + 1 ≤ G := by rw [hG]; exact grownCap_ge w _ _ _
  have hG63 : G ≤ 9223372036854775807 := by rw [hG]; exact grownCap_le_maxLen w (n + 1) c 24 (by unfold maxLen; omega)
  obtain ⟨ROW, hROW⟩ : ∃ ROW : Array Value, ROW = #[] ++ Builtin.zeroCells (Value.agg #[(.int .i64 0), (.string ⟨#[]⟩), (.string ⟨#[]⟩), (.int .i64 0), (.int .i64 0), (.bool false), (.slice none 0 0)]).cells (n + 1) ++ Builtin.zeroCells (Value.agg #[(.int .i64 0), (.string ⟨#[]⟩), (.string ⟨#[]⟩), (.int .i64 0), (.int .i64 0), (.bool false), (.slice none 0 0)]).cells (G - (n + 1)) := ⟨_, rfl⟩
  have hRs : ROW.size = G * 7 := by
    rw [hROW, Array.size_append, Array.size_append, size_zeroCells, size_zeroCells, show (Value.agg #[(.int .i64 0), (.string ⟨#[]⟩), (.string ⟨#[]⟩), (.int .i64 0), (.int .i64 0), (.bool false), (.slice none 0 0)]).cells.size = 7 from by kernel_rfl]
    simp only [List.size_toArray, List.length_nil]
    omega
  have hrz2 : ∀ ty, (Builtin.append_ #[22, 3] ty #[.slice (some ⟨b, 0, none⟩) 0 c, .int .i64 ((n : Int) + 1)]).run Try.prog w = .ok (.slice (some ⟨w.heap.size, 0, none⟩) (n + 1) G) (w.drew.alloc (.cells ROW 24)) := fun ty => by rw [hROW]; exact hrz ty
  have hn1 : (w.drew.alloc (.cells ROW 24)).heap[w.heap.size]? = some (.cells ROW 24 (0, 0)) := blk_new w.drew _
  have hn2 : (w.drew.alloc (.cells ROW 24)).heap[vb]? = some (.cells vs.toArray 24 (0, 0)) := blk_alloc (w := w.drew) hv _
  have hn3 : (w.drew.alloc (.cells ROW 24)).heap[b]? = some (.cells cur 24 (0, 0)) := blk_alloc (w := w.drew) hblk _
  have hblt := blk_lt hblk
  have hvlt := blk_lt hv
  have hBL := (below_drew (Below.refl B w)).alloc hBw (.cells ROW 24)
  have hsz := World.size_alloc w.drew (.cells ROW 24)
  clear hrz hG hROW hi0 hz0 hzs hzb hblk hv
  generalize hW1 : w.drew.alloc (.cells ROW 24) = w1 at *
  have HN1 := Aside0.mk hn1
  have HN2 := Aside0.mk hn2
  have HN3 := Aside0.mk hn3
  have HBL := Aside0.mk hBL
  have HSZ := Aside0.mk hsz
  have hrz3 : ∀ ty, (Builtin.append_ #[22, 3] ty #[.slice (some ⟨b, 0, none⟩) 0 c, .int .i64 ((n : Int) + 1)]).run Try.prog w = .ok (.slice (some ⟨w.heap.size, 0, none⟩) (n + 1) G) w1 := hrz2
  obtain ⟨N, hN⟩ : ∃ N, N = w.heap.size := ⟨_, rfl⟩
  rw [← hN] at hrz3 HN1
  have HNB := Aside0.mk (show B ≤ N by rw [hN]; exact hBw)
  have HNb := Aside0.mk (show b ≠ N ∧ vb ≠ N by omega)
  clear hn1 hn2 hn3 hBL hsz hW1 hrz2 hN hblt hvlt
  have hGi : ¬ (G = 1) := by omega
  have hRl : ROW.size = G * 7 := hRs
  have HRS := Aside0.mk hRs
  clear hRs hRl hroom
  go_enter Try.func74, Try.ntmps74
  go_wp2_with (first
    | (at_builtin; refine Lib.wpList_append_run _ rfl _ _ _ _ rfl _ _ rfl rfl _ _ (hrz3 _) ?_)
    | (refine wp_copy7 rfl (.tmp 43) (.tmp 44) rfl N 0 (n + 1) G ⟨vb, 0, none⟩ 1 1 (by rfl) (by rfl) ROW 24 HN1.out vs (by rw [hvl]; simp only [Nat.min_def]; split <;> omega) (fun j v hj => by rw [Addr.add_lit, Nat.zero_add, blk_cell HN2.out, List.getElem?_toArray]; exact hj) (by rw [HRS.out]; omega) h1v ?_; intro w2 hg2 hb2'; have HG2 := Aside0.mk hg2; have HW2 := Aside0.mk hb2'; clear hg2 hb2'))
  have hb1' := blk_grown HN3.out HW2.out (fun e => HNb.out.1 (Option.some.inj e))
  have HB1 := Aside0.mk hb1'
  clear hb1'
  go_region_law (refine st_copy7 rfl (.tmp 50) (.tmp 53) rfl N 7 n (G - 1) ⟨b, 0, none⟩ n c (by simp [Act.eval, Act.put]) (by simp [Act.eval, Act.put]) (splice ROW.toList 0 vs).toArray 24 HG2.out inner (by rw [HIL.out]; simp only [Nat.min_def]; split <;> omega) (cell_in (w := w2) HB1.out HCT.out) (spl_fit2 HRS.out hGn HIL.out hvl) h1c ?_; intro w3 hg3 hb3'; have HG3 := Aside0.mk hg3; have HW3 := Aside0.mk hb3'; clear hg3 hb3')
  go_wp2_with fail
  go_ret
  obtain ⟨s1, s2⟩ := spl_new (Array.length_toList.trans HRS.out) hGn HIL.out hvl
  exact ⟨_, rfl, HF.out (by rw [EN.out]; exact HR.out) hvl h1v HNB.out HG3.out s2 hGn hG63 s1, pw_below_grown (below_drew (pw_below_grown HBL.out (some N) (Nat.le_trans hBw HBL.out.size) HW2.out (fun k e => by injection e with e; have := HNB.out; omega))) (some N) (Nat.le_trans hBw (Nat.le_trans HBL.out.size HW2.out.size)) HW3.out (fun k e => by injection e with e; have := HNB.out; omega)⟩
theorem insert_calls {w : World} {B b c vb : Nat} {rows : List (List Value)} {vs : List Value} (h : (Kd.raw 7).R 24 w B (fun _ => True) (.slice (some ⟨b, 0, none⟩) rows.length c) rows) (h0 : 0 < rows.length) (hl : rows.length < 1000000000)
    (hv : w.heap[vb]? = some (.cells vs.toArray 24 (0, 0))) (hvl : vs.length = 7) (h1v : ∀ u ∈ vs, u.oneCell' = true) (hne : vb ≠ b) (hBw : B ≤ w.heap.size) :
    Calls Try.prog 74 #[.slice (some ⟨b, 0, none⟩) rows.length c, .int .i64 0, .slice (some ⟨vb, 0, none⟩) 1 1] w fun e w' => ∃ v', e = .returned v' ∧ (Kd.raw 7).R 24 w' B (fun _ => True) v' (vs :: rows) ∧ Below B w w' := by
  rcases Nat.lt_or_ge c (rows.length + 1) with hc | hc
  · exact insert_grow h h0 hl hc hv hvl h1v hne hBw
  · exact insert_room h h0 hl hc hv hvl h1v hne hBw
end
end Go.Proofs.Ytikfbipjlkhgeaa.P
