/- TreePlays: what one step does to both arenas; what is told of them. -/
import Derived.Test.YtikfbipjlkhgeaaArenaS
import Derived.Test.YtikfbipjlkhgeaaRfD
import Derived.Test.YtikfbipjlkhgeaaRfT
import Derived.Test.YtikfbipjlkhgeaaPk1
import Derived.Test.YtikfbipjlkhgeaaPk12
namespace Go.Proofs.Ytikfbipjlkhgeaa.P
open Go.RowKit Go.Proofs.YtikfbipjlkhgeaaW.PrintWords Go.Proofs.YtikfbipjlkhgeaaW.PrintLast Go.Proofs.YtikfbipjlkhgeaaW.PrintMore
set_option linter.unusedVariables false
set_option linter.unusedSimpArgs false
structure PlS (w0 w : World) (g g2 n : Nat) : Prop where
  below : Below w0.heap.size w0 w
  st : ∃ sl L K, Ar w w0.heap.size g sl ∧ Rf w w0.heap.size g2 L K ∧ Rel sl L K ∧ Wf sl ∧ (0 < sl.length ∧ sl.length ≤ n + 1) ∧ K.length ≤ n
theorem PlS.step {w0 w w1 : World} {g g2 n : Nat} (h : PlS w0 w g g2 n) (hb : Below w.heap.size w w1) : PlS w0 w1 g g2 n := by
  obtain ⟨h1, sl, L, K, ha, hr, h2⟩ := h
  exact ⟨h1.trans (hb.mono h1.size), sl, L, K, ha.below hb, hr.step hb, h2⟩
def OB (w : World) (b : Nat) (cs : Array Value) : Prop := w.heap[b]? = some (.cells cs 58 (0, 0))
theorem OB.t {w w1 : World} {b : Nat} {cs : Array Value} (h : OB w b cs) (hf : FrameT w w1) : OB w1 b cs := (hf b 58 _ h (by decide) (by decide) (by decide)).trans h
theorem OB.r {w w1 : World} {b : Nat} {cs : Array Value} (h : OB w b cs) (hf : FrameR w w1) : OB w1 b cs := (hf b 58 _ h (by decide) (by decide) (by decide)).trans h
theorem OB.step {w w1 : World} {b : Nat} {cs : Array Value} (h : OB w b cs) (hb : Below w.heap.size w w1) : OB w1 b cs := blk_below h hb
theorem Rel.has {sl : List S70} {L : List S24} {K : Lk} (h : Rel sl L K) (id : Int) : hasF L id = hasB sl id := by unfold hasF hasB; rw [h.len]
section
variable {w0 w : World} {g g2 n bo : Nat} {cs : Array Value}
theorem play_add (h : PlS w0 w g g2 n) (ho : OB w bo cs) (hn : n ≤ 100000) (p : Int) (x0 : Int) (x1 x2 : ByteArray) (x3 x4 : Int) (x5 : Bool) (A : Option Addr) (m c : Nat) :
    ∃ r : Int, Calls Try.prog 27 #[.pointer (some ⟨g, 0, none⟩), .int .i64 p, .agg #[.int .i64 x0, .string x1, .string x2, .int .i64 x3, .int .i64 x4, .bool x5, .slice A m c]] w fun e w1 => e = .returned (.int .i64 r) ∧ OB w1 bo cs ∧
      ∀ w2, Below w1.heap.size w1 w2 → Calls Try.prog 39 #[.pointer (some ⟨g2, 0, none⟩), .int .i64 p, .agg #[.int .i64 x0, .string x1, .string x2, .int .i64 x3, .int .i64 x4, .bool x5, .slice A m c]] w2 fun e w3 => e = .returned (.int .i64 r) ∧ OB w3 bo cs ∧ PlS w0 w3 g g2 (n + 1) := by
  obtain ⟨hb0, sl, L, K, ha, hr, hrel, hw, hl, hk⟩ := h
  have hlen := hrel.len
  have hs := hb0.size
  refine ⟨addR sl p, (add_calls ha p x0 x1 x2 x3 x4 x5 A m c (by omega) (fun i hi => by have := hw.kb i hi; omega)).mono ?_⟩
  rintro e w1 ⟨rfl, hb1, hf1, ha1⟩
  refine ⟨rfl, ho.t hf1, fun w2 hb2 => (radd_calls ((hr.frame hf1).step hb2) p x0 x1 x2 x3 x4 x5 A m c (by omega) (by omega)).mono ?_⟩
  rintro e w3 ⟨rfl, hb3, hf3, hr3⟩
  have hsz1 : w0.heap.size ≤ w1.heap.size := Nat.le_trans hs hb1.size
  have hbel : Below w0.heap.size w0 w3 := ((hb0.trans hb1).trans (hb2.mono hsz1)).trans hb3
  have ha3 := (ha1.below hb2).frameR hf3
  refine ⟨by unfold addF addR; rw [hrel.has, hlen], (OB.step (ho.t hf1) hb2).r hf3, ⟨hbel, ?_⟩⟩
  rw [hrel.has] at hr3
  cases hb : hasB sl p with
  | false =>
    rw [hb] at hr3
    have e2 : addS sl p (slotOf x0 x1 x2 x3 x4 x5 0) = sl := by unfold addS; rw [hb]; rfl
    rw [e2] at ha3
    exact ⟨sl, L, K, ha3, hr3, hrel, hw, by omega, by omega⟩
  | true =>
    rw [hb] at hr3
    obtain ⟨q, rfl⟩ : ∃ q : Nat, p = q := ⟨p.toNat, by have := (hasB_iff sl p).1 hb; omega⟩
    have hq : q < sl.length := by have := (hasB_iff sl q).1 hb; omega
    refine ⟨_, _, _, ha3, hr3, ?_, add_wf hw q _ hq rfl, by rw [addS_len _ _ _ hq]; omega, by rw [if_pos rfl, List.length_append, List.length_singleton]; omega⟩
    rw [if_pos rfl, if_pos rfl, hlen]
    exact rel_add hrel q hq (slotOf x0 x1 x2 x3 x4 x5 0) rfl
theorem play_set (h : PlS w0 w g g2 n) (ho : OB w bo cs) (hn : n ≤ 100000) (p : Int) (x0 : Int) (x1 x2 : ByteArray) (x3 x4 : Int) (x5 : Bool) (A : Option Addr) (m c : Nat) :
    ∃ r : Bool, Calls Try.prog 40 #[.pointer (some ⟨g, 0, none⟩), .int .i64 p, .agg #[.int .i64 x0, .string x1, .string x2, .int .i64 x3, .int .i64 x4, .bool x5, .slice A m c]] w fun e w1 => e = .returned (.bool r) ∧ OB w1 bo cs ∧
      ∀ w2, Below w1.heap.size w1 w2 → Calls Try.prog 41 #[.pointer (some ⟨g2, 0, none⟩), .int .i64 p, .agg #[.int .i64 x0, .string x1, .string x2, .int .i64 x3, .int .i64 x4, .bool x5, .slice A m c]] w2 fun e w3 => e = .returned (.bool r) ∧ OB w3 bo cs ∧ PlS w0 w3 g g2 (n + 1) := by
  obtain ⟨hb0, sl, L, K, ha, hr, hrel, hw, hl, hk⟩ := h
  have hlen := hrel.len
  have hs := hb0.size
  refine ⟨hasB sl p, (aset_calls ha p x0 x1 x2 x3 x4 x5 A m c).mono ?_⟩
  rintro e w1 ⟨rfl, hb1, hf1, ha1⟩
  refine ⟨rfl, ho.t hf1, fun w2 hb2 => (rset_calls ((hr.frame hf1).step hb2) p x0 x1 x2 x3 x4 x5 A m c).mono ?_⟩
  rintro e w3 ⟨rfl, hb3, hf3, hr3⟩
  have hsz1 : w0.heap.size ≤ w1.heap.size := Nat.le_trans hs hb1.size
  have hbel : Below w0.heap.size w0 w3 := ((hb0.trans hb1).trans (hb2.mono hsz1)).trans hb3
  have ha3 := (ha1.below hb2).frameR hf3
  refine ⟨by rw [hrel.has], (OB.step (ho.t hf1) hb2).r hf3, ⟨hbel, ?_⟩⟩
  rw [hrel.has] at hr3
  cases hb : hasB sl p with
  | false =>
    rw [hb] at hr3 ha3
    exact ⟨sl, L, K, ha3, hr3, hrel, hw, by omega, by omega⟩
  | true =>
    rw [hb] at hr3 ha3
    obtain ⟨q, rfl⟩ : ∃ q : Nat, p = q := ⟨p.toNat, by have := (hasB_iff sl p).1 hb; omega⟩
    have hq : q < sl.length := by have := (hasB_iff sl q).1 hb; omega
    exact ⟨_, _, _, ha3, hr3, rel_set hrel q hq _, set_wf hw q hq _, by rw [if_pos rfl, setS_len]; omega, by omega⟩
theorem unlink_val {sl sl' : List S70} {id : Int} {b : Bool} (h : UnlinkRel sl id b sl') : b = decide (0 ≤ parentB sl id) := by
  rcases h with ⟨rfl, i, q, rfl, hi, hq, hp, _⟩ | ⟨rfl, _, hp⟩
  · refine (decide_eq_true ?_).symm
    unfold parentB
    rw [if_pos ((hasB_iff sl i).2 ⟨by omega, by omega⟩)]
    show 0 ≤ par sl i
    omega
  · exact (decide_eq_false (by omega)).symm
theorem play_unlink (h : PlS w0 w g g2 n) (ho : OB w bo cs) (hn : n ≤ 100000) (p : Int) :
    ∃ r b1 : Bool, (b1 = false → r = false) ∧ Calls Try.prog 36 #[.pointer (some ⟨g, 0, none⟩), .int .i64 p] w fun e w1 => e = .returned (.bool r) ∧ OB w1 bo cs ∧
      ∀ w2, Below w1.heap.size w1 w2 → (Calls Try.prog 42 #[.pointer (some ⟨g2, 0, none⟩), .int .i64 p] w2 fun e w3 => e = .returned (.bool b1) ∧ w3 = w2) ∧ (b1 = false → PlS w0 w2 g g2 (n + 1)) ∧
        (b1 = true → ∀ w3, Below w2.heap.size w2 w3 → Calls Try.prog 43 #[.pointer (some ⟨g2, 0, none⟩), .int .i64 p] w3 fun e w4 => e = .returned (.bool r) ∧ OB w4 bo cs ∧ PlS w0 w4 g g2 (n + 1)) := by
  obtain ⟨hb0, sl, L, K, ha, hr, hrel, hw, hl, hk⟩ := h
  have hlen := hrel.len
  have hs := hb0.size
  refine ⟨decide (0 ≤ parentB sl p), hasB sl p, fun hb => by unfold parentB; rw [hb]; rfl, (unlink_calls ha hw (by omega) p).mono ?_⟩
  rintro e w1 ⟨sl', b, rfl, hb1, hf1, ha1, hul⟩
  have hval := unlink_val hul
  have hsz1 : w0.heap.size ≤ w1.heap.size := Nat.le_trans hs hb1.size
  refine ⟨by rw [hval], ho.t hf1, fun w2 hb2 => ?_⟩
  have hr2 := (hr.frame hf1).step hb2
  have ha2 := ha1.below hb2
  have hbel2 : Below w0.heap.size w0 w2 := (hb0.trans hb1).trans (hb2.mono hsz1)
  obtain ⟨hwf, hsl⟩ := hul.wf hw
  refine ⟨(rhas_calls hr2 p).mono fun e w3 h => ⟨by rw [h.1, hrel.has], h.2⟩, fun hb => ?_, fun hb w3 hb3 => (runlink_calls (hr2.step hb3) p (by omega)).mono ?_⟩
  · rcases hul with ⟨_, i, q, rfl, hi, _, _, _⟩ | ⟨_, rfl, _⟩
    · have := (hasB_iff sl i).2 ⟨by omega, by omega⟩
      rw [this] at hb
      cases hb
    · exact ⟨hbel2, sl', L, K, ha2, hr2, hrel, hw, by omega, by omega⟩
  · rintro e w4 ⟨rfl, hb4, hf4, hr4⟩
    have hsz2 : w0.heap.size ≤ w2.heap.size := hbel2.size
    have hul4 := unF_len K p
    refine ⟨by rw [hrel.parI], (OB.step (OB.step (ho.t hf1) hb2) hb3).r hf4, ⟨(hbel2.trans (hb3.mono hsz2)).trans hb4, sl', L, unK K p, (ha2.below hb3).frameR hf4, hr4, ?_, hwf, by omega, by unfold unK; split <;> omega⟩⟩
    unfold unK
    rcases hul with ⟨_, i, q, rfl, hi, hq, hp, rfl⟩ | ⟨_, rfl, hp⟩
    · rw [hrel.pr i hi, hp, if_pos (by omega)]
      exact rel_unlink hrel hw i q hi hq hp
    · rw [hrel.parI, if_neg (by omega)]
      exact hrel
theorem move_val {sl sl' : List S70} {L : List S24} {K : Lk} {id p : Int} {b : Bool} (hrel : Rel sl L K) (hw : Wf sl) (h : MoveRel sl id p b sl') : b = mvB L K id p := by
  unfold mvB
  rw [hrel.has, hrel.has, hrel.len]
  rcases h with ⟨rfl, i, q, rfl, rfl, hi, hq, h0, hna, _⟩ | ⟨rfl, _, hno⟩
  · rw [(hasB_iff sl i).2 ⟨by omega, by omega⟩, (hasB_iff sl q).2 ⟨by omega, by omega⟩]
    have e0 : ((i : Int) == 0) = false := beq_eq_false_iff_ne.2 (by omega)
    have e1 : belF K (sl.length + 1) (q : Int) (i : Int) = false := by
      cases hb : belF K (sl.length + 1) (q : Int) (i : Int) with
      | false => rfl
      | true => exact absurd ((bel_iff hrel hw q hq (i : Int) (by omega)).1 hb) hna
    rw [e0, e1]
    rfl
  · cases h1 : hasB sl id with
    | false => rfl
    | true =>
      cases h2 : hasB sl p with
      | false => rfl
      | true =>
        cases h3 : (id == 0) with
        | true => rfl
        | false =>
          obtain ⟨i, rfl⟩ : ∃ i : Nat, id = i := ⟨id.toNat, by have := (hasB_iff sl id).1 h1; omega⟩
          obtain ⟨q, rfl⟩ : ∃ q : Nat, p = q := ⟨p.toNat, by have := (hasB_iff sl p).1 h2; omega⟩
          have hq : q < sl.length := by have := (hasB_iff sl q).1 h2; omega
          have hanc : Anc sl (q : Int) (i : Int) := Classical.byContradiction fun hn => hno ⟨h1, h2, beq_eq_false_iff_ne.1 h3, hn⟩
          rw [(bel_iff hrel hw q hq (i : Int) (by omega)).2 hanc]
          rfl
theorem play_move (h : PlS w0 w g g2 n) (ho : OB w bo cs) (hn : n ≤ 100000) (id p : Int) :
    ∃ r : Bool, Calls Try.prog 28 #[.pointer (some ⟨g, 0, none⟩), .int .i64 id, .int .i64 p] w fun e w1 => e = .returned (.bool r) ∧ OB w1 bo cs ∧
      ∀ w2, Below w1.heap.size w1 w2 → Calls Try.prog 44 #[.pointer (some ⟨g2, 0, none⟩), .int .i64 id, .int .i64 p] w2 fun e w3 => e = .returned (.bool r) ∧ OB w3 bo cs ∧ PlS w0 w3 g g2 (n + 1) := by
  obtain ⟨hb0, sl, L, K, ha, hr, hrel, hw, hl, hk⟩ := h
  have hlen := hrel.len
  have hs := hb0.size
  refine ⟨mvB L K id p, (move_calls ha hw (by omega) id p).mono ?_⟩
  rintro e w1 ⟨sl', b, rfl, hb1, hf1, ha1, hmv⟩
  have hval := move_val hrel hw hmv
  have hsz1 : w0.heap.size ≤ w1.heap.size := Nat.le_trans hs hb1.size
  obtain ⟨hwf, hsl⟩ := hmv.wf hw
  refine ⟨by rw [hval], ho.t hf1, fun w2 hb2 => (rmove_calls ((hr.frame hf1).step hb2) id p (by omega) (by omega)).mono ?_⟩
  rintro e w3 ⟨rfl, hb3, hf3, hr3⟩
  have hul := unF_len K id
  have hkl : (if mvB L K id p = true then unK K id ++ [(p, id)] else K).length ≤ n + 1 := by
    split
    · rw [List.length_append, List.length_singleton]
      unfold unK
      split <;> omega
    · omega
  refine ⟨rfl, (OB.step (ho.t hf1) hb2).r hf3, ⟨((hb0.trans hb1).trans (hb2.mono hsz1)).trans hb3, sl', L, _, (ha1.below hb2).frameR hf3, hr3, ?_, hwf, by omega, hkl⟩⟩
  rw [← hval]
  rcases hmv with ⟨rfl, i, q, rfl, rfl, hi, hq, h0, hna, rfl⟩ | ⟨rfl, rfl, _⟩
  · rw [if_pos rfl]
    have hm := rel_move hrel hw i q hi hq
    have e : unK K (i : Int) = unF K (i : Int) := by
      unfold unK
      by_cases h0 : 0 ≤ parF K (i : Int)
      · rw [if_pos h0]
      · rw [if_neg h0]
        refine (un_out K _ (fun hm => h0 ?_)).symm
        obtain ⟨q, hq, he⟩ := parF_in hm
        rw [he]
        exact (hrel.rg _ hq).1.1
    rw [e]
    exact hm
  · rw [if_neg (by decide)]
    exact hrel
/-- A node's own fields, or none. -/
def nodeAt (sl : List S70) (id : Int) : S24 := if hasB sl id = true then (rd_T70 sl id).f0 else zn
theorem play_get {B : Nat} {sl : List S70} (h : Ar w B g sl) (id : Int) (y : S24) (hy : y = nodeAt sl id) :
    Calls Try.prog 46 #[.pointer (some ⟨g, 0, none⟩), .int .i64 id] w fun e w' => e = .returned (.agg #[.int .i64 y.f0, .string y.f1, .string y.f2, .int .i64 y.f3, .int .i64 y.f4, .bool y.f5, .slice none 0 0]) ∧ Below w.heap.size w w' := by
  subst hy
  unfold nodeAt
  cases hb : hasB sl id with
  | false => exact get_out h id hb
  | true =>
    obtain ⟨i, rfl⟩ : ∃ i : Nat, id = i := ⟨id.toNat, by have := (hasB_iff sl id).1 hb; omega⟩
    have hi : i < sl.length := by have := (hasB_iff sl i).1 hb; omega
    rw [if_pos rfl]
    obtain ⟨y, hy⟩ : ∃ y, (rd_T70 sl (i : Int)).f0 = y := ⟨_, rfl⟩
    rw [hy]
    cases y
    exact get_calls h i hi _ _ _ _ _ _ _ hy
theorem own_f (y : S24) : incipitref06_Own.f y.f0 y.f1 y.f2 y.f3 y.f4 y.f5 [] y.f0 y.f1 y.f2 y.f3 y.f4 y.f5 [] = some true := by
  unfold incipitref06_Own.f
  rw [if_pos rfl, if_pos rfl, if_pos rfl, if_pos rfl, if_pos rfl, beq_self_eq_true]
theorem numbers_loop (l : List Int) (hl : l.length ≤ 4294967296) : ∀ (d i : Nat), i + d = l.length → Ev (fun k => incipitlaw06_numbers.l0 k l l (i : Int)) true
  | 0, i, h => Ev.step (f := fun _ => some true) (fun k => by rw [incipitlaw06_numbers.l0, if_neg (by omega)]) (Ev.now _)
  | d + 1, i, h => Ev.step (f := fun k => incipitlaw06_numbers.l0 k l l ((i + 1 : Nat) : Int)) (fun k => by
      rw [incipitlaw06_numbers.l0, if_pos (by omega), if_pos (by omega), if_pos (by omega), if_pos rfl, show wrap64 ((i : Int) + 1) = ((i + 1 : Nat) : Int) by unfold wrap64; omega]) (numbers_loop l hl d (i + 1) (by omega))
theorem numbers_same (l : List Int) (hl : l.length ≤ 4294967296) : ∃ k, incipitlaw06_numbers.f k l l = some true := by
  obtain ⟨k, hk⟩ := (numbers_loop l hl l.length 0 (by omega)).rounds
  exact ⟨k, by unfold incipitlaw06_numbers.f; rw [if_pos rfl]; exact hk⟩
end
theorem end_same {sl : List S70} (hw : Wf sl) (hb : ∀ i : Nat, i < sl.length → (rd_T70 sl (i : Int)).f0.f6 = []) (h0 : 0 < sl.length) (h61 : sl.length ≤ 100) :
    ∃ (x0 : Int) (x1 x2 : ByteArray) (x3 x4 : Int) (x5 : Bool) (l : List S24) (k : Nat), trT 0 sl 0 ⟨x0, x1, x2, x3, x4, x5, l⟩ ∧ incipitref06_Same.f k x0 x1 x2 x3 x4 x5 l x0 x1 x2 x3 x4 x5 l = some true := by
  obtain ⟨d, hu⟩ := hw.up
  obtain ⟨D, hD⟩ : ∃ D, ∀ i : Nat, i < sl.length → d i ≤ D := by
    have : ∀ n : Nat, ∃ D, ∀ i : Nat, i < n → d i ≤ D := fun n => by
      induction n with
      | zero => exact ⟨0, fun i hi => by omega⟩
      | succ n ih =>
        obtain ⟨D, h⟩ := ih
        refine ⟨max D (d n), fun i hi => ?_⟩
        by_cases e : i = n
        · subst e; omega
        · have := h i (by omega); omega
    exact this _
  obtain ⟨t, h1, h2⟩ := tree_of hw hb hu D hD (D + 1) 0 h0 (by omega)
  have h3 : cntA sl ((0 : Nat) : Int) ≤ sl.length := by
    unfold cntA
    exact Nat.le_trans List.countP_le_length (by rw [List.length_range]; exact Nat.le_refl _)
  have cl : ∀ x : S24, x.f6.length < cntT x := fun x => by
    have := len_cntL x.f6
    obtain ⟨a, b, c, d, e, f, l⟩ := x
    rw [cntT.eq_1]
    show l.length < _
    have : l.length ≤ cntL l := this
    omega
  have h4 := rsame_ev t (by have := cl t; omega) (fun u hu => by have := cl u; omega) t
  rw [sameT_refl] at h4
  obtain ⟨K, hK⟩ := h4
  have h5 := hK K (Nat.le_refl _)
  obtain ⟨x0, x1, x2, x3, x4, x5, l⟩ := t
  exact ⟨x0, x1, x2, x3, x4, x5, l, K, h1, h5⟩
end Go.Proofs.Ytikfbipjlkhgeaa.P
