/- SlugUnlike, the plain law: of any names, and of any document's headings, no two are one; each begins by what it was made of. -/
import Derived.Test.YtbgbmphjjdiaeaaDoorPk29
import Derived.Test.YtbgbmphjjdiaeaaDoorSlugQ
import Derived.Test.YtbgbmphjjdiaeaaDoorFewT
import Derived.Test.YtbgbmphjjdiaeaaDoorSlugsM
namespace Go.Proofs.YtbgbmphjjdiaeaaDoor.Pure
open Go.RowKit Go.Proofs.YtbgbmphjjdiaeaaDoor.P Go.Proofs.YtbgbmphjjdiaeaaDoorW.PrintWords Go.Proofs.YtbgbmphjjdiaeaaDoorW.PrintLast
set_option linter.unusedVariables false
/-! what is told again of nodes that have names -/
mutual
theorem nam_T : ∀ (x : S24) (L O : List ByteArray), hcT x ≤ L.length → (hdT namT x L).1 = L.drop (hcT x) ∧ (hdT idT (hdT namT x L).2 O).1 = O ++ L.take (hcT x)
  | ⟨a, b, c, d, e, f, l⟩, L, O, h => by
    rw [hcT] at h ⊢
    rw [hdT]
    by_cases ha : a = 8
    · rw [if_pos ha] at h ⊢
      cases L with
      | nil => rw [List.length_nil] at h; omega
      | cons z L =>
        obtain ⟨i1, i2⟩ := nam_L l L (O ++ [z]) (by rw [List.length_cons] at h; omega)
        show (hdL namT l L).1 = _ ∧ (hdT idT ⟨a, b, z, d, e, f, (hdL namT l L).2⟩ O).1 = _
        rw [hdT, if_pos ha, if_pos ha]
        show (hdL namT l L).1 = _ ∧ (hdL idT (hdL namT l L).2 (O ++ [z])).1 = _
        rw [i1, i2, show 1 + hcL l = hcL l + 1 by omega, List.drop_succ_cons, List.take_succ_cons]
        simp
    · rw [if_neg ha] at h ⊢
      obtain ⟨i1, i2⟩ := nam_L l L O (by omega)
      show (hdL namT l L).1 = _ ∧ (hdT idT ⟨a, b, c, d, e, f, (hdL namT l L).2⟩ O).1 = _
      rw [hdT, if_neg ha, if_neg ha]
      show (hdL namT l L).1 = _ ∧ (hdL idT (hdL namT l L).2 O).1 = _
      rw [i1, i2, Nat.zero_add]
      exact ⟨rfl, rfl⟩
theorem nam_L : ∀ (l : List S24) (L O : List ByteArray), hcL l ≤ L.length → (hdL namT l L).1 = L.drop (hcL l) ∧ (hdL idT (hdL namT l L).2 O).1 = O ++ L.take (hcL l)
  | [], L, O, _ => by
    show L = L.drop 0 ∧ O = O ++ L.take 0
    simp
  | x :: r, L, O, h => by
    rw [hcL] at h ⊢
    obtain ⟨i1, i2⟩ := nam_T x L O (by omega)
    obtain ⟨j1, j2⟩ := nam_L r (hdT namT x L).1 (hdT idT (hdT namT x L).2 O).1 (by rw [i1, List.length_drop]; omega)
    rw [hdL]
    show (hdL namT r (hdT namT x L).1).1 = _ ∧ (hdL idT ((hdT namT x L).2 :: (hdL namT r (hdT namT x L).1).2) O).1 = _
    rw [hdL]
    show (hdL namT r (hdT namT x L).1).1 = _ ∧ (hdL idT (hdL namT r (hdT namT x L).1).2 (hdT idT (hdT namT x L).2 O).1).1 = _
    rw [j1, j2, i1, i2, List.drop_drop, List.append_assoc, ← List.take_add]
    exact ⟨rfl, rfl⟩
end
mutual
theorem nam_wtT (M : Nat) : ∀ (x : S24) (L : List ByteArray), (∀ z ∈ L, z.size ≤ M) → wtT (hdT namT x L).2 ≤ wtT x + hcT x * M ∧ ∀ z ∈ (hdT namT x L).1, z.size ≤ M
  | ⟨a, b, c, d, e, f, l⟩, L, h => by
    rw [hcT, hdT]
    by_cases ha : a = 8
    · rw [if_pos ha, if_pos ha, Nat.add_mul, Nat.one_mul]
      obtain ⟨i1, i2⟩ := nam_wtL M l L.tail (fun z hz => h z (List.mem_of_mem_tail hz))
      refine ⟨?_, i2⟩
      show wtT ⟨a, b, L.headD c, d, e, f, (hdL namT l L.tail).2⟩ ≤ _
      have hz : (L.headD c).size ≤ c.size + M := by
        cases L with
        | nil => show c.size ≤ _; omega
        | cons z L => have := h z (List.mem_cons_self ..); show z.size ≤ _; omega
      rw [wtT, wtT]
      omega
    · rw [if_neg ha, if_neg ha, Nat.zero_add]
      obtain ⟨i1, i2⟩ := nam_wtL M l L h
      refine ⟨?_, i2⟩
      show wtT ⟨a, b, c, d, e, f, (hdL namT l L).2⟩ ≤ _
      rw [wtT, wtT]
      omega
theorem nam_wtL (M : Nat) : ∀ (l : List S24) (L : List ByteArray), (∀ z ∈ L, z.size ≤ M) → wtL (hdL namT l L).2 ≤ wtL l + hcL l * M ∧ ∀ z ∈ (hdL namT l L).1, z.size ≤ M
  | [], L, h => ⟨Nat.zero_le _, h⟩
  | x :: r, L, h => by
    obtain ⟨i1, i2⟩ := nam_wtT M x L h
    obtain ⟨j1, j2⟩ := nam_wtL M r (hdT namT x L).1 i2
    rw [hcL, hdL, Nat.add_mul]
    refine ⟨?_, j2⟩
    show wtL ((hdT namT x L).2 :: (hdL namT r (hdT namT x L).1).2) ≤ _
    rw [wtL, wtL]
    omega
end
theorem names_size (S : List ByteArray) (M : Nat) (hl : S.length ≤ 1000000) (hz : ∀ x ∈ S, x.size ≤ M) : ∀ x ∈ uniqB S, x.size ≤ M + 8 := by
  intro x hx
  obtain ⟨y, hy, rfl⟩ := List.mem_map.1 hx
  rcases uniqL_mem [] _ y hy with h | ⟨s, h1, n, h2, rfl⟩
  · cases h
  · obtain ⟨z, hz1, rfl⟩ := List.mem_map.1 h1
    have h3 := hz z hz1
    have h4 := data_len z
    have h5 := dec_len7 n (by simp at h2; omega)
    rw [show (mkB (T.tryN z.data.toList n)).size = (T.tryN z.data.toList n).length from mk_size _]
    unfold T.tryN
    split
    · omega
    · rw [List.length_append, List.length_cons]
      omega
theorem apply_ids (l : List S24) (h : wtL l ≤ 2000) : slug_Apply.f l = some (applyB l) ∧ slug_Ids.f (applyB l) = some (uniqB (slugsB l)) := by
  obtain ⟨hS, hz⟩ := slugsB_len l
  have hc := hc_wtL l
  have hu := uniqB_length (slugsB l)
  refine ⟨by unfold slug_Apply.f; rw [if_pos (by omega)], ?_⟩
  have hM := names_size (slugsB l) 48008 (by omega) (fun x hx => by have := hz x hx; omega)
  have hw := (nam_wtL 48016 l (uniqB (slugsB l)) hM).1
  have hr := (nam_L l (uniqB (slugsB l)) [] (by omega)).2
  unfold slug_Ids.f
  rw [if_pos (by show wtL (hdL namT l (uniqB (slugsB l))).2 ≤ _; omega)]
  congr 1
  show (hdL idT (hdL namT l (uniqB (slugsB l))).2 []).1 = _
  rw [hr, List.nil_append, List.take_of_length_le (by omega)]
/-! no two are one -/
def Unlike (x : List ByteArray) : Prop := ∀ i j : Nat, j < i → i < x.length → (rdOf ByteArray.empty x (i : Int)).toList ≠ (rdOf ByteArray.empty x (j : Int)).toList
theorem uniqB_unlike (l : List ByteArray) : Unlike (uniqB l) := by
  intro i j hj hi he
  have hn := T.uniq_nodup (l.map (fun x : ByteArray => x.data.toList))
  unfold uniqB at hi he
  rw [List.length_map] at hi
  rw [rdOf_map _ i hi, rdOf_map _ j (by omega)] at he
  have := (List.nodup_iff_pairwise_ne.1 hn)
  rw [List.pairwise_iff_getElem] at this
  exact this j i (by omega) hi hj he.symm
theorem wr1 (i : Nat) (h : i ≤ 4294967296) : wrap64 ((i : Int) + 1) = ((i + 1 : Nat) : Int) := by unfold wrap64; omega
theorem l3_ev (x9 : List ByteArray) (hl : x9.length ≤ 4294967296) (hd : Unlike x9) (i : Nat) (hi : i < x9.length) (next : Ev (fun k => incipitlaw19_SlugUnlike.l2 k true x9 ((i + 1 : Nat) : Int)) true) :
    ∀ (d j : Nat), j + d = i → Ev (fun k => incipitlaw19_SlugUnlike.l3 k true x9 (i : Int) (j : Int)) true
  | 0, j, h => Ev.step (f := fun k => incipitlaw19_SlugUnlike.l2 k true x9 ((i + 1 : Nat) : Int)) (fun k => by rw [incipitlaw19_SlugUnlike.l3, if_neg (by omega), wr1 i (by omega)]) next
  | d + 1, j, h => Ev.step (f := fun k => incipitlaw19_SlugUnlike.l3 k true x9 (i : Int) ((j + 1 : Nat) : Int)) (fun k => by
      rw [incipitlaw19_SlugUnlike.l3, if_pos (by omega), if_pos (by omega), if_pos (by omega), if_pos (by omega), if_pos (by omega), if_neg (hd i j (by omega) hi), wr1 j (by omega)]) (l3_ev x9 hl hd i hi next d (j + 1) (by omega))
theorem l2_ev (x9 : List ByteArray) (hl : x9.length ≤ 4294967296) (hd : Unlike x9) : ∀ (d i : Nat), i + d = x9.length → Ev (fun k => incipitlaw19_SlugUnlike.l2 k true x9 (i : Int)) true
  | 0, i, h => Ev.step (f := fun _ => some true) (fun k => by rw [incipitlaw19_SlugUnlike.l2, if_neg (by omega)]) (Ev.now _)
  | d + 1, i, h => Ev.step (f := fun k => incipitlaw19_SlugUnlike.l3 k true x9 (i : Int) 0) (fun k => by rw [incipitlaw19_SlugUnlike.l2, if_pos (by omega)])
      (l3_ev x9 hl hd i (by omega) (l2_ev x9 hl hd d (i + 1) (by omega)) i 0 (by omega))
section
variable (x0 : List ByteArray) (a0 : Int) (a1 a2 : ByteArray) (a3 a4 : Int) (a5 : Bool) (a6 : List S24)
theorem l1_ev (x6 : List ByteArray) (hl : x6.length ≤ 4294967296) (hd : Unlike x6) (i : Nat) (hi : i < x6.length) (next : Ev (fun k => incipitlaw19_SlugUnlike.l0 k x0 true x6 ((i + 1 : Nat) : Int) a0 a1 a2 a3 a4 a5 a6) true) :
    ∀ (d j : Nat), j + d = i → Ev (fun k => incipitlaw19_SlugUnlike.l1 k x0 true x6 (i : Int) (j : Int) a0 a1 a2 a3 a4 a5 a6) true
  | 0, j, h => Ev.step (f := fun k => incipitlaw19_SlugUnlike.l0 k x0 true x6 ((i + 1 : Nat) : Int) a0 a1 a2 a3 a4 a5 a6) (fun k => by rw [incipitlaw19_SlugUnlike.l1, if_neg (by omega), wr1 i (by omega)]) next
  | d + 1, j, h => Ev.step (f := fun k => incipitlaw19_SlugUnlike.l1 k x0 true x6 (i : Int) ((j + 1 : Nat) : Int) a0 a1 a2 a3 a4 a5 a6) (fun k => by
      rw [incipitlaw19_SlugUnlike.l1, if_pos (by omega), if_pos (by omega), if_pos (by omega), if_pos (by omega), if_pos (by omega), if_neg (hd i j (by omega) hi), wr1 j (by omega)]) (l1_ev x6 hl hd i hi next d (j + 1) (by omega))
end
/-- Each name begins by what it was made of. -/
theorem uniqL_at : ∀ (l out : List (List UInt8)) (i : Nat) (hi : i < l.length), ∃ m, (T.uniqL out l)[out.length + i]? = some (T.tryN l[i] m)
  | [], out, i, hi => by simp at hi
  | s :: l, out, 0, hi => by
    obtain ⟨t, ht⟩ := T.uniqL_prefix (out ++ [T.freeS out s]) l
    refine ⟨T.freeN out s, ?_⟩
    rw [T.uniqL, ht]
    simp [T.freeS]
  | s :: l, out, i + 1, hi => by
    obtain ⟨m, hm⟩ := uniqL_at l (out ++ [T.freeS out s]) i (by simpa using hi)
    refine ⟨m, ?_⟩
    rw [T.uniqL]
    rw [List.length_append, List.length_singleton, show out.length + 1 + i = out.length + (i + 1) by omega] at hm
    exact hm
theorem uniqB_at (l : List ByteArray) (i : Nat) (hi : i < l.length) : ∃ r : List UInt8, (rdOf ByteArray.empty (uniqB l) (i : Int)) = mkB ((rdOf ByteArray.empty l (i : Int)).data.toList ++ r) := by
  obtain ⟨m, hm⟩ := uniqL_at (l.map (fun x : ByteArray => x.data.toList)) [] i (by simpa using hi)
  rw [List.length_nil, Nat.zero_add, List.getElem_map] at hm
  have h1 : rdOf ByteArray.empty l (i : Int) = l[i] := by unfold rdOf; simp [List.getD_eq_getElem?_getD, List.getElem?_eq_getElem hi]
  have h2 : rdOf ByteArray.empty (uniqB l) (i : Int) = mkB (T.tryN l[i].data.toList m) := by
    unfold rdOf uniqB T.uniq
    rw [Int.toNat_natCast, List.getD_eq_getElem?_getD, List.getElem?_map, hm]
    rfl
  rw [h1, h2]
  unfold T.tryN
  split
  · exact ⟨[], by rw [List.append_nil]⟩
  · exact ⟨_, rfl⟩
theorem cut_at (s r : List UInt8) (n : Nat) (hn : n = s.length) : ((mkB (s ++ r)).extract 0 n).toList = s := by
  rw [toList_data, hn]
  simp [mkB, List.extract]
section
variable (x0 : List ByteArray) (a0 : Int) (a1 a2 : ByteArray) (a3 a4 : Int) (a5 : Bool) (a6 : List S24)
theorem l0_ev (hl : x0.length ≤ 4294967296) (hw : wtL a6 ≤ 2000) : ∀ (d i : Nat), i + d = x0.length → Ev (fun k => incipitlaw19_SlugUnlike.l0 k x0 true (uniqB x0) (i : Int) a0 a1 a2 a3 a4 a5 a6) true
  | 0, i, h => by
    have hU := uniqB_length x0
    obtain ⟨h1, h2⟩ := apply_ids a6 hw
    have h3 := uniqB_length (slugsB a6)
    have h4 := (slugsB_len a6).1
    have h5 := hc_wtL a6
    refine Ev.step (f := fun k => incipitlaw19_SlugUnlike.l2 k true (uniqB (slugsB a6)) 0) (fun k => ?_) (l2_ev _ (by omega) (uniqB_unlike _) _ 0 (by rw [Nat.zero_add]))
    rw [incipitlaw19_SlugUnlike.l0, if_neg (by omega), h1, Option.bind_some, h2, Option.bind_some]
  | d + 1, i, h => by
    have hU := uniqB_length x0
    have hi : i < x0.length := by omega
    obtain ⟨r, hr⟩ := uniqB_at x0 i hi
    have hs : (rdOf ByteArray.empty (uniqB x0) (i : Int)).size = (rdOf ByteArray.empty x0 (i : Int)).size + r.length := by
      rw [hr, show (mkB ((rdOf ByteArray.empty x0 (i : Int)).data.toList ++ r)).size = ((rdOf ByteArray.empty x0 (i : Int)).data.toList ++ r).length from mk_size _, List.length_append, data_len]
    have hc : ((rdOf ByteArray.empty (uniqB x0) (i : Int)).extract 0 (((rdOf ByteArray.empty x0 (i : Int)).size : Int)).toNat).toList = (rdOf ByteArray.empty x0 (i : Int)).toList := by
      rw [hr, cut_at _ _ _ (by simp), toList_data]
    refine Ev.step (f := fun k => incipitlaw19_SlugUnlike.j2 k x0 true (uniqB x0) (i : Int) false a0 a1 a2 a3 a4 a5 a6) (fun k => ?_) (Ev.step (f := fun k => incipitlaw19_SlugUnlike.l1 k x0 true (uniqB x0) (i : Int) 0 a0 a1 a2 a3 a4 a5 a6) (fun k => ?_)
      (l1_ev x0 a0 a1 a2 a3 a4 a5 a6 (uniqB x0) (by omega) (uniqB_unlike _) i (by omega) (l0_ev hl hw d (i + 1) (by omega)) i 0 (by omega)))
    · rw [incipitlaw19_SlugUnlike.l0, if_pos (by omega), if_pos (by omega), if_pos (by omega), if_neg (by omega), if_pos (by omega), if_pos (by omega), hc, bne_self_eq_false]
    · rw [incipitlaw19_SlugUnlike.j2, if_neg (by decide)]
end
theorem j0_up (x0 : List ByteArray) (a0 : Int) (a1 a2 : ByteArray) (a3 a4 : Int) (a5 : Bool) (a6 : List S24) : Ev (fun k => incipitlaw19_SlugUnlike.j0 k x0 true true a0 a1 a2 a3 a4 a5 a6) true :=
  Ev.step (f := fun _ => some true) (fun k => by rw [incipitlaw19_SlugUnlike.j0, if_pos rfl]) (Ev.now _)
theorem SlugUnlike_ev (l0 : List ByteArray) (t : S24) (ok : okT t) : Ev (fun k => incipitlaw19_SlugUnlike.f k l0 t.f0 t.f1 t.f2 t.f3 t.f4 t.f5 t.f6) true := by
  have hA : Ev (fun k => incipitlaw19_awake.f k) true := ⟨4, fun k hk => awake19 k (by omega)⟩
  obtain ⟨b, hb, hbt⟩ := few_f l0 100 (by omega)
  have hF : Ev (fun k => incipitlaw19_few.f k l0) b := Ev.of (fun k => incipitlaw19_few.mono _ _) hb
  obtain ⟨b2, hF2, hb2⟩ := Few_ev t ok 2000 (by omega) (by omega)
  refine Ev.bind (f := fun k t495 => _) hA (Ev.bind (f := fun k t496 => _) hF ?_)
  cases b with
  | false => exact Ev.congr (fun k => if_neg (by decide)) (j0_up ..)
  | true =>
    obtain ⟨hl, hz⟩ := hbt rfl
    refine Ev.congr (fun k => if_pos rfl) (Ev.bind (f := fun k t497 => _) hF2 ?_)
    cases b2 with
    | false => exact j0_up ..
    | true =>
      have hw := hb2 rfl
      have hwt := wtT_eq t
      have h1 := unique_f l0 (by omega) fun x hx => by have := hz x hx; omega
      have hU := uniqB_length l0
      refine Ev.step (f := fun k => incipitlaw19_SlugUnlike.l0 k l0 true (uniqB l0) ((0 : Nat) : Int) t.f0 t.f1 t.f2 t.f3 t.f4 t.f5 t.f6) (fun k => ?_) (l0_ev l0 t.f0 t.f1 t.f2 t.f3 t.f4 t.f5 t.f6 (by omega) (by omega) l0.length 0 (by omega))
      rw [incipitlaw19_SlugUnlike.j0, if_neg (by decide), h1, Option.bind_some, if_pos (by omega)]
      rfl
end Go.Proofs.YtbgbmphjjdiaeaaDoor.Pure
namespace Go.Proofs.YtbgbmphjjdiaeaaDoor.P
open Go.Proofs.YtbgbmphjjdiaeaaDoorW.PrintWords
theorem SlugUnlike_pure (l0 : List ByteArray) (t : S24) (ok : okT t) : ∃ k, incipitlaw19_SlugUnlike.f k l0 t.f0 t.f1 t.f2 t.f3 t.f4 t.f5 t.f6 = some true := (Pure.SlugUnlike_ev l0 t ok).rounds
end Go.Proofs.YtbgbmphjjdiaeaaDoor.P
