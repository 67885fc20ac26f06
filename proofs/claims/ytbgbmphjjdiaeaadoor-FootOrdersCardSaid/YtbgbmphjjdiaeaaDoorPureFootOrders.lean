/- FootOrders, the plain law: notes stand in the order of the references. -/
import Derived.Test.YtbgbmphjjdiaeaaDoorPk28
import Derived.Test.YtbgbmphjjdiaeaaDoorFootQ
import Derived.Test.YtbgbmphjjdiaeaaDoorOrdP
namespace Go.Proofs.YtbgbmphjjdiaeaaDoor.P
open Go.RowKit Go.Proofs.YtbgbmphjjdiaeaaDoorW.PrintWords Go.Proofs.YtbgbmphjjdiaeaaDoorW.PrintLast Go.Proofs.YtbgbmphjjdiaeaaDoorW.PrintMore
set_option linter.unusedVariables false
theorem wr_succ (i : Nat) (h : i ≤ 1000000000) : wrap64 ((i : Int) + 1) = ((i + 1 : Nat) : Int) := by
  rw [wr64 (by omega) (by omega)]
  omega
theorem ord_l3 (o : List ByteArray) (out : List S24) (hl : out.length = o.length) (hs : o.length ≤ 1000)
    (h : ∀ (j : Nat), j < out.length → (rd_T24 out (j : Int)).f3 = ((j + 1 : Nat) : Int) ∧ (o.map bts)[j]? = some (bts (rd_T24 out (j : Int)).f1)) :
    ∀ (d j : Nat), j + d = out.length → Ev (fun k => incipitlaw18_FootOrders.l3 k true o out (j : Int)) true := by
  intro d
  induction d with
  | zero =>
    intro j hj
    refine Ev.step (f := fun _ => some true) (fun k => ?_) (Ev.now _)
    simp only [incipitlaw18_FootOrders.l3]
    rw [if_neg (by omega)]
  | succ d ih =>
    intro j hj
    have hlt : j < out.length := by omega
    obtain ⟨h1, h2⟩ := h j hlt
    have h3 : ((rd_T24 out (j : Int)).f1).toList = (rdOf ByteArray.empty o (j : Int)).toList := by
      rw [List.getElem?_map] at h2
      unfold rdOf
      rw [Int.toNat_natCast, List.getD_eq_getElem?_getD, ByteArray.toList_eq, ByteArray.toList_eq]
      rw [List.getElem?_eq_getElem (by omega)] at h2 ⊢
      exact (Option.some.inj h2).symm
    have b : j ≤ 1000000000 := by omega
    refine Ev.step (f := fun k => incipitlaw18_FootOrders.l3 k true o out ((j + 1 : Nat) : Int)) (fun k => ?_) (ih (j + 1) (by omega))
    simp only [incipitlaw18_FootOrders.l3]
    rw [if_pos (by omega), if_pos (by omega), if_pos (by omega), if_pos h3, wr_succ j b, if_pos h1]
theorem ord_j3 {i : Nat} {p : List S24} {o : List ByteArray} (x0 : List Int) (h : OrdI i p o) (hi : i ≤ 40) (hx : x0.length = i) (ho : o.length ≤ 1000) (l : List S24) (hl : l = [paN p] ++ nts ∨ l = nts ++ [paN p]) : Ev (fun k => incipitlaw18_FootOrders.j3 k x0 true o l) true := by
  obtain ⟨text, out, g1, g2, g3, g4, g5⟩ := num_ord h hi l hl
  have h3 := ord_l3 o out g4 ho g5 out.length 0 (Nat.zero_add _)
  refine Ev.step (f := fun k => (foot_Number.f k l).bind fun bt232 => (if (bt232.2.length : Int) = (o.length : Int) then (if (bt232.1.length : Int) = 1 then (if 0 < (bt232.1.length : Int) then (incipitlaw18_FootOrders.j4 k true o bt232.2 ((((rd_T24 bt232.1 0).f6).length : Int) != (x0.length : Int))) else (none)) else (incipitlaw18_FootOrders.j4 k true o bt232.2 true)) else (incipitlaw18_FootOrders.j4 k true o bt232.2 true))) (fun k => by simp only [incipitlaw18_FootOrders.j3]) ?_
  refine Ev.bind (f := fun k bt232 => (if (bt232.2.length : Int) = (o.length : Int) then (if (bt232.1.length : Int) = 1 then (if 0 < (bt232.1.length : Int) then (incipitlaw18_FootOrders.j4 k true o bt232.2 ((((rd_T24 bt232.1 0).f6).length : Int) != (x0.length : Int))) else (none)) else (incipitlaw18_FootOrders.j4 k true o bt232.2 true)) else (incipitlaw18_FootOrders.j4 k true o bt232.2 true))) g1 ?_
  refine Ev.congr (f := fun k => incipitlaw18_FootOrders.j4 k true o out false) (fun k => ?_) ?_
  · show (if (out.length : Int) = (o.length : Int) then (if (text.length : Int) = 1 then (if 0 < (text.length : Int) then (incipitlaw18_FootOrders.j4 k true o out ((((rd_T24 text 0).f6).length : Int) != (x0.length : Int))) else (none)) else (incipitlaw18_FootOrders.j4 k true o out true)) else (incipitlaw18_FootOrders.j4 k true o out true)) = _
    rw [if_pos (by omega), if_pos (by omega), if_pos (by omega), bne_eq_false_iff_eq.2 (by omega)]
  · refine Ev.step (f := fun k => incipitlaw18_FootOrders.l3 k true o out ((0 : Nat) : Int)) (fun k => ?_) h3
    simp only [incipitlaw18_FootOrders.j4]
    rw [if_neg (by decide)]
    rfl
theorem mt_snoc (o : List ByteArray) (t s : ByteArray) : mt (o ++ [t]) s = (mt o s || (t.toList == s.toList)) := by
  unfold mt
  rw [List.any_append]
  simp
theorem ord_l2 (x0 : List Int) (x1 : Bool) (p : List S24) (o : List ByteArray) (i : Int) (s : ByteArray) (r : Bool) (ho : o.length ≤ 1000)
    (hT : mt o s = true → Ev (fun k => incipitlaw18_FootOrders.l1 k x0 x1 true nms nts p o (wrap64 (i + 1))) r) (hF : mt o s = false → Ev (fun k => incipitlaw18_FootOrders.l1 k x0 x1 true nms nts p (o ++ [s]) (wrap64 (i + 1))) r) :
    ∀ (d j : Nat), j + d = o.length → Ev (fun k => incipitlaw18_FootOrders.l2 k x0 x1 true nms nts p o i s (mt (o.take j) s) (j : Int)) r := by
  intro d
  induction d with
  | zero =>
    intro j hj
    rw [List.take_of_length_le (by omega)]
    cases hm : mt o s with
    | true =>
      refine Ev.step (f := fun k => incipitlaw18_FootOrders.l1 k x0 x1 true nms nts p o (wrap64 (i + 1))) (fun k => ?_) (hT hm)
      simp only [incipitlaw18_FootOrders.l2]
      rw [if_neg (by omega), if_pos trivial]
    | false =>
      refine Ev.step (f := fun k => incipitlaw18_FootOrders.l1 k x0 x1 true nms nts p (o ++ [s]) (wrap64 (i + 1))) (fun k => ?_) (hF hm)
      simp only [incipitlaw18_FootOrders.l2]
      rw [if_neg (by omega), if_neg (by decide), if_pos (by omega)]
  | succ d ih =>
    intro j hj
    have hlt : j < o.length := by omega
    have hr : rdOf ByteArray.empty o (j : Int) = o[j] := by unfold rdOf; rw [Int.toNat_natCast, List.getD_eq_getElem?_getD, List.getElem?_eq_getElem hlt]; rfl
    have hn := ih (j + 1) (by omega)
    rw [List.take_succ_eq_append_getElem hlt, mt_snoc] at hn
    cases hm : mt (o.take j) s with
    | true =>
      rw [hm, Bool.true_or] at hn
      refine Ev.step (f := fun k => incipitlaw18_FootOrders.l2 k x0 x1 true nms nts p o i s true ((j + 1 : Nat) : Int)) (fun k => ?_) hn
      simp only [incipitlaw18_FootOrders.l2]
      rw [if_pos (by omega), if_pos trivial, wr_succ j (by omega)]
    | false =>
      rw [hm, Bool.false_or] at hn
      refine Ev.step (f := fun k => incipitlaw18_FootOrders.l2 k x0 x1 true nms nts p o i s (o[j].toList == s.toList) ((j + 1 : Nat) : Int)) (fun k => ?_) hn
      simp only [incipitlaw18_FootOrders.l2]
      rw [if_pos (by omega), if_neg (by decide), if_pos (by omega), hr, wr_succ j (by omega)]
theorem pick_idx (n : Int) : ∃ m : Nat, Int.tmod (Go.bits .and .i64 n 65535) 5 = (m : Int) ∧ m < 5 := by
  have h7 : (BitVec.ofInt 64 65535).toNat = 2 ^ 16 - 1 := by decide
  have key : (BitVec.ofInt 64 n &&& BitVec.ofInt 64 65535).toNat = (n % ((2 ^ 64 : Nat) : Int)).toNat % 2 ^ 16 := by
    rw [BitVec.toNat_and, BitVec.toNat_ofInt, h7, Nat.and_two_pow_sub_one_eq_mod]
  have e : bits .and .i64 n 65535 = (((n % ((2 ^ 64 : Nat) : Int)).toNat % 2 ^ 16 : Nat) : Int) := by
    show IntKind.i64.wrap ((BitVec.ofInt 64 n &&& BitVec.ofInt 64 65535).toNat : Nat) = _
    rw [key, IntKind.wrap_i64]
    omega
  rw [e]
  refine ⟨(n % ((2 ^ 64 : Nat) : Int)).toNat % 2 ^ 16 % 5, ?_, Nat.mod_lt _ (by omega)⟩
  rfl
theorem OrdI.olen {i : Nat} {p : List S24} {o : List ByteArray} (h : OrdI i p o) : o.length ≤ 2 * i := by
  have h1 := wkL_ord (hasF F5) p cnt0
  rw [h.od, List.length_map] at h1
  have h2 := h.wt
  have h3 : cnt0.ord.length = 0 := rfl
  omega
theorem ord_l1 (x0 : List Int) (x1 : Bool) (hx : x0.length ≤ 40) : ∀ (d i : Nat) (p : List S24) (o : List ByteArray), i + d = x0.length → OrdI i p o → Ev (fun k => incipitlaw18_FootOrders.l1 k x0 x1 true nms nts p o (i : Int)) true := by
  intro d
  induction d with
  | zero =>
    intro i p o hi h
    have hol := h.olen
    have hj := ord_j3 x0 h (by omega) (by omega) (by omega)
    have hn : nts.length = 5 := rfl
    cases x1 with
    | true =>
      refine Ev.step (f := fun k => incipitlaw18_FootOrders.j3 k x0 true o (nts ++ [paN p])) (fun k => ?_) (hj _ (.inr rfl))
      simp only [incipitlaw18_FootOrders.l1]
      rw [if_neg (by omega), Option.bind_some, if_pos (by first | (simp; done) | (simp; omega)), Option.bind_some, if_pos trivial, Option.bind_some, if_pos (by first | (simp; done) | (simp; omega)), Option.bind_some, if_pos (by first | (simp; done) | (simp; omega)), if_pos (by first | (simp; done) | (simp; omega))]
      rfl
    | false =>
      refine Ev.step (f := fun k => incipitlaw18_FootOrders.j3 k x0 true o ([paN p] ++ nts)) (fun k => ?_) (hj _ (.inl rfl))
      simp only [incipitlaw18_FootOrders.l1]
      rw [if_neg (by omega), Option.bind_some, if_pos (by first | (simp; done) | (simp; omega)), Option.bind_some, if_neg (by decide)]
      rfl
  | succ d ih =>
    intro i p o hi h
    have hol := h.olen
    obtain ⟨m, em, hm⟩ := pick_idx (rd x0 (i : Int))
    have hn : nms.length = 5 := rfl
    have hmem : rdOf ByteArray.empty nms (m : Int) ∈ nms := by
      unfold rdOf
      rw [Int.toNat_natCast, List.getD_eq_getElem?_getD, List.getElem?_eq_getElem (by omega)]
      exact List.getElem_mem _
    have hst := h.step hmem (nms_size _ hmem)
    generalize hs : rdOf ByteArray.empty nms (m : Int) = s at *
    refine Ev.step (f := fun k => incipitlaw18_FootOrders.l2 k x0 x1 true nms nts (p ++ [rfN s]) o (i : Int) s (mt (o.take 0) s) ((0 : Nat) : Int)) (fun k => ?_) (ord_l2 x0 x1 (p ++ [rfN s]) o (i : Int) s true (by omega) (fun hh => ?_) (fun hh => ?_) o.length 0 (Nat.zero_add _))
    · have hl := h.len
      simp only [incipitlaw18_FootOrders.l1]
      rw [if_pos (by omega), if_pos (by omega), em, if_pos (by omega), if_pos (by omega), if_pos (by omega), hs]
      rfl
    · rw [if_pos hh] at hst
      rw [wr_succ i (by omega)]
      exact ih (i + 1) _ _ (by omega) hst
    · rw [if_neg (by rw [hh]; decide)] at hst
      rw [wr_succ i (by omega)]
      exact ih (i + 1) _ _ (by omega) hst
theorem FootOrders_pure (x0 : List Int) (x1 : Bool) : ∃ k, incipitlaw18_FootOrders.f k x0 x1 = some true := by
  refine Ev.rounds ?_
  refine Ev.bind (f := fun k t199 => (if (x0.length : Int) > 40 then (some t199) else (incipitlaw18_FootOrders.l0 k x0 x1 t199 nms ([] : List (S24)) 0))) (a := true) ⟨3, fun k hk => awake18 k hk⟩ ?_
  by_cases h : (x0.length : Int) > 40
  · exact Ev.congr (f := fun _ => some true) (fun k => by rw [if_pos h]) (Ev.now _)
  · refine Ev.congr (f := fun k => incipitlaw18_FootOrders.l0 k x0 x1 true nms ([] : List (S24)) 0) (fun k => by rw [if_neg h]) ?_
    refine Ev.step (f := fun k => incipitlaw18_FootOrders.l0 k x0 x1 true nms [ntN ⟨#[97]⟩] 1) (fun k => by simp only [incipitlaw18_FootOrders.l0]; rw [if_pos (by omega), if_pos (by omega), if_pos (by show _ < ((5 : Nat) : Int); omega), if_pos (by simp), show wrap64 ((0 : Int) + 1) = 1 from by unfold wrap64; omega]; rfl) ?_
    refine Ev.step (f := fun k => incipitlaw18_FootOrders.l0 k x0 x1 true nms [ntN ⟨#[97]⟩, ntN ⟨#[98]⟩] 2) (fun k => by simp only [incipitlaw18_FootOrders.l0]; rw [if_pos (by omega), if_pos (by omega), if_pos (by show _ < ((5 : Nat) : Int); omega), if_pos (by simp), show wrap64 ((1 : Int) + 1) = 2 from by unfold wrap64; omega]; rfl) ?_
    refine Ev.step (f := fun k => incipitlaw18_FootOrders.l0 k x0 x1 true nms [ntN ⟨#[97]⟩, ntN ⟨#[98]⟩, ntN ⟨#[99]⟩] 3) (fun k => by simp only [incipitlaw18_FootOrders.l0]; rw [if_pos (by omega), if_pos (by omega), if_pos (by show _ < ((5 : Nat) : Int); omega), if_pos (by simp), show wrap64 ((2 : Int) + 1) = 3 from by unfold wrap64; omega]; rfl) ?_
    refine Ev.step (f := fun k => incipitlaw18_FootOrders.l0 k x0 x1 true nms [ntN ⟨#[97]⟩, ntN ⟨#[98]⟩, ntN ⟨#[99]⟩, ntN ⟨#[100]⟩] 4) (fun k => by simp only [incipitlaw18_FootOrders.l0]; rw [if_pos (by omega), if_pos (by omega), if_pos (by show _ < ((5 : Nat) : Int); omega), if_pos (by simp), show wrap64 ((3 : Int) + 1) = 4 from by unfold wrap64; omega]; rfl) ?_
    refine Ev.step (f := fun k => incipitlaw18_FootOrders.l0 k x0 x1 true nms nts 5) (fun k => by simp only [incipitlaw18_FootOrders.l0]; rw [if_pos (by omega), if_pos (by omega), if_pos (by show _ < ((5 : Nat) : Int); omega), if_pos (by simp), show wrap64 ((4 : Int) + 1) = 5 from by unfold wrap64; omega]; rfl) ?_
    refine Ev.step (f := fun k => incipitlaw18_FootOrders.l1 k x0 x1 true nms nts [] [] ((0 : Nat) : Int)) (fun k => by simp only [incipitlaw18_FootOrders.l0]; rfl) ?_
    exact ord_l1 x0 x1 (by omega) x0.length 0 [] [] (Nat.zero_add _) OrdI.zero
end Go.Proofs.YtbgbmphjjdiaeaaDoor.P
namespace Go.Proofs.YtbgbmphjjdiaeaaDoor.Pure
open Go.Proofs.YtbgbmphjjdiaeaaDoor.P
theorem FootOrders : incipitlaw18_FootOrders.Pure := fun l0 a1 _ _ _ => FootOrders_pure l0 a1
end Go.Proofs.YtbgbmphjjdiaeaaDoor.Pure
