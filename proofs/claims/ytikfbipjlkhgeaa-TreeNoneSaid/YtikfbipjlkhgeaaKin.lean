/- TreeKin: each child's parent is whose child it is; each one that has a parent is its child, once. -/
import Derived.Test.YtikfbipjlkhgeaaAbove
import Derived.Test.YtikfbipjlkhgeaaLay
import Derived.Deep.LoopGhost
import Derived.Deep.DeepCutAuto
import Derived.Deep.RegionHeld3
namespace Go.Proofs.Ytikfbipjlkhgeaa.P
open Go.RowKit Go.Proofs.YtikfbipjlkhgeaaW.PrintWords Go.Proofs.YtikfbipjlkhgeaaW.PrintLast Go.Proofs.YtikfbipjlkhgeaaW.PrintMore
set_option linter.unusedVariables false
set_option linter.unusedSimpArgs false
def StandK (w0 w : World) (g n : Nat) : Prop := Below w0.heap.size w0 w ∧ ∃ sl, Ar w w0.heap.size g sl ∧ Wf sl ∧ sl.length = n
theorem StandK.add {w0 w : World} {g n : Nat} (h : StandK w0 w g n) (hn : n < 1000) (p : Nat) (hp : p < n) (k : Int) (A : Option Addr) (m c : Nat) :
    Calls Try.prog 27 #[.pointer (some ⟨g, 0, none⟩), .int .i64 p, .agg #[.int .i64 k, .string ⟨#[]⟩, .string ⟨#[]⟩, .int .i64 0, .int .i64 0, .bool false, .slice A m c]] w fun e w' => (∃ r : Int, e = .returned (.int .i64 r)) ∧ StandK w0 w' g (n + 1) := by
  obtain ⟨hb, sl, ha, hw, rfl⟩ := h
  refine (add_calls ha (p : Int) k ⟨#[]⟩ ⟨#[]⟩ 0 0 false A m c (by omega) (fun i hi => by have := hw.kb i hi; omega)).mono ?_
  rintro e w' ⟨rfl, hb2, _, ha2⟩
  exact ⟨⟨_, rfl⟩, hb.trans hb2, _, ha2, add_wf hw p _ hp rfl, addS_len _ _ _ hp⟩
theorem StandK.move {w0 w : World} {g n : Nat} (h : StandK w0 w g n) (hn : n < 1000) (id p : Int) :
    Calls Try.prog 28 #[.pointer (some ⟨g, 0, none⟩), .int .i64 id, .int .i64 p] w fun e w' => (∃ b : Bool, e = .returned (.bool b)) ∧ StandK w0 w' g n := by
  obtain ⟨hb, sl, ha, hw, rfl⟩ := h
  refine (move_calls ha hw (by omega) id p).mono ?_
  rintro e w' ⟨sl', b, rfl, hb2, _, ha2, hrel⟩
  have hwf := hrel.wf hw
  exact ⟨⟨b, rfl⟩, hb.trans hb2, sl', ha2, hwf.1, hwf.2⟩
/-- What Unlink does. -/
def UnlinkRel (sl : List S70) (id : Int) (b : Bool) (sl' : List S70) : Prop :=
  (b = true ∧ ∃ i q : Nat, id = i ∧ i < sl.length ∧ q < sl.length ∧ par sl i = (q : Int) ∧ sl' = unlinkS sl i q) ∨ (b = false ∧ sl' = sl ∧ parentB sl id < 0)
theorem unlink_calls {w : World} {B g : Nat} {sl : List S70} (h : Ar w B g sl) (hw : Wf sl) (hs : sl.length < 1000000) (id : Int) :
    Calls Try.prog 36 #[.pointer (some ⟨g, 0, none⟩), .int .i64 id] w fun e w' => ∃ sl' b, e = .returned (.bool b) ∧ Below B w w' ∧ FrameT w w' ∧ Ar w' B g sl' ∧ UnlinkRel sl id b sl' := by
  by_cases hp : parentB sl id < 0
  · refine (unlink_no h id hp).mono ?_
    rintro e w' ⟨rfl, rfl⟩
    exact ⟨sl, false, rfl, Below.refl _ _, FrameT.refl _, h, .inr ⟨rfl, rfl, hp⟩⟩
  · have hb : hasB sl id = true := by
      cases e : hasB sl id with
      | true => rfl
      | false => exact absurd (by unfold parentB; rw [e, if_neg (by decide)]; omega) hp
    obtain ⟨a0, a1⟩ := (hasB_iff sl id).1 hb
    obtain ⟨i, rfl⟩ : ∃ i : Nat, id = i := ⟨id.toNat, by omega⟩
    have hi : i < sl.length := by omega
    have e : parentB sl (i : Int) = par sl i := by unfold parentB; rw [if_pos hb]; rfl
    rw [e] at hp
    obtain ⟨d, hu⟩ := hw.up
    rcases hu.pr i hi with h1 | ⟨q, hq, h1, _⟩
    · have h1 : par sl i = -1 := h1
      omega
    · have h1 : par sl i = q := h1
      refine (unlink_yes h i q hi hq h1 ((hw.kd q hq i).2 ⟨i, hi, rfl, h1⟩) (by have := hw.kb q hq; omega)).mono ?_
      rintro e w' ⟨rfl, hb2, hf2, ha2⟩
      exact ⟨_, true, rfl, hb2, hf2, ha2, .inl ⟨rfl, i, q, rfl, hi, hq, h1, rfl⟩⟩
theorem UnlinkRel.wf {sl sl' : List S70} {id : Int} {b : Bool} (h : UnlinkRel sl id b sl') (hw : Wf sl) : Wf sl' ∧ sl'.length = sl.length := by
  rcases h with ⟨_, i, q, rfl, hi, hq, hp, rfl⟩ | ⟨_, rfl, _⟩
  · exact ⟨unlink_wf hw i q hi hq hp, unlinkS_len _ _ _⟩
  · exact ⟨hw, rfl⟩
theorem StandK.unlink {w0 w : World} {g n : Nat} (h : StandK w0 w g n) (hn : n < 1000) (id : Int) :
    Calls Try.prog 36 #[.pointer (some ⟨g, 0, none⟩), .int .i64 id] w fun e w' => (∃ b : Bool, e = .returned (.bool b)) ∧ StandK w0 w' g n := by
  obtain ⟨hb, sl, ha, hw, rfl⟩ := h
  refine (unlink_calls ha hw (by omega) id).mono ?_
  rintro e w' ⟨sl', b, rfl, hb2, _, ha2, hrel⟩
  have hwf := hrel.wf hw
  exact ⟨⟨b, rfl⟩, hb.trans hb2, sl', ha2, hwf.1, hwf.2⟩
theorem StandK.drew {w0 w : World} {g n : Nat} (h : StandK w0 w g n) : StandK w0 w.drew g n := by
  obtain ⟨hb, sl, ha, r⟩ := h
  exact ⟨hb.drew, sl, ha.drew, r⟩
/-- How many children the first slots have; how many of them have a parent. -/
def kidN (sl : List S70) (i : Nat) : Nat := ((List.range i).map fun p => (kds sl p).length).sum
def parN (sl : List S70) (i : Nat) : Nat := (List.range i).countP fun j => decide (0 ≤ par sl j)
theorem kidN_succ (sl : List S70) (i : Nat) : kidN sl (i + 1) = kidN sl i + (kds sl i).length := by unfold kidN; rw [List.range_succ, List.map_append, List.sum_append]; simp
theorem parN_succ (sl : List S70) (i : Nat) : parN sl (i + 1) = parN sl i + if 0 ≤ par sl i then 1 else 0 := by
  unfold parN
  rw [List.range_succ, List.countP_append]
  by_cases h : 0 ≤ par sl i <;> simp [h]
theorem kidN_le {sl : List S70} (hw : Wf sl) : ∀ i : Nat, i ≤ sl.length → kidN sl i ≤ i * sl.length
  | 0, _ => by simp [kidN]
  | i + 1, h => by
    rw [kidN_succ, Nat.succ_mul]
    have := kidN_le hw i (by omega)
    have := hw.kb i (by omega)
    have e : (kds sl i).length ≤ sl.length := this
    omega
theorem parN_le (sl : List S70) : ∀ i : Nat, parN sl i ≤ i
  | 0 => by simp [parN]
  | i + 1 => by
    rw [parN_succ]
    have := parN_le sl i
    split <;> omega
theorem kids_count {sl : List S70} (hw : Wf sl) (p : Nat) (hp : p < sl.length) : (kds sl p).length = (List.range sl.length).countP (fun j => par sl j == (p : Int)) := by
  have h1 : ((kds sl p).map Int.toNat).Nodup := nodup_map _ _ (hw.nd p hp) fun a ha b hb e => by
    obtain ⟨i, _, rfl, _⟩ := (hw.kd p hp a).1 ha
    obtain ⟨j, _, rfl, _⟩ := (hw.kd p hp b).1 hb
    have e2 : i = j := by simpa using e
    rw [e2]
  have h2 : ((List.range sl.length).filter (fun j => par sl j == (p : Int))).Nodup := List.nodup_range.filter _
  have hm : ∀ x : Nat, x ∈ (kds sl p).map Int.toNat ↔ x ∈ (List.range sl.length).filter (fun j => par sl j == (p : Int)) := fun x => by
    rw [List.mem_map, List.mem_filter, List.mem_range, beq_iff_eq]
    constructor
    · rintro ⟨c, hc, rfl⟩
      obtain ⟨i, hi, rfl, h⟩ := (hw.kd p hp c).1 hc
      exact ⟨by simpa using hi, by simpa using h⟩
    · rintro ⟨hx, h⟩
      exact ⟨(x : Int), (hw.kd p hp x).2 ⟨x, hx, rfl, h⟩, by simp⟩
  have e1 := nodup_sub_len _ _ h1 fun x hx => (hm x).1 hx
  have e2 := nodup_sub_len _ _ h2 fun x hx => (hm x).2 hx
  rw [List.length_map] at e1 e2
  rw [List.countP_eq_length_filter]
  omega
theorem kin_count {sl : List S70} (hw : Wf sl) : kidN sl sl.length = parN sl sl.length := by
  obtain ⟨d, hu⟩ := hw.up
  have h := countP_any (List.range sl.length) (fun j c => par sl j == c) ((List.range sl.length).map (Int.ofNat)) (nodup_map _ _ List.nodup_range fun a _ b _ e => by injection e) (fun j _ c _ c' _ h1 h2 => by
    rw [← beq_iff_eq.1 h1, ← beq_iff_eq.1 h2])
  have e1 : parN sl sl.length = (List.range sl.length).countP (fun j => ((List.range sl.length).map Int.ofNat).any ((fun j c => par sl j == c) j)) := by
    unfold parN
    refine List.countP_congr fun j hj => ?_
    have hj := List.mem_range.1 hj
    simp only [decide_eq_true_iff, List.any_eq_true, List.mem_map, List.mem_range]
    constructor
    · intro h0
      rcases hu.pr j hj with h1 | ⟨p, hp, h1, _⟩
      · have h1 : par sl j = -1 := h1
        omega
      · exact ⟨(p : Int), ⟨p, hp, rfl⟩, beq_iff_eq.2 h1⟩
    · rintro ⟨c, ⟨p, hp, rfl⟩, h2⟩
      have h2 := beq_iff_eq.1 h2
      rw [h2]
      show (0 : Int) ≤ (p : Int)
      omega
  rw [e1, h]
  unfold kidN
  rw [List.map_map]
  congr 1
  refine List.map_congr_left fun p hp => ?_
  rw [kids_count hw p (List.mem_range.1 hp)]
  rfl
def KinAt (w0 w : World) (g : Nat) (sl : List S70) : Prop := Below w0.heap.size w0 w ∧ Ar w w0.heap.size g sl
set_option maxRecDepth 100000 in
set_option maxHeartbeats 8000000 in
theorem incipitlaw06_TreeKin.calls (A : Option Addr) (c : Nat) (l : List (Int × Int)) (n : Int) (w : World) (hr : Kd.C kp w A l.length l) (hc : l.length ≤ c) :
    Calls Try.prog 10 #[.slice A l.length c, .int .i64 n] w fun e w' => e = .returned (.bool true) ∧ Below w.heap.size w w' := by
  have HR := Aside0.mk hr
  have hnl : l.length ≤ 9223372036854775807 := hr.2.1
  clear hr
  by_cases h60 : 60 < l.length
  · have c60 : decide ((60 : Int) < (l.length : Int)) = true := decide_eq_true (by omega)
    go_enter Try.func10, Try.ntmps10
    go_wp2_with fail
    refine (incipitlaw06_awake.calls true _ rfl).mono ?_
    rintro e w1 ⟨rfl, hb⟩
    have B1 := Aside0.mk hb
    clear hb
    go_wp2_with fail
    go_ret
    exact ⟨rfl, B1.out⟩
  · have c60 : decide ((60 : Int) < (l.length : Int)) = false := decide_eq_false (by omega)
    have H60 := Aside0.mk h60
    obtain ⟨m, hm, hm31⟩ := i64_and31 n
    clear h60
    go_enter Try.func10, Try.ntmps10
    go_wp2_with fail
    refine (incipitlaw06_awake.calls true _ rfl).mono ?_
    rintro e w1 ⟨rfl, hb⟩
    have B1 := Aside0.mk hb
    clear hb
    go_wp2_with fail
    refine (new_calls 1 ⟨#[]⟩ ⟨#[]⟩ 0 0 false none 0 0 w1).mono ?_
    rintro e w2 ⟨g, rfl, ha, hb⟩
    have HS := Aside0.mk (show StandK w1 w2 g 1 from ⟨hb, _, ha, one_wf _ rfl rfl, rfl⟩)
    clear ha hb hm
    go_wp2_with fail
    go_loopw [8] (fun v wr => ∃ k : Nat, 1 ≤ k ∧ k ≤ m + 1 ∧ v = .int .i64 k ∧ Aside0 (StandK w1 wr g k)) (fun v _ => m + 1 - (intOf v).toNat)
    case atStart => exact ⟨1, by omega, by omega, rfl, HS⟩
    case round =>
      clear HS
      obtain ⟨k, hk1, hk2, rfl, HS⟩ := hrel
      by_cases hlt : k < m + 1
      · obtain ⟨q, hdiv, hq⟩ : ∃ q : Nat, (k : Int) / 2 = (q : Int) ∧ q < k := ⟨k / 2, by omega, by omega⟩
        have CA := Aside0.mk (HS.out.add (by omega) q hq (k : Int) none 0 0)
        have hkI : (k : Int) < 1 + (m : Int) := by omega
        go_wp2_with fail
        refine CA.out.mono ?_
        rintro e w3 ⟨⟨r, rfl⟩, hs⟩
        have HS3 := Aside0.mk hs
        clear hs
        go_wp2_with fail
        go_roundw
        case rel => exact ⟨k + 1, by omega, by omega, by go_num, HS3⟩
        case measure => simp [intOf]; omega
      · have hkm : k = m + 1 := by omega
        subst hkm
        have hkI : ¬ ((m + 1 : Nat) : Int) < 1 + (m : Int) := by omega
        go_wp2_with fail
        obtain ⟨wo, rfl⟩ : ∃ wo : World, wo = wr := ⟨_, rfl⟩
        clear hk1 hk2 hlt hkI
        go_loopw [9] (fun v wr => ∃ i : Nat, i ≤ l.length ∧ v = .int .i64 i ∧ Aside0 (StandK w1 wr g (m + 1))) (fun v _ => l.length - (intOf v).toNat)
        case atStart => exact ⟨0, by omega, rfl, HS⟩
        case round =>
          clear HS
          obtain ⟨i, hi, rfl, HS⟩ := hrel
          by_cases hlt : i < l.length
          · have BW := Aside0.mk (below_step B1.out HS.out.1)
            obtain ⟨ad, rfl, hx, hy⟩ := at_pair HR.out i hlt
            generalize (l.getD i (0, 0)).1 = x at hx
            generalize (l.getD i (0, 0)).2 = y at hy
            have HK := Aside0.mk (show ∀ w', Below w.heap.size w w' → w'.cell? (ad.add (i * 2)) = some (.int .i64 x) ∧ w'.cell? ⟨(ad.add (i * 2)).block, (ad.add (i * 2)).off + 1, none⟩ = some (.int .i64 y) from fun w' hb =>
              ⟨(hb.cell (World.block_lt_of_cell? w _ hx)).trans hx, (hb.cell (World.block_lt_of_cell? w _ hy)).trans hy⟩)
            have hiI : (i : Int) < (l.length : Int) := by omega
            cases h3 : (x.tmod 3 == 0) with
            | true =>
              have CU := Aside0.mk (HS.out.unlink (by omega) x)
              obtain ⟨hxr, hyr⟩ := HK.out wr BW.out
              clear hx hy
              go_wp2_with fail
              refine CU.out.mono ?_
              rintro e w3 ⟨⟨b, rfl⟩, hs⟩
              have HS3 := Aside0.mk hs
              clear hs hxr hyr
              go_wp2_with fail
              go_roundw
              case rel => exact ⟨i + 1, by omega, by go_num, HS3⟩
              case measure => simp [intOf]; omega
            | false =>
              have CM := Aside0.mk (HS.out.drew.move (by omega) x y)
              obtain ⟨hxr, hyr⟩ := HK.out wr BW.out
              clear hx hy
              go_wp2_with fail
              clear hxr hyr
              go_region_held3 (fun w' => w'.cell? (ad.add (i * 2)) = some (.int .i64 x) ∧ w'.cell? ⟨(ad.add (i * 2)).block, (ad.add (i * 2)).off + 1, none⟩ = some (.int .i64 y))
                (first | exact HK.out _ (by first | assumption | exact below_drew BW.out))
                (first | (go_at_call 28; (with_reducible refine CM.out.mono ?_); rintro e w3 ⟨⟨b, rfl⟩, hs⟩; have HS3 := Aside0.mk hs; have hbn := below_step B1.out hs.1; clear hs))
              all_goals
                go_wp2_with fail
                go_roundw
                case rel => exact ⟨i + 1, by omega, by go_num, HS3⟩
                case measure => simp [intOf]; omega
          · have hiI : ¬ (i : Int) < (l.length : Int) := by omega
            obtain ⟨hb4, sl, ha4, hw4, hlen4⟩ := HS.out
            have HW := Aside0.mk hw4
            have HLEN := Aside0.mk hlen4
            have HK0 := Aside0.mk (show KinAt w1 wr g sl from ⟨hb4, ha4⟩)
            obtain ⟨wq, rfl⟩ : ∃ wq : World, wq = wr := ⟨_, rfl⟩
            clear hb4 ha4 hw4 hlen4 HS hi hlt
            go_wp2_with fail
            go_loopw [10, 11] (fun v u wr => ∃ i : Nat, i ≤ m + 1 ∧ u = .int .i64 i ∧ v = .int .i64 (kidN sl i) ∧ Aside0 (KinAt w1 wr g sl)) (fun _ u _ => m + 1 - (intOf u).toNat)
            case atStart => exact ⟨0, by omega, rfl, rfl, HK0⟩
            case round =>
              clear HK0
              obtain ⟨j, hj, rfl, rfl, HK0⟩ := hrel
              by_cases hjt : j < m + 1
              · have hjI : (j : Int) < 1 + (m : Int) := by omega
                have hkn := kidN_le HW.out j (by rw [HLEN.out]; omega)
                have hkb := HW.out.kb j (by rw [HLEN.out]; exact hjt)
                have hkj : (kds sl j).length ≤ sl.length := hkb
                have hsq : j * sl.length ≤ 32 * 32 := Nat.mul_le_mul (by omega) (by rw [HLEN.out]; omega)
                have hk1 : kidN sl j ≤ 1024 := by omega
                have hk2 : (kds sl j).length ≤ 32 := by have := HLEN.out; omega
                have CC := Aside0.mk (children_calls HK0.out.2 (j : Int) (fun i hi => by have := HW.out.kb i hi; have := HLEN.out; omega))
                have hkk : kidsB sl (j : Int) = kds sl j := by unfold kidsB; rw [if_pos ((hasB_iff sl _).2 ⟨by omega, by have := HLEN.out; omega⟩)]; rfl
                rw [hkk] at CC
                have HSU := Aside0.mk (kidN_succ sl j)
                have HPAR := Aside0.mk (show ∀ q : Nat, q < (kds sl j).length → parentB sl (rd (kds sl j) q) = j from fun q hq => by
                  have hmem : rd (kds sl j) q ∈ kds sl j := by
                    show (kds sl j).getD q 0 ∈ _
                    rw [List.getD_eq_getElem?_getD, List.getElem?_eq_getElem hq]
                    exact List.getElem_mem hq
                  obtain ⟨r, hr, e, hp⟩ := (HW.out.kd j (by rw [HLEN.out]; exact hjt) _).1 hmem
                  rw [e]
                  unfold parentB
                  rw [if_pos ((hasB_iff sl _).2 ⟨by omega, by omega⟩)]
                  exact hp)
                generalize kds sl j = kl at CC HPAR HSU hk2
                clear hkn hkb hkj hsq hkk
                go_wp2_with fail
                refine CC.out.mono ?_
                rintro e w5 ⟨v', rfl, hR, hbl⟩
                obtain ⟨A8, c8, hv8⟩ := Kd.R_slice hR
                subst hv8
                have HC8 := Aside0.mk (Kd.R_reads' hR).2.2
                have HK1 := Aside0.mk (show KinAt w1 w5 g sl from ⟨below_step HK0.out.1 hbl, HK0.out.2.below hbl⟩)
                have CP := Aside0.mk (fun (x : Int) => show Calls Try.prog 29 #[.pointer (some ⟨g, 0, none⟩), .int .i64 x] w5 fun e w' => e = .returned (.int .i64 (parentB sl x)) ∧ w' = w5 from by obtain ⟨v, rows, h⟩ := HK1.out.2; exact parent_calls h.rd x)
                clear hR hbl HK0
                obtain ⟨wz, rfl⟩ : ∃ wz : World, wz = w5 := ⟨_, rfl⟩
                go_wp2_with fail
                go_loop [13] (fun v => ∃ q : Nat, q ≤ kl.length ∧ v = .int .i64 q) (fun v => kl.length - (intOf v).toNat)
                case atStart => exact ⟨0, by omega, rfl⟩
                case round =>
                  obtain ⟨q, hq, rfl⟩ := hrel
                  by_cases hqt : q < kl.length
                  · obtain ⟨ad, rfl, hx⟩ := Kd.at_int HC8.out (q : Int) (by omega) (by omega)
                    simp only [Int.toNat_natCast] at hx
                    have CPX := Aside0.mk (CP.out (rd kl q))
                    rw [HPAR.out q hqt] at CPX
                    generalize rd kl q = x at hx CPX
                    have hqI : (q : Int) < (kl.length : Int) := by omega
                    go_wp2_with fail
                    refine CPX.out.mono ?_
                    rintro e w6 ⟨rfl, rfl⟩
                    go_wp2_with fail
                    go_round
                    case rel => exact ⟨q + 1, by omega, by go_num⟩
                    case measure => simp [intOf]; omega
                  · have hqI : ¬ (q : Int) < (kl.length : Int) := by omega
                    go_wp2_with fail
                    go_roundw
                    case rel => exact ⟨j + 1, by omega, by go_num, by rw [HSU.out]; go_num, HK1⟩
                    case measure => simp [intOf]; omega
              · have hjm : j = m + 1 := by omega
                subst hjm
                have hjI : ¬ ((m + 1 : Nat) : Int) < 1 + (m : Int) := by omega
                have CP := Aside0.mk (fun (x : Int) => show Calls Try.prog 29 #[.pointer (some ⟨g, 0, none⟩), .int .i64 x] wr fun e w' => e = .returned (.int .i64 (parentB sl x)) ∧ w' = wr from by obtain ⟨v, rows, h⟩ := HK0.out.2; exact parent_calls h.rd x)
                have CL := Aside0.mk (lenA HK0.out.2 (n := ((m + 1 : Nat) : Int)) (by rw [HLEN.out]))
                have HKC := Aside0.mk (show kidN sl (m + 1) = parN sl (m + 1) by have := kin_count HW.out; rw [HLEN.out] at this; exact this)
                obtain ⟨wz, rfl⟩ : ∃ wz : World, wz = wr := ⟨_, rfl⟩
                go_wp2_with fail
                go_loop [14, 15] (fun v u => ∃ q : Nat, q ≤ m + 1 ∧ u = .int .i64 q ∧ v = .int .i64 (parN sl q)) (fun _ u => m + 1 - (intOf u).toNat)
                case atStart => exact ⟨0, by omega, rfl, rfl⟩
                case round =>
                  obtain ⟨q, hq, rfl, rfl⟩ := hrel
                  by_cases hqt : q < m + 1
                  · have hqI : (q : Int) < 1 + (m : Int) := by omega
                    have CPX := Aside0.mk (CP.out (q : Int))
                    have hpq : parentB sl (q : Int) = par sl q := by unfold parentB; rw [if_pos ((hasB_iff sl _).2 ⟨by omega, by have := HLEN.out; omega⟩)]; rfl
                    rw [hpq] at CPX
                    have hps := Aside0.mk (parN_succ sl q)
                    have hpl := parN_le sl q
                    clear hpq
                    by_cases h0 : 0 ≤ par sl q
                    · have hps2 := Aside0.mk (show parN sl (q + 1) = parN sl q + 1 by rw [hps.out, if_pos h0])
                      have c0 : decide (0 ≤ par sl q) = true := decide_eq_true h0
                      clear hps
                      generalize par sl q = x at CPX h0 c0
                      clear h0
                      go_wp2_with fail
                      refine CPX.out.mono ?_
                      rintro e w6 ⟨rfl, rfl⟩
                      go_wp2_with fail
                      go_round
                      case rel => exact ⟨q + 1, by omega, by go_num, by rw [hps2.out]; go_num⟩
                      case measure => simp [intOf]; omega
                    · have hps2 := Aside0.mk (show parN sl (q + 1) = parN sl q by rw [hps.out, if_neg h0]; rfl)
                      have c0 : decide (0 ≤ par sl q) = false := decide_eq_false h0
                      clear hps
                      generalize par sl q = x at CPX h0 c0
                      clear h0
                      go_wp2_with fail
                      refine CPX.out.mono ?_
                      rintro e w6 ⟨rfl, rfl⟩
                      go_wp2_with fail
                      go_round
                      case rel => exact ⟨q + 1, by omega, by go_num, by rw [hps2.out]⟩
                      case measure => simp [intOf]; omega
                  · have hqm : q = m + 1 := by omega
                    subst hqm
                    have e1 : (((kidN sl (m + 1) : Nat) : Int) == ((parN sl (m + 1) : Nat) : Int)) = true := by rw [HKC.out]; exact beq_self_eq_true _
                    have e2 : (((m + 1 : Nat) : Int) == 1 + (m : Int)) = true := by rw [beq_iff_eq]; omega
                    generalize ((m + 1 : Nat) : Int) = mk at CL e2 hjI ⊢
                    generalize ((kidN sl (m + 1) : Nat) : Int) = kk at e1 ⊢
                    generalize ((parN sl (m + 1) : Nat) : Int) = pk at e1 ⊢
                    go_wp2_with fail
                    refine CL.out.mono ?_
                    rintro e w7 ⟨rfl, rfl⟩
                    go_wp2_with fail
                    go_ret
                    exact ⟨rfl, below_step B1.out HK0.out.1⟩
end Go.Proofs.Ytikfbipjlkhgeaa.P
