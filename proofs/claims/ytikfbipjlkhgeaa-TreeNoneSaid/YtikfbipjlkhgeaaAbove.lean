/- TreeAbove: nothing is below itself. -/
import Derived.Test.YtikfbipjlkhgeaaForestC
import Derived.Test.YtikfbipjlkhgeaaMove
import Derived.Test.YtikfbipjlkhgeaaAwake
import Derived.Laws.BitsLemmas
import Derived.Deep.LoopGhost
import Derived.Deep.DeepCutAuto
import Derived.Deep.RegionHeld3
namespace Go.Proofs.Ytikfbipjlkhgeaa.P
open Go.RowKit Go.Proofs.YtikfbipjlkhgeaaW.PrintWords Go.Proofs.YtikfbipjlkhgeaaW.PrintLast Go.Proofs.YtikfbipjlkhgeaaW.PrintMore
set_option linter.unusedVariables false
set_option linter.unusedSimpArgs false
def kp : Kd (Int × Int) := Kd.pair (Kd.int .i64) (Kd.int .i64)
theorem at_pair {w : World} {A : Option Addr} {n : Nat} {xs : List (Int × Int)} (h : Kd.C kp w A n xs) (i : Nat) (hi : i < n) : ∃ ad, A = some ad ∧ w.cell? (ad.add (i * 2)) = some (.int .i64 (xs.getD i (0, 0)).1) ∧ w.cell? ⟨(ad.add (i * 2)).block, (ad.add (i * 2)).off + 1, none⟩ = some (.int .i64 (xs.getD i (0, 0)).2) := by
  obtain ⟨ad, c, e, hl, hK, hc0⟩ := Kd.C_get h (0, 0) (i : Int) (by omega) (by omega)
  have hc : ∀ j u, c[j]? = some u → w.cell? (ad.add (i * 2 + j)) = some u := hc0
  obtain ⟨c1, c2, rfl, h1, h2⟩ := hK
  have h1 : c1 = [.int .i64 (xs.getD i (0, 0)).1] := h1
  have h2 : c2 = [.int .i64 (xs.getD i (0, 0)).2] := h2
  subst h1 h2
  exact ⟨ad, e, hc 0 _ rfl, by rw [← add_field _ _ 1 (by omega)]; exact hc 1 _ rfl⟩
theorem i64_and31 (n : Int) : ∃ m : Nat, bits .and .i64 n 31 = (m : Int) ∧ m ≤ 31 := by
  have h31 : (BitVec.ofInt 64 31).toNat = 2 ^ 5 - 1 := by decide
  have key : (BitVec.ofInt 64 n &&& BitVec.ofInt 64 31).toNat = (n % ((2 ^ 64 : Nat) : Int)).toNat % 2 ^ 5 := by
    rw [BitVec.toNat_and, BitVec.toNat_ofInt, h31, Nat.and_two_pow_sub_one_eq_mod]
  refine ⟨(n % 32).toNat, ?_, by omega⟩
  show IntKind.i64.wrap ((BitVec.ofInt 64 n &&& BitVec.ofInt 64 31).toNat : Nat) = ((n % 32).toNat : Int)
  rw [key, IntKind.wrap_i64]
  omega
/-- The arena, as it stands between two steps of the law. -/
def Stand (w0 w : World) (g n : Nat) : Prop := Below w0.heap.size w0 w ∧ ∃ sl, Ar w w0.heap.size g sl ∧ Wf sl ∧ AllIn sl ∧ sl.length = n
theorem Stand.add {w0 w : World} {g n : Nat} (h : Stand w0 w g n) (hn : n < 1000) (p : Nat) (hp : p < n) (k : Int) (A : Option Addr) (m c : Nat) :
    Calls Try.prog 27 #[.pointer (some ⟨g, 0, none⟩), .int .i64 p, .agg #[.int .i64 k, .string ⟨#[]⟩, .string ⟨#[]⟩, .int .i64 0, .int .i64 0, .bool false, .slice A m c]] w fun e w' => (∃ r : Int, e = .returned (.int .i64 r)) ∧ Stand w0 w' g (n + 1) := by
  obtain ⟨hb, sl, ha, hw, hall, rfl⟩ := h
  refine (add_calls ha (p : Int) k ⟨#[]⟩ ⟨#[]⟩ 0 0 false A m c (by omega) (fun i hi => by have := hw.kb i hi; omega)).mono ?_
  rintro e w' ⟨rfl, hb2, _, ha2⟩
  exact ⟨⟨_, rfl⟩, hb.trans hb2, _, ha2, add_wf hw p _ hp rfl, add_all hall p _ hp, addS_len _ _ _ hp⟩
theorem Stand.move {w0 w : World} {g n : Nat} (h : Stand w0 w g n) (hn : n < 1000) (id p : Int) :
    Calls Try.prog 28 #[.pointer (some ⟨g, 0, none⟩), .int .i64 id, .int .i64 p] w fun e w' => (∃ b : Bool, e = .returned (.bool b)) ∧ Stand w0 w' g n := by
  obtain ⟨hb, sl, ha, hw, hall, rfl⟩ := h
  refine (move_calls ha hw (by omega) id p).mono ?_
  rintro e w' ⟨sl', b, rfl, hb2, _, ha2, hrel⟩
  have hwf := hrel.wf hw
  exact ⟨⟨b, rfl⟩, hb.trans hb2, sl', ha2, hwf.1, move_all hrel hw hall, hwf.2⟩
theorem Stand.drew {w0 w : World} {g n : Nat} (h : Stand w0 w g n) : Stand w0 w.drew g n := by
  obtain ⟨hb, sl, ha, r⟩ := h
  exact ⟨hb.drew, sl, ha.drew, r⟩
set_option maxRecDepth 100000 in
set_option maxHeartbeats 8000000 in
theorem incipitlaw06_TreeAbove.calls (A : Option Addr) (c : Nat) (l : List (Int × Int)) (n : Int) (w : World) (hr : Kd.C kp w A l.length l) (hc : l.length ≤ c) :
    Calls Try.prog 6 #[.slice A l.length c, .int .i64 n] w fun e w' => e = .returned (.bool true) ∧ Below w.heap.size w w' := by
  have HR := Aside0.mk hr
  have hnl : l.length ≤ 9223372036854775807 := hr.2.1
  clear hr
  by_cases h60 : 60 < l.length
  · have c60 : decide ((60 : Int) < (l.length : Int)) = true := decide_eq_true (by omega)
    go_enter Try.func6, Try.ntmps6
    go_wp2_with fail
    refine (incipitlaw06_awake.calls true _ rfl).mono ?_
    rintro e w1 ⟨rfl, hb⟩
    have B1 := Aside0.mk hb
    clear hb
    go_wp2_with fail
    go_ret
    exact ⟨rfl, B1.out⟩
  · have c60 : decide ((60 : Int) < (l.length : Int)) = false := decide_eq_false (by omega)
    have H60 := Aside0.mk h60
    obtain ⟨m, hm, hm31⟩ := i64_and31 n
    clear h60
    go_enter Try.func6, Try.ntmps6
    go_wp2_with fail
    refine (incipitlaw06_awake.calls true _ rfl).mono ?_
    rintro e w1 ⟨rfl, hb⟩
    have B1 := Aside0.mk hb
    clear hb
    go_wp2_with fail
    refine (new_calls 1 ⟨#[]⟩ ⟨#[]⟩ 0 0 false none 0 0 w1).mono ?_
    rintro e w2 ⟨g, rfl, ha, hb⟩
    have HS := Aside0.mk (show Stand w1 w2 g 1 from ⟨hb, _, ha, one_wf _ rfl rfl, ⟨rfl, fun j h1 hj => by simp at hj; omega⟩, rfl⟩)
    clear ha hb hm
    go_wp2_with fail
    go_loopw [8] (fun v wr => ∃ k : Nat, 1 ≤ k ∧ k ≤ m + 1 ∧ v = .int .i64 k ∧ Aside0 (Stand w1 wr g k)) (fun v _ => m + 1 - (intOf v).toNat)
    case atStart => exact ⟨1, by omega, by omega, rfl, HS⟩
    case round =>
      clear HS
      obtain ⟨k, hk1, hk2, rfl, HS⟩ := hrel
      by_cases hlt : k < m + 1
      · have CA := Aside0.mk (HS.out.add (by omega) 0 (by omega) (k : Int) none 0 0)
        have hmod : ((k : Int) * 7) % (k : Int) = 0 := Int.mul_emod_right _ _
        have hkI : (k : Int) < 1 + (m : Int) := by omega
        go_wp2_with fail
        refine CA.out.mono ?_
        rintro e w3 ⟨⟨r, rfl⟩, hs⟩
        have HS3 := Aside0.mk hs
        clear hs
        go_wp2_with fail
        go_roundw
        case rel => exact ⟨k + 1, by omega, by omega, by go_num, HS3⟩
        case measure => simp [intOf]; omega
      · have hkm : k = m + 1 := by omega
        subst hkm
        have hkI : ¬ ((m + 1 : Nat) : Int) < 1 + (m : Int) := by omega
        go_wp2_with fail
        obtain ⟨wo, rfl⟩ : ∃ wo : World, wo = wr := ⟨_, rfl⟩
        clear hk1 hk2 hlt hkI
        go_loopw [9] (fun v wr => ∃ i : Nat, i ≤ l.length ∧ v = .int .i64 i ∧ Aside0 (Stand w1 wr g (m + 1))) (fun v _ => l.length - (intOf v).toNat)
        case atStart => exact ⟨0, by omega, rfl, HS⟩
        case round =>
          clear HS
          obtain ⟨i, hi, rfl, HS⟩ := hrel
          by_cases hlt : i < l.length
          · have BW := Aside0.mk (below_step B1.out HS.out.1)
            obtain ⟨ad, rfl, hx, hy⟩ := at_pair HR.out i hlt
            generalize (l.getD i (0, 0)).1 = x at hx
            generalize (l.getD i (0, 0)).2 = y at hy
            have HK := Aside0.mk (show ∀ w', Below w.heap.size w w' → w'.cell? (ad.add (i * 2)) = some (.int .i64 x) ∧ w'.cell? ⟨(ad.add (i * 2)).block, (ad.add (i * 2)).off + 1, none⟩ = some (.int .i64 y) from fun w' hb =>
              ⟨(hb.cell (World.block_lt_of_cell? w _ hx)).trans hx, (hb.cell (World.block_lt_of_cell? w _ hy)).trans hy⟩)
            have CM := Aside0.mk (HS.out.drew.move (by omega) x y)
            have hiI : (i : Int) < (l.length : Int) := by omega
            clear hx hy
            go_wp2_with fail
            go_region_held3 (fun w' => w'.cell? (ad.add (i * 2)) = some (.int .i64 x) ∧ w'.cell? ⟨(ad.add (i * 2)).block, (ad.add (i * 2)).off + 1, none⟩ = some (.int .i64 y))
              (first | exact HK.out _ (by first | assumption | exact below_drew BW.out))
              (first | (go_at_call 28; (with_reducible refine CM.out.mono ?_); rintro e w3 ⟨⟨b, rfl⟩, hs⟩; have HS3 := Aside0.mk hs; have hbn := below_step B1.out hs.1; clear hs))
            all_goals
              go_wp2_with fail
              go_roundw
              case rel => exact ⟨i + 1, by omega, by go_num, HS3⟩
              case measure => simp [intOf]; omega
          · have hiI : ¬ (i : Int) < (l.length : Int) := by omega
            obtain ⟨hb4, sl, ha4, hw4, hall4, hlen4⟩ := HS.out
            have B4 := Aside0.mk (below_step B1.out hb4)
            have HW := Aside0.mk hw4
            have HALL := Aside0.mk hall4
            have HLEN := Aside0.mk hlen4
            have HA := Aside0.mk ha4
            have CP := Aside0.mk (fun (x : Int) => show Calls Try.prog 29 #[.pointer (some ⟨g, 0, none⟩), .int .i64 x] wr fun e w' => e = .returned (.int .i64 (parentB sl x)) ∧ w' = wr from by obtain ⟨v, rows, h⟩ := ha4; exact parent_calls h.rd x)
            obtain ⟨wq, rfl⟩ : ∃ wq : World, wq = wr := ⟨_, rfl⟩
            clear hb4 ha4 hw4 hall4 hlen4 HS hi hlt
            go_wp2_with fail
            go_loop [10, 11, 12] (fun v _ _ => ∃ i : Nat, i ≤ m + 1 ∧ v = .int .i64 i) (fun v _ _ => m + 1 - (intOf v).toNat)
            case atStart => exact ⟨0, by omega, rfl⟩
            case round =>
              obtain ⟨j, hj, rfl⟩ := hrel
              by_cases hjt : j < m + 1
              · have hjI : (j : Int) < 1 + (m : Int) := by omega
                go_wp2_with fail
                go_loop [11, 12] (fun v u => ∃ s : Nat, s ≤ m + 1 ∧ v = .int .i64 (upN sl j s) ∧ u = .int .i64 s ∧ Aside0 (∀ q : Nat, q < s → 0 ≤ upN sl j q)) (fun _ u => m + 3 - (intOf u).toNat)
                case atStart => exact ⟨0, by omega, rfl, rfl, ⟨fun q hq => by omega⟩⟩
                case round =>
                  obtain ⟨s, hs, rfl, rfl, HU⟩ := hrel
                  have hnx : parentB sl (upN sl j s) = upN sl j (s + 1) := rfl
                  by_cases h0 : 0 ≤ upN sl j s
                  · have hall : ∀ q : Nat, q < s + 1 → 0 ≤ upN sl j q := fun q hq => by
                      by_cases e : q = s
                      · rw [e]; exact h0
                      · exact HU.out q (by omega)
                    have hfew := up_few HW.out j (by rw [HLEN.out]; exact hjt) s (fun q hq => hall q (by omega))
                    have HU2 := Aside0.mk hall
                    have hsm : s ≤ m := by rw [HLEN.out] at hfew; omega
                    have CPX := Aside0.mk (CP.out (upN sl j s))
                    rw [hnx] at CPX
                    clear hall hfew hnx HU
                    generalize upN sl j s = x at h0 CPX ⊢
                    have c0 : decide (0 ≤ x) = true := decide_eq_true h0
                    have cs : decide (1 + (m : Int) < (s : Int)) = false := decide_eq_false (by omega)
                    go_wp2_with fail
                    refine CPX.out.mono ?_
                    rintro e w5 ⟨rfl, rfl⟩
                    go_wp2_with fail
                    go_round
                    case rel => exact ⟨s + 1, by omega, rfl, by go_num, HU2⟩
                    case measure => simp [intOf]; omega
                  · clear hnx
                    generalize upN sl j s = x at h0 ⊢
                    have c0 : decide (0 ≤ x) = false := decide_eq_false h0
                    go_wp2_with fail
                    go_round
                    case rel => exact ⟨j + 1, by omega, by go_num⟩
                    case measure => simp [intOf]; omega
              · have hjI : ¬ (j : Int) < 1 + (m : Int) := by omega
                have hp0 : parentB sl 0 = -1 := by
                  unfold parentB
                  rw [if_pos ((hasB_iff sl 0).2 ⟨by omega, by have := HLEN.out; omega⟩)]
                  exact HALL.out.1
                have CP0 := Aside0.mk (CP.out 0)
                rw [hp0] at CP0
                obtain ⟨v, rows, har⟩ := HA.out
                obtain ⟨tr, ht1, ht2⟩ := tree_all HW.out har.bare HALL.out (by have := HLEN.out; omega)
                have hkb := HW.out.kb
                have hcnt := count_ev tr (by have := HLEN.out; omega)
                obtain ⟨kc, hkc⟩ := hcnt.rounds
                rw [ht2, HLEN.out] at hkc
                obtain ⟨y0, y1, y2, y3, y4, y5, y6⟩ := tr
                have CT := Aside0.mk (Tree_calls y0 y1 y2 y3 y4 y5 y6 0 sl wq w1.heap.size g (fun i hi => by have := hkb i hi; have := HLEN.out; omega) HA.out ht1)
                have HKC := Aside0.mk hkc
                have e1 : (((m + 1 : Nat) : Int) == 1 + (m : Int)) = true := by rw [beq_iff_eq]; omega
                clear hkc hp0 har ht1 ht2 hkb hcnt
                go_wp2_with fail
                refine CP0.out.mono ?_
                rintro e w6 ⟨rfl, rfl⟩
                go_wp2_with fail
                refine CT.out.mono ?_
                rintro e w7 ⟨v6, rfl, hR, hb⟩
                obtain ⟨A6, q6, hv6⟩ := Kd.R_slice hR
                subst hv6
                obtain ⟨_, hq6, hC6⟩ := Kd.R_reads' hR
                have B7 := Aside0.mk (below_step B4.out hb)
                have CN := Aside0.mk (tree_Count.calls kc y0 y1 y2 y3 y4 y5 A6 q6 y6 _ w7 hC6 hq6 HKC.out)
                clear hR hb hq6 hC6
                generalize ((m + 1 : Nat) : Int) = kn at CN e1
                go_wp2_with fail
                refine CN.out.mono ?_
                rintro e w8 ⟨rfl, hb⟩
                have B8 := Aside0.mk (below_step B7.out hb)
                clear hb
                go_wp2_with fail
                go_ret
                exact ⟨rfl, B8.out⟩
end Go.Proofs.Ytikfbipjlkhgeaa.P
