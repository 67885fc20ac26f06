/- TreeWraps: a tree in another node is one deeper, has one node more, and may stand in a document just if it may stand alone. -/
import Derived.Test.YtikfbipjlkhgeaaAwake
import Derived.IntWalk
import Derived.Test.YtikfbipjlkhgeaaTreeP
import Derived.Test.YtikfbipjlkhgeaaPk1
namespace Go.Proofs.Ytikfbipjlkhgeaa.P
open Go.RowKit Go.Proofs.YtikfbipjlkhgeaaW.PrintWords Go.Proofs.YtikfbipjlkhgeaaW.PrintLast Go.Proofs.YtikfbipjlkhgeaaW.PrintMore
set_option linter.unusedVariables false
set_option linter.unusedSimpArgs false
theorem C_one {W : World} {g : Nat} {cs : Array Value} {x : S24} (hb : W.heap[g]? = some (.cells cs 24 (0, 0))) (hk : k24.K W x cs.toList) : Kd.C k24 W (some ⟨g, 0, none⟩) 1 [x] := by
  refine ⟨rfl, by omega, fun _ => ⟨⟨g, 0, none⟩, rfl, fun j y hy => ?_⟩⟩
  have hj : j = 0 := by
    have := (List.getElem?_eq_some_iff.1 hy).1
    simp at this
    exact this
  subst hj
  obtain rfl := Option.some.inj hy
  refine ⟨cs.toList, k24.K_len hk, hk, fun j u hu => ?_⟩
  rw [add_at, blk_cell hb]
  simpa using hu
theorem may_12 (k : Int) : mayB 2 k = mayB 1 k := rfl
theorem bad_12 (lk : Bool) : ∀ l, badL 2 lk l = badL 1 lk l
  | [] => rfl
  | x :: l => by
    unfold badL
    rw [may_12, bad_12 lk l]
def Box7 (w : World) (gb : Nat) (x0 : Int) (x1 x2 : ByteArray) (x3 x4 : Int) (x5 : Bool) (v6 : Value) : Prop := w.heap[gb]? = some (.cells #[.int .i64 x0, .string x1, .string x2, .int .i64 x3, .int .i64 x4, .bool x5, v6] 24 (0, 0))
theorem cell_alloc {w : World} {a : Addr} {u : Value} (h : w.cell? a = some u) (o : Obj) : (w.alloc o).cell? a = some u := (World.cell?_alloc_some _ _ _ (by rw [h]; rfl)).trans h
theorem wraps_world {w w2 : World} {A : Option Addr} {c : Nat} {l : List S24} (B2 : Below w.heap.size w w2) (hr : Kd.C k24 w2 A l.length l) (hc : l.length ≤ c) :
    ∀ W : World, W = (((w2.alloc (.cells #[.int .i64 2, .string ⟨#[]⟩, .string ⟨#[]⟩, .int .i64 0, .int .i64 0, .bool false, .slice A l.length c] 24)).alloc (.cells #[.int .i64 2, .string ⟨#[]⟩, .string ⟨#[]⟩, .int .i64 0, .int .i64 0, .bool false, .slice A l.length c] 24)).alloc (.cells #[.int .i64 1, .string ⟨#[]⟩, .string ⟨#[]⟩, .int .i64 0, .int .i64 0, .bool false, .slice (some ⟨w2.heap.size + 1, 0, none⟩) 1 1] 24)).alloc (.cells #[.int .i64 1, .string ⟨#[]⟩, .string ⟨#[]⟩, .int .i64 0, .int .i64 0, .bool false, .slice A l.length c] 24) →
    W.heap[w2.heap.size]? = some (.cells #[.int .i64 2, .string ⟨#[]⟩, .string ⟨#[]⟩, .int .i64 0, .int .i64 0, .bool false, .slice A l.length c] 24 (0, 0)) ∧ W.heap[w2.heap.size + 1 + 1]? = some (.cells #[.int .i64 1, .string ⟨#[]⟩, .string ⟨#[]⟩, .int .i64 0, .int .i64 0, .bool false, .slice (some ⟨w2.heap.size + 1, 0, none⟩) 1 1] 24 (0, 0)) ∧ W.heap[w2.heap.size + 1 + 1 + 1]? = some (.cells #[.int .i64 1, .string ⟨#[]⟩, .string ⟨#[]⟩, .int .i64 0, .int .i64 0, .bool false, .slice A l.length c] 24 (0, 0)) ∧ Kd.C k24 W A l.length l ∧
      Kd.C k24 W (some ⟨w2.heap.size + 1, 0, none⟩) 1 [⟨2, ⟨#[]⟩, ⟨#[]⟩, 0, 0, false, l⟩] ∧ Below w.heap.size w W := by
  rintro W rfl
  have s1 : (w2.alloc (.cells #[.int .i64 2, .string ⟨#[]⟩, .string ⟨#[]⟩, .int .i64 0, .int .i64 0, .bool false, .slice A l.length c] 24)).heap.size = w2.heap.size + 1 := World.size_alloc _ _
  have s2 : ((w2.alloc (.cells #[.int .i64 2, .string ⟨#[]⟩, .string ⟨#[]⟩, .int .i64 0, .int .i64 0, .bool false, .slice A l.length c] 24)).alloc (.cells #[.int .i64 2, .string ⟨#[]⟩, .string ⟨#[]⟩, .int .i64 0, .int .i64 0, .bool false, .slice A l.length c] 24)).heap.size = w2.heap.size + 1 + 1 := by rw [World.size_alloc, s1]
  have s3 : (((w2.alloc (.cells #[.int .i64 2, .string ⟨#[]⟩, .string ⟨#[]⟩, .int .i64 0, .int .i64 0, .bool false, .slice A l.length c] 24)).alloc (.cells #[.int .i64 2, .string ⟨#[]⟩, .string ⟨#[]⟩, .int .i64 0, .int .i64 0, .bool false, .slice A l.length c] 24)).alloc (.cells #[.int .i64 1, .string ⟨#[]⟩, .string ⟨#[]⟩, .int .i64 0, .int .i64 0, .bool false, .slice (some ⟨w2.heap.size + 1, 0, none⟩) 1 1] 24)).heap.size = w2.heap.size + 1 + 1 + 1 := by rw [World.size_alloc, s2]
  have hl : ((((w2.alloc (.cells #[.int .i64 2, .string ⟨#[]⟩, .string ⟨#[]⟩, .int .i64 0, .int .i64 0, .bool false, .slice A l.length c] 24)).alloc (.cells #[.int .i64 2, .string ⟨#[]⟩, .string ⟨#[]⟩, .int .i64 0, .int .i64 0, .bool false, .slice A l.length c] 24)).alloc (.cells #[.int .i64 1, .string ⟨#[]⟩, .string ⟨#[]⟩, .int .i64 0, .int .i64 0, .bool false, .slice (some ⟨w2.heap.size + 1, 0, none⟩) 1 1] 24)).alloc (.cells #[.int .i64 1, .string ⟨#[]⟩, .string ⟨#[]⟩, .int .i64 0, .int .i64 0, .bool false, .slice A l.length c] 24)).heap[w2.heap.size + 1]? = some (.cells #[.int .i64 2, .string ⟨#[]⟩, .string ⟨#[]⟩, .int .i64 0, .int .i64 0, .bool false, .slice A l.length c] 24 (0, 0)) := by
    refine blk_alloc (blk_alloc ?_ _) _
    rw [← s1]; exact blk_new _ _
  have hR := Kd.C_alloc (Kd.C_alloc (Kd.C_alloc (Kd.C_alloc hr (.cells #[.int .i64 2, .string ⟨#[]⟩, .string ⟨#[]⟩, .int .i64 0, .int .i64 0, .bool false, .slice A l.length c] 24)) (.cells #[.int .i64 2, .string ⟨#[]⟩, .string ⟨#[]⟩, .int .i64 0, .int .i64 0, .bool false, .slice A l.length c] 24)) (.cells #[.int .i64 1, .string ⟨#[]⟩, .string ⟨#[]⟩, .int .i64 0, .int .i64 0, .bool false, .slice (some ⟨w2.heap.size + 1, 0, none⟩) 1 1] 24)) (.cells #[.int .i64 1, .string ⟨#[]⟩, .string ⟨#[]⟩, .int .i64 0, .int .i64 0, .bool false, .slice A l.length c] 24)
  refine ⟨blk_alloc (blk_alloc (blk_alloc (blk_new _ _) _) _) _, ?_, ?_, hR, C_one hl (k24_mk _ ⟨2, ⟨#[]⟩, ⟨#[]⟩, 0, 0, false, l⟩ hc hR), below_alloc (below_alloc (below_alloc (below_alloc B2 _) _) _) _⟩
  · refine blk_alloc ?_ _
    rw [← s2]; exact blk_new _ _
  · rw [← s3]; exact blk_new _ _
theorem wraps_keep {W w' : World} {n : Nat} {A : Option Addr} {c : Nat} {l : List S24} (hd : W.heap[n + 1 + 1]? = some (.cells #[.int .i64 1, .string ⟨#[]⟩, .string ⟨#[]⟩, .int .i64 0, .int .i64 0, .bool false, .slice (some ⟨n + 1, 0, none⟩) 1 1] 24 (0, 0))) (he : W.heap[n + 1 + 1 + 1]? = some (.cells #[.int .i64 1, .string ⟨#[]⟩, .string ⟨#[]⟩, .int .i64 0, .int .i64 0, .bool false, .slice A l.length c] 24 (0, 0))) (hq : W.heap[n]? = some (.cells #[.int .i64 2, .string ⟨#[]⟩, .string ⟨#[]⟩, .int .i64 0, .int .i64 0, .bool false, .slice A l.length c] 24 (0, 0))) (hb : Below W.heap.size W w') :
    (w'.cell? ⟨n + 1 + 1, 0, none⟩ = some (.int .i64 1) ∧ w'.cell? ⟨n + 1 + 1, 1, none⟩ = some (.string ⟨#[]⟩) ∧ w'.cell? ⟨n + 1 + 1, 2, none⟩ = some (.string ⟨#[]⟩) ∧ w'.cell? ⟨n + 1 + 1, 3, none⟩ = some (.int .i64 0) ∧ w'.cell? ⟨n + 1 + 1, 4, none⟩ = some (.int .i64 0) ∧ w'.cell? ⟨n + 1 + 1, 5, none⟩ = some (.bool false) ∧ w'.cell? ⟨n + 1 + 1, 6, none⟩ = some (.slice (some ⟨n + 1, 0, none⟩) 1 1)) ∧ (w'.cell? ⟨n + 1 + 1 + 1, 0, none⟩ = some (.int .i64 1) ∧ w'.cell? ⟨n + 1 + 1 + 1, 1, none⟩ = some (.string ⟨#[]⟩) ∧ w'.cell? ⟨n + 1 + 1 + 1, 2, none⟩ = some (.string ⟨#[]⟩) ∧ w'.cell? ⟨n + 1 + 1 + 1, 3, none⟩ = some (.int .i64 0) ∧ w'.cell? ⟨n + 1 + 1 + 1, 4, none⟩ = some (.int .i64 0) ∧ w'.cell? ⟨n + 1 + 1 + 1, 5, none⟩ = some (.bool false) ∧ w'.cell? ⟨n + 1 + 1 + 1, 6, none⟩ = some (.slice A l.length c)) ∧ (w'.cell? ⟨n, 0, none⟩ = some (.int .i64 2) ∧ w'.cell? ⟨n, 1, none⟩ = some (.string ⟨#[]⟩) ∧ w'.cell? ⟨n, 2, none⟩ = some (.string ⟨#[]⟩) ∧ w'.cell? ⟨n, 3, none⟩ = some (.int .i64 0) ∧ w'.cell? ⟨n, 4, none⟩ = some (.int .i64 0) ∧ w'.cell? ⟨n, 5, none⟩ = some (.bool false) ∧ w'.cell? ⟨n, 6, none⟩ = some (.slice A l.length c)) := ⟨box7 (blk_below hd hb), box7 (blk_below he hb), box7 (blk_below hq hb)⟩
theorem wraps_num (l : List S24) : depT ⟨1, ⟨#[]⟩, ⟨#[]⟩, 0, 0, false, [⟨2, ⟨#[]⟩, ⟨#[]⟩, 0, 0, false, l⟩]⟩ = depT ⟨1, ⟨#[]⟩, ⟨#[]⟩, 0, 0, false, l⟩ + 1 ∧ cntT ⟨1, ⟨#[]⟩, ⟨#[]⟩, 0, 0, false, [⟨2, ⟨#[]⟩, ⟨#[]⟩, 0, 0, false, l⟩]⟩ = cntT ⟨1, ⟨#[]⟩, ⟨#[]⟩, 0, 0, false, l⟩ + 1 := by
  constructor
  · simp [depT, depL]
  · simp [cntT, cntL]; omega
theorem wraps_well (l : List S24) : wellT false ⟨1, ⟨#[]⟩, ⟨#[]⟩, 0, 0, false, [⟨2, ⟨#[]⟩, ⟨#[]⟩, 0, 0, false, l⟩]⟩ = wellT false ⟨1, ⟨#[]⟩, ⟨#[]⟩, 0, 0, false, l⟩ := by
  simp [wellT, badL, bad_12, mayB, blockB]
section
attribute [local go_sem] World.cell?_alloc_some
set_option maxRecDepth 100000 in
set_option maxHeartbeats 8000000 in
theorem TreeWraps_calls (x0 : Int) (x1 x2 : ByteArray) (x3 x4 : Int) (x5 : Bool) (A : Option Addr) (c : Nat) (l : List S24) (w : World) (hr : Kd.C k24 w A l.length l) (hc : l.length ≤ c) (hok : okT ⟨x0, x1, x2, x3, x4, x5, l⟩) :
    Calls Try.prog 5 #[.agg #[.int .i64 x0, .string x1, .string x2, .int .i64 x3, .int .i64 x4, .bool x5, .slice A l.length c]] w fun e w' => e = .returned (.bool true) ∧ Below w.heap.size w w' := by
  have hu24 := Try.underlying24
  obtain ⟨b, hb, hcnt⟩ := Few_ev ⟨x0, x1, x2, x3, x4, x5, l⟩ hok 2000 (by omega) (by omega)
  obtain ⟨kf, hkf⟩ := hb.rounds
  have HB := Aside0.mk (below_alloc (Below.refl w.heap.size w) (.cells #[.int .i64 x0, .string x1, .string x2, .int .i64 x3, .int .i64 x4, .bool x5, .slice A l.length c] 24))
  have HX := Aside0.mk (blk_new w (.cells #[.int .i64 x0, .string x1, .string x2, .int .i64 x3, .int .i64 x4, .bool x5, .slice A l.length c] 24))
  have HR := Aside0.mk (Kd.C_below hr HB.out)
  have HC := Aside0.mk hc
  have HCNT := Aside0.mk hcnt
  have CF := Aside0.mk (fun w1 (h1 : Kd.C k24 w1 A l.length l) => incipitref06_Few.calls kf x0 x1 x2 x3 x4 x5 A c l 2000 b w1 h1 hc hkf)
  clear hr hc hcnt hb hkf hok
  go_enter Try.func5, Try.ntmps5
  go_wp2_with fail
  refine (incipitlaw06_awake.calls true _ rfl).mono ?_
  rintro e w1 ⟨rfl, hb⟩
  have B1 := Aside0.mk (below_step HB.out hb)
  have HX1 := Aside0.mk (blk_below HX.out hb)
  have HR1 := Aside0.mk (Kd.C_below HR.out hb)
  clear hb HB HX HR
  generalize w.heap.size = gb at HX1 ⊢
  obtain ⟨k0, k1, k2, k3, k4, k5, k6⟩ := box7 HX1.out
  go_wp2_with fail
  refine (CF.out _ HR1.out).mono ?_
  rintro e w2 ⟨rfl, hb⟩
  have B2 := Aside0.mk (below_step B1.out hb)
  have HX2 := Aside0.mk (blk_below HX1.out hb)
  have HR2 := Aside0.mk (Kd.C_below HR1.out hb)
  clear hb HX1 HR1 B1 k0 k1 k2 k3 k4 k5 k6
  cases b with
  | false =>
    go_wp2_with fail
    go_ret
    exact ⟨rfl, B2.out⟩
  | true =>
    obtain ⟨k0, k1, k2, k3, k4, k5, k6⟩ := box7 HX2.out
    have k6a := cell_alloc k6 (.cells #[.int .i64 2, .string ⟨#[]⟩, .string ⟨#[]⟩, .int .i64 0, .int .i64 0, .bool false, .slice A l.length c] 24)
    have k6b := cell_alloc k6a (.cells #[.int .i64 2, .string ⟨#[]⟩, .string ⟨#[]⟩, .int .i64 0, .int .i64 0, .bool false, .slice A l.length c] 24)
    have k6c := cell_alloc k6b (.cells #[.int .i64 1, .string ⟨#[]⟩, .string ⟨#[]⟩, .int .i64 0, .int .i64 0, .bool false, .slice (some ⟨w2.heap.size + 1, 0, none⟩) 1 1] 24)
    go_wp2_with fail
    clear k0 k1 k2 k3 k4 k5 k6 k6a k6b k6c
    have HW := Aside0.mk (wraps_world B2.out HR2.out HC.out _ rfl)
    generalize (((w2.alloc (.cells #[.int .i64 2, .string ⟨#[]⟩, .string ⟨#[]⟩, .int .i64 0, .int .i64 0, .bool false, .slice A l.length c] 24)).alloc (.cells #[.int .i64 2, .string ⟨#[]⟩, .string ⟨#[]⟩, .int .i64 0, .int .i64 0, .bool false, .slice A l.length c] 24)).alloc (.cells #[.int .i64 1, .string ⟨#[]⟩, .string ⟨#[]⟩, .int .i64 0, .int .i64 0, .bool false, .slice (some ⟨w2.heap.size + 1, 0, none⟩) 1 1] 24)).alloc (.cells #[.int .i64 1, .string ⟨#[]⟩, .string ⟨#[]⟩, .int .i64 0, .int .i64 0, .bool false, .slice A l.length c] 24) = W at HW ⊢
    generalize w2.heap.size = n at HW ⊢
    obtain ⟨hq, hd, he, hR, hR1, hB⟩ := HW.out
    have hcl : cntT ⟨x0, x1, x2, x3, x4, x5, l⟩ ≤ 2000 := by have := HCNT.out (by first | rfl | trivial); omega
    have hce : cntT ⟨1, ⟨#[]⟩, ⟨#[]⟩, 0, 0, false, l⟩ ≤ 2000 := by unfold cntT at hcl ⊢; exact hcl
    obtain ⟨en, ec⟩ := wraps_num l
    have ew := wraps_well l
    have hdc := dep_cnt ⟨1, ⟨#[]⟩, ⟨#[]⟩, 0, 0, false, l⟩
    obtain ⟨K1, d1⟩ := (depth_ev ⟨1, ⟨#[]⟩, ⟨#[]⟩, 0, 0, false, [⟨2, ⟨#[]⟩, ⟨#[]⟩, 0, 0, false, l⟩]⟩ (by omega)).rounds
    obtain ⟨K2, d2⟩ := (depth_ev ⟨1, ⟨#[]⟩, ⟨#[]⟩, 0, 0, false, l⟩ (by omega)).rounds
    obtain ⟨K3, c1⟩ := (count_ev ⟨1, ⟨#[]⟩, ⟨#[]⟩, 0, 0, false, [⟨2, ⟨#[]⟩, ⟨#[]⟩, 0, 0, false, l⟩]⟩ (by omega)).rounds
    obtain ⟨K4, c2⟩ := (count_ev ⟨1, ⟨#[]⟩, ⟨#[]⟩, 0, 0, false, l⟩ (by omega)).rounds
    rw [en] at d1
    rw [ec] at c1
    have hcz : 0 ≤ ((cntT ⟨1, ⟨#[]⟩, ⟨#[]⟩, 0, 0, false, l⟩ : Nat) : Int) ∧ ((cntT ⟨1, ⟨#[]⟩, ⟨#[]⟩, 0, 0, false, l⟩ : Nat) : Int) ≤ 2000 := by omega
    have hdz : 0 ≤ ((depT ⟨1, ⟨#[]⟩, ⟨#[]⟩, 0, 0, false, l⟩ : Nat) : Int) ∧ ((depT ⟨1, ⟨#[]⟩, ⟨#[]⟩, 0, 0, false, l⟩ : Nat) : Int) ≤ 2000 := by omega
    rw [show ((depT ⟨1, ⟨#[]⟩, ⟨#[]⟩, 0, 0, false, l⟩ + 1 : Nat) : Int) = (depT ⟨1, ⟨#[]⟩, ⟨#[]⟩, 0, 0, false, l⟩ : Int) + 1 by omega] at d1
    rw [show ((cntT ⟨1, ⟨#[]⟩, ⟨#[]⟩, 0, 0, false, l⟩ + 1 : Nat) : Int) = (cntT ⟨1, ⟨#[]⟩, ⟨#[]⟩, 0, 0, false, l⟩ : Int) + 1 by omega] at c1
    have g1 : tree_Well.f 1 ⟨#[]⟩ ⟨#[]⟩ 0 0 false [⟨2, ⟨#[]⟩, ⟨#[]⟩, 0, 0, false, l⟩] = some (wellT false ⟨1, ⟨#[]⟩, ⟨#[]⟩, 0, 0, false, l⟩) := by rw [← ew]; rfl
    have g2 : tree_Well.f 1 ⟨#[]⟩ ⟨#[]⟩ 0 0 false l = some (wellT false ⟨1, ⟨#[]⟩, ⟨#[]⟩, 0, 0, false, l⟩) := rfl
    have g3 : tree_Well.f 2 ⟨#[]⟩ ⟨#[]⟩ 0 0 false l = some false := rfl
    have HK := Aside0.mk (fun w' (hb : Below W.heap.size W w') => wraps_keep hd he hq hb)
    generalize ((cntT ⟨1, ⟨#[]⟩, ⟨#[]⟩, 0, 0, false, l⟩ : Nat) : Int) = Cn at c1 c2 hcz
    generalize ((depT ⟨1, ⟨#[]⟩, ⟨#[]⟩, 0, 0, false, l⟩ : Nat) : Int) = Dn at d1 d2 hdz
    generalize wellT false ⟨1, ⟨#[]⟩, ⟨#[]⟩, 0, 0, false, l⟩ = wb at g1 g2
    have HQ := HC.out
    have CDd := Aside0.mk (show ∀ w', Below W.heap.size W w' → Calls Try.prog 19 #[.agg #[.int .i64 1, .string ⟨#[]⟩, .string ⟨#[]⟩, .int .i64 0, .int .i64 0, .bool false, .slice (some ⟨n + 1, 0, none⟩) 1 1]] w' fun e w'' => e = .returned (.int .i64 (Dn + 1)) ∧ Below W.heap.size W w'' from fun w' hb => (tree_Depth.calls K1 _ _ _ _ _ _ (some ⟨n + 1, 0, none⟩) 1 [⟨2, ⟨#[]⟩, ⟨#[]⟩, 0, 0, false, l⟩] _ w' (Kd.C_below hR1 hb) (Nat.le_refl _) d1).mono fun e w'' h => ⟨h.1, below_step hb h.2⟩)
    have CDe := Aside0.mk (show ∀ w', Below W.heap.size W w' → Calls Try.prog 19 #[.agg #[.int .i64 1, .string ⟨#[]⟩, .string ⟨#[]⟩, .int .i64 0, .int .i64 0, .bool false, .slice A l.length c]] w' fun e w'' => e = .returned (.int .i64 Dn) ∧ Below W.heap.size W w'' from fun w' hb => (tree_Depth.calls K2 _ _ _ _ _ _ A c l _ w' (Kd.C_below hR hb) HQ d2).mono fun e w'' h => ⟨h.1, below_step hb h.2⟩)
    have CCd := Aside0.mk (show ∀ w', Below W.heap.size W w' → Calls Try.prog 17 #[.agg #[.int .i64 1, .string ⟨#[]⟩, .string ⟨#[]⟩, .int .i64 0, .int .i64 0, .bool false, .slice (some ⟨n + 1, 0, none⟩) 1 1]] w' fun e w'' => e = .returned (.int .i64 (Cn + 1)) ∧ Below W.heap.size W w'' from fun w' hb => (tree_Count.calls K3 _ _ _ _ _ _ (some ⟨n + 1, 0, none⟩) 1 [⟨2, ⟨#[]⟩, ⟨#[]⟩, 0, 0, false, l⟩] _ w' (Kd.C_below hR1 hb) (Nat.le_refl _) c1).mono fun e w'' h => ⟨h.1, below_step hb h.2⟩)
    have CCe := Aside0.mk (show ∀ w', Below W.heap.size W w' → Calls Try.prog 17 #[.agg #[.int .i64 1, .string ⟨#[]⟩, .string ⟨#[]⟩, .int .i64 0, .int .i64 0, .bool false, .slice A l.length c]] w' fun e w'' => e = .returned (.int .i64 Cn) ∧ Below W.heap.size W w'' from fun w' hb => (tree_Count.calls K4 _ _ _ _ _ _ A c l _ w' (Kd.C_below hR hb) HQ c2).mono fun e w'' h => ⟨h.1, below_step hb h.2⟩)
    have CWd := Aside0.mk (show ∀ w', Below W.heap.size W w' → Calls Try.prog 21 #[.agg #[.int .i64 1, .string ⟨#[]⟩, .string ⟨#[]⟩, .int .i64 0, .int .i64 0, .bool false, .slice (some ⟨n + 1, 0, none⟩) 1 1]] w' fun e w'' => e = .returned (.bool wb) ∧ Below W.heap.size W w'' from fun w' hb => (tree_Well.calls _ _ _ _ _ _ (some ⟨n + 1, 0, none⟩) 1 [⟨2, ⟨#[]⟩, ⟨#[]⟩, 0, 0, false, l⟩] _ w' (Kd.C_below hR1 hb) (Nat.le_refl _) g1).mono fun e w'' h => ⟨h.1, below_step hb h.2⟩)
    have CWe := Aside0.mk (show ∀ w', Below W.heap.size W w' → Calls Try.prog 21 #[.agg #[.int .i64 1, .string ⟨#[]⟩, .string ⟨#[]⟩, .int .i64 0, .int .i64 0, .bool false, .slice A l.length c]] w' fun e w'' => e = .returned (.bool wb) ∧ Below W.heap.size W w'' from fun w' hb => (tree_Well.calls _ _ _ _ _ _ A c l _ w' (Kd.C_below hR hb) HQ g2).mono fun e w'' h => ⟨h.1, below_step hb h.2⟩)
    have CWq := Aside0.mk (show ∀ w', Below W.heap.size W w' → Calls Try.prog 21 #[.agg #[.int .i64 2, .string ⟨#[]⟩, .string ⟨#[]⟩, .int .i64 0, .int .i64 0, .bool false, .slice A l.length c]] w' fun e w'' => e = .returned (.bool false) ∧ Below W.heap.size W w'' from fun w' hb => (tree_Well.calls _ _ _ _ _ _ A c l _ w' (Kd.C_below hR hb) HQ g3).mono fun e w'' h => ⟨h.1, below_step hb h.2⟩)
    have HBW := Aside0.mk hB
    obtain ⟨hC0, hC1⟩ := hcz
    obtain ⟨hD0, hD1⟩ := hdz
    have hw1 : IntKind.i64.wrap (Dn + 1) = Dn + 1 := IntWalk.i64_in _ (by omega)
    have hw2 : IntKind.i64.wrap (Cn + 1) = Cn + 1 := IntWalk.i64_in _ (by omega)
    clear hB hq hd he hR hR1 HW hcl hce en ec ew hdc d1 d2 c1 c2 g1 g2 g3 HQ HCNT CF HR2 HX2 B2
    go_region_held3 (fun w' => (w'.cell? ⟨n + 1 + 1, 0, none⟩ = some (.int .i64 1) ∧ w'.cell? ⟨n + 1 + 1, 1, none⟩ = some (.string ⟨#[]⟩) ∧ w'.cell? ⟨n + 1 + 1, 2, none⟩ = some (.string ⟨#[]⟩) ∧ w'.cell? ⟨n + 1 + 1, 3, none⟩ = some (.int .i64 0) ∧ w'.cell? ⟨n + 1 + 1, 4, none⟩ = some (.int .i64 0) ∧ w'.cell? ⟨n + 1 + 1, 5, none⟩ = some (.bool false) ∧ w'.cell? ⟨n + 1 + 1, 6, none⟩ = some (.slice (some ⟨n + 1, 0, none⟩) 1 1)) ∧ (w'.cell? ⟨n + 1 + 1 + 1, 0, none⟩ = some (.int .i64 1) ∧ w'.cell? ⟨n + 1 + 1 + 1, 1, none⟩ = some (.string ⟨#[]⟩) ∧ w'.cell? ⟨n + 1 + 1 + 1, 2, none⟩ = some (.string ⟨#[]⟩) ∧ w'.cell? ⟨n + 1 + 1 + 1, 3, none⟩ = some (.int .i64 0) ∧ w'.cell? ⟨n + 1 + 1 + 1, 4, none⟩ = some (.int .i64 0) ∧ w'.cell? ⟨n + 1 + 1 + 1, 5, none⟩ = some (.bool false) ∧ w'.cell? ⟨n + 1 + 1 + 1, 6, none⟩ = some (.slice A l.length c)) ∧ (w'.cell? ⟨n, 0, none⟩ = some (.int .i64 2) ∧ w'.cell? ⟨n, 1, none⟩ = some (.string ⟨#[]⟩) ∧ w'.cell? ⟨n, 2, none⟩ = some (.string ⟨#[]⟩) ∧ w'.cell? ⟨n, 3, none⟩ = some (.int .i64 0) ∧ w'.cell? ⟨n, 4, none⟩ = some (.int .i64 0) ∧ w'.cell? ⟨n, 5, none⟩ = some (.bool false) ∧ w'.cell? ⟨n, 6, none⟩ = some (.slice A l.length c)))
      (first | exact HK.out _ (by first | assumption | exact below_drew (Below.refl _ _)))
      (first | (go_at_call 19; (with_reducible refine (CDd.out _ (by first | assumption | exact below_drew (Below.refl _ _))).mono ?_); rintro e wn ⟨rfl, hbn⟩) | (go_at_call 19; (with_reducible refine (CDe.out _ (by first | assumption | exact below_drew (Below.refl _ _))).mono ?_); rintro e wn ⟨rfl, hbn⟩) | (go_at_call 17; (with_reducible refine (CCd.out _ (by first | assumption | exact below_drew (Below.refl _ _))).mono ?_); rintro e wn ⟨rfl, hbn⟩) | (go_at_call 17; (with_reducible refine (CCe.out _ (by first | assumption | exact below_drew (Below.refl _ _))).mono ?_); rintro e wn ⟨rfl, hbn⟩) | (go_at_call 21; (with_reducible refine (CWd.out _ (by first | assumption | exact below_drew (Below.refl _ _))).mono ?_); rintro e wn ⟨rfl, hbn⟩) | (go_at_call 21; (with_reducible refine (CWe.out _ (by first | assumption | exact below_drew (Below.refl _ _))).mono ?_); rintro e wn ⟨rfl, hbn⟩) | (go_at_call 21; (with_reducible refine (CWq.out _ (by first | assumption | exact below_drew (Below.refl _ _))).mono ?_); rintro e wn ⟨rfl, hbn⟩))
    all_goals
      go_wp2_with fail
      go_ret
      exact ⟨rfl, below_step HBW.out (by assumption)⟩
end
theorem incipitlaw06_TreeWraps.calls (t0 : Int) (t1 t2 : ByteArray) (t3 t4 : Int) (t5 : Bool) (A : Option Addr) (c : Nat) (l : List S24) (w : World) (hr : Kd.C k24 w A l.length l) (hc : l.length ≤ c) (hok : okT ⟨t0, t1, t2, t3, t4, t5, l⟩) :
    Calls Try.prog 5 #[.agg #[.int .i64 t0, .string t1, .string t2, .int .i64 t3, .int .i64 t4, .bool t5, .slice A l.length c]] w fun e w' => e = .returned (.bool true) ∧ Below w.heap.size w w' := TreeWraps_calls t0 t1 t2 t3 t4 t5 A c l w hr hc hok
end Go.Proofs.Ytikfbipjlkhgeaa.P
