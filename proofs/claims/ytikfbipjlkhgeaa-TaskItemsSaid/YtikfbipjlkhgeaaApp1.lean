/- task.Apply. -/
import Derived.Test.YtikfbipjlkhgeaaApp0
import Derived.Deep.RegionLaw
import Derived.Deep.RegionHeld3
import Derived.Deep.DeepCutAuto
import Derived.Deep.LoopGhost
namespace Go.Proofs.Ytikfbipjlkhgeaa.P
open Go.RowKit Go.Proofs.YtikfbipjlkhgeaaW.PrintWords Go.Proofs.YtikfbipjlkhgeaaW.PrintLast Go.Proofs.YtikfbipjlkhgeaaW.PrintMore
set_option linter.unusedVariables false
set_option linter.unusedSimpArgs false
def rowN (x : S24) (v : Value) : List Value := [.int .i64 x.f0, .string x.f1, .string x.f2, .int .i64 x.f3, .int .i64 x.f4, .bool x.f5, v]
/-- The row of results: done ahead of k, as it came in behind it. -/
structure Mid (w wr : World) (b c : Nat) (l : List S24) (it : Bool) (k : Nat) (rows : List (List Value)) : Prop where
  row : (Kd.raw 7).R 24 wr w.heap.size (fun _ => True) (.slice (some ⟨b, 0, none⟩) l.length c) rows
  len : rows.length = l.length
  lo : w.heap.size ≤ b
  below : Below w.heap.size w wr
  done : ∀ i : Nat, i < k → i < l.length → ∃ v6, rows.getD i [] = rowN (rd_T24 l (i : Int)) v6 ∧ k24.R 24 wr w.heap.size (fun q => q ≠ b) v6 (appT (it && i == 0) (rd_T24 l (i : Int))).f6
  todo : ∀ i : Nat, k < i → i < l.length → ∃ A6 c6, rows.getD i [] = rowN (rd_T24 l (i : Int)) (.slice A6 (rd_T24 l (i : Int)).f6.length c6) ∧ (rd_T24 l (i : Int)).f6.length ≤ c6 ∧ k24.C w A6 (rd_T24 l (i : Int)).f6.length (rd_T24 l (i : Int)).f6
theorem getD_setV (l : List (List Value)) (i j : Nat) (x : List Value) (hi : i < l.length) : (l.set i x).getD j [] = if i = j then x else l.getD j [] := by
  rw [List.getD_eq_getElem?_getD, List.getElem?_set]
  by_cases h : i = j
  · rw [if_pos h, if_pos h, if_pos (by omega)]; rfl
  · rw [if_neg h, if_neg h, List.getD_eq_getElem?_getD]
theorem Mid.blk {w wr : World} {b c : Nat} {l : List S24} {it : Bool} {k : Nat} {rows : List (List Value)} (h : Mid w wr b c l it k rows) (hk : k < l.length) : ∃ cells, wr.heap[b]? = some (.cells cells 24 (0, 0)) := by
  obtain ⟨b', c', cells, he, _, _, hb⟩ := raw_head h.row (by rw [h.len]; omega)
  injection he with he
  injection he with he
  injection he with he
  subst he
  exact ⟨cells, hb⟩
theorem Mid.put {w wr w1 : World} {b c : Nat} {l : List S24} {it : Bool} {k : Nat} {rows : List (List Value)} (h : Mid w wr b c l it k rows) (hk : k < l.length) (hb : Below wr.heap.size wr w1) (v : Value) (hr : rows.getD k [] = rowN (rd_T24 l (k : Int)) v) (u : Value) (hu : u.oneCell' = true) :
    Mid w (w1.setCell ⟨b, k * 7 + 6, none⟩ u) b c l it k (rows.set k (rowN (rd_T24 l (k : Int)) u)) := by
  have hp := raw_put (Kd.R_below h.row hb) k (by rw [h.len]; exact hk) 6 (by omega) u hu
  rw [hr] at hp
  have hlr : k < rows.length := by rw [h.len]; exact hk
  refine ⟨hp, by rw [List.length_set]; exact h.len, h.lo, below_set (below_then h.below h.below.size hb) h.lo, fun i hi hil => ?_, fun i hi hil => ?_⟩
  · obtain ⟨v6, h1, h2⟩ := h.done i hi hil
    exact ⟨v6, by rw [getD_setV _ _ _ _ hlr, if_neg (by omega)]; exact h1, Kd.R_far (p := ⟨b, k * 7 + 6, none⟩) (Kd.R_below h2 hb) (fun q hq => hq) u⟩
  · obtain ⟨A6, c6, h1, h2, h3⟩ := h.todo i hi hil
    exact ⟨A6, c6, by rw [getD_setV _ _ _ _ hlr, if_neg (by omega)]; exact h1, h2, h3⟩
theorem Mid.next {w wr : World} {b c : Nat} {l : List S24} {it : Bool} {k : Nat} {rows : List (List Value)} (h : Mid w wr b c l it k rows) (hk : k < l.length) (v : Value) (hr : rows.getD k [] = rowN (rd_T24 l (k : Int)) v)
    (hR : k24.R 24 wr w.heap.size (fun q => q ≠ b) v (appT (it && k == 0) (rd_T24 l (k : Int))).f6) : Mid w wr b c l it (k + 1) rows :=
  ⟨h.row, h.len, h.lo, h.below, fun i hi hil => by
    by_cases e : i = k
    · subst e; exact ⟨v, hr, hR⟩
    · exact h.done i (by omega) hil, fun i hi hil => h.todo i (by omega) hil⟩
theorem Mid.cells {w wr : World} {b c : Nat} {l : List S24} {it : Bool} {k : Nat} {rows : List (List Value)} (h : Mid w wr b c l it k rows) (hk : k < l.length) (v : Value) (hr : rows.getD k [] = rowN (rd_T24 l (k : Int)) v) :
    wr.cell? ⟨b, k * 7, none⟩ = some (.int .i64 (rd_T24 l (k : Int)).f0) ∧ wr.cell? ⟨b, k * 7 + 6, none⟩ = some v ∧ wr.frozen? ⟨b, k * 7 + 6, none⟩ = false := by
  have hlr : k < rows.length := by rw [h.len]; exact hk
  obtain ⟨cells, hb⟩ := h.blk hk
  exact ⟨raw_cell h.row k hlr 0 _ (by rw [hr]; rfl), raw_cell h.row k hlr 6 _ (by rw [hr]; rfl), blk_frozen hb _⟩
theorem Mid.full {w wr : World} {b c : Nat} {l : List S24} {it : Bool} {rows : List (List Value)} (h : Mid w wr b c l it l.length rows) : k24.R 24 wr w.heap.size (fun _ => True) (.slice (some ⟨b, 0, none⟩) l.length c) (appL it l) := by
  obtain ⟨_, inner, ho, hr⟩ := h.row
  have ho : wr.ownsRow w.heap.size 24 7 (.slice (some ⟨b, 0, none⟩) l.length c) rows.length inner := ho
  rw [h.len] at ho
  refine ⟨fun _ _ => trivial, inner, by rw [appL_length]; exact ho, ?_⟩
  refine ⟨by rw [appL_length, ← h.len]; exact hr.1, fun j p hj => ?_⟩
  have hjl : j < l.length := by have := (List.getElem?_eq_some_iff.1 hj).1; rwa [appL_length] at this
  have hjr : j < rows.length := by rw [h.len]; exact hjl
  obtain ⟨v6, h1, h2⟩ := h.done j hjl hjl
  have hm := hr.2 j _ (List.getElem?_eq_getElem hjr)
  have e1 : rows.getD j [] = rows[j] := by rw [List.getD_eq_getElem?_getD, List.getElem?_eq_getElem hjr]; rfl
  have e2 : p = appT (it && j == 0) (rd_T24 l (j : Int)) := by
    rw [← appL_at it l j hjl]
    show p = (appL it l).getD j z24
    rw [List.getD_eq_getElem?_getD, hj]; rfl
  have e3 : (inner.drop (j * 7)).take 7 = rowN (rd_T24 l (j : Int)) v6 := by
    rw [← h1, e1]
    exact hm.1
  show k24.M wr w.heap.size _ p ((inner.drop (j * 7)).take 7)
  rw [e3, e2]
  have h3 := Kd.R_mono (ok' := fun q => True ∧ some q ≠ (Value.slice (some ⟨b, 0, none⟩) l.length c).ownBlock) h2 (fun q hq => ⟨trivial, fun e => hq (Option.some.inj e)⟩)
  have := k24_mkM wr w.heap.size (fun q => True ∧ some q ≠ (Value.slice (some ⟨b, 0, none⟩) l.length c).ownBlock) (appT (it && j == 0) (rd_T24 l (j : Int))) h3
  rw [appT_eq] at this ⊢
  exact this
theorem rep_at {w wr w3 : World} {b c : Nat} {l : List S24} {it : Bool} {k : Nat} {rows : List (List Value)} {v : Value} (h : Mid w wr b c l it k rows) (hk : k < l.length) (hr : rows.getD k [] = rowN (rd_T24 l (k : Int)) v) (hb : Below wr.drew.heap.size wr.drew w3) :
    w3.cell? ⟨b, k * 7 + 6, none⟩ = some v ∧ w3.frozen? ⟨b, k * 7 + 6, none⟩ = false := by
  obtain ⟨_, h6, _⟩ := h.cells hk v hr
  obtain ⟨cells, hbk⟩ := h.blk hk
  have h3 : w3.heap[b]? = some (.cells cells 24 (0, 0)) := blk_below (w := wr.drew) hbk hb
  rw [blk_cell hbk] at h6
  exact ⟨by rw [blk_cell h3]; exact h6, blk_frozen h3 _⟩
theorem Mid.drew {w wr : World} {b c : Nat} {l : List S24} {it : Bool} {k : Nat} {rows : List (List Value)} (h : Mid w wr b c l it k rows) : Mid w wr.drew b c l it k rows :=
  ⟨Kd.R_drew h.row, h.len, h.lo, below_drew h.below, fun i hi hil => by
    obtain ⟨v6, h1, h2⟩ := h.done i hi hil
    exact ⟨v6, h1, Kd.R_drew h2⟩, h.todo⟩
theorem Mid.step {w wr w3 : World} {b c : Nat} {l : List S24} {it : Bool} {k : Nat} {rows : List (List Value)} {v v6 : Value} (h : Mid w wr b c l it k rows) (hk : k < l.length) (hr : rows.getD k [] = rowN (rd_T24 l (k : Int)) v) (hb : Below wr.drew.heap.size wr.drew w3)
    (hR : k24.R 24 w3 wr.drew.heap.size (fun _ => True) v6 (appT (it && k == 0) (rd_T24 l (k : Int))).f6) :
    ∃ rows', Mid w (w3.setCell ⟨b, k * 7 + 6, none⟩ v6) b c l it (k + 1) rows' ∧ (k + 1 < l.length → ∃ A6 c6, rows'.getD (k + 1) [] = rowN (rd_T24 l ((k + 1 : Nat) : Int)) (.slice A6 (rd_T24 l ((k + 1 : Nat) : Int)).f6.length c6) ∧ (rd_T24 l ((k + 1 : Nat) : Int)).f6.length ≤ c6 ∧ k24.C w A6 (rd_T24 l ((k + 1 : Nat) : Int)).f6.length (rd_T24 l ((k + 1 : Nat) : Int)).f6) := by
  have hlr : k < rows.length := by rw [h.len]; exact hk
  obtain ⟨cells, hbk⟩ := h.blk hk
  have hbl := blk_lt hbk
  have hv1 : v6.oneCell' = true := by
    obtain ⟨A, c, rfl⟩ := Kd.R_slice hR
    rfl
  have hput := h.drew.put hk hb v hr v6 hv1
  refine ⟨rows.set k (rowN (rd_T24 l (k : Int)) v6), hput.next hk v6 (by rw [getD_setV _ _ _ _ hlr, if_pos rfl]) (Kd.R_far (p := ⟨b, k * 7 + 6, none⟩) (Kd.R_mono (Kd.R_lower (Kd.R_bound hR) h.below.size) (fun q hq => ?_)) (fun q hq => hq) v6), fun hk1 => ?_⟩
  · have : wr.heap.size ≤ q := hq.2.1
    show q ≠ b
    omega
  · obtain ⟨A6, c6, h1, h2, h3⟩ := h.todo (k + 1) (by omega) hk1
    exact ⟨A6, c6, by rw [getD_setV _ _ _ _ hlr, if_neg (by omega)]; exact h1, h2, h3⟩
theorem rep_b {w wr w3 : World} {b c : Nat} {l : List S24} {it : Bool} {k : Nat} {rows : List (List Value)} {v : Value} (h : Mid w wr b c l it k rows) (hk : k < l.length) (hr : rows.getD k [] = rowN (rd_T24 l (k : Int)) v) (hb : Below wr.heap.size wr w3) :
    w3.cell? ⟨b, k * 7 + 6, none⟩ = some v ∧ w3.frozen? ⟨b, k * 7 + 6, none⟩ = false := by
  obtain ⟨_, h6, _⟩ := h.cells hk v hr
  obtain ⟨cells, hbk⟩ := h.blk hk
  have h3 : w3.heap[b]? = some (.cells cells 24 (0, 0)) := blk_below hbk hb
  rw [blk_cell hbk] at h6
  exact ⟨by rw [blk_cell h3]; exact h6, blk_frozen h3 _⟩
theorem gate50 {P : Program} {ops : Array Oper} {o : Oper} {a : Act} {w : World} {K : Act → World → Prop} {Q : Exit → Act → World → Prop} {E : Prop} (h : o.dst = some 50) (hp : if Region.wanted o (yielded ops a.tmps) = true then Oper.wp P o a w K Q else E) : if Region.wanted o (yielded ops a.tmps) = true then Oper.wp P o a w K Q else E := hp
section
attribute [local go_sem] World.cell?_alloc_some World.cell?_setCell_far
set_option maxRecDepth 100000 in
set_option maxHeartbeats 8000000 in
theorem apply60 : ∀ (s : Nat) (l : List S24) (it : Bool) (w : World) (A : Option Addr) (c g : Nat), dpL l < s → cnL l < 100000000 → Kd.C k24 w A l.length l → l.length ≤ c → w.heap[g]? = some (.cells #[.func (.func 60) #[] #[.pointer (some ⟨g, 0, none⟩)]] 75 (0, 0)) →
    Calls Try.prog 60 #[.slice A l.length c, .bool it, .pointer (some ⟨g, 0, none⟩)] w fun e w' => ∃ v, e = .returned v ∧ k24.R 24 w' w.heap.size (fun _ => True) v (appL it l) ∧ Below w.heap.size w w'
  | 0, _, _, _, _, _, _, h, _, _, _, _ => absurd h (by omega)
  | s + 1, l, it, w, A, c, g, hd, hcn, hC, hc, hg => by
    have hlen := len_cnL l
    obtain ⟨n, en⟩ : ∃ n, n = l.length := ⟨_, rfl⟩
    have CC0 := clone61 hC (Below.refl _ _) hc (by omega)
    have HG := Aside0.mk hg
    have HEN := Aside0.mk en
    have hn9 : n < 100000000 := by omega
    have HD := Aside0.mk hd
    have HCN := Aside0.mk hcn
    rw [← en] at hc ⊢
    have CC : Aside0 (Calls Try.prog 61 #[.slice A n c] w fun e w' => ∃ v rows, e = .returned v ∧ (Kd.raw 7).R 24 w' w.heap.size (fun _ => True) v rows ∧ rows.length = l.length ∧ (∀ i : Nat, i < l.length → k24.K w (rd_T24 l (i : Int)) (rows.getD i [])) ∧ Below w.heap.size w w') := ⟨by rw [en]; exact CC0⟩
    clear CC0 hg hlen en hd hcn hC
    go_enter Try.func60, Try.ntmps60
    go_wp2_with (go_at_call 61; refine CC.out.mono ?_; rintro e w1 ⟨v, rows, rfl, hR, hrl, hrk, hb1⟩; have HR := Aside0.mk hR; have HRL := Aside0.mk hrl; have HRK := Aside0.mk hrk; have HB1 := Aside0.mk hb1; have hv := Kd.R_slice hR; rw [hrl, ← HEN.out] at hv; obtain ⟨Av, cv, rfl⟩ := hv; clear hR hrl hrk hb1)
    rcases Nat.eq_zero_or_pos n with h0 | h0
    · have hl0 : l = [] := List.eq_nil_of_length_eq_zero (by rw [← HEN.out]; exact h0)
      have hr0 : rows = [] := List.eq_nil_of_length_eq_zero (by rw [HRL.out, hl0]; rfl)
      have HRN : Aside0 (k24.R 24 w1 w.heap.size (fun _ => True) (.slice Av n cv) (appL it l)) := ⟨by
        have h_ := HR.out
        rw [hr0] at h_
        rw [hl0]
        obtain ⟨_, inner, ho, hr⟩ := h_
        exact ⟨fun _ _ => trivial, inner, ho, ⟨hr.1, fun j p hj => by simp [appL] at hj⟩⟩⟩
      subst h0
      clear HR
      go_loopw [13] (fun v wr => v = .int .i64 0 ∧ wr = w1) (fun v _ => 0)
      case atStart => exact ⟨rfl, rfl⟩
      case round =>
        obtain ⟨rfl, rfl⟩ := hrel
        go_wp2_with fail
        go_ret
        exact ⟨_, rfl, HRN.out, HB1.out⟩
    · obtain ⟨b, cb, cells, hv, hcb, hBb, hblk⟩ := raw_head HR.out (by rw [HRL.out, ← HEN.out]; exact h0)
      rw [HRL.out, ← HEN.out] at hv
      injection hv with hv1 hv2 hv3
      subst hv1
      subst hv3
      have HM : Aside0 (Mid w w1 b cv l it 0 rows) := ⟨⟨by rw [← HEN.out]; exact HR.out, HRL.out, hBb, HB1.out, fun i hi _ => absurd hi (by omega), fun i _ hil => by
        obtain ⟨A6, c6, h1, h2, h3⟩ := k24_open (HRK.out i hil)
        exact ⟨A6, c6, h1, h2, h3⟩⟩⟩
      have HT0 : Aside0 (0 < l.length → ∃ A6 c6, rows.getD 0 [] = rowN (rd_T24 l ((0 : Nat) : Int)) (.slice A6 (rd_T24 l ((0 : Nat) : Int)).f6.length c6) ∧ (rd_T24 l ((0 : Nat) : Int)).f6.length ≤ c6 ∧ k24.C w A6 (rd_T24 l ((0 : Nat) : Int)).f6.length (rd_T24 l ((0 : Nat) : Int)).f6) := ⟨fun h => by
        obtain ⟨A6, c6, h1, h2, h3⟩ := k24_open (HRK.out 0 h)
        exact ⟨A6, c6, h1, h2, h3⟩⟩
      have HBb := Aside0.mk hBb
      have HCB := Aside0.mk hcb
      clear HR HRL HRK HB1 hBb hblk hcb
      have hncv : n ≤ cv := by have := HCB.out; have := HM.out.len; have := HEN.out; omega
      go_loopw [13] (fun v wr => ∃ k : Nat, k ≤ n ∧ v = .int .i64 k ∧ Aside0 (∃ rows, Mid w wr b cv l it k rows ∧ (k < l.length → ∃ A6 c6, rows.getD k [] = rowN (rd_T24 l (k : Int)) (.slice A6 (rd_T24 l (k : Int)).f6.length c6) ∧ (rd_T24 l (k : Int)).f6.length ≤ c6 ∧ k24.C w A6 (rd_T24 l (k : Int)).f6.length (rd_T24 l (k : Int)).f6))) (fun v _ => n - (intOf v).toNat)
      case atStart => exact ⟨0, by omega, rfl, ⟨rows, HM.out, HT0.out⟩⟩
      case round =>
        clear HM HT0
        obtain ⟨k, hk, rfl, HM⟩ := hrel
        by_cases hlt : k < n
        · obtain ⟨rows', hM, hT⟩ := HM.out
          have hkl : k < l.length := by rw [← HEN.out]; exact hlt
          obtain ⟨A6, c6, hrow, hc6, hC6⟩ := hT hkl
          obtain ⟨n0, n6, hfz⟩ := hM.cells hkl _ hrow
          have hdx := dpL_in hkl
          have hcx := cnL_in hkl
          have hgw := blk_below HG.out hM.below
          have g0 : wr.cell? ⟨g, 0, none⟩ = some (.func (.func 60) #[] #[.pointer (some ⟨g, 0, none⟩)]) := blk_cell hgw 0
          have hres := appT_f6 (it && k == 0) (rd_T24 l (k : Int))
          obtain ⟨x0, ex0⟩ : ∃ x0, x0 = (rd_T24 l (k : Int)).f0 := ⟨_, rfl⟩
          obtain ⟨L6, eL⟩ : ∃ L6, L6 = (rd_T24 l (k : Int)).f6 := ⟨_, rfl⟩
          rw [← ex0] at n0
          rw [← eL] at hrow n6 hc6 hC6 hdx hcx
          rw [← ex0, ← eL] at hres
          have IH := Aside0.mk (fun (L : List S24) (W : World) (A : Option Addr) (c : Nat) (h1 : dpL L < s) (h2 : cnL L < 100000000) h3 h4 h5 => apply60 s L (x0 == 4) W A c g h1 h2 h3 h4 h5)
          have hdL : dpL L6 < s := by have := HD.out; omega
          have hcL : cnL L6 + 1 < 100000000 := by have := HCN.out; omega
          have HM := Aside0.mk hM
          have HKL := Aside0.mk hkl
          have hkI : (k : Int) < (n : Int) := by omega
          have hkN : IntKind.i64.wrap ((k : Int) + 1) = (k : Int) + 1 := by rw [IntKind.wrap_i64]; omega
          have hgb : g ≠ b := by have := blk_lt HG.out; have := hM.lo; omega
          by_cases hA : it = true ∧ k = 0 ∧ x0 = 7
          · obtain ⟨hi, hk0', hx7'⟩ := hA
            subst hi
            have hres2 : (appT (true && k == 0) (rd_T24 l (k : Int))).f6 = appL false (boxL L6) := by
              rw [hres, if_pos ⟨by rw [hk0']; rfl, hx7'⟩, hx7']; rfl
            rw [hx7'] at n0 ex0
            have IHA := Aside0.mk (fun (L : List S24) (W : World) (A : Option Addr) (c : Nat) (h1 : dpL L < s) (h2 : cnL L < 100000000) h3 h4 h5 => apply60 s L false W A c g h1 h2 h3 h4 h5)
            have HRES := Aside0.mk hres2
            have HRW0 := Aside0.mk hrow
            have HDC := Aside0.mk (show dpL (boxL L6) < s ∧ cnL (boxL L6) < 100000000 from ⟨Nat.lt_of_le_of_lt (dpL_box L6) hdL, by have := cnL_box L6; omega⟩)
            have hL9 : L6.length < 1000000000 := by have := len_cnL L6; omega
            have CB := Aside0.mk (boxed_calls hC6 hM.below hc6 hL9)
            have HG0 := Aside0.mk hgw
            have HEX := Aside0.mk (And.intro ex0 eL)
            have hk0 : ((k : Int) == 0) = true := by simpa using hk0'
            have HM0 := Aside0.mk hM
            have HBW : Aside0 (b < wr.heap.size) := ⟨by obtain ⟨_, hb_⟩ := hM.blk hkl; exact blk_lt hb_⟩
            clear hres hres2 hrow hdL hcL hC6 hc6 hgw hM HM hdx hcx ex0 eL hT hkl hk0' hx7' hL9 IH
            go_wp2_with (go_at_call 62; refine CB.out.mono ?_; rintro e w2 ⟨A', c', rfl, hc', hC', hb2⟩; obtain ⟨d1, d2⟩ := rep_b HM0.out HKL.out HRW0.out hb2; have HC' := Aside0.mk hC'; have HLE := Aside0.mk hc'; have HB2 := Aside0.mk hb2; clear hC' hc' hb2)
            have HM := Aside0.mk (HM0.out.put HKL.out HB2.out _ HRW0.out (.slice A' (boxL L6).length c') rfl)
            have HRW : Aside0 ((rows'.set k (rowN (rd_T24 l (k : Int)) (.slice A' (boxL L6).length c'))).getD k [] = rowN (rd_T24 l (k : Int)) (.slice A' (boxL L6).length c')) := ⟨by rw [getD_setV _ _ _ _ (by rw [HM0.out.len]; exact HKL.out), if_pos rfl]⟩
            have HGD := Aside0.mk (show (w2.setCell ⟨b, k * 7 + 6, none⟩ (.slice A' (boxL L6).length c')).heap[g]? = some (.cells #[.func (.func 60) #[] #[.pointer (some ⟨g, 0, none⟩)]] 75 (0, 0)) from blk_far (blk_below HG0.out HB2.out) (p := ⟨b, k * 7 + 6, none⟩) hgb _)
            have HCD := Aside0.mk (show k24.C (w2.setCell ⟨b, k * 7 + 6, none⟩ (.slice A' (boxL L6).length c')) A' (boxL L6).length (boxL L6) from HC'.out _ HM.out.below (fun q hq hlt => Below.heap_setCell w2 ⟨b, k * 7 + 6, none⟩ _ q (fun e => by have := HBW.out; simp only at e; omega)))
            clear d1 d2 n0 n6 hfz g0 CB HM0 HG0 HRW0 HC'
            generalize (rows'.set k (rowN (rd_T24 l (k : Int)) (.slice A' (boxL L6).length c'))) = rowsC at HM HRW
            generalize (w2.setCell ⟨b, k * 7 + 6, none⟩ (.slice A' (boxL L6).length c')) = wc at HM HGD HCD ⊢
            obtain ⟨n0, n6, hfz⟩ := HM.out.cells HKL.out _ HRW.out
            rw [← HEX.out.1] at n0
            have g0 : wc.cell? ⟨g, 0, none⟩ = some (.func (.func 60) #[] #[.pointer (some ⟨g, 0, none⟩)]) := blk_cell HGD.out 0
            go_region_law ((with_reducible refine gate50 rfl ?_); go_simp; go_at_call 60; refine (IHA.out _ _ _ _ HDC.out.1 HDC.out.2 (Kd.C_drew HCD.out) HLE.out HGD.out).mono ?_; rintro e w3 ⟨v6, rfl, hr3, hb3⟩; obtain ⟨AY, qy, hv6⟩ := Kd.R_slice hr3; subst hv6; obtain ⟨d1, d2⟩ := rep_at HM.out HKL.out HRW.out hb3; have HR3 := Aside0.mk hr3; have HB3 := Aside0.mk hb3; clear hr3 hb3)
            all_goals
              go_wp2_with fail
              go_roundw
              case rel => exact ⟨k + 1, by omega, by go_num, ⟨Mid.step HM.out HKL.out HRW.out HB3.out (by rw [HRES.out]; exact HR3.out)⟩⟩
              case measure => simp [intOf]; omega
          · have hres2 : (appT (it && k == 0) (rd_T24 l (k : Int))).f6 = appL (x0 == 4) L6 := by
              rw [hres, if_neg (fun h => hA (by simp at h; exact ⟨h.1.1, h.1.2, h.2⟩))]
            have HRES := Aside0.mk hres2
            have HRW := Aside0.mk hrow
            have HDC := Aside0.mk (show dpL L6 < s ∧ cnL L6 < 100000000 from ⟨hdL, by omega⟩)
            have HCD := Aside0.mk (Kd.C_below hC6 hM.below)
            have HLE := Aside0.mk hc6
            have HGD := Aside0.mk hgw
            have HEX := Aside0.mk (And.intro ex0 eL)
            clear hres hres2 hrow hdL hcL hC6 hc6 hgw hM hdx hcx ex0 eL hT hkl
            have hcase : it = false ∨ (it = true ∧ k ≠ 0) ∨ (it = true ∧ k = 0 ∧ x0 ≠ 7) := by
              cases it
              · exact .inl rfl
              · by_cases h1 : k = 0
                · exact .inr (.inr ⟨rfl, h1, fun h => hA ⟨rfl, h1, h⟩⟩)
                · exact .inr (.inl ⟨rfl, h1⟩)
            clear hA
            rcases hcase with hi | ⟨hi, h1⟩ | ⟨hi, h1, h2⟩
            · subst hi
              go_wp2_with fail
              go_region_law ((with_reducible refine gate50 rfl ?_); go_simp; go_at_call 60; refine (IH.out _ _ _ _ HDC.out.1 HDC.out.2 (Kd.C_drew HCD.out) HLE.out HGD.out).mono ?_; rintro e w3 ⟨v6, rfl, hr3, hb3⟩; obtain ⟨AY, qy, hv6⟩ := Kd.R_slice hr3; subst hv6; obtain ⟨d1, d2⟩ := rep_at HM.out HKL.out HRW.out hb3; have HR3 := Aside0.mk hr3; have HB3 := Aside0.mk hb3; clear hr3 hb3)
              all_goals
                go_wp2_with fail
                go_roundw
                case rel => exact ⟨k + 1, by omega, by go_num, ⟨Mid.step HM.out HKL.out HRW.out HB3.out (by rw [HRES.out]; exact HR3.out)⟩⟩
                case measure => simp [intOf]; omega
            · subst hi
              have hk0 : ((k : Int) == 0) = false := by simpa using h1
              go_wp2_with fail
              go_region_law ((with_reducible refine gate50 rfl ?_); go_simp; go_at_call 60; refine (IH.out _ _ _ _ HDC.out.1 HDC.out.2 (Kd.C_drew HCD.out) HLE.out HGD.out).mono ?_; rintro e w3 ⟨v6, rfl, hr3, hb3⟩; obtain ⟨AY, qy, hv6⟩ := Kd.R_slice hr3; subst hv6; obtain ⟨d1, d2⟩ := rep_at HM.out HKL.out HRW.out hb3; have HR3 := Aside0.mk hr3; have HB3 := Aside0.mk hb3; clear hr3 hb3)
              all_goals
                go_wp2_with fail
                go_roundw
                case rel => exact ⟨k + 1, by omega, by go_num, ⟨Mid.step HM.out HKL.out HRW.out HB3.out (by rw [HRES.out]; exact HR3.out)⟩⟩
                case measure => simp [intOf]; omega
            · subst hi
              have hk0 : ((k : Int) == 0) = true := by simpa using h1
              have hx7 : (x0 == 7) = false := by simpa using h2
              clear h1 h2
              go_wp2_with fail
              go_region_law ((with_reducible refine gate50 rfl ?_); go_simp; go_at_call 60; refine (IH.out _ _ _ _ HDC.out.1 HDC.out.2 (Kd.C_drew HCD.out) HLE.out HGD.out).mono ?_; rintro e w3 ⟨v6, rfl, hr3, hb3⟩; obtain ⟨AY, qy, hv6⟩ := Kd.R_slice hr3; subst hv6; obtain ⟨d1, d2⟩ := rep_at HM.out HKL.out HRW.out hb3; have HR3 := Aside0.mk hr3; have HB3 := Aside0.mk hb3; clear hr3 hb3)
              all_goals
                go_wp2_with fail
                go_roundw
                case rel => exact ⟨k + 1, by omega, by go_num, ⟨Mid.step HM.out HKL.out HRW.out HB3.out (by rw [HRES.out]; exact HR3.out)⟩⟩
                case measure => simp [intOf]; omega
        · have hkn : k = n := by omega
          subst hkn
          have hkI : ¬ (k : Int) < (k : Int) := by omega
          go_wp2_with fail
          go_ret
          obtain ⟨rows', h1, _⟩ := HM.out
          rw [HEN.out] at h1 ⊢
          exact ⟨_, rfl, h1.full, h1.below⟩
end
end Go.Proofs.Ytikfbipjlkhgeaa.P
