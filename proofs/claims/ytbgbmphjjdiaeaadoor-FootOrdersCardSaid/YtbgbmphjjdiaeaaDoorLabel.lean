/- class.Label: for every text the call returns the text as a label. -/
import Derived.Test.YtbgbmphjjdiaeaaDoorFoldS
import Derived.Test.YtbgbmphjjdiaeaaDoorPk1
namespace Go.Proofs.YtbgbmphjjdiaeaaDoor.P
open Go.RowKit Go.Proofs.YtbgbmphjjdiaeaaDoorW.PrintWords Go.Proofs.YtbgbmphjjdiaeaaDoorW.PrintLast Go.Proofs.YtbgbmphjjdiaeaaDoorW.PrintMore
set_option linter.unusedVariables false
set_option linter.unusedSimpArgs false
theorem white_f (x : Nat) : class_white.f (x : Int) = some (T.whiteN x) := by
  unfold class_white.f T.whiteN
  by_cases h : x = 32
  · subst h; rfl
  · rw [if_neg (by omega)]
    by_cases h9 : 9 ≤ x
    · rw [if_pos (by omega)]
      by_cases h13 : x ≤ 13
      · rw [decide_eq_true (show (x : Int) ≤ 13 by omega)]; simp [h, h9, h13]
      · rw [decide_eq_false (show ¬ (x : Int) ≤ 13 by omega)]; simp [h, h13]
    · rw [if_neg (by omega)]; simp [h, h9]
theorem white_pred (w : World) : PredAtRunes Tryd.prog 61 #[] T.whiteN w := fun W x hx hb =>
  (class_white.calls (x : Int) (T.whiteN x) W (white_f x)).mono fun e w' ⟨he, hd⟩ => ⟨he, hd.out⟩
theorem enters61 : ∀ (args : Array Value) (w : World), (callFunc 61 args).run Tryd.prog w = .ok (.enter 61 args) w := enters_of Tryd.func61 (by kernel_rfl) rfl
def sumW {α : Type} : List (List α) → Nat
  | [] => 0
  | x :: r => x.length + 1 + sumW r
theorem join_sum {α : Type} (sp : α) : ∀ ws : List (List α), (T.joinW sp ws).length ≤ sumW ws
  | [] => Nat.le_refl _
  | [x] => by rw [T.joinW, sumW]; omega
  | x :: y :: r => by
    have := join_sum sp (y :: r)
    rw [T.joinW, List.length_append, List.length_cons, sumW]
    omega
theorem words_sum {α : Type} (f : α → Bool) : ∀ (l cur : List α), sumW (T.wordsA f l cur) ≤ l.length + cur.length + 1 := by
  intro l
  induction l with
  | nil =>
    intro cur
    rw [T.wordsA]
    split
    · rw [sumW]; omega
    · rw [sumW, sumW]; omega
  | cons c l ih =>
    intro cur
    have h1 := ih []
    have h2 := ih (cur ++ [c])
    rw [List.length_append, List.length_singleton] at h2
    rw [List.length_nil] at h1
    rw [T.wordsA, List.length_cons]
    split
    · split
      · omega
      · rw [sumW]; omega
    · omega
theorem squeeze_len (l : List Nat) : (T.squeeze l).length ≤ l.length + 1 := by
  have h1 := join_sum 32 (T.wordsA T.whiteN l [])
  have h2 := words_sum T.whiteN l []
  unfold T.squeeze
  rw [List.length_nil] at h2
  omega
theorem words_count {α : Type} (ws : List (List α)) : ws.length ≤ sumW ws := by
  induction ws with
  | nil => exact Nat.le_refl _
  | cons x r ih => rw [sumW, List.length_cons]; omega
theorem label_fin (l : List UInt8) : T.foldS (T.encs (T.squeeze (T.runes l))) = T.labelS l := by
  unfold T.foldS T.labelS
  rw [T.runes_encs' (T.squeeze_good (T.runes_ok l))]
theorem own_cells {w : World} {B A : Nat} {xs : List ByteArray} (h : w.ownsRow B 9 1 (.slice (some ⟨A, 0, none⟩) xs.length xs.length) xs.length (xs.map Value.string)) (h0 : 0 < xs.length) :
    A < w.heap.size ∧ ∀ (j : Nat) x, xs[j]? = some x → w.cell? ⟨A, 0 + j, none⟩ = some (.string x) := by
  rcases h.2 with ⟨hv, _⟩ | ⟨g, cap, cur, hv, hg, hb, hn, hm, hc, ht⟩
  · cases hv
  · injection hv with hv
    injection hv with hv
    injection hv with hv
    subst hv
    refine ⟨(Array.getElem?_eq_some_iff.1 hb).1, fun j x hj => ?_⟩
    have hjl : j < xs.length := (List.getElem?_eq_some_iff.1 hj).1
    have : (cur.toList.take (xs.length * 1))[j]? = (xs.map Value.string)[j]? := by rw [ht]
    rw [List.getElem?_take, if_pos (by omega), Array.getElem?_toList, List.getElem?_map, hj] at this
    rw [Lib.cell_of_heap hb, Nat.zero_add, this]
    rfl
section
set_option maxRecDepth 100000 in
set_option maxHeartbeats 4000000 in
theorem label_calls (a0 : ByteArray) (w : World) (hs : a0.size ≤ 1073741824) (hT : Tabs w) :
    Calls Tryd.prog 33 #[.string a0] w fun e w' => e = .returned (.string ⟨(T.labelS a0.data.toList).toArray⟩) ∧ Below w.heap.size w w' := by
  obtain ⟨cap, w1, hc1, hb1, hlt, hcap, hcells⟩ := conv_bytes a0 w
  have hlen : a0.data.toList.length = a0.size := by simp
  have CC : Aside0 (Calls Tryd.prog 35 #[.slice (some ⟨w.heap.size, 0, none⟩) a0.size cap] w1 fun e w' => e = .returned (.string ⟨(T.clean a0.data.toList).toArray⟩) ∧ Below w1.heap.size w1 w') := ⟨by
    rw [← hlen]
    exact clean_cells a0.data.toList w.heap.size 0 cap w1 (hT.below hb1) hlt (fun j hj => hcells j (by rw [hlen] at hj; exact hj)) (by rw [hlen]; exact hcap) (by rw [hlen]; omega)⟩
  obtain ⟨R, hR⟩ : ∃ R, R = T.runes a0.data.toList := ⟨_, rfl⟩
  have hRg : ∀ r ∈ R, T.good r := by rw [hR]; exact T.runes_ok _
  have hRl : R.length ≤ 3 * a0.size := by rw [hR]; have := T.runes_len a0.data.toList; rw [hlen] at this; exact this
  have hcl : (T.clean a0.data.toList).length ≤ 3 * a0.size := by have := T.clean_le a0.data.toList; rw [hlen] at this; exact this
  have hce : T.clean a0.data.toList = T.encs R := by rw [hR]; rfl
  have hfin : T.foldS (T.encs (T.squeeze R)) = T.labelS a0.data.toList := by rw [hR]; exact label_fin _
  obtain ⟨ws, hws⟩ : ∃ ws, ws = T.wordsA T.whiteN R [] := ⟨_, rfl⟩
  have hwl : ws.length ≤ 3 * a0.size + 1 := by
    have h1 := words_count ws
    have h2 := words_sum T.whiteN R []
    rw [← hws, List.length_nil] at h2
    omega
  have hsq : T.squeeze R = T.joinW 32 ws := by rw [hws]; rfl
  have hsl : (T.encs (T.squeeze R)).length ≤ 4 * (3 * a0.size + 1) := by
    have h1 := (T.encs_len (T.squeeze R)).2
    have h2 := squeeze_len R
    omega
  obtain ⟨m, hm⟩ : ∃ m, m = ws.length := ⟨_, rfl⟩
  have hxl : (ws.map T.mk).length = m := by rw [hm]; simp
  have hgo : Lib.goFieldsP T.whiteN ⟨(T.clean a0.data.toList).toArray⟩ = ws.map T.mk := by
    rw [T.fields_encs T.whiteN _ R (fun r hr => (hRg r hr).1) (by simp [hce]), hws]
  have CF : Aside0 (∀ W : World, Calls Tryd.prog 60 #[.string ⟨(T.clean a0.data.toList).toArray⟩, .func (.func 61) #[] #[]] W fun e w' => ∃ A, e = .returned (.slice (some ⟨A, 0, none⟩) m m) ∧
      w'.ownsRow W.heap.size 9 1 (.slice (some ⟨A, 0, none⟩) (ws.map T.mk).length (ws.map T.mk).length) (ws.map T.mk).length ((ws.map T.mk).map Value.string) ∧ Below W.heap.size W w') := ⟨fun W => by
    have h := Tryd.strings_FieldsFunc_runes 61 #[] enters61 T.whiteN ⟨(T.clean a0.data.toList).toArray⟩ W (by simp [ByteArray.size]; omega) (white_pred W)
    rw [hgo] at h
    exact h.mono fun e w' ⟨A, h1, _, h2, h3⟩ => ⟨A, by rw [← hxl]; exact h1, h2, h3⟩⟩
  have CJ : Aside0 (∀ (W : World) (B A : Nat), W.ownsRow B 9 1 (.slice (some ⟨A, 0, none⟩) (ws.map T.mk).length (ws.map T.mk).length) (ws.map T.mk).length ((ws.map T.mk).map Value.string) →
      Calls Tryd.prog 59 #[.slice (some ⟨A, 0, none⟩) m m, .string ⟨#[32]⟩] W fun e w' => e = .returned (.string ⟨(T.encs (T.squeeze R)).toArray⟩) ∧ Below W.heap.size W w') := ⟨fun W B A ho => by
    rcases Nat.eq_zero_or_pos m with h0 | h0
    · have hw0 : ws = [] := List.eq_nil_of_length_eq_zero (by rw [← hm]; exact h0)
      rw [h0, hsq, hw0]
      exact (Tryd.strings_Join_none (some ⟨A, 0, none⟩) 0 ⟨#[32]⟩ W).mono fun e w' ⟨h1, h2⟩ => ⟨h1, by rw [h2]; exact Below.refl _ _⟩
    · obtain ⟨hA, hc⟩ := own_cells ho (by rw [hxl]; exact h0)
      have hj : Lib.join ((ws.map T.mk).map (·.data.toList)) (⟨#[32]⟩ : ByteArray).data.toList = T.encs (T.squeeze R) := by rw [hsq]; exact T.join_mk ws
      have h := Tryd.strings_Join A 0 m (ws.map T.mk) ⟨#[32]⟩ W hc hA (by rw [hxl]; omega) (by rw [hxl]; exact Nat.le_refl _) (by rw [hj]; omega)
      rw [hj, hxl] at h
      exact h⟩
  have CS : Aside0 (∀ W : World, Tabs W → Calls Tryd.prog 31 #[.string ⟨(T.encs (T.squeeze R)).toArray⟩] W fun e w' => e = .returned (.string ⟨(T.labelS a0.data.toList).toArray⟩) ∧ Below W.heap.size W w') := ⟨fun W ht => by
    have h := foldS_calls ⟨(T.encs (T.squeeze R)).toArray⟩ W (by simp [ByteArray.size]; omega) ht
    simp only [List.toList_toArray] at h
    rw [hfin] at h
    exact h⟩
  have HB1 := Aside0.mk hb1
  have HT := Aside0.mk hT
  clear hb1 hcells hlen hT hR hRg hRl hcl hce hfin hws hwl hsq hsl hm hxl hgo hs hlt hcap
  go_enter Tryd.func33, Tryd.ntmps33
  go_wp2_with (first | (go_at_call 35; refine CC.out.mono ?_; rintro e w2 ⟨rfl, hb2⟩; have HB2 := Aside0.mk (HB1.out.trans (hb2.mono HB1.out.size)); clear hb2) | (go_at_call 60; refine (CF.out _).mono ?_; rintro e w3 ⟨A, rfl, ho, hb3⟩; have HO := Aside0.mk ho; have HB3 := Aside0.mk (HB2.out.trans (hb3.mono HB2.out.size)); clear hb3 ho) | (go_at_call 59; refine (CJ.out _ _ A HO.out).mono ?_; rintro e w4 ⟨rfl, hb4⟩; have HB4 := Aside0.mk (HB3.out.trans (hb4.mono HB3.out.size)); clear hb4) | (go_at_call 31; refine (CS.out _ (HT.out.below HB4.out)).mono ?_; rintro e w5 ⟨rfl, hb5⟩; have HB5 := Aside0.mk (HB4.out.trans (hb5.mono HB4.out.size)); clear hb5))
  go_ret
  exact ⟨rfl, HB5.out⟩
end
end Go.Proofs.YtbgbmphjjdiaeaaDoor.P
