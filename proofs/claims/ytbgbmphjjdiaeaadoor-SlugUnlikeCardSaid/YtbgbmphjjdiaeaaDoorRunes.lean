/- text.Runes: for every text the call returns its characters. -/
import Derived.Test.YtbgbmphjjdiaeaaDoorClean
import Derived.Laws.IdiomStrings
namespace Go.Proofs.YtbgbmphjjdiaeaaDoor.P
open Go.RowKit Go.Proofs.YtbgbmphjjdiaeaaDoorW.PrintWords Go.Proofs.YtbgbmphjjdiaeaaDoorW.PrintLast Go.Proofs.YtbgbmphjjdiaeaaDoorW.PrintMore
set_option linter.unusedVariables false
set_option linter.unusedSimpArgs false
theorem below_new (w : World) (o : Obj) : Below w.heap.size w (w.drew.alloc o) := (below_drew (Below.refl _ _)).alloc (Nat.le_refl _) _
theorem conv_bytes (s : ByteArray) (w : World) : ∃ cap w1, (convert 9 42 (.string s)).run Tryd.prog w = .ok (.slice (some ⟨w.heap.size, 0, none⟩) s.size cap) w1 ∧ Below w.heap.size w w1 ∧ w.heap.size < w1.heap.size ∧ s.size ≤ cap ∧
    ∀ j, j < s.size → w1.cell? ⟨w.heap.size, 0 + j, none⟩ = some (.int .u8 ((T.byt s.data.toList j : Nat) : Int)) := by
  refine ⟨_, _, run_bytes_of_string (P := Tryd.prog) w 9 42 5 s Tryd.underlying9 Tryd.underlying42 Tryd.underlying5, below_new w _, ?_, grownCap_ge _ _ _ _, fun j hj => ?_⟩
  · show w.heap.size < (w.heap.push _).size
    simp
  · have hb : (w.drew.alloc (.cells (bytesRow s (grownCap w s.size 0 5)) 5 ((bytesRow s (grownCap w s.size 0 5)).size, (bytesRow s (grownCap w s.size 0 5)).size + 1))).heap[w.heap.size]? = some (.cells (bytesRow s (grownCap w s.size 0 5)) 5 ((bytesRow s (grownCap w s.size 0 5)).size, (bytesRow s (grownCap w s.size 0 5)).size + 1)) := by
      show (w.heap.push _)[w.heap.size]? = _
      simp
    rw [Lib.cell_of_heap hb, Nat.zero_add, bytesRow_at s _ j hj]
    congr 3
    rw [← T.get_byt]
    obtain ⟨a⟩ := s
    show _ = (ByteArray.get! ⟨a⟩ j).toNat
    unfold ByteArray.get!
    have hj' : j < a.size := hj
    simp [hj']
def ints (l : List Nat) : List Int := l.map fun (r : Nat) => (r : Int)
theorem conv_runes (s : ByteArray) (R : List Nat) (hs : s.data.toList = T.encs R) (hok : ∀ r ∈ R, T.okR r) (hsz : R.length ≤ 70368744177664) (w : World) : ∃ cap w1, (convert 9 49 (.string s)).run Tryd.prog w = .ok (.slice (some ⟨w.heap.size, 0, none⟩) R.length cap) w1 ∧ Below w.heap.size w w1 ∧
    (Kd.int .i32).R 21 w1 w.heap.size (fun _ => True) (.slice (some ⟨w.heap.size, 0, none⟩) R.length cap) (ints R) := by
  have hrf := T.runesFrom_clean s R hok hs
  have hsize : (Conv.runesFrom s s.size 0 #[]).size = R.length := by rw [hrf]; simp
  have h := run_runes_of_string (P := Tryd.prog) w 9 49 21 s Tryd.underlying9 Tryd.underlying49 Tryd.underlying21 (by rw [hsize]; exact hsz)
  rw [hsize] at h
  refine ⟨_, _, h, below_new w _, ?_⟩
  have hge := grownCap_ge w R.length 0 21
  have hle := grownCap_le_maxLen w R.length 0 21 (by unfold maxLen; omega)
  have hl : (ints R).length = R.length := by simp [ints]
  refine Kd.R_of_own ?_ (fun _ _ => trivial)
  rw [hl]
  obtain ⟨C, hC⟩ : ∃ C, C = Conv.runesFrom s s.size 0 #[] ++ Array.replicate (grownCap w R.length 0 21 - R.length) (Value.int .i32 0) := ⟨_, rfl⟩
  have hb : (w.drew.alloc (.cells C 21)).heap[w.heap.size]? = some (.cells C 21 (0, 0)) := by
    show (w.heap.push _)[w.heap.size]? = _
    simp
  rw [← hC]
  refine ⟨by simp [ints, encs], .inr ⟨w.heap.size, _, C, rfl, Nat.le_refl _, hb, hge, hle, ?_, ?_⟩⟩
  · rw [hC, Array.size_append, hsize, Array.size_replicate]
    omega
  · rw [hC, hrf, Array.toList_append, List.take_append_of_le_length (by simp), List.take_of_length_le (by simp)]
    simp [ints, encs]
/-- The characters of a text, where the text is not too long. -/
def text_Runes.f (a0 : ByteArray) : Option (List Int) := if a0.size ≤ 1099511627776 then some (ints (T.runes a0.data.toList)) else none
section
set_option maxRecDepth 100000 in
set_option maxHeartbeats 4000000 in
theorem runes_calls (a0 : ByteArray) (w : World) (hs : a0.size ≤ 1099511627776) (hT : Tabs w) :
    Calls Tryd.prog 43 #[.string a0] w fun e w' => ∃ v, e = .returned v ∧ (Kd.int .i32).R 21 w' w.heap.size (fun _ => True) v (ints (T.runes a0.data.toList)) ∧ Below w.heap.size w w' := by
  obtain ⟨cap, w1, hc1, hb1, hlt, hcap, hcells⟩ := conv_bytes a0 w
  have hlen : a0.data.toList.length = a0.size := by simp
  have CC : Aside0 (Calls Tryd.prog 35 #[.slice (some ⟨w.heap.size, 0, none⟩) a0.size cap] w1 fun e w' => e = .returned (.string ⟨(T.clean a0.data.toList).toArray⟩) ∧ Below w1.heap.size w1 w') := ⟨by
    rw [← hlen]
    exact clean_cells a0.data.toList w.heap.size 0 cap w1 (hT.below hb1) hlt (fun j hj => hcells j (by rw [hlen] at hj; exact hj)) (by rw [hlen]; exact hcap) (by rw [hlen]; exact hs)⟩
  have CR := Aside0.mk (conv_runes ⟨(T.clean a0.data.toList).toArray⟩ (T.runes a0.data.toList) (by simp [T.clean]) (fun r hr => (T.runes_ok _ r hr).1) (by have := T.runes_len a0.data.toList; rw [hlen] at this; omega))
  have HB1 := Aside0.mk hb1
  clear hb1 hcells hlen hT
  go_enter Tryd.func43, Tryd.ntmps43
  go_wp2_with (go_at_call 35; refine CC.out.mono ?_; rintro e w2 ⟨rfl, hb2⟩; obtain ⟨cap3, w3, hc3, hb3, hR3⟩ := CR.out w2; have HB2 := Aside0.mk hb2; have HB3 := Aside0.mk hb3; have HR3 := Aside0.mk hR3; clear hb2 hb3 hR3)
  go_ret
  have h12 := HB1.out.trans (HB2.out.mono HB1.out.size)
  exact ⟨_, rfl, Kd.R_lower HR3.out h12.size, h12.trans (HB3.out.mono h12.size)⟩
end
theorem text_Runes.calls (a0 : ByteArray) (r : List Int) (w : World) (h : text_Runes.f a0 = some r) (hT : Tabs w) :
    Calls Tryd.prog 43 #[.string a0] w fun e w' => ∃ v, e = .returned v ∧ (Kd.int .i32).R 21 w' w.heap.size (fun _ => True) v r ∧ Below w.heap.size w w' := by
  unfold text_Runes.f at h
  by_cases hs : a0.size ≤ 1099511627776
  · rw [if_pos hs] at h
    have h := Option.some.inj h
    subst h
    exact runes_calls a0 w hs hT
  · rw [if_neg hs] at h
    cases h
end Go.Proofs.YtbgbmphjjdiaeaaDoor.P
