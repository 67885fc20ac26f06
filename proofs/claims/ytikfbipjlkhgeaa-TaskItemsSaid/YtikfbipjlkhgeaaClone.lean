/- slices.Clone at []api.Node. -/
import Derived.Test.YtikfbipjlkhgeaaIns
import Derived.Lib.SliceRun
namespace Go.Proofs.Ytikfbipjlkhgeaa.P
open Go.RowKit Go.Proofs.YtikfbipjlkhgeaaW.PrintWords Go.Proofs.YtikfbipjlkhgeaaW.PrintLast Go.Proofs.YtikfbipjlkhgeaaW.PrintMore
set_option linter.unusedVariables false
set_option linter.unusedSimpArgs false
/-- A row of nodes that is read, told by its cells. -/
theorem C_raw {w : World} {A : Option Addr} {n : Nat} {l : List S24} (h : Kd.C k24 w A n l) : ∃ rows : List (List Value), rows.length = l.length ∧ (∀ i : Nat, i < l.length → k24.K w (rd_T24 l (i : Int)) (rows.getD i [])) ∧
    ReadsRow (fun x cs => cs = x ∧ cs.length = 7 ∧ ∀ u ∈ cs, u.oneCell' = true) 7 w A n rows := by
  rcases Nat.eq_zero_or_pos n with h0 | h0
  · have hl : l = [] := List.eq_nil_of_length_eq_zero (by rw [h.1]; exact h0)
    subst hl
    exact ⟨[], rfl, fun i hi => absurd hi (by simp), h.1, h.2.1, fun hn => absurd hn (by omega)⟩
  · obtain ⟨ad, rfl, ha⟩ := h.2.2 h0
    obtain ⟨news, hnr, hnc⟩ := ReadsRow.inner_ h
    have hlen : l.length = n := h.1
    have hraw := Kd.reps_raw hnr (fun x c hc => ⟨k24.K_len hc, k24.K_one hc⟩)
    have hcl : (Kd.chunks 7 l.length news).length = l.length := Kd.chunks_length _ _ _
    refine ⟨Kd.chunks 7 l.length news, hcl, fun i hi => ?_, by rw [hcl, hlen], h.2.1, fun _ => ⟨ad, rfl, fun j p hp => ?_⟩⟩
    · have e : (Kd.chunks 7 l.length news).getD i [] = (news.drop (i * 7)).take 7 := by
        rw [List.getD_eq_getElem?_getD, Kd.chunks_at hi]; rfl
      rw [e]
      refine hnr.2 i _ ?_
      show l[i]? = some (l.getD i z24)
      rw [List.getD_eq_getElem?_getD, List.getElem?_eq_getElem hi]; rfl
    · have hj : j < l.length := by have := (List.getElem?_eq_some_iff.1 hp).1; omega
      have hm := hraw.2 j p hp
      refine ⟨p, ?_, ?_, fun i u hu => ?_⟩
      · rw [← hm.1]; exact hm.2.1
      · refine ⟨rfl, ?_, ?_⟩
        · rw [← hm.1]; exact hm.2.1
        · rw [← hm.1]; exact hm.2.2
      · rw [← hm.1, List.getElem?_take] at hu
        split at hu
        · rw [List.getElem?_drop] at hu
          exact hnc _ _ hu
        · cases hu
theorem R_app7 {ops : Array Oper} {rest : List Oper} {o : Oper} {a : Act} {Q : Exit → Act → World → Prop} {w0 W : World} {rows : List (List Value)} {n c : Nat} {ad : Addr} (hgd : o.guard = none) (s x : Operand)
    (ho : o.op = .call { callee := .builtin .append, args := #[s, x], argTypes := #[22, 22] }) (base : Nat) (hs : a.eval s = .slice (some ⟨base, 0, none⟩) 0 0) (hx : a.eval x = .slice (some ad) n c)
    (HR : ReadsRow (fun x cs => cs = x ∧ cs.length = 7 ∧ ∀ u ∈ cs, u.oneCell' = true) 7 W (some ad) n rows) (HB : Below base w0 W) (hE : W.heap[base]? = some (.cells #[] 24 (0, 0))) (hl : n < 1000000000)
    (h : ∀ v1 w1, (Kd.raw 7).R 24 w1 base (fun _ => True) v1 rows → Below base w0 w1 → wpList Try.prog ops Q rest (a.put o.dst v1) w1) : wpList Try.prog ops Q (o :: rest) a W := by
  refine Kd.R_append_rows (Kd.raw 7) (w0 := w0) base hgd s x 22 24 _ 88 ho Try.underlying22 info24 rfl (by decide) (by decide) (.slice (some ⟨base, 0, none⟩) 0 0) [] rows (some ad) n c (fun _ => True) (fun _ => False) hs hx
    ⟨fun _ _ => trivial, [], ⟨rfl, .inr ⟨base, 0, #[], rfl, Nat.le_refl _, hE, Nat.le_refl _, by simp [maxLen], by simp, by simp⟩⟩, Reps.none _ _⟩ HR (fun _ _ h => h) (fun _ h => h.elim) (fun _ _ => trivial) HB (Nat.le_of_lt (blk_lt hE)) (by simp only [List.length_nil]; omega) ?_
  intro v1 w1 hR hB _ _
  exact h v1 w1 (by simpa using hR) hB
section
set_option maxRecDepth 100000 in
set_option maxHeartbeats 8000000 in
theorem clone61 {w0 w : World} {A : Option Addr} {n c : Nat} {l : List S24} (h : Kd.C k24 w0 A n l) (hb0 : Below w0.heap.size w0 w) (hc : n ≤ c) (hl : n < 1000000000) :
    Calls Try.prog 61 #[.slice A n c] w fun e w' => ∃ v rows, e = .returned v ∧ (Kd.raw 7).R 24 w' w.heap.size (fun _ => True) v rows ∧ rows.length = l.length ∧ (∀ i : Nat, i < l.length → k24.K w0 (rd_T24 l (i : Int)) (rows.getD i [])) ∧ Below w.heap.size w w' := by
  obtain ⟨rows, hrl, hrk, hrr0⟩ := C_raw h
  have hrr := ReadsRow.imp_ hrr0 hb0 (fun _ _ h => h)
  clear hrr0
  have hln := h.1
  have hu22 := Try.underlying22
  have q22 : ∀ (w : World) (a : Option Addr) (n c n' c' : Nat), (binOp .eql 22 (.slice a n c) (.slice none n' c')).run Try.prog w = .ok (.bool a.isNone) w := fun w a n c n' c' => Lib.run_eql_slice_nil w _ _ a n c n' c' hu22
  rcases A with _ | ad
  · have h0 : n = 0 := by
      rcases Nat.eq_zero_or_pos n with h0 | h0
      · exact h0
      · obtain ⟨ad, h, _⟩ := h.2.2 h0
        cases h
    have hr0 : rows = [] := List.eq_nil_of_length_eq_zero (by omega)
    subst hr0
    have HK := Aside0.mk hrk
    have HL := Aside0.mk hrl
    clear hrr hrk hrl h
    go_enter Try.func61, Try.ntmps61
    go_wp2_with fail
    go_ret
    exact ⟨_, [], rfl, Kd.R_nil _ _ _ _ _, HL.out, HK.out, Below.refl _ _⟩
  · have HK := Aside0.mk hrk
    have HL := Aside0.mk hrl
    have HR := Aside0.mk hrr
    clear hrr hrk hrl h
    go_enter Try.func61, Try.ntmps61
    go_wp2_with (at_builtin; refine R_app7 (w0 := w) rfl _ _ rfl (W := w.alloc (.cells #[] 24)) (rows := rows) (n := n) (c := c) (ad := ad) w.heap.size rfl rfl (ReadsRow.imp_ HR.out (Below.alloc (Below.refl _ _) (Nat.le_refl _) _) (fun _ _ h => h)) (below_alloc (Below.refl _ _) _) (blk_new w _) hl ?_; intro v1 w1 ho hb1; have HO := Aside0.mk ho; have HB := Aside0.mk hb1; clear ho hb1)
    go_ret
    exact ⟨_, rows, rfl, HO.out, HL.out, HK.out, HB.out⟩
end
end Go.Proofs.Ytikfbipjlkhgeaa.P
