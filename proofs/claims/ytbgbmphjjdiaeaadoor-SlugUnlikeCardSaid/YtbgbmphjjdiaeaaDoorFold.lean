/- class.fold, class.Fold: for every text the call returns the text without capitals. -/
import Derived.Test.YtbgbmphjjdiaeaaDoorRunes
import Derived.Lib.OthersKept
namespace Go.Proofs.YtbgbmphjjdiaeaaDoor.P
open Go.RowKit Go.Proofs.YtbgbmphjjdiaeaaDoorW.PrintWords Go.Proofs.YtbgbmphjjdiaeaaDoorW.PrintLast Go.Proofs.YtbgbmphjjdiaeaaDoorW.PrintMore
set_option linter.unusedVariables false
set_option linter.unusedSimpArgs false
/-- What the builder's writers leave. -/
def Wrote (B b : Nat) (bs : List Value) (w w' : World) : Prop := Lib.BuilderAtF 74 5 B b (.pointer (some ⟨b, 0, none⟩)) bs w' ∧ Below B w w' ∧ Lib.OthersKept 5 (some b) w w'
theorem cells_enc (r : Nat) : Lib.byteCells (T.enc r) = Lib.runeCells (r : Int) := Lib.byteCells_encodeRune (r : Int)
theorem fold_one {r x : Nat} (h : T.foldR r = [x]) : Lib.byteCells (T.encs (T.foldR r)) = Lib.runeCells (x : Int) := by
  rw [h, ← cells_enc]
  simp [T.encs]
theorem fold_two {r : Nat} (h : T.foldR r = [115, 115]) : Lib.byteCells (T.encs (T.foldR r)) = Lib.strCells ⟨#[115, 115]⟩ := by
  rw [h, show T.encs [115, 115] = [115, 115] from by rw [T.encs_cons, T.encs_cons, T.enc_one (by omega)]; rfl]
  rfl
set_option maxHeartbeats 2000000 in
theorem fold_way0 (B b : Nat) (bs : List Value) (r : Nat) (hr : r ≤ 1114111) (hc : r = 223) (w : World) (h : Lib.IsBuilderF 74 5 B b bs w) (hlen : bs.length + 4 ≤ 140737488355328) (hBw : B ≤ w.heap.size) :
    Calls Tryd.prog 55 #[.pointer (some ⟨b, 0, none⟩), .int .i32 (r : Int)] w fun e w' => e = .returned (.tuple #[]) ∧ Wrote B b (bs ++ Lib.byteCells (T.encs (T.foldR r))) w w' := by
  have H := Aside0.mk h
  have HL := Aside0.mk hlen
  have HB := Aside0.mk hBw
  have HF := Aside0.mk (fold_two (r := r) (by unfold T.foldR; rw [if_pos (by omega)]))
  have q0 : ((r : Int) == 223) = true := beq_iff_eq.2 (by omega)
  have r0 : (0 : Int) ≤ (r : Int) := by omega
  have r1 : (r : Int) ≤ 1114111 := by omega
  clear h hlen hBw hc hr
  go_enter Tryd.func55, Tryd.ntmps55
  go_wp2_with (go_at_call 63; refine (Tryd.Builder_WriteString_k B b bs ⟨#[115, 115]⟩ _ H.out (by have := HL.out; show bs.length + 2 ≤ _; omega) HB.out).mono ?_; rintro e w2 ⟨rfl, hA⟩; have HA := Aside0.mk hA; clear hA)
  refine bodyPost_ret (results_none rfl _ _ _) rfl ?_
  exact ⟨rfl, by rw [HF.out]; exact HA.out⟩
set_option maxHeartbeats 2000000 in
theorem fold_way1 (B b : Nat) (bs : List Value) (r : Nat) (hr : r ≤ 1114111) (hc : r = 7838) (w : World) (h : Lib.IsBuilderF 74 5 B b bs w) (hlen : bs.length + 4 ≤ 140737488355328) (hBw : B ≤ w.heap.size) :
    Calls Tryd.prog 55 #[.pointer (some ⟨b, 0, none⟩), .int .i32 (r : Int)] w fun e w' => e = .returned (.tuple #[]) ∧ Wrote B b (bs ++ Lib.byteCells (T.encs (T.foldR r))) w w' := by
  have H := Aside0.mk h
  have HL := Aside0.mk hlen
  have HB := Aside0.mk hBw
  have HF := Aside0.mk (fold_two (r := r) (by unfold T.foldR; rw [if_pos (by omega)]))
  have q0 : ((r : Int) == 223) = false := beq_eq_false_iff_ne.2 (by omega)
  have q1 : ((r : Int) == 7838) = true := beq_iff_eq.2 (by omega)
  have r0 : (0 : Int) ≤ (r : Int) := by omega
  have r1 : (r : Int) ≤ 1114111 := by omega
  clear h hlen hBw hc hr
  go_enter Tryd.func55, Tryd.ntmps55
  go_wp2_with (go_at_call 63; refine (Tryd.Builder_WriteString_k B b bs ⟨#[115, 115]⟩ _ H.out (by have := HL.out; show bs.length + 2 ≤ _; omega) HB.out).mono ?_; rintro e w2 ⟨rfl, hA⟩; have HA := Aside0.mk hA; clear hA)
  refine bodyPost_ret (results_none rfl _ _ _) rfl ?_
  exact ⟨rfl, by rw [HF.out]; exact HA.out⟩
set_option maxHeartbeats 2000000 in
theorem fold_way2 (B b : Nat) (bs : List Value) (r : Nat) (hr : r ≤ 1114111) (hc : r = 962) (w : World) (h : Lib.IsBuilderF 74 5 B b bs w) (hlen : bs.length + 4 ≤ 140737488355328) (hBw : B ≤ w.heap.size) :
    Calls Tryd.prog 55 #[.pointer (some ⟨b, 0, none⟩), .int .i32 (r : Int)] w fun e w' => e = .returned (.tuple #[]) ∧ Wrote B b (bs ++ Lib.byteCells (T.encs (T.foldR r))) w w' := by
  have H := Aside0.mk h
  have HL := Aside0.mk hlen
  have HB := Aside0.mk hBw
  have HF : Aside0 (Lib.byteCells (T.encs (T.foldR r)) = Lib.runeCells 963) := ⟨fold_one (r := r) (x := 963) (by unfold T.foldR; rw [if_neg (by omega), if_pos (by omega)])⟩
  have q0 : ((r : Int) == 223) = false := beq_eq_false_iff_ne.2 (by omega)
  have q1 : ((r : Int) == 7838) = false := beq_eq_false_iff_ne.2 (by omega)
  have q2 : ((r : Int) == 962) = true := beq_iff_eq.2 (by omega)
  have r0 : (0 : Int) ≤ (r : Int) := by omega
  have r1 : (r : Int) ≤ 1114111 := by omega
  clear h hlen hBw hc hr
  go_enter Tryd.func55, Tryd.ntmps55
  go_wp2_with (go_at_call 66; refine (Tryd.Builder_WriteRune_k B b bs 963 (by omega) (by omega) _ H.out HL.out HB.out).mono ?_; rintro e w2 ⟨rfl, hA⟩; have HA := Aside0.mk hA; clear hA)
  go_end0
  exact ⟨rfl, by rw [HF.out]; exact HA.out⟩
set_option maxHeartbeats 2000000 in
theorem fold_way3 (B b : Nat) (bs : List Value) (r : Nat) (hr : r ≤ 1114111) (hc : 65 ≤ r ∧ r ≤ 90) (w : World) (h : Lib.IsBuilderF 74 5 B b bs w) (hlen : bs.length + 4 ≤ 140737488355328) (hBw : B ≤ w.heap.size) :
    Calls Tryd.prog 55 #[.pointer (some ⟨b, 0, none⟩), .int .i32 (r : Int)] w fun e w' => e = .returned (.tuple #[]) ∧ Wrote B b (bs ++ Lib.byteCells (T.encs (T.foldR r))) w w' := by
  have H := Aside0.mk h
  have HL := Aside0.mk hlen
  have HB := Aside0.mk hBw
  have HF : Aside0 (Lib.byteCells (T.encs (T.foldR r)) = Lib.runeCells ((r : Int) + 32)) := ⟨fold_one (r := r) (x := (r + 32)) (by unfold T.foldR; rw [if_neg (by omega), if_neg (by omega), if_pos (by omega)])⟩
  have q0 : ((r : Int) == 223) = false := beq_eq_false_iff_ne.2 (by omega)
  have q1 : ((r : Int) == 7838) = false := beq_eq_false_iff_ne.2 (by omega)
  have q2 : ((r : Int) == 962) = false := beq_eq_false_iff_ne.2 (by omega)
  have q3 : decide ((65 : Int) ≤ (r : Int)) = true := decide_eq_true (by omega)
  have q4 : decide ((r : Int) ≤ 90) = true := decide_eq_true (by omega)
  have r0 : (0 : Int) ≤ (r : Int) := by omega
  have r1 : (r : Int) ≤ 1114111 := by omega
  clear h hlen hBw hc hr
  go_enter Tryd.func55, Tryd.ntmps55
  go_wp2_with (go_at_call 66; refine (Tryd.Builder_WriteRune_k B b bs ((r : Int) + 32) (by omega) (by omega) _ H.out HL.out HB.out).mono ?_; rintro e w2 ⟨rfl, hA⟩; have HA := Aside0.mk hA; clear hA)
  go_end0
  exact ⟨rfl, by rw [HF.out]; exact HA.out⟩
set_option maxHeartbeats 2000000 in
theorem fold_way4 (B b : Nat) (bs : List Value) (r : Nat) (hr : r ≤ 1114111) (hc : r < 65) (w : World) (h : Lib.IsBuilderF 74 5 B b bs w) (hlen : bs.length + 4 ≤ 140737488355328) (hBw : B ≤ w.heap.size) :
    Calls Tryd.prog 55 #[.pointer (some ⟨b, 0, none⟩), .int .i32 (r : Int)] w fun e w' => e = .returned (.tuple #[]) ∧ Wrote B b (bs ++ Lib.byteCells (T.encs (T.foldR r))) w w' := by
  have H := Aside0.mk h
  have HL := Aside0.mk hlen
  have HB := Aside0.mk hBw
  have HF : Aside0 (Lib.byteCells (T.encs (T.foldR r)) = Lib.runeCells (r : Int)) := ⟨fold_one (r := r) (x := r) (by unfold T.foldR; rw [if_neg (by omega), if_neg (by omega), if_neg (by omega), if_neg (by omega)])⟩
  have q0 : ((r : Int) == 223) = false := beq_eq_false_iff_ne.2 (by omega)
  have q1 : ((r : Int) == 7838) = false := beq_eq_false_iff_ne.2 (by omega)
  have q2 : ((r : Int) == 962) = false := beq_eq_false_iff_ne.2 (by omega)
  have q3 : decide ((65 : Int) ≤ (r : Int)) = false := decide_eq_false (by omega)
  have q4 : decide ((192 : Int) ≤ (r : Int)) = false := decide_eq_false (by omega)
  have q5 : decide ((913 : Int) ≤ (r : Int)) = false := decide_eq_false (by omega)
  have q6 : decide ((1040 : Int) ≤ (r : Int)) = false := decide_eq_false (by omega)
  have q7 : decide ((1024 : Int) ≤ (r : Int)) = false := decide_eq_false (by omega)
  have r0 : (0 : Int) ≤ (r : Int) := by omega
  have r1 : (r : Int) ≤ 1114111 := by omega
  clear h hlen hBw hc hr
  go_enter Tryd.func55, Tryd.ntmps55
  go_wp2_with (go_at_call 66; refine (Tryd.Builder_WriteRune_k B b bs (r : Int) (by omega) (by omega) _ H.out HL.out HB.out).mono ?_; rintro e w2 ⟨rfl, hA⟩; have HA := Aside0.mk hA; clear hA)
  go_end0
  exact ⟨rfl, by rw [HF.out]; exact HA.out⟩
set_option maxHeartbeats 2000000 in
theorem fold_way5 (B b : Nat) (bs : List Value) (r : Nat) (hr : r ≤ 1114111) (hc : 90 < r ∧ r < 192) (w : World) (h : Lib.IsBuilderF 74 5 B b bs w) (hlen : bs.length + 4 ≤ 140737488355328) (hBw : B ≤ w.heap.size) :
    Calls Tryd.prog 55 #[.pointer (some ⟨b, 0, none⟩), .int .i32 (r : Int)] w fun e w' => e = .returned (.tuple #[]) ∧ Wrote B b (bs ++ Lib.byteCells (T.encs (T.foldR r))) w w' := by
  have H := Aside0.mk h
  have HL := Aside0.mk hlen
  have HB := Aside0.mk hBw
  have HF : Aside0 (Lib.byteCells (T.encs (T.foldR r)) = Lib.runeCells (r : Int)) := ⟨fold_one (r := r) (x := r) (by unfold T.foldR; rw [if_neg (by omega), if_neg (by omega), if_neg (by omega), if_neg (by omega)])⟩
  have q0 : ((r : Int) == 223) = false := beq_eq_false_iff_ne.2 (by omega)
  have q1 : ((r : Int) == 7838) = false := beq_eq_false_iff_ne.2 (by omega)
  have q2 : ((r : Int) == 962) = false := beq_eq_false_iff_ne.2 (by omega)
  have q3 : decide ((65 : Int) ≤ (r : Int)) = true := decide_eq_true (by omega)
  have q4 : decide ((r : Int) ≤ 90) = false := decide_eq_false (by omega)
  have q5 : decide ((192 : Int) ≤ (r : Int)) = false := decide_eq_false (by omega)
  have q6 : decide ((913 : Int) ≤ (r : Int)) = false := decide_eq_false (by omega)
  have q7 : decide ((1040 : Int) ≤ (r : Int)) = false := decide_eq_false (by omega)
  have q8 : decide ((1024 : Int) ≤ (r : Int)) = false := decide_eq_false (by omega)
  have r0 : (0 : Int) ≤ (r : Int) := by omega
  have r1 : (r : Int) ≤ 1114111 := by omega
  clear h hlen hBw hc hr
  go_enter Tryd.func55, Tryd.ntmps55
  go_wp2_with (go_at_call 66; refine (Tryd.Builder_WriteRune_k B b bs (r : Int) (by omega) (by omega) _ H.out HL.out HB.out).mono ?_; rintro e w2 ⟨rfl, hA⟩; have HA := Aside0.mk hA; clear hA)
  go_end0
  exact ⟨rfl, by rw [HF.out]; exact HA.out⟩
set_option maxHeartbeats 2000000 in
theorem fold_way6 (B b : Nat) (bs : List Value) (r : Nat) (hr : r ≤ 1114111) (hc : 192 ≤ r ∧ r ≤ 222 ∧ r ≠ 215) (w : World) (h : Lib.IsBuilderF 74 5 B b bs w) (hlen : bs.length + 4 ≤ 140737488355328) (hBw : B ≤ w.heap.size) :
    Calls Tryd.prog 55 #[.pointer (some ⟨b, 0, none⟩), .int .i32 (r : Int)] w fun e w' => e = .returned (.tuple #[]) ∧ Wrote B b (bs ++ Lib.byteCells (T.encs (T.foldR r))) w w' := by
  have H := Aside0.mk h
  have HL := Aside0.mk hlen
  have HB := Aside0.mk hBw
  have HF : Aside0 (Lib.byteCells (T.encs (T.foldR r)) = Lib.runeCells ((r : Int) + 32)) := ⟨fold_one (r := r) (x := (r + 32)) (by unfold T.foldR; rw [if_neg (by omega), if_neg (by omega), if_pos (by omega)])⟩
  have q0 : ((r : Int) == 223) = false := beq_eq_false_iff_ne.2 (by omega)
  have q1 : ((r : Int) == 7838) = false := beq_eq_false_iff_ne.2 (by omega)
  have q2 : ((r : Int) == 962) = false := beq_eq_false_iff_ne.2 (by omega)
  have q3 : decide ((65 : Int) ≤ (r : Int)) = true := decide_eq_true (by omega)
  have q4 : decide ((r : Int) ≤ 90) = false := decide_eq_false (by omega)
  have q5 : decide ((192 : Int) ≤ (r : Int)) = true := decide_eq_true (by omega)
  have q6 : decide ((r : Int) ≤ 222) = true := decide_eq_true (by omega)
  have q7 : ((r : Int) != 215) = true := bne_iff_ne.2 (by omega)
  have r0 : (0 : Int) ≤ (r : Int) := by omega
  have r1 : (r : Int) ≤ 1114111 := by omega
  clear h hlen hBw hc hr
  go_enter Tryd.func55, Tryd.ntmps55
  go_wp2_with (go_at_call 66; refine (Tryd.Builder_WriteRune_k B b bs ((r : Int) + 32) (by omega) (by omega) _ H.out HL.out HB.out).mono ?_; rintro e w2 ⟨rfl, hA⟩; have HA := Aside0.mk hA; clear hA)
  go_end0
  exact ⟨rfl, by rw [HF.out]; exact HA.out⟩
set_option maxHeartbeats 2000000 in
theorem fold_way7 (B b : Nat) (bs : List Value) (r : Nat) (hr : r ≤ 1114111) (hc : r = 215) (w : World) (h : Lib.IsBuilderF 74 5 B b bs w) (hlen : bs.length + 4 ≤ 140737488355328) (hBw : B ≤ w.heap.size) :
    Calls Tryd.prog 55 #[.pointer (some ⟨b, 0, none⟩), .int .i32 (r : Int)] w fun e w' => e = .returned (.tuple #[]) ∧ Wrote B b (bs ++ Lib.byteCells (T.encs (T.foldR r))) w w' := by
  have H := Aside0.mk h
  have HL := Aside0.mk hlen
  have HB := Aside0.mk hBw
  have HF : Aside0 (Lib.byteCells (T.encs (T.foldR r)) = Lib.runeCells (r : Int)) := ⟨fold_one (r := r) (x := r) (by unfold T.foldR; rw [if_neg (by omega), if_neg (by omega), if_neg (by omega), if_neg (by omega)])⟩
  have q0 : ((r : Int) == 223) = false := beq_eq_false_iff_ne.2 (by omega)
  have q1 : ((r : Int) == 7838) = false := beq_eq_false_iff_ne.2 (by omega)
  have q2 : ((r : Int) == 962) = false := beq_eq_false_iff_ne.2 (by omega)
  have q3 : decide ((65 : Int) ≤ (r : Int)) = true := decide_eq_true (by omega)
  have q4 : decide ((r : Int) ≤ 90) = false := decide_eq_false (by omega)
  have q5 : decide ((192 : Int) ≤ (r : Int)) = true := decide_eq_true (by omega)
  have q6 : decide ((r : Int) ≤ 222) = true := decide_eq_true (by omega)
  have q7 : ((r : Int) != 215) = false := bne_eq_false_iff_eq.2 (by omega)
  have q8 : decide ((913 : Int) ≤ (r : Int)) = false := decide_eq_false (by omega)
  have q9 : decide ((1040 : Int) ≤ (r : Int)) = false := decide_eq_false (by omega)
  have q10 : decide ((1024 : Int) ≤ (r : Int)) = false := decide_eq_false (by omega)
  have r0 : (0 : Int) ≤ (r : Int) := by omega
  have r1 : (r : Int) ≤ 1114111 := by omega
  clear h hlen hBw hc hr
  go_enter Tryd.func55, Tryd.ntmps55
  go_wp2_with (go_at_call 66; refine (Tryd.Builder_WriteRune_k B b bs (r : Int) (by omega) (by omega) _ H.out HL.out HB.out).mono ?_; rintro e w2 ⟨rfl, hA⟩; have HA := Aside0.mk hA; clear hA)
  go_end0
  exact ⟨rfl, by rw [HF.out]; exact HA.out⟩
set_option maxHeartbeats 2000000 in
theorem fold_way8 (B b : Nat) (bs : List Value) (r : Nat) (hr : r ≤ 1114111) (hc : 223 < r ∧ r < 913) (w : World) (h : Lib.IsBuilderF 74 5 B b bs w) (hlen : bs.length + 4 ≤ 140737488355328) (hBw : B ≤ w.heap.size) :
    Calls Tryd.prog 55 #[.pointer (some ⟨b, 0, none⟩), .int .i32 (r : Int)] w fun e w' => e = .returned (.tuple #[]) ∧ Wrote B b (bs ++ Lib.byteCells (T.encs (T.foldR r))) w w' := by
  have H := Aside0.mk h
  have HL := Aside0.mk hlen
  have HB := Aside0.mk hBw
  have HF : Aside0 (Lib.byteCells (T.encs (T.foldR r)) = Lib.runeCells (r : Int)) := ⟨fold_one (r := r) (x := r) (by unfold T.foldR; rw [if_neg (by omega), if_neg (by omega), if_neg (by omega), if_neg (by omega)])⟩
  have q0 : ((r : Int) == 223) = false := beq_eq_false_iff_ne.2 (by omega)
  have q1 : ((r : Int) == 7838) = false := beq_eq_false_iff_ne.2 (by omega)
  have q2 : ((r : Int) == 962) = false := beq_eq_false_iff_ne.2 (by omega)
  have q3 : decide ((65 : Int) ≤ (r : Int)) = true := decide_eq_true (by omega)
  have q4 : decide ((r : Int) ≤ 90) = false := decide_eq_false (by omega)
  have q5 : decide ((192 : Int) ≤ (r : Int)) = true := decide_eq_true (by omega)
  have q6 : decide ((r : Int) ≤ 222) = false := decide_eq_false (by omega)
  have q7 : decide ((913 : Int) ≤ (r : Int)) = false := decide_eq_false (by omega)
  have q8 : decide ((1040 : Int) ≤ (r : Int)) = false := decide_eq_false (by omega)
  have q9 : decide ((1024 : Int) ≤ (r : Int)) = false := decide_eq_false (by omega)
  have r0 : (0 : Int) ≤ (r : Int) := by omega
  have r1 : (r : Int) ≤ 1114111 := by omega
  clear h hlen hBw hc hr
  go_enter Tryd.func55, Tryd.ntmps55
  go_wp2_with (go_at_call 66; refine (Tryd.Builder_WriteRune_k B b bs (r : Int) (by omega) (by omega) _ H.out HL.out HB.out).mono ?_; rintro e w2 ⟨rfl, hA⟩; have HA := Aside0.mk hA; clear hA)
  go_end0
  exact ⟨rfl, by rw [HF.out]; exact HA.out⟩
set_option maxHeartbeats 2000000 in
theorem fold_way9 (B b : Nat) (bs : List Value) (r : Nat) (hr : r ≤ 1114111) (hc : 913 ≤ r ∧ r ≤ 939 ∧ r ≠ 930) (w : World) (h : Lib.IsBuilderF 74 5 B b bs w) (hlen : bs.length + 4 ≤ 140737488355328) (hBw : B ≤ w.heap.size) :
    Calls Tryd.prog 55 #[.pointer (some ⟨b, 0, none⟩), .int .i32 (r : Int)] w fun e w' => e = .returned (.tuple #[]) ∧ Wrote B b (bs ++ Lib.byteCells (T.encs (T.foldR r))) w w' := by
  have H := Aside0.mk h
  have HL := Aside0.mk hlen
  have HB := Aside0.mk hBw
  have HF : Aside0 (Lib.byteCells (T.encs (T.foldR r)) = Lib.runeCells ((r : Int) + 32)) := ⟨fold_one (r := r) (x := (r + 32)) (by unfold T.foldR; rw [if_neg (by omega), if_neg (by omega), if_pos (by omega)])⟩
  have q0 : ((r : Int) == 223) = false := beq_eq_false_iff_ne.2 (by omega)
  have q1 : ((r : Int) == 7838) = false := beq_eq_false_iff_ne.2 (by omega)
  have q2 : ((r : Int) == 962) = false := beq_eq_false_iff_ne.2 (by omega)
  have q3 : decide ((65 : Int) ≤ (r : Int)) = true := decide_eq_true (by omega)
  have q4 : decide ((r : Int) ≤ 90) = false := decide_eq_false (by omega)
  have q5 : decide ((192 : Int) ≤ (r : Int)) = true := decide_eq_true (by omega)
  have q6 : decide ((r : Int) ≤ 222) = false := decide_eq_false (by omega)
  have q7 : decide ((913 : Int) ≤ (r : Int)) = true := decide_eq_true (by omega)
  have q8 : decide ((r : Int) ≤ 939) = true := decide_eq_true (by omega)
  have q9 : ((r : Int) != 930) = true := bne_iff_ne.2 (by omega)
  have r0 : (0 : Int) ≤ (r : Int) := by omega
  have r1 : (r : Int) ≤ 1114111 := by omega
  clear h hlen hBw hc hr
  go_enter Tryd.func55, Tryd.ntmps55
  go_wp2_with (go_at_call 66; refine (Tryd.Builder_WriteRune_k B b bs ((r : Int) + 32) (by omega) (by omega) _ H.out HL.out HB.out).mono ?_; rintro e w2 ⟨rfl, hA⟩; have HA := Aside0.mk hA; clear hA)
  go_end0
  exact ⟨rfl, by rw [HF.out]; exact HA.out⟩
set_option maxHeartbeats 2000000 in
theorem fold_way10 (B b : Nat) (bs : List Value) (r : Nat) (hr : r ≤ 1114111) (hc : r = 930) (w : World) (h : Lib.IsBuilderF 74 5 B b bs w) (hlen : bs.length + 4 ≤ 140737488355328) (hBw : B ≤ w.heap.size) :
    Calls Tryd.prog 55 #[.pointer (some ⟨b, 0, none⟩), .int .i32 (r : Int)] w fun e w' => e = .returned (.tuple #[]) ∧ Wrote B b (bs ++ Lib.byteCells (T.encs (T.foldR r))) w w' := by
  have H := Aside0.mk h
  have HL := Aside0.mk hlen
  have HB := Aside0.mk hBw
  have HF : Aside0 (Lib.byteCells (T.encs (T.foldR r)) = Lib.runeCells (r : Int)) := ⟨fold_one (r := r) (x := r) (by unfold T.foldR; rw [if_neg (by omega), if_neg (by omega), if_neg (by omega), if_neg (by omega)])⟩
  have q0 : ((r : Int) == 223) = false := beq_eq_false_iff_ne.2 (by omega)
  have q1 : ((r : Int) == 7838) = false := beq_eq_false_iff_ne.2 (by omega)
  have q2 : ((r : Int) == 962) = false := beq_eq_false_iff_ne.2 (by omega)
  have q3 : decide ((65 : Int) ≤ (r : Int)) = true := decide_eq_true (by omega)
  have q4 : decide ((r : Int) ≤ 90) = false := decide_eq_false (by omega)
  have q5 : decide ((192 : Int) ≤ (r : Int)) = true := decide_eq_true (by omega)
  have q6 : decide ((r : Int) ≤ 222) = false := decide_eq_false (by omega)
  have q7 : decide ((913 : Int) ≤ (r : Int)) = true := decide_eq_true (by omega)
  have q8 : decide ((r : Int) ≤ 939) = true := decide_eq_true (by omega)
  have q9 : ((r : Int) != 930) = false := bne_eq_false_iff_eq.2 (by omega)
  have q10 : decide ((1040 : Int) ≤ (r : Int)) = false := decide_eq_false (by omega)
  have q11 : decide ((1024 : Int) ≤ (r : Int)) = false := decide_eq_false (by omega)
  have r0 : (0 : Int) ≤ (r : Int) := by omega
  have r1 : (r : Int) ≤ 1114111 := by omega
  clear h hlen hBw hc hr
  go_enter Tryd.func55, Tryd.ntmps55
  go_wp2_with (go_at_call 66; refine (Tryd.Builder_WriteRune_k B b bs (r : Int) (by omega) (by omega) _ H.out HL.out HB.out).mono ?_; rintro e w2 ⟨rfl, hA⟩; have HA := Aside0.mk hA; clear hA)
  go_end0
  exact ⟨rfl, by rw [HF.out]; exact HA.out⟩
set_option maxHeartbeats 2000000 in
theorem fold_way11 (B b : Nat) (bs : List Value) (r : Nat) (hr : r ≤ 1114111) (hc : 939 < r ∧ r < 1024 ∧ r ≠ 962) (w : World) (h : Lib.IsBuilderF 74 5 B b bs w) (hlen : bs.length + 4 ≤ 140737488355328) (hBw : B ≤ w.heap.size) :
    Calls Tryd.prog 55 #[.pointer (some ⟨b, 0, none⟩), .int .i32 (r : Int)] w fun e w' => e = .returned (.tuple #[]) ∧ Wrote B b (bs ++ Lib.byteCells (T.encs (T.foldR r))) w w' := by
  have H := Aside0.mk h
  have HL := Aside0.mk hlen
  have HB := Aside0.mk hBw
  have HF : Aside0 (Lib.byteCells (T.encs (T.foldR r)) = Lib.runeCells (r : Int)) := ⟨fold_one (r := r) (x := r) (by unfold T.foldR; rw [if_neg (by omega), if_neg (by omega), if_neg (by omega), if_neg (by omega)])⟩
  have q0 : ((r : Int) == 223) = false := beq_eq_false_iff_ne.2 (by omega)
  have q1 : ((r : Int) == 7838) = false := beq_eq_false_iff_ne.2 (by omega)
  have q2 : ((r : Int) == 962) = false := beq_eq_false_iff_ne.2 (by omega)
  have q3 : decide ((65 : Int) ≤ (r : Int)) = true := decide_eq_true (by omega)
  have q4 : decide ((r : Int) ≤ 90) = false := decide_eq_false (by omega)
  have q5 : decide ((192 : Int) ≤ (r : Int)) = true := decide_eq_true (by omega)
  have q6 : decide ((r : Int) ≤ 222) = false := decide_eq_false (by omega)
  have q7 : decide ((913 : Int) ≤ (r : Int)) = true := decide_eq_true (by omega)
  have q8 : decide ((r : Int) ≤ 939) = false := decide_eq_false (by omega)
  have q9 : decide ((1040 : Int) ≤ (r : Int)) = false := decide_eq_false (by omega)
  have q10 : decide ((1024 : Int) ≤ (r : Int)) = false := decide_eq_false (by omega)
  have r0 : (0 : Int) ≤ (r : Int) := by omega
  have r1 : (r : Int) ≤ 1114111 := by omega
  clear h hlen hBw hc hr
  go_enter Tryd.func55, Tryd.ntmps55
  go_wp2_with (go_at_call 66; refine (Tryd.Builder_WriteRune_k B b bs (r : Int) (by omega) (by omega) _ H.out HL.out HB.out).mono ?_; rintro e w2 ⟨rfl, hA⟩; have HA := Aside0.mk hA; clear hA)
  go_end0
  exact ⟨rfl, by rw [HF.out]; exact HA.out⟩
set_option maxHeartbeats 2000000 in
theorem fold_way12 (B b : Nat) (bs : List Value) (r : Nat) (hr : r ≤ 1114111) (hc : 1024 ≤ r ∧ r ≤ 1039) (w : World) (h : Lib.IsBuilderF 74 5 B b bs w) (hlen : bs.length + 4 ≤ 140737488355328) (hBw : B ≤ w.heap.size) :
    Calls Tryd.prog 55 #[.pointer (some ⟨b, 0, none⟩), .int .i32 (r : Int)] w fun e w' => e = .returned (.tuple #[]) ∧ Wrote B b (bs ++ Lib.byteCells (T.encs (T.foldR r))) w w' := by
  have H := Aside0.mk h
  have HL := Aside0.mk hlen
  have HB := Aside0.mk hBw
  have HF : Aside0 (Lib.byteCells (T.encs (T.foldR r)) = Lib.runeCells ((r : Int) + 80)) := ⟨fold_one (r := r) (x := (r + 80)) (by unfold T.foldR; rw [if_neg (by omega), if_neg (by omega), if_neg (by omega), if_pos (by omega)])⟩
  have q0 : ((r : Int) == 223) = false := beq_eq_false_iff_ne.2 (by omega)
  have q1 : ((r : Int) == 7838) = false := beq_eq_false_iff_ne.2 (by omega)
  have q2 : ((r : Int) == 962) = false := beq_eq_false_iff_ne.2 (by omega)
  have q3 : decide ((65 : Int) ≤ (r : Int)) = true := decide_eq_true (by omega)
  have q4 : decide ((r : Int) ≤ 90) = false := decide_eq_false (by omega)
  have q5 : decide ((192 : Int) ≤ (r : Int)) = true := decide_eq_true (by omega)
  have q6 : decide ((r : Int) ≤ 222) = false := decide_eq_false (by omega)
  have q7 : decide ((913 : Int) ≤ (r : Int)) = true := decide_eq_true (by omega)
  have q8 : decide ((r : Int) ≤ 939) = false := decide_eq_false (by omega)
  have q9 : decide ((1040 : Int) ≤ (r : Int)) = false := decide_eq_false (by omega)
  have q10 : decide ((1024 : Int) ≤ (r : Int)) = true := decide_eq_true (by omega)
  have q11 : decide ((r : Int) ≤ 1039) = true := decide_eq_true (by omega)
  have r0 : (0 : Int) ≤ (r : Int) := by omega
  have r1 : (r : Int) ≤ 1114111 := by omega
  clear h hlen hBw hc hr
  go_enter Tryd.func55, Tryd.ntmps55
  go_wp2_with (go_at_call 66; refine (Tryd.Builder_WriteRune_k B b bs ((r : Int) + 80) (by omega) (by omega) _ H.out HL.out HB.out).mono ?_; rintro e w2 ⟨rfl, hA⟩; have HA := Aside0.mk hA; clear hA)
  go_end0
  exact ⟨rfl, by rw [HF.out]; exact HA.out⟩
set_option maxHeartbeats 2000000 in
theorem fold_way13 (B b : Nat) (bs : List Value) (r : Nat) (hr : r ≤ 1114111) (hc : 1040 ≤ r ∧ r ≤ 1071) (w : World) (h : Lib.IsBuilderF 74 5 B b bs w) (hlen : bs.length + 4 ≤ 140737488355328) (hBw : B ≤ w.heap.size) :
    Calls Tryd.prog 55 #[.pointer (some ⟨b, 0, none⟩), .int .i32 (r : Int)] w fun e w' => e = .returned (.tuple #[]) ∧ Wrote B b (bs ++ Lib.byteCells (T.encs (T.foldR r))) w w' := by
  have H := Aside0.mk h
  have HL := Aside0.mk hlen
  have HB := Aside0.mk hBw
  have HF : Aside0 (Lib.byteCells (T.encs (T.foldR r)) = Lib.runeCells ((r : Int) + 32)) := ⟨fold_one (r := r) (x := (r + 32)) (by unfold T.foldR; rw [if_neg (by omega), if_neg (by omega), if_pos (by omega)])⟩
  have q0 : ((r : Int) == 223) = false := beq_eq_false_iff_ne.2 (by omega)
  have q1 : ((r : Int) == 7838) = false := beq_eq_false_iff_ne.2 (by omega)
  have q2 : ((r : Int) == 962) = false := beq_eq_false_iff_ne.2 (by omega)
  have q3 : decide ((65 : Int) ≤ (r : Int)) = true := decide_eq_true (by omega)
  have q4 : decide ((r : Int) ≤ 90) = false := decide_eq_false (by omega)
  have q5 : decide ((192 : Int) ≤ (r : Int)) = true := decide_eq_true (by omega)
  have q6 : decide ((r : Int) ≤ 222) = false := decide_eq_false (by omega)
  have q7 : decide ((913 : Int) ≤ (r : Int)) = true := decide_eq_true (by omega)
  have q8 : decide ((r : Int) ≤ 939) = false := decide_eq_false (by omega)
  have q9 : decide ((1040 : Int) ≤ (r : Int)) = true := decide_eq_true (by omega)
  have q10 : decide ((r : Int) ≤ 1071) = true := decide_eq_true (by omega)
  have r0 : (0 : Int) ≤ (r : Int) := by omega
  have r1 : (r : Int) ≤ 1114111 := by omega
  clear h hlen hBw hc hr
  go_enter Tryd.func55, Tryd.ntmps55
  go_wp2_with (go_at_call 66; refine (Tryd.Builder_WriteRune_k B b bs ((r : Int) + 32) (by omega) (by omega) _ H.out HL.out HB.out).mono ?_; rintro e w2 ⟨rfl, hA⟩; have HA := Aside0.mk hA; clear hA)
  go_end0
  exact ⟨rfl, by rw [HF.out]; exact HA.out⟩
set_option maxHeartbeats 2000000 in
theorem fold_way14 (B b : Nat) (bs : List Value) (r : Nat) (hr : r ≤ 1114111) (hc : 1071 < r ∧ r ≠ 7838) (w : World) (h : Lib.IsBuilderF 74 5 B b bs w) (hlen : bs.length + 4 ≤ 140737488355328) (hBw : B ≤ w.heap.size) :
    Calls Tryd.prog 55 #[.pointer (some ⟨b, 0, none⟩), .int .i32 (r : Int)] w fun e w' => e = .returned (.tuple #[]) ∧ Wrote B b (bs ++ Lib.byteCells (T.encs (T.foldR r))) w w' := by
  have H := Aside0.mk h
  have HL := Aside0.mk hlen
  have HB := Aside0.mk hBw
  have HF : Aside0 (Lib.byteCells (T.encs (T.foldR r)) = Lib.runeCells (r : Int)) := ⟨fold_one (r := r) (x := r) (by unfold T.foldR; rw [if_neg (by omega), if_neg (by omega), if_neg (by omega), if_neg (by omega)])⟩
  have q0 : ((r : Int) == 223) = false := beq_eq_false_iff_ne.2 (by omega)
  have q1 : ((r : Int) == 7838) = false := beq_eq_false_iff_ne.2 (by omega)
  have q2 : ((r : Int) == 962) = false := beq_eq_false_iff_ne.2 (by omega)
  have q3 : decide ((65 : Int) ≤ (r : Int)) = true := decide_eq_true (by omega)
  have q4 : decide ((r : Int) ≤ 90) = false := decide_eq_false (by omega)
  have q5 : decide ((192 : Int) ≤ (r : Int)) = true := decide_eq_true (by omega)
  have q6 : decide ((r : Int) ≤ 222) = false := decide_eq_false (by omega)
  have q7 : decide ((913 : Int) ≤ (r : Int)) = true := decide_eq_true (by omega)
  have q8 : decide ((r : Int) ≤ 939) = false := decide_eq_false (by omega)
  have q9 : decide ((1040 : Int) ≤ (r : Int)) = true := decide_eq_true (by omega)
  have q10 : decide ((r : Int) ≤ 1071) = false := decide_eq_false (by omega)
  have q11 : decide ((1024 : Int) ≤ (r : Int)) = true := decide_eq_true (by omega)
  have q12 : decide ((r : Int) ≤ 1039) = false := decide_eq_false (by omega)
  have r0 : (0 : Int) ≤ (r : Int) := by omega
  have r1 : (r : Int) ≤ 1114111 := by omega
  clear h hlen hBw hc hr
  go_enter Tryd.func55, Tryd.ntmps55
  go_wp2_with (go_at_call 66; refine (Tryd.Builder_WriteRune_k B b bs (r : Int) (by omega) (by omega) _ H.out HL.out HB.out).mono ?_; rintro e w2 ⟨rfl, hA⟩; have HA := Aside0.mk hA; clear hA)
  go_end0
  exact ⟨rfl, by rw [HF.out]; exact HA.out⟩
theorem fold_calls (B b : Nat) (bs : List Value) (r : Nat) (hr : r ≤ 1114111) (w : World) (h : Lib.IsBuilderF 74 5 B b bs w) (hlen : bs.length + 4 ≤ 140737488355328) (hBw : B ≤ w.heap.size) :
    Calls Tryd.prog 55 #[.pointer (some ⟨b, 0, none⟩), .int .i32 (r : Int)] w fun e w' => e = .returned (.tuple #[]) ∧ Wrote B b (bs ++ Lib.byteCells (T.encs (T.foldR r))) w w' := by
  by_cases c0 : r = 223
  · exact fold_way0 B b bs r hr c0 w h hlen hBw
  by_cases c1 : r = 7838
  · exact fold_way1 B b bs r hr c1 w h hlen hBw
  by_cases c2 : r = 962
  · exact fold_way2 B b bs r hr c2 w h hlen hBw
  by_cases c3 : 65 ≤ r ∧ r ≤ 90
  · exact fold_way3 B b bs r hr c3 w h hlen hBw
  by_cases c4 : r < 65
  · exact fold_way4 B b bs r hr c4 w h hlen hBw
  by_cases c5 : 90 < r ∧ r < 192
  · exact fold_way5 B b bs r hr c5 w h hlen hBw
  by_cases c6 : 192 ≤ r ∧ r ≤ 222 ∧ r ≠ 215
  · exact fold_way6 B b bs r hr c6 w h hlen hBw
  by_cases c7 : r = 215
  · exact fold_way7 B b bs r hr c7 w h hlen hBw
  by_cases c8 : 223 < r ∧ r < 913
  · exact fold_way8 B b bs r hr c8 w h hlen hBw
  by_cases c9 : 913 ≤ r ∧ r ≤ 939 ∧ r ≠ 930
  · exact fold_way9 B b bs r hr c9 w h hlen hBw
  by_cases c10 : r = 930
  · exact fold_way10 B b bs r hr c10 w h hlen hBw
  by_cases c11 : 939 < r ∧ r < 1024 ∧ r ≠ 962
  · exact fold_way11 B b bs r hr c11 w h hlen hBw
  by_cases c12 : 1024 ≤ r ∧ r ≤ 1039
  · exact fold_way12 B b bs r hr c12 w h hlen hBw
  by_cases c13 : 1040 ≤ r ∧ r ≤ 1071
  · exact fold_way13 B b bs r hr c13 w h hlen hBw
  by_cases c14 : 1071 < r ∧ r ≠ 7838
  · exact fold_way14 B b bs r hr c14 w h hlen hBw
  omega
end Go.Proofs.YtbgbmphjjdiaeaaDoor.P
