/- class.Space and class.Punct: for every rune the call returns whether one of the table's spans has it, and writes to no memory that was there. -/
import Derived.Test.YtbgbmphjjdiaeaaDoorPkU
namespace Go.Proofs.YtbgbmphjjdiaeaaDoor.P
open Go.RowKit Go.Proofs.YtbgbmphjjdiaeaaDoorW.PrintWords Go.Proofs.YtbgbmphjjdiaeaaDoorW.PrintLast Go.Proofs.YtbgbmphjjdiaeaaDoorW.PrintMore
set_option linter.unusedVariables false
set_option linter.unusedSimpArgs false
def inSpans (l : List (Int × Int)) (r : Int) : Bool := l.any fun p => decide (p.1 ≤ r) && decide (r ≤ p.2)
theorem inSpans_snoc (l : List (Int × Int)) (k : Nat) (r : Int) (h : k < l.length) : inSpans (l.take (k + 1)) r = (inSpans (l.take k) r || (decide ((l.getD k (0, 0)).1 ≤ r) && decide (r ≤ (l.getD k (0, 0)).2))) := by
  unfold inSpans
  rw [List.take_succ_eq_append_getElem h, List.any_append]
  simp [List.getD_eq_getElem?_getD, List.getElem?_eq_getElem h]
theorem inSpans_of_take (l : List (Int × Int)) (k : Nat) (r : Int) (h : inSpans (l.take k) r = true) : inSpans l r = true := by
  unfold inSpans at h ⊢
  rw [← List.take_append_drop k l, List.any_append, h]; rfl

def spaceSpans : List (Int × Int) := [(9, 10), (12, 13), (32, 32), (160, 160), (5760, 5760), (8192, 8202), (8239, 8239), (8287, 8287), (12288, 12288)]
def class_Space.f (a0 : Int) : Option Bool := some (inSpans spaceSpans a0)
theorem space_index (k : Nat) (hk : k < 9) : ∀ W : World, (Instr.index 69 (.agg (Value.int .i32 9 :: Value.int .i32 10 :: Value.int .i32 12 :: Value.int .i32 13 :: Value.int .i32 32 :: Value.int .i32 32 :: Value.int .i32 160 :: Value.int .i32 160 :: Value.int .i32 5760 :: Value.int .i32 5760 :: Value.int .i32 8192 :: Value.int .i32 8202 :: Value.int .i32 8239 :: Value.int .i32 8239 :: Value.int .i32 8287 :: Value.int .i32 8287 :: Value.int .i32 12288 :: Value.int .i32 12288 :: []).toArray) (.int .i64 (k : Int))).run Tryd.prog W = .ok (.agg #[.int .i32 (spaceSpans.getD k (0, 0)).1, .int .i32 (spaceSpans.getD k (0, 0)).2]) W :=
  match k, hk with
  | 0, _ => fun W => by kernel_rfl
  | 1, _ => fun W => by kernel_rfl
  | 2, _ => fun W => by kernel_rfl
  | 3, _ => fun W => by kernel_rfl
  | 4, _ => fun W => by kernel_rfl
  | 5, _ => fun W => by kernel_rfl
  | 6, _ => fun W => by kernel_rfl
  | 7, _ => fun W => by kernel_rfl
  | 8, _ => fun W => by kernel_rfl
  | n + 9, h => absurd h (by omega)
set_option maxHeartbeats 4000000 in
theorem class_Space.calls (a0 : Int) (r : Bool) (w : World) (h : class_Space.f a0 = some r) :
    Calls Tryd.prog 25 #[.int .i32 a0] w fun e w' => e = .returned (.bool r) ∧ Below w.heap.size w w' := by
  have hr : r = inSpans spaceSpans a0 := (Option.some.inj h).symm
  clear h
  go_enter Tryd.func25, Tryd.ntmps25
  go_wp2_with fail
  go_loopw [15] (fun v wr => ∃ k : Nat, k ≤ 9 ∧ v = .int .i64 k ∧ Aside0 (inSpans (spaceSpans.take k) a0 = false) ∧ Aside0 (Below w.heap.size w wr)) (fun v _ => 9 - (intOf v).toNat)
  case atStart => exact ⟨0, by omega, rfl, ⟨rfl⟩, ⟨Below.refl _ _⟩⟩
  case round =>
    obtain ⟨k, hk, rfl, hin, HB⟩ := hrel
    by_cases hlt : k < 9
    · have hix := space_index k hlt
      have hsn := Aside0.mk (inSpans_snoc spaceSpans k a0 hlt)
      obtain ⟨lo, hlo⟩ : ∃ lo, lo = (spaceSpans.getD k (0, 0)).1 := ⟨_, rfl⟩
      obtain ⟨hi, hhi⟩ : ∃ hi, hi = (spaceSpans.getD k (0, 0)).2 := ⟨_, rfl⟩
      rw [← hlo, ← hhi] at hix hsn
      clear hlo hhi
      have hf : class_span_has.f lo hi a0 = some (decide (lo ≤ a0) && decide (a0 ≤ hi)) := by
        unfold class_span_has.f; by_cases c : lo ≤ a0 <;> simp [c]
      have HR := Aside0.mk hr
      have HF := Aside0.mk hf
      clear hr hf
      obtain ⟨b, hb⟩ : ∃ b, b = (decide (lo ≤ a0) && decide (a0 ≤ hi)) := ⟨_, rfl⟩
      rw [← hb] at hsn HF
      clear hb
      go_wp2_with fail
      refine (class_span_has.calls lo hi a0 b _ HF.out).mono ?_
      rintro e w1 ⟨rfl, hb1⟩
      have HB1 := Aside0.mk (below_step (by first | exact below_alloc HB.out _ | exact HB.out) hb1)
      clear hb1 HB
      cases b with
      | true =>
        go_wp2
        go_ret
        exact ⟨by rw [HR.out, inSpans_of_take _ (k + 1) _ (by rw [hsn.out]; simp)]; rfl, HB1.out⟩
      | false =>
        go_wp2
        go_roundw
        case rel => exact ⟨k + 1, by omega, by go_num, ⟨by rw [hsn.out, hin.out]; rfl⟩, HB1⟩
        case measure => simp [intOf]; omega
    · obtain rfl : k = 9 := by omega
      have HR := Aside0.mk hr
      clear hr
      go_wp2
      go_ret
      exact ⟨by rw [HR.out, ← hin.out]; rfl, HB.out⟩

def punctSpans : List (Int × Int) := [(33, 47), (58, 64), (91, 96), (123, 126), (161, 169), (171, 172), (174, 177), (180, 180), (182, 184), (187, 187), (191, 191), (215, 215), (247, 247), (8208, 8231), (8240, 8286), (8352, 8384), (12289, 12291), (12296, 12319), (65281, 65295)]
def class_Punct.f (a0 : Int) : Option Bool := some (inSpans punctSpans a0)
theorem punct_index (k : Nat) (hk : k < 19) : ∀ W : World, (Instr.index 71 (.agg (Value.int .i32 33 :: Value.int .i32 47 :: Value.int .i32 58 :: Value.int .i32 64 :: Value.int .i32 91 :: Value.int .i32 96 :: Value.int .i32 123 :: Value.int .i32 126 :: Value.int .i32 161 :: Value.int .i32 169 :: Value.int .i32 171 :: Value.int .i32 172 :: Value.int .i32 174 :: Value.int .i32 177 :: Value.int .i32 180 :: Value.int .i32 180 :: Value.int .i32 182 :: Value.int .i32 184 :: Value.int .i32 187 :: Value.int .i32 187 :: Value.int .i32 191 :: Value.int .i32 191 :: Value.int .i32 215 :: Value.int .i32 215 :: Value.int .i32 247 :: Value.int .i32 247 :: Value.int .i32 8208 :: Value.int .i32 8231 :: Value.int .i32 8240 :: Value.int .i32 8286 :: Value.int .i32 8352 :: Value.int .i32 8384 :: Value.int .i32 12289 :: Value.int .i32 12291 :: Value.int .i32 12296 :: Value.int .i32 12319 :: Value.int .i32 65281 :: Value.int .i32 65295 :: []).toArray) (.int .i64 (k : Int))).run Tryd.prog W = .ok (.agg #[.int .i32 (punctSpans.getD k (0, 0)).1, .int .i32 (punctSpans.getD k (0, 0)).2]) W :=
  match k, hk with
  | 0, _ => fun W => by kernel_rfl
  | 1, _ => fun W => by kernel_rfl
  | 2, _ => fun W => by kernel_rfl
  | 3, _ => fun W => by kernel_rfl
  | 4, _ => fun W => by kernel_rfl
  | 5, _ => fun W => by kernel_rfl
  | 6, _ => fun W => by kernel_rfl
  | 7, _ => fun W => by kernel_rfl
  | 8, _ => fun W => by kernel_rfl
  | 9, _ => fun W => by kernel_rfl
  | 10, _ => fun W => by kernel_rfl
  | 11, _ => fun W => by kernel_rfl
  | 12, _ => fun W => by kernel_rfl
  | 13, _ => fun W => by kernel_rfl
  | 14, _ => fun W => by kernel_rfl
  | 15, _ => fun W => by kernel_rfl
  | 16, _ => fun W => by kernel_rfl
  | 17, _ => fun W => by kernel_rfl
  | 18, _ => fun W => by kernel_rfl
  | n + 19, h => absurd h (by omega)
set_option maxHeartbeats 4000000 in
theorem class_Punct.calls (a0 : Int) (r : Bool) (w : World) (h : class_Punct.f a0 = some r) :
    Calls Tryd.prog 27 #[.int .i32 a0] w fun e w' => e = .returned (.bool r) ∧ Below w.heap.size w w' := by
  have hr : r = inSpans punctSpans a0 := (Option.some.inj h).symm
  clear h
  go_enter Tryd.func27, Tryd.ntmps27
  go_wp2_with fail
  go_loopw [25] (fun v wr => ∃ k : Nat, k ≤ 19 ∧ v = .int .i64 k ∧ Aside0 (inSpans (punctSpans.take k) a0 = false) ∧ Aside0 (Below w.heap.size w wr)) (fun v _ => 19 - (intOf v).toNat)
  case atStart => exact ⟨0, by omega, rfl, ⟨rfl⟩, ⟨Below.refl _ _⟩⟩
  case round =>
    obtain ⟨k, hk, rfl, hin, HB⟩ := hrel
    by_cases hlt : k < 19
    · have hix := punct_index k hlt
      have hsn := Aside0.mk (inSpans_snoc punctSpans k a0 hlt)
      obtain ⟨lo, hlo⟩ : ∃ lo, lo = (punctSpans.getD k (0, 0)).1 := ⟨_, rfl⟩
      obtain ⟨hi, hhi⟩ : ∃ hi, hi = (punctSpans.getD k (0, 0)).2 := ⟨_, rfl⟩
      rw [← hlo, ← hhi] at hix hsn
      clear hlo hhi
      have hf : class_span_has.f lo hi a0 = some (decide (lo ≤ a0) && decide (a0 ≤ hi)) := by
        unfold class_span_has.f; by_cases c : lo ≤ a0 <;> simp [c]
      have HR := Aside0.mk hr
      have HF := Aside0.mk hf
      clear hr hf
      obtain ⟨b, hb⟩ : ∃ b, b = (decide (lo ≤ a0) && decide (a0 ≤ hi)) := ⟨_, rfl⟩
      rw [← hb] at hsn HF
      clear hb
      go_wp2_with fail
      refine (class_span_has.calls lo hi a0 b _ HF.out).mono ?_
      rintro e w1 ⟨rfl, hb1⟩
      have HB1 := Aside0.mk (below_step (by first | exact below_alloc HB.out _ | exact HB.out) hb1)
      clear hb1 HB
      cases b with
      | true =>
        go_wp2
        go_ret
        exact ⟨by rw [HR.out, inSpans_of_take _ (k + 1) _ (by rw [hsn.out]; simp)]; rfl, HB1.out⟩
      | false =>
        go_wp2
        go_roundw
        case rel => exact ⟨k + 1, by omega, by go_num, ⟨by rw [hsn.out, hin.out]; rfl⟩, HB1⟩
        case measure => simp [intOf]; omega
    · obtain rfl : k = 19 := by omega
      have HR := Aside0.mk hr
      clear hr
      go_wp2
      go_ret
      exact ⟨by rw [HR.out, ← hin.out]; rfl, HB.out⟩

end Go.Proofs.YtbgbmphjjdiaeaaDoor.P
