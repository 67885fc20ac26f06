/- task.Mark over the list of bytes. -/
import Derived.Test.YtikfbipjlkhgeaaBoxed
namespace Go.Proofs.Ytikfbipjlkhgeaa.P
open Go.RowKit Go.Proofs.YtikfbipjlkhgeaaW.PrintWords Go.Proofs.YtikfbipjlkhgeaaW.PrintLast Go.Proofs.YtikfbipjlkhgeaaW.PrintMore
set_option linter.unusedVariables false
def markL : List UInt8 → Bool × Int
  | a :: b :: c :: d :: _ => if Lib.indexByte [32, 9, 10] d < 0 then (false, 0) else if [a, b, c] = [91, 32, 93] then (false, 3) else if [a, b, c] = [91, 120, 93] then (true, 3) else if [a, b, c] = [91, 88, 93] then (true, 3) else (false, 0)
  | _ => (false, 0)
theorem mark_list (l : List UInt8) : markP ⟨l.toArray⟩ = markL l := by
  have h := (mark_some ⟨l.toArray⟩).1
  have hs : (⟨l.toArray⟩ : ByteArray).size = l.length := by simp [ByteArray.size]
  unfold task_Mark.f at h
  rw [hs] at h
  match l with
  | [] => exact (Option.some.inj h).symm
  | [_] => exact (Option.some.inj h).symm
  | [_, _] => exact (Option.some.inj h).symm
  | [_, _, _] => exact (Option.some.inj h).symm
  | a :: b :: c :: d :: r =>
    have e3 : ((⟨(a :: b :: c :: d :: r).toArray⟩ : ByteArray).extract 0 3).toList = [a, b, c] := by
      rw [ByteArray.extract_mk, ByteArray.toList_mk]; rfl
    have e4 : bt ⟨(a :: b :: c :: d :: r).toArray⟩ 3 = (d.toNat : Int) := by
      unfold bt
      rw [dif_pos (by simp [ByteArray.size])]
      rfl
    have e5 : ((d.toNat : Int)).toNat.toUInt8 = d := by simp
    have hl : (a :: b :: c :: d :: r).length = r.length + 4 := by simp
    rw [if_neg (by rw [hl]; omega), if_pos (by rw [hl]; omega)] at h
    simp only [strings_IndexByte.f, Option.bind_some, e4, e5] at h
    rw [task_Mark.j0.eq_2, hs, e3] at h
    simp only [show ((3 : Int) ≤ ((a :: b :: c :: d :: r).length : Int)) from by rw [hl]; omega, if_true] at h
    rw [markL.eq_1]
    by_cases hd : Lib.indexByte [32, 9, 10] d < 0
    · rw [if_pos hd]
      skip
      rw [decide_eq_true hd] at h
      exact (Option.some.inj h).symm
    · rw [if_neg hd]
      skip
      rw [decide_eq_false hd] at h
      simp only [Bool.false_eq_true, if_false] at h
      repeat' split at h
      all_goals first | (have h := Option.some.inj h; rw [← h]; clear h e3 e4 e5 hs; split <;> first | rfl | contradiction | (split <;> first | rfl | contradiction | (split <;> first | rfl | contradiction))) | (exact absurd h (by simp))
theorem mark_data (s : ByteArray) : markP s = markL s.data.toList := by
  have := mark_list s.data.toList
  simpa using this
theorem markL_app (l m : List UInt8) (h : (markL l).2 ≠ 0) : markL (l ++ m) = markL l := by
  match l with
  | [] => exact absurd rfl h
  | [_] => exact absurd rfl h
  | [_, _] => exact absurd rfl h
  | [_, _, _] => exact absurd rfl h
  | a :: b :: c :: d :: r => rfl
theorem mark_app (s t : ByteArray) (h : (markP s).2 ≠ 0) : markP (s ++ t) = markP s := by
  rw [mark_data, mark_data] at *
  rw [show (s ++ t).data.toList = s.data.toList ++ t.data.toList by simp]
  exact markL_app _ _ h
theorem mark_x (s : ByteArray) : markP ((⟨#[120]⟩ : ByteArray) ++ s) = (false, 0) := by
  rw [mark_data, show ((⟨#[120]⟩ : ByteArray) ++ s).data.toList = 120 :: s.data.toList by simp]
  generalize s.data.toList = l
  match l with
  | [] => rfl
  | [_] => rfl
  | [_, _] => rfl
  | b :: c :: d :: r =>
    rw [markL.eq_1]
    split
    · rfl
    · simp
end Go.Proofs.Ytikfbipjlkhgeaa.P
