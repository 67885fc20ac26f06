/- law18's examples; ids. -/
import Derived.Test.YtbgbmphjjdiaeaaDoorPk24
namespace Go.Proofs.YtbgbmphjjdiaeaaDoor.P
open Go.RowKit Go.Proofs.YtbgbmphjjdiaeaaDoorW.PrintWords Go.Proofs.YtbgbmphjjdiaeaaDoorW.PrintLast Go.Proofs.YtbgbmphjjdiaeaaDoorW.PrintMore
set_option linter.unusedVariables false
def awL : List S24 := [(⟨13, (⟨#[97]⟩ : ByteArray), (⟨#[]⟩ : ByteArray), 0, 0, false, ([] : List (S24))⟩ : S24), (⟨7, (⟨#[]⟩ : ByteArray), (⟨#[]⟩ : ByteArray), 0, 0, false, (([(⟨24, (⟨#[98]⟩ : ByteArray), (⟨#[]⟩ : ByteArray), 0, 0, false, ([] : List (S24))⟩ : S24), (⟨24, (⟨#[97]⟩ : ByteArray), (⟨#[]⟩ : ByteArray), 0, 0, false, ([] : List (S24))⟩ : S24)] : List (S24)))⟩ : S24), (⟨13, (⟨#[66]⟩ : ByteArray), (⟨#[]⟩ : ByteArray), 0, 0, false, ([] : List (S24))⟩ : S24)]
def awT : List S24 := [⟨7, ⟨#[]⟩, ⟨#[]⟩, 0, 0, false, [⟨24, ⟨#[98]⟩, ⟨#[]⟩, 1, 1, false, []⟩, ⟨24, ⟨#[97]⟩, ⟨#[]⟩, 2, 1, false, []⟩]⟩]
def awN : List S24 := [⟨13, ⟨#[98]⟩, ⟨#[]⟩, 1, 1, false, []⟩, ⟨13, ⟨#[97]⟩, ⟨#[]⟩, 2, 1, false, []⟩]
theorem aw_num : foot_Number.f 3 awL = some (awT, awN) := by kernel_rfl
theorem number_le (l : List S24) (j k : Nat) (h : j ≤ k) : LeO (foot_Number.f j l) (foot_Number.f k l) := by
  induction k with
  | zero =>
    have e : j = 0 := Nat.le_zero.1 h
    rw [e]
    exact LeO.refl _
  | succ k ih =>
    by_cases e : j = k + 1
    · subst e; exact LeO.refl _
    · exact fun r hr => foot_Number.mono l k r (ih (by omega) r hr)
theorem aw_lab : foot_Labels.f awL = some [⟨#[97]⟩, ⟨#[98]⟩] := by kernel_rfl
theorem itoa_nat (n : Nat) : Lib.itoa (n : Int) = Lib.decDigits n := Lib.itoa_nonneg n
theorem aw_ids : foot_Ids.f 2 3 = some (⟨#[102, 110, 45, 50]⟩, ⟨#[102, 110, 114, 101, 102, 45, 50, 45, 51]⟩) := by
  unfold foot_Ids.f
  rw [if_pos (by omega)]
  unfold idN idR itoaB
  rw [show mx 2 1 = ((2 : Nat) : Int) from rfl, itoa_nat, show (3 : Int) = ((3 : Nat) : Int) from rfl, itoa_nat, Lib.decDigits_one (by omega), Lib.decDigits_one (by omega), if_pos (by omega)]
  rfl
theorem awake18 (k : Nat) (hk : 3 ≤ k) : incipitlaw18_awake.f k = some true := by
  unfold incipitlaw18_awake.f
  rw [Option.bind_some]
  show ((foot_Number.f k awL).bind _) = _
  rw [number_le awL 3 k hk _ aw_num, Option.bind_some, aw_ids, Option.bind_some]
  have hL := aw_lab
  unfold awL at hL
  rw [hL]
  simp only [ByteArray.toList_eq]
  rfl
end Go.Proofs.YtbgbmphjjdiaeaaDoor.P
