/- class.Label in the printer's form. -/
import Derived.Test.YtbgbmphjjdiaeaaDoorLabel
namespace Go.Proofs.YtbgbmphjjdiaeaaDoor.P
open Go.RowKit Go.Proofs.YtbgbmphjjdiaeaaDoorW.PrintWords Go.Proofs.YtbgbmphjjdiaeaaDoorW.PrintLast Go.Proofs.YtbgbmphjjdiaeaaDoorW.PrintMore
set_option linter.unusedVariables false
def class_Label.f (a0 : ByteArray) : Option ByteArray := if a0.size ≤ 1073741824 then some ⟨(T.labelS a0.data.toList).toArray⟩ else none
theorem class_Label.calls (a0 : ByteArray) (r : ByteArray) (w : World) (h : class_Label.f a0 = some r) (hT : Tabs w) :
    Calls Tryd.prog 33 #[.string a0] w fun e w' => e = .returned (.string r) ∧ Below w.heap.size w w' := by
  unfold class_Label.f at h
  by_cases hs : a0.size ≤ 1073741824
  · rw [if_pos hs] at h
    have h := Option.some.inj h
    subst h
    exact label_calls a0 w hs hT
  · rw [if_neg hs] at h
    cases h
theorem labelS_len (l : List UInt8) : (T.labelS l).length ≤ 24 * l.length + 8 := by
  have h1 := encs_foldL_len (T.squeeze (T.runes l))
  have h2 := T.runes_len l
  have h3 := squeeze_len (T.runes l)
  unfold T.labelS
  omega
theorem label_f (a : ByteArray) (h : a.size ≤ 1073741824) : class_Label.f a = some ⟨(T.labelS a.data.toList).toArray⟩ := by unfold class_Label.f; rw [if_pos h]
end Go.Proofs.YtbgbmphjjdiaeaaDoor.P
