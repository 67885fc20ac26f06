/-
  NARROWER THAN 'FOR EVERY INPUT', by the rows' own cells (each row's printed sentence says how): TreeIs: loops · TreeBack: loops · TreeWraps: loops · TaskOnce: loops · TreePlays: loops · TreeNone: loops.
  DERIVED. THE GIVEN ROWS OF THIS SEAT. 10 by the template 'for every input the law returns true; each argument reads behind the call as it read before'; 0 by the template 'total and deterministic' (their statements: YtikfbipjlkhgeaaTotals.lean).
  GIVEN WITH THE SEED: the statements are not yours to turn. If you find one false, say at which input.
  Laid BY PROGRAM, IN A SANDBOX (cutbox-rows.mjs): the forced cells as the released guide's own fill.sh prints them over the translation 5efb2768b747a95d… (all of the seat's roots in one cut). By AI agents, Wed Nov 11 2026. No macro, syntax, notation, axiom, sorry.
-/
import Derived.Test.YtikfbipjlkhgeaaChecked
import GoSem.Claim
import GoSem.ClaimJoined
import GoSem.ClaimMapViews
import Derived.JoinedTies
import Derived.KernelRfl
namespace Go.Proofs.Ytikfbipjlkhgeaa
/- THE CELL 'sum', in the pinned program and in every row, IS THE sha256 OF THE DUMP (.gsa) THAT YtikfbipjlkhgeaaProg.lean LOADS. Nothing in Lean hashes anything: it is a label: what it is worth is what the hold of that sum in a sandbox is worth. -/
noncomputable def Try.pinned : Pinned := { name := "ytikfbipjlkhgeaa", sum := "5efb2768b747a95d339195dcfa6b74b7874e3e1d06b44d7c495f5a68797091cb", checked := Try.checked }
namespace Rows
def none {H : Type} : Left H := { results := [], args := [] }

/-- 'incipitlaw06.TreeIs': WHATEVER THE INPUT: true; the input reads as it did. -/
def treeIsSpec : ChangeSpec := { name := "treeIs", fn := fun _ => fun
  | [d1, d2] => { results := [.lit (.bool true)], args := [d1, d2] }
  | _ => none }
def treeIsRow : OpenClaim := { program := "ytikfbipjlkhgeaa", sum := "5efb2768b747a95d339195dcfa6b74b7874e3e1d06b44d7c495f5a68797091cb", func := "incipit/incipitlaw06.TreeIs", spec := "treeIs", unfollowed := true, recurses := true, loops := true, apart := false }
def TreeIsSaid : Prop := treeIsRow.holds Try.pinned (OpenSpec.ofChange treeIsSpec)

/-- ITS FALSE NEIGHBOUR: 'it returns false'. Refute it at one input. -/
def treeIsWrong : ChangeSpec := { name := "treeIs", fn := fun _ => fun
  | [d1, d2] => { results := [.lit (.bool false)], args := [d1, d2] }
  | _ => none }
def TreeIsWrongFalsely : Prop := treeIsRow.holds Try.pinned (OpenSpec.ofChange treeIsWrong)

/-- 'incipitlaw06.TreeBack': WHATEVER THE INPUT: true; the input reads as it did. -/
def treeBackSpec : ChangeSpec := { name := "treeBack", fn := fun _ => fun
  | [d] => { results := [.lit (.bool true)], args := [d] }
  | _ => none }
def treeBackRow : OpenClaim := { program := "ytikfbipjlkhgeaa", sum := "5efb2768b747a95d339195dcfa6b74b7874e3e1d06b44d7c495f5a68797091cb", func := "incipit/incipitlaw06.TreeBack", spec := "treeBack", unfollowed := true, recurses := true, loops := true, apart := false }
def TreeBackSaid : Prop := treeBackRow.holds Try.pinned (OpenSpec.ofChange treeBackSpec)

/-- ITS FALSE NEIGHBOUR: 'it returns false'. Refute it at one input. -/
def treeBackWrong : ChangeSpec := { name := "treeBack", fn := fun _ => fun
  | [d] => { results := [.lit (.bool false)], args := [d] }
  | _ => none }
def TreeBackWrongFalsely : Prop := treeBackRow.holds Try.pinned (OpenSpec.ofChange treeBackWrong)

/-- 'incipitlaw06.TreeWraps': WHATEVER THE INPUT: true; the input reads as it did. -/
def treeWrapsSpec : ChangeSpec := { name := "treeWraps", fn := fun _ => fun
  | [d] => { results := [.lit (.bool true)], args := [d] }
  | _ => none }
def treeWrapsRow : OpenClaim := { program := "ytikfbipjlkhgeaa", sum := "5efb2768b747a95d339195dcfa6b74b7874e3e1d06b44d7c495f5a68797091cb", func := "incipit/incipitlaw06.TreeWraps", spec := "treeWraps", unfollowed := true, recurses := true, loops := true, apart := false }
def TreeWrapsSaid : Prop := treeWrapsRow.holds Try.pinned (OpenSpec.ofChange treeWrapsSpec)

/-- ITS FALSE NEIGHBOUR: 'it returns false'. Refute it at one input. -/
def treeWrapsWrong : ChangeSpec := { name := "treeWraps", fn := fun _ => fun
  | [d] => { results := [.lit (.bool false)], args := [d] }
  | _ => none }
def TreeWrapsWrongFalsely : Prop := treeWrapsRow.holds Try.pinned (OpenSpec.ofChange treeWrapsWrong)

/-- 'incipitlaw06.TreeAbove': WHATEVER THE INPUT: true; the input reads as it did. -/
def treeAboveSpec : ChangeSpec := { name := "treeAbove", fn := fun _ => fun
  | [d1, d2] => { results := [.lit (.bool true)], args := [d1, d2] }
  | _ => none }
def treeAboveRow : OpenClaim := { program := "ytikfbipjlkhgeaa", sum := "5efb2768b747a95d339195dcfa6b74b7874e3e1d06b44d7c495f5a68797091cb", func := "incipit/incipitlaw06.TreeAbove", spec := "treeAbove", unfollowed := true, recurses := true, apart := false }
def TreeAboveSaid : Prop := treeAboveRow.holds Try.pinned (OpenSpec.ofChange treeAboveSpec)

/-- ITS FALSE NEIGHBOUR: 'it returns false'. Refute it at one input. -/
def treeAboveWrong : ChangeSpec := { name := "treeAbove", fn := fun _ => fun
  | [d1, d2] => { results := [.lit (.bool false)], args := [d1, d2] }
  | _ => none }
def TreeAboveWrongFalsely : Prop := treeAboveRow.holds Try.pinned (OpenSpec.ofChange treeAboveWrong)

/-- 'incipitlaw16.TaskOnce': WHATEVER THE INPUT: true; the input reads as it did. -/
def taskOnceSpec : ChangeSpec := { name := "taskOnce", fn := fun _ => fun
  | [d] => { results := [.lit (.bool true)], args := [d] }
  | _ => none }
def taskOnceRow : OpenClaim := { program := "ytikfbipjlkhgeaa", sum := "5efb2768b747a95d339195dcfa6b74b7874e3e1d06b44d7c495f5a68797091cb", func := "incipit/incipitlaw16.TaskOnce", spec := "taskOnce", inPlace := ["internal/bytealg.IndexByteString", "slices.overlaps[incipit/api.Node]"], unfollowed := true, recurses := true, loops := true, apart := false }
def TaskOnceSaid : Prop := taskOnceRow.holds Try.pinned (OpenSpec.ofChange taskOnceSpec)

/-- ITS FALSE NEIGHBOUR: 'it returns false'. Refute it at one input. -/
def taskOnceWrong : ChangeSpec := { name := "taskOnce", fn := fun _ => fun
  | [d] => { results := [.lit (.bool false)], args := [d] }
  | _ => none }
def TaskOnceWrongFalsely : Prop := taskOnceRow.holds Try.pinned (OpenSpec.ofChange taskOnceWrong)

/-- 'incipitlaw16.TaskItems': WHATEVER THE INPUT: true; the input reads as it did. -/
def taskItemsSpec : ChangeSpec := { name := "taskItems", fn := fun _ => fun
  | [d1, d2] => { results := [.lit (.bool true)], args := [d1, d2] }
  | _ => none }
def taskItemsRow : OpenClaim := { program := "ytikfbipjlkhgeaa", sum := "5efb2768b747a95d339195dcfa6b74b7874e3e1d06b44d7c495f5a68797091cb", func := "incipit/incipitlaw16.TaskItems", spec := "taskItems", inPlace := ["internal/bytealg.IndexByteString", "slices.overlaps[incipit/api.Node]"], unfollowed := true, recurses := true, apart := false }
def TaskItemsSaid : Prop := taskItemsRow.holds Try.pinned (OpenSpec.ofChange taskItemsSpec)

/-- ITS FALSE NEIGHBOUR: 'it returns false'. Refute it at one input. -/
def taskItemsWrong : ChangeSpec := { name := "taskItems", fn := fun _ => fun
  | [d1, d2] => { results := [.lit (.bool false)], args := [d1, d2] }
  | _ => none }
def TaskItemsWrongFalsely : Prop := taskItemsRow.holds Try.pinned (OpenSpec.ofChange taskItemsWrong)

/-- 'incipitlaw16.TaskNone': WHATEVER THE INPUT: true; the input reads as it did. -/
def taskNoneSpec : ChangeSpec := { name := "taskNone", fn := fun _ => fun
  | [d1, d2] => { results := [.lit (.bool true)], args := [d1, d2] }
  | _ => none }
def taskNoneRow : OpenClaim := { program := "ytikfbipjlkhgeaa", sum := "5efb2768b747a95d339195dcfa6b74b7874e3e1d06b44d7c495f5a68797091cb", func := "incipit/incipitlaw16.TaskNone", spec := "taskNone", inPlace := ["internal/bytealg.IndexByteString", "slices.overlaps[incipit/api.Node]"], unfollowed := true, recurses := true, apart := false }
def TaskNoneSaid : Prop := taskNoneRow.holds Try.pinned (OpenSpec.ofChange taskNoneSpec)

/-- ITS FALSE NEIGHBOUR: 'it returns false'. Refute it at one input. -/
def taskNoneWrong : ChangeSpec := { name := "taskNone", fn := fun _ => fun
  | [d1, d2] => { results := [.lit (.bool false)], args := [d1, d2] }
  | _ => none }
def TaskNoneWrongFalsely : Prop := taskNoneRow.holds Try.pinned (OpenSpec.ofChange taskNoneWrong)

/-- 'incipitlaw06.TreeKin': WHATEVER THE INPUT: true; the input reads as it did. -/
def treeKinSpec : ChangeSpec := { name := "treeKin", fn := fun _ => fun
  | [d1, d2] => { results := [.lit (.bool true)], args := [d1, d2] }
  | _ => none }
def treeKinRow : OpenClaim := { program := "ytikfbipjlkhgeaa", sum := "5efb2768b747a95d339195dcfa6b74b7874e3e1d06b44d7c495f5a68797091cb", func := "incipit/incipitlaw06.TreeKin", spec := "treeKin", unfollowed := true, recurses := true, apart := false }
def TreeKinSaid : Prop := treeKinRow.holds Try.pinned (OpenSpec.ofChange treeKinSpec)

/-- ITS FALSE NEIGHBOUR: 'it returns false'. Refute it at one input. -/
def treeKinWrong : ChangeSpec := { name := "treeKin", fn := fun _ => fun
  | [d1, d2] => { results := [.lit (.bool false)], args := [d1, d2] }
  | _ => none }
def TreeKinWrongFalsely : Prop := treeKinRow.holds Try.pinned (OpenSpec.ofChange treeKinWrong)

/-- 'incipitlaw06.TreePlays': WHATEVER THE INPUT: true; the input reads as it did. -/
def treePlaysSpec : ChangeSpec := { name := "treePlays", fn := fun _ => fun
  | [d1, d2] => { results := [.lit (.bool true)], args := [d1, d2] }
  | _ => none }
def treePlaysRow : OpenClaim := { program := "ytikfbipjlkhgeaa", sum := "5efb2768b747a95d339195dcfa6b74b7874e3e1d06b44d7c495f5a68797091cb", func := "incipit/incipitlaw06.TreePlays", spec := "treePlays", unfollowed := true, recurses := true, loops := true, apart := false }
def TreePlaysSaid : Prop := treePlaysRow.holds Try.pinned (OpenSpec.ofChange treePlaysSpec)

/-- ITS FALSE NEIGHBOUR: 'it returns false'. Refute it at one input. -/
def treePlaysWrong : ChangeSpec := { name := "treePlays", fn := fun _ => fun
  | [d1, d2] => { results := [.lit (.bool false)], args := [d1, d2] }
  | _ => none }
def TreePlaysWrongFalsely : Prop := treePlaysRow.holds Try.pinned (OpenSpec.ofChange treePlaysWrong)

/-- 'incipitlaw06.TreeNone': WHATEVER THE INPUT: true; the input reads as it did. -/
def treeNoneSpec : ChangeSpec := { name := "treeNone", fn := fun _ => fun
  | [d1, d2] => { results := [.lit (.bool true)], args := [d1, d2] }
  | _ => none }
def treeNoneRow : OpenClaim := { program := "ytikfbipjlkhgeaa", sum := "5efb2768b747a95d339195dcfa6b74b7874e3e1d06b44d7c495f5a68797091cb", func := "incipit/incipitlaw06.TreeNone", spec := "treeNone", unfollowed := true, recurses := true, loops := true, apart := false }
def TreeNoneSaid : Prop := treeNoneRow.holds Try.pinned (OpenSpec.ofChange treeNoneSpec)

/-- ITS FALSE NEIGHBOUR: 'it returns false'. Refute it at one input. -/
def treeNoneWrong : ChangeSpec := { name := "treeNone", fn := fun _ => fun
  | [d1, d2] => { results := [.lit (.bool false)], args := [d1, d2] }
  | _ => none }
def TreeNoneWrongFalsely : Prop := treeNoneRow.holds Try.pinned (OpenSpec.ofChange treeNoneWrong)

/- THE SECOND FORM. 'bulk': how many values and letters a reading holds, each counted each time it is reached (what is shared counts as often as it is met; a slice's spare places count too). A statement '..UptoSaid' is the law's where the arguments, and the package variables that the reading takes, are together of bulk at most 1048576: NARROWER than '..Said'. Prove '..Said' where nothing that the law and all that it calls make is longer than what came in: it says more and counts as full. Else prove '..UptoSaid'. A law counts once. -/
mutual
def uptoBulk {H : Type} : DataW H → Nat
  | .lit (.string bytes) => bytes.length + 1
  | .lit _ => 1
  | .nil => 1
  | .ptr d => uptoBulk d + 1
  | .slice elems spare => uptoBulkAll elems + uptoBulkAll spare + 1
  | .agg parts => uptoBulkAll parts + 1
  | .iface _ d => uptoBulk d + 1
  | .map entries => uptoBulkEntries entries + 1
  | .held _ => 1
def uptoBulkAll {H : Type} : List (DataW H) → Nat
  | [] => 0
  | d :: r => uptoBulk d + uptoBulkAll r
def uptoBulkEntries {H : Type} : List (Lit × DataW H) → Nat
  | [] => 0
  | x :: r => uptoBulkEntry x + uptoBulkEntries r
def uptoBulkEntry {H : Type} : Lit × DataW H → Nat
  | (.string bytes, d) => bytes.length + uptoBulk d + 1
  | (_, d) => uptoBulk d + 1
 end
def uptoSmall : (H : Type) → List (DataW H) → Bool := fun _ ds => decide (uptoBulkAll ds ≤ 1048576)
def OpenSpec.upto (s : _root_.Go.ChangeSpec) : _root_.Go.OpenSpec := { _root_.Go.OpenSpec.ofChange s with cond := some uptoSmall }

/-- 'incipitlaw06.TreeIs', WHERE WHAT IT READS IS OF BULK AT MOST 1048576: true; the input reads as it did. -/
def treeIsUptoRow : OpenClaim := { program := "ytikfbipjlkhgeaa", sum := "5efb2768b747a95d339195dcfa6b74b7874e3e1d06b44d7c495f5a68797091cb", func := "incipit/incipitlaw06.TreeIs", spec := "treeIs", unfollowed := true, recurses := true, loops := true, apart := false, narrowed := true }
def TreeIsUptoSaid : Prop := treeIsUptoRow.holds Try.pinned (OpenSpec.upto treeIsSpec)

/-- 'incipitlaw06.TreeBack', WHERE WHAT IT READS IS OF BULK AT MOST 1048576: true; the input reads as it did. -/
def treeBackUptoRow : OpenClaim := { program := "ytikfbipjlkhgeaa", sum := "5efb2768b747a95d339195dcfa6b74b7874e3e1d06b44d7c495f5a68797091cb", func := "incipit/incipitlaw06.TreeBack", spec := "treeBack", unfollowed := true, recurses := true, loops := true, apart := false, narrowed := true }
def TreeBackUptoSaid : Prop := treeBackUptoRow.holds Try.pinned (OpenSpec.upto treeBackSpec)

/-- 'incipitlaw06.TreeWraps', WHERE WHAT IT READS IS OF BULK AT MOST 1048576: true; the input reads as it did. -/
def treeWrapsUptoRow : OpenClaim := { program := "ytikfbipjlkhgeaa", sum := "5efb2768b747a95d339195dcfa6b74b7874e3e1d06b44d7c495f5a68797091cb", func := "incipit/incipitlaw06.TreeWraps", spec := "treeWraps", unfollowed := true, recurses := true, loops := true, apart := false, narrowed := true }
def TreeWrapsUptoSaid : Prop := treeWrapsUptoRow.holds Try.pinned (OpenSpec.upto treeWrapsSpec)

/-- 'incipitlaw06.TreeAbove', WHERE WHAT IT READS IS OF BULK AT MOST 1048576: true; the input reads as it did. -/
def treeAboveUptoRow : OpenClaim := { program := "ytikfbipjlkhgeaa", sum := "5efb2768b747a95d339195dcfa6b74b7874e3e1d06b44d7c495f5a68797091cb", func := "incipit/incipitlaw06.TreeAbove", spec := "treeAbove", unfollowed := true, recurses := true, apart := false, narrowed := true }
def TreeAboveUptoSaid : Prop := treeAboveUptoRow.holds Try.pinned (OpenSpec.upto treeAboveSpec)

/-- 'incipitlaw16.TaskOnce', WHERE WHAT IT READS IS OF BULK AT MOST 1048576: true; the input reads as it did. -/
def taskOnceUptoRow : OpenClaim := { program := "ytikfbipjlkhgeaa", sum := "5efb2768b747a95d339195dcfa6b74b7874e3e1d06b44d7c495f5a68797091cb", func := "incipit/incipitlaw16.TaskOnce", spec := "taskOnce", inPlace := ["internal/bytealg.IndexByteString", "slices.overlaps[incipit/api.Node]"], unfollowed := true, recurses := true, loops := true, apart := false, narrowed := true }
def TaskOnceUptoSaid : Prop := taskOnceUptoRow.holds Try.pinned (OpenSpec.upto taskOnceSpec)

/-- 'incipitlaw16.TaskItems', WHERE WHAT IT READS IS OF BULK AT MOST 1048576: true; the input reads as it did. -/
def taskItemsUptoRow : OpenClaim := { program := "ytikfbipjlkhgeaa", sum := "5efb2768b747a95d339195dcfa6b74b7874e3e1d06b44d7c495f5a68797091cb", func := "incipit/incipitlaw16.TaskItems", spec := "taskItems", inPlace := ["internal/bytealg.IndexByteString", "slices.overlaps[incipit/api.Node]"], unfollowed := true, recurses := true, apart := false, narrowed := true }
def TaskItemsUptoSaid : Prop := taskItemsUptoRow.holds Try.pinned (OpenSpec.upto taskItemsSpec)

/-- 'incipitlaw16.TaskNone', WHERE WHAT IT READS IS OF BULK AT MOST 1048576: true; the input reads as it did. -/
def taskNoneUptoRow : OpenClaim := { program := "ytikfbipjlkhgeaa", sum := "5efb2768b747a95d339195dcfa6b74b7874e3e1d06b44d7c495f5a68797091cb", func := "incipit/incipitlaw16.TaskNone", spec := "taskNone", inPlace := ["internal/bytealg.IndexByteString", "slices.overlaps[incipit/api.Node]"], unfollowed := true, recurses := true, apart := false, narrowed := true }
def TaskNoneUptoSaid : Prop := taskNoneUptoRow.holds Try.pinned (OpenSpec.upto taskNoneSpec)

/-- 'incipitlaw06.TreeKin', WHERE WHAT IT READS IS OF BULK AT MOST 1048576: true; the input reads as it did. -/
def treeKinUptoRow : OpenClaim := { program := "ytikfbipjlkhgeaa", sum := "5efb2768b747a95d339195dcfa6b74b7874e3e1d06b44d7c495f5a68797091cb", func := "incipit/incipitlaw06.TreeKin", spec := "treeKin", unfollowed := true, recurses := true, apart := false, narrowed := true }
def TreeKinUptoSaid : Prop := treeKinUptoRow.holds Try.pinned (OpenSpec.upto treeKinSpec)

/-- 'incipitlaw06.TreePlays', WHERE WHAT IT READS IS OF BULK AT MOST 1048576: true; the input reads as it did. -/
def treePlaysUptoRow : OpenClaim := { program := "ytikfbipjlkhgeaa", sum := "5efb2768b747a95d339195dcfa6b74b7874e3e1d06b44d7c495f5a68797091cb", func := "incipit/incipitlaw06.TreePlays", spec := "treePlays", unfollowed := true, recurses := true, loops := true, apart := false, narrowed := true }
def TreePlaysUptoSaid : Prop := treePlaysUptoRow.holds Try.pinned (OpenSpec.upto treePlaysSpec)

/-- 'incipitlaw06.TreeNone', WHERE WHAT IT READS IS OF BULK AT MOST 1048576: true; the input reads as it did. -/
def treeNoneUptoRow : OpenClaim := { program := "ytikfbipjlkhgeaa", sum := "5efb2768b747a95d339195dcfa6b74b7874e3e1d06b44d7c495f5a68797091cb", func := "incipit/incipitlaw06.TreeNone", spec := "treeNone", unfollowed := true, recurses := true, loops := true, apart := false, narrowed := true }
def TreeNoneUptoSaid : Prop := treeNoneUptoRow.holds Try.pinned (OpenSpec.upto treeNoneSpec)

end Rows
end Go.Proofs.Ytikfbipjlkhgeaa
