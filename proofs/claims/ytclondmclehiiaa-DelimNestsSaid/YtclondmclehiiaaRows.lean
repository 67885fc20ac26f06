/-
  No cell of these rows narrows 'for every input' (looked for: loops, veiled, ifaces, maps, wideKeys, modest, calm, conditions, laid).
  DERIVED. THE GIVEN ROWS OF THIS SEAT. 7 by the template 'for every input the law returns true; each argument reads behind the call as it read before'; 0 by the template 'total and deterministic' (their statements: YtclondmclehiiaaTotals.lean).
  GIVEN WITH THE SEED: the statements are not yours to turn. If you find one false, say at which input.
  Laid BY PROGRAM, IN A SANDBOX (cutbox-rows.mjs): the forced cells as the released guide's own fill.sh prints them over the translation 20898f4f10f3641b… (all of the seat's roots in one cut). By AI agents, Wed Nov 11 2026. No macro, syntax, notation, axiom, sorry.
-/
import Derived.Test.YtclondmclehiiaaChecked
import GoSem.Claim
import GoSem.ClaimJoined
import GoSem.ClaimMapViews
import Derived.JoinedTies
import Derived.KernelRfl
namespace Go.Proofs.Ytclondmclehiiaa
/- THE CELL 'sum', in the pinned program and in every row, IS THE sha256 OF THE DUMP (.gsa) THAT YtclondmclehiiaaProg.lean LOADS. Nothing in Lean hashes anything: it is a label: what it is worth is what the hold of that sum in a sandbox is worth. -/
noncomputable def Try.pinned : Pinned := { name := "ytclondmclehiiaa", sum := "20898f4f10f3641bde9b1cba7886d68c19002620f2ef89f39b148779564fe3b6", checked := Try.checked }
namespace Rows
def none {H : Type} : Left H := { results := [], args := [] }

/-- 'incipitlaw13.DelimFlanks': WHATEVER THE INPUT: true; the input reads as it did. -/
def delimFlanksSpec : ChangeSpec := { name := "delimFlanks", fn := fun _ => fun
  | [d1, d2, d3] => { results := [.lit (.bool true)], args := [d1, d2, d3] }
  | _ => none }
def delimFlanksRow : OpenClaim := { program := "ytclondmclehiiaa", sum := "20898f4f10f3641bde9b1cba7886d68c19002620f2ef89f39b148779564fe3b6", func := "incipit/incipitlaw13.DelimFlanks", spec := "delimFlanks", plainKeys := false, apart := false }
def DelimFlanksSaid : Prop := delimFlanksRow.holds Try.pinned (OpenSpec.ofChange delimFlanksSpec)

/-- ITS FALSE NEIGHBOUR: 'it returns false'. Refute it at one input. -/
def delimFlanksWrong : ChangeSpec := { name := "delimFlanks", fn := fun _ => fun
  | [d1, d2, d3] => { results := [.lit (.bool false)], args := [d1, d2, d3] }
  | _ => none }
def DelimFlanksWrongFalsely : Prop := delimFlanksRow.holds Try.pinned (OpenSpec.ofChange delimFlanksWrong)

/-- 'incipitlaw13.DelimMatches': WHATEVER THE INPUT: true; the input reads as it did. -/
def delimMatchesSpec : ChangeSpec := { name := "delimMatches", fn := fun _ => fun
  | [d] => { results := [.lit (.bool true)], args := [d] }
  | _ => none }
def delimMatchesRow : OpenClaim := { program := "ytclondmclehiiaa", sum := "20898f4f10f3641bde9b1cba7886d68c19002620f2ef89f39b148779564fe3b6", func := "incipit/incipitlaw13.DelimMatches", spec := "delimMatches", plainKeys := false, apart := false }
def DelimMatchesSaid : Prop := delimMatchesRow.holds Try.pinned (OpenSpec.ofChange delimMatchesSpec)

/-- ITS FALSE NEIGHBOUR: 'it returns false'. Refute it at one input. -/
def delimMatchesWrong : ChangeSpec := { name := "delimMatches", fn := fun _ => fun
  | [d] => { results := [.lit (.bool false)], args := [d] }
  | _ => none }
def DelimMatchesWrongFalsely : Prop := delimMatchesRow.holds Try.pinned (OpenSpec.ofChange delimMatchesWrong)

/-- 'incipitlaw13.DelimNests': WHATEVER THE INPUT: true; the input reads as it did. -/
def delimNestsSpec : ChangeSpec := { name := "delimNests", fn := fun _ => fun
  | [d] => { results := [.lit (.bool true)], args := [d] }
  | _ => none }
def delimNestsRow : OpenClaim := { program := "ytclondmclehiiaa", sum := "20898f4f10f3641bde9b1cba7886d68c19002620f2ef89f39b148779564fe3b6", func := "incipit/incipitlaw13.DelimNests", spec := "delimNests", plainKeys := false, apart := false }
def DelimNestsSaid : Prop := delimNestsRow.holds Try.pinned (OpenSpec.ofChange delimNestsSpec)

/-- ITS FALSE NEIGHBOUR: 'it returns false'. Refute it at one input. -/
def delimNestsWrong : ChangeSpec := { name := "delimNests", fn := fun _ => fun
  | [d] => { results := [.lit (.bool false)], args := [d] }
  | _ => none }
def DelimNestsWrongFalsely : Prop := delimNestsRow.holds Try.pinned (OpenSpec.ofChange delimNestsWrong)

/-- 'incipitlaw13.DelimTurns': WHATEVER THE INPUT: true; the input reads as it did. -/
def delimTurnsSpec : ChangeSpec := { name := "delimTurns", fn := fun _ => fun
  | [d1, d2, d3] => { results := [.lit (.bool true)], args := [d1, d2, d3] }
  | _ => none }
def delimTurnsRow : OpenClaim := { program := "ytclondmclehiiaa", sum := "20898f4f10f3641bde9b1cba7886d68c19002620f2ef89f39b148779564fe3b6", func := "incipit/incipitlaw13.DelimTurns", spec := "delimTurns", plainKeys := false, apart := false }
def DelimTurnsSaid : Prop := delimTurnsRow.holds Try.pinned (OpenSpec.ofChange delimTurnsSpec)

/-- ITS FALSE NEIGHBOUR: 'it returns false'. Refute it at one input. -/
def delimTurnsWrong : ChangeSpec := { name := "delimTurns", fn := fun _ => fun
  | [d1, d2, d3] => { results := [.lit (.bool false)], args := [d1, d2, d3] }
  | _ => none }
def DelimTurnsWrongFalsely : Prop := delimTurnsRow.holds Try.pinned (OpenSpec.ofChange delimTurnsWrong)

/-- 'incipitlaw13.DelimDeep': WHATEVER THE INPUT: true; the input reads as it did. -/
def delimDeepSpec : ChangeSpec := { name := "delimDeep", fn := fun _ => fun
  | [d1, d2] => { results := [.lit (.bool true)], args := [d1, d2] }
  | _ => none }
def delimDeepRow : OpenClaim := { program := "ytclondmclehiiaa", sum := "20898f4f10f3641bde9b1cba7886d68c19002620f2ef89f39b148779564fe3b6", func := "incipit/incipitlaw13.DelimDeep", spec := "delimDeep", plainKeys := false, apart := false }
def DelimDeepSaid : Prop := delimDeepRow.holds Try.pinned (OpenSpec.ofChange delimDeepSpec)

/-- ITS FALSE NEIGHBOUR: 'it returns false'. Refute it at one input. -/
def delimDeepWrong : ChangeSpec := { name := "delimDeep", fn := fun _ => fun
  | [d1, d2] => { results := [.lit (.bool false)], args := [d1, d2] }
  | _ => none }
def DelimDeepWrongFalsely : Prop := delimDeepRow.holds Try.pinned (OpenSpec.ofChange delimDeepWrong)

/-- 'incipitlaw13.DelimApart': WHATEVER THE INPUT: true; the input reads as it did. -/
def delimApartSpec : ChangeSpec := { name := "delimApart", fn := fun _ => fun
  | [d1, d2] => { results := [.lit (.bool true)], args := [d1, d2] }
  | _ => none }
def delimApartRow : OpenClaim := { program := "ytclondmclehiiaa", sum := "20898f4f10f3641bde9b1cba7886d68c19002620f2ef89f39b148779564fe3b6", func := "incipit/incipitlaw13.DelimApart", spec := "delimApart", plainKeys := false, apart := false }
def DelimApartSaid : Prop := delimApartRow.holds Try.pinned (OpenSpec.ofChange delimApartSpec)

/-- ITS FALSE NEIGHBOUR: 'it returns false'. Refute it at one input. -/
def delimApartWrong : ChangeSpec := { name := "delimApart", fn := fun _ => fun
  | [d1, d2] => { results := [.lit (.bool false)], args := [d1, d2] }
  | _ => none }
def DelimApartWrongFalsely : Prop := delimApartRow.holds Try.pinned (OpenSpec.ofChange delimApartWrong)

/-- 'incipitlaw13.DelimNone': WHATEVER THE INPUT: true; the input reads as it did. -/
def delimNoneSpec : ChangeSpec := { name := "delimNone", fn := fun _ => fun
  | [d1, d2] => { results := [.lit (.bool true)], args := [d1, d2] }
  | _ => none }
def delimNoneRow : OpenClaim := { program := "ytclondmclehiiaa", sum := "20898f4f10f3641bde9b1cba7886d68c19002620f2ef89f39b148779564fe3b6", func := "incipit/incipitlaw13.DelimNone", spec := "delimNone", plainKeys := false, apart := false }
def DelimNoneSaid : Prop := delimNoneRow.holds Try.pinned (OpenSpec.ofChange delimNoneSpec)

/-- ITS FALSE NEIGHBOUR: 'it returns false'. Refute it at one input. -/
def delimNoneWrong : ChangeSpec := { name := "delimNone", fn := fun _ => fun
  | [d1, d2] => { results := [.lit (.bool false)], args := [d1, d2] }
  | _ => none }
def DelimNoneWrongFalsely : Prop := delimNoneRow.holds Try.pinned (OpenSpec.ofChange delimNoneWrong)

/- THE SECOND FORM. 'bulk': how many values and letters a reading holds, each counted each time it is reached (what is shared counts as often as it is met; a slice's spare places count too). A statement '..UptoSaid' is the law's where the arguments, and the package variables that the reading takes, are together of bulk at most 1048576: NARROWER than '..Said'. Prove '..Said' where nothing that the law and all that it calls make is longer than what came in: it says more and counts as full. Else prove '..UptoSaid'. A law counts once. -/
mutual
def uptoBulk {H : Type} : DataW H → Nat
  | .lit (.string bytes) => bytes.length + 1
  | .lit _ => 1
  | .nil => 1
  | .ptr d => uptoBulk d + 1
  | .slice elems spare => uptoBulkAll elems + uptoBulkAll spare + 1
  | .agg parts => uptoBulkAll parts + 1
  | .iface _ d => uptoBulk d + 1
  | .map entries => uptoBulkEntries entries + 1
  | .held _ => 1
def uptoBulkAll {H : Type} : List (DataW H) → Nat
  | [] => 0
  | d :: r => uptoBulk d + uptoBulkAll r
def uptoBulkEntries {H : Type} : List (Lit × DataW H) → Nat
  | [] => 0
  | x :: r => uptoBulkEntry x + uptoBulkEntries r
def uptoBulkEntry {H : Type} : Lit × DataW H → Nat
  | (.string bytes, d) => bytes.length + uptoBulk d + 1
  | (_, d) => uptoBulk d + 1
 end
def uptoSmall : (H : Type) → List (DataW H) → Bool := fun _ ds => decide (uptoBulkAll ds ≤ 1048576)
def OpenSpec.upto (s : _root_.Go.ChangeSpec) : _root_.Go.OpenSpec := { _root_.Go.OpenSpec.ofChange s with cond := some uptoSmall }

/-- 'incipitlaw13.DelimFlanks', WHERE WHAT IT READS IS OF BULK AT MOST 1048576: true; the input reads as it did. -/
def delimFlanksUptoRow : OpenClaim := { program := "ytclondmclehiiaa", sum := "20898f4f10f3641bde9b1cba7886d68c19002620f2ef89f39b148779564fe3b6", func := "incipit/incipitlaw13.DelimFlanks", spec := "delimFlanks", plainKeys := false, apart := false, narrowed := true }
def DelimFlanksUptoSaid : Prop := delimFlanksUptoRow.holds Try.pinned (OpenSpec.upto delimFlanksSpec)

/-- 'incipitlaw13.DelimMatches', WHERE WHAT IT READS IS OF BULK AT MOST 1048576: true; the input reads as it did. -/
def delimMatchesUptoRow : OpenClaim := { program := "ytclondmclehiiaa", sum := "20898f4f10f3641bde9b1cba7886d68c19002620f2ef89f39b148779564fe3b6", func := "incipit/incipitlaw13.DelimMatches", spec := "delimMatches", plainKeys := false, apart := false, narrowed := true }
def DelimMatchesUptoSaid : Prop := delimMatchesUptoRow.holds Try.pinned (OpenSpec.upto delimMatchesSpec)

/-- 'incipitlaw13.DelimNests', WHERE WHAT IT READS IS OF BULK AT MOST 1048576: true; the input reads as it did. -/
def delimNestsUptoRow : OpenClaim := { program := "ytclondmclehiiaa", sum := "20898f4f10f3641bde9b1cba7886d68c19002620f2ef89f39b148779564fe3b6", func := "incipit/incipitlaw13.DelimNests", spec := "delimNests", plainKeys := false, apart := false, narrowed := true }
def DelimNestsUptoSaid : Prop := delimNestsUptoRow.holds Try.pinned (OpenSpec.upto delimNestsSpec)

/-- 'incipitlaw13.DelimTurns', WHERE WHAT IT READS IS OF BULK AT MOST 1048576: true; the input reads as it did. -/
def delimTurnsUptoRow : OpenClaim := { program := "ytclondmclehiiaa", sum := "20898f4f10f3641bde9b1cba7886d68c19002620f2ef89f39b148779564fe3b6", func := "incipit/incipitlaw13.DelimTurns", spec := "delimTurns", plainKeys := false, apart := false, narrowed := true }
def DelimTurnsUptoSaid : Prop := delimTurnsUptoRow.holds Try.pinned (OpenSpec.upto delimTurnsSpec)

/-- 'incipitlaw13.DelimDeep', WHERE WHAT IT READS IS OF BULK AT MOST 1048576: true; the input reads as it did. -/
def delimDeepUptoRow : OpenClaim := { program := "ytclondmclehiiaa", sum := "20898f4f10f3641bde9b1cba7886d68c19002620f2ef89f39b148779564fe3b6", func := "incipit/incipitlaw13.DelimDeep", spec := "delimDeep", plainKeys := false, apart := false, narrowed := true }
def DelimDeepUptoSaid : Prop := delimDeepUptoRow.holds Try.pinned (OpenSpec.upto delimDeepSpec)

/-- 'incipitlaw13.DelimApart', WHERE WHAT IT READS IS OF BULK AT MOST 1048576: true; the input reads as it did. -/
def delimApartUptoRow : OpenClaim := { program := "ytclondmclehiiaa", sum := "20898f4f10f3641bde9b1cba7886d68c19002620f2ef89f39b148779564fe3b6", func := "incipit/incipitlaw13.DelimApart", spec := "delimApart", plainKeys := false, apart := false, narrowed := true }
def DelimApartUptoSaid : Prop := delimApartUptoRow.holds Try.pinned (OpenSpec.upto delimApartSpec)

/-- 'incipitlaw13.DelimNone', WHERE WHAT IT READS IS OF BULK AT MOST 1048576: true; the input reads as it did. -/
def delimNoneUptoRow : OpenClaim := { program := "ytclondmclehiiaa", sum := "20898f4f10f3641bde9b1cba7886d68c19002620f2ef89f39b148779564fe3b6", func := "incipit/incipitlaw13.DelimNone", spec := "delimNone", plainKeys := false, apart := false, narrowed := true }
def DelimNoneUptoSaid : Prop := delimNoneUptoRow.holds Try.pinned (OpenSpec.upto delimNoneSpec)

end Rows
end Go.Proofs.Ytclondmclehiiaa
