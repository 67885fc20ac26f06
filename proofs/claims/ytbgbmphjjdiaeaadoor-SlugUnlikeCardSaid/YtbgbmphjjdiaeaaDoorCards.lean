/-
  DERIVED. GIVEN WITH THE SEED: THE CARDS: each row of YtbgbmphjjdiaeaaDoorRows.lean that lists a variable, with what it lists TIED to the program's text (the seventh form; the later family's looks); each row that meets fmt, with fmt's text TOLD by the authors' own Lean function (tested against real Go, not proved from fmt's source: count such statements apart). THE CARD IS WHAT COUNTS. Prove the row's statement (the work); the ties are given (YtbgbmphjjdiaeaaDoorTie.lean); close each card by the builder's one call (the guide's Derived/Test/ToyasCard.lean, 'card_holds'). Laid BY PROGRAM, IN A SANDBOX (cutbox-door.mjs). By AI agents, Wed Nov 11 2026. No macro, syntax, notation, axiom, sorry.
-/
import Derived.Test.YtbgbmphjjdiaeaaDoorRows
import GoSem.ClaimSeven
namespace Go.Proofs.YtbgbmphjjdiaeaaDoor
namespace Rows

/-- THE TIED CARD OF 'incipitlaw18.FootNone'. -/
def footNoneCard : Claim7 := { stood := { row := footNoneRow, standIns := [], harness := (true, "6f445125a5add7ce5531ddcad878ba9a67040f32b2e52219441dc033f7470e9f"), looks := false }, kinds := [], alts := [], laidByText := true, laidKinds := [.data, .data, .data, .data, .pinned], laidTests := true, laidLooks := .later }
def FootNoneCardSaid : Prop := Claim7.holds Tryd.pinned (.plain (OpenSpec.ofChange footNoneSpec)) footNoneCard

/-- THE TIED CARD OF 'incipitlaw18.FootOrders'. -/
def footOrdersCard : Claim7 := { stood := { row := footOrdersRow, standIns := [], harness := (true, "6f445125a5add7ce5531ddcad878ba9a67040f32b2e52219441dc033f7470e9f"), looks := false }, kinds := [], alts := [], laidByText := true, laidKinds := [.data, .data, .data, .data, .pinned], laidTests := true, laidLooks := .later }
def FootOrdersCardSaid : Prop := Claim7.holds Tryd.pinned (.plain (OpenSpec.ofChange footOrdersSpec)) footOrdersCard

/-- THE TIED CARD OF 'incipitlaw03.ClassIs'. -/
def classIsCard : Claim7 := { stood := { row := classIsRow, standIns := [], harness := (true, "6f445125a5add7ce5531ddcad878ba9a67040f32b2e52219441dc033f7470e9f"), looks := false }, kinds := [], alts := [], laidByText := true, laidKinds := [.data, .pinned], laidTests := true, laidLooks := .later }
def ClassIsCardSaid : Prop := Claim7.holds Tryd.pinned (.plain (OpenSpec.ofChange classIsSpec)) classIsCard

/-- THE TIED CARD OF 'incipitlaw03.ClassFolds'. -/
def classFoldsCard : Claim7 := { stood := { row := classFoldsRow, standIns := [], harness := (true, "6f445125a5add7ce5531ddcad878ba9a67040f32b2e52219441dc033f7470e9f"), looks := false }, kinds := [], alts := [], laidByText := true, laidKinds := [.data, .pinned], laidTests := true, laidLooks := .later }
def ClassFoldsCardSaid : Prop := Claim7.holds Tryd.pinned (.plain (OpenSpec.ofChange classFoldsSpec)) classFoldsCard

/-- THE TIED CARD OF 'incipitlaw03.ClassOnce'. -/
def classOnceCard : Claim7 := { stood := { row := classOnceRow, standIns := [], harness := (true, "6f445125a5add7ce5531ddcad878ba9a67040f32b2e52219441dc033f7470e9f"), looks := false }, kinds := [], alts := [], laidByText := true, laidKinds := [.data, .pinned], laidTests := true, laidLooks := .later }
def ClassOnceCardSaid : Prop := Claim7.holds Tryd.pinned (.plain (OpenSpec.ofChange classOnceSpec)) classOnceCard

/-- THE TIED CARD OF 'incipitlaw03.ClassBlanks'. -/
def classBlanksCard : Claim7 := { stood := { row := classBlanksRow, standIns := [], harness := (true, "6f445125a5add7ce5531ddcad878ba9a67040f32b2e52219441dc033f7470e9f"), looks := false }, kinds := [], alts := [], laidByText := true, laidKinds := [.data, .pinned], laidTests := true, laidLooks := .later }
def ClassBlanksCardSaid : Prop := Claim7.holds Tryd.pinned (.plain (OpenSpec.ofChange classBlanksSpec)) classBlanksCard

/-- THE TIED CARD OF 'incipitlaw03.ClassSigns'. -/
def classSignsCard : Claim7 := { stood := { row := classSignsRow, standIns := [], harness := (true, "6f445125a5add7ce5531ddcad878ba9a67040f32b2e52219441dc033f7470e9f"), looks := false }, kinds := [], alts := [], laidByText := true, laidKinds := [.data, .pinned], laidTests := true, laidLooks := .later }
def ClassSignsCardSaid : Prop := Claim7.holds Tryd.pinned (.plain (OpenSpec.ofChange classSignsSpec)) classSignsCard

/-- THE TIED CARD OF 'incipitlaw03.ClassSums'. -/
def classSumsCard : Claim7 := { stood := { row := classSumsRow, standIns := [], harness := (true, "6f445125a5add7ce5531ddcad878ba9a67040f32b2e52219441dc033f7470e9f"), looks := false }, kinds := [], alts := [], laidByText := true, laidKinds := [.data, .pinned], laidTests := true, laidLooks := .later }
def ClassSumsCardSaid : Prop := Claim7.holds Tryd.pinned (.plain (OpenSpec.ofChange classSumsSpec)) classSumsCard

/-- THE TIED CARD OF 'incipitlaw19.SlugNames'. -/
def slugNamesCard : Claim7 := { stood := { row := slugNamesRow, standIns := [], harness := (true, "6f445125a5add7ce5531ddcad878ba9a67040f32b2e52219441dc033f7470e9f"), looks := false }, kinds := [], alts := [], laidByText := true, laidKinds := [.data, .data, .data, .data, .pinned], laidTests := true, laidLooks := .later }
def SlugNamesCardSaid : Prop := Claim7.holds Tryd.pinned (.plain (OpenSpec.ofChange slugNamesSpec)) slugNamesCard

/-- THE TIED CARD OF 'incipitlaw19.SlugSound'. -/
def slugSoundCard : Claim7 := { stood := { row := slugSoundRow, standIns := [], harness := (true, "6f445125a5add7ce5531ddcad878ba9a67040f32b2e52219441dc033f7470e9f"), looks := false }, kinds := [], alts := [], laidByText := true, laidKinds := [.data, .data, .data, .data, .pinned], laidTests := true, laidLooks := .later }
def SlugSoundCardSaid : Prop := Claim7.holds Tryd.pinned (.plain (OpenSpec.ofChange slugSoundSpec)) slugSoundCard

/-- THE TIED CARD OF 'incipitlaw19.SlugPlain'. -/
def slugPlainCard : Claim7 := { stood := { row := slugPlainRow, standIns := [], harness := (true, "6f445125a5add7ce5531ddcad878ba9a67040f32b2e52219441dc033f7470e9f"), looks := false }, kinds := [], alts := [], laidByText := true, laidKinds := [.data, .data, .data, .data, .pinned], laidTests := true, laidLooks := .later }
def SlugPlainCardSaid : Prop := Claim7.holds Tryd.pinned (.plain (OpenSpec.ofChange slugPlainSpec)) slugPlainCard

/-- THE TIED CARD OF 'incipitlaw19.SlugFirst'. -/
def slugFirstCard : Claim7 := { stood := { row := slugFirstRow, standIns := [], harness := (true, "6f445125a5add7ce5531ddcad878ba9a67040f32b2e52219441dc033f7470e9f"), looks := false }, kinds := [], alts := [], laidByText := true, laidKinds := [.data, .data, .data, .data, .pinned], laidTests := true, laidLooks := .later }
def SlugFirstCardSaid : Prop := Claim7.holds Tryd.pinned (.plain (OpenSpec.ofChange slugFirstSpec)) slugFirstCard

/-- THE TIED CARD OF 'incipitlaw19.SlugUnlike'. -/
def slugUnlikeCard : Claim7 := { stood := { row := slugUnlikeRow, standIns := [], harness := (true, "6f445125a5add7ce5531ddcad878ba9a67040f32b2e52219441dc033f7470e9f"), looks := false }, kinds := [], alts := [], laidByText := true, laidKinds := [.data, .data, .data, .data, .pinned], laidTests := true, laidLooks := .later }
def SlugUnlikeCardSaid : Prop := Claim7.holds Tryd.pinned (.plain (OpenSpec.ofChange slugUnlikeSpec)) slugUnlikeCard

/-- THE TIED CARD OF 'incipitlaw18.FootCoheres'. -/
def footCoheresCard : Claim7 := { stood := { row := footCoheresRow, standIns := [], harness := (true, "6f445125a5add7ce5531ddcad878ba9a67040f32b2e52219441dc033f7470e9f"), looks := false }, kinds := [], alts := [], laidByText := true, laidKinds := [.data, .data, .data, .data, .pinned], laidTests := true, laidLooks := .later }
def FootCoheresCardSaid : Prop := Claim7.holds Tryd.pinned (.plain (OpenSpec.ofChange footCoheresSpec)) footCoheresCard

/-- THE TIED CARD OF 'incipitlaw18.FootIds'. -/
def footIdsCard : Claim7 := { stood := { row := footIdsRow, standIns := [], harness := (true, "6f445125a5add7ce5531ddcad878ba9a67040f32b2e52219441dc033f7470e9f"), looks := false }, kinds := [], alts := [], laidByText := true, laidKinds := [.data, .data, .data, .data, .pinned], laidTests := true, laidLooks := .later }
def FootIdsCardSaid : Prop := Claim7.holds Tryd.pinned (.plain (OpenSpec.ofChange footIdsSpec)) footIdsCard

/-- THE SECOND FORM's CARD OF 'incipitlaw18.FootNone'. -/
def footNoneUptoCard : Claim7 := { stood := { row := footNoneUptoRow, standIns := [], harness := (true, "6f445125a5add7ce5531ddcad878ba9a67040f32b2e52219441dc033f7470e9f"), looks := false }, kinds := [], alts := [], laidByText := true, laidKinds := [.data, .data, .data, .data, .pinned], laidTests := true, laidLooks := .later }
def FootNoneUptoCardSaid : Prop := Claim7.holds Tryd.pinned (.plain (OpenSpec.upto footNoneSpec)) footNoneUptoCard

/-- THE SECOND FORM's CARD OF 'incipitlaw18.FootOrders'. -/
def footOrdersUptoCard : Claim7 := { stood := { row := footOrdersUptoRow, standIns := [], harness := (true, "6f445125a5add7ce5531ddcad878ba9a67040f32b2e52219441dc033f7470e9f"), looks := false }, kinds := [], alts := [], laidByText := true, laidKinds := [.data, .data, .data, .data, .pinned], laidTests := true, laidLooks := .later }
def FootOrdersUptoCardSaid : Prop := Claim7.holds Tryd.pinned (.plain (OpenSpec.upto footOrdersSpec)) footOrdersUptoCard

/-- THE SECOND FORM's CARD OF 'incipitlaw03.ClassIs'. -/
def classIsUptoCard : Claim7 := { stood := { row := classIsUptoRow, standIns := [], harness := (true, "6f445125a5add7ce5531ddcad878ba9a67040f32b2e52219441dc033f7470e9f"), looks := false }, kinds := [], alts := [], laidByText := true, laidKinds := [.data, .pinned], laidTests := true, laidLooks := .later }
def ClassIsUptoCardSaid : Prop := Claim7.holds Tryd.pinned (.plain (OpenSpec.upto classIsSpec)) classIsUptoCard

/-- THE SECOND FORM's CARD OF 'incipitlaw03.ClassFolds'. -/
def classFoldsUptoCard : Claim7 := { stood := { row := classFoldsUptoRow, standIns := [], harness := (true, "6f445125a5add7ce5531ddcad878ba9a67040f32b2e52219441dc033f7470e9f"), looks := false }, kinds := [], alts := [], laidByText := true, laidKinds := [.data, .pinned], laidTests := true, laidLooks := .later }
def ClassFoldsUptoCardSaid : Prop := Claim7.holds Tryd.pinned (.plain (OpenSpec.upto classFoldsSpec)) classFoldsUptoCard

/-- THE SECOND FORM's CARD OF 'incipitlaw03.ClassOnce'. -/
def classOnceUptoCard : Claim7 := { stood := { row := classOnceUptoRow, standIns := [], harness := (true, "6f445125a5add7ce5531ddcad878ba9a67040f32b2e52219441dc033f7470e9f"), looks := false }, kinds := [], alts := [], laidByText := true, laidKinds := [.data, .pinned], laidTests := true, laidLooks := .later }
def ClassOnceUptoCardSaid : Prop := Claim7.holds Tryd.pinned (.plain (OpenSpec.upto classOnceSpec)) classOnceUptoCard

/-- THE SECOND FORM's CARD OF 'incipitlaw03.ClassBlanks'. -/
def classBlanksUptoCard : Claim7 := { stood := { row := classBlanksUptoRow, standIns := [], harness := (true, "6f445125a5add7ce5531ddcad878ba9a67040f32b2e52219441dc033f7470e9f"), looks := false }, kinds := [], alts := [], laidByText := true, laidKinds := [.data, .pinned], laidTests := true, laidLooks := .later }
def ClassBlanksUptoCardSaid : Prop := Claim7.holds Tryd.pinned (.plain (OpenSpec.upto classBlanksSpec)) classBlanksUptoCard

/-- THE SECOND FORM's CARD OF 'incipitlaw03.ClassSigns'. -/
def classSignsUptoCard : Claim7 := { stood := { row := classSignsUptoRow, standIns := [], harness := (true, "6f445125a5add7ce5531ddcad878ba9a67040f32b2e52219441dc033f7470e9f"), looks := false }, kinds := [], alts := [], laidByText := true, laidKinds := [.data, .pinned], laidTests := true, laidLooks := .later }
def ClassSignsUptoCardSaid : Prop := Claim7.holds Tryd.pinned (.plain (OpenSpec.upto classSignsSpec)) classSignsUptoCard

/-- THE SECOND FORM's CARD OF 'incipitlaw03.ClassSums'. -/
def classSumsUptoCard : Claim7 := { stood := { row := classSumsUptoRow, standIns := [], harness := (true, "6f445125a5add7ce5531ddcad878ba9a67040f32b2e52219441dc033f7470e9f"), looks := false }, kinds := [], alts := [], laidByText := true, laidKinds := [.data, .pinned], laidTests := true, laidLooks := .later }
def ClassSumsUptoCardSaid : Prop := Claim7.holds Tryd.pinned (.plain (OpenSpec.upto classSumsSpec)) classSumsUptoCard

/-- THE SECOND FORM's CARD OF 'incipitlaw19.SlugNames'. -/
def slugNamesUptoCard : Claim7 := { stood := { row := slugNamesUptoRow, standIns := [], harness := (true, "6f445125a5add7ce5531ddcad878ba9a67040f32b2e52219441dc033f7470e9f"), looks := false }, kinds := [], alts := [], laidByText := true, laidKinds := [.data, .data, .data, .data, .pinned], laidTests := true, laidLooks := .later }
def SlugNamesUptoCardSaid : Prop := Claim7.holds Tryd.pinned (.plain (OpenSpec.upto slugNamesSpec)) slugNamesUptoCard

/-- THE SECOND FORM's CARD OF 'incipitlaw19.SlugSound'. -/
def slugSoundUptoCard : Claim7 := { stood := { row := slugSoundUptoRow, standIns := [], harness := (true, "6f445125a5add7ce5531ddcad878ba9a67040f32b2e52219441dc033f7470e9f"), looks := false }, kinds := [], alts := [], laidByText := true, laidKinds := [.data, .data, .data, .data, .pinned], laidTests := true, laidLooks := .later }
def SlugSoundUptoCardSaid : Prop := Claim7.holds Tryd.pinned (.plain (OpenSpec.upto slugSoundSpec)) slugSoundUptoCard

/-- THE SECOND FORM's CARD OF 'incipitlaw19.SlugPlain'. -/
def slugPlainUptoCard : Claim7 := { stood := { row := slugPlainUptoRow, standIns := [], harness := (true, "6f445125a5add7ce5531ddcad878ba9a67040f32b2e52219441dc033f7470e9f"), looks := false }, kinds := [], alts := [], laidByText := true, laidKinds := [.data, .data, .data, .data, .pinned], laidTests := true, laidLooks := .later }
def SlugPlainUptoCardSaid : Prop := Claim7.holds Tryd.pinned (.plain (OpenSpec.upto slugPlainSpec)) slugPlainUptoCard

/-- THE SECOND FORM's CARD OF 'incipitlaw19.SlugFirst'. -/
def slugFirstUptoCard : Claim7 := { stood := { row := slugFirstUptoRow, standIns := [], harness := (true, "6f445125a5add7ce5531ddcad878ba9a67040f32b2e52219441dc033f7470e9f"), looks := false }, kinds := [], alts := [], laidByText := true, laidKinds := [.data, .data, .data, .data, .pinned], laidTests := true, laidLooks := .later }
def SlugFirstUptoCardSaid : Prop := Claim7.holds Tryd.pinned (.plain (OpenSpec.upto slugFirstSpec)) slugFirstUptoCard

/-- THE SECOND FORM's CARD OF 'incipitlaw19.SlugUnlike'. -/
def slugUnlikeUptoCard : Claim7 := { stood := { row := slugUnlikeUptoRow, standIns := [], harness := (true, "6f445125a5add7ce5531ddcad878ba9a67040f32b2e52219441dc033f7470e9f"), looks := false }, kinds := [], alts := [], laidByText := true, laidKinds := [.data, .data, .data, .data, .pinned], laidTests := true, laidLooks := .later }
def SlugUnlikeUptoCardSaid : Prop := Claim7.holds Tryd.pinned (.plain (OpenSpec.upto slugUnlikeSpec)) slugUnlikeUptoCard

/-- THE SECOND FORM's CARD OF 'incipitlaw18.FootCoheres'. -/
def footCoheresUptoCard : Claim7 := { stood := { row := footCoheresUptoRow, standIns := [], harness := (true, "6f445125a5add7ce5531ddcad878ba9a67040f32b2e52219441dc033f7470e9f"), looks := false }, kinds := [], alts := [], laidByText := true, laidKinds := [.data, .data, .data, .data, .pinned], laidTests := true, laidLooks := .later }
def FootCoheresUptoCardSaid : Prop := Claim7.holds Tryd.pinned (.plain (OpenSpec.upto footCoheresSpec)) footCoheresUptoCard

/-- THE SECOND FORM's CARD OF 'incipitlaw18.FootIds'. -/
def footIdsUptoCard : Claim7 := { stood := { row := footIdsUptoRow, standIns := [], harness := (true, "6f445125a5add7ce5531ddcad878ba9a67040f32b2e52219441dc033f7470e9f"), looks := false }, kinds := [], alts := [], laidByText := true, laidKinds := [.data, .data, .data, .data, .pinned], laidTests := true, laidLooks := .later }
def FootIdsUptoCardSaid : Prop := Claim7.holds Tryd.pinned (.plain (OpenSpec.upto footIdsSpec)) footIdsUptoCard
end Rows
end Go.Proofs.YtbgbmphjjdiaeaaDoor
