/- What the listed tables read as gives the words that the contracts ask for. -/
import Derived.Test.YtbgbmphjjdiaeaaDoorRows
import Derived.Test.YtbgbmphjjdiaeaaDoorClean
import Derived.PinnedBridge
import Derived.Lib.LaidU8T
import Derived.Lay
import Derived.Lib.LaidTab
namespace Go.Proofs.YtbgbmphjjdiaeaaDoor.P
open Go.RowKit Go.Lib
def u8_ren : Go.Shelf.Ren := ⟨fun n => n, fun | 5 => 5 | 119 => 107 | 138 => 110 | 139 => 111 | n => n, fun | 3 => 0 | 4 => 1 | n => n⟩
theorem u8_types : U8Types Tryd.prog u8_ren := ⟨Tryd.underlying5, Tryd.underlying107, Tryd.underlying110, Tryd.underlying111⟩
theorem u8_extra : U8Extra Tryd.prog u8_ren := ⟨by kernel_rfl, by kernel_rfl, by kernel_rfl, by kernel_rfl, by kernel_rfl, by kernel_rfl, by kernel_rfl⟩
theorem accept_eq : (Rows.laid_unicode_utf8_acceptRanges : DataW Unit) = Go.Lib.acceptData := by kernel_rfl
theorem first_eq : Rows.laid_unicode_utf8_first = Go.Lib.firstData := Go.Pinned.utf8First_eq
theorem pow_eq : (Rows.laid_internal_strconv_uint64pow10 : DataW Unit) = Go.Lib.tabData .u64 Go.Lib.pow10Tab := by kernel_rfl
theorem tabs_of_laid {l : List (String × DataW Unit)} {W : World} (hL : laidMet Tryd.prog l W) (h1 : ("unicode/utf8.acceptRanges", (Rows.laid_unicode_utf8_acceptRanges : DataW Unit)) ∈ l) (h2 : ("unicode/utf8.first", Rows.laid_unicode_utf8_first) ∈ l) (h3 : ("internal/strconv.uint64pow10", (Rows.laid_internal_strconv_uint64pow10 : DataW Unit)) ∈ l) : Tabs W := by
  have r1 := Go.Lib.laidMet.reads hL h1
  have r2 := Go.Lib.laidMet.reads hL h2
  rw [accept_eq] at r1
  rw [first_eq] at r2
  refine ⟨utf8Tabs_of_readsT u8_types u8_extra r2 r1, ?_⟩
  obtain ⟨g, t, cs, fuel, p, hg, ht, hv, hd⟩ := Go.Lib.laidMet.reads hL h3
  obtain rfl := Option.some.inj ((show Tryd.prog.globalNamed "internal/strconv.uint64pow10" = some 3 by kernel_rfl).symm.trans hg)
  obtain rfl := Option.some.inj ((show (Tryd.prog.globals[3]?).map (·.type) = some 126 by kernel_rfl).symm.trans ht)
  rw [pow_eq] at hd
  unfold TabIs
  rw [hv, ← cells_of_tab Tryd.underlying126 Tryd.underlying119 (by kernel_rfl) (by kernel_rfl) hd]
end Go.Proofs.YtbgbmphjjdiaeaaDoor.P
