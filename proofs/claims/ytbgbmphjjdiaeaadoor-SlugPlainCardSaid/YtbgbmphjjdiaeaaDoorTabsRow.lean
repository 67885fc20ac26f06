/- What the listed tables read as gives the words that the contracts ask for. -/
import Derived.Test.YtbgbmphjjdiaeaaDoorRows
import Derived.Test.YtbgbmphjjdiaeaaDoorClean
import Derived.PinnedBridge
import Derived.Lib.LaidU8T
import Derived.Lay
namespace Go.Proofs.YtbgbmphjjdiaeaaDoor.P
open Go.RowKit Go.Lib
def u8_ren : Go.Shelf.Ren := ⟨fun n => n, fun | 5 => 5 | 119 => 107 | 138 => 110 | 139 => 111 | n => n, fun | 3 => 0 | 4 => 1 | n => n⟩
theorem u8_types : U8Types Tryd.prog u8_ren := ⟨Tryd.underlying5, Tryd.underlying107, Tryd.underlying110, Tryd.underlying111⟩
theorem u8_extra : U8Extra Tryd.prog u8_ren := ⟨by kernel_rfl, by kernel_rfl, by kernel_rfl, by kernel_rfl, by kernel_rfl, by kernel_rfl, by kernel_rfl⟩
theorem accept_eq : (Rows.laid_unicode_utf8_acceptRanges : DataW Unit) = Go.Lib.acceptData := by kernel_rfl
theorem first_eq : Rows.laid_unicode_utf8_first = Go.Lib.firstData := Go.Pinned.utf8First_eq
theorem tabs_of_laid {l : List (String × DataW Unit)} {W : World} (hL : laidMet Tryd.prog l W) (h1 : ("unicode/utf8.acceptRanges", (Rows.laid_unicode_utf8_acceptRanges : DataW Unit)) ∈ l) (h2 : ("unicode/utf8.first", Rows.laid_unicode_utf8_first) ∈ l) : Tabs W := by
  have r1 := Go.Lib.laidMet.reads hL h1
  have r2 := Go.Lib.laidMet.reads hL h2
  rw [accept_eq] at r1
  rw [first_eq] at r2
  exact utf8Tabs_of_readsT u8_types u8_extra r2 r1
end Go.Proofs.YtbgbmphjjdiaeaaDoor.P
