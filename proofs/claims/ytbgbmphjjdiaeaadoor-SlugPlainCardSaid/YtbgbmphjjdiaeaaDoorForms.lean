/- The texts' functions in the printer's form. -/
import Derived.Test.YtbgbmphjjdiaeaaDoorFoldS
import Derived.Test.YtbgbmphjjdiaeaaDoorRefRunes
namespace Go.Proofs.YtbgbmphjjdiaeaaDoor.P
open Go.RowKit Go.Proofs.YtbgbmphjjdiaeaaDoorW.PrintWords Go.Proofs.YtbgbmphjjdiaeaaDoorW.PrintLast Go.Proofs.YtbgbmphjjdiaeaaDoorW.PrintMore
set_option linter.unusedVariables false
set_option linter.unusedSimpArgs false
def class_Fold.f (a0 : ByteArray) : Option ByteArray := if a0.size ≤ 1073741824 then some ⟨(T.foldS a0.data.toList).toArray⟩ else none
theorem class_Fold.calls (a0 : ByteArray) (r : ByteArray) (w : World) (h : class_Fold.f a0 = some r) (hT : Tabs w) :
    Calls Tryd.prog 31 #[.string a0] w fun e w' => e = .returned (.string r) ∧ Below w.heap.size w w' := by
  unfold class_Fold.f at h
  by_cases hs : a0.size ≤ 1073741824
  · rw [if_pos hs] at h
    have h := Option.some.inj h
    subst h
    exact foldS_calls a0 w (by omega) hT
  · rw [if_neg hs] at h
    cases h
def incipitref01_Runes.f (a0 : ByteArray) : Option (List Int) := if a0.size ≤ 1073741824 then some (ints (T.runes a0.data.toList)) else none
theorem incipitref01_Runes.calls (a0 : ByteArray) (r : List Int) (w : World) (h : incipitref01_Runes.f a0 = some r) :
    Calls Tryd.prog 57 #[.string a0] w fun e w' => ∃ v, e = .returned v ∧ Kd.R (Kd.int .i32) 21 w' w.heap.size (fun _ => True) v r ∧ Below w.heap.size w w' := by
  unfold incipitref01_Runes.f at h
  by_cases hs : a0.size ≤ 1073741824
  · rw [if_pos hs] at h
    have h := Option.some.inj h
    subst h
    exact refRunes_calls a0 w hs
  · rw [if_neg hs] at h
    cases h
/-! text.Clean of whatever slice of bytes -/
def unbints (l : List Int) : List UInt8 := l.map fun x => UInt8.ofNat x.toNat
def bytesOk (l : List Int) : Bool := l.all fun x => decide (0 ≤ x) && decide (x < 256)
theorem bints_unbints {l : List Int} (h : bytesOk l = true) : bints (unbints l) = l := by
  unfold bytesOk at h
  rw [List.all_eq_true] at h
  unfold bints unbints
  rw [List.map_map]
  refine (List.map_congr_left (g := id) fun x hx => ?_).trans (List.map_id l)
  have := h x hx
  simp at this
  show ((UInt8.ofNat x.toNat).toNat : Int) = x
  rw [T.ofNat_toNat _ (by omega)]
  omega
theorem clean_empty (A : Option Addr) (c : Nat) (w : World) : Calls Tryd.prog 35 #[.slice A 0 c] w fun e w' => e = .returned (.string ⟨#[]⟩) ∧ Below w.heap.size w w' := by
  have HB := Aside0.mk (below_alloc (Below.refl w.heap.size w) (.cells #[.pointer none, .slice none 0 0] 74))
  have HL : Aside0 (Lib.IsBuilder 74 5 w.heap.size w.heap.size (Lib.byteCells []) (w.alloc (.cells #[.pointer none, .slice none 0 0] 74))) := ⟨Lib.fresh_isBuilder 74 5 w⟩
  have CS := Aside0.mk (fun (W : World) (h : Lib.IsBuilder 74 5 w.heap.size w.heap.size (Lib.byteCells []) W) (hs : w.heap.size ≤ W.heap.size) => Tryd.Builder_String_any w.heap.size w.heap.size [] W h hs)
  go_enter Tryd.func35, Tryd.ntmps35
  go_wp2_with fail
  go_step3
  go_wp2_with fail
  go_step3
  go_wp2_with fail
  go_loopg [0] 0 (fun gf v wr => v = .slice A 0 c ∧ wr = w.alloc (.cells #[.pointer none, .slice none 0 0] 74))
  case atStart => exact ⟨rfl, rfl⟩
  case round =>
    obtain ⟨rfl, rfl⟩ := hrel
    go_wp2_with (go_at_call 56; refine (CS.out _ HL.out HB.out.size).mono ?_; rintro e w2 ⟨rfl, hb⟩; have HB2 := Aside0.mk hb; clear hb)
    rw [Exit.noGoto_ret]
    go_ret
    exact ⟨rfl, HB.out.trans HB2.out⟩
def text_Clean.f (l0 : List Int) : Option ByteArray := if l0.length ≤ 1073741824 ∧ bytesOk l0 = true then some ⟨(T.clean (unbints l0)).toArray⟩ else none
theorem text_Clean.calls (A0 : Option Addr) (c0 : Nat) (l0 : List Int) (r : ByteArray) (w : World) (hr0 : Kd.C (Kd.int .u8) w A0 l0.length l0) (hc0 : l0.length ≤ c0) (h : text_Clean.f l0 = some r) (hT : Tabs w) :
    Calls Tryd.prog 35 #[.slice A0 l0.length c0] w fun e w' => e = .returned (.string r) ∧ Below w.heap.size w w' := by
  unfold text_Clean.f at h
  by_cases hs : l0.length ≤ 1073741824 ∧ bytesOk l0 = true
  · rw [if_pos hs] at h
    have h := Option.some.inj h
    subst h
    by_cases h0 : l0.length = 0
    · have : l0 = [] := List.eq_nil_of_length_eq_zero h0
      subst this
      exact clean_empty A0 c0 w
    · have hub := bints_unbints hs.2
      have hul : (unbints l0).length = l0.length := by simp [unbints]
      obtain ⟨⟨b, o, s⟩, hA, hcell⟩ := (hr0.2.2 (by omega))
      have hat : ∀ j, j < l0.length → w.cell? ((⟨b, o, s⟩ : Addr).add j) = some (.int .u8 ((T.byt (unbints l0) j : Nat) : Int)) := fun j hj => by
        obtain ⟨c, hc1, hc2, hc3⟩ := hcell j _ (List.getElem?_eq_getElem hj)
        have hc4 : c = [Value.int .u8 l0[j]] := hc2
        have h1 := hc3 0 (.int .u8 l0[j]) (by rw [hc4]; rfl)
        rw [show j * (Kd.int .u8).sz + 0 = j from Nat.mul_one j] at h1
        rw [h1]
        have h2 := bints_rd (unbints l0) j
        rw [hub] at h2
        rw [← h2]
        unfold rd
        rw [Int.toNat_natCast, List.getD_eq_getElem?_getD, List.getElem?_eq_getElem hj]
        rfl
      have h00 := hat 0 (by omega)
      have hs0 : s = none := by
        unfold World.cell? at h00
        simp only [Addr.add, if_true] at h00
        split at h00
        · split at h00
          · cases h00
          · rename_i hn
            cases s with
            | none => rfl
            | some q => simp at hn
        · cases h00
      subst hs0
      subst hA
      have hbw : b < w.heap.size := by
        rcases Nat.lt_or_ge b w.heap.size with h' | h'
        · exact h'
        · simp [World.cell?, Addr.add, Array.getElem?_eq_none h'] at h00
      have := clean_cells (unbints l0) b o c0 w hT hbw (fun j hj => by
        have h1 := hat j (by rw [← hul]; exact hj)
        rw [show (⟨b, o, none⟩ : Addr).add j = ⟨b, o + j, none⟩ from by simp [Addr.add]] at h1
        exact h1) (by rw [hul]; exact hc0) (by rw [hul]; omega)
      rw [hul] at this
      exact this
  · rw [if_neg hs] at h
    cases h
end Go.Proofs.YtbgbmphjjdiaeaaDoor.P
