/- FootOrders, the plain law's parts (under way). -/
import Derived.Test.YtbgbmphjjdiaeaaDoorFootC
namespace Go.Proofs.YtbgbmphjjdiaeaaDoor.P
open Go.RowKit Go.Proofs.YtbgbmphjjdiaeaaDoorW.PrintWords Go.Proofs.YtbgbmphjjdiaeaaDoorW.PrintLast Go.Proofs.YtbgbmphjjdiaeaaDoorW.PrintMore
set_option linter.unusedVariables false
def nms : List ByteArray := [(⟨#[97]⟩ : ByteArray), (⟨#[98]⟩ : ByteArray), (⟨#[99]⟩ : ByteArray), (⟨#[100]⟩ : ByteArray), (⟨#[101]⟩ : ByteArray)]
def ntN (s : ByteArray) : S24 := ⟨13, s, (⟨#[]⟩ : ByteArray), 0, 0, false, []⟩
def rfN (s : ByteArray) : S24 := ⟨24, s, (⟨#[]⟩ : ByteArray), 0, 0, false, []⟩
def paN (p : List S24) : S24 := ⟨7, (⟨#[]⟩ : ByteArray), (⟨#[]⟩ : ByteArray), 0, 0, false, p⟩
def nts : List S24 := nms.map ntN
def F5 : Bs → Option S24 := fstF (fun _ => none) (gaL nts)
theorem F5_has : ∀ s ∈ nms, hasF F5 (bts s) = true := by
  have h : nms.all (fun s => hasF F5 (bts s)) = true := by kernel_rfl
  exact fun s hs => List.all_eq_true.1 h s hs
theorem ga_kids : ∀ p ∈ gaL nts, p.2.f6.length = 0 := by
  have h : (gaL nts).all (fun p => p.2.f6.length == 0) = true := by kernel_rfl
  exact fun p hp => by simpa using List.all_eq_true.1 h p hp
/-- What holds when i references are chosen. -/
structure OrdI (i : Nat) (p : List S24) (o : List ByteArray) : Prop where
  len : p.length = i
  ga : gaL p = []
  wt : wtL p ≤ 2 * i
  wl : (wkL (hasF F5) p cnt0).1.length = i
  od : (wkL (hasF F5) p cnt0).2.ord = o.map bts
  mem : ∀ s ∈ o, s ∈ nms
theorem OrdI.zero : OrdI 0 [] [] := ⟨rfl, by rw [gaL], by rw [wtL]; omega, by rw [wkL]; rfl, by rw [wkL]; rfl, by simp⟩
theorem bts_inj {a b : ByteArray} (h : bts a = bts b) : a = b := by
  have : txt (bts a) = txt (bts b) := by rw [h]
  exact ByteArray.ext (by simpa [txt, bts] using this)
/-- Whether the text is among those met. -/
def mt (o : List ByteArray) (s : ByteArray) : Bool := o.any fun t => t.toList == s.toList
theorem mt_iff (o : List ByteArray) (s : ByteArray) : mt o s = true ↔ s ∈ o := by
  unfold mt
  rw [List.any_eq_true]
  constructor
  · rintro ⟨t, ht, e⟩
    rw [beq_iff_eq, ByteArray.toList_eq, ByteArray.toList_eq] at e
    exact bts_inj (a := t) (b := s) e ▸ ht
  · intro h
    exact ⟨s, h, beq_self_eq_true _⟩
theorem OrdI.step {i : Nat} {p : List S24} {o : List ByteArray} (h : OrdI i p o) {s : ByteArray} (hs : s ∈ nms) (hz : s.size ≤ 1) : OrdI (i + 1) (p ++ [rfN s]) (if mt o s = true then o else o ++ [s]) := by
  have hk : wkT (hasF F5) (rfN s) (wkL (hasF F5) p cnt0).2 = (some ⟨24, s, ⟨#[]⟩, ((((wkL (hasF F5) p cnt0).2.add (bts s)).num (bts s) : Nat) : Int), ((((wkL (hasF F5) p cnt0).2.add (bts s)).cnt (bts s) : Nat) : Int), false, []⟩, (wkL (hasF F5) p cnt0).2.add (bts s)) := by
    rw [rfN, wkT, if_neg (by decide), if_pos rfl, if_pos (F5_has s hs), wkL]
  refine ⟨by rw [List.length_append, h.len]; rfl, ?_, ?_, ?_, ?_, ?_⟩
  · rw [gaL_app, h.ga, rfN, gaL, gaT, if_neg (by decide), gaL]; rfl
  · have := h.wt
    have e : (⟨#[]⟩ : ByteArray).size = 0 := rfl
    rw [wtL_app, rfN, wtL, wtT, wtL, e]
    omega
  · rw [wkL_snoc, hk]
    show (_ ++ [_]).length = _
    rw [List.length_append, h.wl]
    rfl
  · rw [wkL_snoc, hk]
    show ((wkL (hasF F5) p cnt0).2.add (bts s)).ord = _
    rw [add_ord, h.od]
    by_cases hm : s ∈ o
    · rw [if_pos ((mt_iff o s).2 hm), if_pos (List.mem_map_of_mem hm)]
    · rw [if_neg (fun h_ => hm ((mt_iff o s).1 h_)), if_neg (fun hh => by
        obtain ⟨t, ht, e⟩ := List.mem_map.1 hh
        exact hm (bts_inj e ▸ ht)), List.map_append]
      rfl
  · intro t ht
    by_cases hm : s ∈ o
    · rw [if_pos ((mt_iff o s).2 hm)] at ht; exact h.mem t ht
    · rw [if_neg (fun h_ => hm ((mt_iff o s).1 h_))] at ht
      rcases List.mem_append.1 ht with ht | ht
      · exact h.mem t ht
      · rw [List.mem_singleton.1 ht]; exact hs
theorem wkL_ntN (has : Bs → Bool) : ∀ (l : List ByteArray) (st : Cnt), wkL has (l.map ntN) st = ([], st)
  | [], st => by rw [List.map_nil, wkL]
  | s :: l, st => by
    rw [List.map_cons, wkL, ntN, wkT, if_pos rfl]
    have h := wkL_ntN has l st
    show ((([] : List S24) ++ (wkL has (l.map ntN) st).1), (wkL has (l.map ntN) st).2) = _
    rw [h]
    rfl
theorem wkL_pa (has : Bs → Bool) (p : List S24) (st : Cnt) : wkL has [paN p] st = ([paN (wkL has p st).1], (wkL has p st).2) := by
  rw [wkL, paN, wkT, if_neg (by decide), if_neg (by decide), wkL]
  rfl
theorem ga_pa {p : List S24} (h : gaL p = []) : gaL [paN p] = [] := by
  rw [gaL, paN, gaT, if_neg (by decide), h, gaL]
  rfl
/-- Notes ahead or behind: the notes told, and the walk. -/
theorem both_ways {i : Nat} {p : List S24} {o : List ByteArray} (h : OrdI i p o) (l : List S24) (hl : l = [paN p] ++ nts ∨ l = nts ++ [paN p]) : noteF l = F5 ∧ wkL (hasF F5) l cnt0 = ([paN (wkL (hasF F5) p cnt0).1], (wkL (hasF F5) p cnt0).2) := by
  have hg := ga_pa h.ga
  unfold noteF F5
  rcases hl with rfl | rfl
  · refine ⟨by rw [gaL_app, hg, List.nil_append], ?_⟩
    rw [wkL_app, wkL_pa]
    show (_ ++ (wkL _ (nms.map ntN) _).1, (wkL _ (nms.map ntN) _).2) = _
    rw [wkL_ntN]
    rfl
  · refine ⟨by rw [gaL_app, hg, List.append_nil], ?_⟩
    rw [wkL_app]
    show ((wkL _ (nms.map ntN) _).1 ++ (wkL _ _ (wkL _ (nms.map ntN) _).2).1, (wkL _ _ (wkL _ (nms.map ntN) _).2).2) = _
    rw [wkL_ntN, wkL_pa]
    rfl
theorem F5_kids (s : Bs) : ndL F5 s = [] := by
  unfold ndL
  cases h : F5 s with
  | none => rfl
  | some x =>
    rcases fstF_mem _ _ _ _ h with h | h
    · cases h
    · exact List.length_eq_zero_iff.1 (ga_kids _ h)
/-- The notes so far. -/
structure NtI (st : Cnt) (out : List S24) : Prop where
  le : out.length ≤ st.ord.length
  at_ : ∀ (i : Nat), i < out.length → (rd_T24 out (i : Int)).f3 = ((i + 1 : Nat) : Int) ∧ st.ord[i]? = some (bts (rd_T24 out (i : Int)).f1)
theorem ntL_flat (st : Cnt) (h1 : st.ord.length ≤ 1000) (h2 : ∀ s ∈ st.ord, s.length ≤ 1000) : ∀ (d : Nat) (out : List S24), st.ord.length - out.length ≤ d → NtI st out → ∃ out9, ntL F5 (d + 1) st out = some (out9, st) ∧ NtI st out9 ∧ out9.length = st.ord.length := by
  intro d
  induction d with
  | zero =>
    intro out hd ho
    have := ho.le
    exact ⟨out, by rw [ntL, if_neg (by omega)], ho, by omega⟩
  | succ d ih =>
    intro out hd ho
    by_cases hlt : out.length < st.ord.length
    · have hs : st.ord[out.length]? = some (st.ord.getD out.length []) := by
        rw [List.getD_eq_getElem?_getD, List.getElem?_eq_getElem hlt]
        rfl
      have h3 := h2 _ (List.mem_of_getElem? hs)
      rw [ntL_step _ _ _ _ hlt ⟨by omega, by omega⟩, F5_kids]
      have hk : wkL (hasF F5) [] st = ([], st) := by rw [wkL]
      rw [hk]
      refine ih _ (by rw [List.length_append, List.length_singleton]; omega) ⟨by rw [List.length_append, List.length_singleton]; omega, fun i hi => ?_⟩
      rw [List.length_append, List.length_singleton] at hi
      by_cases e : i = out.length
      · subst e
        rw [rd_app_end]
        exact ⟨rfl, by rw [bts_txt]; exact hs⟩
      · rw [rd_app_lt _ _ _ (by omega)]
        exact ho.at_ i (by omega)
    · have := ho.le
      exact ⟨out, by rw [ntL, if_neg hlt], ho, by omega⟩
theorem nms_size : ∀ s ∈ nms, s.size ≤ 1 := by
  have h : nms.all (fun s => decide (s.size ≤ 1)) = true := by kernel_rfl
  exact fun s hs => of_decide_eq_true (List.all_eq_true.1 h s hs)
/-- What foot.Number answers there. -/
theorem num_ord {i : Nat} {p : List S24} {o : List ByteArray} (h : OrdI i p o) (hi : i ≤ 40) (l : List S24) (hl : l = [paN p] ++ nts ∨ l = nts ++ [paN p]) : ∃ text out, Ev (fun k => foot_Number.f k l) (text, out) ∧ text.length = 1 ∧ (rd_T24 text 0).f6.length = i ∧ out.length = o.length ∧
    ∀ (j : Nat), j < out.length → (rd_T24 out (j : Int)).f3 = ((j + 1 : Nat) : Int) ∧ (o.map bts)[j]? = some (bts (rd_T24 out (j : Int)).f1) := by
  obtain ⟨h1, h2⟩ := both_ways h l hl
  have hn : wtL nts = 10 := by kernel_rfl
  have hw : wtL l ≤ 1000000 := by
    have h3 := h.wt
    have h4 : wtL [paN p] = 1 + wtL p := by
      have e : (⟨#[]⟩ : ByteArray).size = 0 := rfl
      rw [wtL, paN, wtT, e, wtL]
      omega
    rcases hl with rfl | rfl <;> (rw [wtL_app]; omega)
  have hol := (wkL_ord (hasF F5) p cnt0)
  have hc0 : cnt0.ord.length = 0 := rfl
  have hwp := h.wt
  obtain ⟨out9, g1, g2, g3⟩ := ntL_flat (wkL (hasF F5) p cnt0).2 (by omega) (fun s hs => by
    rw [h.od] at hs
    obtain ⟨t, ht, rfl⟩ := List.mem_map.1 hs
    have := nms_size t (h.mem t ht)
    rw [bts_len]
    omega) (wkL (hasF F5) p cnt0).2.ord.length [] (by omega) ⟨by simp, fun i hi => absurd hi (by simp)⟩
  refine ⟨[paN (wkL (hasF F5) p cnt0).1], out9.map (withM (wkL (hasF F5) p cnt0).2), Ev.of (fun k => foot_Number.mono l k) (k := (wkL (hasF F5) p cnt0).2.ord.length + 1) ?_, rfl, h.wl, ?_, fun j hj => ?_⟩
  · unfold foot_Number.f
    rw [if_pos hw, h1, h2, g1]
    rfl
  · rw [List.length_map, g3, h.od, List.length_map]
  · rw [List.length_map] at hj
    have e : rd_T24 (out9.map (withM (wkL (hasF F5) p cnt0).2)) (j : Int) = withM (wkL (hasF F5) p cnt0).2 (rd_T24 out9 (j : Int)) := by
      unfold rd_T24
      simp only [Int.toNat_natCast, List.getD_eq_getElem?_getD, List.getElem?_map]
      rw [List.getElem?_eq_getElem hj]
      rfl
    rw [e, ← h.od]
    exact g2.at_ j hj
end Go.Proofs.YtbgbmphjjdiaeaaDoor.P
