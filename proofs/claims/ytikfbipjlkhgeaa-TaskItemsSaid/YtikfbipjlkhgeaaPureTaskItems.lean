/- TaskItems, the plain law: a text behind a mark, in an item's first paragraph, is behind a box. -/
import Derived.Test.YtikfbipjlkhgeaaPk13
import Derived.Test.YtikfbipjlkhgeaaTreeP
import Derived.Test.YtikfbipjlkhgeaaMarkL
import Derived.Test.YtikfbipjlkhgeaaApply
namespace Go.Proofs.Ytikfbipjlkhgeaa.P
open Go.RowKit Go.Proofs.YtikfbipjlkhgeaaW.PrintWords Go.Proofs.YtikfbipjlkhgeaaW.PrintLast Go.Proofs.YtikfbipjlkhgeaaW.PrintMore
set_option linter.unusedVariables false
set_option linter.unusedSimpArgs false
theorem awake16c : ∀ k, 20 ≤ k → incipitlaw16_awake.f k = some true := fun k hk => by
  have h : incipitlaw16_awake.f 20 = some true := by
    kernel_rfl
  obtain ⟨j, rfl⟩ := Nat.exists_eq_add_of_le hk
  clear hk
  induction j with
  | zero => exact h
  | succ j ih => exact incipitlaw16_awake.mono (20 + j) _ ih
theorem i64_and65535 (n : Int) : ∃ m : Nat, bits .and .i64 n 65535 = (m : Int) ∧ m ≤ 65535 := by
  have h31 : (BitVec.ofInt 64 65535).toNat = 2 ^ 16 - 1 := by decide
  have key : (BitVec.ofInt 64 n &&& BitVec.ofInt 64 65535).toNat = (n % ((2 ^ 64 : Nat) : Int)).toNat % 2 ^ 16 := by
    rw [BitVec.toNat_and, BitVec.toNat_ofInt, h31, Nat.and_two_pow_sub_one_eq_mod]
  refine ⟨(n % 65536).toNat, ?_, by omega⟩
  show IntKind.i64.wrap ((BitVec.ofInt 64 n &&& BitVec.ofInt 64 65535).toNat : Nat) = ((n % 65536).toNat : Int)
  rw [key, IntKind.wrap_i64]
  omega
def txt (s : ByteArray) : S24 := ⟨14, s, ⟨#[]⟩, 0, 0, false, []⟩
def node (a : Int) (l : List S24) : S24 := ⟨a, ⟨#[]⟩, ⟨#[]⟩, 0, 0, false, l⟩
def itm (s : ByteArray) : List S24 := [node 3 [node 4 [node 7 [txt s]]]]
def res (s : ByteArray) (c : Bool) : List S24 := [node 3 [node 4 [node 7 [⟨25, ⟨#[]⟩, ⟨#[]⟩, 0, 0, c, []⟩, txt (s.extract 3 s.size)]]]]
theorem item_f (s : ByteArray) : incipitlaw16_item.f s = some (itm s) := rfl
theorem app_txt (s : ByteArray) : appL false [txt s] = [txt s] := by
  rw [appL.eq_2, appL.eq_1, txt, appT.eq_1, if_neg (by decide), appL.eq_1]
theorem app_itm (s : ByteArray) (c : Bool) (h : markP s = (c, 3)) : task_Apply.f (itm s) = some (res s c) := by
  unfold task_Apply.f
  have hc : cnL (itm s) = 4 := by
    simp [itm, node, txt, cnL, cnT]
  rw [hc, if_pos (by decide)]
  have e1 : appL true [node 7 [txt s]] = [node 7 [⟨25, ⟨#[]⟩, ⟨#[]⟩, 0, 0, c, []⟩, txt (s.extract 3 s.size)]] := by
    rw [appL.eq_2, appL.eq_1, node, appT.eq_1, if_pos ⟨rfl, rfl⟩, app_txt, boxL.eq_2, if_pos ⟨rfl, by show (markP s).2 ≠ 0; rw [h]; show (3 : Int) ≠ 0; decide⟩]
    show [S24.mk _ _ _ _ _ _ [⟨25, _, _, _, _, (markP s).1, []⟩, ⟨14, s.extract (markP s).2.toNat s.size, _, _, _, _, []⟩]] = _
    rw [h]
    rfl
  have e2 : appL false [node 4 [node 7 [txt s]]] = [node 4 [node 7 [⟨25, ⟨#[]⟩, ⟨#[]⟩, 0, 0, c, []⟩, txt (s.extract 3 s.size)]]] := by
    rw [appL.eq_2, appL.eq_1, node, appT.eq_1, if_neg (by decide), show ((4 : Int) == 4) = true from rfl, e1]; rfl
  rw [itm, appL.eq_2, appL.eq_1, node, appT.eq_1, if_neg (by decide), show ((3 : Int) == 4) = false from rfl, e2]; rfl
theorem app_para (s : ByteArray) : task_Apply.f [node 7 [txt s]] = some [node 7 [txt s]] := by
  unfold task_Apply.f
  have hc : cnL [node 7 [txt s]] = 2 := by
    simp [node, txt, cnL, cnT]
  rw [hc, if_pos (by decide), appL.eq_2, appL.eq_1, node, appT.eq_1, if_neg (by decide), show ((7 : Int) == 4) = false from rfl, app_txt]
theorem sameAll_ev (l : List S24) (h : cntL l < 1000000) : Ev (fun k => incipitref06_SameAll.f k l l) true := by
  have cl : ∀ x : S24, x.f6.length < cntT x := fun x => by have := len_cntL x.f6; obtain ⟨a, b, c, d, e, f, l⟩ := x; rw [cntT.eq_1]; show l.length < _; have : l.length ≤ cntL l := this; omega
  have ec : cntT ⟨0, ⟨#[]⟩, ⟨#[]⟩, 0, 0, false, l⟩ = 1 + cntL l := cntT.eq_1 _ _ _ _ _ _ _
  have h4 := rsame_ev ⟨0, ⟨#[]⟩, ⟨#[]⟩, 0, 0, false, l⟩ (by have := len_cntL l; show l.length < _; omega) (fun u hu => by have := cl u; omega) ⟨0, ⟨#[]⟩, ⟨#[]⟩, 0, 0, false, l⟩
  rw [sameT_refl] at h4
  exact Ev.bind (f := fun _ t => some t) h4 (Ev.now _)
theorem rdc0 (x : S24) (l : List S24) : rd_T24 (x :: l) 0 = x := rfl
theorem rdc1 (x y : S24) (l : List S24) : rd_T24 (x :: y :: l) 1 = y := rfl
theorem node_f6 (a : Int) (l : List S24) : (node a l).f6 = l := rfl
theorem txt_f1 (s : ByteArray) : (txt s).f1 = s := rfl
theorem items_core (m s : ByteArray) (c : Bool) (hm : m.size = 3) (hs : s.size ≤ 500) (hmark : markP (m ++ (⟨#[32]⟩ : ByteArray)) = (c, 3)) (hc : (c == (m.toList != ([91, 32, 93] : List UInt8))) = true) :
    Ev (fun k => incipitlaw16_TaskItems.j0 k s true m (itm ((m ++ (⟨#[32]⟩ : ByteArray)) ++ s)) (res ((m ++ (⟨#[32]⟩ : ByteArray)) ++ s) c) false) true := by
  have hS : ((m ++ (⟨#[32]⟩ : ByteArray)) ++ s).size = 4 + s.size := by rw [ByteArray.size_append, ByteArray.size_append, hm]; rfl
  have hx : ((((m ++ (⟨#[32]⟩ : ByteArray)) ++ s).extract 3 ((m ++ (⟨#[32]⟩ : ByteArray)) ++ s).size)).toList = ((⟨#[32]⟩ : ByteArray) ++ s).toList := by
    congr 1
    rw [ByteArray.append_assoc, ByteArray.extract_append, ByteArray.extract_eq_empty_iff.2 (by omega), hm]
    rw [ByteArray.empty_append]
    have : ((⟨#[32]⟩ : ByteArray) ++ s).size = 1 + s.size := by rw [ByteArray.size_append]; rfl
    rw [ByteArray.size_append, this, show 3 - 3 = 0 from rfl, show m.size + (1 + s.size) - 3 = ((⟨#[32]⟩ : ByteArray) ++ s).size by omega, ByteArray.extract_zero_size]
  obtain ⟨K1, h1⟩ := sameAll_ev [node 7 [txt ((m ++ (⟨#[32]⟩ : ByteArray)) ++ s)]] (by simp [node, txt, cntL, cntT])
  obtain ⟨K2, h2⟩ := sameAll_ev (itm ((m ++ (⟨#[32]⟩ : ByteArray)) ++ s)) (by simp [itm, node, txt, cntL, cntT])
  refine ⟨K1 + K2 + 1, fun k hk => ?_⟩
  obtain ⟨k, rfl⟩ : ∃ q, k = q + 1 := ⟨k - 1, by omega⟩
  have e1 := h1 k (by omega)
  have e2 := h2 k (by omega)
  dsimp only at e1 e2 ⊢
  simp only [incipitlaw16_TaskItems.j0]
  rw [if_neg (by decide)]
  simp only [res, itm, rdc0, rdc1, node_f6, txt_f1, List.length_cons, List.length_nil]
  simp only [show (0 : Int) < ((0 + 1 : Nat) : Int) from by decide, show (0 : Int) < ((0 + 1 + 1 : Nat) : Int) from by decide, show (1 : Int) < ((0 + 1 + 1 : Nat) : Int) from by decide, if_true]
  rw [app_para, Option.bind_some, if_pos hc, if_pos (by omega)]
  refine (if_pos hx).trans ?_
  rw [e1, Option.bind_some, if_pos rfl, if_pos (by omega), if_pos (by rw [ByteArray.size_append, hm]; show 3 + 1 + s.size ≤ _; omega), item_f, Option.bind_some]
  have e3 := e2
  unfold itm at e3
  unfold itm
  rw [e3]
  rfl
theorem items_top (m s : ByteArray) (c : Bool) (a1 : Int) (hr : rdOf ByteArray.empty ([(⟨#[91, 32, 93]⟩ : ByteArray), (⟨#[91, 120, 93]⟩ : ByteArray), (⟨#[91, 88, 93]⟩ : ByteArray)] : List ByteArray) (Int.tmod (Go.bits .and .i64 a1 65535) 3) = m)
    (h0 : 0 ≤ Int.tmod (Go.bits .and .i64 a1 65535) 3) (h3 : Int.tmod (Go.bits .and .i64 a1 65535) 3 < 3) (hs : s.size ≤ 500) (hm : m.size = 3) (hmark : markP (m ++ (⟨#[32]⟩ : ByteArray)) = (c, 3)) (hc : (c == (m.toList != ([91, 32, 93] : List UInt8))) = true) :
    ∃ k, incipitlaw16_TaskItems.f k s a1 = some true := by
  obtain ⟨K, hK⟩ := items_core m s c hm hs hmark hc
  refine ⟨K + 20, ?_⟩
  have e := hK (K + 20) (by omega)
  dsimp only at e
  unfold incipitlaw16_TaskItems.f
  rw [awake16c _ (by omega), Option.bind_some, if_neg (by omega), Option.bind_some, hr, if_pos h0]
  refine (if_pos (show _ < ((3 : Nat) : Int) from h3)).trans ?_
  rw [if_pos (by omega), if_pos (by rw [ByteArray.size_append, hm]; show 3 + 1 + s.size ≤ _; omega), item_f, Option.bind_some, app_itm _ c (by rw [mark_app _ _ (by rw [hmark]; show (3 : Int) ≠ 0; decide), hmark]), Option.bind_some]
  simp only [res, rdc0, node_f6, List.length_cons, List.length_nil]
  simp only [show (0 : Int) < ((0 + 1 : Nat) : Int) from by decide, show ((0 + 1 : Nat) : Int) = 1 from rfl, if_true]
  rw [if_pos (by decide)]
  exact e
end Go.Proofs.Ytikfbipjlkhgeaa.P
namespace Go.Proofs.Ytikfbipjlkhgeaa.Pure
open Go.RowKit Go.Proofs.Ytikfbipjlkhgeaa.P Go.Proofs.YtikfbipjlkhgeaaW.PrintWords Go.Proofs.YtikfbipjlkhgeaaW.PrintLast
theorem TaskItems : incipitlaw16_TaskItems.Pure := by
  intro s a1 _ _
  by_cases hs : (s.size : Int) > 500
  · refine ⟨20, ?_⟩
    unfold incipitlaw16_TaskItems.f
    rw [awake16c _ (by omega), Option.bind_some, if_pos hs]
  · obtain ⟨m, hm, hle⟩ := i64_and65535 a1
    have ht : Int.tmod (Go.bits .and .i64 a1 65535) 3 = ((m % 3 : Nat) : Int) := by
      rw [hm, Int.tmod_eq_emod_of_nonneg (by omega)]; omega
    have hcase : m % 3 = 0 ∨ m % 3 = 1 ∨ m % 3 = 2 := by omega
    rcases hcase with h | h | h <;> rw [h] at ht
    · exact items_top ⟨#[91, 32, 93]⟩ s false a1 (by rw [ht]; rfl) (by rw [ht]; decide) (by rw [ht]; decide) (by omega) rfl (by rw [show (⟨#[91, 32, 93]⟩ : ByteArray) ++ (⟨#[32]⟩ : ByteArray) = ⟨#[91, 32, 93, 32]⟩ from rfl, mark_data]; decide) (by rw [ByteArray.toList_mk]; decide)
    · exact items_top ⟨#[91, 120, 93]⟩ s true a1 (by rw [ht]; rfl) (by rw [ht]; decide) (by rw [ht]; decide) (by omega) rfl (by rw [show (⟨#[91, 120, 93]⟩ : ByteArray) ++ (⟨#[32]⟩ : ByteArray) = ⟨#[91, 120, 93, 32]⟩ from rfl, mark_data]; decide) (by rw [ByteArray.toList_mk]; decide)
    · exact items_top ⟨#[91, 88, 93]⟩ s true a1 (by rw [ht]; rfl) (by rw [ht]; decide) (by rw [ht]; decide) (by omega) rfl (by rw [show (⟨#[91, 88, 93]⟩ : ByteArray) ++ (⟨#[32]⟩ : ByteArray) = ⟨#[91, 88, 93, 32]⟩ from rfl, mark_data]; decide) (by rw [ByteArray.toList_mk]; decide)
end Go.Proofs.Ytikfbipjlkhgeaa.Pure
