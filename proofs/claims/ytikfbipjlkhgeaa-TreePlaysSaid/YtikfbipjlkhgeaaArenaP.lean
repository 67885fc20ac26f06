/- One cell of one slot of an arena is written. -/
import Derived.Test.YtikfbipjlkhgeaaArenaB
namespace Go.Proofs.Ytikfbipjlkhgeaa.P
open Go.RowKit Go.Proofs.YtikfbipjlkhgeaaW.PrintWords Go.Proofs.YtikfbipjlkhgeaaW.PrintLast Go.Proofs.YtikfbipjlkhgeaaW.PrintMore
set_option linter.unusedVariables false
set_option linter.unusedSimpArgs false
theorem getD_setR {α : Type} (l : List α) (i j : Nat) (x z : α) (hi : i < l.length) : (l.set i x).getD j z = if i = j then x else l.getD j z := by
  rw [List.getD_eq_getElem?_getD, List.getElem?_set]
  by_cases h : i = j
  · rw [if_pos h, if_pos h, if_pos (by omega)]; rfl
  · rw [if_neg h, if_neg h, List.getD_eq_getElem?_getD]
theorem rd70_set (l : List S70) (i j : Nat) (x : S70) (hi : i < l.length) : rd_T70 (l.set i x) (j : Int) = if i = j then x else rd_T70 l (j : Int) := getD_setR l i j x z70 hi
theorem ArEx.put {w : World} {B g r n cap : Nat} {rows : List (List Value)} {sl : List S70} (i : Nat) (h : ArEx w B g (.slice (some ⟨r, 0, none⟩) n cap) rows sl i) (hi : i < sl.length) (j : Nat) (hj : j < 9) (u : Value) (hu : u.oneCell' = true) (x' : S70)
    (hrow : (rows.getD i []).set j u = rowOf x' (kid ((rows.getD i []).set j u))) (hbare : x'.f0.f6 = [])
    (hkid : (Kd.int .i64).R 3 w B (fun _ => True) (kid ((rows.getD i []).set j u)) x'.f2)
    (hap : ∀ q : Nat, q < sl.length → q ≠ i → ∀ k, (kid ((rows.getD i []).set j u)).ownBlock = some k → (kid (rows.getD q [])).ownBlock ≠ some k) :
    ArIn (w.setCell ⟨r, i * 9 + j, none⟩ u) B g (.slice (some ⟨r, 0, none⟩) n cap) (rows.set i ((rows.getD i []).set j u)) (sl.set i x') := by
  have hlr := h.len
  have hir : i < rows.length := by omega
  obtain ⟨cells, hty⟩ := Kd.R_typed h.row r rfl
  obtain ⟨hn, hnc, _⟩ := Kd.R_reads' h.row
  obtain ⟨c, hcl, hM, hcell, _⟩ := Kd.R_elem h.row ([] : List Value) (i : Int) (by omega) (by omega)
  simp only [Int.toNat_natCast] at hM hcell
  obtain ⟨hc1, hc2, hc3⟩ := hM
  have hcl9 : c.length = 9 := hcl
  have hset : (rows.getD i []).set j u = c.take j ++ [u] ++ c.drop (j + 1) := by
    rw [← hc1, List.set_eq_take_append_cons_drop, if_pos (by omega), List.append_assoc]
    rfl
  have hseg := Kd.R_seg h.row (i : Int) (by omega) (by omega) (c := c) (seg := [u]) (j := j) (okp := fun _ => False) hcl (by simpa using hcell) (by show j + 1 ≤ 9; omega) (x' := (rows.getD i []).set j u)
    ⟨hset.symm, by
      show (c.take j ++ [u] ++ c.drop (j + 1)).length = 9
      rw [← hset, List.length_set, ← hc1]; exact hcl9, fun v hv => by
      rw [List.mem_append, List.mem_append, List.mem_singleton] at hv
      rcases hv with (hv | hv) | hv
      · exact hc3 v (List.mem_of_mem_take hv)
      · rw [hv]; exact hu
      · exact hc3 v (List.mem_of_mem_drop hv)⟩ (fun k hk => hk.elim)
  simp only [Int.toNat_natCast] at hseg
  have hW : w.setCells r (i * (Kd.raw 9).sz + j) [u] = w.setCell ⟨r, i * 9 + j, none⟩ u := rfl
  rw [hW] at hseg
  have hgr : g ≠ r := fun e => by
    have h1 := h.blk
    rw [e, hty] at h1
    injection h1 with h1
    injection h1 with _ h1
    exact absurd h1 (by decide)
  have hne : ∀ q, q ∈ 3 :: (Kd.int .i64).E → q ≠ 70 := by decide
  refine ⟨h.lo, (Below.heap_setCell w ⟨r, i * 9 + j, none⟩ u g hgr).trans h.blk, hseg.1, by rw [List.length_set, List.length_set]; exact hlr, fun q hq => ?_, fun q hq => ?_, fun q hq => ?_, fun q p hq hp hqp k hk => ?_⟩
  · rw [List.length_set] at hq
    rw [getD_setR _ _ _ _ _ hir, rd70_set _ _ _ _ hi]
    by_cases e : i = q
    · rw [if_pos e, if_pos e]; exact hrow
    · rw [if_neg e, if_neg e]; exact h.at_ q hq
  · rw [List.length_set] at hq
    rw [rd70_set _ _ _ _ hi]
    by_cases e : i = q
    · rw [if_pos e]; exact hbare
    · rw [if_neg e]; exact h.bare q hq
  · rw [List.length_set] at hq
    rw [getD_setR _ _ _ _ _ hir, rd70_set _ _ _ _ hi]
    by_cases e : i = q
    · rw [if_pos e, if_pos e]; exact Kd.R_set hkid hty hne _ u
    · rw [if_neg e, if_neg e]; exact Kd.R_set (h.kids q hq (fun e3 => e e3.symm)) hty hne _ u
  · rw [List.length_set] at hq hp
    rw [getD_setR _ _ _ _ _ hir] at hk ⊢
    by_cases e : i = q
    · rw [if_pos e] at hk
      rw [if_neg (by omega)]
      exact hap p hp (by omega) k hk
    · rw [if_neg e] at hk
      by_cases e2 : i = p
      · rw [if_pos e2]
        intro hk2
        exact hap q hq (by omega) k hk2 hk
      · rw [if_neg e2]
        exact h.apart q p hq hp (fun e3 => e e3.symm) (fun e3 => e2 e3.symm) hqp k hk
theorem ArIn.setParent {w : World} {B g r n cap : Nat} {rows : List (List Value)} {sl : List S70} (h : ArIn w B g (.slice (some ⟨r, 0, none⟩) n cap) rows sl) (i : Nat) (hi : i < sl.length) (p : Int) :
    ArIn (w.setCell ⟨r, i * 9 + 7, none⟩ (.int .i64 p)) B g (.slice (some ⟨r, 0, none⟩) n cap) (rows.set i ((rows.getD i []).set 7 (.int .i64 p))) (sl.set i ⟨(rd_T70 sl (i : Int)).f0, p, (rd_T70 sl (i : Int)).f2⟩) := by
  have hr := h.at_ i hi
  have hk : kid ((rows.getD i []).set 7 (.int .i64 p)) = kid (rows.getD i []) := by rw [hr]; rfl
  refine ArEx.put i (h.ex i) hi 7 (by omega) _ rfl _ ?_ (h.bare i hi) ?_ fun q hq hqi k hk' => ?_
  · rw [hk]
    conv => lhs; rw [hr]
    rfl
  · rw [hk]; exact h.kids i hi
  · rw [hk] at hk'
    exact h.apart i q hi hq (fun e => hqi e.symm) k hk'
theorem ArIn.overKid {w w1 : World} {B g : Nat} {v : Value} {rows : List (List Value)} {sl : List S70} (h : ArIn w B g v rows sl) (p : Nat) (hp : p < sl.length) (hg : w.grownBy w1 (kid (rows.getD p [])).ownBlock) : ArEx w1 B g v rows sl p :=
  ⟨h.lo, blk_grown h.blk hg (Kd.R_ne (h.kids p hp) h.blk (by decide)), Kd.R_over h.row (h.kids p hp) (by decide) hg, h.len, h.at_, h.bare,
    fun i hi hne => R_int_ok (Kd.R_grown (R_int_ok (ok' := fun k => some k ≠ (kid (rows.getD p [])).ownBlock) (h.kids i hi) (fun k hk e => h.apart i p hi hp hne k hk e.symm)) hg (fun _ hk => hk)) (fun _ _ => trivial),
    fun i j hi hj _ _ => h.apart i j hi hj⟩
/-- A slot's children are others. -/
theorem ArIn.kidPut {w w1 : World} {B g r n cap : Nat} {rows : List (List Value)} {sl : List S70} (h : ArIn w B g (.slice (some ⟨r, 0, none⟩) n cap) rows sl) (p : Nat) (hp : p < sl.length) (v1 : Value) (l' : List Int)
    (hR : (Kd.int .i64).R 3 w1 B (fun _ => True) v1 l') (hg : w.grownBy w1 (kid (rows.getD p [])).ownBlock) (hat : v1.ownBlock = (kid (rows.getD p [])).ownBlock ∨ ∃ b, v1.ownBlock = some b ∧ w.heap.size ≤ b) :
    ArIn (w1.setCell ⟨r, p * 9 + 8, none⟩ v1) B g (.slice (some ⟨r, 0, none⟩) n cap) (rows.set p ((rows.getD p []).set 8 v1)) (sl.set p ⟨(rd_T70 sl (p : Int)).f0, (rd_T70 sl (p : Int)).f1, l'⟩) := by
  have hr := h.at_ p hp
  obtain ⟨A1, c1, hv1⟩ := Kd.R_slice hR
  have hk : kid ((rows.getD p []).set 8 v1) = v1 := by rw [hr]; rfl
  refine ArEx.put p (h.overKid p hp hg) hp 8 (by omega) v1 (by rw [hv1]; rfl) _ ?_ (h.bare p hp) ?_ fun q hq hqi k hk' => ?_
  · rw [hk]
    conv => lhs; rw [hr]
    rfl
  · rw [hk]; exact hR
  · rw [hk] at hk'
    rcases hat with e | ⟨b, hb, hlt⟩
    · rw [e] at hk'
      exact h.apart p q hp hq (fun e => hqi e.symm) k hk'
    · rw [hb] at hk'
      injection hk' with hk'
      subst hk'
      intro e
      have := Kd.R_lt (h.kids q hq) _ e
      omega
end Go.Proofs.Ytikfbipjlkhgeaa.P
