/- foot.Number. -/
import Derived.Test.YtbgbmphjjdiaeaaDoorFootW
import Derived.Test.YtbgbmphjjdiaeaaDoorFootB
import Derived.ScopeJumps
import Derived.Lib.AppendIntMem
import Derived.Lib.ItoaLen
namespace Go.Proofs.YtbgbmphjjdiaeaaDoor.P
open Go.RowKit Go.Maps Go.Proofs.YtbgbmphjjdiaeaaDoor.MF Go.Proofs.YtbgbmphjjdiaeaaDoorW.PrintWords Go.Proofs.YtbgbmphjjdiaeaaDoorW.PrintLast Go.Proofs.YtbgbmphjjdiaeaaDoorW.PrintMore
set_option linter.unusedVariables false
set_option linter.unusedSimpArgs false
/-! the notes that are told -/
mutual
theorem gaT_wt : ∀ (x : S24) (p : Bs × S24), p ∈ gaT x → wtT p.2 ≤ wtT x
  | ⟨a, b, c, d, e, f, l⟩, p, h => by
    have hr : p ∈ gaL l → wtT p.2 ≤ wtT ⟨a, b, c, d, e, f, l⟩ := fun h => by
      have := gaL_wt l p h
      rw [wtT]
      omega
    rw [gaT] at h
    split at h
    · rcases List.mem_cons.1 h with rfl | h
      · exact Nat.le_refl _
      · exact hr h
    · exact hr h
theorem gaL_wt : ∀ (l : List S24) (p : Bs × S24), p ∈ gaL l → wtT p.2 ≤ wtL l
  | [], p, h => by simp [gaL] at h
  | x :: r, p, h => by
    rw [gaL, List.mem_append] at h
    rw [wtL]
    rcases h with h | h
    · have := gaT_wt x p h; omega
    · have := gaL_wt r p h; omega
end
theorem fstF_mem (F : Bs → Option S24) (g : List (Bs × S24)) (s : Bs) (x : S24) (h : fstF F g s = some x) : F s = some x ∨ (s, x) ∈ g := by
  induction g generalizing F with
  | nil => exact .inl h
  | cons p g ih =>
    rcases ih _ h with h | h
    · split at h
      · exact .inl h
      · by_cases e : s = p.1
        · simp only [if_pos e] at h
          injection h with h
          exact .inr (by rw [e, ← h]; exact List.mem_cons_self ..)
        · simp only [if_neg e] at h
          exact .inl h
    · exact .inr (List.mem_cons_of_mem _ h)
def ndL (F : Bs → Option S24) (s : Bs) : List S24 := ((F s).getD z24).f6
theorem noteF_wt (l : List S24) (s : Bs) : wtL (ndL (noteF l) s) ≤ wtL l := by
  unfold ndL
  cases h : noteF l s with
  | none => simp [z24, wtL]
  | some x =>
    rcases fstF_mem _ _ _ _ h with h | h
    · cases h
    · have h1 := gaL_wt l _ h
      have h2 := wtT_eq x
      show wtL x.f6 ≤ _
      simp only at h1
      omega
theorem notes_at {w0 : World} {V : Bs → Option Value} {F : Bs → Option S24} (h : NotesOk w0 V F) (s : Bs) :
    ∃ (b0 : Int) (b1 b2 : ByteArray) (b3 b4 : Int) (b5 : Bool) (A : Option Addr) (n c : Nat), (V s).getD zag = .agg #[.int .i64 b0, .string b1, .string b2, .int .i64 b3, .int .i64 b4, .bool b5, .slice A n c] ∧ n = (ndL F s).length ∧ n ≤ c ∧ Kd.C k24 w0 A n (ndL F s) := by
  unfold ndL
  rcases h s with ⟨hv, hf⟩ | ⟨x, A, n, c, hf, hv, h1, h2, h3⟩
  · rw [hv, hf]
    exact ⟨0, ⟨#[]⟩, ⟨#[]⟩, 0, 0, false, none, 0, 0, rfl, rfl, Nat.le_refl _, Kd.C_nil k24 w0⟩
  · rw [hv, hf]
    exact ⟨_, _, _, _, _, _, _, _, _, rfl, h1, h2, h3⟩
theorem num0 (w : World) : NumI w (w.heap.size + 1 + 1 + 1 + 1) (w.heap.size + 1 + 1 + 1) w.heap.size (w.heap.size + 1) (w.heap.size + 1 + 1) (fun _ => none)
    (((((w.alloc (.map #[] 0)).alloc (.map #[] 0)).alloc (.map #[] 0)).alloc (.cells #[.map (some w.heap.size), .map (some (w.heap.size + 1)), .slice none 0 0, .map (some (w.heap.size + 1 + 1))] 62)).alloc (.cells #[.pointer (some ⟨w.heap.size + 1 + 1 + 1, 0, none⟩)] 58)) := by
  obtain ⟨w1, e1⟩ : ∃ w1, w1 = w.alloc (.map #[] 0) := ⟨_, rfl⟩
  obtain ⟨w2, e2⟩ : ∃ w2, w2 = w1.alloc (.map #[] 0) := ⟨_, rfl⟩
  obtain ⟨w3, e3⟩ : ∃ w3, w3 = w2.alloc (.map #[] 0) := ⟨_, rfl⟩
  obtain ⟨w4, e4⟩ : ∃ w4, w4 = w3.alloc (.cells #[.map (some w.heap.size), .map (some (w.heap.size + 1)), .slice none 0 0, .map (some (w.heap.size + 1 + 1))] 62) := ⟨_, rfl⟩
  obtain ⟨w5, e5⟩ : ∃ w5, w5 = w4.alloc (.cells #[.pointer (some ⟨w.heap.size + 1 + 1 + 1, 0, none⟩)] 58) := ⟨_, rfl⟩
  rw [← e1, ← e2, ← e3, ← e4, ← e5]
  have s1 : w1.heap.size = w.heap.size + 1 := by rw [e1, size_alloc]
  have s2 : w2.heap.size = w.heap.size + 1 + 1 := by rw [e2, size_alloc, s1]
  have s3 : w3.heap.size = w.heap.size + 1 + 1 + 1 := by rw [e3, size_alloc, s2]
  have s4 : w4.heap.size = w.heap.size + 1 + 1 + 1 + 1 := by rw [e4, size_alloc, s3]
  have b1 : Below w.heap.size w w1 := by rw [e1]; exact below_alloc (Below.refl _ _) _
  have b2 : Below w.heap.size w w2 := by rw [e2]; exact below_alloc b1 _
  have b3 : Below w.heap.size w w3 := by rw [e3]; exact below_alloc b2 _
  have b4 : Below w.heap.size w w4 := by rw [e4]; exact below_alloc b3 _
  have b5 : Below w.heap.size w w5 := by rw [e5]; exact below_alloc b4 _
  have k5 : Below w4.heap.size w4 w5 := by rw [e5]; exact below_alloc (Below.refl _ _) _
  have k4 : Below w3.heap.size w3 w5 := below_step (by rw [e4]; exact below_alloc (Below.refl _ _) _) k5
  have k3 : Below w2.heap.size w2 w5 := below_step (by rw [e3]; exact below_alloc (Below.refl _ _) _) k4
  have k2 : Below w1.heap.size w1 w5 := below_step (by rw [e2]; exact below_alloc (Below.refl _ _) _) k3
  have m1 : MapT w1 (id : Value → Value) w.heap.size (fun _ => none) := by rw [e1]; exact MapF.made w Tryd.prog 9 encT id
  have m2 : MapT w2 (Value.int .i64) (w.heap.size + 1) (fun _ => none) := by rw [e2, ← s1]; exact MapF.made w1 Tryd.prog 9 encT (Value.int .i64)
  have m3 : MapT w3 (Value.int .i64) (w.heap.size + 1 + 1) (fun _ => none) := by rw [e3, ← s2]; exact MapF.made w2 Tryd.prog 9 encT (Value.int .i64)
  have h4 : w5.heap[w.heap.size + 1 + 1 + 1]? = some (.cells #[.map (some w.heap.size), .map (some (w.heap.size + 1)), .slice none 0 0, .map (some (w.heap.size + 1 + 1))] 62 (0, 0)) := by
    rw [e5, e4, ← s3]; exact blk_alloc (blk_new _ _) _
  have h5 : w5.heap[w.heap.size + 1 + 1 + 1 + 1]? = some (.cells #[.pointer (some ⟨w.heap.size + 1 + 1 + 1, 0, none⟩)] 58 (0, 0)) := by
    rw [e5, ← s4]; exact blk_new _ _
  have en : numF cnt0 = fun _ => none := by funext s; simp [numF, cnt0]
  have er : refF cnt0 = fun _ => none := by funext s; simp [refF, cnt0]
  refine ⟨h5, ⟨⟨_, h4, Kd.R_nil _ _ _ _ _⟩, h5, ⟨fun _ => none, m1.below' k2, fun s => .inl ⟨rfl, rfl⟩⟩, ?_, ?_, b5, ⟨by omega, Nat.le_refl _, by omega, by omega⟩, ⟨by omega, by omega, by omega⟩⟩⟩
  · rw [en]; exact m2.below' k3
  · rw [er]; exact m3.below' k4
end Go.Proofs.YtbgbmphjjdiaeaaDoor.P
/- foot.Number: the walk. -/
namespace Go.Proofs.YtbgbmphjjdiaeaaDoor.P
open Go.RowKit Go.Maps Go.Proofs.YtbgbmphjjdiaeaaDoor.MF Go.Proofs.YtbgbmphjjdiaeaaDoorW.PrintWords Go.Proofs.YtbgbmphjjdiaeaaDoorW.PrintLast Go.Proofs.YtbgbmphjjdiaeaaDoorW.PrintMore
set_option linter.unusedVariables false
set_option linter.unusedSimpArgs false
theorem scope_jumps2 {P : Program} {a : Act} {w : World} {Q : Exit → Act → World → Prop} {c rest : Code} (l : Nat) (J : Act → World → Prop) (μ : Act → World → Nat) (hf : findLabel c l = some (Code.skip.seq rest))
    (pass : ∀ a w, J a w → rest.wp P (Exit.jump l (fun a' w' => J a' w' ∧ μ a' w' < μ a w) Q) a w)
    (first : (∀ a w, J a w → rest.wp P (Exit.jump l J Q) a w) → c.wp P (Exit.jump l J Q) a w) : (Code.scope c).wp P Q a w :=
  wp_scope_jumps l J μ hf (first (fun a w h => Code.wp_mono (fun e a' w' hq => by
    cases e with
    | goto l' => exact ⟨hq.1, hq.2.1⟩
    | normal => exact hq
    | exit id => exact hq
    | ret => exact hq
    | panic ch => exact hq
    | outgrown => exact hq) (pass a w h))) (fun a w h => wp_seq (wp_skip (pass a w h)))
theorem frame78 (arr : Array Value) (h : arr.size = 78) : ∃ t : Nat → Value, arr = #[t 0, t 1, t 2, t 3, t 4, t 5, t 6, t 7, t 8, t 9, t 10, t 11, t 12, t 13, t 14, t 15, t 16, t 17, t 18, t 19, t 20, t 21, t 22, t 23, t 24, t 25, t 26, t 27, t 28, t 29, t 30, t 31, t 32, t 33, t 34, t 35, t 36, t 37, t 38, t 39, t 40, t 41, t 42, t 43, t 44, t 45, t 46, t 47, t 48, t 49, t 50, t 51, t 52, t 53, t 54, t 55, t 56, t 57, t 58, t 59, t 60, t 61, t 62, t 63, t 64, t 65, t 66, t 67, t 68, t 69, t 70, t 71, t 72, t 73, t 74, t 75, t 76, t 77] ∧ ∀ i, t i = arr.getD i undef := by
  refine ⟨fun i => arr.getD i undef, ?_, fun _ => rfl⟩
  have e : arr = ((List.range 78).map (fun i => arr.getD i undef)).toArray := by
    apply Array.ext
    · simp [h]
    · intro i h1 h2
      simp [Array.getD, h1]
  exact e
/-- The frame at the label. -/
structure JFr (A0 : Option Addr) (n0 c0 cp : Nat) (v5 v6 : Value) (a' : Act) : Prop where
  size : a'.tmps.size = 78
  s0 : a'.tmps.getD 0 undef = .slice A0 n0 c0
  s1 : a'.tmps.getD 1 undef = undef
  s2 : a'.tmps.getD 2 undef = .slice none 0 0
  s3 : a'.tmps.getD 3 undef = .slice none 0 0
  s4 : a'.tmps.getD 4 undef = .pointer (some ⟨cp, 0, none⟩)
  s5 : a'.tmps.getD 5 undef = v5
  s6 : a'.tmps.getD 6 undef = v6
  df : a'.defers = []
theorem JFr.open {A0 : Option Addr} {n0 c0 cp : Nat} {v5 v6 : Value} {a' : Act} (h : JFr A0 n0 c0 cp v5 v6 a') : ∃ t : Nat → Value, a' = { tmps := #[.slice A0 n0 c0, undef, .slice none 0 0, .slice none 0 0, .pointer (some ⟨cp, 0, none⟩), v5, v6, t 7, t 8, t 9, t 10, t 11, t 12, t 13, t 14, t 15, t 16, t 17, t 18, t 19, t 20, t 21, t 22, t 23, t 24, t 25, t 26, t 27, t 28, t 29, t 30, t 31, t 32, t 33, t 34, t 35, t 36, t 37, t 38, t 39, t 40, t 41, t 42, t 43, t 44, t 45, t 46, t 47, t 48, t 49, t 50, t 51, t 52, t 53, t 54, t 55, t 56, t 57, t 58, t 59, t 60, t 61, t 62, t 63, t 64, t 65, t 66, t 67, t 68, t 69, t 70, t 71, t 72, t 73, t 74, t 75, t 76, t 77], defers := [] } := by
  obtain ⟨tm, df⟩ := a'
  obtain ⟨t, ht, hg⟩ := frame78 tm h.size
  refine ⟨t, ?_⟩
  have e0 := (hg 0).trans h.s0
  have e1 := (hg 1).trans h.s1
  have e2 := (hg 2).trans h.s2
  have e3 := (hg 3).trans h.s3
  have e4 := (hg 4).trans h.s4
  have e5 := (hg 5).trans h.s5
  have e6 := (hg 6).trans h.s6
  have e7 : df = [] := h.df
  subst e7
  rw [ht, e0, e1, e2, e3, e4, e5, e6]
theorem CnI.cells2 {w0 W : World} {cb nb ub rb : Nat} {F : Bs → Option S24} {st : Cnt} (h : CnI w0 cb nb ub rb F st W) : W.cell? ⟨cb + 1, 0, none⟩ = some (.pointer (some ⟨cb, 0, none⟩)) ∧ W.cell? ⟨cb, 0, none⟩ = some (.map (some nb)) := by
  obtain ⟨v, h1, _⟩ := h.sc
  exact ⟨blk_cell h.pc 0, blk_cell h1 0⟩
theorem CnI.cells3 {w0 W : World} {cb nb ub rb : Nat} {F : Bs → Option S24} {st : Cnt} (h : CnI w0 cb nb ub rb F st W) : W.cell? ⟨cb + 1, 0, none⟩ = some (.pointer (some ⟨cb, 0, none⟩)) ∧ W.cell? ⟨cb, 3, none⟩ = some (.map (some rb)) := by
  obtain ⟨v, h1, _⟩ := h.sc
  exact ⟨blk_cell h.pc 0, blk_cell h1 3⟩
/-- What stands at the label: k notes are done. -/
structure NmI (w0 : World) (cb nb ub rb : Nat) (F : Bs → Option S24) (st : Cnt) (out text : List S24) (v6 v5 : Value) (m : Nat) (wr : World) : Prop where
  cn : CnI w0 cb nb ub rb F st wr
  row : k24.R 24 wr w0.heap.size (fun q => m ≤ q) v6 out
  txt : k24.R 24 wr w0.heap.size (fun q => q < m) v5 text
  le : m ≤ wr.heap.size
  lo : ∀ s, st.cnt s ≤ (out.length + 1) * 1000000
  lord : st.ord.length ≤ (out.length + 1) * 1000000
  lout : out.length ≤ 100000
  lf1 : ∀ x ∈ out, x.f1.size ≤ 1000000000
theorem NmI.close {w0 wr w4 w9 : World} {cb nb ub rb : Nat} {F : Bs → Option S24} {st st2 : Cnt} {out text : List S24} {v6 v5 v9 : Value} {m : Nat} {p : S24} (h : NmI w0 cb nb ub rb F st out text v6 v5 m wr) (hc : CnI w0 cb nb ub rb F st2 w4) (hs : Same24 wr w4) (hg : w4.grownBy w9 v6.ownBlock)
    (hr : k24.R 24 w9 w0.heap.size (fun q => m ≤ q) v9 (out ++ [p])) (hlo : ∀ s, st2.cnt s ≤ st.cnt s + 1000000) (hlord : st2.ord.length ≤ st.ord.length + 1000000) (hlt : out.length < 100000) (hp : p.f1.size ≤ 1000000000) : NmI w0 cb nb ub rb F st2 (out ++ [p]) text v9 v5 m w9 := by
  have h6 := R24_same h.row hs
  have h5 := R24_same h.txt hs
  have hl : (out ++ [p]).length = out.length + 1 := by simp
  refine ⟨hc.grown24 hg (fun k hk => ⟨Kd.R_base h6 k hk, (own24 h6 k hk).2.2⟩), hr, Kd.R_grown h5 hg (fun k hk e => by have := (own24 h6 k e.symm).1; omega), by have := h.le; have := hs.1; have := hg.size; omega, fun s => ?_, ?_, by omega, ?_⟩
  · have := h.lo s
    have := hlo s
    rw [hl]
    omega
  · have := h.lord
    rw [hl]
    omega
  · intro x hx
    rcases List.mem_append.1 hx with hx | hx
    · exact h.lf1 x hx
    · rw [List.mem_singleton.1 hx]; exact hp
/-- The notes, the first k of them with their counts. -/
def outk (st : Cnt) (out : List S24) (k : Nat) : List S24 := (out.take k).map (withM st) ++ out.drop k
theorem outk_len (st : Cnt) (out : List S24) (k : Nat) : (outk st out k).length = out.length := by unfold outk; simp; omega
theorem outk_at (st : Cnt) (out : List S24) (k : Nat) (hk : k < out.length) : rd_T24 (outk st out k) (k : Int) = rd_T24 out (k : Int) ∧ (outk st out k).set k (withM st (rd_T24 out (k : Int))) = outk st out (k + 1) := by
  have hd : out.drop k = out[k] :: out.drop (k + 1) := List.drop_eq_getElem_cons hk
  have hl : ((out.take k).map (withM st)).length = k := by simp; omega
  have hr : rd_T24 out (k : Int) = out[k] := by unfold rd_T24; simp [List.getD_eq_getElem?_getD, List.getElem?_eq_getElem hk]
  constructor
  · unfold outk rd_T24
    simp only [Int.toNat_natCast]
    rw [List.getD_eq_getElem?_getD, List.getElem?_append_right (by omega), hl, Nat.sub_self, hd, List.getD_eq_getElem?_getD, List.getElem?_eq_getElem hk]
    rfl
  · rw [hr]
    unfold outk
    rw [List.set_append_right _ _ (by omega), hl, Nat.sub_self, hd, List.take_succ_eq_append_getElem hk, List.set_cons_zero, List.map_append, List.append_assoc]
    rfl
theorem outk_end (st : Cnt) (out : List S24) : outk st out out.length = out.map (withM st) := by unfold outk; simp
structure FinI (w0 : World) (cb nb ub rb : Nat) (F : Bs → Option S24) (st : Cnt) (out text : List S24) (v6 v5 : Value) (m k : Nat) (wr : World) : Prop where
  cn : CnI w0 cb nb ub rb F st wr
  row : k24.R 24 wr w0.heap.size (fun q => m ≤ q) v6 (outk st out k)
  txt : k24.R 24 wr w0.heap.size (fun q => q < m) v5 text
theorem FinI.round {w0 wr : World} {cb nb ub rb : Nat} {F : Bs → Option S24} {st : Cnt} {out text : List S24} {v5 : Value} {m k g c6 : Nat} (h : FinI w0 cb nb ub rb F st out text (.slice (some ⟨g, 0, none⟩) out.length c6) v5 m k wr) (hk : k < out.length) :
    wr.cell? ⟨g, k * 7 + 1, none⟩ = some (.string (rd_T24 out (k : Int)).f1) ∧ wr.cell? ⟨g, k * 7 + 4, none⟩ = some (.int .i64 (rd_T24 out (k : Int)).f4) ∧ (∀ j, wr.frozen? ⟨g, j, none⟩ = false) ∧
      FinI w0 cb nb ub rb F st out text (.slice (some ⟨g, 0, none⟩) out.length c6) v5 m (k + 1) (wr.setCell ⟨g, k * 7 + 4, none⟩ (.int .i64 (st.cnt (bts (rd_T24 out (k : Int)).f1) : Nat))) := by
  obtain ⟨e1, e2⟩ := outk_at st out k hk
  have hl := outk_len st out k
  obtain ⟨c, hcl, hM, hcell, hfz⟩ := Kd.R_elem h.row z24 (k : Int) (by omega) (by omega)
  simp only [Int.toNat_natCast] at hM hcell hfz
  have e1' : (outk st out k).getD k z24 = rd_T24 out (k : Int) := e1
  rw [e1'] at hM
  obtain ⟨y, ey⟩ : ∃ y, y = rd_T24 out (k : Int) := ⟨_, rfl⟩
  rw [← ey] at hM e2 ⊢
  obtain ⟨v, rfl, hv⟩ := k24_openM hM
  obtain ⟨hb1, hb2, cells, hb3⟩ := own24 h.row g rfl
  have hbase := Kd.R_base h.row g rfl
  have hseg := Kd.R_seg h.row (k : Int) (by omega) (by omega) (seg := [.int .i64 (st.cnt (bts y.f1) : Nat)]) (j := 4) (okp := fun q => m ≤ q ∧ q ≠ g) hcl (by simpa using hcell) (by show 4 + 1 ≤ 7; omega) (x' := withM st y)
    (k24_mkM wr w0.heap.size (fun q => m ≤ q ∧ q ≠ g) (withM st y) hv) (fun q hq => hq)
  simp only [Int.toNat_natCast] at hseg
  rw [e2] at hseg
  have hg : wr.grownBy (wr.setCell ⟨g, k * 7 + 4, none⟩ (.int .i64 (st.cnt (bts y.f1) : Nat))) (some g) := hseg.2
  exact ⟨hcell 1 _ rfl, hcell 4 _ rfl, fun j => blk_frozen hb3 j, ⟨h.cn.grown24 hg (fun q hq => by injection hq with hq; subst hq; exact ⟨hbase, cells, hb3⟩), hseg.1, Kd.R_grown h.txt hg (fun q hq e => by injection e with e; omega)⟩⟩
theorem FinI.drew {w0 wr : World} {cb nb ub rb : Nat} {F : Bs → Option S24} {st : Cnt} {out text : List S24} {v6 v5 : Value} {m k : Nat} (h : FinI w0 cb nb ub rb F st out text v6 v5 m k wr) : FinI w0 cb nb ub rb F st out text v6 v5 m k wr.drew :=
  ⟨h.cn.step (below_drew (Below.refl _ _)), Kd.R_drew h.row, Kd.R_drew h.txt⟩
def lenV : Value → Nat
  | .slice _ n _ => n
  | _ => 0
section
attribute [local go_sem] World.cell?_alloc_some World.cell?_setCell_far
set_option maxRecDepth 100000 in
set_option maxHeartbeats 8000000 in
theorem number21 (k : Nat) (A0 : Option Addr) (c0 : Nat) (l0 : List S24) (w : World) (hr0 : Kd.C k24 w A0 l0.length l0) (hc0 : l0.length ≤ c0) (hwt : wtL l0 ≤ 1000000) (out9 : List S24) (st9 : Cnt)
    (h : ntL (noteF l0) k (wkL (hasF (noteF l0)) l0 cnt0).2 [] = some (out9, st9)) (hT : Tabs w) :
    Calls Tryd.prog 21 #[.slice A0 l0.length c0] w fun e w' => ∃ (m : Nat) (v0 v1 : Value), e = .returned (.tuple #[v0, v1]) ∧ k24.R 24 w' w.heap.size (fun q => q < m) v0 (wkL (hasF (noteF l0)) l0 cnt0).1 ∧ k24.R 24 w' w.heap.size (fun q => m ≤ q) v1 (out9.map (withM st9)) ∧ Below w.heap.size w w' := by
  have HN0 := Aside0.mk (num0 w)
  obtain ⟨nb, enb⟩ : ∃ nb, nb = w.heap.size := ⟨_, rfl⟩
  have CG := Aside0.mk (fun W h => gather50 (dpL l0 + 1) l0 (fun _ => none) w W A0 c0 (w.heap.size + 1 + 1 + 1 + 1) (w.heap.size + 1 + 1 + 1) w.heap.size (w.heap.size + 1) (w.heap.size + 1 + 1) (by omega) (by omega) hr0 hc0 h hT)
  have CW := Aside0.mk (fun (L : List S24) (st : Cnt) (W : World) (A : Option Addr) (c : Nat) h2 h3 h4 h5 h6 h7 => walk_calls (dpL L + 1) L st w W A c (w.heap.size + 1 + 1 + 1) w.heap.size (w.heap.size + 1) (w.heap.size + 1 + 1) (noteF l0) (by omega) h2 h3 h4 h5 h6 h7)
  have hmm := @run_makeMap Tryd.prog
  have HW := Aside0.mk hwt
  have HR0 := Aside0.mk hr0
  have HC0 := Aside0.mk hc0
  have HH := Aside0.mk h
  have CW0 := Aside0.mk (fun (W : World) h7 => CW.out l0 cnt0 W A0 c0 (by omega) (fun x => by show 0 + _ ≤ _; omega) (by show 0 + _ ≤ _; omega) hr0 hc0 h7)
  clear hr0 hc0 hwt h hT
  go_enter Tryd.func21, Tryd.ntmps21
  go_wp2_with fail
  refine scope_jumps2 0 (fun a' w' => ∃ (m : Nat) (v5 : Value) (A6 : Option Addr) (c6 : Nat) (out : List S24) (st : Cnt) (q : Nat), JFr A0 l0.length c0 (w.heap.size + 1 + 1 + 1 + 1) v5 (.slice A6 out.length c6) a' ∧ Aside0 (ntL (noteF l0) q st out = some (out9, st9)) ∧ Aside0 (NmI w (w.heap.size + 1 + 1 + 1) w.heap.size (w.heap.size + 1) (w.heap.size + 1 + 1) (noteF l0) st out (wkL (hasF (noteF l0)) l0 cnt0).1 (.slice A6 out.length c6) v5 m w')) (fun a' _ => 1000001 - lenV (a'.tmps.getD 6 undef)) rfl ?pass ?first
  case first =>
    intro PASS
    have PS := Aside0.mk PASS
    clear PASS
    go_wp2_with (first
      | (go_at_call 49; (with_reducible refine (CG.out _ HN0.out).mono ?_); rintro e w1 ⟨rfl, hi, hs⟩; have q58 : w1.cell? ⟨w.heap.size + 1 + 1 + 1 + 1, 0, none⟩ = some (.pointer (some ⟨w.heap.size + 1 + 1 + 1, 0, none⟩)) := blk_cell hi.pc 0; have HC1 : Aside0 (CnI w (w.heap.size + 1 + 1 + 1) w.heap.size (w.heap.size + 1) (w.heap.size + 1 + 1) (noteF l0) cnt0 w1) := ⟨hi.cn⟩; clear hi hs)
      | (go_at_call 51; (with_reducible refine (CW0.out _ HC1.out).mono ?_); rintro e w2 ⟨v5, rfl, hw⟩; have HW2 := Aside0.mk hw; clear hw))
    go_step3
    rename_i K9 hK9
    refine hK9 _ _ (PS.out _ _ ?_)
    have hw := HW2.out
    have hc1 := fun s => wkL_cnt (hasF (noteF l0)) s l0 cnt0
    have hc2 := wkL_ord (hasF (noteF l0)) l0 cnt0
    have hwt := HW.out
    exact ⟨w2.heap.size, v5, none, 0, [], (wkL (hasF (noteF l0)) l0 cnt0).2, k, ⟨rfl, rfl, rfl, rfl, rfl, rfl, rfl, rfl, rfl⟩, ⟨HH.out⟩, ⟨⟨hw.cn, Kd.R_nil _ _ _ _ _, Kd.R_mono (Kd.R_bound hw.row) (fun q hq => hq.2.2.1), Nat.le_refl _, fun s => by have := hc1 s; have e0 : cnt0.cnt s = 0 := rfl; simp only [List.length_nil]; omega, by have e0 : cnt0.ord.length = 0 := rfl; simp only [List.length_nil]; omega, by simp, by simp⟩⟩⟩
  case pass =>
    rintro a' wr ⟨m, v5, A6, c6, out, st, q, hfr, HQ, HN⟩
    obtain ⟨t, rfl⟩ := hfr.open
    clear hfr
    cases q with
    | zero => exact absurd HQ.out (by simp [ntL])
    | succ q =>
      have hq := HQ.out
      rw [ntL] at hq
      have hcp : wr.cell? ⟨w.heap.size + 1 + 1 + 1 + 1, 0, none⟩ = some (.pointer (some ⟨w.heap.size + 1 + 1 + 1, 0, none⟩)) := blk_cell HN.out.cn.pc 0
      obtain ⟨vo, s1, s2⟩ := HN.out.cn.sc
      obtain ⟨Ao, co, eo⟩ := Kd.R_slice s2
      rw [List.length_map] at eo
      have hcb2 : wr.cell? ⟨w.heap.size + 1 + 1 + 1, 2, none⟩ = some (.slice Ao st.ord.length co) := by rw [← eo]; exact blk_cell s1 2
      have hcb0 : wr.cell? ⟨w.heap.size + 1 + 1 + 1, 0, none⟩ = some (.map (some w.heap.size)) := blk_cell s1 0
      have hout := HN.out.lout
      by_cases hlt : out.length < st.ord.length
      · rw [if_pos hlt] at hq
        by_cases hg : out.length < 100000 ∧ (st.ord.getD out.length []).length ≤ 1000000000
        · rw [if_pos hg] at hq
          obtain ⟨s, es⟩ : ∃ s, s = st.ord.getD out.length [] := ⟨_, rfl⟩
          rw [← es] at hq
          obtain ⟨L, eL⟩ : ∃ L, L = ndL (noteF l0) s := ⟨_, rfl⟩
          have hq : ntL (noteF l0) q (wkL (hasF (noteF l0)) L st).2 (out ++ [⟨13, txt s, ⟨#[]⟩, ((out.length + 1 : Nat) : Int), 0, false, (wkL (hasF (noteF l0)) L st).1⟩]) = some (out9, st9) := by rw [eL]; exact hq
          have hLw : wtL L ≤ 1000000 := by have := noteF_wt l0 s; rw [← eL] at this; have := HW.out; omega
          have HQ2 := Aside0.mk hq
          have p1 : (0 : Int) ≤ (out.length : Int) := by omega
          have q1 : (out.length : Int) < (st.ord.length : Int) := by omega
          have hrd := (Kd.R_reads' (by rw [eo] at s2; exact s2)).2.2
          obtain ⟨ad, ead, hx⟩ := Kd.at_string hrd (out.length : Int) p1 (by rw [List.length_map]; exact q1)
          rw [show rdOf ByteArray.empty (st.ord.map txt) (out.length : Int) = txt s from by rw [es]; unfold rdOf; simp [List.getD_eq_getElem?_getD, List.getElem?_eq_getElem hlt]] at hx
          subst ead
          rw [Int.toNat_natCast] at hx
          have hsl : s.length ≤ 9223372036854775807 := by rw [es]; have := hg.2; omega
          have hg1 := hg.1
          obtain ⟨V, h3, h4⟩ := HN.out.cn.nt
          obtain ⟨b0, b1, b2, b3, b4, b5, A, n, c, hv, hn, hnc, hC⟩ := notes_at h4 s
          rw [← eL] at hn hC
          obtain ⟨S, eS⟩ : ∃ S, S = txt s := ⟨_, rfl⟩
          rw [← eS] at hx HQ2
          have hb1 : Below wr.heap.size wr (wr.alloc (.cells #[.int .i64 13, .string S, .string ⟨#[]⟩, .int .i64 ((out.length : Int) + 1), .int .i64 0, .bool false, .slice none 0 0] 24)).drew := below_drew (below_alloc (Below.refl _ _) _)
          have hn1 : (wr.alloc (.cells #[.int .i64 13, .string S, .string ⟨#[]⟩, .int .i64 ((out.length : Int) + 1), .int .i64 0, .bool false, .slice none 0 0] 24)).drew.heap[wr.heap.size]? = some (.cells #[.int .i64 13, .string S, .string ⟨#[]⟩, .int .i64 ((out.length : Int) + 1), .int .i64 0, .bool false, .slice none 0 0] 24 (0, 0)) := blk_new wr _
          have hlk := look59 (h3.below' hb1) s hsl false
          rw [hv, ← eS] at hlk
          simp only [Bool.false_eq_true, if_false] at hlk
          have hfd : ∀ W, (Instr.field 24 (.agg #[.int .i64 b0, .string b1, .string b2, .int .i64 b3, .int .i64 b4, .bool b5, .slice A n c]) 6).run Tryd.prog W = .ok (.slice A n c) W := fun _ => by kernel_rfl
          have hdl : decide ((out.length : Int) < (st.ord.length : Int)) = true := decide_eq_true q1
          have CC : Aside0 (∀ W, CnI w (w.heap.size + 1 + 1 + 1) w.heap.size (w.heap.size + 1) (w.heap.size + 1 + 1) (noteF l0) st W → Calls Tryd.prog 51 #[.pointer (some ⟨w.heap.size + 1 + 1 + 1, 0, none⟩), .slice A n c] W fun e w' => ∃ v, e = .returned v ∧
              WkI w W (w.heap.size + 1 + 1 + 1) w.heap.size (w.heap.size + 1) (w.heap.size + 1 + 1) (noteF l0) (wkL (hasF (noteF l0)) L st).2 (wkL (hasF (noteF l0)) L st).1 v w') := ⟨fun W hW => by
            have := CW.out L st W A c (by omega) (fun x => by have := HN.out.lo x; omega) (by have := HN.out.lord; omega) (by rw [← hn]; exact hC) (by rw [← hn]; exact hnc) hW
            rw [← hn] at this
            exact this⟩
          have HCN1 := Aside0.mk (HN.out.cn.step hb1)
          have HX1 := Aside0.mk hn1
          have HSS := Aside0.mk (Same24.below hb1)
          have hco : st.ord.length ≤ co := by rw [eo] at s2; have := (Kd.R_reads' s2).2.1; exact this
          have hkN : IntKind.i64.wrap ((out.length : Int) + 1) = (out.length : Int) + 1 := by rw [IntKind.wrap_i64]; omega
          have HG1 := Aside0.mk hg1
          have HSS1 : Aside0 (S.size ≤ 1000000000) := ⟨by rw [eS, txt_size, es]; exact hg.2⟩
          have hlo : (∀ s, (wkL (hasF (noteF l0)) L st).2.cnt s ≤ st.cnt s + 1000000) ∧ (wkL (hasF (noteF l0)) L st).2.ord.length ≤ st.ord.length + 1000000 := ⟨fun s => by have := wkL_cnt (hasF (noteF l0)) s L st; omega, by have := wkL_ord (hasF (noteF l0)) L st; omega⟩
          have HLO := Aside0.mk hlo
          have kc : (wr.alloc (.cells #[.int .i64 13, .string S, .string ⟨#[]⟩, .int .i64 ((out.length : Int) + 1), .int .i64 0, .bool false, .slice none 0 0] 24)).cell? ⟨w.heap.size + 1 + 1 + 1 + 1, 0, none⟩ = some (.pointer (some ⟨w.heap.size + 1 + 1 + 1, 0, none⟩)) := blk_cell HCN1.out.pc 0
          have k0 : (wr.alloc (.cells #[.int .i64 13, .string S, .string ⟨#[]⟩, .int .i64 ((out.length : Int) + 1), .int .i64 0, .bool false, .slice none 0 0] 24)).cell? ⟨w.heap.size + 1 + 1 + 1, 0, none⟩ = some (.map (some w.heap.size)) := by obtain ⟨v9, q1, _⟩ := HCN1.out.sc; exact blk_cell q1 0
          generalize (wkL (hasF (noteF l0)) L st).2 = st2 at CC HQ2 HLO
          generalize (wkL (hasF (noteF l0)) L st).1 = L2 at CC HQ2
          obtain ⟨nn, enn⟩ : ∃ nn, nn = (out ++ [(⟨13, S, ⟨#[]⟩, (out.length : Int) + 1, 0, false, L2⟩ : S24)]).length := ⟨_, rfl⟩
          have HNN := Aside0.mk enn
          have hnn : nn = out.length + 1 := by rw [enn]; simp
          clear eS hlo hg1 hq s1 s2 eo es eL hLw hrd hsl h3 h4 hv hn hnc hC hb1 hn1 hlt hg enn
          go_wp2_with fail
          go_region_held3 (fun w' => w'.cell? ⟨w.heap.size + 1 + 1 + 1 + 1, 0, none⟩ = some (.pointer (some ⟨w.heap.size + 1 + 1 + 1, 0, none⟩)) ∧ w'.cell? ⟨w.heap.size + 1 + 1 + 1, 0, none⟩ = some (.map (some w.heap.size))) (first | exact ⟨kc, k0⟩ | exact KB.out | exact KC.out)
            (first
              | (go_at_call 51; (with_reducible refine (CC.out _ HCN1.out).mono ?_); rintro e w3 ⟨v50, rfl, hw⟩; obtain ⟨A50, c50, e50⟩ := Kd.R_slice hw.row; subst e50; have hx3 := hw.same.2 _ _ HX1.out; have d1 : w3.cell? ⟨wr.heap.size, 6, none⟩ = some (.slice none 0 0) := (box7 hx3).2.2.2.2.2.2; have d2 := blk_frozen hx3 6; have hx4 := blk_put hx3 6 (.slice A50 L2.length c50) (cs' := #[.int .i64 13, .string S, .string ⟨#[]⟩, .int .i64 ((out.length : Int) + 1), .int .i64 0, .bool false, .slice A50 L2.length c50]) (by simp); obtain ⟨m0, m1, m2, m3, m4, m5, m6⟩ := box7 hx4; have hc4 := hw.cn.setN hx3 HN.out.cn.below.size 6 (.slice A50 L2.length c50); have KB := Aside0.mk hw.cn.cells2; have KC := Aside0.mk hc4.cells2; have HC4 := Aside0.mk hc4; have HW3 := Aside0.mk hw; clear hw hx3 hx4 hc4))
          have HS4 : Aside0 (Same24 wr (w3.setCell ⟨wr.heap.size, 6, none⟩ (.slice A50 L2.length c50))) := ⟨(HSS.out.trans HW3.out.same).fresh_set (Nat.le_refl _)⟩
          have HO4 : Aside0 (k24.R 24 (w3.setCell ⟨wr.heap.size, 6, none⟩ (.slice A50 L2.length c50)) w.heap.size (fun q => m ≤ q) (.slice A6 out.length c6) out) := ⟨R24_same HN.out.row HS4.out⟩
          have HSZ : Aside0 (wr.heap.size < (wr.alloc (.cells #[.int .i64 13, .string S, .string ⟨#[]⟩, .int .i64 ((out.length : Int) + 1), .int .i64 0, .bool false, .slice none 0 0] 24)).drew.heap.size) := ⟨blk_lt HX1.out⟩
          have HM : Aside0 (k24.M (w3.setCell ⟨wr.heap.size, 6, none⟩ (.slice A50 L2.length c50)) w.heap.size (fun q => wr.heap.size < q) (⟨13, S, ⟨#[]⟩, (out.length : Int) + 1, 0, false, L2⟩ : S24) [.int .i64 13, .string S, .string ⟨#[]⟩, .int .i64 ((out.length : Int) + 1), .int .i64 0, .bool false, .slice A50 L2.length c50]) :=
            ⟨k24_mkM _ _ _ (⟨13, S, ⟨#[]⟩, (out.length : Int) + 1, 0, false, L2⟩ : S24) (Kd.R_far (p := ⟨wr.heap.size, 6, none⟩) (Kd.R_mono HW3.out.row (fun q hq => by have := HSZ.out; omega)) (fun q hq e => by have e : q = wr.heap.size := e; omega) _)⟩
          have HOK : Aside0 (∀ q, wr.heap.size < q → m ≤ q ∧ some q ≠ (Value.slice A6 out.length c6).ownBlock) := ⟨fun q hq => ⟨by have := HN.out.le; omega, fun e => by have := (own24 HN.out.row q e.symm).2.1; omega⟩⟩
          have HFR : Aside0 (∀ q, (w3.setCell ⟨wr.heap.size, 6, none⟩ (.slice A50 L2.length c50)).heap.size ≤ q → m ≤ q) := ⟨fun q hq => by have := HS4.out.1; have := HN.out.le; omega⟩
          clear kc k0 KB KC d1 d2 hlk hfd CC
          go_wp2_with ((with_reducible refine gate_builtin (b := .append) (xs := #[.tmp 52, .tmp 54]) rfl ?_); at_builtin; refine Kd.R_append k24 (w0 := w) w.heap.size rfl (.tmp 52) (.tmp 54) 22 24 (.agg #[(.int .i64 0), (.string ⟨#[]⟩), (.string ⟨#[]⟩), (.int .i64 0), (.int .i64 0), (.bool false), (.slice none 0 0)]) 88 rfl Tryd.underlying22 info24 rfl (by decide) (by omega) (.slice A6 out.length c6) out (⟨13, S, ⟨#[]⟩, (out.length : Int) + 1, 0, false, L2⟩ : S24) [.int .i64 13, .string S, .string ⟨#[]⟩, .int .i64 ((out.length : Int) + 1), .int .i64 0, .bool false, .slice A50 L2.length c50] (fun q => m ≤ q) (fun q => wr.heap.size < q) (by rfl) (by rw [World.size_setCell]; rfl) ?aP ?aK ?aF ?aO ?aB ?aS ?aL ?_; (case aP => exact HM.out); (case aK => exact HOK.out); (case aF => exact HFR.out); (case aO => exact HO4.out); (case aB => exact HC4.out.below); (case aS => exact HC4.out.below.size); (case aL => have := HG1.out; omega); intro v9 w9 ho hb hg hat; obtain ⟨A9, c9, e9⟩ := Kd.R_slice ho; rw [← HNN.out] at e9; subst e9; have HN9 := Aside0.mk (HN.out.close HC4.out HS4.out hg ho HLO.out.1 HLO.out.2 HG1.out HSS1.out); clear ho hb hg hat)
          go_step3
          exact ⟨rfl, ⟨m, v5, A9, c9, out ++ [(⟨13, S, ⟨#[]⟩, (out.length : Int) + 1, 0, false, L2⟩ : S24)], st2, q, ⟨rfl, rfl, rfl, rfl, rfl, rfl, rfl, by rw [List.length_append]; rfl, rfl⟩, HQ2, ⟨by have := HN9.out; rw [HNN.out] at this; exact this⟩⟩, by show 1000001 - (out.length + 1) < 1000001 - out.length; have := HG1.out; omega⟩
        · rw [if_neg hg] at hq
          cases hq
      · rw [if_neg hlt] at hq
        injection hq with hq
        injection hq with hq1 hq2
        subst hq1
        subst hq2
        have hkI : decide (out.length < st.ord.length) = false := decide_eq_false hlt
        have HF0 := Aside0.mk (show FinI w (w.heap.size + 1 + 1 + 1) w.heap.size (w.heap.size + 1) (w.heap.size + 1 + 1) (noteF l0) st out (wkL (hasF (noteF l0)) l0 cnt0).1 (.slice A6 out.length c6) v5 m 0 wr from ⟨HN.out.cn, by unfold outk; simpa using HN.out.row, HN.out.txt⟩)
        have HL1 := Aside0.mk HN.out.lf1
        have hco : st.ord.length ≤ co := by rw [eo] at s2; have := (Kd.R_reads' s2).2.1; exact this
        have hc6 := (Kd.R_reads' HN.out.row).2.1
        obtain ⟨n, en⟩ : ∃ n, n = out.length := ⟨_, rfl⟩
        have HEN := Aside0.mk en
        clear s1 s2 eo hlt hcb0 HQ
        rcases Nat.eq_zero_or_pos out.length with h0 | h0
        · have ho : out = [] := List.eq_nil_of_length_eq_zero h0
          have HFI := Aside0.mk (And.intro HN.out.txt (And.intro HN.out.row HN.out.cn.below))
          have hkJ : ¬ ((0 : Int) < (out.length : Int)) := by omega
          obtain ⟨W9, rfl⟩ : ∃ W9, W9 = wr := ⟨_, rfl⟩
          have hnil : out.map (withM st) = out := by rw [ho]; rfl
          have HNIL := Aside0.mk hnil
          clear ho hnil h0 HN HF0
          go_wp2_with fail
          go_loopw [58] (fun v wc => v = .int .i64 0 ∧ wc = W9) (fun v _ => 0)
          case atStart => exact ⟨rfl, rfl⟩
          case round =>
            obtain ⟨rfl, rfl⟩ := hrel
            go_wp2_with fail
            simp only [Exit.jump]
            go_ret2
            exact ⟨m, _, _, rfl, HFI.out.1, by rw [HNIL.out]; exact HFI.out.2.1, HFI.out.2.2⟩
        · obtain ⟨g, c', hv, hgb, hgl, _⟩ := Kd.R_form HN.out.row h0
          injection hv with hv1 hv2 hv3
          subst hv1
          clear hv2 hv3 hgb hgl HN
          go_wp2_with fail
          go_loopw [58] (fun v wc => ∃ k : Nat, k ≤ out.length ∧ v = .int .i64 k ∧ Aside0 (FinI w (w.heap.size + 1 + 1 + 1) w.heap.size (w.heap.size + 1) (w.heap.size + 1 + 1) (noteF l0) st out (wkL (hasF (noteF l0)) l0 cnt0).1 (.slice (some ⟨g, 0, none⟩) out.length c6) v5 m k wc)) (fun v _ => out.length - (intOf v).toNat)
          case atStart => exact ⟨0, by omega, rfl, HF0⟩
          case round =>
            clear HF0
            obtain ⟨k, hk, rfl, HFI⟩ := hrel
            by_cases hlt : k < out.length
            · obtain ⟨r1, r4, rfz, hnx⟩ := HFI.out.drew.round hlt
              have hz1 := HL1.out (rd_T24 out (k : Int)) (by unfold rd_T24; simp [List.getD_eq_getElem?_getD, List.getElem?_eq_getElem hlt])
              obtain ⟨y1, ey1⟩ : ∃ y1, y1 = (rd_T24 out (k : Int)).f1 := ⟨_, rfl⟩
              generalize (rd_T24 out (k : Int)).f4 = y4 at r4
              rw [← ey1] at r1 hnx hz1
              have hlk := look60 HFI.out.drew.cn.rm (bts y1) (by rw [bts_len]; omega)
              rw [txt_bts, refF_get] at hlk
              generalize ((st.cnt (bts y1) : Nat) : Int) = cm at hlk hnx
              have hc3 := HFI.out.cn.cells3
              have hn3 := hnx.cn.cells3
              have rf4 := rfz (k * 7 + 4)
              have hr1' : (wr.drew.setCell ⟨g, k * 7 + 4, none⟩ (.int .i64 cm)).cell? ⟨g, k * 7 + 1, none⟩ = some (.string y1) := by
                exact (World.cell?_setCell_other (w := wr.drew) (a := ⟨g, k * 7 + 4, none⟩) (b := ⟨g, k * 7 + 1, none⟩) (v := .int .i64 cm) (fun e => by injection e with _ e _; omega)).trans r1
              rw [World.setCell_drew] at hnx hn3 hr1'
              have K1 := Aside0.mk (And.intro hc3.1 (And.intro hc3.2 r1))
              have K2 := Aside0.mk (And.intro hn3.1 (And.intro hn3.2 hr1'))
              have HNX := Aside0.mk hnx
              have hkI : decide (k < out.length) = true := decide_eq_true hlt
              have hkJ : decide ((k : Int) < (out.length : Int)) = true := decide_eq_true (by omega)
              have p1 : (0 : Int) ≤ (k : Int) := by omega
              have q1 : (k : Int) < (out.length : Int) := by omega
              have hkN : IntKind.i64.wrap ((k : Int) + 1) = (k : Int) + 1 := by rw [IntKind.wrap_i64]; omega
              obtain ⟨hc30, hc31⟩ := hc3
              clear hnx hn3 hr1' rfz hz1 ey1
              go_wp2_with fail
              go_region_held3 (fun w' => w'.cell? ⟨w.heap.size + 1 + 1 + 1 + 1, 0, none⟩ = some (.pointer (some ⟨w.heap.size + 1 + 1 + 1, 0, none⟩)) ∧ w'.cell? ⟨w.heap.size + 1 + 1 + 1, 3, none⟩ = some (.map (some (w.heap.size + 1 + 1))) ∧ w'.cell? ⟨g, k * 7 + 1, none⟩ = some (.string y1)) (first | exact K1.out | exact K2.out) (fail)
              all_goals
                go_wp2_with fail
                go_roundw
                case rel => exact ⟨k + 1, by omega, by go_num, HNX⟩
                case measure => simp [intOf]; omega
            · obtain rfl : k = out.length := by omega
              have hkI : ¬ (out.length : Int) < (out.length : Int) := by omega
              have hrow := HFI.out.row
              rw [outk_end] at hrow
              have HRW := Aside0.mk hrow
              go_wp2_with fail
              simp only [Exit.jump]
              go_ret2
              exact ⟨m, _, _, rfl, HFI.out.txt, HRW.out, HFI.out.cn.below⟩
end
end Go.Proofs.YtbgbmphjjdiaeaaDoor.P
/- foot.Ids; foot.Number in the printer's form. -/
namespace Go.Proofs.YtbgbmphjjdiaeaaDoor.P
open Go.RowKit Go.Proofs.YtbgbmphjjdiaeaaDoorW.PrintWords Go.Proofs.YtbgbmphjjdiaeaaDoorW.PrintLast Go.Proofs.YtbgbmphjjdiaeaaDoorW.PrintMore
attribute [local go_sem] max2_int min2_int max_two min_two
set_option linter.unusedVariables false
set_option linter.unusedSimpArgs false
def itoaB (n : Int) : ByteArray := txt (Lib.itoa n)
def idN (a : Int) : ByteArray := (⟨#[102, 110, 45]⟩ : ByteArray) ++ itoaB (mx a 1)
def idR (a b : Int) : ByteArray := (⟨#[102, 110, 114, 101, 102, 45]⟩ : ByteArray) ++ itoaB (mx a 1) ++ (if b > 1 then (⟨#[45]⟩ : ByteArray) ++ itoaB b else ⟨#[]⟩)
def foot_Ids.f (a0 : Int) (a1 : Int) : Option (ByteArray × ByteArray) := if (-9223372036854775808 ≤ a0 ∧ a0 ≤ 9223372036854775807) ∧ (-9223372036854775808 ≤ a1 ∧ a1 ≤ 9223372036854775807) then some (idN a0, idR a0 a1) else none
theorem itoaB_size (n : Int) (h0 : -9223372036854775808 ≤ n) (h1 : n ≤ 9223372036854775807) : (itoaB n).size ≤ 21 := by
  unfold itoaB
  rw [txt_size]
  exact Lib.itoa_length_le n h0 h1
theorem itoa_calls (n : Int) (h0 : -9223372036854775808 ≤ n) (h1 : n ≤ 9223372036854775807) (w : World) (hT : Tabs w) : Calls Tryd.prog 69 #[.int .i64 n] w fun e w' => e = .returned (.string (itoaB n)) ∧ Below w.heap.size w w' :=
  (Tryd.strconv_Itoa n h0 h1 w hT.2).mono fun e w' ⟨he, k, os, hw⟩ => ⟨he, by rw [hw]; exact Lib.below_grow _ _ (Nat.le_refl _) _ _⟩
set_option maxRecDepth 100000 in
set_option maxHeartbeats 8000000 in
theorem foot_Ids.calls (a0 : Int) (a1 : Int) (r1 : ByteArray) (r2 : ByteArray) (w : World) (h : foot_Ids.f a0 a1 = some (r1, r2)) (hT : Tabs w) :
    Calls Tryd.prog 46 #[.int .i64 a0, .int .i64 a1] w fun e w' => e = .returned (.tuple #[.string r1, .string r2]) ∧ Below w.heap.size w w' := by
  unfold foot_Ids.f at h
  by_cases hb : (-9223372036854775808 ≤ a0 ∧ a0 ≤ 9223372036854775807) ∧ (-9223372036854775808 ≤ a1 ∧ a1 ≤ 9223372036854775807)
  · rw [if_pos hb] at h
    injection h with h
    injection h with h1 h2
    have hm : 1 ≤ mx a0 1 ∧ mx a0 1 ≤ 9223372036854775807 := by unfold mx; split <;> omega
    have hs := itoaB_size (mx a0 1) (by omega) hm.2
    have hd := itoaB_size a1 hb.2.1 hb.2.2
    have CM := Aside0.mk (fun (W : World) (hT : Tabs W) => itoa_calls (mx a0 1) (by omega) hm.2 W hT)
    have CD := Aside0.mk (fun (W : World) (hT : Tabs W) => itoa_calls a1 hb.2.1 hb.2.2 W hT)
    unfold idN at h1
    unfold idR at h2
    obtain ⟨s, es⟩ : ∃ s, s = itoaB (mx a0 1) := ⟨_, rfl⟩
    obtain ⟨d, ed⟩ : ∃ d, d = itoaB a1 := ⟨_, rfl⟩
    rw [← es] at hs CM h1 h2
    rw [← ed] at hd CD h2
    have g1 : 3 + s.size ≤ 9223372036854775807 := by omega
    have g2 : 6 + s.size ≤ 9223372036854775807 := by omega
    have g3 : 1 + d.size ≤ 9223372036854775807 := by omega
    have z6 : (⟨#[102, 110, 114, 101, 102, 45]⟩ : ByteArray).size = 6 := rfl
    have z1 : (⟨#[45]⟩ : ByteArray).size = 1 := rfl
    have g4 : ((⟨#[102, 110, 114, 101, 102, 45]⟩ : ByteArray) ++ s).size + ((⟨#[45]⟩ : ByteArray) ++ d).size ≤ 9223372036854775807 := by rw [ByteArray.size_append, ByteArray.size_append, z6, z1]; omega
    have g5 : 6 + s.size + (1 + d.size) ≤ 9223372036854775807 := by omega
    have g6 : ((⟨#[102, 110, 114, 101, 102, 45]⟩ : ByteArray) ++ s).size ≤ 9223372036854775807 := by rw [ByteArray.size_append, z6]; omega
    have c1 := eq_true g1
    have c2 := eq_true g2
    have c3 := eq_true g3
    have c4 := eq_true g4
    have c5 := eq_true g5
    have c6 := eq_true g6
    have n1 : (9223372036854775807 < 3 + s.size) = False := eq_false (Nat.not_lt.2 g1)
    have n2 : (9223372036854775807 < 6 + s.size) = False := eq_false (Nat.not_lt.2 g2)
    have n3 : (9223372036854775807 < 1 + d.size) = False := eq_false (Nat.not_lt.2 g3)
    have n4 : (9223372036854775807 < ((⟨#[102, 110, 114, 101, 102, 45]⟩ : ByteArray) ++ s).size + ((⟨#[45]⟩ : ByteArray) ++ d).size) = False := eq_false (Nat.not_lt.2 g4)
    have n5 : (9223372036854775807 < 6 + s.size + (1 + d.size)) = False := eq_false (Nat.not_lt.2 g5)
    have n6 : (9223372036854775807 < ((⟨#[102, 110, 114, 101, 102, 45]⟩ : ByteArray) ++ s).size) = False := eq_false (Nat.not_lt.2 g6)
    have HT := Aside0.mk hT
    have HH := Aside0.mk (And.intro h1 h2)
    have key : (a0 < 1 ∧ mx a0 1 = 1) ∨ (¬ a0 < 1 ∧ mx a0 1 = a0) := by unfold mx; split <;> omega
    rcases key with ⟨hlt, em⟩ | ⟨hlt, em⟩
    all_goals
      rw [em] at CM
      clear em
      by_cases h9 : a1 > 1
      · have hq : decide (1 < a1) = true := decide_eq_true h9
        have H9 := Aside0.mk h9
        clear g1 g2 g3 g4 g5 g6 z6 z1 hs hd h1 h2 es ed hm hb hT h9
        go_enter Tryd.func46, Tryd.ntmps46
        go_wp2_with (first | (go_at_call 69; (with_reducible refine (CM.out _ HT.out).mono ?_); rintro e w1 ⟨rfl, hb1⟩; have HB1 := Aside0.mk hb1; clear hb1) | (go_at_call 69; (with_reducible refine (CD.out _ (Tabs.below HT.out HB1.out)).mono ?_); rintro e w2 ⟨rfl, hb2⟩; have HB2 := Aside0.mk (below_step HB1.out hb2); clear hb2))
        go_ret2
        exact ⟨by rw [← HH.out.1, ← HH.out.2, if_pos H9.out]; rfl, HB2.out⟩
      · have hq : decide (1 < a1) = false := decide_eq_false h9
        have H9 := Aside0.mk h9
        clear g1 g2 g3 g4 g5 g6 z6 z1 hs hd h1 h2 es ed hm hb hT h9 CD
        go_enter Tryd.func46, Tryd.ntmps46
        go_wp2_with (first | (go_at_call 69; (with_reducible refine (CM.out _ HT.out).mono ?_); rintro e w1 ⟨rfl, hb1⟩; have HB1 := Aside0.mk hb1; clear hb1))
        go_ret2
        exact ⟨by rw [← HH.out.1, ← HH.out.2, if_neg (by have := H9.out; omega)]; first | rfl | (simp; done), HB1.out⟩
  · rw [if_neg hb] at h
    cases h
def foot_Number.f (k : Nat) (l0 : List S24) : Option (List S24 × List S24) :=
  if wtL l0 ≤ 1000000 then (ntL (noteF l0) k (wkL (hasF (noteF l0)) l0 cnt0).2 []).map fun q => ((wkL (hasF (noteF l0)) l0 cnt0).1, q.1.map (withM q.2)) else none
theorem ntL_mono (F : Bs → Option S24) : ∀ (k : Nat) (st : Cnt) (out : List S24), LeO (ntL F k st out) (ntL F (k + 1) st out)
  | 0, _, _ => fun r h => by cases h
  | k + 1, st, out => by
    intro r h
    rw [ntL] at h ⊢
    by_cases h1 : out.length < st.ord.length
    · rw [if_pos h1] at h ⊢
      by_cases h2 : out.length < 100000 ∧ (st.ord.getD out.length []).length ≤ 1000000000
      · rw [if_pos h2] at h ⊢
        exact ntL_mono F k _ _ r h
      · rw [if_neg h2] at h; cases h
    · rw [if_neg h1] at h ⊢
      exact h
theorem foot_Number.mono : ∀ a0 k, LeO (foot_Number.f k a0) (foot_Number.f (k + 1) a0) := by
  intro a0 k r h
  unfold foot_Number.f at h ⊢
  by_cases hw : wtL a0 ≤ 1000000
  · rw [if_pos hw] at h ⊢
    obtain ⟨q, hq, hr⟩ := Option.map_eq_some_iff.1 h
    exact Option.map_eq_some_iff.2 ⟨q, ntL_mono _ k _ _ q hq, hr⟩
  · rw [if_neg hw] at h; cases h
theorem foot_Number.calls (k : Nat) (A0 : Option Addr) (c0 : Nat) (l0 : List S24) (r1 : List S24) (r2 : List S24) (w : World) (hr0 : Kd.C k24 w A0 l0.length l0) (hc0 : l0.length ≤ c0) (h : foot_Number.f k l0 = some (r1, r2)) (hT : Tabs w) :
    Calls Tryd.prog 21 #[.slice A0 l0.length c0] w fun e w' => ∃ v0_ v1_ : Value, e = .returned (.tuple #[v0_, v1_]) ∧ Kd.N k24 24 w' w.heap.size (fun k_ => w.heap.size ≤ k_ ∧ some k_ ≠ (v1_ : Value).ownBlock) v0_ r1 ∧ Kd.N k24 24 w' w.heap.size (fun k_ => w.heap.size ≤ k_ ∧ some k_ ≠ (v0_ : Value).ownBlock) v1_ r2 ∧ Below w.heap.size w w' := by
  unfold foot_Number.f at h
  by_cases hw : wtL l0 ≤ 1000000
  · rw [if_pos hw] at h
    obtain ⟨q, hq, hr⟩ := Option.map_eq_some_iff.1 h
    injection hr with e1 e2
    subst e1
    subst e2
    refine (number21 k A0 c0 l0 w hr0 hc0 hw q.1 q.2 hq hT).mono ?_
    rintro e w' ⟨m, v0, v1, rfl, h0, h1, hb⟩
    exact ⟨v0, v1, rfl, Kd.R_N (Kd.R_mono (Kd.R_bound h0) (fun q hq => ⟨hq.2.1, fun e => by have := h1.1 q e.symm; have := hq.1; omega⟩)), Kd.R_N (Kd.R_mono (Kd.R_bound h1) (fun q hq => ⟨hq.2.1, fun e => by have := h0.1 q e.symm; have := hq.1; omega⟩)), hb⟩
  · rw [if_neg hw] at h; cases h
end Go.Proofs.YtbgbmphjjdiaeaaDoor.P
