/- task.Mark told plainly; task.boxed. -/
import Derived.Test.YtikfbipjlkhgeaaClone
import Derived.Test.YtikfbipjlkhgeaaPk7
namespace Go.Proofs.Ytikfbipjlkhgeaa.P
open Go.RowKit Go.Proofs.YtikfbipjlkhgeaaW.PrintWords Go.Proofs.YtikfbipjlkhgeaaW.PrintLast Go.Proofs.YtikfbipjlkhgeaaW.PrintMore
set_option linter.unusedVariables false
set_option linter.unusedSimpArgs false
def markP (s : ByteArray) : Bool × Int := (task_Mark.f 1 s).getD (false, 0)
theorem mark_some (s : ByteArray) : task_Mark.f 1 s = some (markP s) ∧ ((markP s).2 = 0 ∨ ((markP s).2 = 3 ∧ 3 < s.size)) := by
  unfold markP
  unfold task_Mark.f
  by_cases h : (s.size : Int) ≤ 3
  · rw [if_pos h]; simp [task_Mark.j0]
  · rw [if_neg h, if_pos (by omega)]
    simp only [strings_IndexByte.f, Option.bind_some]
    unfold task_Mark.j0
    have h3 : (3 : Int) ≤ (s.size : Int) := by omega
    have h3' : 3 < s.size := by omega
    simp only [show (0 : Int) ≤ 3 from by decide, h3, if_true]
    repeat' split
    all_goals first | (simp [h3']; done) | omega
theorem mark_calls (s : ByteArray) (w : World) : Calls Try.prog 35 #[.string s] w fun e w' => e = .returned (.tuple #[.bool (markP s).1, .int .i64 (markP s).2]) ∧ Drawn0 w w' :=
  task_Mark.calls 1 s (markP s).1 (markP s).2 w (mark_some s).1
theorem mark_any (k : Nat) (s : ByteArray) : task_Mark.f (k + 1) s = some (markP s) := by
  induction k with
  | zero => exact (mark_some s).1
  | succ k ih => exact task_Mark.mono s (k + 1) _ ih
def boxL : List S24 → List S24
  | [] => []
  | t :: r => if t.f0 = 14 ∧ (markP t.f1).2 ≠ 0 then ⟨25, ⟨#[]⟩, ⟨#[]⟩, 0, 0, (markP t.f1).1, []⟩ :: ⟨t.f0, t.f1.extract (markP t.f1).2.toNat t.f1.size, t.f2, t.f3, t.f4, t.f5, t.f6⟩ :: r else t :: r
theorem raw_put {w : World} {B b n cap : Nat} {rows : List (List Value)} (h : (Kd.raw 7).R 24 w B (fun _ => True) (.slice (some ⟨b, 0, none⟩) n cap) rows) (i : Nat) (hi : i < rows.length) (j : Nat) (hj : j < 7) (u : Value) (hu : u.oneCell' = true) :
    (Kd.raw 7).R 24 (w.setCell ⟨b, i * 7 + j, none⟩ u) B (fun _ => True) (.slice (some ⟨b, 0, none⟩) n cap) (rows.set i ((rows.getD i []).set j u)) := by
  obtain ⟨hn, _⟩ := Kd.R_reads' h
  obtain ⟨c, hcl, hM, hcell, _⟩ := Kd.R_elem h ([] : List Value) (i : Int) (by omega) (by omega)
  simp only [Int.toNat_natCast] at hM hcell
  obtain ⟨hc1, hc2, hc3⟩ := hM
  have hcl9 : c.length = 7 := hcl
  have hset : (rows.getD i []).set j u = c.take j ++ [u] ++ c.drop (j + 1) := by
    rw [← hc1, List.set_eq_take_append_cons_drop, if_pos (by omega), List.append_assoc]
    rfl
  have hseg := Kd.R_seg h (i : Int) (by omega) (by omega) (c := c) (seg := [u]) (j := j) (okp := fun _ => False) hcl (by simpa using hcell) (by show j + 1 ≤ 7; omega) (x' := (rows.getD i []).set j u)
    ⟨hset.symm, by
      show (c.take j ++ [u] ++ c.drop (j + 1)).length = 7
      rw [← hset, List.length_set, ← hc1]; exact hcl9, fun v hv => by
      rw [List.mem_append, List.mem_append, List.mem_singleton] at hv
      rcases hv with (hv | hv) | hv
      · exact hc3 v (List.mem_of_mem_take hv)
      · rw [hv]; exact hu
      · exact hc3 v (List.mem_of_mem_drop hv)⟩ (fun k hk => hk.elim)
  simp only [Int.toNat_natCast] at hseg
  exact hseg.1
theorem raw_cell {w : World} {B b n cap : Nat} {rows : List (List Value)} (h : (Kd.raw 7).R 24 w B (fun _ => True) (.slice (some ⟨b, 0, none⟩) n cap) rows) (i : Nat) (hi : i < rows.length) (j : Nat) (u : Value) (hu : (rows.getD i [])[j]? = some u) : w.cell? ⟨b, i * 7 + j, none⟩ = some u := by
  obtain ⟨hn, _⟩ := Kd.R_reads' h
  obtain ⟨c, hcl, hM, hcell, _⟩ := Kd.R_elem h ([] : List Value) (i : Int) (by omega) (by omega)
  simp only [Int.toNat_natCast] at hM hcell
  obtain ⟨hc1, hc2, hc3⟩ := hM
  have := hcell j u (by rw [hc1]; exact hu)
  exact this
theorem raw_head {w : World} {B : Nat} {v : Value} {rows : List (List Value)} (h : (Kd.raw 7).R 24 w B (fun _ => True) v rows) (h0 : 0 < rows.length) : ∃ b c cells, v = .slice (some ⟨b, 0, none⟩) rows.length c ∧ rows.length ≤ c ∧ B ≤ b ∧ w.heap[b]? = some (.cells cells 24 (0, 0)) := by
  obtain ⟨_, inner, ⟨hil, ho⟩, hr⟩ := h
  rcases ho with ⟨rfl, hn⟩ | ⟨g, cap, cur, rfl, hb, hblk, hnc, _⟩
  · omega
  · exact ⟨g, cap, cur, rfl, hnc, hb, hblk⟩
theorem clone_head {W0 W : World} {A : Option Addr} {m c : Nat} {t : S24} {r : List S24} (h : Kd.C k24 W0 A m (t :: r)) (hb0 : Below W0.heap.size W0 W) (hc : m ≤ c) (hl : m < 1000000000) :
    Calls Try.prog 61 #[.slice A m c] W fun e w2 => ∃ b cb rows cells, e = .returned (.slice (some ⟨b, 0, none⟩) m cb) ∧ (Kd.raw 7).R 24 w2 W.heap.size (fun _ => True) (.slice (some ⟨b, 0, none⟩) m cb) rows ∧ rows.length = m ∧ (∀ i : Nat, i < m → k24.K W0 (rd_T24 (t :: r) (i : Int)) (rows.getD i [])) ∧
      W.heap.size ≤ b ∧ w2.heap[b]? = some (.cells cells 24 (0, 0)) ∧ w2.cell? ⟨b, 1, none⟩ = some (.string t.f1) ∧ Below W.heap.size W w2 := by
  have hm := h.1
  have hm0 : 0 < m := by rw [← hm]; simp
  refine (clone61 h hb0 hc hl).mono ?_
  rintro e w2 ⟨v, rows, rfl, hR, hrl, hrk, hb2⟩
  rw [hm] at hrl hrk
  obtain ⟨b, cb, cells, rfl, hcb, hBb, hblk⟩ := raw_head hR (by omega)
  rw [hrl] at hR ⊢
  obtain ⟨A6', c6', er0, l6', g6'⟩ := k24_open (hrk 0 hm0)
  have n1 : w2.cell? ⟨b, 1, none⟩ = some (.string t.f1) := by
    have h_ := raw_cell hR 0 (by omega) 1 (.string t.f1) (by rw [er0]; rfl)
    simpa using h_
  exact ⟨b, cb, rows, cells, rfl, hR, hrl, hrk, hBb, hblk, n1, hb2⟩
theorem C_of_raw {w : World} {B : Nat} {v : Value} {rows : List (List Value)} {l : List S24} (h : (Kd.raw 7).R 24 w B (fun _ => True) v rows) (hl : rows.length = l.length) (hk : ∀ i : Nat, i < l.length → k24.K w (rd_T24 l (i : Int)) (rows.getD i [])) :
    ∃ A c, v = .slice A l.length c ∧ l.length ≤ c ∧ Kd.C k24 w A l.length l := by
  obtain ⟨A, c, rfl⟩ := Kd.R_slice h
  obtain ⟨_, hc, hC⟩ := Kd.R_reads' h
  rw [hl] at hc hC ⊢
  refine ⟨A, c, rfl, hc, rfl, hC.2.1, fun h0 => ?_⟩
  obtain ⟨ad, rfl, ha⟩ := hC.2.2 h0
  refine ⟨ad, rfl, fun j x hx => ?_⟩
  have hj : j < l.length := (List.getElem?_eq_some_iff.1 hx).1
  have hjr : j < rows.length := by rw [hl]; exact hj
  obtain ⟨cs, hcs, hM, hcell⟩ := ha j _ (List.getElem?_eq_getElem hjr)
  have hkj := hk j hj
  have e1 : rows.getD j [] = rows[j] := by rw [List.getD_eq_getElem?_getD, List.getElem?_eq_getElem hjr]; rfl
  have e2 : rd_T24 l (j : Int) = x := by
    show l.getD j z24 = x
    rw [List.getD_eq_getElem?_getD, hx]; rfl
  rw [e1, e2, ← hM.1] at hkj
  exact ⟨cs, hcs, hkj, hcell⟩
theorem box_put {W0 W w2 : World} {b cb m : Nat} {rows : List (List Value)} {cells : Array Value} {t : S24} {r : List S24} (hm : m = (t :: r).length) (hl : m < 1000000000) (hR : (Kd.raw 7).R 24 w2 W.heap.size (fun _ => True) (.slice (some ⟨b, 0, none⟩) m cb) rows) (hrl : rows.length = m)
    (hrk : ∀ i : Nat, i < m → k24.K W0 (rd_T24 (t :: r) (i : Int)) (rows.getD i [])) (hBb : W.heap.size ≤ b) (hblk : w2.heap[b]? = some (.cells cells 24 (0, 0))) (hb2 : Below W.heap.size W w2) (ck : Bool) (s' : ByteArray) :
    Calls Try.prog 74 #[.slice (some ⟨b, 0, none⟩) m cb, .int .i64 0, .slice (some ⟨w2.heap.size, 0, none⟩) 1 1]
      ((w2.setCell ⟨b, 1, none⟩ (.string s')).alloc (.cells #[.int .i64 25, .string ⟨#[]⟩, .string ⟨#[]⟩, .int .i64 0, .int .i64 0, .bool ck, .slice none 0 0] 24)) fun e w' =>
      ∃ A' c', e = .returned (.slice A' (m + 1) c') ∧ m + 1 ≤ c' ∧ (∀ W', Below W0.heap.size W0 W' → (∀ q, W.heap.size ≤ q → q < w'.heap.size → W'.heap[q]? = w'.heap[q]?) → Kd.C k24 W' A' (m + 1) (⟨25, ⟨#[]⟩, ⟨#[]⟩, 0, 0, ck, []⟩ :: ⟨t.f0, s', t.f2, t.f3, t.f4, t.f5, t.f6⟩ :: r)) ∧ Below W.heap.size W w' := by
  have hm0 : 0 < m := by rw [hm]; simp
  have hp := raw_put hR 0 (by omega) 1 (by omega) (.string s') rfl
  rw [Nat.zero_mul, Nat.zero_add] at hp
  have hb3 : Below W.heap.size W (w2.setCell ⟨b, 1, none⟩ (.string s')) := below_set hb2 hBb
  generalize hw3 : w2.setCell ⟨b, 1, none⟩ (.string s') = w3 at hp hb3 ⊢
  have hs3 : w3.heap.size = w2.heap.size := by rw [← hw3]; exact World.size_setCell _ _ _
  have hblt := blk_lt hblk
  rw [← hs3]
  have hp2 := Kd.R_below hp (Below.alloc (Below.refl _ _) (Nat.le_refl _) (.cells #[.int .i64 25, .string ⟨#[]⟩, .string ⟨#[]⟩, .int .i64 0, .int .i64 0, .bool ck, .slice none 0 0] 24))
  have hb4 := below_alloc hb3 (.cells #[.int .i64 25, .string ⟨#[]⟩, .string ⟨#[]⟩, .int .i64 0, .int .i64 0, .bool ck, .slice none 0 0] 24)
  have hn := blk_new w3 (.cells #[.int .i64 25, .string ⟨#[]⟩, .string ⟨#[]⟩, .int .i64 0, .int .i64 0, .bool ck, .slice none 0 0] 24)
  generalize (w3.alloc (.cells #[.int .i64 25, .string ⟨#[]⟩, .string ⟨#[]⟩, .int .i64 0, .int .i64 0, .bool ck, .slice none 0 0] 24)) = w4 at hp2 hb4 hn ⊢
  have hlen : (rows.set 0 ((rows.getD 0 []).set 1 (.string s'))).length = m := by rw [List.length_set, hrl]
  rw [← hlen] at hp2
  have hI := insert_calls hp2 (by omega) (by omega) hn rfl (by intro u hu; simp at hu; rcases hu with rfl | rfl | rfl | rfl | rfl <;> rfl) (by omega) hb4.size
  rw [hlen] at hI
  refine hI.mono ?_
  rintro e w' ⟨v', rfl, hR', hb5⟩
  have hkk : ∀ W', Below W0.heap.size W0 W' → ∀ i : Nat, i < (⟨25, ⟨#[]⟩, ⟨#[]⟩, 0, 0, ck, []⟩ :: ⟨t.f0, s', t.f2, t.f3, t.f4, t.f5, t.f6⟩ :: r : List S24).length → k24.K W' (rd_T24 (⟨25, ⟨#[]⟩, ⟨#[]⟩, 0, 0, ck, []⟩ :: ⟨t.f0, s', t.f2, t.f3, t.f4, t.f5, t.f6⟩ :: r) (i : Int)) (([.int .i64 25, .string ⟨#[]⟩, .string ⟨#[]⟩, .int .i64 0, .int .i64 0, .bool ck, .slice none 0 0] :: rows.set 0 ((rows.getD 0 []).set 1 (.string s'))).getD i []) := fun W' hb6 i hi => by
    match i, hi with
    | 0, _ => exact k24_mk W' ⟨25, ⟨#[]⟩, ⟨#[]⟩, 0, 0, ck, []⟩ (A6 := none) (c6 := 0) (Nat.le_refl _) ⟨rfl, by simp, fun h => absurd h (by simp)⟩
    | 1, _ =>
      obtain ⟨A6', c6', er0, l6', g6'⟩ := k24_open (hrk 0 hm0)
      have e1 : (rows.set 0 ((rows.getD 0 []).set 1 (.string s'))).getD 0 [] = (rows.getD 0 []).set 1 (.string s') := by
        rw [List.getD_eq_getElem?_getD, List.getElem?_set_self (by omega)]; rfl
      show k24.K W' ⟨t.f0, s', t.f2, t.f3, t.f4, t.f5, t.f6⟩ ((rows.set 0 ((rows.getD 0 []).set 1 (.string s'))).getD 0 [])
      rw [e1, er0]
      exact k24_mk W' ⟨t.f0, s', t.f2, t.f3, t.f4, t.f5, t.f6⟩ l6' (Kd.C_below g6' hb6)
    | i + 2, hi =>
      have hk := hrk (i + 1) (by rw [hm]; simp at hi ⊢; omega)
      have e1 : (rows.set 0 ((rows.getD 0 []).set 1 (.string s'))).getD (i + 1) [] = rows.getD (i + 1) [] := by
        rw [List.getD_eq_getElem?_getD, List.getElem?_set_ne (by omega), List.getD_eq_getElem?_getD]
      show k24.K W' (rd_T24 (t :: r) ((i + 1 : Nat) : Int)) ((rows.set 0 ((rows.getD 0 []).set 1 (.string s'))).getD (i + 1) [])
      rw [e1]
      exact k24.K_below hb6 hk
  obtain ⟨A', c', hv'⟩ := Kd.R_slice hR'
  subst hv'
  have hlv : (⟨25, ⟨#[]⟩, ⟨#[]⟩, 0, 0, ck, []⟩ :: ⟨t.f0, s', t.f2, t.f3, t.f4, t.f5, t.f6⟩ :: r : List S24).length = m + 1 := by rw [hm]; simp
  have hlr : ([.int .i64 25, .string ⟨#[]⟩, .string ⟨#[]⟩, .int .i64 0, .int .i64 0, .bool ck, .slice none 0 0] :: rows.set 0 ((rows.getD 0 []).set 1 (.string s'))).length = m + 1 := by rw [List.length_cons, hlen]
  obtain ⟨_, hc', _⟩ := Kd.R_reads' hR'
  rw [hlr] at hc' hR' ⊢
  refine ⟨A', c', rfl, hc', fun W' hb6 hq => ?_, hb4.trans hb5⟩
  have hR2 := Kd.R_mono (ok' := fun _ => True) (Kd.R_move (w1 := W') (Kd.R_bound hR') (fun q hk => hq q hk.2.1 hk.2.2.1)) (fun _ _ => trivial)
  obtain ⟨A2, c2, he, _, hC'⟩ := C_of_raw hR2 (l := ⟨25, ⟨#[]⟩, ⟨#[]⟩, 0, 0, ck, []⟩ :: ⟨t.f0, s', t.f2, t.f3, t.f4, t.f5, t.f6⟩ :: r) (by rw [hlr, hlv]) (hkk W' hb6)
  rw [hlv] at hC' he
  injection he with he
  rw [he]
  exact hC'
section
attribute [local go_sem] World.cell?_alloc_some
set_option maxRecDepth 100000 in
set_option maxHeartbeats 8000000 in
theorem boxed_calls {w0 w : World} {A : Option Addr} {c : Nat} {l : List S24} (h : Kd.C k24 w0 A l.length l) (hb0 : Below w0.heap.size w0 w) (hc : l.length ≤ c) (hl : l.length < 1000000000) :
    Calls Try.prog 62 #[.slice A l.length c] w fun e w' => ∃ A' c', e = .returned (.slice A' (boxL l).length c') ∧ (boxL l).length ≤ c' ∧ (∀ W', Below w0.heap.size w0 W' → (∀ q, w.heap.size ≤ q → q < w'.heap.size → W'.heap[q]? = w'.heap[q]?) → Kd.C k24 W' A' (boxL l).length (boxL l)) ∧ Below w.heap.size w w' := by
  cases l with
  | nil =>
    have HC := Aside0.mk h
    clear h
    go_enter Try.func62, Try.ntmps62
    go_wp2_with fail
    go_ret
    exact ⟨A, c, rfl, by simp [boxL], fun W' hb _ => by simpa [boxL] using Kd.C_below HC.out hb, Below.refl _ _⟩
  | cons t r =>
    obtain ⟨ad, A6, c6, rfl, a0, a1, a2, a3, a4, a5, a6, _⟩ := at_T24 (Kd.C_below h hb0) 0 (by omega) (by simp)
    have e0 : rd_T24 (t :: r) 0 = t := rfl
    rw [e0] at a0 a1 a2 a3 a4 a5 a6
    have ead : ad.add 0 = ad := by go_simp
    simp only [Int.toNat_zero, Nat.zero_mul, ead] at a0 a1 a2 a3 a4 a5 a6
    clear ead
    obtain ⟨m, em⟩ : ∃ m, m = (t :: r).length := ⟨_, rfl⟩
    have hm0 : 0 < m := by rw [em]; simp
    have HEM := Aside0.mk em
    rw [← em] at hc hl ⊢
    have HC := Aside0.mk h
    have HB0 := Aside0.mk hb0
    have hmz : ((m : Int) == 0) = false := by simp; omega
    have hm0i : (0 : Int) < (m : Int) := by omega
    clear h em e0 hb0
    by_cases hk : t.f0 = 14
    · have hk' : (t.f0 != 14) = false := by simpa using hk
      obtain ⟨x0, ex0⟩ : ∃ x0, x0 = t.f0 := ⟨_, rfl⟩
      obtain ⟨s, es⟩ : ∃ s, s = t.f1 := ⟨_, rfl⟩
      rw [← ex0] at a0 hk hk'
      rw [← es] at a1
      have HKX := Aside0.mk hk
      have hbx := boxL.eq_2 t r
      rw [← ex0, ← es] at hbx
      have hms := (mark_some s).2
      have CM := Aside0.mk (mark_calls s)
      obtain ⟨ck, eck⟩ : ∃ ck, ck = (markP s).1 := ⟨_, rfl⟩
      obtain ⟨mk, emk⟩ : ∃ mk, mk = (markP s).2 := ⟨_, rfl⟩
      rw [← emk] at hms CM hbx
      rw [← eck] at CM hbx
      have HXE := Aside0.mk (And.intro ex0 es)
      clear ex0 es eck emk
      by_cases hmk : mk = 0
      · rw [if_neg (fun hh => hh.2 hmk)] at hbx
        have HBX := Aside0.mk hbx
        clear hbx hms hk
        subst hmk
        go_enter Try.func62, Try.ntmps62
        go_wp2_with (go_at_call 35; refine (CM.out _).mono ?_; rintro e w1 ⟨rfl, ⟨nd, rfl⟩⟩)
        go_ret
        rw [HBX.out, ← HEM.out]
        exact ⟨_, _, rfl, hc, fun W' hb _ => by rw [HEM.out]; exact Kd.C_below HC.out hb, pw_below_drewN (Below.refl _ _) _⟩
      · obtain ⟨hm3, hs3⟩ := hms.resolve_left hmk
        rw [if_pos ⟨hk, hmk⟩] at hbx
        have HBX := Aside0.mk hbx
        clear hbx hms hk hmk
        subst hm3
        have hs3' : (3 : Int) ≤ (s.size : Int) := by omega
        have hs3n : 3 ≤ s.size := by omega
        have CC := fun (W : World) (hb : Below w0.heap.size w0 W) => clone_head (W0 := w0) (W := W) (m := m) (c := c) (by rw [HEM.out]; exact HC.out) hb hc hl
        rw [← HXE.out.2] at CC
        have CC := Aside0.mk CC
        go_enter Try.func62, Try.ntmps62
        go_wp2_with (first | (go_at_call 35; refine (CM.out _).mono ?_; rintro e w1 ⟨rfl, ⟨nd, rfl⟩⟩) | (go_at_call 61; refine (CC.out _ (pw_below_drewN HB0.out _)).mono ?_; rintro e w2 ⟨b, cb, rows, cells, rfl, hR, hrl, hrk, hBb, hblk, n1, hb2⟩; have HR := Aside0.mk hR; have HRL := Aside0.mk hrl; have HRK := Aside0.mk hrk; have HB2 := Aside0.mk hb2; have hfz : ∀ j, w2.frozen? ⟨b, j, none⟩ = false := fun j => blk_frozen hblk j; have HBL := Aside0.mk hblk; have HBb := Aside0.mk hBb; clear hR hrl hrk hb2 hblk hBb) | (go_at_call 74; refine (box_put HEM.out hl HR.out HRL.out HRK.out HBb.out HBL.out HB2.out ck _).mono ?_; rintro e w3 ⟨A', c', rfl, hc', hC', hb3⟩; have HC' := Aside0.mk hC'; have HLC := Aside0.mk hc'; have HB3 := Aside0.mk hb3; clear hc' hC' hb3))
        go_ret
        have e : (boxL (t :: r)).length = m + 1 := by rw [HBX.out, HEM.out]; simp
        rw [e, HBX.out, HXE.out.1]
        exact ⟨A', c', rfl, HLC.out, HC'.out, (pw_below_drewN (Below.refl w.heap.size w) nd).trans HB3.out⟩
    · have hk' : (t.f0 != 14) = true := by simpa using hk
      obtain ⟨x0, ex0⟩ : ∃ x0, x0 = t.f0 := ⟨_, rfl⟩
      rw [← ex0] at a0 hk hk'
      have hbx : boxL (t :: r) = t :: r := by rw [boxL.eq_2, if_neg (fun hh => hk (ex0.trans hh.1))]
      have HBX := Aside0.mk hbx
      have HXE := Aside0.mk ex0
      clear hbx ex0 hk
      go_enter Try.func62, Try.ntmps62
      go_wp2_with fail
      go_ret
      rw [HBX.out, ← HEM.out]
      exact ⟨_, _, rfl, hc, fun W' hb _ => by rw [HEM.out]; exact Kd.C_below HC.out hb, Below.refl _ _⟩
end
end Go.Proofs.Ytikfbipjlkhgeaa.P
