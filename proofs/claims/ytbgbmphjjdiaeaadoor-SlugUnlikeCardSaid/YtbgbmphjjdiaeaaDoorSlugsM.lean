/- slug.heads, for a closure told by its contract: each heading is told, in order; the nodes are built anew. -/
import Derived.Test.YtbgbmphjjdiaeaaDoorFootA
import Derived.Test.YtbgbmphjjdiaeaaDoorFoldS
import Derived.Test.YtbgbmphjjdiaeaaDoorShelf2
import Derived.Test.YtbgbmphjjdiaeaaDoorForms19
import Derived.Test.YtbgbmphjjdiaeaaDoorFold
import Derived.Lib.AppendIntMem
import Derived.Deep.RegionHeldLaw
namespace Go.Proofs.YtbgbmphjjdiaeaaDoor.P
open Go.RowKit Go.Maps Go.Proofs.YtbgbmphjjdiaeaaDoor.MF Go.Proofs.YtbgbmphjjdiaeaaDoorW.PrintWords Go.Proofs.YtbgbmphjjdiaeaaDoorW.PrintLast Go.Proofs.YtbgbmphjjdiaeaaDoorW.PrintMore
set_option linter.unusedVariables false
set_option linter.unusedSimpArgs false
mutual
def hcT : S24 → Nat
  | ⟨a, _, _, _, _, _, l⟩ => (if a = 8 then 1 else 0) + hcL l
def hcL : List S24 → Nat
  | [] => 0
  | x :: r => hcT x + hcL r
end
theorem hcT_eq (x : S24) : hcT x = (if x.f0 = 8 then 1 else 0) + hcL x.f6 := by obtain ⟨a, b, c, d, e, f, l⟩ := x; exact hcT.eq_1 a b c d e f l
theorem hcL_app (a b : List S24) : hcL (a ++ b) = hcL a + hcL b := by
  induction a with
  | nil => simp [hcL]
  | cons x r ih => rw [List.cons_append, hcL, hcL, ih]; omega
mutual
theorem hc_wtT : ∀ x : S24, hcT x ≤ wtT x
  | ⟨a, b, c, d, e, f, l⟩ => by
    have h := hc_wtL l
    rw [hcT, wtT]
    split <;> omega
theorem hc_wtL : ∀ l : List S24, hcL l ≤ wtL l
  | [] => Nat.le_refl _
  | x :: r => by have h1 := hc_wtT x; have h2 := hc_wtL r; rw [hcL, wtL]; omega
end
theorem hc_take {l : List S24} {k : Nat} (h : k < l.length) : hcL l = hcL (l.take k) + (hcT (rd_T24 l (k : Int)) + hcL (l.drop (k + 1))) := by
  have h1 := hcL_app (l.take (k + 1)) (l.drop (k + 1))
  rw [List.take_append_drop, take_rd h, hcL_app] at h1
  simp only [hcL] at h1
  omega
mutual
def hdT {σ : Type} (t : σ → S24 → σ × ByteArray) : S24 → σ → σ × S24
  | ⟨a, b, c, d, e, f, l⟩, st =>
    if a = 8 then ((hdL t l (t st ⟨a, b, c, d, e, f, l⟩).1).1, ⟨a, b, (t st ⟨a, b, c, d, e, f, l⟩).2, d, e, f, (hdL t l (t st ⟨a, b, c, d, e, f, l⟩).1).2⟩)
    else ((hdL t l st).1, ⟨a, b, c, d, e, f, (hdL t l st).2⟩)
def hdL {σ : Type} (t : σ → S24 → σ × ByteArray) : List S24 → σ → σ × List S24
  | [], st => (st, [])
  | x :: r, st => ((hdL t r (hdT t x st).1).1, (hdT t x st).2 :: (hdL t r (hdT t x st).1).2)
end
section
variable {σ : Type} {t : σ → S24 → σ × ByteArray}
theorem hdT_eq (x : S24) (st : σ) : hdT t x st =
    if x.f0 = 8 then ((hdL t x.f6 (t st x).1).1, ⟨x.f0, x.f1, (t st x).2, x.f3, x.f4, x.f5, (hdL t x.f6 (t st x).1).2⟩)
    else ((hdL t x.f6 st).1, ⟨x.f0, x.f1, x.f2, x.f3, x.f4, x.f5, (hdL t x.f6 st).2⟩) := by obtain ⟨a, b, c, d, e, f, l⟩ := x; exact hdT.eq_1 t st a b c d e f l
theorem hdL_app (a b : List S24) (st : σ) : hdL t (a ++ b) st = ((hdL t b (hdL t a st).1).1, (hdL t a st).2 ++ (hdL t b (hdL t a st).1).2) := by
  induction a generalizing st with
  | nil => simp [hdL]
  | cons x r ih => rw [List.cons_append, hdL, ih, hdL]; simp
theorem hdL_snoc (a : List S24) (x : S24) (st : σ) : hdL t (a ++ [x]) st = ((hdT t x (hdL t a st).1).1, (hdL t a st).2 ++ [(hdT t x (hdL t a st).1).2]) := by
  rw [hdL_app, hdL, hdL]
theorem hdL_len (l : List S24) (st : σ) : (hdL t l st).2.length = l.length := by
  induction l generalizing st with
  | nil => rfl
  | cons x r ih => rw [hdL, List.length_cons, List.length_cons, ih]
end
/-- But for one block, the blocks of nodes are the same. -/
def Sm24x (nx : Nat) (w w1 : World) : Prop := w.heap.size ≤ w1.heap.size ∧ ∀ (q : Nat) (cells : Array Value), q ≠ nx → w.heap[q]? = some (.cells cells 24 (0, 0)) → w1.heap[q]? = some (.cells cells 24 (0, 0))
theorem Sm24x.of {w w1 : World} (h : Same24 w w1) (nx : Nat) : Sm24x nx w w1 := ⟨h.1, fun q c _ hq => h.2 q c hq⟩
theorem Sm24x.trans {w w1 w2 : World} {nx : Nat} (h : Sm24x nx w w1) (k : Sm24x nx w1 w2) : Sm24x nx w w2 := ⟨Nat.le_trans h.1 k.1, fun q c hne hq => k.2 q c hne (h.2 q c hne hq)⟩
theorem Sm24x.set (w : World) (nx j : Nat) (v : Value) : Sm24x nx w (w.setCell ⟨nx, j, none⟩ v) :=
  ⟨by rw [World.size_setCell]; exact Nat.le_refl _, fun q c hne hq => blk_far hq (p := ⟨nx, j, none⟩) hne v⟩
theorem sm_fresh_x {w w1 w2 : World} {nx : Nat} (h : Same24 w w1) (hx : Sm24x nx w1 w2) (hn : w.heap.size ≤ nx) : Same24 w w2 :=
  ⟨Nat.le_trans h.1 hx.1, fun q c hq => hx.2 q c (by have := blk_lt hq; omega) (h.2 q c hq)⟩
theorem sm_fresh_set {w w1 : World} {g j : Nat} {v : Value} (h : Same24 w w1) (hn : w.heap.size ≤ g) : Same24 w (w1.setCell ⟨g, j, none⟩ v) := sm_fresh_x h (Sm24x.set w1 g j v) hn
theorem sm_fresh_grown {w w1 w2 : World} {row : Option Nat} (h : Same24 w w1) (hg : w1.grownBy w2 row) (hr : ∀ k, row = some k → w.heap.size ≤ k) : Same24 w w2 :=
  ⟨Nat.le_trans h.1 hg.size, fun q c hq => blk_grown (h.2 q c hq) hg (fun e => by have := hr q e.symm; have := blk_lt hq; omega)⟩
theorem own24h {w : World} {B : Nat} {ok : Nat → Prop} {v : Value} {xs : List S24} (h : k24.R 24 w B ok v xs) : ∀ k, v.ownBlock = some k → ok k ∧ k < w.heap.size ∧ ∃ cells, w.heap[k]? = some (.cells cells 24 (0, 0)) := fun k hk =>
  ⟨h.1 k hk, Kd.R_lt h k hk, Kd.R_typed h k hk⟩
/-- What a closure does to its state, and to the node that it is told. -/
structure TellK (f p : Nat) (w0 : World) {σ : Type} (I : σ → World → Prop) (t : σ → S24 → σ × ByteArray) (G : σ → Nat → Prop) : Prop where
  below : ∀ {st : σ} {W : World}, I st W → Below w0.heap.size w0 W
  step : ∀ {st : σ} {W W1 : World}, I st W → Below W.heap.size W W1 → I st W1
  setN : ∀ {st : σ} {W : World} {nx : Nat} {cs : Array Value}, I st W → W.heap[nx]? = some (.cells cs 24 (0, 0)) → w0.heap.size ≤ nx → ∀ (j : Nat) (u : Value), I st (W.setCell ⟨nx, j, none⟩ u)
  grown : ∀ {st : σ} {W W1 : World} {row : Option Nat}, I st W → W.grownBy W1 row → (∀ k, row = some k → w0.heap.size ≤ k ∧ ∃ cells, W.heap[k]? = some (.cells cells 24 (0, 0))) → I st W1
  down : ∀ {st : σ} {m : Nat} (y : S24), G st (m + 1) → G (t st y).1 m
  tell : ∀ {st : σ} {W : World} {y : S24} {nx n6 c6 m : Nat} {A6 : Option Addr}, G st (m + 1) → I st W → W.heap[nx]? = some (.cells #[.int .i64 y.f0, .string y.f1, .string y.f2, .int .i64 y.f3, .int .i64 y.f4, .bool y.f5, .slice A6 n6 c6] 24 (0, 0)) → w0.heap.size ≤ nx →
    n6 = y.f6.length → n6 ≤ c6 → Kd.C k24 w0 A6 n6 y.f6 → wtT y ≤ 1000000000 →
    Calls Tryd.prog f #[.pointer (some ⟨nx, 0, none⟩), .pointer (some ⟨p, 0, none⟩)] W fun e w' => e = .returned (.tuple #[]) ∧ I (t st y).1 w' ∧
      w'.heap[nx]? = some (.cells #[.int .i64 y.f0, .string y.f1, .string (t st y).2, .int .i64 y.f3, .int .i64 y.f4, .bool y.f5, .slice A6 n6 c6] 24 (0, 0)) ∧ Sm24x nx W w'
section
variable {σ : Type} {I : σ → World → Prop} {t : σ → S24 → σ × ByteArray} {G : σ → Nat → Prop} {w0 : World} {f p : Nat}
mutual
theorem TellK.G_T (K : TellK f p w0 I t G) : ∀ (x : S24) (st : σ) (m : Nat), G st (hcT x + m) → G (hdT t x st).1 m
  | ⟨a, b, c, d, e, g, l⟩, st, m, h => by
    rw [hcT] at h
    rw [hdT]
    by_cases ha : a = 8
    · rw [if_pos ha] at h ⊢
      exact TellK.G_L K l _ m (K.down _ (by rw [show hcL l + m + 1 = 1 + hcL l + m by omega]; exact h))
    · rw [if_neg ha] at h ⊢
      exact TellK.G_L K l _ m (by rw [show hcL l + m = 0 + hcL l + m by omega]; exact h)
theorem TellK.G_L (K : TellK f p w0 I t G) : ∀ (l : List S24) (st : σ) (m : Nat), G st (hcL l + m) → G (hdL t l st).1 m
  | [], st, m, h => by rw [hcL, Nat.zero_add] at h; exact h
  | x :: r, st, m, h => by
    rw [hcL, Nat.add_assoc] at h
    rw [hdL]
    exact TellK.G_L K r _ m (TellK.G_T K x st _ h)
end
end
/-- What stands at the head of the round for the k-th node. -/
structure HdI (w0 W : World) {σ : Type} (I : σ → World → Prop) (st : σ) (out : List S24) (v : Value) (wr : World) : Prop where
  cn : I st wr
  row : k24.R 24 wr w0.heap.size (fun k => W.heap.size ≤ k) v out
  same : Same24 W wr
/-- A node is appended: its own part lies in new memory. -/
theorem HdI.close {σ : Type} {I : σ → World → Prop} {t : σ → S24 → σ × ByteArray} {G : σ → Nat → Prop} {w0 W w4 w5 : World} {f p : Nat} (K : TellK f p w0 I t G) {st : σ} {out : List S24} {x : S24} {v v1 : Value} (h : HdI w0 W I st out v w4) (hW : w0.heap.size ≤ W.heap.size) (hg : w4.grownBy w5 v.ownBlock) (hr : k24.R 24 w5 w0.heap.size (fun k => W.heap.size ≤ k) v1 (out ++ [x])) : HdI w0 W I st (out ++ [x]) v1 w5 :=
  ⟨K.grown h.cn hg (fun k hk => ⟨Nat.le_trans hW (own24h h.row k hk).1, (own24h h.row k hk).2.2⟩), hr, sm_fresh_grown h.same hg (fun k hk => (own24h h.row k hk).1)⟩
end Go.Proofs.YtbgbmphjjdiaeaaDoor.P
/- slug.heads, for the closure of function 73. -/
namespace Go.Proofs.YtbgbmphjjdiaeaaDoor.P
open Go.RowKit Go.Maps Go.Proofs.YtbgbmphjjdiaeaaDoor.MF Go.Proofs.YtbgbmphjjdiaeaaDoorW.PrintWords Go.Proofs.YtbgbmphjjdiaeaaDoorW.PrintLast Go.Proofs.YtbgbmphjjdiaeaaDoorW.PrintMore
set_option linter.unusedVariables false
set_option linter.unusedSimpArgs false
section
attribute [local go_sem] World.cell?_alloc_some World.cell?_setCell_far
set_option maxRecDepth 100000 in
set_option maxHeartbeats 8000000 in
theorem heads73 {σ : Type} {t : σ → S24 → σ × ByteArray} {I : σ → World → Prop} {G : σ → Nat → Prop} {w0 : World} {p : Nat} (K : TellK 73 p w0 I t G) : ∀ (s : Nat) (l : List S24) (st : σ) (m : Nat) (W : World) (A : Option Addr) (c : Nat), dpL l < s → wtL l ≤ 1000000000 → G st (hcL l + m) →
    Kd.C k24 w0 A l.length l → l.length ≤ c → I st W →
    Calls Tryd.prog 72 #[.slice A l.length c, .func (.func 73) #[] #[.pointer (some ⟨p, 0, none⟩)]] W fun e w' => ∃ v, e = .returned v ∧ HdI w0 W I (hdL t l st).1 (hdL t l st).2 v w'
  | 0, _, _, _, _, _, _, h, _, _, _, _, _ => absurd h (by omega)
  | s + 1, l, st, m, W, A, c, hd, hwt, hG, hC, hc, hI => by
    obtain ⟨n, en⟩ : ∃ n, n = l.length := ⟨_, rfl⟩
    have HEN := Aside0.mk en
    have HD := Aside0.mk hd
    have HWT := Aside0.mk hwt
    have HG := Aside0.mk hG
    have HC := Aside0.mk hC
    have HK := Aside0.mk K
    have HW0 := Aside0.mk (K.below hI).size
    have HI : Aside0 (HdI w0 W I (hdL t (l.take 0) st).1 (hdL t (l.take 0) st).2 (.slice none 0 0) W) := ⟨⟨by simpa [hdL] using hI, by simp [hdL]; exact Kd.R_nil _ _ _ _ _, Same24.refl _⟩⟩
    have hn9 : n ≤ 1000000000 := by have := len_wt l; omega
    rw [← en] at hc ⊢
    have IH := Aside0.mk (fun (L : List S24) (st1 : σ) (m1 : Nat) (W1 : World) (A1 : Option Addr) (c1 : Nat) h1 h2 h3 h4 h5 h6 => heads73 K s L st1 m1 W1 A1 c1 h1 h2 h3 h4 h5 h6)
    clear en hd hwt hC hI hG K
    go_enter Tryd.func72, Tryd.ntmps72
    go_wp2_with fail
    go_loopw [5, 10] (fun v5 v10 wr => ∃ k : Nat, k ≤ n ∧ v10 = .int .i64 k ∧ Aside0 (HdI w0 W I (hdL t (l.take k) st).1 (hdL t (l.take k) st).2 v5 wr)) (fun _ v _ => n - (intOf v).toNat)
    case atStart => exact ⟨0, by omega, rfl, HI⟩
    case round =>
      clear HI
      obtain ⟨k, hk, rfl, HI⟩ := hrel
      by_cases hlt : k < n
      · have hkl : k < l.length := by rw [← HEN.out]; exact hlt
        have hstep := congrArg (fun L => hdL t L st) (take_rd hkl)
        simp only [hdL_snoc] at hstep
        have hwk := wt_take hkl
        have hwx := wtT_eq (rd_T24 l (k : Int))
        have hdx := dp_in hkl
        have hW1 := HWT.out
        have hD1 := HD.out
        have hlenO := hdL_len (t := t) (l.take k) st
        have hg := HG.out
        rw [hc_take hkl, Nat.add_assoc, Nat.add_assoc] at hg
        replace hg := HK.out.G_L (l.take k) st _ hg
        rw [hcT_eq] at hg
        obtain ⟨m1, em1⟩ : ∃ m1, m1 = hcL (l.drop (k + 1)) + m := ⟨_, rfl⟩
        rw [← em1] at hg
        clear em1
        obtain ⟨out, eout⟩ : ∃ out, out = (hdL t (l.take k) st).2 := ⟨_, rfl⟩
        obtain ⟨st1, est⟩ : ∃ st1, st1 = (hdL t (l.take k) st).1 := ⟨_, rfl⟩
        rw [← eout, ← est] at HI hstep
        rw [← est] at hg
        rw [← eout] at hlenO
        have hol : out.length ≤ 1000000000 := by
          rw [List.length_take] at hlenO
          omega
        have p1 : (0 : Int) ≤ (k : Int) := by omega
        have q1 : (k : Int) < (n : Int) := by omega
        have hbw := HK.out.below HI.out.cn
        have hCr := Kd.C_below HC.out hbw
        rw [← HEN.out] at hCr
        obtain ⟨ad, A6, c6, rfl, x0, x1, x2, x3, x4, x5, x6, hl6, hi6⟩ := at_T24 hCr (k : Int) p1 q1
        obtain ⟨ad', A6', c6', ead, _, _, _, _, _, _, x6', hl6', hi6'⟩ := at_T24 (by have := HC.out; rwa [← HEN.out] at this) (k : Int) p1 q1
        injection ead with ead
        subst ead
        have x6'' := (hbw.cell (World.block_lt_of_cell? w0 _ x6')).trans x6'
        have e6 := Option.some.inj (x6''.symm.trans x6)
        injection e6 with e6 _ e6c
        subst e6
        subst e6c
        clear x6' x6'' hl6' hi6
        simp only [Int.toNat_natCast] at x0 x1 x2 x3 x4 x5 x6
        obtain ⟨y, ey⟩ : ∃ y, y = rd_T24 l (k : Int) := ⟨_, rfl⟩
        rw [← ey] at x0 x1 x2 x3 x4 x5 x6 hl6 hi6' hwx hdx hwk hstep hg
        rw [hdT_eq] at hstep
        obtain ⟨y0, y1, y2, y3, y4, y5, y6⟩ := y
        simp only at x0 x1 x2 x3 x4 x5 x6 hl6 hi6' hwx hdx hstep hg
        have hkN : IntKind.i64.wrap ((k : Int) + 1) = (k : Int) + 1 := by rw [IntKind.wrap_i64]; omega
        obtain ⟨n6, en6⟩ : ∃ n6, n6 = y6.length := ⟨_, rfl⟩
        rw [← en6] at x6 hl6 hi6'
        have HB1 := Aside0.mk (below_alloc (Below.refl wr.heap.size wr) (.cells #[.int .i64 y0, .string y1, .string y2, .int .i64 y3, .int .i64 y4, .bool y5, .slice A6' n6 c6'] 24))
        have HN1 := Aside0.mk (blk_new wr (.cells #[.int .i64 y0, .string y1, .string y2, .int .i64 y3, .int .i64 y4, .bool y5, .slice A6' n6 c6'] 24))
        have HCN1 := Aside0.mk (HK.out.step HI.out.cn HB1.out)
        have HSW := Aside0.mk (Same24.below HB1.out)
        have HWW := Aside0.mk HI.out.same
        have HL6 := Aside0.mk hl6
        have HC6 := Aside0.mk hi6'
        have HE6 := Aside0.mk en6
        have HDX := Aside0.mk (show dpL y6 < s by omega)
        have HW6 : Aside0 (wtL y6 ≤ 1000000000) := ⟨by omega⟩
        have HWY : Aside0 (wtT (⟨y0, y1, y2, y3, y4, y5, y6⟩ : S24) ≤ 1000000000) := ⟨by omega⟩
        have HLO := Aside0.mk hol
        have HBS := Aside0.mk hbw.size
        by_cases hk8 : y0 = 8
        case' pos =>
          have hkb : (y0 == 8) = true := by rw [hk8]; rfl
          rw [if_pos hk8] at hstep hg
          have hg1 : G st1 (hcL y6 + m1 + 1) := by rw [show hcL y6 + m1 + 1 = 1 + hcL y6 + m1 by omega]; exact hg
          have CN := Aside0.mk (HK.out.tell (nx := wr.heap.size) hg1 HCN1.out HN1.out HBS.out en6 hl6 hi6' HWY.out)
          have HG2 := Aside0.mk (HK.out.down (⟨y0, y1, y2, y3, y4, y5, y6⟩ : S24) hg1)
          have HST := Aside0.mk hstep
          clear hg hg1 hstep hwk hwx hdx hW1 hD1 eout est hCr hl6 hi6' ey hk8 HB1 hkl hlenO hol en6 hbw
          go_upto_region 7 with (first | (go_at_call 73; (with_reducible refine (CN.out).mono ?_); rintro e w2 ⟨rfl, hcn2, hx2, hs2⟩; have HSW2 := Aside0.mk (sm_fresh_x HSW.out hs2 (Nat.le_refl _)); have HCN2 := Aside0.mk hcn2; have HX2 := Aside0.mk hx2; clear hcn2 hx2 hs2))
          (try simp only at HX2)
          generalize (t st1 (⟨y0, y1, y2, y3, y4, y5, y6⟩ : S24)).2 = T2 at HX2 HST
          generalize (t st1 (⟨y0, y1, y2, y3, y4, y5, y6⟩ : S24)).1 = st2 at HCN2 HST HG2
        case' neg =>
          have hkb : (y0 == 8) = false := by simpa using hk8
          rw [if_neg hk8] at hstep hg
          rw [Nat.zero_add] at hg
          have HG2 := Aside0.mk hg
          have HST := Aside0.mk hstep
          have HX2 := Aside0.mk HN1.out
          have HSW2 := Aside0.mk HSW.out
          have HCN2 := Aside0.mk HCN1.out
          clear hg hstep hwk hwx hdx hW1 hD1 eout est hCr hl6 hi6' ey hk8 HB1 hkl hlenO hol en6 hbw
          go_upto_region 7 with (fail)
          obtain ⟨T2, eT2⟩ : ∃ T2, T2 = y2 := ⟨_, rfl⟩
          rw [← eT2] at HX2 HST HSW2 HCN2 ⊢
          generalize (wr.alloc (.cells #[.int .i64 y0, .string y1, .string T2, .int .i64 y3, .int .i64 y4, .bool y5, .slice A6' n6 c6'] 24)) = w2 at HX2 HSW2 HCN2 ⊢
          obtain ⟨st2, est2⟩ : ∃ st2, st2 = st1 := ⟨_, rfl⟩
          rw [← est2] at HCN2 HST HG2
          clear eT2 est2
        all_goals
          clear x0 x1 x2 x3 x4 x5 x6 HCN1 HN1 HSW
          have q6 : w2.cell? ⟨wr.heap.size, 6, none⟩ = some (.slice A6' n6 c6') := (box7 HX2.out).2.2.2.2.2.2
          have CI : Aside0 (Calls Tryd.prog 72 #[.slice A6' n6 c6', .func (.func 73) #[] #[.pointer (some ⟨p, 0, none⟩)]] w2 fun e w' => ∃ v, e = .returned v ∧ HdI w0 w2 I (hdL t y6 st2).1 (hdL t y6 st2).2 v w') := ⟨by
            have := IH.out y6 st2 m1 w2 A6' c6' HDX.out HW6.out HG2.out (by rw [← HE6.out]; exact HC6.out) (by rw [← HE6.out]; exact HL6.out) HCN2.out
            rw [← HE6.out] at this
            exact this⟩
          generalize (hdL t y6 st2).1 = st3 at CI HST
          generalize (hdL t y6 st2).2 = L2 at CI HST
          have HBW : Aside0 (wr.heap.size < w2.heap.size) := ⟨blk_lt HX2.out⟩
          go_wp2_with (first
            | (go_at_call 72; (with_reducible refine CI.out.mono ?_); rintro e w3 ⟨v38, rfl, hw⟩; obtain ⟨A38, c38, e38⟩ := Kd.R_slice hw.row; subst e38; have hx3 := hw.same.2 _ _ HX2.out; have d1 : w3.cell? ⟨wr.heap.size, 6, none⟩ = some (.slice A6' n6 c6') := (box7 hx3).2.2.2.2.2.2; have d2 := blk_frozen hx3 6; have hx4 := blk_put hx3 6 (.slice A38 L2.length c38) (cs' := #[.int .i64 y0, .string y1, .string T2, .int .i64 y3, .int .i64 y4, .bool y5, .slice A38 L2.length c38]) (by simp); obtain ⟨k0, k1, k2, k3, k4, k5, k6⟩ := box7 hx4; have HWK := Aside0.mk (show HdI w0 W I st3 out u5 (w3.setCell ⟨wr.heap.size, 6, none⟩ (.slice A38 L2.length c38)) from ⟨HK.out.setN hw.cn hx3 HBS.out 6 _, R24_same HI.out.row (sm_fresh_set (HSW2.out.trans hw.same) (Nat.le_refl _)), HWW.out.trans (sm_fresh_set (HSW2.out.trans hw.same) (Nat.le_refl _))⟩); have HM := Aside0.mk (k24_mkM (w3.setCell ⟨wr.heap.size, 6, none⟩ (.slice A38 L2.length c38)) w0.heap.size (fun k => w2.heap.size ≤ k) (⟨y0, y1, T2, y3, y4, y5, L2⟩ : S24) (Kd.R_far (p := ⟨wr.heap.size, 6, none⟩) hw.row (fun k hk e => by have := HBW.out; have e : k = wr.heap.size := e; omega) _)); have HOK : Aside0 (∀ k, w2.heap.size ≤ k → W.heap.size ≤ k ∧ some k ≠ (u5 : Value).ownBlock) := ⟨fun k hk => ⟨by have := HWW.out.1; have := HBW.out; omega, fun e => by have := (own24h HI.out.row k e.symm).2.1; have := HBW.out; omega⟩⟩; have HFR : Aside0 (∀ k, (w3.setCell ⟨wr.heap.size, 6, none⟩ (.slice A38 L2.length c38)).heap.size ≤ k → W.heap.size ≤ k) := ⟨fun k hk => Nat.le_trans HWK.out.same.1 hk⟩; clear hw hx3 hx4)
            | ((with_reducible refine gate_builtin (b := .append) (xs := #[.tmp 24, .tmp 26]) rfl ?_); at_builtin; refine Kd.R_append k24 (w0 := w0) w0.heap.size rfl (.tmp 24) (.tmp 26) 22 24 (.agg #[(.int .i64 0), (.string ⟨#[]⟩), (.string ⟨#[]⟩), (.int .i64 0), (.int .i64 0), (.bool false), (.slice none 0 0)]) 88 rfl Tryd.underlying22 info24 rfl (by decide) (by omega) u5 out (⟨y0, y1, T2, y3, y4, y5, L2⟩ : S24) [.int .i64 y0, .string y1, .string T2, .int .i64 y3, .int .i64 y4, .bool y5, .slice A38 L2.length c38] (fun k => W.heap.size ≤ k) (fun k => w2.heap.size ≤ k) (by rfl) (by rw [World.size_setCell]; rfl) ?aP ?aK ?aF ?aO ?aB ?aS ?aL ?_; (case aP => exact HM.out); (case aK => exact HOK.out); (case aF => exact HFR.out); (case aO => exact HWK.out.row); (case aB => exact HK.out.below HWK.out.cn); (case aS => exact (HK.out.below HWK.out.cn).size); (case aL => have := HLO.out; omega); intro v9 w9 ho hb hg hat; have HW9 := Aside0.mk (HWK.out.close HK.out HW0.out hg ho); clear ho hb hg hat))
          go_roundw
          case rel => exact ⟨k + 1, by omega, by go_num, ⟨by rw [HST.out]; exact HW9.out⟩⟩
          case measure => simp [intOf]; omega
      · have hkn : k = n := by omega
        subst hkn
        have hkI : ¬ (k : Int) < (k : Int) := by omega
        have HI9 := Aside0.mk HI.out
        rw [List.take_of_length_le (by rw [HEN.out]; exact Nat.le_refl _)] at HI9
        go_wp2_with fail
        go_ret
        exact ⟨_, rfl, HI9.out⟩
end
end Go.Proofs.YtbgbmphjjdiaeaaDoor.P
/- slug.heads, for the closure of function 74. -/
namespace Go.Proofs.YtbgbmphjjdiaeaaDoor.P
open Go.RowKit Go.Maps Go.Proofs.YtbgbmphjjdiaeaaDoor.MF Go.Proofs.YtbgbmphjjdiaeaaDoorW.PrintWords Go.Proofs.YtbgbmphjjdiaeaaDoorW.PrintLast Go.Proofs.YtbgbmphjjdiaeaaDoorW.PrintMore
set_option linter.unusedVariables false
set_option linter.unusedSimpArgs false
section
attribute [local go_sem] World.cell?_alloc_some World.cell?_setCell_far
set_option maxRecDepth 100000 in
set_option maxHeartbeats 8000000 in
theorem heads74 {σ : Type} {t : σ → S24 → σ × ByteArray} {I : σ → World → Prop} {G : σ → Nat → Prop} {w0 : World} {p : Nat} (K : TellK 74 p w0 I t G) : ∀ (s : Nat) (l : List S24) (st : σ) (m : Nat) (W : World) (A : Option Addr) (c : Nat), dpL l < s → wtL l ≤ 1000000000 → G st (hcL l + m) →
    Kd.C k24 w0 A l.length l → l.length ≤ c → I st W →
    Calls Tryd.prog 72 #[.slice A l.length c, .func (.func 74) #[] #[.pointer (some ⟨p, 0, none⟩)]] W fun e w' => ∃ v, e = .returned v ∧ HdI w0 W I (hdL t l st).1 (hdL t l st).2 v w'
  | 0, _, _, _, _, _, _, h, _, _, _, _, _ => absurd h (by omega)
  | s + 1, l, st, m, W, A, c, hd, hwt, hG, hC, hc, hI => by
    obtain ⟨n, en⟩ : ∃ n, n = l.length := ⟨_, rfl⟩
    have HEN := Aside0.mk en
    have HD := Aside0.mk hd
    have HWT := Aside0.mk hwt
    have HG := Aside0.mk hG
    have HC := Aside0.mk hC
    have HK := Aside0.mk K
    have HW0 := Aside0.mk (K.below hI).size
    have HI : Aside0 (HdI w0 W I (hdL t (l.take 0) st).1 (hdL t (l.take 0) st).2 (.slice none 0 0) W) := ⟨⟨by simpa [hdL] using hI, by simp [hdL]; exact Kd.R_nil _ _ _ _ _, Same24.refl _⟩⟩
    have hn9 : n ≤ 1000000000 := by have := len_wt l; omega
    rw [← en] at hc ⊢
    have IH := Aside0.mk (fun (L : List S24) (st1 : σ) (m1 : Nat) (W1 : World) (A1 : Option Addr) (c1 : Nat) h1 h2 h3 h4 h5 h6 => heads74 K s L st1 m1 W1 A1 c1 h1 h2 h3 h4 h5 h6)
    clear en hd hwt hC hI hG K
    go_enter Tryd.func72, Tryd.ntmps72
    go_wp2_with fail
    go_loopw [5, 10] (fun v5 v10 wr => ∃ k : Nat, k ≤ n ∧ v10 = .int .i64 k ∧ Aside0 (HdI w0 W I (hdL t (l.take k) st).1 (hdL t (l.take k) st).2 v5 wr)) (fun _ v _ => n - (intOf v).toNat)
    case atStart => exact ⟨0, by omega, rfl, HI⟩
    case round =>
      clear HI
      obtain ⟨k, hk, rfl, HI⟩ := hrel
      by_cases hlt : k < n
      · have hkl : k < l.length := by rw [← HEN.out]; exact hlt
        have hstep := congrArg (fun L => hdL t L st) (take_rd hkl)
        simp only [hdL_snoc] at hstep
        have hwk := wt_take hkl
        have hwx := wtT_eq (rd_T24 l (k : Int))
        have hdx := dp_in hkl
        have hW1 := HWT.out
        have hD1 := HD.out
        have hlenO := hdL_len (t := t) (l.take k) st
        have hg := HG.out
        rw [hc_take hkl, Nat.add_assoc, Nat.add_assoc] at hg
        replace hg := HK.out.G_L (l.take k) st _ hg
        rw [hcT_eq] at hg
        obtain ⟨m1, em1⟩ : ∃ m1, m1 = hcL (l.drop (k + 1)) + m := ⟨_, rfl⟩
        rw [← em1] at hg
        clear em1
        obtain ⟨out, eout⟩ : ∃ out, out = (hdL t (l.take k) st).2 := ⟨_, rfl⟩
        obtain ⟨st1, est⟩ : ∃ st1, st1 = (hdL t (l.take k) st).1 := ⟨_, rfl⟩
        rw [← eout, ← est] at HI hstep
        rw [← est] at hg
        rw [← eout] at hlenO
        have hol : out.length ≤ 1000000000 := by
          rw [List.length_take] at hlenO
          omega
        have p1 : (0 : Int) ≤ (k : Int) := by omega
        have q1 : (k : Int) < (n : Int) := by omega
        have hbw := HK.out.below HI.out.cn
        have hCr := Kd.C_below HC.out hbw
        rw [← HEN.out] at hCr
        obtain ⟨ad, A6, c6, rfl, x0, x1, x2, x3, x4, x5, x6, hl6, hi6⟩ := at_T24 hCr (k : Int) p1 q1
        obtain ⟨ad', A6', c6', ead, _, _, _, _, _, _, x6', hl6', hi6'⟩ := at_T24 (by have := HC.out; rwa [← HEN.out] at this) (k : Int) p1 q1
        injection ead with ead
        subst ead
        have x6'' := (hbw.cell (World.block_lt_of_cell? w0 _ x6')).trans x6'
        have e6 := Option.some.inj (x6''.symm.trans x6)
        injection e6 with e6 _ e6c
        subst e6
        subst e6c
        clear x6' x6'' hl6' hi6
        simp only [Int.toNat_natCast] at x0 x1 x2 x3 x4 x5 x6
        obtain ⟨y, ey⟩ : ∃ y, y = rd_T24 l (k : Int) := ⟨_, rfl⟩
        rw [← ey] at x0 x1 x2 x3 x4 x5 x6 hl6 hi6' hwx hdx hwk hstep hg
        rw [hdT_eq] at hstep
        obtain ⟨y0, y1, y2, y3, y4, y5, y6⟩ := y
        simp only at x0 x1 x2 x3 x4 x5 x6 hl6 hi6' hwx hdx hstep hg
        have hkN : IntKind.i64.wrap ((k : Int) + 1) = (k : Int) + 1 := by rw [IntKind.wrap_i64]; omega
        obtain ⟨n6, en6⟩ : ∃ n6, n6 = y6.length := ⟨_, rfl⟩
        rw [← en6] at x6 hl6 hi6'
        have HB1 := Aside0.mk (below_alloc (Below.refl wr.heap.size wr) (.cells #[.int .i64 y0, .string y1, .string y2, .int .i64 y3, .int .i64 y4, .bool y5, .slice A6' n6 c6'] 24))
        have HN1 := Aside0.mk (blk_new wr (.cells #[.int .i64 y0, .string y1, .string y2, .int .i64 y3, .int .i64 y4, .bool y5, .slice A6' n6 c6'] 24))
        have HCN1 := Aside0.mk (HK.out.step HI.out.cn HB1.out)
        have HSW := Aside0.mk (Same24.below HB1.out)
        have HWW := Aside0.mk HI.out.same
        have HL6 := Aside0.mk hl6
        have HC6 := Aside0.mk hi6'
        have HE6 := Aside0.mk en6
        have HDX := Aside0.mk (show dpL y6 < s by omega)
        have HW6 : Aside0 (wtL y6 ≤ 1000000000) := ⟨by omega⟩
        have HWY : Aside0 (wtT (⟨y0, y1, y2, y3, y4, y5, y6⟩ : S24) ≤ 1000000000) := ⟨by omega⟩
        have HLO := Aside0.mk hol
        have HBS := Aside0.mk hbw.size
        by_cases hk8 : y0 = 8
        case' pos =>
          have hkb : (y0 == 8) = true := by rw [hk8]; rfl
          rw [if_pos hk8] at hstep hg
          have hg1 : G st1 (hcL y6 + m1 + 1) := by rw [show hcL y6 + m1 + 1 = 1 + hcL y6 + m1 by omega]; exact hg
          have CN := Aside0.mk (HK.out.tell (nx := wr.heap.size) hg1 HCN1.out HN1.out HBS.out en6 hl6 hi6' HWY.out)
          have HG2 := Aside0.mk (HK.out.down (⟨y0, y1, y2, y3, y4, y5, y6⟩ : S24) hg1)
          have HST := Aside0.mk hstep
          clear hg hg1 hstep hwk hwx hdx hW1 hD1 eout est hCr hl6 hi6' ey hk8 HB1 hkl hlenO hol en6 hbw
          go_upto_region 7 with (first | (go_at_call 74; (with_reducible refine (CN.out).mono ?_); rintro e w2 ⟨rfl, hcn2, hx2, hs2⟩; have HSW2 := Aside0.mk (sm_fresh_x HSW.out hs2 (Nat.le_refl _)); have HCN2 := Aside0.mk hcn2; have HX2 := Aside0.mk hx2; clear hcn2 hx2 hs2))
          (try simp only at HX2)
          generalize (t st1 (⟨y0, y1, y2, y3, y4, y5, y6⟩ : S24)).2 = T2 at HX2 HST
          generalize (t st1 (⟨y0, y1, y2, y3, y4, y5, y6⟩ : S24)).1 = st2 at HCN2 HST HG2
        case' neg =>
          have hkb : (y0 == 8) = false := by simpa using hk8
          rw [if_neg hk8] at hstep hg
          rw [Nat.zero_add] at hg
          have HG2 := Aside0.mk hg
          have HST := Aside0.mk hstep
          have HX2 := Aside0.mk HN1.out
          have HSW2 := Aside0.mk HSW.out
          have HCN2 := Aside0.mk HCN1.out
          clear hg hstep hwk hwx hdx hW1 hD1 eout est hCr hl6 hi6' ey hk8 HB1 hkl hlenO hol en6 hbw
          go_upto_region 7 with (fail)
          obtain ⟨T2, eT2⟩ : ∃ T2, T2 = y2 := ⟨_, rfl⟩
          rw [← eT2] at HX2 HST HSW2 HCN2 ⊢
          generalize (wr.alloc (.cells #[.int .i64 y0, .string y1, .string T2, .int .i64 y3, .int .i64 y4, .bool y5, .slice A6' n6 c6'] 24)) = w2 at HX2 HSW2 HCN2 ⊢
          obtain ⟨st2, est2⟩ : ∃ st2, st2 = st1 := ⟨_, rfl⟩
          rw [← est2] at HCN2 HST HG2
          clear eT2 est2
        all_goals
          clear x0 x1 x2 x3 x4 x5 x6 HCN1 HN1 HSW
          have q6 : w2.cell? ⟨wr.heap.size, 6, none⟩ = some (.slice A6' n6 c6') := (box7 HX2.out).2.2.2.2.2.2
          have CI : Aside0 (Calls Tryd.prog 72 #[.slice A6' n6 c6', .func (.func 74) #[] #[.pointer (some ⟨p, 0, none⟩)]] w2 fun e w' => ∃ v, e = .returned v ∧ HdI w0 w2 I (hdL t y6 st2).1 (hdL t y6 st2).2 v w') := ⟨by
            have := IH.out y6 st2 m1 w2 A6' c6' HDX.out HW6.out HG2.out (by rw [← HE6.out]; exact HC6.out) (by rw [← HE6.out]; exact HL6.out) HCN2.out
            rw [← HE6.out] at this
            exact this⟩
          generalize (hdL t y6 st2).1 = st3 at CI HST
          generalize (hdL t y6 st2).2 = L2 at CI HST
          have HBW : Aside0 (wr.heap.size < w2.heap.size) := ⟨blk_lt HX2.out⟩
          go_wp2_with (first
            | (go_at_call 72; (with_reducible refine CI.out.mono ?_); rintro e w3 ⟨v38, rfl, hw⟩; obtain ⟨A38, c38, e38⟩ := Kd.R_slice hw.row; subst e38; have hx3 := hw.same.2 _ _ HX2.out; have d1 : w3.cell? ⟨wr.heap.size, 6, none⟩ = some (.slice A6' n6 c6') := (box7 hx3).2.2.2.2.2.2; have d2 := blk_frozen hx3 6; have hx4 := blk_put hx3 6 (.slice A38 L2.length c38) (cs' := #[.int .i64 y0, .string y1, .string T2, .int .i64 y3, .int .i64 y4, .bool y5, .slice A38 L2.length c38]) (by simp); obtain ⟨k0, k1, k2, k3, k4, k5, k6⟩ := box7 hx4; have HWK := Aside0.mk (show HdI w0 W I st3 out u5 (w3.setCell ⟨wr.heap.size, 6, none⟩ (.slice A38 L2.length c38)) from ⟨HK.out.setN hw.cn hx3 HBS.out 6 _, R24_same HI.out.row (sm_fresh_set (HSW2.out.trans hw.same) (Nat.le_refl _)), HWW.out.trans (sm_fresh_set (HSW2.out.trans hw.same) (Nat.le_refl _))⟩); have HM := Aside0.mk (k24_mkM (w3.setCell ⟨wr.heap.size, 6, none⟩ (.slice A38 L2.length c38)) w0.heap.size (fun k => w2.heap.size ≤ k) (⟨y0, y1, T2, y3, y4, y5, L2⟩ : S24) (Kd.R_far (p := ⟨wr.heap.size, 6, none⟩) hw.row (fun k hk e => by have := HBW.out; have e : k = wr.heap.size := e; omega) _)); have HOK : Aside0 (∀ k, w2.heap.size ≤ k → W.heap.size ≤ k ∧ some k ≠ (u5 : Value).ownBlock) := ⟨fun k hk => ⟨by have := HWW.out.1; have := HBW.out; omega, fun e => by have := (own24h HI.out.row k e.symm).2.1; have := HBW.out; omega⟩⟩; have HFR : Aside0 (∀ k, (w3.setCell ⟨wr.heap.size, 6, none⟩ (.slice A38 L2.length c38)).heap.size ≤ k → W.heap.size ≤ k) := ⟨fun k hk => Nat.le_trans HWK.out.same.1 hk⟩; clear hw hx3 hx4)
            | ((with_reducible refine gate_builtin (b := .append) (xs := #[.tmp 24, .tmp 26]) rfl ?_); at_builtin; refine Kd.R_append k24 (w0 := w0) w0.heap.size rfl (.tmp 24) (.tmp 26) 22 24 (.agg #[(.int .i64 0), (.string ⟨#[]⟩), (.string ⟨#[]⟩), (.int .i64 0), (.int .i64 0), (.bool false), (.slice none 0 0)]) 88 rfl Tryd.underlying22 info24 rfl (by decide) (by omega) u5 out (⟨y0, y1, T2, y3, y4, y5, L2⟩ : S24) [.int .i64 y0, .string y1, .string T2, .int .i64 y3, .int .i64 y4, .bool y5, .slice A38 L2.length c38] (fun k => W.heap.size ≤ k) (fun k => w2.heap.size ≤ k) (by rfl) (by rw [World.size_setCell]; rfl) ?aP ?aK ?aF ?aO ?aB ?aS ?aL ?_; (case aP => exact HM.out); (case aK => exact HOK.out); (case aF => exact HFR.out); (case aO => exact HWK.out.row); (case aB => exact HK.out.below HWK.out.cn); (case aS => exact (HK.out.below HWK.out.cn).size); (case aL => have := HLO.out; omega); intro v9 w9 ho hb hg hat; have HW9 := Aside0.mk (HWK.out.close HK.out HW0.out hg ho); clear ho hb hg hat))
          go_roundw
          case rel => exact ⟨k + 1, by omega, by go_num, ⟨by rw [HST.out]; exact HW9.out⟩⟩
          case measure => simp [intOf]; omega
      · have hkn : k = n := by omega
        subst hkn
        have hkI : ¬ (k : Int) < (k : Int) := by omega
        have HI9 := Aside0.mk HI.out
        rw [List.take_of_length_le (by rw [HEN.out]; exact Nat.le_refl _)] at HI9
        go_wp2_with fail
        go_ret
        exact ⟨_, rfl, HI9.out⟩
end
end Go.Proofs.YtbgbmphjjdiaeaaDoor.P
/- slug.heads, for the closure of function 76. -/
namespace Go.Proofs.YtbgbmphjjdiaeaaDoor.P
open Go.RowKit Go.Maps Go.Proofs.YtbgbmphjjdiaeaaDoor.MF Go.Proofs.YtbgbmphjjdiaeaaDoorW.PrintWords Go.Proofs.YtbgbmphjjdiaeaaDoorW.PrintLast Go.Proofs.YtbgbmphjjdiaeaaDoorW.PrintMore
set_option linter.unusedVariables false
set_option linter.unusedSimpArgs false
section
attribute [local go_sem] World.cell?_alloc_some World.cell?_setCell_far
set_option maxRecDepth 100000 in
set_option maxHeartbeats 8000000 in
theorem heads76 {σ : Type} {t : σ → S24 → σ × ByteArray} {I : σ → World → Prop} {G : σ → Nat → Prop} {w0 : World} {p : Nat} (K : TellK 76 p w0 I t G) : ∀ (s : Nat) (l : List S24) (st : σ) (m : Nat) (W : World) (A : Option Addr) (c : Nat), dpL l < s → wtL l ≤ 1000000000 → G st (hcL l + m) →
    Kd.C k24 w0 A l.length l → l.length ≤ c → I st W →
    Calls Tryd.prog 72 #[.slice A l.length c, .func (.func 76) #[] #[.pointer (some ⟨p, 0, none⟩)]] W fun e w' => ∃ v, e = .returned v ∧ HdI w0 W I (hdL t l st).1 (hdL t l st).2 v w'
  | 0, _, _, _, _, _, _, h, _, _, _, _, _ => absurd h (by omega)
  | s + 1, l, st, m, W, A, c, hd, hwt, hG, hC, hc, hI => by
    obtain ⟨n, en⟩ : ∃ n, n = l.length := ⟨_, rfl⟩
    have HEN := Aside0.mk en
    have HD := Aside0.mk hd
    have HWT := Aside0.mk hwt
    have HG := Aside0.mk hG
    have HC := Aside0.mk hC
    have HK := Aside0.mk K
    have HW0 := Aside0.mk (K.below hI).size
    have HI : Aside0 (HdI w0 W I (hdL t (l.take 0) st).1 (hdL t (l.take 0) st).2 (.slice none 0 0) W) := ⟨⟨by simpa [hdL] using hI, by simp [hdL]; exact Kd.R_nil _ _ _ _ _, Same24.refl _⟩⟩
    have hn9 : n ≤ 1000000000 := by have := len_wt l; omega
    rw [← en] at hc ⊢
    have IH := Aside0.mk (fun (L : List S24) (st1 : σ) (m1 : Nat) (W1 : World) (A1 : Option Addr) (c1 : Nat) h1 h2 h3 h4 h5 h6 => heads76 K s L st1 m1 W1 A1 c1 h1 h2 h3 h4 h5 h6)
    clear en hd hwt hC hI hG K
    go_enter Tryd.func72, Tryd.ntmps72
    go_wp2_with fail
    go_loopw [5, 10] (fun v5 v10 wr => ∃ k : Nat, k ≤ n ∧ v10 = .int .i64 k ∧ Aside0 (HdI w0 W I (hdL t (l.take k) st).1 (hdL t (l.take k) st).2 v5 wr)) (fun _ v _ => n - (intOf v).toNat)
    case atStart => exact ⟨0, by omega, rfl, HI⟩
    case round =>
      clear HI
      obtain ⟨k, hk, rfl, HI⟩ := hrel
      by_cases hlt : k < n
      · have hkl : k < l.length := by rw [← HEN.out]; exact hlt
        have hstep := congrArg (fun L => hdL t L st) (take_rd hkl)
        simp only [hdL_snoc] at hstep
        have hwk := wt_take hkl
        have hwx := wtT_eq (rd_T24 l (k : Int))
        have hdx := dp_in hkl
        have hW1 := HWT.out
        have hD1 := HD.out
        have hlenO := hdL_len (t := t) (l.take k) st
        have hg := HG.out
        rw [hc_take hkl, Nat.add_assoc, Nat.add_assoc] at hg
        replace hg := HK.out.G_L (l.take k) st _ hg
        rw [hcT_eq] at hg
        obtain ⟨m1, em1⟩ : ∃ m1, m1 = hcL (l.drop (k + 1)) + m := ⟨_, rfl⟩
        rw [← em1] at hg
        clear em1
        obtain ⟨out, eout⟩ : ∃ out, out = (hdL t (l.take k) st).2 := ⟨_, rfl⟩
        obtain ⟨st1, est⟩ : ∃ st1, st1 = (hdL t (l.take k) st).1 := ⟨_, rfl⟩
        rw [← eout, ← est] at HI hstep
        rw [← est] at hg
        rw [← eout] at hlenO
        have hol : out.length ≤ 1000000000 := by
          rw [List.length_take] at hlenO
          omega
        have p1 : (0 : Int) ≤ (k : Int) := by omega
        have q1 : (k : Int) < (n : Int) := by omega
        have hbw := HK.out.below HI.out.cn
        have hCr := Kd.C_below HC.out hbw
        rw [← HEN.out] at hCr
        obtain ⟨ad, A6, c6, rfl, x0, x1, x2, x3, x4, x5, x6, hl6, hi6⟩ := at_T24 hCr (k : Int) p1 q1
        obtain ⟨ad', A6', c6', ead, _, _, _, _, _, _, x6', hl6', hi6'⟩ := at_T24 (by have := HC.out; rwa [← HEN.out] at this) (k : Int) p1 q1
        injection ead with ead
        subst ead
        have x6'' := (hbw.cell (World.block_lt_of_cell? w0 _ x6')).trans x6'
        have e6 := Option.some.inj (x6''.symm.trans x6)
        injection e6 with e6 _ e6c
        subst e6
        subst e6c
        clear x6' x6'' hl6' hi6
        simp only [Int.toNat_natCast] at x0 x1 x2 x3 x4 x5 x6
        obtain ⟨y, ey⟩ : ∃ y, y = rd_T24 l (k : Int) := ⟨_, rfl⟩
        rw [← ey] at x0 x1 x2 x3 x4 x5 x6 hl6 hi6' hwx hdx hwk hstep hg
        rw [hdT_eq] at hstep
        obtain ⟨y0, y1, y2, y3, y4, y5, y6⟩ := y
        simp only at x0 x1 x2 x3 x4 x5 x6 hl6 hi6' hwx hdx hstep hg
        have hkN : IntKind.i64.wrap ((k : Int) + 1) = (k : Int) + 1 := by rw [IntKind.wrap_i64]; omega
        obtain ⟨n6, en6⟩ : ∃ n6, n6 = y6.length := ⟨_, rfl⟩
        rw [← en6] at x6 hl6 hi6'
        have HB1 := Aside0.mk (below_alloc (Below.refl wr.heap.size wr) (.cells #[.int .i64 y0, .string y1, .string y2, .int .i64 y3, .int .i64 y4, .bool y5, .slice A6' n6 c6'] 24))
        have HN1 := Aside0.mk (blk_new wr (.cells #[.int .i64 y0, .string y1, .string y2, .int .i64 y3, .int .i64 y4, .bool y5, .slice A6' n6 c6'] 24))
        have HCN1 := Aside0.mk (HK.out.step HI.out.cn HB1.out)
        have HSW := Aside0.mk (Same24.below HB1.out)
        have HWW := Aside0.mk HI.out.same
        have HL6 := Aside0.mk hl6
        have HC6 := Aside0.mk hi6'
        have HE6 := Aside0.mk en6
        have HDX := Aside0.mk (show dpL y6 < s by omega)
        have HW6 : Aside0 (wtL y6 ≤ 1000000000) := ⟨by omega⟩
        have HWY : Aside0 (wtT (⟨y0, y1, y2, y3, y4, y5, y6⟩ : S24) ≤ 1000000000) := ⟨by omega⟩
        have HLO := Aside0.mk hol
        have HBS := Aside0.mk hbw.size
        by_cases hk8 : y0 = 8
        case' pos =>
          have hkb : (y0 == 8) = true := by rw [hk8]; rfl
          rw [if_pos hk8] at hstep hg
          have hg1 : G st1 (hcL y6 + m1 + 1) := by rw [show hcL y6 + m1 + 1 = 1 + hcL y6 + m1 by omega]; exact hg
          have CN := Aside0.mk (HK.out.tell (nx := wr.heap.size) hg1 HCN1.out HN1.out HBS.out en6 hl6 hi6' HWY.out)
          have HG2 := Aside0.mk (HK.out.down (⟨y0, y1, y2, y3, y4, y5, y6⟩ : S24) hg1)
          have HST := Aside0.mk hstep
          clear hg hg1 hstep hwk hwx hdx hW1 hD1 eout est hCr hl6 hi6' ey hk8 HB1 hkl hlenO hol en6 hbw
          go_upto_region 7 with (first | (go_at_call 76; (with_reducible refine (CN.out).mono ?_); rintro e w2 ⟨rfl, hcn2, hx2, hs2⟩; have HSW2 := Aside0.mk (sm_fresh_x HSW.out hs2 (Nat.le_refl _)); have HCN2 := Aside0.mk hcn2; have HX2 := Aside0.mk hx2; clear hcn2 hx2 hs2))
          (try simp only at HX2)
          generalize (t st1 (⟨y0, y1, y2, y3, y4, y5, y6⟩ : S24)).2 = T2 at HX2 HST
          generalize (t st1 (⟨y0, y1, y2, y3, y4, y5, y6⟩ : S24)).1 = st2 at HCN2 HST HG2
        case' neg =>
          have hkb : (y0 == 8) = false := by simpa using hk8
          rw [if_neg hk8] at hstep hg
          rw [Nat.zero_add] at hg
          have HG2 := Aside0.mk hg
          have HST := Aside0.mk hstep
          have HX2 := Aside0.mk HN1.out
          have HSW2 := Aside0.mk HSW.out
          have HCN2 := Aside0.mk HCN1.out
          clear hg hstep hwk hwx hdx hW1 hD1 eout est hCr hl6 hi6' ey hk8 HB1 hkl hlenO hol en6 hbw
          go_upto_region 7 with (fail)
          obtain ⟨T2, eT2⟩ : ∃ T2, T2 = y2 := ⟨_, rfl⟩
          rw [← eT2] at HX2 HST HSW2 HCN2 ⊢
          generalize (wr.alloc (.cells #[.int .i64 y0, .string y1, .string T2, .int .i64 y3, .int .i64 y4, .bool y5, .slice A6' n6 c6'] 24)) = w2 at HX2 HSW2 HCN2 ⊢
          obtain ⟨st2, est2⟩ : ∃ st2, st2 = st1 := ⟨_, rfl⟩
          rw [← est2] at HCN2 HST HG2
          clear eT2 est2
        all_goals
          clear x0 x1 x2 x3 x4 x5 x6 HCN1 HN1 HSW
          have q6 : w2.cell? ⟨wr.heap.size, 6, none⟩ = some (.slice A6' n6 c6') := (box7 HX2.out).2.2.2.2.2.2
          have CI : Aside0 (Calls Tryd.prog 72 #[.slice A6' n6 c6', .func (.func 76) #[] #[.pointer (some ⟨p, 0, none⟩)]] w2 fun e w' => ∃ v, e = .returned v ∧ HdI w0 w2 I (hdL t y6 st2).1 (hdL t y6 st2).2 v w') := ⟨by
            have := IH.out y6 st2 m1 w2 A6' c6' HDX.out HW6.out HG2.out (by rw [← HE6.out]; exact HC6.out) (by rw [← HE6.out]; exact HL6.out) HCN2.out
            rw [← HE6.out] at this
            exact this⟩
          generalize (hdL t y6 st2).1 = st3 at CI HST
          generalize (hdL t y6 st2).2 = L2 at CI HST
          have HBW : Aside0 (wr.heap.size < w2.heap.size) := ⟨blk_lt HX2.out⟩
          go_wp2_with (first
            | (go_at_call 72; (with_reducible refine CI.out.mono ?_); rintro e w3 ⟨v38, rfl, hw⟩; obtain ⟨A38, c38, e38⟩ := Kd.R_slice hw.row; subst e38; have hx3 := hw.same.2 _ _ HX2.out; have d1 : w3.cell? ⟨wr.heap.size, 6, none⟩ = some (.slice A6' n6 c6') := (box7 hx3).2.2.2.2.2.2; have d2 := blk_frozen hx3 6; have hx4 := blk_put hx3 6 (.slice A38 L2.length c38) (cs' := #[.int .i64 y0, .string y1, .string T2, .int .i64 y3, .int .i64 y4, .bool y5, .slice A38 L2.length c38]) (by simp); obtain ⟨k0, k1, k2, k3, k4, k5, k6⟩ := box7 hx4; have HWK := Aside0.mk (show HdI w0 W I st3 out u5 (w3.setCell ⟨wr.heap.size, 6, none⟩ (.slice A38 L2.length c38)) from ⟨HK.out.setN hw.cn hx3 HBS.out 6 _, R24_same HI.out.row (sm_fresh_set (HSW2.out.trans hw.same) (Nat.le_refl _)), HWW.out.trans (sm_fresh_set (HSW2.out.trans hw.same) (Nat.le_refl _))⟩); have HM := Aside0.mk (k24_mkM (w3.setCell ⟨wr.heap.size, 6, none⟩ (.slice A38 L2.length c38)) w0.heap.size (fun k => w2.heap.size ≤ k) (⟨y0, y1, T2, y3, y4, y5, L2⟩ : S24) (Kd.R_far (p := ⟨wr.heap.size, 6, none⟩) hw.row (fun k hk e => by have := HBW.out; have e : k = wr.heap.size := e; omega) _)); have HOK : Aside0 (∀ k, w2.heap.size ≤ k → W.heap.size ≤ k ∧ some k ≠ (u5 : Value).ownBlock) := ⟨fun k hk => ⟨by have := HWW.out.1; have := HBW.out; omega, fun e => by have := (own24h HI.out.row k e.symm).2.1; have := HBW.out; omega⟩⟩; have HFR : Aside0 (∀ k, (w3.setCell ⟨wr.heap.size, 6, none⟩ (.slice A38 L2.length c38)).heap.size ≤ k → W.heap.size ≤ k) := ⟨fun k hk => Nat.le_trans HWK.out.same.1 hk⟩; clear hw hx3 hx4)
            | ((with_reducible refine gate_builtin (b := .append) (xs := #[.tmp 24, .tmp 26]) rfl ?_); at_builtin; refine Kd.R_append k24 (w0 := w0) w0.heap.size rfl (.tmp 24) (.tmp 26) 22 24 (.agg #[(.int .i64 0), (.string ⟨#[]⟩), (.string ⟨#[]⟩), (.int .i64 0), (.int .i64 0), (.bool false), (.slice none 0 0)]) 88 rfl Tryd.underlying22 info24 rfl (by decide) (by omega) u5 out (⟨y0, y1, T2, y3, y4, y5, L2⟩ : S24) [.int .i64 y0, .string y1, .string T2, .int .i64 y3, .int .i64 y4, .bool y5, .slice A38 L2.length c38] (fun k => W.heap.size ≤ k) (fun k => w2.heap.size ≤ k) (by rfl) (by rw [World.size_setCell]; rfl) ?aP ?aK ?aF ?aO ?aB ?aS ?aL ?_; (case aP => exact HM.out); (case aK => exact HOK.out); (case aF => exact HFR.out); (case aO => exact HWK.out.row); (case aB => exact HK.out.below HWK.out.cn); (case aS => exact (HK.out.below HWK.out.cn).size); (case aL => have := HLO.out; omega); intro v9 w9 ho hb hg hat; have HW9 := Aside0.mk (HWK.out.close HK.out HW0.out hg ho); clear ho hb hg hat))
          go_roundw
          case rel => exact ⟨k + 1, by omega, by go_num, ⟨by rw [HST.out]; exact HW9.out⟩⟩
          case measure => simp [intOf]; omega
      · have hkn : k = n := by omega
        subst hkn
        have hkI : ¬ (k : Int) < (k : Int) := by omega
        have HI9 := Aside0.mk HI.out
        rw [List.take_of_length_le (by rw [HEN.out]; exact Nat.le_refl _)] at HI9
        go_wp2_with fail
        go_ret
        exact ⟨_, rfl, HI9.out⟩
end
end Go.Proofs.YtbgbmphjjdiaeaaDoor.P
/- inline.Plain: what can be read of parts. -/
namespace Go.Proofs.YtbgbmphjjdiaeaaDoor.P
open Go.RowKit Go.Proofs.YtbgbmphjjdiaeaaDoorW.PrintWords Go.Proofs.YtbgbmphjjdiaeaaDoorW.PrintLast Go.Proofs.YtbgbmphjjdiaeaaDoorW.PrintMore
set_option linter.unusedVariables false
set_option linter.unusedSimpArgs false
mutual
def plT : S24 → Bs
  | ⟨a, b, _, _, _, _, l⟩ => (if a = 14 ∨ a = 17 then bts b else if a = 15 ∨ a = 16 then [32] else []) ++ plL l
def plL : List S24 → Bs
  | [] => []
  | x :: r => plT x ++ plL r
end
theorem plT_eq (x : S24) : plT x = (if x.f0 = 14 ∨ x.f0 = 17 then bts x.f1 else if x.f0 = 15 ∨ x.f0 = 16 then [32] else []) ++ plL x.f6 := by obtain ⟨a, b, c, d, e, f, l⟩ := x; exact plT.eq_1 a b c d e f l
theorem plL_app (a b : List S24) : plL (a ++ b) = plL a ++ plL b := by
  induction a with
  | nil => simp [plL]
  | cons x r ih => rw [List.cons_append, plL, plL, ih, List.append_assoc]
theorem pl_take {l : List S24} {k : Nat} (h : k < l.length) : plL (l.take (k + 1)) = plL (l.take k) ++ plT (rd_T24 l (k : Int)) := by
  rw [take_rd h, plL_app, plL, plL, List.append_nil]
mutual
theorem plT_len : ∀ x : S24, (plT x).length ≤ wtT x
  | ⟨a, b, c, d, e, f, l⟩ => by
    have h := plL_len l
    rw [plT, wtT, List.length_append]
    split
    · rw [bts_len]; omega
    · split
      · show 1 + _ ≤ _; omega
      · show 0 + _ ≤ _; omega
theorem plL_len : ∀ l : List S24, (plL l).length ≤ wtL l
  | [] => Nat.le_refl _
  | x :: r => by have h1 := plT_len x; have h2 := plL_len r; rw [plL, wtL, List.length_append]; omega
end
structure PlI (w0 W : World) (acc : Bs) (wr : World) : Prop where
  bld : Lib.IsBuilderF 74 5 w0.heap.size w0.heap.size (Lib.byteCells acc) wr
  below : Below w0.heap.size w0 wr
  kept : Lib.OthersKept 5 (some w0.heap.size) W wr
theorem PlI.alloc {w0 W wr : World} {acc : Bs} (h : PlI w0 W acc wr) (o : Obj) : PlI w0 W acc (wr.alloc o) :=
  ⟨bldF_step h.bld (below_alloc (Below.refl _ _) _), below_alloc h.below _, h.kept.alloc o⟩
theorem PlI.then {w0 W W1 wr : World} {acc acc1 : Bs} (h : PlI w0 W acc W1) (k : PlI w0 W1 acc1 wr) : PlI w0 W acc1 wr := ⟨k.bld, k.below, h.kept.trans k.kept⟩
theorem cells_pl (s : ByteArray) : Lib.strCells s = Lib.byteCells (bts s) := rfl
theorem PlI.text {w0 W wr : World} {acc : Bs} (h : PlI w0 W acc wr) (s : ByteArray) (hl : acc.length + s.size ≤ 140737488355328) :
    Calls Tryd.prog 63 #[.pointer (some ⟨w0.heap.size, 0, none⟩), .string s] wr fun e w' => e = .returned (.tuple #[.int .i64 s.size, .nilIface]) ∧ PlI w0 wr (acc ++ bts s) w' :=
  (Tryd.Builder_WriteString_k w0.heap.size w0.heap.size (Lib.byteCells acc) s wr h.bld (by rw [Lib.byteCells_length]; exact hl) h.below.size).mono fun e w' h2 =>
    ⟨h2.1, by rw [Lib.byteCells_append, ← cells_pl]; exact .inr h2.2.1, h.below.trans h2.2.2.1, h2.2.2.2⟩
theorem PlI.blank {w0 W wr : World} {acc : Bs} (h : PlI w0 W acc wr) (hl : acc.length + 1 ≤ 140737488355328) :
    Calls Tryd.prog 94 #[.pointer (some ⟨w0.heap.size, 0, none⟩), .int .u8 32] wr fun e w' => e = .returned .nilIface ∧ PlI w0 wr (acc ++ [32]) w' :=
  (Tryd.Builder_WriteByte_k w0.heap.size w0.heap.size (Lib.byteCells acc) 32 wr h.bld (by rw [Lib.byteCells_length]; exact hl) h.below.size).mono fun e w' h2 =>
    ⟨h2.1, by rw [Lib.byteCells_append]; exact .inr h2.2.1, h.below.trans h2.2.2.1, h2.2.2.2⟩
section
attribute [local go_sem] World.cell?_alloc_some World.cell?_setCell_far
set_option maxRecDepth 100000 in
set_option maxHeartbeats 8000000 in
theorem plain_calls {w0 : World} : ∀ (s : Nat) (l : List S24) (acc : Bs) (W : World) (A : Option Addr) (c : Nat), dpL l < s → wtL l ≤ 1000000000 → acc.length + wtL l ≤ 1000000000 → Kd.C k24 w0 A l.length l → l.length ≤ c → PlI w0 W acc W →
    Calls Tryd.prog 88 #[.pointer (some ⟨w0.heap.size, 0, none⟩), .slice A l.length c] W fun e w' => e = .returned (.tuple #[]) ∧ PlI w0 W (acc ++ plL l) w'
  | 0, _, _, _, _, _, h, _, _, _, _, _ => absurd h (by omega)
  | s + 1, l, acc, W, A, c, hd, hwt, hac, hC, hc, hI => by
    obtain ⟨n, en⟩ : ∃ n, n = l.length := ⟨_, rfl⟩
    have HEN := Aside0.mk en
    have HD := Aside0.mk hd
    have HWT := Aside0.mk hwt
    have HAC := Aside0.mk hac
    have HC := Aside0.mk hC
    have HI : Aside0 (PlI w0 W (acc ++ plL (l.take 0)) W) := ⟨by simpa [plL] using hI⟩
    have hn9 : n ≤ 1000000000 := by have := len_wt l; omega
    rw [← en] at hc ⊢
    have IH := Aside0.mk (fun (L : List S24) (acc1 : Bs) (W1 : World) (A1 : Option Addr) (c1 : Nat) h1 h2 h3 h4 h5 h6 => plain_calls (w0 := w0) s L acc1 W1 A1 c1 h1 h2 h3 h4 h5 h6)
    clear en hd hwt hac hC hI
    go_enter Tryd.func88, Tryd.ntmps88
    go_wp2_with fail
    go_loopw [8] (fun v wr => ∃ k : Nat, k ≤ n ∧ v = .int .i64 k ∧ Aside0 (PlI w0 W (acc ++ plL (l.take k)) wr)) (fun v _ => n - (intOf v).toNat)
    case atStart => exact ⟨0, by omega, rfl, HI⟩
    case round =>
      clear HI
      obtain ⟨k, hk, rfl, HI⟩ := hrel
      by_cases hlt : k < n
      · have hkl : k < l.length := by rw [← HEN.out]; exact hlt
        have hstep := congrArg (fun L => acc ++ L) (pl_take hkl)
        simp only [← List.append_assoc] at hstep
        have hwk := wt_take hkl
        have hwx := wtT_eq (rd_T24 l (k : Int))
        have hdx := dp_in hkl
        have hW1 := HWT.out
        have hD1 := HD.out
        have hA1 := HAC.out
        have hlk := plL_len (l.take k)
        obtain ⟨a1, ea1⟩ : ∃ a1, a1 = acc ++ plL (l.take k) := ⟨_, rfl⟩
        have hal : a1.length + wtT (rd_T24 l (k : Int)) ≤ 1000000000 := by
          rw [ea1, List.length_append]
          omega
        rw [← ea1] at HI hstep
        have p1 : (0 : Int) ≤ (k : Int) := by omega
        have q1 : (k : Int) < (n : Int) := by omega
        have hbw := HI.out.below
        have hCr := Kd.C_below HC.out hbw
        rw [← HEN.out] at hCr
        obtain ⟨ad, A6, c6, rfl, x0, x1, x2, x3, x4, x5, x6, hl6, hi6⟩ := at_T24 hCr (k : Int) p1 q1
        obtain ⟨ad', A6', c6', ead, _, _, _, _, _, _, x6', hl6', hi6'⟩ := at_T24 (by have := HC.out; rwa [← HEN.out] at this) (k : Int) p1 q1
        injection ead with ead
        subst ead
        have x6'' := (hbw.cell (World.block_lt_of_cell? w0 _ x6')).trans x6'
        have e6 := Option.some.inj (x6''.symm.trans x6)
        injection e6 with e6 _ e6c
        subst e6
        subst e6c
        clear x6' x6'' hl6' hi6
        simp only [Int.toNat_natCast] at x0 x1 x2 x3 x4 x5 x6
        obtain ⟨y, ey⟩ : ∃ y, y = rd_T24 l (k : Int) := ⟨_, rfl⟩
        rw [← ey] at x0 x1 x2 x3 x4 x5 x6 hl6 hi6' hwx hdx hwk hstep hal
        rw [plT_eq, ← List.append_assoc] at hstep
        obtain ⟨y0, y1, y2, y3, y4, y5, y6⟩ := y
        simp only at x0 x1 x2 x3 x4 x5 x6 hl6 hi6' hwx hdx hstep
        have hkN : IntKind.i64.wrap ((k : Int) + 1) = (k : Int) + 1 := by rw [IntKind.wrap_i64]; omega
        obtain ⟨n6, en6⟩ : ∃ n6, n6 = y6.length := ⟨_, rfl⟩
        rw [← en6] at x6 hl6 hi6'
        have HP1 := Aside0.mk (HI.out.alloc (.cells #[.int .i64 y0, .string y1, .string y2, .int .i64 y3, .int .i64 y4, .bool y5, .slice A6' n6 c6'] 24))
        have HN1 := Aside0.mk (blk_new wr (.cells #[.int .i64 y0, .string y1, .string y2, .int .i64 y3, .int .i64 y4, .bool y5, .slice A6' n6 c6'] 24))
        have HNB : Aside0 (wr.heap.size ≠ w0.heap.size) := ⟨by
          obtain ⟨cc, hcc⟩ := bldF_block HI.out.bld
          have := blk_lt hcc
          omega⟩
        have HL6 := Aside0.mk hl6
        have HC6 := Aside0.mk hi6'
        have HE6 := Aside0.mk en6
        have HDX := Aside0.mk (show dpL y6 < s by omega)
        have HW6 : Aside0 (wtL y6 ≤ 1000000000) := ⟨by omega⟩
        have CT := Aside0.mk (HP1.out.text y1 (by omega))
        have CB := Aside0.mk (HP1.out.blank (by omega))
        have HM1 : Aside0 (a1.length + y1.size + wtL y6 ≤ 1000000000 ∧ a1.length + 1 + wtL y6 ≤ 1000000000) := ⟨by omega⟩
        have hpc : (y0 == 14) = true ∨ ((y0 == 14) = false ∧ (y0 == 17) = true) ∨ ((y0 == 14) = false ∧ (y0 == 17) = false ∧ (y0 == 15) = true) ∨ ((y0 == 14) = false ∧ (y0 == 17) = false ∧ (y0 == 15) = false ∧ (y0 == 16) = true) ∨ ((y0 == 14) = false ∧ (y0 == 17) = false ∧ (y0 == 15) = false ∧ (y0 == 16) = false) := by
          simp only [beq_iff_eq, beq_eq_false_iff_ne]
          omega
        rcases hpc with b14 | ⟨b14, b17⟩ | ⟨b14, b17, b15⟩ | ⟨b14, b17, b15, b16⟩ | ⟨b14, b17, b15, b16⟩
        focus
          rw [if_pos (.inl (by simpa using b14))] at hstep
          have HM2 : Aside0 ((a1 ++ bts y1).length + wtL y6 ≤ 1000000000) := ⟨by rw [List.length_append, bts_len]; exact HM1.out.1⟩
          have HST := Aside0.mk hstep
          clear hwk hwx hdx hW1 hD1 hA1 hCr hl6 hi6' ey hkl en6 hbw hal hlk ea1 hstep
          go_upto_region 10 with (first | (go_at_call 63; (with_reducible refine (CT.out).mono ?_); rintro e w2 ⟨rfl, hp⟩; have HP2 := Aside0.mk (HP1.out.then hp); have HX2 := Aside0.mk (hp.kept _ _ HN1.out (fun e => HNB.out (Option.some.inj e)) (fun c fz e => by cases e)); clear hp))
        rotate_left 1
        focus
          rw [if_pos (.inr (by simpa using b17))] at hstep
          have HM2 : Aside0 ((a1 ++ bts y1).length + wtL y6 ≤ 1000000000) := ⟨by rw [List.length_append, bts_len]; exact HM1.out.1⟩
          have HST := Aside0.mk hstep
          clear hwk hwx hdx hW1 hD1 hA1 hCr hl6 hi6' ey hkl en6 hbw hal hlk ea1 hstep
          go_upto_region 10 with (first | (go_at_call 63; (with_reducible refine (CT.out).mono ?_); rintro e w2 ⟨rfl, hp⟩; have HP2 := Aside0.mk (HP1.out.then hp); have HX2 := Aside0.mk (hp.kept _ _ HN1.out (fun e => HNB.out (Option.some.inj e)) (fun c fz e => by cases e)); clear hp))
        rotate_left 1
        focus
          rw [if_neg (by simp only [beq_iff_eq, beq_eq_false_iff_ne] at b14 b17; omega), if_pos (.inl (by simpa using b15))] at hstep
          have HM2 : Aside0 ((a1 ++ [32]).length + wtL y6 ≤ 1000000000) := ⟨by rw [List.length_append]; exact HM1.out.2⟩
          have HST := Aside0.mk hstep
          clear hwk hwx hdx hW1 hD1 hA1 hCr hl6 hi6' ey hkl en6 hbw hal hlk ea1 hstep
          go_upto_region 10 with (first | (go_at_call 94; (with_reducible refine (CB.out).mono ?_); rintro e w2 ⟨rfl, hp⟩; have HP2 := Aside0.mk (HP1.out.then hp); have HX2 := Aside0.mk (hp.kept _ _ HN1.out (fun e => HNB.out (Option.some.inj e)) (fun c fz e => by cases e)); clear hp))
        rotate_left 1
        focus
          rw [if_neg (by simp only [beq_iff_eq, beq_eq_false_iff_ne] at b14 b17; omega), if_pos (.inr (by simpa using b16))] at hstep
          have HM2 : Aside0 ((a1 ++ [32]).length + wtL y6 ≤ 1000000000) := ⟨by rw [List.length_append]; exact HM1.out.2⟩
          have HST := Aside0.mk hstep
          clear hwk hwx hdx hW1 hD1 hA1 hCr hl6 hi6' ey hkl en6 hbw hal hlk ea1 hstep
          go_upto_region 10 with (first | (go_at_call 94; (with_reducible refine (CB.out).mono ?_); rintro e w2 ⟨rfl, hp⟩; have HP2 := Aside0.mk (HP1.out.then hp); have HX2 := Aside0.mk (hp.kept _ _ HN1.out (fun e => HNB.out (Option.some.inj e)) (fun c fz e => by cases e)); clear hp))
        rotate_left 1
        focus
          rw [if_neg (by simp only [beq_iff_eq, beq_eq_false_iff_ne] at b14 b17; omega), if_neg (by simp only [beq_iff_eq, beq_eq_false_iff_ne] at b15 b16; omega)] at hstep
          have HM2 : Aside0 ((a1 ++ []).length + wtL y6 ≤ 1000000000) := ⟨by rw [List.append_nil]; omega⟩
          have HST := Aside0.mk hstep
          clear hwk hwx hdx hW1 hD1 hA1 hCr hl6 hi6' ey hkl en6 hbw hal hlk ea1 hstep
          go_upto_region 10 with (fail)
          have HP2 : Aside0 (PlI w0 W (a1 ++ []) (wr.alloc (.cells #[.int .i64 y0, .string y1, .string y2, .int .i64 y3, .int .i64 y4, .bool y5, .slice A6' n6 c6'] 24))) := ⟨by rw [List.append_nil]; exact HP1.out⟩
          have HX2 := Aside0.mk HN1.out
          clear HP1 HN1 CT CB
          generalize (wr.alloc (.cells #[.int .i64 y0, .string y1, .string y2, .int .i64 y3, .int .i64 y4, .bool y5, .slice A6' n6 c6'] 24)) = w2 at HP2 HX2 ⊢
        rotate_left 1
        all_goals
          clear x0 x1 x2 x3 x4 x5 x6
          have q6 : w2.cell? ⟨wr.heap.size, 6, none⟩ = some (.slice A6' n6 c6') := (box7 HX2.out).2.2.2.2.2.2
          have CI := Aside0.mk (IH.out y6 _ w2 A6' c6' HDX.out HW6.out HM2.out (by rw [← HE6.out]; exact HC6.out) (by rw [← HE6.out]; exact HL6.out) ⟨HP2.out.bld, HP2.out.below, Lib.OthersKept.refl _ _ _⟩)
          rw [← HE6.out] at CI
          go_wp2_with (first | (go_at_call 88; (with_reducible refine (CI.out).mono ?_); rintro e w3 ⟨rfl, hp⟩; have HP3 := Aside0.mk (HP2.out.then hp); clear hp))
          go_roundw
          case rel => exact ⟨k + 1, by omega, by go_num, ⟨by rw [HST.out]; exact HP3.out⟩⟩
          case measure => simp [intOf]; omega
      · have hkn : k = n := by omega
        subst hkn
        have hkI : ¬ (k : Int) < (k : Int) := by omega
        have HI9 := Aside0.mk HI.out
        rw [List.take_of_length_le (by rw [HEN.out]; exact Nat.le_refl _)] at HI9
        go_wp2_with fail
        go_end0
        exact ⟨rfl, HI9.out⟩
set_option maxRecDepth 100000 in
set_option maxHeartbeats 8000000 in
theorem plain75 (A : Option Addr) (c : Nat) (l : List S24) (w : World) (hC : Kd.C k24 w A l.length l) (hc : l.length ≤ c) (hw : wtL l ≤ 1000000000) :
    Calls Tryd.prog 75 #[.slice A l.length c] w fun e w' => e = .returned (.string (txt (plL l))) ∧ Below w.heap.size w w' := by
  have hP : PlI w (w.alloc (.cells #[.pointer none, .slice none 0 0] 74)) [] (w.alloc (.cells #[.pointer none, .slice none 0 0] 74)) := ⟨Lib.IsBuilderF.of (Lib.fresh_isBuilder 74 5 w), below_alloc (Below.refl _ _) _, Lib.OthersKept.refl _ _ _⟩
  have CP := Aside0.mk (plain_calls (w0 := w) (dpL l + 1) l [] _ A c (by omega) hw (by show 0 + _ ≤ _; omega) hC hc hP)
  clear hP hC hw
  generalize l.length = n at *
  go_enter Tryd.func75, Tryd.ntmps75
  go_wp2_with (first | (go_at_call 88; (with_reducible refine CP.out.mono ?_); rintro e w2 ⟨rfl, hp⟩; have HP2 := Aside0.mk hp; clear hp; have CS := Aside0.mk (Tryd.Builder_String_any_k w.heap.size w.heap.size (plL l) w2 HP2.out.bld HP2.out.below.size)) | (go_at_call 56; (with_reducible refine CS.out.mono ?_); rintro e w3 ⟨rfl, h2⟩; have HB3 := Aside0.mk (HP2.out.below.trans h2.2.1); clear h2))
  go_ret
  exact ⟨rfl, HB3.out⟩
end
end Go.Proofs.YtbgbmphjjdiaeaaDoor.P
/- slug.Unique: for every list of at most a million texts the call returns the names, no two of which are one. -/
namespace Go.Proofs.YtbgbmphjjdiaeaaDoor.P
open Go.RowKit Go.Maps Go.Proofs.YtbgbmphjjdiaeaaDoor.M Go.Proofs.YtbgbmphjjdiaeaaDoorW.PrintWords Go.Proofs.YtbgbmphjjdiaeaaDoorW.PrintLast Go.Proofs.YtbgbmphjjdiaeaaDoorW.PrintMore
set_option linter.unusedVariables false
set_option linter.unusedSimpArgs false
theorem dec_len7 (j : Nat) (h : j < 10000000) : (Lib.decDigits j).length ≤ 7 := T.dec_len 6 j (by omega)
theorem itoaN_calls (n : Nat) (hn : n ≤ 1000000000) {wr wi : World} (hb : Below wr.heap.size wr wi) (hT : Tabs wi) : Calls Tryd.prog 69 #[.int .i64 ((n : Nat) : Int)] wi fun e w' => e = .returned (.string ⟨(Lib.decDigits n).toArray⟩) ∧ Below wr.heap.size wr w' :=
  (Tryd.strconv_Itoa n (by omega) (by omega) wi hT.2).mono fun e w' ⟨he, k, os, hw⟩ => ⟨by rw [he, show Lib.itoa (n : Int) = Lib.decDigits n by unfold Lib.itoa; rw [if_neg (by omega)]; rfl], by rw [hw]; exact hb.trans (Lib.below_grow _ _ hb.size _ _)⟩
theorem UInv.step {l : List (List UInt8)} {k mb : Nat} {v : Value} {w wr wi : World} (h : UInv l k mb v w wr) (hb : Below wr.heap.size wr wi) : UInv l k mb v w wi :=
  ⟨Kd.R_below h.row hb, h.met.below' hb, below_then h.below h.below.size hb⟩
set_option maxRecDepth 100000 in
set_option maxHeartbeats 8000000 in
theorem uniqN_calls (A0 : Option Addr) (c0 : Nat) (l0 : List ByteArray) (w : World) (hr0 : Kd.C Kd.string w A0 l0.length l0) (hc0 : l0.length ≤ c0) (hl : l0.length ≤ 1000000) (hz : ∀ x ∈ l0, x.size ≤ 1099511627776) (hT : Tabs w) :
    Calls Tryd.prog 41 #[.slice A0 l0.length c0] w fun e w' => ∃ v0_ : Value, e = .returned (v0_) ∧ Kd.R Kd.string 9 w' w.heap.size (fun _ => True) v0_ (uniqB l0) ∧ Below w.heap.size w w' := by
  have hmm := @run_makeMap Tryd.prog
  have HR0 := Aside0.mk hr0
  have HZ := Aside0.mk hz
  have HC0 := Aside0.mk hc0
  have HT := Aside0.mk hT
  obtain ⟨ls, hls⟩ : ∃ ls, ls = l0.map (·.data.toList) := ⟨_, rfl⟩
  have HLS := Aside0.mk hls
  obtain ⟨n, hn⟩ : ∃ n, n = l0.length := ⟨_, rfl⟩
  have HN := Aside0.mk hn
  have hln : Aside0 (ls.length = n) := ⟨by rw [hls, hn]; simp⟩
  rw [← hn] at hl
  rw [← hn]
  have HU0 : Aside0 (UInv ls 0 w.heap.size (.slice none 0 0) w (w.alloc (.map #[] 0))) := ⟨⟨Kd.R_nil _ _ _ _ _, by
    have := MapF.made w Tryd.prog 9 encB Value.bool
    unfold Met
    simpa [T.uniqL] using this, below_alloc (Below.refl _ _) _⟩⟩
  clear hr0 hz hc0 hls hn hT
  go_enter Tryd.func41, Tryd.ntmps41
  go_wp2_with fail
  obtain ⟨mb, hmb⟩ : ∃ mb, mb = w.heap.size := ⟨_, rfl⟩
  have HMB := Aside0.mk hmb
  rw [← hmb] at HU0 ⊢
  clear hmb
  go_loopw [4, 12] (fun v4 v12 wr => ∃ k : Nat, k ≤ n ∧ v12 = .int .i64 k ∧ Aside0 (UInv ls k mb v4 w wr)) (fun _ v12 _ => n - (intOf v12).toNat)
  case atStart => exact ⟨0, by omega, rfl, HU0⟩
  case round =>
    clear HU0
    obtain ⟨k, hk, rfl, HU⟩ := hrel
    obtain ⟨O, hO⟩ : ∃ O, O = T.uniqL [] (ls.take k) := ⟨_, rfl⟩
    have HO := Aside0.mk hO
    by_cases hlt : k < n
    · obtain ⟨wo, rfl⟩ : ∃ wo, wo = wr := ⟨wr, rfl⟩
      have hkl : k < l0.length := by rw [← HN.out]; exact hlt
      obtain ⟨s, hs⟩ : ∃ s, s = rdOf ByteArray.empty l0 (k : Int) := ⟨_, rfl⟩
      have hsz : s.size ≤ 1099511627776 := by rw [hs]; exact HZ.out _ (rdOf_mem l0 k hkl)
      have HSZ := Aside0.mk hsz
      have HST : Aside0 (ls.take (k + 1) = ls.take k ++ [s.data.toList]) := ⟨by rw [HLS.out, hs]; exact rdOf_data l0 k hkl⟩
      have hOl : Aside0 (O.length = k) := ⟨by rw [hO, T.uniqL_length, List.length_take, hln.out]; simp; omega⟩
      have p1 : 0 ≤ (k : Int) := by omega
      have q1 : (k : Int) < (n : Int) := by omega
      obtain ⟨ad, he, hx0⟩ := Kd.at_string HR0.out (k : Int) p1 (by rw [← HN.out]; exact q1)
      rw [← hs] at hx0
      have hx := (HU.out.below.cell (World.block_lt_of_cell? w _ hx0)).trans hx0
      clear hx0 hs
      cases he
      have HHL := Aside0.mk hlt
      clear hlt
      replace p1 := eq_true p1
      replace q1 := eq_true q1
      have HKL := Aside0.mk hkl
      clear hkl hO
      have HK := Aside0.mk hk
      have hkk : (k : Int).toNat = k := by omega
      rw [hkk] at hx
      clear hk hkk
      go_wp2_with fail
      go_loopw [7, 8] (fun v7 v8 wi => ∃ j : Nat, v7 = .string (mkB (T.tryN s.data.toList j)) ∧ v8 = .int .i64 ((j : Int) + 1) ∧ Aside0 (Below wo.heap.size wo wi ∧ j ≤ T.freeN O s.data.toList)) (fun _ v8 _ => T.freeN O s.data.toList + 1 - (intOf v8).toNat)
      case atStart => exact ⟨0, by rw [tryN_zero, mkB_data], rfl, ⟨Below.refl _ _, Nat.zero_le _⟩⟩
      case round =>
        obtain ⟨j, rfl, rfl, HJW⟩ := hrel
        have HU1 := Aside0.mk (HU.out.step HJW.out.1)
        have HJ := Aside0.mk HJW.out.2
        have hsp := T.freeN_spec O s.data.toList
        have hsz := HSZ.out
        have hol := hOl.out
        have hkn := HHL.out
        have hjj := HJ.out
        have hns : (mkB (T.tryN s.data.toList j)).size ≤ 1099511628776 := by
          have h1 : (mkB (T.tryN s.data.toList j)).size = (T.tryN s.data.toList j).length := by simp [mkB, ByteArray.size]
          have h2 := dec_len7 j (by omega)
          have h3 : s.data.toList.length = s.size := by simp
          rw [h1]
          unfold T.tryN
          split
          · omega
          · rw [List.length_append, List.length_cons]
            omega
        by_cases hm : T.tryN s.data.toList j ∈ O
        · have hlk := met_look (HO.out ▸ HU1.out.met) (T.tryN s.data.toList j) (by omega)
          rw [decide_eq_true hm] at hlk
          unfold encB at hlk
          have hj2 : j + 1 ≤ T.freeN O s.data.toList := by
            have : j ≠ T.freeN O s.data.toList := fun e => hsp.2.2 (e ▸ hm)
            omega
          have HJ2 := Aside0.mk hj2
          have HSUC : Aside0 ((s ++ (⟨#[45]⟩ : ByteArray)) ++ (⟨(Lib.decDigits (j + 1)).toArray⟩ : ByteArray) = mkB (T.tryN s.data.toList (j + 1))) := ⟨tryN_succ s j⟩
          obtain ⟨dd, hdd⟩ : ∃ dd : ByteArray, dd = ⟨(Lib.decDigits (j + 1)).toArray⟩ := ⟨_, rfl⟩
          have CI : Aside0 (Calls Tryd.prog 69 #[.int .i64 ((j : Int) + 1)] wr fun e w' => e = .returned (.string dd) ∧ Below wo.heap.size wo w') := ⟨by
            rw [hdd]
            exact itoaN_calls (j + 1) (by omega) HJW.out.1 (HT.out.below HU1.out.below)⟩
          have hds : dd.size ≤ 7 := by
            rw [hdd]
            have := dec_len7 (j + 1) (by omega)
            simpa [ByteArray.size] using this
          rw [← hdd] at HSUC
          have g1 : s.size + 1 ≤ 9223372036854775807 := by omega
          have g2 : (s ++ (⟨#[45]⟩ : ByteArray)).size + dd.size ≤ 9223372036854775807 := by
            rw [ByteArray.size_append]
            show s.size + 1 + dd.size ≤ _
            omega
          have hjn : IntKind.i64.wrap ((j : Int) + 1 + 1) = (j : Int) + 1 + 1 := by rw [IntKind.wrap_i64]; omega
          generalize hnm : mkB (T.tryN s.data.toList j) = nm at *
          clear hsp hsz hol hkn hjj hns hm hj2 hds hdd hnm
          have c1b0 := eq_true g1
          have c1b1 := eq_true g2
          have c1b2 : (9223372036854775807 < s.size + 1) = False := eq_false (Nat.not_lt.2 g1)
          have c1b3 : (9223372036854775807 < (s ++ (⟨#[45]⟩ : ByteArray)).size + dd.size) = False := eq_false (Nat.not_lt.2 g2)
          have g3 : s.size + 1 + dd.size ≤ 9223372036854775807 := by rw [ByteArray.size_append] at g2; exact g2
          have c1b4 := eq_true g3
          have c1b5 : (9223372036854775807 < s.size + 1 + dd.size) = False := eq_false (Nat.not_lt.2 g3)
          have c1b6 : (⟨#[45]⟩ : ByteArray).size = 1 := rfl
          clear g1 g2
          go_wp2_with (go_at_call 69; refine (CI.out).mono ?_; rintro e w2 ⟨rfl, hb⟩; have HB2 := Aside0.mk hb; clear hb)
          go_roundw
          case rel => exact ⟨j + 1, by rw [HSUC.out], by go_num, ⟨HB2.out, HJ2.out⟩⟩
          case measure => simp [intOf]; have := HJ2.out; omega
        · have hlk := met_look (HO.out ▸ HU1.out.met) (T.tryN s.data.toList j) (by omega)
          rw [decide_eq_false hm] at hlk
          unfold encB at hlk
          have hjf : T.tryN s.data.toList j = T.freeS O s.data.toList := by
            have : j = T.freeN O s.data.toList := by
              rcases Nat.lt_or_ge j (T.freeN O s.data.toList) with h | h
              · exact absurd (hsp.2.1 j h) hm
              · omega
            unfold T.freeS
            rw [← this]
          have HO2 : Aside0 (T.uniqL [] (ls.take (k + 1)) = O ++ [T.tryN s.data.toList j]) := ⟨by
            rw [HST.out, T.uniqL_append, ← HO.out, hjf]
            rfl⟩
          obtain ⟨hu, hmet, hgr⟩ := met_upd (HO.out ▸ HU1.out.met) (T.tryN s.data.toList j) (by omega)
          have hrow := U_over_map HU1.out.row HU1.out.met hgr
          rw [← HO.out] at hrow
          have hbel : Below w.heap.size w (metW (T.tryN s.data.toList j) mb wr) := HU1.out.below.grown hgr HU1.out.below.size (fun i hi => by injection hi with hi; rw [← hi, HMB.out]; exact Nat.le_refl _)
          unfold encB at hu
          obtain ⟨w4, hw4⟩ : ∃ w4, w4 = metW (T.tryN s.data.toList j) mb wr := ⟨_, rfl⟩
          rw [← hw4] at hu hmet hrow hbel
          have hmn : O.map mkB ++ [mkB (T.tryN s.data.toList j)] = (O ++ [T.tryN s.data.toList j]).map mkB := by simp
          obtain ⟨OL, hOL⟩ : ∃ OL, OL = O.map mkB := ⟨_, rfl⟩
          have hll : OL.length = k := by rw [hOL, List.length_map]; exact hol
          rw [← hOL] at hrow hmn
          have HOLL := Aside0.mk hll
          have HMN := Aside0.mk hmn
          have HME := Aside0.mk hmet
          have HRW := Aside0.mk hrow
          have HBE := Aside0.mk hbel
          have hkN : IntKind.i64.wrap ((k : Int) + 1) = (k : Int) + 1 := by rw [IntKind.wrap_i64]; omega
          obtain ⟨Ao, co, eo⟩ := Kd.R_slice HRW.out
          subst eo
          generalize hnm : mkB (T.tryN s.data.toList j) = nm at *
          generalize hnt : T.tryN s.data.toList j = nt at *
          clear hsp hsz hol hjj hns hm hnm hnt hjf hgr hw4 hmn hmet hrow hbel hOL hll hkn
          go_wp2_with (first | ((with_reducible refine gate_builtin (b := .append) (xs := #[.tmp 29, .tmp 31]) rfl ?_); at_builtin; refine Kd.R_append Kd.string (w0 := w) w.heap.size rfl (.tmp 29) (.tmp 31) 34 9 (.string ⟨#[]⟩) 16 rfl Tryd.underlying34 info9 rfl (by decide) (by omega) (.slice Ao OL.length co) OL nm [.string nm] (fun _ => True) (fun _ => False) rfl rfl ?aP (fun _ hk => hk.elim) ?aF ?aO ?aB ?aS ?aL ?_; (case aP => exact rfl); (case aB => exact HBE.out); (case aF => exact (fun _ _ => trivial)); (case aO => exact HRW.out); (case aS => exact HBE.out.size); (case aL => have := HOLL.out; have := HHL.out; omega); intro v5 w5 ho hb hg hat; have HO5 := Aside0.mk ho; have HB5 := Aside0.mk hb; have HM5 := Aside0.mk (HME.out.grown hg (own_ne HRW.out HME.out)); clear ho hb hg hat))
          go_roundw
          case rel => exact ⟨k + 1, by have := HHL.out; omega, by go_num, ⟨⟨by rw [HO2.out, ← HMN.out]; exact HO5.out, by rw [HO2.out]; exact HM5.out, HB5.out⟩⟩⟩
          case measure => simp [intOf]; have := HHL.out; omega
    · obtain rfl : k = n := by omega
      have hkk : ¬ (k : Int) < (k : Int) := by omega
      have hres : O.map mkB = uniqB l0 := by
        rw [hO, List.take_of_length_le (by rw [hln.out]; exact Nat.le_refl _), HLS.out]
        rfl
      have HROW := Aside0.mk HU.out.row
      rw [← HO.out, hres] at HROW
      clear hO hk
      go_wp2_with fail
      go_ret
      exact ⟨_, rfl, HROW.out, HU.out.below⟩
end Go.Proofs.YtbgbmphjjdiaeaaDoor.P
/- What slug's closures do; slug.Ids and slug.Apply. -/
namespace Go.Proofs.YtbgbmphjjdiaeaaDoor.P
open Go.RowKit Go.Proofs.YtbgbmphjjdiaeaaDoorW.PrintWords Go.Proofs.YtbgbmphjjdiaeaaDoorW.PrintLast Go.Proofs.YtbgbmphjjdiaeaaDoorW.PrintMore
set_option linter.unusedVariables false
set_option linter.unusedSimpArgs false
theorem gateD {P : Program} {ops : Array Oper} {o : Oper} {a : Act} {w : World} {K : Act → World → Prop} {Q : Exit → Act → World → Prop} {E : Prop} {d : Nat} (h : o.dst = some d) (hp : if Region.wanted o (yielded ops a.tmps) = true then Oper.wp P o a w K Q else E) : if Region.wanted o (yielded ops a.tmps) = true then Oper.wp P o a w K Q else E := hp
/-- A row of texts that the call owns, in a variable of its own. -/
structure RowI (w0 : World) (oo : Nat) (O : List ByteArray) (W : World) : Prop where
  oc : ∃ v, W.heap[oo]? = some (.cells #[v] 34 (0, 0)) ∧ Kd.R Kd.string 9 W w0.heap.size (fun _ => True) v O
  below : Below w0.heap.size w0 W
  lo : w0.heap.size ≤ oo
theorem RowI.step {w0 W W1 : World} {oo : Nat} {O : List ByteArray} (h : RowI w0 oo O W) (hb : Below W.heap.size W W1) : RowI w0 oo O W1 := by
  obtain ⟨v, h1, h2⟩ := h.oc
  exact ⟨⟨v, blk_below h1 hb, Kd.R_below h2 hb⟩, below_then h.below h.below.size hb, h.lo⟩
theorem RowI.setN {w0 W : World} {oo nx : Nat} {O : List ByteArray} (h : RowI w0 oo O W) {cs : Array Value} (hx : W.heap[nx]? = some (.cells cs 24 (0, 0))) (hlo : w0.heap.size ≤ nx) (j : Nat) (u : Value) : RowI w0 oo O (W.setCell ⟨nx, j, none⟩ u) := by
  obtain ⟨v, h1, h2⟩ := h.oc
  exact ⟨⟨v, blk_far h1 (p := ⟨nx, j, none⟩) (blk_ne h1 hx (by decide)) u, Kd.R_set h2 hx (by decide) j u⟩, h.below.setCell hlo u, h.lo⟩
theorem RowI.grown {w0 W W1 : World} {oo : Nat} {O : List ByteArray} (h : RowI w0 oo O W) {row : Option Nat} (hg : W.grownBy W1 row) (hr : ∀ k, row = some k → w0.heap.size ≤ k ∧ ∃ cells, W.heap[k]? = some (.cells cells 24 (0, 0))) : RowI w0 oo O W1 := by
  obtain ⟨v, h1, h2⟩ := h.oc
  have hc : ∀ {q t : Nat} {cs : Array Value}, W.heap[q]? = some (.cells cs t (0, 0)) → t ≠ 24 → some q ≠ row := fun hq ht e => by
    obtain ⟨_, cells, hc⟩ := hr _ e.symm
    rw [hc] at hq
    injection hq with hq
    injection hq with _ hq
    exact ht hq.symm
  refine ⟨⟨v, blk_grown h1 hg (hc h1 (by decide)), Kd.R_mono (Kd.R_step (Kd.R_bound h2) (fun k hk hlt => hg.block k hlt ?_)) (fun _ _ => trivial)⟩, h.below.grown hg h.below.size (fun i hi => (hr i hi).1), h.lo⟩
  obtain ⟨_, _, _, q, hq, cells, hcc⟩ := hk
  have e : q = 9 := by
    have : q ∈ [9] := hq
    simpa using this
  subst e
  exact hc hcc (by decide)
theorem RowI.app {w0 W W1 : World} {oo : Nat} {O : List ByteArray} {v v1 : Value} {s : ByteArray} (hI : RowI w0 oo O W) (h1 : W.heap[oo]? = some (.cells #[v] 34 (0, 0))) (h2 : Kd.R Kd.string 9 W w0.heap.size (fun _ => True) v O) (hb : Below w0.heap.size w0 W1) (hg : W.grownBy W1 v.ownBlock) (hr : Kd.R Kd.string 9 W1 w0.heap.size (fun _ => True) v1 (O ++ [s])) :
    RowI w0 oo (O ++ [s]) (W1.setCell ⟨oo, 0, none⟩ v1) ∧ Same24 W (W1.setCell ⟨oo, 0, none⟩ v1) := by
  have hsc := blk_grown h1 hg (Kd.R_ne h2 h1 (by decide))
  exact ⟨⟨⟨v1, blk_put hsc 0 v1 (cs' := #[v1]) (by simp), Kd.R_set hr hsc (by decide) 0 v1⟩, hb.setCell hI.lo v1, hI.lo⟩, (Same24.grown hg (fun q cells hq => Kd.R_ne h2 hq (by decide))).trans (Same24.set hsc (by decide) 0 v1)⟩
section
attribute [local go_sem] World.cell?_alloc_some
set_option maxRecDepth 100000 in
set_option maxHeartbeats 8000000 in
theorem tell73 {w0 W : World} {oo nx : Nat} {O : List ByteArray} (h : RowI w0 oo O W) {y0 y3 y4 : Int} {y1 y2 : ByteArray} {y5 : Bool} {y6 : Value} (hx : W.heap[nx]? = some (.cells #[.int .i64 y0, .string y1, .string y2, .int .i64 y3, .int .i64 y4, .bool y5, y6] 24 (0, 0))) (hO : O.length ≤ 1000000000) :
    Calls Tryd.prog 73 #[.pointer (some ⟨nx, 0, none⟩), .pointer (some ⟨oo, 0, none⟩)] W fun e w' => e = .returned (.tuple #[]) ∧ RowI w0 oo (O ++ [y2]) w' ∧ Same24 W w' := by
  obtain ⟨v, h1, h2⟩ := h.oc
  obtain ⟨Ao, co, eo⟩ := Kd.R_slice h2
  subst eo
  have hd : Below W.heap.size W W.drew := below_drew (Below.refl _ _)
  have HK := Aside0.mk (show ∀ w', Below W.heap.size W w' → w'.cell? ⟨oo, 0, none⟩ = some (.slice Ao O.length co) ∧ w'.cell? ⟨nx, 2, none⟩ = some (.string y2) from fun w' hb => ⟨blk_cell (blk_below h1 hb) 0, blk_cell (blk_below hx hb) 2⟩)
  obtain ⟨c0, n2⟩ := HK.out W (Below.refl _ _)
  have HI := Aside0.mk (h.step hd)
  have HO1 := Aside0.mk (blk_below h1 hd)
  have HX1 := Aside0.mk (blk_below hx hd)
  have HR1 := Aside0.mk (Kd.R_below h2 hd)
  have HS1 := Aside0.mk (Same24.below hd)
  have HL := Aside0.mk hO
  have hne := Kd.R_ne HR1.out HO1.out (by decide)
  have hne2 := Kd.R_ne HR1.out HX1.out (by decide)
  clear h h1 h2 hx hO hd
  go_enter Tryd.func73, Tryd.ntmps73
  go_wp2_with fail
  have ga2 : (W.alloc (.cells #[.string y2] 9)).cell? ⟨oo, 0, none⟩ = some (.slice Ao O.length co) := (World.cell?_alloc_some _ _ _ (by rw [c0]; rfl)).trans c0
  have gan : (W.alloc (.cells #[.string y2] 9)).cell? ⟨nx, 2, none⟩ = some (.string y2) := (World.cell?_alloc_some _ _ _ (by rw [n2]; rfl)).trans n2
  go_region_law
    ((refine Kd.R_append_step Kd.string (w0 := w0) w0.heap.size (by rfl) _ _ 34 9 (.string ⟨#[]⟩) 16 (by rfl) Tryd.underlying34 info9 rfl (by decide) (by decide) (.slice Ao O.length co) O y2 [.string y2] (fun _ => True) (fun _ => False) (by rfl) (by rfl) rfl (fun _ h => h.elim) (fun _ _ => trivial) HR1.out HI.out.below HI.out.below.size (by have := HL.out; omega) ?_; intro v1 w2 ho hb hg hat; obtain ⟨A1, c1, hv1⟩ := Kd.R_slice ho; rw [List.length_append] at hv1; simp only [List.length_cons, List.length_nil, Nat.zero_add] at hv1; subst hv1; have g02 : w2.cell? ⟨oo, 0, none⟩ = some (.slice Ao O.length co) := blk_cell (blk_grown HO1.out hg hne) 0; have g82 : w2.cell? ⟨nx, 2, none⟩ = some (.string y2) := blk_cell (blk_grown HX1.out hg hne2) 2; have hfz : w2.frozen? ⟨oo, 0, none⟩ = false := blk_frozen (blk_grown HO1.out hg hne) 0))
  all_goals
    go_wp2_with fail
    (try (rename_i d_ hd_; cases hd_))
    (try simp only [Act.put, List.setIfInBounds_toArray, List.set_cons_zero, List.set_cons_succ])
    go_end0
    have h_ := HI.out.app HO1.out HR1.out hb hg ho
    exact ⟨rfl, h_.1, HS1.out.trans h_.2⟩
end
def slugB (l : List S24) : ByteArray := mkB (T.slugS (plL l))
section
attribute [local go_sem] World.cell?_alloc_some
set_option maxRecDepth 100000 in
set_option maxHeartbeats 8000000 in
theorem tell74 {w0 W : World} {oo nx n6 c6 : Nat} {A6 : Option Addr} {O : List ByteArray} {l6 : List S24} (h : RowI w0 oo O W) {y0 y3 y4 : Int} {y1 y2 : ByteArray} {y5 : Bool} (hx : W.heap[nx]? = some (.cells #[.int .i64 y0, .string y1, .string y2, .int .i64 y3, .int .i64 y4, .bool y5, .slice A6 n6 c6] 24 (0, 0))) (hn : n6 = l6.length) (hc : n6 ≤ c6)
    (hC : Kd.C k24 w0 A6 n6 l6) (hw : wtL l6 ≤ 1000000000) (hO : O.length ≤ 1000000000) (hT : Tabs w0) :
    Calls Tryd.prog 74 #[.pointer (some ⟨nx, 0, none⟩), .pointer (some ⟨oo, 0, none⟩)] W fun e w' => e = .returned (.tuple #[]) ∧ RowI w0 oo (O ++ [slugB l6]) w' ∧ Same24 W w' := by
  obtain ⟨v, h1, h2⟩ := h.oc
  obtain ⟨Ao, co, eo⟩ := Kd.R_slice h2
  subst eo
  have CP : Aside0 (∀ w2, Below W.heap.size W w2 → Calls Tryd.prog 75 #[.slice A6 n6 c6] w2 fun e w' => e = .returned (.string (txt (plL l6))) ∧ Below W.heap.size W w') := ⟨fun w2 hb => by
    have hb0 := below_then h.below h.below.size hb
    subst hn
    exact (plain75 A6 c6 l6 w2 (Kd.C_below hC hb0) hc hw).mono fun e w' h => ⟨h.1, below_then hb hb.size h.2⟩⟩
  have CS : Aside0 (∀ w2, Below W.heap.size W w2 → Calls Tryd.prog 38 #[.string (txt (plL l6))] w2 fun e w' => e = .returned (.string (slugB l6)) ∧ Below W.heap.size W w') := ⟨fun w2 hb => by
    have hb0 := below_then h.below h.below.size hb
    have hl := plL_len l6
    have hs := slugS_calls (txt (plL l6)) w2 (by rw [txt_size]; omega) (hT.below hb0)
    rw [show (txt (plL l6)).data.toList = plL l6 from bts_txt _] at hs
    exact hs.mono fun e w' h => ⟨h.1, below_then hb hb.size h.2⟩⟩
  have HK := Aside0.mk (show ∀ w', Below W.heap.size W w' → w'.cell? ⟨oo, 0, none⟩ = some (.slice Ao O.length co) ∧ w'.cell? ⟨nx, 6, none⟩ = some (.slice A6 n6 c6) from fun w' hb => ⟨blk_cell (blk_below h1 hb) 0, blk_cell (blk_below hx hb) 6⟩)
  obtain ⟨c0, n2⟩ := HK.out W (Below.refl _ _)
  have HI := Aside0.mk h
  have HO1 := Aside0.mk h1
  have HX1 := Aside0.mk hx
  have HR1 := Aside0.mk h2
  have HL := Aside0.mk hO
  clear h h1 h2 hx hO hC hw hc hT hn
  generalize txt (plL l6) = P6 at CP CS
  generalize slugB l6 = S6 at CS ⊢
  go_enter Tryd.func74, Tryd.ntmps74
  go_wp2_with fail
  go_region_law (first
      | ((with_reducible refine gateD (d := 8) rfl ?_); go_simp; go_at_call 75; (with_reducible refine (CP.out _ (by repeat (first | exact Below.refl _ _ | apply below_drew | apply below_alloc))).mono ?_); rintro e w2 ⟨rfl, hb2⟩; obtain ⟨d0, d6⟩ := HK.out w2 hb2)
      | ((with_reducible refine gateD (d := 9) rfl ?_); go_simp; go_at_call 38; (with_reducible refine (CS.out _ hb2).mono ?_); rintro e w3 ⟨rfl, hb3⟩; obtain ⟨f0, f6⟩ := HK.out w3 hb3; have HI3 := Aside0.mk (HI.out.step hb3); have HO3 := Aside0.mk (blk_below HO1.out hb3); have HX3 := Aside0.mk (blk_below HX1.out hb3); have HR3 := Aside0.mk (Kd.R_below HR1.out hb3); have HS3 := Aside0.mk (Same24.below hb3); have hne := Kd.R_ne HR3.out HO3.out (by decide); have hne2 := Kd.R_ne HR3.out HX3.out (by decide); have ga3 : (w3.alloc (.cells #[.string S6] 9)).cell? ⟨oo, 0, none⟩ = some (.slice Ao O.length co) := (World.cell?_alloc_some _ _ _ (by rw [f0]; rfl)).trans f0)
      | (refine Kd.R_append_step Kd.string (w0 := w0) w0.heap.size (by rfl) _ _ 34 9 (.string ⟨#[]⟩) 16 (by rfl) Tryd.underlying34 info9 rfl (by decide) (by decide) (.slice Ao O.length co) O S6 [.string S6] (fun _ => True) (fun _ => False) (by rfl) (by rfl) rfl (fun _ h => h.elim) (fun _ _ => trivial) HR3.out HI3.out.below HI3.out.below.size (by have := HL.out; omega) ?_; intro v1 w4 ho hb hg hat; obtain ⟨A1, c1, hv1⟩ := Kd.R_slice ho; rw [List.length_append] at hv1; simp only [List.length_cons, List.length_nil, Nat.zero_add] at hv1; subst hv1; have g02 : w4.cell? ⟨oo, 0, none⟩ = some (.slice Ao O.length co) := blk_cell (blk_grown HO3.out hg hne) 0; have hfz : w4.frozen? ⟨oo, 0, none⟩ = false := blk_frozen (blk_grown HO3.out hg hne) 0))
  all_goals
    go_wp2_with fail
    (try (rename_i d_ hd_; cases hd_))
    (try simp only [Act.put, List.setIfInBounds_toArray, List.set_cons_zero, List.set_cons_succ])
    go_end0
    have h_ := HI3.out.app HO3.out HR3.out hb hg ho
    exact ⟨rfl, h_.1, HS3.out.trans h_.2⟩
end
/-- The names that are left, in a variable of its own. -/
structure NamI (w0 : World) (oo : Nat) (L : List ByteArray) (W : World) : Prop where
  oc : ∃ (A : Option Addr) (c : Nat), W.heap[oo]? = some (.cells #[.slice A L.length c] 34 (0, 0)) ∧ L.length ≤ c ∧ (L = [] ∨ ∃ (g off : Nat) (cs : Array Value), A = some ⟨g, off, none⟩ ∧ W.heap[g]? = some (.cells cs 9 (0, 0)) ∧ ∀ j x, L[j]? = some x → cs[off + j]? = some (.string x))
  below : Below w0.heap.size w0 W
  lo : w0.heap.size ≤ oo
theorem NamI.step {w0 W W1 : World} {oo : Nat} {L : List ByteArray} (h : NamI w0 oo L W) (hb : Below W.heap.size W W1) : NamI w0 oo L W1 := by
  obtain ⟨A, c, h1, h2, h3⟩ := h.oc
  refine ⟨⟨A, c, blk_below h1 hb, h2, ?_⟩, below_then h.below h.below.size hb, h.lo⟩
  rcases h3 with h3 | ⟨g, off, cs, e, hg, hj⟩
  · exact .inl h3
  · exact .inr ⟨g, off, cs, e, blk_below hg hb, hj⟩
theorem NamI.setN {w0 W : World} {oo nx : Nat} {L : List ByteArray} (h : NamI w0 oo L W) {cs : Array Value} (hx : W.heap[nx]? = some (.cells cs 24 (0, 0))) (hlo : w0.heap.size ≤ nx) (j : Nat) (u : Value) : NamI w0 oo L (W.setCell ⟨nx, j, none⟩ u) := by
  obtain ⟨A, c, h1, h2, h3⟩ := h.oc
  refine ⟨⟨A, c, blk_far h1 (p := ⟨nx, j, none⟩) (blk_ne h1 hx (by decide)) u, h2, ?_⟩, h.below.setCell hlo u, h.lo⟩
  rcases h3 with h3 | ⟨g, off, cs, e, hg, hj⟩
  · exact .inl h3
  · exact .inr ⟨g, off, cs, e, blk_far hg (p := ⟨nx, j, none⟩) (blk_ne hg hx (by decide)) u, hj⟩
theorem NamI.grown {w0 W W1 : World} {oo : Nat} {L : List ByteArray} (h : NamI w0 oo L W) {row : Option Nat} (hg : W.grownBy W1 row) (hr : ∀ k, row = some k → w0.heap.size ≤ k ∧ ∃ cells, W.heap[k]? = some (.cells cells 24 (0, 0))) : NamI w0 oo L W1 := by
  obtain ⟨A, c, h1, h2, h3⟩ := h.oc
  have hc : ∀ {q t : Nat} {cs : Array Value}, W.heap[q]? = some (.cells cs t (0, 0)) → t ≠ 24 → some q ≠ row := fun hq ht e => by
    obtain ⟨_, cells, hc⟩ := hr _ e.symm
    rw [hc] at hq
    injection hq with hq
    injection hq with _ hq
    exact ht hq.symm
  refine ⟨⟨A, c, blk_grown h1 hg (hc h1 (by decide)), h2, ?_⟩, h.below.grown hg h.below.size (fun i hi => (hr i hi).1), h.lo⟩
  rcases h3 with h3 | ⟨g, off, cs, e, hgb, hj⟩
  · exact .inl h3
  · exact .inr ⟨g, off, cs, e, blk_grown hgb hg (hc hgb (by decide)), hj⟩
theorem NamI.next {w0 W1 : World} {oo : Nat} {x : ByteArray} {L : List ByteArray} {u : Value} (h : NamI w0 oo (x :: L) W1) (h1 : W1.heap[oo]? = some (.cells #[u] 34 (0, 0))) (A : Option Addr) (c : Nat) (hc : L.length ≤ c)
    (hj : L = [] ∨ ∃ (g off : Nat) (cs : Array Value), A = some ⟨g, off, none⟩ ∧ W1.heap[g]? = some (.cells cs 9 (0, 0)) ∧ ∀ j x, L[j]? = some x → cs[off + j]? = some (.string x)) : NamI w0 oo L (W1.setCell ⟨oo, 0, none⟩ (.slice A L.length c)) := by
  refine ⟨⟨A, c, blk_put h1 0 _ (by simp), hc, ?_⟩, h.below.setCell h.lo _, h.lo⟩
  rcases hj with hj | ⟨g, off, cs, e, hg, hj⟩
  · exact .inl hj
  · exact .inr ⟨g, off, cs, e, blk_far hg (p := ⟨oo, 0, none⟩) (blk_ne hg h1 (by decide)) _, hj⟩
section
attribute [local go_sem] World.cell?_alloc_some World.cell?_setCell_far
set_option maxRecDepth 100000 in
set_option maxHeartbeats 8000000 in
theorem tell76 {w0 W : World} {oo nx : Nat} {x : ByteArray} {L : List ByteArray} (h : NamI w0 oo (x :: L) W) {y0 y3 y4 : Int} {y1 y2 : ByteArray} {y5 : Bool} {y6 : Value} (hx : W.heap[nx]? = some (.cells #[.int .i64 y0, .string y1, .string y2, .int .i64 y3, .int .i64 y4, .bool y5, y6] 24 (0, 0))) (hlo : w0.heap.size ≤ nx) (hL : L.length ≤ 1000000000) :
    Calls Tryd.prog 76 #[.pointer (some ⟨nx, 0, none⟩), .pointer (some ⟨oo, 0, none⟩)] W fun e w' => e = .returned (.tuple #[]) ∧ NamI w0 oo L w' ∧ w'.heap[nx]? = some (.cells #[.int .i64 y0, .string y1, .string x, .int .i64 y3, .int .i64 y4, .bool y5, y6] 24 (0, 0)) ∧ Sm24x nx W w' := by
  obtain ⟨A, c, h1, h2, h3⟩ := h.oc
  rcases h3 with h3 | ⟨g, off, cs, e, hg, hj⟩
  · cases h3
  subst e
  have c0 : W.cell? ⟨oo, 0, none⟩ = some (.slice (some ⟨g, off, none⟩) (L.length + 1) c) := blk_cell h1 0
  have cg : W.cell? ⟨g, off, none⟩ = some (.string x) := by
    have := hj 0 x rfl
    rw [Nat.add_zero] at this
    have h9 := blk_cell hg off
    rw [this] at h9
    exact h9
  have hz : W.frozen? ⟨nx, 2, none⟩ = false := blk_frozen hx 2
  have n2 : W.cell? ⟨nx, 2, none⟩ = some (.string y2) := blk_cell hx 2
  have hI := h.setN hx hlo 2 (.string x)
  have hx2 := blk_put hx 2 (.string x) (cs' := #[.int .i64 y0, .string y1, .string x, .int .i64 y3, .int .i64 y4, .bool y5, y6]) (by simp)
  have h1' := blk_far h1 (p := ⟨nx, 2, none⟩) (blk_ne h1 hx (by decide)) (.string x)
  have hg' := blk_far hg (p := ⟨nx, 2, none⟩) (blk_ne hg hx (by decide)) (.string x)
  have d0 : (W.setCell ⟨nx, 2, none⟩ (.string x)).cell? ⟨oo, 0, none⟩ = some (.slice (some ⟨g, off, none⟩) (L.length + 1) c) := blk_cell h1' 0
  have dz : (W.setCell ⟨nx, 2, none⟩ (.string x)).frozen? ⟨oo, 0, none⟩ = false := blk_frozen h1' 0
  have HI := Aside0.mk hI
  have HX2 := Aside0.mk hx2
  have H1 := Aside0.mk h1'
  have HG := Aside0.mk hg'
  have HJ := Aside0.mk hj
  have HC := Aside0.mk h2
  have HL := Aside0.mk hL
  obtain ⟨n, en⟩ : ∃ n, n = L.length := ⟨_, rfl⟩
  have HEN := Aside0.mk en
  simp only [List.length_cons] at h2
  rw [← en] at c0 d0 h2 hL
  have p1 : (1 : Int) ≤ ((n + 1 : Nat) : Int) := by omega
  have p2 : (0 : Int) < ((n + 1 : Nat) : Int) := by omega
  have p3 : (1 : Nat) ≤ n + 1 := by omega
  have p4 : n + 1 - 1 = n := by omega
  clear h h1 hx hj hg hI hx2 h1' hg' hlo en
  go_enter Tryd.func76, Tryd.ntmps76
  go_wp2_with fail
  all_goals go_end0
  · have hn0 : n = 0 := by omega
    have hl0 : L = [] := List.length_eq_zero_iff.1 (by rw [← HEN.out]; exact hn0)
    rw [HEN.out]
    exact ⟨rfl, HI.out.next H1.out _ _ (by rw [hl0]; exact Nat.le_refl _) (.inl hl0), blk_far HX2.out (p := ⟨oo, 0, none⟩) (blk_ne HX2.out H1.out (by decide)) _, (Sm24x.set W nx 2 _).trans (Sm24x.of (Same24.set H1.out (by decide) 0 _) nx)⟩
  · rw [HEN.out]
    exact ⟨rfl, HI.out.next H1.out _ _ (by rw [← HEN.out]; omega) (.inr ⟨g, off + 1, cs, rfl, HG.out, fun j z hz => by have := HJ.out (j + 1) z (by simpa using hz); rw [show off + 1 + j = off + (j + 1) by omega]; exact this⟩), blk_far HX2.out (p := ⟨oo, 0, none⟩) (blk_ne HX2.out H1.out (by decide)) _, (Sm24x.set W nx 2 _).trans (Sm24x.of (Same24.set H1.out (by decide) 0 _) nx)⟩
end
/-- The closures, told. -/
def rowG (O : List ByteArray) (m : Nat) : Prop := O.length + m ≤ 1000000000
def idT (O : List ByteArray) (y : S24) : List ByteArray × ByteArray := (O ++ [y.f2], y.f2)
def slT (O : List ByteArray) (y : S24) : List ByteArray × ByteArray := (O ++ [slugB y.f6], y.f2)
def namG (L : List ByteArray) (m : Nat) : Prop := m ≤ L.length ∧ L.length ≤ 1000000000
def namT (L : List ByteArray) (y : S24) : List ByteArray × ByteArray := (L.tail, L.headD y.f2)
theorem tellK73 (w0 : World) (oo : Nat) : TellK 73 oo w0 (RowI w0 oo) idT rowG where
  below h := h.below
  step h hb := h.step hb
  setN h hx hlo j u := h.setN hx hlo j u
  grown h hg hr := h.grown hg hr
  down {st m} y h := by
    show (st ++ [y.f2]).length + m ≤ _
    have h : st.length + (m + 1) ≤ 1000000000 := h
    rw [List.length_append, List.length_singleton]
    omega
  tell {st W y nx n6 c6 m A6} hG hI hx hlo hn hc hC hw := by
    have hG : st.length + (m + 1) ≤ 1000000000 := hG
    exact (tell73 hI hx (by omega)).mono fun e w' h => ⟨h.1, h.2.1, h.2.2.2 _ _ hx, Sm24x.of h.2.2 nx⟩
theorem tellK74 (w0 : World) (oo : Nat) (hT : Tabs w0) : TellK 74 oo w0 (RowI w0 oo) slT rowG where
  below h := h.below
  step h hb := h.step hb
  setN h hx hlo j u := h.setN hx hlo j u
  grown h hg hr := h.grown hg hr
  down {st m} y h := by
    show (st ++ [slugB y.f6]).length + m ≤ _
    have h : st.length + (m + 1) ≤ 1000000000 := h
    rw [List.length_append, List.length_singleton]
    omega
  tell {st W y nx n6 c6 m A6} hG hI hx hlo hn hc hC hw := by
    have hG : st.length + (m + 1) ≤ 1000000000 := hG
    have hw6 : wtL y.f6 ≤ 1000000000 := by have := wtT_eq y; omega
    exact (tell74 hI hx hn hc hC hw6 (by omega) hT).mono fun e w' h => ⟨h.1, h.2.1, h.2.2.2 _ _ hx, Sm24x.of h.2.2 nx⟩
theorem tellK76 (w0 : World) (oo : Nat) : TellK 76 oo w0 (NamI w0 oo) namT namG where
  below h := h.below
  step h hb := h.step hb
  setN h hx hlo j u := h.setN hx hlo j u
  grown h hg hr := h.grown hg hr
  down {st m} y h := by
    have h : m + 1 ≤ st.length ∧ st.length ≤ 1000000000 := h
    show m ≤ st.tail.length ∧ st.tail.length ≤ _
    rw [List.length_tail]
    omega
  tell {st W y nx n6 c6 m A6} hG hI hx hlo hn hc hC hw := by
    have hG : m + 1 ≤ st.length ∧ st.length ≤ 1000000000 := hG
    cases st with
    | nil => have := hG.1; simp at this
    | cons x L => exact tell76 hI hx hlo (by have := hG.2; rw [List.length_cons] at this; omega)
theorem RowI.start (w : World) (o : Nat) (ho : o = w.heap.size) : RowI w o [] (w.alloc (.cells #[.slice none 0 0] 34)) := by
  subst ho
  exact ⟨⟨_, blk_new w _, Kd.R_nil _ _ _ _ _⟩, below_alloc (Below.refl _ _) _, Nat.le_refl _⟩
/-- A row that a call has handed back, laid into a variable of one's own. -/
theorem NamI.start {w W : World} {v : Value} {L : List ByteArray} (hR : Kd.R Kd.string 9 W w.heap.size (fun _ => True) v L) (hb : Below w.heap.size w W) :
    NamI w W.heap.size L (W.alloc (.cells #[v] 34)) := by
  have h1 := blk_new W (.cells #[v] 34)
  have hb1 : Below w.heap.size w (W.alloc (.cells #[v] 34)) := below_alloc hb _
  obtain ⟨A, c, hv, hc, hC⟩ := Kd.R_reads hR
  refine ⟨⟨A, c, by rw [← hv]; exact h1, hc, ?_⟩, hb1, hb.size⟩
  rcases (Kd.own_of_R hR).2 with ⟨hv2, hn⟩ | ⟨g, cap, cur, hv2, hg, hgb, hle, hmx, hsz, htk⟩
  · exact .inl (List.length_eq_zero_iff.1 hn)
  · rw [hv] at hv2
    injection hv2 with hA _ _
    refine .inr ⟨g, 0, cur, hA, blk_alloc hgb _, fun j x hj => ?_⟩
    rw [Nat.zero_add]
    have hjl : j < L.length := (List.getElem?_eq_some_iff.1 hj).1
    have h9 : (cur.toList.take (L.length * 1))[j]? = some (.string x) := by
      rw [htk]
      unfold encs
      rw [List.getElem?_map, hj]
      rfl
    rw [List.getElem?_take, if_pos (by omega), Array.getElem?_toList] at h9
    exact h9
/-- The names of the headings; the nodes, whose headings have names. -/
def idsB (l : List S24) : List ByteArray := (hdL idT l []).1
def slugsB (l : List S24) : List ByteArray := (hdL slT l []).1
def applyB (l : List S24) : List S24 := (hdL namT l (uniqB (slugsB l))).2
theorem nameS_len2 (n : List UInt8) : (T.nameS n).length ≤ n.length + 8 := by
  unfold T.nameS
  split
  · simp
  · split
    · simp
    · omega
theorem slugB_size (l : List S24) : (slugB l).size ≤ 24 * wtL l + 8 := by
  have h0 := plL_len l
  have h1 := nameS_len2 (T.encs (T.slugL (T.foldL (T.runes (plL l)))))
  have h2 := encs_slugL_len (T.foldL (T.runes (plL l)))
  have h3 := foldL_len2 (T.runes (plL l))
  have h4 := T.runes_len (plL l)
  have h5 : (slugB l).size = (T.slugS (plL l)).length := by simp [slugB, mkB, ByteArray.size]
  rw [h5]
  show (T.nameS _).length ≤ _
  omega
mutual
theorem slT_T (M : Nat) : ∀ (x : S24) (O : List ByteArray), (∀ z ∈ O, z.size ≤ M) → 24 * wtT x + 8 ≤ M → (hdT slT x O).1.length = O.length + hcT x ∧ ∀ z ∈ (hdT slT x O).1, z.size ≤ M
  | ⟨a, b, c, d, e, f, l⟩, O, h, hw => by
    rw [wtT] at hw
    rw [hdT, hcT]
    by_cases ha : a = 8
    · rw [if_pos ha, if_pos ha]
      have h2 := slT_L M l (O ++ [slugB l]) (fun z hz => by
        rcases List.mem_append.1 hz with h1 | h1
        · exact h z h1
        · rw [List.mem_singleton.1 h1]
          have := slugB_size l
          omega) (by omega)
      rw [List.length_append, List.length_singleton] at h2
      exact ⟨by show (hdL slT l (O ++ [slugB l])).1.length = _; rw [h2.1]; omega, h2.2⟩
    · rw [if_neg ha, if_neg ha]
      have h2 := slT_L M l O h (by omega)
      exact ⟨by show (hdL slT l O).1.length = _; rw [h2.1]; omega, h2.2⟩
theorem slT_L (M : Nat) : ∀ (l : List S24) (O : List ByteArray), (∀ z ∈ O, z.size ≤ M) → 24 * wtL l + 8 ≤ M → (hdL slT l O).1.length = O.length + hcL l ∧ ∀ z ∈ (hdL slT l O).1, z.size ≤ M
  | [], O, h, _ => ⟨rfl, h⟩
  | x :: r, O, h, hw => by
    rw [wtL] at hw
    rw [hdL, hcL]
    have h1 := slT_T M x O h (by omega)
    have h2 := slT_L M r (hdT slT x O).1 h1.2 (by omega)
    exact ⟨by show (hdL slT r (hdT slT x O).1).1.length = _; rw [h2.1, h1.1]; omega, h2.2⟩
end
theorem slugsB_len (l : List S24) : (slugsB l).length = hcL l ∧ ∀ z ∈ slugsB l, z.size ≤ 24 * wtL l + 8 := by
  have := slT_L (24 * wtL l + 8) l [] (by simp) (Nat.le_refl _)
  rw [List.length_nil, Nat.zero_add] at this
  exact this
theorem uniqB_len (l : List ByteArray) : (uniqB l).length = l.length := by
  unfold uniqB T.uniq
  rw [List.length_map, T.uniqL_length, List.length_map]
  simp
def slug_Ids.f (l0 : List S24) : Option (List ByteArray) := if wtL l0 ≤ 1000000000 then some (idsB l0) else none
def slug_Apply.f (l0 : List S24) : Option (List S24) := if wtL l0 ≤ 1000000 then some (applyB l0) else none
section
attribute [local go_sem] World.cell?_alloc_some
set_option maxRecDepth 100000 in
set_option maxHeartbeats 8000000 in
theorem slug_Ids.calls (A0 : Option Addr) (c0 : Nat) (l0 : List S24) (r : List ByteArray) (w : World) (hr0 : Kd.C k24 w A0 l0.length l0) (hc0 : l0.length ≤ c0) (h : slug_Ids.f l0 = some r) :
    Calls Tryd.prog 44 #[.slice A0 l0.length c0] w fun e w' => ∃ v0_ : Value, e = .returned (v0_) ∧ Kd.R Kd.string 9 w' w.heap.size (fun _ => True) v0_ r ∧ Below w.heap.size w w' := by
  unfold slug_Ids.f at h
  by_cases hw : wtL l0 ≤ 1000000000
  · rw [if_pos hw] at h
    have HR := Aside0.mk (Option.some.inj h)
    have CG := Aside0.mk (heads73 (tellK73 w w.heap.size) (dpL l0 + 1) l0 [] 0 _ A0 c0 (by omega) hw (by have := hc_wtL l0; show 0 + (hcL l0 + 0) ≤ _; omega) hr0 hc0 (RowI.start w _ rfl))
    rw [show (hdL idT l0 []).1 = idsB l0 from rfl] at CG
    clear h hr0 hw hc0
    generalize l0.length = n at *
    go_enter Tryd.func44, Tryd.ntmps44
    go_wp2_with (first | (go_at_call 72; (with_reducible refine CG.out.mono ?_); rintro e w1 ⟨v9, rfl, hi⟩; obtain ⟨v, o1, o2⟩ := hi.cn.oc; have d1 : w1.cell? ⟨w.heap.size, 0, none⟩ = some v := blk_cell o1 0; have HO2 := Aside0.mk o2; have HBE := Aside0.mk hi.cn.below; clear hi o1 o2))
    go_ret
    exact ⟨_, rfl, by rw [← HR.out]; exact HO2.out, HBE.out⟩
  · rw [if_neg hw] at h
    cases h
set_option maxRecDepth 100000 in
set_option maxHeartbeats 8000000 in
theorem slug_Apply.calls (A0 : Option Addr) (c0 : Nat) (l0 : List S24) (r : List S24) (w : World) (hr0 : Kd.C k24 w A0 l0.length l0) (hc0 : l0.length ≤ c0) (h : slug_Apply.f l0 = some r) (hT : Tabs w) :
    Calls Tryd.prog 45 #[.slice A0 l0.length c0] w fun e w' => ∃ v0_ : Value, e = .returned (v0_) ∧ Kd.R k24 24 w' w.heap.size (fun k_ => w.heap.size ≤ k_) v0_ r ∧ Below w.heap.size w w' := by
  unfold slug_Apply.f at h
  by_cases hw : wtL l0 ≤ 1000000
  · rw [if_pos hw] at h
    have HR := Aside0.mk (Option.some.inj h)
    obtain ⟨S, hS⟩ : ∃ S, S = slugsB l0 := ⟨_, rfl⟩
    obtain ⟨hS1, hS2⟩ := slugsB_len l0
    rw [← hS] at hS1 hS2
    have hhc := hc_wtL l0
    have CG := Aside0.mk (heads74 (tellK74 w w.heap.size hT) (dpL l0 + 1) l0 [] 0 _ A0 c0 (by omega) (by omega) (by show 0 + (hcL l0 + 0) ≤ _; omega) hr0 hc0 (RowI.start w _ rfl))
    rw [show (hdL slT l0 []).1 = slugsB l0 from rfl, ← hS] at CG
    have hSl : S.length ≤ 1000000 := by rw [hS1]; omega
    have CU := Aside0.mk (fun (A : Option Addr) (c : Nat) (W : World) h1 h2 (hb : Below w.heap.size w W) => uniqN_calls A c S W h1 h2 hSl (fun x hx => by have := hS2 x hx; omega) (hT.below hb))
    have CH := Aside0.mk (fun (b : Nat) (W : World) (h : NamI w b (uniqB S) W) => heads76 (tellK76 w b) (dpL l0 + 1) l0 (uniqB S) 0 W A0 c0 (by omega) (by omega) (by show hcL l0 + 0 ≤ (uniqB S).length ∧ (uniqB S).length ≤ _; rw [uniqB_len, hS1]; omega) hr0 hc0 h)
    have HAP : Aside0 ((hdL namT l0 (uniqB S)).2 = applyB l0) := ⟨by rw [hS]; rfl⟩
    clear h hr0 hw hc0 hT hS hS1 hS2 hSl hhc
    generalize l0.length = n at *
    go_enter Tryd.func45, Tryd.ntmps45
    go_wp2_with (first
      | (go_at_call 72; (with_reducible refine CG.out.mono ?_); rintro e w1 ⟨v9, rfl, hi⟩; obtain ⟨v, o1, o2⟩ := hi.cn.oc; have d1 : w1.cell? ⟨w.heap.size, 0, none⟩ = some v := blk_cell o1 0; have HO2 := Aside0.mk o2; have HBE := Aside0.mk hi.cn.below; obtain ⟨Av, cv, hv⟩ := Kd.R_slice o2; subst hv; have HRV := Aside0.mk (Kd.R_reads' o2); clear hi o1 o2)
      | (go_at_call 41; (with_reducible refine (CU.out Av cv w1 HRV.out.2.2 HRV.out.2.1 HBE.out).mono ?_); rintro e w2 ⟨v2, rfl, hu, hb2⟩; have HU2 := Aside0.mk (Kd.R_lower hu HBE.out.size); have HB2 := Aside0.mk (below_then HBE.out HBE.out.size hb2); obtain ⟨Au, cu, hv2⟩ := Kd.R_slice hu; subst hv2; clear hu hb2)
      | (go_at_call 72; (with_reducible refine (CH.out _ _ (NamI.start HU2.out HB2.out)).mono ?_); rintro e w3 ⟨v3, rfl, hi⟩; have HI3 := Aside0.mk hi; clear hi))
    go_ret
    refine ⟨_, rfl, ?_, HI3.out.cn.below⟩
    rw [← HR.out, ← HAP.out]
    exact Kd.R_mono HI3.out.row (fun k hk => Nat.le_trans HB2.out.size (Nat.le_trans (by simp) hk))
  · rw [if_neg hw] at h
    cases h
end
end Go.Proofs.YtbgbmphjjdiaeaaDoor.P
