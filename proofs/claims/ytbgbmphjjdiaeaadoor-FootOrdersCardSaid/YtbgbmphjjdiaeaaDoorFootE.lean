/- foot.Number: the counter's state; what its closure does to the notes. -/
import Derived.Test.YtbgbmphjjdiaeaaDoorFootA
import Derived.Test.YtbgbmphjjdiaeaaDoorFormsL
namespace Go.Proofs.YtbgbmphjjdiaeaaDoor.P
open Go.RowKit Go.Maps Go.Proofs.YtbgbmphjjdiaeaaDoor.MF Go.Proofs.YtbgbmphjjdiaeaaDoorW.PrintWords Go.Proofs.YtbgbmphjjdiaeaaDoorW.PrintLast Go.Proofs.YtbgbmphjjdiaeaaDoorW.PrintMore
set_option linter.unusedVariables false
set_option linter.unusedSimpArgs false
/-- The values that the notes' map holds, and the notes. -/
def NotesOk (w0 : World) (V : Bs → Option Value) (F : Bs → Option S24) : Prop := ∀ s, (V s = none ∧ F s = none) ∨ ∃ (x : S24) (A : Option Addr) (n c : Nat), F s = some x ∧ V s = some (.agg #[.int .i64 x.f0, .string x.f1, .string x.f2, .int .i64 x.f3, .int .i64 x.f4, .bool x.f5, .slice A n c]) ∧ n = x.f6.length ∧ n ≤ c ∧ Kd.C k24 w0 A n x.f6
def numF (st : Cnt) : Bs → Option Int := fun s => if s ∈ st.ord then some (st.num s : Nat) else none
def refF (st : Cnt) : Bs → Option Int := fun s => if st.cnt s = 0 then none else some (st.cnt s : Nat)
structure CnI (w0 : World) (cb nb ub rb : Nat) (F : Bs → Option S24) (st : Cnt) (W : World) : Prop where
  sc : ∃ v, W.heap[cb]? = some (.cells #[.map (some nb), .map (some ub), v, .map (some rb)] 62 (0, 0)) ∧ Kd.R Kd.string 9 W w0.heap.size (fun _ => True) v (st.ord.map txt)
  pc : W.heap[cb + 1]? = some (.cells #[.pointer (some ⟨cb, 0, none⟩)] 58 (0, 0))
  nt : ∃ V : Bs → Option Value, MapT W id nb V ∧ NotesOk w0 V F
  um : MapT W (Value.int .i64) ub (numF st)
  rm : MapT W (Value.int .i64) rb (refF st)
  below : Below w0.heap.size w0 W
  lo : w0.heap.size ≤ cb ∧ w0.heap.size ≤ nb ∧ w0.heap.size ≤ ub ∧ w0.heap.size ≤ rb
  ne : nb ≠ ub ∧ nb ≠ rb ∧ ub ≠ rb
theorem CnI.step {w0 W W1 : World} {cb nb ub rb : Nat} {F : Bs → Option S24} {st : Cnt} (h : CnI w0 cb nb ub rb F st W) (hb : Below W.heap.size W W1) : CnI w0 cb nb ub rb F st W1 := by
  obtain ⟨v, h1, h2⟩ := h.sc
  obtain ⟨V, h3, h4⟩ := h.nt
  exact ⟨⟨v, blk_below h1 hb, Kd.R_below h2 hb⟩, blk_below h.pc hb, ⟨V, h3.below' hb, h4⟩, h.um.below' hb, h.rm.below' hb, below_then h.below h.below.size hb, h.lo, h.ne⟩
structure NumI (w0 : World) (cp cb nb ub rb : Nat) (F : Bs → Option S24) (W : World) : Prop where
  pc : W.heap[cp]? = some (.cells #[.pointer (some ⟨cb, 0, none⟩)] 58 (0, 0))
  cn : CnI w0 cb nb ub rb F cnt0 W
theorem NumI.below {w0 W : World} {cp cb nb ub rb : Nat} {F : Bs → Option S24} (h : NumI w0 cp cb nb ub rb F W) : Below w0.heap.size w0 W := h.cn.below
theorem NumI.step {w0 W W1 : World} {cp cb nb ub rb : Nat} {F : Bs → Option S24} (h : NumI w0 cp cb nb ub rb F W) (hb : Below W.heap.size W W1) : NumI w0 cp cb nb ub rb F W1 := ⟨blk_below h.pc hb, h.cn.step hb⟩
def zag : Value := .agg #[.int .i64 0, .string ⟨#[]⟩, .string ⟨#[]⟩, .int .i64 0, .int .i64 0, .bool false, .slice none 0 0]
theorem zero24_ (w : World) : (zeroValue 24).run Tryd.prog w = .ok zag w := by kernel_rfl
theorem id_inj (a b : Value) (h : id a = id b) : a = b := h
theorem look59 {w : World} {nb : Nat} {V : Bs → Option Value} (h : MapT w id nb V) (s : Bs) (hs : s.length ≤ 9223372036854775807) (c : Bool) :
    (Instr.lookup 59 (.map (some nb)) (.string (txt s)) c).run Tryd.prog w = .ok (if c then .tuple #[(V s).getD zag, .bool (V s).isSome] else (V s).getD zag) w := by
  have := lookT Tryd.underlying59 id_inj (zero24_ w) h s hs c
  rw [Option.map_id] at this
  exact this
/-- A map is stored into: the other parts of the counter stay. -/
theorem CnI.grownN {w0 W W1 : World} {cb nb ub rb : Nat} {F F' : Bs → Option S24} {st : Cnt} {V' : Bs → Option Value} (h : CnI w0 cb nb ub rb F st W) (hg : W.grownBy W1 (some nb)) (hm : MapT W1 id nb V') (hn : NotesOk w0 V' F') : CnI w0 cb nb ub rb F' st W1 := by
  obtain ⟨v, h1, h2⟩ := h.sc
  obtain ⟨V, h3, h4⟩ := h.nt
  exact ⟨⟨v, cells_map h1 h3 hg, R_string_map h2 h3 hg⟩, cells_map h.pc h3 hg, ⟨V', hm, hn⟩, h.um.grown hg (fun e => h.ne.1 (Option.some.inj e).symm), h.rm.grown hg (fun e => h.ne.2.1 (Option.some.inj e).symm), h.below.grown hg h.below.size (fun i hi => by injection hi with hi; rw [← hi]; exact h.lo.2.1), h.lo, h.ne⟩
section
attribute [local go_sem] World.cell?_alloc_some
set_option maxRecDepth 100000 in
set_option maxHeartbeats 8000000 in
theorem tell50 {w0 w2 : World} {cp cb nb ub rb : Nat} {F : Bs → Option S24} (h : NumI w0 cp cb nb ub rb F w2) {s : Bs} (hs : s.length ≤ 1099511627776) {y : S24} {A6 : Option Addr} {c6 n6 : Nat} (hn : n6 = y.f6.length) (hl : n6 ≤ c6) (hC : Kd.C k24 w0 A6 n6 y.f6) (_ : True) :
    Calls Tryd.prog 50 #[.string (txt s), .agg #[.int .i64 y.f0, .string y.f1, .string y.f2, .int .i64 y.f3, .int .i64 y.f4, .bool y.f5, .slice A6 n6 c6], .pointer (some ⟨cp, 0, none⟩)] w2 fun e w' =>
      e = .returned (.tuple #[]) ∧ NumI w0 cp cb nb ub rb (fstF F [(s, y)]) w' ∧ Same24 w2 w' := by
  obtain ⟨v, h1, h2⟩ := h.cn.sc
  obtain ⟨V, h3, h4⟩ := h.cn.nt
  have c0 : w2.cell? ⟨cp, 0, none⟩ = some (.pointer (some ⟨cb, 0, none⟩)) := blk_cell h.pc 0
  have s0 : w2.cell? ⟨cb, 0, none⟩ = some (.map (some nb)) := blk_cell h1 0
  obtain ⟨b0, b1, b2, b3, b4, b5, b6⟩ := y
  simp only at hn hC
  obtain ⟨W1, eW⟩ : ∃ W1, W1 = w2.alloc (.cells #[.int .i64 b0, .string b1, .string b2, .int .i64 b3, .int .i64 b4, .bool b5, .slice A6 n6 c6] 24) := ⟨_, rfl⟩
  have hb1 : Below w2.heap.size w2 W1 := by rw [eW]; exact below_alloc (Below.refl _ _) _
  have hlk := look59 (h3.below' hb1) s (by omega) true
  rw [if_pos rfl] at hlk
  rcases h4 s with ⟨hv, hf⟩ | ⟨x, A, n, c, hf, hv, hxn, hxc, hxC⟩
  · -- the first note of its label
    rw [hv] at hlk
    simp only [Option.getD_none, Option.isSome_none] at hlk
    unfold zag at hlk
    have hb2 : Below w2.heap.size w2 (W1.alloc (.cells #[.int .i64 0, .string ⟨#[]⟩, .string ⟨#[]⟩, .int .i64 0, .int .i64 0, .bool false, .slice none 0 0] 24)).drew := below_drew (below_alloc hb1 _)
    have hI2 := h.step hb2
    have hn1 : (W1.alloc (.cells #[.int .i64 0, .string ⟨#[]⟩, .string ⟨#[]⟩, .int .i64 0, .int .i64 0, .bool false, .slice none 0 0] 24)).drew.heap[w2.heap.size]? = some (.cells #[.int .i64 b0, .string b1, .string b2, .int .i64 b3, .int .i64 b4, .bool b5, .slice A6 n6 c6] 24 (0, 0)) := by
      rw [eW]
      exact blk_drew (blk_alloc (blk_new _ _) _)
    obtain ⟨W2, eW2⟩ : ∃ W2, W2 = W1.alloc (.cells #[.int .i64 0, .string ⟨#[]⟩, .string ⟨#[]⟩, .int .i64 0, .int .i64 0, .bool false, .slice none 0 0] 24) := ⟨_, rfl⟩
    rw [← eW2] at hb2 hI2 hn1
    have hm2 := h3.below' hb2
    obtain ⟨hu, hmet, hgr⟩ := updT Tryd.underlying59 id_inj hm2 s (.agg #[.int .i64 b0, .string b1, .string b2, .int .i64 b3, .int .i64 b4, .bool b5, .slice A6 n6 c6]) (by omega)
    have hfin : NumI w0 cp cb nb ub rb (fstF F [(s, ⟨b0, b1, b2, b3, b4, b5, b6⟩)]) (updW 59 nb (encT s) (id (.agg #[.int .i64 b0, .string b1, .string b2, .int .i64 b3, .int .i64 b4, .bool b5, .slice A6 n6 c6])) W2.drew) := by
      refine ⟨cells_map hI2.pc hm2 hgr, hI2.cn.grownN hgr hmet fun q => ?_⟩
      have e : fstF F [(s, (⟨b0, b1, b2, b3, b4, b5, b6⟩ : S24))] = fun q => if q = s then some ⟨b0, b1, b2, b3, b4, b5, b6⟩ else F q := by
        show (if (F s).isSome then F else _) = _
        rw [hf]
        rfl
      rw [e]
      by_cases hq : q = s
      · exact .inr ⟨⟨b0, b1, b2, b3, b4, b5, b6⟩, A6, n6, c6, if_pos hq, if_pos hq, hn, hl, hC⟩
      · simp only [if_neg hq]
        exact h4 q
    have hsm : Same24 w2 (updW 59 nb (encT s) (id (.agg #[.int .i64 b0, .string b1, .string b2, .int .i64 b3, .int .i64 b4, .bool b5, .slice A6 n6 c6])) W2.drew) := (Same24.below hb2).trans (Same24.grown hgr (fun q cells hq e => by injection e with e; exact hm2.ne_cells hq e))
    obtain ⟨w5, hw5⟩ : ∃ w5, w5 = updW 59 nb (encT s) (id (.agg #[.int .i64 b0, .string b1, .string b2, .int .i64 b3, .int .i64 b4, .bool b5, .slice A6 n6 c6])) W2.drew := ⟨_, rfl⟩
    rw [← hw5] at hu hfin hsm
    unfold encT at hu
    simp only [id] at hu
    have hn5 := cells_map hn1 hm2 hgr
    rw [← hw5] at hn5
    have K5 := Aside0.mk (show w5.cell? ⟨cp, 0, none⟩ = some (.pointer (some ⟨cb, 0, none⟩)) ∧ w5.cell? ⟨cb, 0, none⟩ = some (.map (some nb)) ∧ w5.cell? ⟨w2.heap.size, 0, none⟩ = some (.int .i64 b0) ∧ w5.cell? ⟨w2.heap.size, 1, none⟩ = some (.string b1) ∧ w5.cell? ⟨w2.heap.size, 2, none⟩ = some (.string b2) ∧ w5.cell? ⟨w2.heap.size, 3, none⟩ = some (.int .i64 b3) ∧ w5.cell? ⟨w2.heap.size, 4, none⟩ = some (.int .i64 b4) ∧ w5.cell? ⟨w2.heap.size, 5, none⟩ = some (.bool b5) ∧ w5.cell? ⟨w2.heap.size, 6, none⟩ = some (.slice A6 n6 c6) from ⟨blk_cell hfin.pc 0, by obtain ⟨v9, q1, _⟩ := hfin.cn.sc; exact blk_cell q1 0, box7 hn5⟩)
    have HF := Aside0.mk hfin
    have HS := Aside0.mk hsm
    have g0 : W2.cell? ⟨cp, 0, none⟩ = some (.pointer (some ⟨cb, 0, none⟩)) := blk_cell hI2.pc 0
    have g1 : W2.cell? ⟨cb, 0, none⟩ = some (.map (some nb)) := by obtain ⟨v9, q1, _⟩ := hI2.cn.sc; exact blk_cell q1 0
    obtain ⟨k0, k1, k2, k3, k4, k5, k6⟩ := box7 hn1
    have HW2 := Aside0.mk (And.intro eW2 eW)
    rw [eW] at hlk
    clear hn5 hfin hsm hw5 hgr hmet hm2 hn1 hI2 hb2 hv hf h4 h3 h2 h1 hC hn hl hb1 h hs eW eW2
    generalize txt s = S at *
    go_enter Tryd.func50, Tryd.ntmps50
    go_wp2_with fail
    rw [← HW2.out.2, ← HW2.out.1]
    go_region_held3 (fun w' => w'.cell? ⟨cp, 0, none⟩ = some (.pointer (some ⟨cb, 0, none⟩)) ∧ w'.cell? ⟨cb, 0, none⟩ = some (.map (some nb)) ∧ w'.cell? ⟨w2.heap.size, 0, none⟩ = some (.int .i64 b0) ∧ w'.cell? ⟨w2.heap.size, 1, none⟩ = some (.string b1) ∧ w'.cell? ⟨w2.heap.size, 2, none⟩ = some (.string b2) ∧ w'.cell? ⟨w2.heap.size, 3, none⟩ = some (.int .i64 b3) ∧ w'.cell? ⟨w2.heap.size, 4, none⟩ = some (.int .i64 b4) ∧ w'.cell? ⟨w2.heap.size, 5, none⟩ = some (.bool b5) ∧ w'.cell? ⟨w2.heap.size, 6, none⟩ = some (.slice A6 n6 c6))
      (first | exact ⟨g0, g1, k0, k1, k2, k3, k4, k5, k6⟩ | exact K5.out) (fail)
    all_goals
      go_wp2_with fail
      go_end0
      exact ⟨rfl, HF.out, HS.out⟩
  · -- a further one
    rw [hv] at hlk
    simp only [Option.getD_some, Option.isSome_some] at hlk
    have hb2 : Below w2.heap.size w2 (W1.alloc (.cells #[.int .i64 x.f0, .string x.f1, .string x.f2, .int .i64 x.f3, .int .i64 x.f4, .bool x.f5, .slice A n c] 24)) := below_alloc hb1 _
    have hI2 := h.step hb2
    have e : fstF F [(s, (⟨b0, b1, b2, b3, b4, b5, b6⟩ : S24))] = F := by
      show (if (F s).isSome then F else _) = _
      rw [hf]
      rfl
    have HF := Aside0.mk hI2
    rw [← e] at HF
    have HS := Aside0.mk (Same24.below hb2)
    have HW := Aside0.mk eW
    rw [eW] at hlk
    obtain ⟨x0, x1, x2, x3, x4, x5, x6⟩ := x
    simp only at hlk HF HS
    clear hI2 hb2 hv hf h4 h3 h2 h1 hC hn hl hb1 h hs eW e hxn hxc hxC
    generalize txt s = S at *
    go_enter Tryd.func50, Tryd.ntmps50
    go_wp2_with fail
    go_end0
    rw [HW.out] at HF HS
    exact ⟨rfl, HF.out, HS.out⟩
end
end Go.Proofs.YtbgbmphjjdiaeaaDoor.P
/- foot.gather, for the closure of foot.Number: each note is told, in order. -/
namespace Go.Proofs.YtbgbmphjjdiaeaaDoor.P
open Go.RowKit Go.Maps Go.Proofs.YtbgbmphjjdiaeaaDoor.MF Go.Proofs.YtbgbmphjjdiaeaaDoorW.PrintWords Go.Proofs.YtbgbmphjjdiaeaaDoorW.PrintLast Go.Proofs.YtbgbmphjjdiaeaaDoorW.PrintMore
set_option linter.unusedVariables false
set_option linter.unusedSimpArgs false
section
attribute [local go_sem] World.cell?_alloc_some World.cell?_setCell_far
set_option maxRecDepth 100000 in
set_option maxHeartbeats 8000000 in
theorem gather50 : ∀ (s : Nat) (l : List S24) (O : (Bs → Option S24)) (w0 W : World) (A : Option Addr) (c : Nat) (cp cb nb ub rb : Nat), dpL l < s → 0 + wtL l ≤ 10000000 → Kd.C k24 w0 A l.length l → l.length ≤ c → NumI w0 cp cb nb ub rb O W → Tabs w0 →
    Calls Tryd.prog 49 #[.slice A l.length c, .func (.func 50) #[] #[.pointer (some ⟨cp, 0, none⟩)]] W fun e w' => e = .returned (.tuple #[]) ∧ NumI w0 cp cb nb ub rb (fstF O (gaL l)) w' ∧ Same24 W w'
  | 0, _, _, _, _, _, _, _, _, _, _, _, h, _, _, _, _, _ => absurd h (by omega)
  | s + 1, l, O, w0, W, A, c, cp, cb, nb, ub, rb, hd, hwt, hC, hc, hI, hT => by
    obtain ⟨n, en⟩ : ∃ n, n = l.length := ⟨_, rfl⟩
    have HEN := Aside0.mk en
    have HD := Aside0.mk hd
    have HWT := Aside0.mk hwt
    have HC := Aside0.mk hC
    have HI := Aside0.mk hI
    have HT := Aside0.mk hT
    have hn9 : n ≤ 10000000 := by have := len_wt l; omega
    rw [← en] at hc ⊢
    have IH := Aside0.mk (fun (L : List S24) (O1 : (Bs → Option S24)) (W1 : World) (A1 : Option Addr) (c1 : Nat) h1 h2 h3 h4 h5 => gather50 s L O1 w0 W1 A1 c1 cp cb nb ub rb h1 h2 h3 h4 h5 hT)
    clear en hd hwt hC hI hT
    go_enter Tryd.func49, Tryd.ntmps49
    go_wp2_with fail
    go_loopw [8] (fun v wr => ∃ k : Nat, k ≤ n ∧ v = .int .i64 k ∧ Aside0 (NumI w0 cp cb nb ub rb (fstF O (gaL (l.take k))) wr ∧ Same24 W wr)) (fun v _ => n - (intOf v).toNat)
    case atStart => exact ⟨0, by omega, rfl, ⟨by simpa [gaL, fstF] using HI.out, Same24.refl _⟩⟩
    case round =>
      clear HI
      obtain ⟨k, hk, rfl, HI⟩ := hrel
      by_cases hlt : k < n
      · have hkl : k < l.length := by rw [← HEN.out]; exact hlt
        have hstep := ga_take hkl
        have hwk := wt_take hkl
        have hwx := wtT_eq (rd_T24 l (k : Int))
        have hdx := dp_in hkl
        have hW1 := HWT.out
        have hD1 := HD.out
        obtain ⟨O1, eO⟩ : ∃ O1, O1 = fstF O (gaL (l.take k)) := ⟨_, rfl⟩
        have hI1 := HI.out.1
        rw [← eO] at hI1
        have hO1 : 0 + wtT (rd_T24 l (k : Int)) ≤ 10000000 := by
          omega
        have hres : fstF O (gaL (l.take (k + 1))) = fstF O1 (gaT (rd_T24 l (k : Int))) := by rw [hstep, fstF_app, ← eO]
        rw [gaT_eq] at hres
        have p1 : (0 : Int) ≤ (k : Int) := by omega
        have q1 : (k : Int) < (n : Int) := by omega
        have hCr := Kd.C_below HC.out hI1.below
        rw [← HEN.out] at hCr
        obtain ⟨ad, A6, c6, rfl, x0, x1, x2, x3, x4, x5, x6, hl6, hi6⟩ := at_T24 hCr (k : Int) p1 q1
        have hC6 := (at_T24 (by have := HC.out; rwa [← HEN.out] at this) (k : Int) p1 q1)
        obtain ⟨ad', A6', c6', ead, _, _, _, _, _, _, x6', hl6', hi6'⟩ := hC6
        injection ead with ead
        subst ead
        have x6'' := (hI1.below.cell (World.block_lt_of_cell? w0 _ x6')).trans x6'
        have e6 := Option.some.inj (x6''.symm.trans x6)
        injection e6 with e6 _ e6c
        subst e6
        subst e6c
        clear x6' x6'' hl6' hi6
        simp only [Int.toNat_natCast] at x0 x1 x2 x3 x4 x5 x6
        obtain ⟨y, ey⟩ : ∃ y, y = rd_T24 l (k : Int) := ⟨_, rfl⟩
        rw [← ey] at x0 x1 x2 x3 x4 x5 x6 hl6 hi6' hres hwx hdx hwk hO1
        obtain ⟨y0, y1, y2, y3, y4, y5, y6⟩ := y
        simp only at x0 x1 x2 x3 x4 x5 x6 hl6 hi6' hres hwx hdx
        have hkI : (k : Int) < (n : Int) := by omega
        have hkN : IntKind.i64.wrap ((k : Int) + 1) = (k : Int) + 1 := by rw [IntKind.wrap_i64]; omega
        have hls := labelS_len (bts y1)
        rw [bts_len] at hls
        have hls2 : (T.labelS (bts y1)).length ≤ 1099511627776 := by omega
        obtain ⟨n6, en6⟩ : ∃ n6, n6 = y6.length := ⟨_, rfl⟩
        rw [← en6] at x6 hl6 hi6'
        have HB1 := Aside0.mk (below_alloc (Below.refl wr.heap.size wr) (.cells #[.int .i64 y0, .string y1, .string y2, .int .i64 y3, .int .i64 y4, .bool y5, .slice A6' n6 c6'] 24))
        have HN1 := Aside0.mk (blk_new wr (.cells #[.int .i64 y0, .string y1, .string y2, .int .i64 y3, .int .i64 y4, .bool y5, .slice A6' n6 c6'] 24))
        have HI1 := Aside0.mk (hI1.step HB1.out)
        have HS1 := Aside0.mk (HI.out.2.trans (Same24.below HB1.out))
        have HK := Aside0.mk (show ∀ w', Same24 (wr.alloc (.cells #[.int .i64 y0, .string y1, .string y2, .int .i64 y3, .int .i64 y4, .bool y5, .slice A6' n6 c6'] 24)) w' → _ from fun w' hs => box7 (hs.2 _ _ HN1.out))
        have HL6 := Aside0.mk hl6
        have HC6 := Aside0.mk hi6'
        have HE6 := Aside0.mk en6
        have HRES := Aside0.mk hres
        have HLS := Aside0.mk hls2
        have HDX := Aside0.mk (show dpL y6 < s by omega)
        have CT := Aside0.mk (fun (w2 : World) (h : NumI w0 cp cb nb ub rb O1 w2) => tell50 h hls2 (y := ⟨y0, y1, y2, y3, y4, y5, y6⟩) en6 hl6 hi6' (by trivial))
        by_cases hk13 : y0 = 13
        · have hkb : (y0 == 13) = true := by rw [hk13]; rfl
          rw [if_pos hk13] at hres
          have HRES := Aside0.mk hres
          have HW6 := Aside0.mk (show 0 + wtL y6 ≤ 10000000 by omega)
          have CL := Aside0.mk (fun (w2 : World) (hT2 : Tabs w2) => class_Label.calls y1 (txt (T.labelS (bts y1))) w2 (by rw [label_f y1 (by omega)]; rfl) hT2)
          have CI : Aside0 (∀ w3, NumI w0 cp cb nb ub rb (fstF O1 [(T.labelS (bts y1), (⟨y0, y1, y2, y3, y4, y5, y6⟩ : S24))]) w3 → Calls Tryd.prog 49 #[.slice A6' n6 c6', .func (.func 50) #[] #[.pointer (some ⟨cp, 0, none⟩)]] w3 fun e w' => e = .returned (.tuple #[]) ∧ NumI w0 cp cb nb ub rb (fstF (fstF O1 [(T.labelS (bts y1), (⟨y0, y1, y2, y3, y4, y5, y6⟩ : S24))]) (gaL y6)) w' ∧ Same24 w3 w') := ⟨fun w3 h => by
            have := IH.out y6 _ w3 A6' c6' HDX.out HW6.out (by rw [← en6]; exact hi6') (by rw [← en6]; exact hl6) h
            rw [← en6] at this
            exact this⟩
          have HEO := Aside0.mk eO
          clear hres hstep hwk hwx hdx hW1 hD1 hI1 hO1 eO p1 q1 hCr hls hls2 hl6 hi6' en6 ey hk13 HB1 hkl
          go_wp2_with fail
          obtain ⟨W1, eW1⟩ : ∃ W1, W1 = wr.alloc (.cells #[.int .i64 y0, .string y1, .string y2, .int .i64 y3, .int .i64 y4, .bool y5, .slice A6' n6 c6'] 24) := ⟨_, rfl⟩
          rw [← eW1] at HN1 HI1 HS1 HK ⊢
          clear x0 x1 x2 x3 x4 x5 x6 eW1
          obtain ⟨bx, ebx⟩ : ∃ bx, bx = wr.heap.size := ⟨_, rfl⟩
          rw [← ebx] at HN1 HK ⊢
          clear ebx
          obtain ⟨k0, k1, k2, k3, k4, k5, k6⟩ := HK.out W1 (Same24.refl _)
          go_region_held3 (fun w' => w'.cell? ⟨bx, 0, none⟩ = some (.int .i64 y0) ∧ w'.cell? ⟨bx, 1, none⟩ = some (.string y1) ∧ w'.cell? ⟨bx, 2, none⟩ = some (.string y2) ∧ w'.cell? ⟨bx, 3, none⟩ = some (.int .i64 y3) ∧ w'.cell? ⟨bx, 4, none⟩ = some (.int .i64 y4) ∧ w'.cell? ⟨bx, 5, none⟩ = some (.bool y5) ∧ w'.cell? ⟨bx, 6, none⟩ = some (.slice A6' n6 c6'))
            (first | exact HK.out _ (by first | assumption | exact Same24.refl _))
            (first
              | (go_at_call 33; (with_reducible refine (CL.out _ (Tabs.below HT.out (below_drew HI1.out.below))).mono ?_); rintro e w2 ⟨rfl, hb⟩; have hs2 : Same24 W1 w2 := Same24.below (show Below W1.heap.size W1 w2 from ⟨hb.os, hb.tape, hb.output, hb.size, hb.block⟩); have HI2 := Aside0.mk (HI1.out.step (show Below W1.heap.size W1 w2 from ⟨hb.os, hb.tape, hb.output, hb.size, hb.block⟩)); clear hb)
              | (go_at_call 50; (with_reducible refine (CT.out _ HI2.out).mono ?_); rintro e w3 ⟨rfl, hi, hss⟩; have hs3 : Same24 W1 w3 := hs2.trans hss; have HI3 := Aside0.mk hi; clear hi hss))
          all_goals
            obtain ⟨k0, k1, k2, k3, k4, k5, k6⟩ := HK.out w3 hs3
            have HS3 := Aside0.mk (HS1.out.trans hs3)
            clear hs2 hs3
            go_wp2_with (go_at_call 49; refine (CI.out _ HI3.out).mono ?_; rintro e w4 ⟨rfl, hi, hss⟩; have HI4 := Aside0.mk hi; have HS4 := Aside0.mk (HS3.out.trans hss); clear hi hss)
            go_roundw
            case rel => exact ⟨k + 1, by omega, by go_num, ⟨by rw [HRES.out]; exact HI4.out, HS4.out⟩⟩
            case measure => simp [intOf]; omega
        · have hkb : (y0 == 13) = false := by simpa using hk13
          rw [if_neg hk13] at hres
          have HRES := Aside0.mk hres
          have HW6 := Aside0.mk (show 0 + wtL y6 ≤ 10000000 by omega)
          have CI : Aside0 (∀ w3, NumI w0 cp cb nb ub rb O1 w3 → Calls Tryd.prog 49 #[.slice A6' n6 c6', .func (.func 50) #[] #[.pointer (some ⟨cp, 0, none⟩)]] w3 fun e w' => e = .returned (.tuple #[]) ∧ NumI w0 cp cb nb ub rb (fstF O1 (gaL y6)) w' ∧ Same24 w3 w') := ⟨fun w3 h => by
            have := IH.out y6 _ w3 A6' c6' HDX.out HW6.out (by rw [← en6]; exact hi6') (by rw [← en6]; exact hl6) h
            rw [← en6] at this
            exact this⟩
          clear hres hstep hwk hwx hdx hW1 hD1 hI1 hO1 eO p1 q1 hCr hls hls2 hl6 hi6' en6 ey hk13 HB1 hkl CT
          go_wp2_with (go_at_call 49; refine (CI.out _ HI1.out).mono ?_; rintro e w4 ⟨rfl, hi, hss⟩; have HI4 := Aside0.mk hi; have HS4 := Aside0.mk (HS1.out.trans hss); clear hi hss)
          go_roundw
          case rel => exact ⟨k + 1, by omega, by go_num, ⟨by rw [HRES.out]; exact HI4.out, HS4.out⟩⟩
          case measure => simp [intOf]; omega
      · have hkn : k = n := by omega
        subst hkn
        have hkI : ¬ (k : Int) < (k : Int) := by omega
        have HI9 := Aside0.mk HI.out
        rw [List.take_of_length_le (by rw [HEN.out]; exact Nat.le_refl _)] at HI9
        go_wp2_with fail
        go_end0
        exact ⟨rfl, HI9.out.1, HI9.out.2⟩
end
end Go.Proofs.YtbgbmphjjdiaeaaDoor.P
