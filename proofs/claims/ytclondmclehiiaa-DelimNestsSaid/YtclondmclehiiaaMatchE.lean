/- delim.Match walked: its entries are laid, then it runs as the relation Run says. -/
import Derived.Test.YtclondmclehiiaaPk0
import Derived.Test.YtclondmclehiiaaMatchC
import Derived.Test.YtclondmclehiiaaMatchD
namespace Go.Proofs.Ytclondmclehiiaa.P
open Go.RowKit Go.Proofs.YtclondmclehiiaaW.PrintWords Go.Proofs.YtclondmclehiiaaW.PrintLast Go.Proofs.YtclondmclehiiaaW.PrintMore Go.Proofs.Ytclondmclehiiaa.M
attribute [local go_sem] max2_int min2_int max_two min_two max_three min_three max_four min_four World.cell?_alloc_some World.cell?_setCell_far
set_option linter.unusedVariables false
set_option linter.unusedSimpArgs false

theorem info53_ : (Try.prog.info? 53).map (fun i => (i.zero, i.size, i.bytes)) = some (some (.agg #[(.int .i64 0), (.int .i64 0), (.int .i64 0)]), 3, 24) := by kernel_rfl
theorem info40_ : (Try.prog.info? 40).map (fun i => (i.zero, i.size, i.bytes)) = some (some (.agg #[(.int .i64 0), (.int .i64 0), (.int .i64 0)]), 3, 24) := by kernel_rfl

def m_left (r : S28) : Int := if r.f1 < 1 ∨ 1073741824 < r.f1 then 0 else r.f1
def m_entry (l : List S28) (k : Nat) : S53 := ⟨m_left (rd_T28 l k), (k : Int) - 1, (k : Int) + 1⟩
def m_init (l : List S28) (n : Nat) : List S53 := (List.range n).map (m_entry l)

/-- How the second loop goes on: what it comes to is r. -/
inductive Run (l : List S28) : Nat → Int → List S53 → (Key → Option Int) → List S40 → List S40 → Prop
  | done {n k e f out} : ¬ k < (l.length : Int) → Run l (n + 1) k e f out out
  | skip {n k e f out r} : k < (l.length : Int) → ((rd_T28 l k).f3 = false ∨ (rd_T53 e k).f0 = 0) → Run l n (k + 1) e f out r → Run l (n + 1) k e f out r
  | pair {n k e f out r m m' j e'} : k < (l.length : Int) → (rd_T28 l k).f3 = true → (rd_T53 e k).f0 ≠ 0 → (∀ i : Int, 0 ≤ i → i < e.length → (rd_T53 e i).f1 < e.length) → (∃ lit, keyOf Try.prog 57 (encK (m_of l e k)) = some lit) → -1 ≤ m_low f (m_of l e k) →
      m_open l e (m_low f (m_of l e k)) k m (rd_T53 e k).f1 = some j → 0 ≤ j → j < (e.length : Int) → m_pair l m' e j k = some e' → out.length < 1000000000000 → Run l n k e' f (out ++ [⟨j, k, m_size l e j k⟩]) r → Run l (n + 1) k e f out r
  | keep {n k e f out r m} : k < (l.length : Int) → (rd_T28 l k).f3 = true → (rd_T53 e k).f0 ≠ 0 → (∀ i : Int, 0 ≤ i → i < e.length → (rd_T53 e i).f1 < e.length) → (∃ lit, keyOf Try.prog 57 (encK (m_of l e k)) = some lit) → -1 ≤ m_low f (m_of l e k) →
      m_open l e (m_low f (m_of l e k)) k m (rd_T53 e k).f1 = some (-1) → (rd_T28 l k).f2 = true → Run l n (k + 1) e (fun x => if x = m_of l e k then some (rd_T53 e k).f1 else f x) out r → Run l (n + 1) k e f out r
  | drop {n k e f out r m e'} : k < (l.length : Int) → (rd_T28 l k).f3 = true → (rd_T53 e k).f0 ≠ 0 → (∀ i : Int, 0 ≤ i → i < e.length → (rd_T53 e i).f1 < e.length) → (∃ lit, keyOf Try.prog 57 (encK (m_of l e k)) = some lit) → -1 ≤ m_low f (m_of l e k) →
      m_open l e (m_low f (m_of l e k)) k m (rd_T53 e k).f1 = some (-1) → (rd_T28 l k).f2 = false → m_dropO e k = some e' → Run l n (k + 1) e' (fun x => if x = m_of l e k then some (rd_T53 e k).f1 else f x) out r → Run l (n + 1) k e f out r

theorem MAt.over {w w1 : World} {B g eb mb ecap : Nat} {A : Option Addr} {c : Nat} {l : List S28} {e : List S53} {f : Key → Option Int} (h : MAt w B g eb mb ecap A c l e f) (hp : 0 < e.length) {row : Option Nat} (hg : w.grownBy w1 row)
    (hty : ∀ k, row = some k → B ≤ k ∧ ∃ cs, w.heap[k]? = some (.cells cs 40 (0, 0))) : MAt w1 B g eb mb ecap A c l e f := by
  obtain ⟨cs', hcs⟩ := h.typed hp
  have hn1 : some g ≠ row := fun he => by obtain ⟨_, cs, hc⟩ := hty g he.symm; exact blk_ne h.blk hc (by decide) rfl
  have hn2 : some mb ≠ row := fun he => by obtain ⟨_, cs, hc⟩ := hty mb he.symm; exact h.map.ne_cells hc rfl
  refine ⟨blk_grown h.blk hg hn1, ?_, ?_, h.map.grown hg hn2, h.hB, h.harg, h.hl, h.he⟩
  · rcases row with _ | q
    · exact Kd.C_foot_ne (g := w1.heap.size) (fun h => h) h.runs (fun ad ha hl he => by
        have h1 := h.harg ad ha hl; have h2 := h.hB.1; have h3 := blk_lt h.blk; have h4 := hg.size; omega) _ ⟨hg.size, fun i hi _ _ => hg.block i hi (by simp)⟩
    · exact Kd.C_foot_ne (g := q) (fun h => h) h.runs (fun ad ha hl he => by have h1 := h.harg ad ha hl; have h2 := (hty q rfl).1; omega) _ ⟨hg.size, fun i hi hne _ => hg.block i hi (by simpa using hne)⟩
  · refine Kd.R_mono (Kd.R_move (Kd.R_bound h.ents) (fun k hk => hg.block k hk.2.2.1 (fun he => ?_))) (fun _ _ => trivial)
    obtain ⟨_, _, _, q, hq, cells, hc⟩ := hk
    obtain ⟨_, cs, hc2⟩ := hty k he.symm
    rw [hc] at hc2
    injection hc2 with hc2
    injection hc2 with _ hc2
    subst hc2
    simp [k53, Kd.iso, Kd.pair, Kd.int, Kd.scalar] at hq
/-- The world behind 'm.bottom[key] = v'. -/
noncomputable def mapW (key : Key) (v : Int) (mb : Nat) (w : World) : World :=
  match (Instr.mapUpdate 48 (.map (some mb)) (encK key) (.int .i64 v)).run Try.prog w with
  | .ok _ w1 => w1
  | _ => w
theorem map_upd {w : World} {B g eb mb ecap : Nat} {A : Option Addr} {c : Nat} {l : List S28} {e : List S53} {f : Key → Option Int} (h : MAt w B g eb mb ecap A c l e f) (hp : 0 < e.length) (key : Key) (v : Int) (hkey : ∃ lit, keyOf Try.prog 57 (encK key) = some lit) :
    (Instr.mapUpdate 48 (.map (some mb)) (encK key) (.int .i64 v)).run Try.prog w = .ok () (mapW key v mb w) ∧ MAt (mapW key v mb w) B g eb mb ecap A c l e (fun x => if x = key then some v else f x) ∧ w.grownBy (mapW key v mb w) (some mb) := by
  obtain ⟨w1, hrun, hm, hg⟩ := MapF.store key_law Try.underlying48 encK_inj i64_inj h.map key v hkey
  have hw : mapW key v mb w = w1 := by unfold mapW; rw [hrun]
  rw [hw]
  obtain ⟨cs', hcs⟩ := h.typed hp
  have hn1 : g ≠ mb := h.map.ne_cells h.blk
  have hn2 : eb ≠ mb := h.map.ne_cells hcs
  refine ⟨hrun, ⟨blk_grown h.blk hg (by simpa using hn1), ?_, ?_, hm, h.hB, h.harg, h.hl, h.he⟩, hg⟩
  · exact Kd.C_foot_ne (g := mb) (fun h => h) h.runs (fun ad ha hl he => by have h1 := h.harg ad ha hl; have h2 := h.hB.2; omega) _ ⟨hg.size, fun i hi hne _ => hg.block i hi (by simpa using hne)⟩
  · refine Kd.R_mono (Kd.R_move (Kd.R_bound h.ents) (fun k hk => hg.block k hk.2.2.1 (fun he => ?_))) (fun _ _ => trivial)
    obtain ⟨_, _, _, q, hq, cells, hc⟩ := hk
    injection he with he
    exact h.map.ne_cells hc he
theorem R_over_map {w w1 : World} {B mb : Nat} {v : Value} {out : List S40} (h : Kd.R k40 40 w B (fun _ => True) v out) {α β : Type} {P : Program} {k : TypeId} {enc : α → Value} {V : β → Value} {f : α → Option β} (hm : MapF w P k enc V mb f) (hg : w.grownBy w1 (some mb)) : Kd.R k40 40 w1 B (fun _ => True) v out := by
  refine Kd.R_mono (Kd.R_move (Kd.R_bound h) (fun k hk => hg.block k hk.2.2.1 (fun he => ?_))) (fun _ _ => trivial)
  obtain ⟨_, _, _, q, hq, cells, hc⟩ := hk
  injection he with he
  exact hm.ne_cells hc he
theorem R_over_ents {w w1 : World} {B eb : Nat} {v : Value} {out : List S40} (h : Kd.R k40 40 w B (fun _ => True) v out) {cs : Array Value} (hc : w.heap[eb]? = some (.cells cs 53 (0, 0))) (hg : w.grownBy w1 (some eb)) : Kd.R k40 40 w1 B (fun _ => True) v out := by
  refine Kd.R_mono (Kd.R_move (Kd.R_bound h) (fun k hk => hg.block k hk.2.2.1 (fun he => ?_))) (fun _ _ => trivial)
  obtain ⟨_, _, _, q, hq, cells, hc2⟩ := hk
  injection he with he
  subst he
  rw [hc] at hc2
  injection hc2 with hc2
  injection hc2 with _ hc2
  subst hc2
  simp [k40, Kd.iso, Kd.pair, Kd.int, Kd.scalar] at hq

theorem keep_S {w : World} {B g eb mb ecap : Nat} {A : Option Addr} {c : Nat} {l : List S28} {e : List S53} {f : Key → Option Int} (h : MAt w B g eb mb ecap A c l e f) (k : Int) (hk0 : 0 ≤ k) (hke : k < e.length) (kv : Key)
    (hu : (Instr.mapUpdate 48 (.map (some mb)) (encK kv) (.int .i64 (rd_T53 e k).f1)).run Try.prog w = .ok () (mapW kv (rd_T53 e k).f1 mb w)) :
    w.cell? ⟨g, 2, none⟩ = some (.map (some mb)) ∧ w.cell? ⟨g, 1, none⟩ = some (.slice (some ⟨eb, 0, none⟩) e.length ecap) ∧ w.cell? ⟨eb, k.toNat * 3 + 1, none⟩ = some (.int .i64 (rd_T53 e k).f1) ∧
      (Instr.mapUpdate 48 (.map (some mb)) (encK kv) (.int .i64 (rd_T53 e k).f1)).run Try.prog w = .ok () (mapW kv (rd_T53 e k).f1 mb w) ∧ ∃ f0, MAt w B g eb mb ecap A c l e f0 :=
  ⟨h.cells.2.2, h.cells.2.1, (ent_cells h k hk0 hke).2.1, hu, f, h⟩

set_option maxRecDepth 100000 in
set_option maxHeartbeats 16000000 in
theorem match_calls {w : World} {A : Option Addr} {c : Nat} {l : List S28} (hr0 : Kd.C k28 w A l.length l) (hc0 : l.length ≤ c) (hl : l.length ≤ 1000000) (n : Nat) (r : List S40) (h : Run l n 0 (m_init l l.length) (fun _ => none) [] r) :
    Calls Try.prog 15 #[.slice A l.length c] w fun e w' => ∃ v0_ : Value, e = .returned v0_ ∧ Kd.R k40 40 w' w.heap.size (fun _ => True) v0_ r ∧ Below w.heap.size w w' := by
  have hu28 := Try.underlying28
  have hu51 := Try.underlying51
  have hmm := @run_makeMap Try.prog
  have HR0 := Aside0.mk hr0
  have HRUN := Aside0.mk h
  have hlI : (l.length : Int) ≤ 1000000 := by omega
  clear hr0 h
  go_enter Try.func15, Try.ntmps15
  go_wp2_with fail
  have HG0 := Aside0.mk (show ((w.alloc (.map #[] 0)).alloc (.cells #[.slice A l.length c, .slice none 0 0, .map (some w.heap.size)] 51)).heap[w.heap.size + 1]? = some (.cells #[.slice A l.length c, .slice none 0 0, .map (some w.heap.size)] 51 (0, 0)) by
    have h := blk_new (w.alloc (.map #[] 0)) (.cells #[.slice A l.length c, .slice none 0 0, .map (some w.heap.size)] 51)
    rwa [World.size_alloc] at h)
  have HM0 := Aside0.mk ((MapF.made w Try.prog 57 encK (Value.int .i64)).below' (below_alloc (Below.refl _ _) (.cells #[.slice A l.length c, .slice none 0 0, .map (some w.heap.size)] 51)))
  obtain ⟨mb, hmb⟩ : ∃ mb, mb = w.heap.size := ⟨_, rfl⟩
  have HB0 := Aside0.mk (below_alloc (below_alloc (Below.refl w.heap.size w) (.map #[] 0)) (.cells #[.slice A l.length c, .slice none 0 0, .map (some mb)] 51))
  obtain ⟨gb, hgb⟩ : ∃ gb, gb = mb + 1 := ⟨_, rfl⟩
  have hbB : w.heap.size ≤ gb ∧ w.heap.size ≤ mb := by omega
  have HbB := Aside0.mk hbB
  rw [← hmb] at HG0 HM0 ⊢
  rw [← hgb] at HG0 ⊢
  generalize (w.alloc (.map #[] 0)).alloc (.cells #[.slice A l.length c, .slice none 0 0, .map (some mb)] 51) = w1 at *
  clear hmb hgb hmm hbB
  go_loopw [16] (fun v16 wr => ∃ i : Nat, i ≤ l.length ∧ v16 = .int .i64 i ∧ ∃ ve, Aside0 (wr.heap[gb]? = some (.cells #[.slice A l.length c, ve, .map (some mb)] 51 (0, 0))) ∧ Aside0 (Kd.R k53 53 wr w.heap.size (fun _ => True) ve (m_init l i)) ∧
    Aside0 (MapF wr Try.prog 57 encK (Value.int .i64) mb (fun _ => none)) ∧ Aside0 (Below w.heap.size w wr)) (fun v16 _ => l.length - (intOf v16).toNat)
  case atStart => exact ⟨0, by omega, rfl, _, HG0, ⟨Kd.R_nil _ _ _ _ _⟩, HM0, HB0⟩
  case round =>
    clear HG0 HM0 HB0
    obtain ⟨i, hi, rfl, ve, HG, HE, HM, HB⟩ := hrel
    have g0 : wr.cell? ⟨gb, 0, none⟩ = some (.slice A l.length c) := blk_cell HG.out 0
    by_cases hlt : i < l.length
    · obtain ⟨ad, rfl, hx0, hx1, hx2, hx3⟩ := at_T28 (Kd.C_below HR0.out HB.out) (i : Int) (by omega) (by omega)
      have n0 := World.new_ne wr _ g0
      have n1 := World.new_ne wr _ hx0
      have g1 : wr.cell? ⟨gb, 1, none⟩ = some ve := blk_cell HG.out 1
      have g2 : wr.cell? ⟨gb, 2, none⟩ = some (.map (some mb)) := blk_cell HG.out 2
      simp only [Int.toNat_natCast] at hx0 hx1 hx2 hx3
      by_cases c1 : (rd_T28 l i).f1 < 1
      · have c1b : decide ((rd_T28 l i).f1 < 1) = true := decide_eq_true c1
        have hml : m_entry l i = ⟨0, (i : Int) - 1, (i : Int) + 1⟩ := by unfold m_entry m_left; simp only [S53.mk.injEq, and_true]; omega
        have HML := Aside0.mk hml
        clear hml
        go_upto_region 8 with (fail)
        have H3 := Aside0.mk (Kd.R_alloc HE.out (.cells #[.int .u8 (rd_T28 l i).f0, .int .i64 (rd_T28 l i).f1, .bool (rd_T28 l i).f2, .bool (rd_T28 l i).f3] 28))
        have HM3 := Aside0.mk (HM.out.below' (below_alloc (Below.refl _ _) (.cells #[.int .u8 (rd_T28 l i).f0, .int .i64 (rd_T28 l i).f1, .bool (rd_T28 l i).f2, .bool (rd_T28 l i).f3] 28)))
        have HB3 := Aside0.mk (below_alloc HB.out (.cells #[.int .u8 (rd_T28 l i).f0, .int .i64 (rd_T28 l i).f1, .bool (rd_T28 l i).f2, .bool (rd_T28 l i).f3] 28))
        have HG3 := Aside0.mk (blk_alloc HG.out (.cells #[.int .u8 (rd_T28 l i).f0, .int .i64 (rd_T28 l i).f1, .bool (rd_T28 l i).f2, .bool (rd_T28 l i).f3] 28))
        generalize (wr.alloc (.cells #[.int .u8 (rd_T28 l i).f0, .int .i64 (rd_T28 l i).f1, .bool (rd_T28 l i).f2, .bool (rd_T28 l i).f3] 28)) = w3 at H3 HM3 HB3 HG3 ⊢
        clear HE HM HB HG g1 g2 hx0 hx1 hx2 hx3 n0 n1
        have g1 : w3.cell? ⟨gb, 1, none⟩ = some ve := blk_cell HG3.out 1
        obtain ⟨Ae, ce, hve⟩ := Kd.R_slice H3.out
        subst hve
        have hlm : (m_init l i).length = i := by unfold m_init; simp
        have HLM := Aside0.mk hlm
        clear hlm
        generalize hmi : m_init l i = mi at *
        have HMI := Aside0.mk hmi
        clear hmi
        go_wp2_with (first
          | (at_builtin; refine Kd.R_append k53 (w0 := w) w.heap.size rfl (.tmp 33) (.tmp 40) 49 53 (.agg #[(.int .i64 0), (.int .i64 0), (.int .i64 0)]) 24 rfl Try.underlying49 info53_ rfl (by decide) (by omega) (.slice Ae mi.length ce) mi ⟨0, (i : Int) - 1, (i : Int) + 1⟩ [.int .i64 0, .int .i64 ((i : Int) - 1), .int .i64 ((i : Int) + 1)] (fun _ => True) (fun _ => False) rfl rfl ?aP (fun _ h => h.elim) (fun _ _ => trivial) ?aO ?aB ?aS ?aL ?_; (case aP => exact k53_mkM _ _ _ ⟨0, (i : Int) - 1, (i : Int) + 1⟩); (case aO => exact H3.out); (case aB => exact HB3.out); (case aS => exact HB3.out.size); (case aL => rw [HLM.out]; omega); intro v1 w4 ho hb hg hat; have HO4 := Aside0.mk ho; have HB4 := Aside0.mk hb; have HG4 := Aside0.mk (blk_grown HG3.out hg (Kd.R_ne H3.out HG3.out (by decide))); have HM4 := Aside0.mk (HM3.out.grown hg (fun he => by obtain ⟨cs, hcs⟩ := Kd.R_typed H3.out mb he.symm; exact HM3.out.ne_cells hcs rfl)); clear ho hb hg hat; have k1 := blk_cell HG4.out 1; have kf := blk_frozen HG4.out 1; obtain ⟨A4, c4, hv4⟩ := Kd.R_slice HO4.out; subst hv4))
        go_roundw
        case rel =>
          refine ⟨i + 1, by omega, by go_num, _, ⟨blk_put (cs := #[.slice (some ad) l.length c, .slice Ae mi.length ce, .map (some mb)]) HG4.out 1 _ rfl⟩, ⟨?_⟩, ⟨HM4.out.step (Below.heap_setCell w4 _ _ mb (fun he => HM4.out.ne_cells HG4.out he.symm))⟩, ⟨below_set HB4.out HbB.out.1⟩⟩
          have hsnoc : m_init l (i + 1) = mi ++ [⟨0, (i : Int) - 1, (i : Int) + 1⟩] := by
            rw [← HML.out, ← HMI.out]
            unfold m_init
            rw [List.range_succ, List.map_append]
            rfl
          rw [hsnoc]
          have h := Kd.R_set HO4.out HG4.out (by decide) 1 (.slice A4 (mi.length + 1) c4)
          simp only [List.length_append, List.length_cons, List.length_nil, Nat.zero_add] at h
          exact h
        case measure => simp [intOf]; omega
      · have c1b : decide ((rd_T28 l i).f1 < 1) = false := decide_eq_false c1
        by_cases c2 : 1073741824 < (rd_T28 l i).f1
        · have c2b : decide (1073741824 < (rd_T28 l i).f1) = true := decide_eq_true c2
          have hml : m_entry l i = ⟨0, (i : Int) - 1, (i : Int) + 1⟩ := by unfold m_entry m_left; simp only [S53.mk.injEq, and_true]; omega
          have HML := Aside0.mk hml
          clear hml
          go_upto_region 8 with (fail)
          have H3 := Aside0.mk (Kd.R_alloc HE.out (.cells #[.int .u8 (rd_T28 l i).f0, .int .i64 (rd_T28 l i).f1, .bool (rd_T28 l i).f2, .bool (rd_T28 l i).f3] 28))
          have HM3 := Aside0.mk (HM.out.below' (below_alloc (Below.refl _ _) (.cells #[.int .u8 (rd_T28 l i).f0, .int .i64 (rd_T28 l i).f1, .bool (rd_T28 l i).f2, .bool (rd_T28 l i).f3] 28)))
          have HB3 := Aside0.mk (below_alloc HB.out (.cells #[.int .u8 (rd_T28 l i).f0, .int .i64 (rd_T28 l i).f1, .bool (rd_T28 l i).f2, .bool (rd_T28 l i).f3] 28))
          have HG3 := Aside0.mk (blk_alloc HG.out (.cells #[.int .u8 (rd_T28 l i).f0, .int .i64 (rd_T28 l i).f1, .bool (rd_T28 l i).f2, .bool (rd_T28 l i).f3] 28))
          generalize (wr.alloc (.cells #[.int .u8 (rd_T28 l i).f0, .int .i64 (rd_T28 l i).f1, .bool (rd_T28 l i).f2, .bool (rd_T28 l i).f3] 28)) = w3 at H3 HM3 HB3 HG3 ⊢
          clear HE HM HB HG g1 g2 hx0 hx1 hx2 hx3 n0 n1
          have g1 : w3.cell? ⟨gb, 1, none⟩ = some ve := blk_cell HG3.out 1
          obtain ⟨Ae, ce, hve⟩ := Kd.R_slice H3.out
          subst hve
          have hlm : (m_init l i).length = i := by unfold m_init; simp
          have HLM := Aside0.mk hlm
          clear hlm
          generalize hmi : m_init l i = mi at *
          have HMI := Aside0.mk hmi
          clear hmi
          go_wp2_with (first
            | (at_builtin; refine Kd.R_append k53 (w0 := w) w.heap.size rfl (.tmp 33) (.tmp 40) 49 53 (.agg #[(.int .i64 0), (.int .i64 0), (.int .i64 0)]) 24 rfl Try.underlying49 info53_ rfl (by decide) (by omega) (.slice Ae mi.length ce) mi ⟨0, (i : Int) - 1, (i : Int) + 1⟩ [.int .i64 0, .int .i64 ((i : Int) - 1), .int .i64 ((i : Int) + 1)] (fun _ => True) (fun _ => False) rfl rfl ?aP (fun _ h => h.elim) (fun _ _ => trivial) ?aO ?aB ?aS ?aL ?_; (case aP => exact k53_mkM _ _ _ ⟨0, (i : Int) - 1, (i : Int) + 1⟩); (case aO => exact H3.out); (case aB => exact HB3.out); (case aS => exact HB3.out.size); (case aL => rw [HLM.out]; omega); intro v1 w4 ho hb hg hat; have HO4 := Aside0.mk ho; have HB4 := Aside0.mk hb; have HG4 := Aside0.mk (blk_grown HG3.out hg (Kd.R_ne H3.out HG3.out (by decide))); have HM4 := Aside0.mk (HM3.out.grown hg (fun he => by obtain ⟨cs, hcs⟩ := Kd.R_typed H3.out mb he.symm; exact HM3.out.ne_cells hcs rfl)); clear ho hb hg hat; have k1 := blk_cell HG4.out 1; have kf := blk_frozen HG4.out 1; obtain ⟨A4, c4, hv4⟩ := Kd.R_slice HO4.out; subst hv4))
          go_roundw
          case rel =>
            refine ⟨i + 1, by omega, by go_num, _, ⟨blk_put (cs := #[.slice (some ad) l.length c, .slice Ae mi.length ce, .map (some mb)]) HG4.out 1 _ rfl⟩, ⟨?_⟩, ⟨HM4.out.step (Below.heap_setCell w4 _ _ mb (fun he => HM4.out.ne_cells HG4.out he.symm))⟩, ⟨below_set HB4.out HbB.out.1⟩⟩
            have hsnoc : m_init l (i + 1) = mi ++ [⟨0, (i : Int) - 1, (i : Int) + 1⟩] := by
              rw [← HML.out, ← HMI.out]
              unfold m_init
              rw [List.range_succ, List.map_append]
              rfl
            rw [hsnoc]
            have h := Kd.R_set HO4.out HG4.out (by decide) 1 (.slice A4 (mi.length + 1) c4)
            simp only [List.length_append, List.length_cons, List.length_nil, Nat.zero_add] at h
            exact h
          case measure => simp [intOf]; omega
        · have c2b : decide (1073741824 < (rd_T28 l i).f1) = false := decide_eq_false c2
          have hml : m_entry l i = ⟨(rd_T28 l i).f1, (i : Int) - 1, (i : Int) + 1⟩ := by unfold m_entry m_left; simp only [S53.mk.injEq, and_true]; omega
          have HML := Aside0.mk hml
          clear hml
          go_upto_region 8 with (fail)
          have H3 := Aside0.mk (Kd.R_alloc HE.out (.cells #[.int .u8 (rd_T28 l i).f0, .int .i64 (rd_T28 l i).f1, .bool (rd_T28 l i).f2, .bool (rd_T28 l i).f3] 28))
          have HM3 := Aside0.mk (HM.out.below' (below_alloc (Below.refl _ _) (.cells #[.int .u8 (rd_T28 l i).f0, .int .i64 (rd_T28 l i).f1, .bool (rd_T28 l i).f2, .bool (rd_T28 l i).f3] 28)))
          have HB3 := Aside0.mk (below_alloc HB.out (.cells #[.int .u8 (rd_T28 l i).f0, .int .i64 (rd_T28 l i).f1, .bool (rd_T28 l i).f2, .bool (rd_T28 l i).f3] 28))
          have HG3 := Aside0.mk (blk_alloc HG.out (.cells #[.int .u8 (rd_T28 l i).f0, .int .i64 (rd_T28 l i).f1, .bool (rd_T28 l i).f2, .bool (rd_T28 l i).f3] 28))
          generalize (wr.alloc (.cells #[.int .u8 (rd_T28 l i).f0, .int .i64 (rd_T28 l i).f1, .bool (rd_T28 l i).f2, .bool (rd_T28 l i).f3] 28)) = w3 at H3 HM3 HB3 HG3 ⊢
          clear HE HM HB HG g1 g2 hx0 hx1 hx2 hx3 n0 n1
          have g1 : w3.cell? ⟨gb, 1, none⟩ = some ve := blk_cell HG3.out 1
          obtain ⟨Ae, ce, hve⟩ := Kd.R_slice H3.out
          subst hve
          have hlm : (m_init l i).length = i := by unfold m_init; simp
          have HLM := Aside0.mk hlm
          clear hlm
          generalize hmi : m_init l i = mi at *
          have HMI := Aside0.mk hmi
          clear hmi
          go_wp2_with (first
            | (at_builtin; refine Kd.R_append k53 (w0 := w) w.heap.size rfl (.tmp 33) (.tmp 40) 49 53 (.agg #[(.int .i64 0), (.int .i64 0), (.int .i64 0)]) 24 rfl Try.underlying49 info53_ rfl (by decide) (by omega) (.slice Ae mi.length ce) mi ⟨(rd_T28 l i).f1, (i : Int) - 1, (i : Int) + 1⟩ [.int .i64 (rd_T28 l i).f1, .int .i64 ((i : Int) - 1), .int .i64 ((i : Int) + 1)] (fun _ => True) (fun _ => False) rfl rfl ?aP (fun _ h => h.elim) (fun _ _ => trivial) ?aO ?aB ?aS ?aL ?_; (case aP => exact k53_mkM _ _ _ ⟨(rd_T28 l i).f1, (i : Int) - 1, (i : Int) + 1⟩); (case aO => exact H3.out); (case aB => exact HB3.out); (case aS => exact HB3.out.size); (case aL => rw [HLM.out]; omega); intro v1 w4 ho hb hg hat; have HO4 := Aside0.mk ho; have HB4 := Aside0.mk hb; have HG4 := Aside0.mk (blk_grown HG3.out hg (Kd.R_ne H3.out HG3.out (by decide))); have HM4 := Aside0.mk (HM3.out.grown hg (fun he => by obtain ⟨cs, hcs⟩ := Kd.R_typed H3.out mb he.symm; exact HM3.out.ne_cells hcs rfl)); clear ho hb hg hat; have k1 := blk_cell HG4.out 1; have kf := blk_frozen HG4.out 1; obtain ⟨A4, c4, hv4⟩ := Kd.R_slice HO4.out; subst hv4))
          go_roundw
          case rel =>
            refine ⟨i + 1, by omega, by go_num, _, ⟨blk_put (cs := #[.slice (some ad) l.length c, .slice Ae mi.length ce, .map (some mb)]) HG4.out 1 _ rfl⟩, ⟨?_⟩, ⟨HM4.out.step (Below.heap_setCell w4 _ _ mb (fun he => HM4.out.ne_cells HG4.out he.symm))⟩, ⟨below_set HB4.out HbB.out.1⟩⟩
            have hsnoc : m_init l (i + 1) = mi ++ [⟨(rd_T28 l i).f1, (i : Int) - 1, (i : Int) + 1⟩] := by
              rw [← HML.out, ← HMI.out]
              unfold m_init
              rw [List.range_succ, List.map_append]
              rfl
            rw [hsnoc]
            have h := Kd.R_set HO4.out HG4.out (by decide) 1 (.slice A4 (mi.length + 1) c4)
            simp only [List.length_append, List.length_cons, List.length_nil, Nat.zero_add] at h
            exact h
          case measure => simp [intOf]; omega
    · obtain rfl : i = l.length := by omega
      have hlm : (m_init l l.length).length = l.length := by unfold m_init; simp
      have HLM := Aside0.mk hlm
      clear hlm
      generalize m_init l l.length = e0 at *
      by_cases hz : l.length = 0
      · have hr2 : r = [] := by
          have hrun := HRUN.out
          cases hrun with
          | done _ => rfl
          | skip h1 => omega
          | pair h1 => omega
          | keep h1 => omega
          | drop h1 => omega
        have hlz : ((l.length : Int)) ≤ 0 := by omega
        have HR2 := Aside0.mk hr2
        clear HRUN HG HE HM g0 hr2 hz
        go_wp2_with fail
        go_loopw [7, 8] (fun v7 v8 wr2 => v7 = .slice none 0 0 ∧ v8 = .int .i64 0 ∧ Aside0 (Below w.heap.size w wr2)) (fun v7 v8 _ => 0)
        case atStart => exact ⟨rfl, rfl, HB⟩
        case round =>
          clear HB
          obtain ⟨rfl, rfl, HB⟩ := hrel
          go_wp2_with fail
          go_ret
          exact ⟨_, rfl, by rw [HR2.out]; exact Kd.R_nil _ _ _ _ _, HB.out⟩
      · have hpos : 0 < e0.length := by rw [HLM.out]; omega
        obtain ⟨eb, cap, hve, hBe, _, _⟩ := Kd.R_form HE.out hpos
        subst hve
        have HMA := Aside0.mk (show MAt wr w.heap.size gb eb mb cap A c l e0 (fun _ => none) from ⟨HG.out, Kd.C_below HR0.out HB.out, HE.out, HM.out, HbB.out, fun ad ha hp => by
          obtain ⟨ad', hA', hx, _⟩ := at_T28 HR0.out 0 (by omega) (by omega)
          have h2 : ad = ad' := Option.some.inj (ha.symm.trans hA')
          subst h2
          have h3 := World.block_lt_of_cell? w _ hx
          rwa [add_block] at h3, by omega, by rw [HLM.out]; omega⟩)
        clear HG HE HM g0
        go_wp2_with fail
        go_loopg [7, 8] n (fun kq v7 v8 wr2 => ∃ (k : Int) (e : List S53) (f : Key → Option Int) (out : List S40), v8 = .int .i64 k ∧ 0 ≤ k ∧ Aside0 (Run l kq k e f out r) ∧ Aside0 (e.length = l.length) ∧ Aside0 (MAt wr2 w.heap.size gb eb mb cap A c l e f) ∧
          Aside0 (Kd.R k40 40 wr2 w.heap.size (fun _ => True) v7 out) ∧ Aside0 (Below w.heap.size w wr2))
        case atStart => exact ⟨0, e0, _, [], rfl, by omega, HRUN, HLM, HMA, ⟨Kd.R_nil _ _ _ _ _⟩, HB⟩
        case round =>
          clear HRUN HLM HMA HB
          obtain ⟨k, e, f, out, rfl, hk0, HRUN, HL0, HMA, HO, HB⟩ := hrel
          have hrun := HRUN.out
          clear HRUN
          have hk9 : k < 9223372036854775807 ∨ ¬ k < (l.length : Int) := by omega
          obtain ⟨gk, rfl⟩ : ∃ m, gk = m + 1 := by
            cases gk with
            | zero => cases hrun
            | succ m => exact ⟨m, rfl⟩
          by_cases hlt : k < (l.length : Int)
          · have hke : k < (e.length : Int) := by rw [HL0.out]; exact hlt
            obtain ⟨ad, hA, hx0, hx1, hx2, hx3⟩ := at_T28 HMA.out.runs k hk0 hlt
            obtain ⟨g0, g1, g2⟩ := HMA.out.cells
            obtain ⟨ek0, ek1, ek2, ekf⟩ := ent_cells HMA.out k hk0 hke
            clear ekf
            cases hrun with
            | done hd => exact absurd hlt hd
            | skip hd0 hsk hrun =>
              have HRUN := Aside0.mk hrun
              clear hrun
              by_cases c3 : (rd_T28 l k).f3 = true
              · rw [c3] at hx3
                have hl0 : (rd_T53 e k).f0 = 0 := by
                  rcases hsk with hsk | hsk
                  · rw [c3] at hsk; cases hsk
                  · exact hsk
                have c4b : ((rd_T53 e k).f0 == 0) = true := beq_iff_eq.mpr hl0
                clear c3 hl0 hsk
                subst hA
                go_wp2_with fail
                go_roundg gk
                case rel => exact ⟨k + 1, e, f, out, rfl, by omega, HRUN, HL0, HMA, HO, HB⟩
                case measure => omega
              · have c3f := Bool.eq_false_iff.mpr c3
                rw [c3f] at hx3
                clear c3 c3f hsk
                subst hA
                go_wp2_with fail
                go_roundg gk
                case rel => exact ⟨k + 1, e, f, out, rfl, by omega, HRUN, HL0, HMA, HO, HB⟩
                case measure => omega
            | pair hd0 h3 h0 hpr hkey hlow hop hj0 hj1 hpa hout hrun =>
              rename_i m m' j e'
              rw [h3] at hx3
              have c4b : ((rd_T53 e k).f0 == 0) = false := beq_eq_false_iff_ne.mpr h0
              have HOP := Aside0.mk (fun w' (h' : MAt w' w.heap.size gb eb mb cap A c l e f) => opener_calls h' k hk0 hke HL0.out.symm hpr hkey hlow m j hop)
              have HPA := Aside0.mk (fun w' (h' : MAt w' w.heap.size gb eb mb cap A c l e f) => pair_calls h' j k hj0 hj1 hk0 hke HL0.out.symm m' e' hpa)
              have HRUN := Aside0.mk hrun
              have HLE := Aside0.mk (show e'.length = l.length from (m_pair_len hpa).trans HL0.out)
              have hpos2 : 0 < e.length := by omega
              have hj9 : (0 : Int) ≤ j := hj0
              clear hrun hpa hop hpr hkey hlow h3 h0
              subst hA
              generalize m_size l e j k = sz at *
              go_wp2_with fail
              refine (HOP.out _ HMA.out).mono ?_
              rintro en w2 ⟨rfl, hb2⟩
              have HM2 := Aside0.mk (HMA.out.below hb2)
              have HO2 := Aside0.mk (Kd.R_below HO.out hb2)
              have HB2 := Aside0.mk (below_step HB.out hb2)
              clear hb2 HMA HO HB HOP
              go_wp2_with fail
              refine (HPA.out _ HM2.out).mono ?_
              rintro en w3 ⟨rfl, h3, hg3⟩
              have HM3 := Aside0.mk h3
              obtain ⟨cs, hcs⟩ := HM2.out.typed hpos2
              have HO3 := Aside0.mk (R_over_ents HO2.out hcs hg3)
              have HB3 := Aside0.mk (show Below w.heap.size w w3 from HB2.out.grown hg3 HB2.out.size (fun k hk => by injection hk with hk; subst hk; exact (HM2.out.hne hpos2).2.2))
              clear h3 hg3 hcs HM2 HO2 HB2 HPA
              obtain ⟨Ao, co, hvo⟩ := Kd.R_slice HO3.out
              subst hvo
              go_wp2_with (first
                | (at_builtin; refine Kd.R_append k40 (w0 := w) w.heap.size rfl (.tmp 73) (.tmp 78) 32 40 (.agg #[(.int .i64 0), (.int .i64 0), (.int .i64 0)]) 24 rfl Try.underlying32 info40_ rfl (by decide) (by omega) (.slice Ao out.length co) out ⟨j, k, sz⟩ [.int .i64 j, .int .i64 k, .int .i64 sz] (fun _ => True) (fun _ => False) rfl rfl ?aP (fun _ h => h.elim) (fun _ _ => trivial) ?aO ?aB ?aS ?aL ?_; (case aP => exact k40_mkM _ _ _ ⟨j, k, sz⟩); (case aO => exact HO3.out); (case aB => exact HB3.out); (case aS => exact HB3.out.size); (case aL => omega); intro v1 w4 ho hb hg hat; have HO4 := Aside0.mk ho; have HB4 := Aside0.mk hb; have HM4 := Aside0.mk (HM3.out.over (by rw [HLE.out]; omega) hg (fun q hq => ⟨Kd.R_base HO3.out q hq, Kd.R_typed HO3.out q hq⟩)); clear ho hb hg hat))
              go_roundg gk
              case rel => exact ⟨k, e', f, _, rfl, hk0, HRUN, HLE, HM4, HO4, HB4⟩
              case measure => omega
            | keep hd0 h3 h0 hpr hkey hlow hop h2 hrun =>
              rename_i m
              rw [h3] at hx3
              have c4b : ((rd_T53 e k).f0 == 0) = false := beq_eq_false_iff_ne.mpr h0
              rw [h2] at hx2
              have HOP := Aside0.mk (fun w' (h' : MAt w' w.heap.size gb eb mb cap A c l e f) => opener_calls h' k hk0 hke HL0.out.symm hpr hkey hlow m (-1) hop)
              have HOF := Aside0.mk (fun w' (f' : Key → Option Int) (h' : MAt w' w.heap.size gb eb mb cap A c l e f') => of_calls h' k hk0 hke hlt)
              have HUP := Aside0.mk (fun w' (f' : Key → Option Int) (h' : MAt w' w.heap.size gb eb mb cap A c l e f') => map_upd h' (by omega) (m_of l e k) (rd_T53 e k).f1 hkey)
              have HRUN := Aside0.mk hrun
              have hpos2 : 0 < e.length := by omega
              have H2 := Aside0.mk h2
              clear hrun hop hpr hkey hlow h3 h0 h2
              subst hA
              generalize m_of l e k = kv at *
              go_wp2_with fail
              refine (HOP.out _ HMA.out).mono ?_
              rintro en w2 ⟨rfl, hb2⟩
              have HM2 := Aside0.mk ((HMA.out.below hb2).drew)
              have HO2 := Aside0.mk (Kd.R_drew (Kd.R_below HO.out hb2))
              have HB2 := Aside0.mk (below_drew (below_step HB.out hb2))
              clear hb2 HMA HO HB HOP
              clear g0 g1 g2 ek0 ek1 ek2 hx0 hx1 hx2 hx3
              go_wp2_with fail
              go_region_held3 (fun w' => w'.cell? ⟨gb, 2, none⟩ = some (.map (some mb)) ∧ w'.cell? ⟨gb, 1, none⟩ = some (.slice (some ⟨eb, 0, none⟩) e.length cap) ∧ w'.cell? ⟨eb, k.toNat * 3 + 1, none⟩ = some (.int .i64 (rd_T53 e k).f1) ∧
                  (Instr.mapUpdate 48 (.map (some mb)) (encK kv) (.int .i64 (rd_T53 e k).f1)).run Try.prog w' = .ok () (mapW kv (rd_T53 e k).f1 mb w') ∧ ∃ f0, MAt w' w.heap.size gb eb mb cap (some ad) c l e f0)
                ((first | exact keep_S HM2.out k hk0 hke kv (HUP.out _ _ HM2.out).1 | exact keep_S (HM2.out.below hb3) k hk0 hke kv (HUP.out _ _ (HM2.out.below hb3)).1 | exact keep_S (HUP.out _ _ (HM2.out.below hb3)).2.1 k hk0 hke kv (HUP.out _ _ (HUP.out _ _ (HM2.out.below hb3)).2.1).1))
                ((go_at_call 24; refine (HOF.out _ _ HM2.out).mono ?_; rintro en w3 ⟨rfl, hb3⟩))
              have HU := HUP.out _ _ (HM2.out.below hb3)
              have HM4 := Aside0.mk HU.2.1
              have HO4 := Aside0.mk (R_over_map (Kd.R_below HO2.out hb3) (HM2.out.below hb3).map HU.2.2)
              have HB4 := Aside0.mk (show Below w.heap.size w (mapW kv (rd_T53 e k).f1 mb w3) from (below_step HB2.out hb3).grown HU.2.2 (below_step HB2.out hb3).size (fun q hq => by injection hq with hq; subst hq; exact HM2.out.hB.2))
              clear HU hb3 HM2 HO2 HB2 HUP HOF
              generalize mapW kv (rd_T53 e k).f1 mb w3 = w4 at HM4 HO4 HB4 ⊢
              obtain ⟨g0, g1, g2⟩ := HM4.out.cells
              obtain ⟨ad2, hA2, hx0, hx1, hx2, hx3⟩ := at_T28 HM4.out.runs k hk0 hlt
              cases hA2
              rw [H2.out] at hx2
              go_wp2_with fail
              go_roundg gk
              case rel => exact ⟨k + 1, e, _, out, rfl, by omega, HRUN, HL0, HM4, HO4, HB4⟩
              case measure => omega
            | drop hd0 h3 h0 hpr hkey hlow hop h2 hdr hrun =>
              rename_i m e'
              rw [h3] at hx3
              have c4b : ((rd_T53 e k).f0 == 0) = false := beq_eq_false_iff_ne.mpr h0
              rw [h2] at hx2
              have HOP := Aside0.mk (fun w' (h' : MAt w' w.heap.size gb eb mb cap A c l e f) => opener_calls h' k hk0 hke HL0.out.symm hpr hkey hlow m (-1) hop)
              have HOF := Aside0.mk (fun w' (f' : Key → Option Int) (h' : MAt w' w.heap.size gb eb mb cap A c l e f') => of_calls h' k hk0 hke hlt)
              have HUP := Aside0.mk (fun w' (f' : Key → Option Int) (h' : MAt w' w.heap.size gb eb mb cap A c l e f') => map_upd h' (by omega) (m_of l e k) (rd_T53 e k).f1 hkey)
              have HRUN := Aside0.mk hrun
              have hpos2 : 0 < e.length := by omega
              have H2 := Aside0.mk h2
              have HLE := Aside0.mk (show e'.length = l.length from (m_dropO_len hdr).trans HL0.out)
              unfold m_dropO at hdr
              have hdo : dropOk e k := by
                by_cases hd : dropOk e k
                · exact hd
                · rw [if_neg hd] at hdr; cases hdr
              rw [if_pos hdo] at hdr
              obtain rfl := Option.some.inj hdr
              have C2 := Aside0.mk hdo
              clear hdr hdo
              clear hrun hop hpr hkey hlow h3 h0 h2
              subst hA
              generalize m_of l e k = kv at *
              go_wp2_with fail
              refine (HOP.out _ HMA.out).mono ?_
              rintro en w2 ⟨rfl, hb2⟩
              have HM2 := Aside0.mk ((HMA.out.below hb2).drew)
              have HO2 := Aside0.mk (Kd.R_drew (Kd.R_below HO.out hb2))
              have HB2 := Aside0.mk (below_drew (below_step HB.out hb2))
              clear hb2 HMA HO HB HOP
              clear g0 g1 g2 ek0 ek1 ek2 hx0 hx1 hx2 hx3
              go_wp2_with fail
              go_region_held3 (fun w' => w'.cell? ⟨gb, 2, none⟩ = some (.map (some mb)) ∧ w'.cell? ⟨gb, 1, none⟩ = some (.slice (some ⟨eb, 0, none⟩) e.length cap) ∧ w'.cell? ⟨eb, k.toNat * 3 + 1, none⟩ = some (.int .i64 (rd_T53 e k).f1) ∧
                  (Instr.mapUpdate 48 (.map (some mb)) (encK kv) (.int .i64 (rd_T53 e k).f1)).run Try.prog w' = .ok () (mapW kv (rd_T53 e k).f1 mb w') ∧ ∃ f0, MAt w' w.heap.size gb eb mb cap (some ad) c l e f0)
                ((first | exact keep_S HM2.out k hk0 hke kv (HUP.out _ _ HM2.out).1 | exact keep_S (HM2.out.below hb3) k hk0 hke kv (HUP.out _ _ (HM2.out.below hb3)).1 | exact keep_S (HUP.out _ _ (HM2.out.below hb3)).2.1 k hk0 hke kv (HUP.out _ _ (HUP.out _ _ (HM2.out.below hb3)).2.1).1))
                ((go_at_call 24; refine (HOF.out _ _ HM2.out).mono ?_; rintro en w3 ⟨rfl, hb3⟩))
              have HU := HUP.out _ _ (HM2.out.below hb3)
              have HM4 := Aside0.mk HU.2.1
              have HO4 := Aside0.mk (R_over_map (Kd.R_below HO2.out hb3) (HM2.out.below hb3).map HU.2.2)
              have HB4 := Aside0.mk (show Below w.heap.size w (mapW kv (rd_T53 e k).f1 mb w3) from (below_step HB2.out hb3).grown HU.2.2 (below_step HB2.out hb3).size (fun q hq => by injection hq with hq; subst hq; exact HM2.out.hB.2))
              clear HU hb3 HM2 HO2 HB2 HUP HOF
              generalize mapW kv (rd_T53 e k).f1 mb w3 = w4 at HM4 HO4 HB4 ⊢
              obtain ⟨g0, g1, g2⟩ := HM4.out.cells
              obtain ⟨ad2, hA2, hx0, hx1, hx2, hx3⟩ := at_T28 HM4.out.runs k hk0 hlt
              cases hA2
              rw [H2.out] at hx2
              go_wp2_with fail
              refine (drop_calls HM4.out _ C2.out.1.1 C2.out.1.2 C2.out.2.1 C2.out.2.2.1 C2.out.2.2.2.1 C2.out.2.2.2.2).mono ?_
              rintro en w5 ⟨rfl, h5, hg5⟩
              obtain ⟨cs, hcs⟩ := HM4.out.typed hpos2
              have HM5 := Aside0.mk h5
              have HO5 := Aside0.mk (R_over_ents HO4.out hcs hg5)
              have HB5 := Aside0.mk (show Below w.heap.size w w5 from HB4.out.grown hg5 HB4.out.size (fun q hq => by injection hq with hq; subst hq; exact (HM4.out.hne hpos2).2.2))
              clear h5 hg5 hcs HM4 HO4 HB4
              go_wp2_with fail
              go_roundg gk
              case rel => exact ⟨k + 1, _, _, out, rfl, by omega, HRUN, HLE, HM5, HO5, HB5⟩
              case measure => omega
          · cases hrun with
            | done hd =>
              go_wp2_with fail
              go_ret
              exact ⟨_, rfl, HO.out, HB.out⟩
            | skip h1 => exact absurd h1 hlt
            | pair h1 => exact absurd h1 hlt
            | keep h1 => exact absurd h1 hlt
            | drop h1 => exact absurd h1 hlt
end Go.Proofs.Ytclondmclehiiaa.P
