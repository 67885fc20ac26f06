/- The matcher's state and its methods size, drop and of: each call comes to a plain Lean function of the runs and the entries. -/
import Derived.Test.YtclondmclehiiaaPk0
import Derived.Test.YtclondmclehiiaaMapF
import Derived.DeepKeys5
import Derived.Deep.RegionHeld3
namespace Go.Proofs.Ytclondmclehiiaa.P
open Go.RowKit Go.Proofs.YtclondmclehiiaaW.PrintWords Go.Proofs.YtclondmclehiiaaW.PrintLast Go.Proofs.YtclondmclehiiaaW.PrintMore Go.Proofs.Ytclondmclehiiaa.M
attribute [local go_sem] max2_int min2_int max_two min_two max_three min_three max_four min_four World.cell?_alloc_some World.cell?_setCell_far
set_option linter.unusedVariables false
set_option linter.unusedSimpArgs false

abbrev Key := Int × Bool × Int
def encK (k : Key) : Value := .agg #[.int .u8 k.1, .bool k.2.1, .int .i64 k.2.2]
theorem encK_inj (a b : Key) (h : encK a = encK b) : a = b := by
  obtain ⟨a0, a1, a2⟩ := a
  obtain ⟨b0, b1, b2⟩ := b
  simp [encK] at h
  obtain ⟨rfl, rfl, rfl⟩ := h
  rfl

/-- The matcher at block g: the runs l (read), the entries e at block eb, the map at block mb. -/
structure MAt (w : World) (B g eb mb ecap : Nat) (A : Option Addr) (c : Nat) (l : List S28) (e : List S53) (f : Key → Option Int) : Prop where
  blk : w.heap[g]? = some (.cells #[.slice A l.length c, .slice (some ⟨eb, 0, none⟩) e.length ecap, .map (some mb)] 51 (0, 0))
  runs : Kd.C k28 w A l.length l
  ents : Kd.R k53 53 w B (fun _ => True) (.slice (some ⟨eb, 0, none⟩) e.length ecap) e
  map : MapF w Try.prog 57 encK (Value.int .i64) mb f
  hB : B ≤ g ∧ B ≤ mb
  harg : ∀ ad, A = some ad → 0 < l.length → ad.block < B
  hl : l.length ≤ 9223372036854775807
  he : e.length ≤ 9223372036854775807

section
variable {w : World} {B g eb mb ecap : Nat} {A : Option Addr} {c : Nat} {l : List S28} {e : List S53} {f : Key → Option Int}
theorem ent_cells (h : MAt w B g eb mb ecap A c l e f) (i : Int) (h0 : 0 ≤ i) (h1 : i < e.length) :
    w.cell? ⟨eb, i.toNat * 3, none⟩ = some (.int .i64 (rd_T53 e i).f0) ∧ w.cell? ⟨eb, i.toNat * 3 + 1, none⟩ = some (.int .i64 (rd_T53 e i).f1) ∧ w.cell? ⟨eb, i.toNat * 3 + 2, none⟩ = some (.int .i64 (rd_T53 e i).f2) ∧
      (∀ j, w.frozen? ⟨eb, i.toNat * 3 + j, none⟩ = false) := by
  obtain ⟨c, hcl, hM, hc, hf⟩ := Kd.R_elem h.ents z53 i h0 h1
  obtain rfl := k53_open (k53.K_of_M hM)
  exact ⟨hc 0 _ rfl, hc 1 _ rfl, hc 2 _ rfl, hf⟩
theorem MAt.cells (h : MAt w B g eb mb ecap A c l e f) : w.cell? ⟨g, 0, none⟩ = some (.slice A l.length c) ∧ w.cell? ⟨g, 1, none⟩ = some (.slice (some ⟨eb, 0, none⟩) e.length ecap) ∧ w.cell? ⟨g, 2, none⟩ = some (.map (some mb)) :=
  ⟨blk_cell h.blk 0, blk_cell h.blk 1, blk_cell h.blk 2⟩
end

theorem ret_i64 {a b : Int} (h : a = b) : Ending.returned (.int .i64 a) = .returned (.int .i64 b) := by rw [h]
def m_size (l : List S28) (e : List S53) (j k : Int) : Int := if (rd_T28 l k).f0 = 126 then (rd_T53 e k).f0 else mn (mn (rd_T53 e k).f0 (rd_T53 e j).f0) 2

set_option maxHeartbeats 1000000 in
theorem size_calls {w : World} {B g eb mb ecap : Nat} {A : Option Addr} {c : Nat} {l : List S28} {e : List S53} {f : Key → Option Int} (h : MAt w B g eb mb ecap A c l e f) (j k : Int) (hj0 : 0 ≤ j) (hj1 : j < e.length) (hk0 : 0 ≤ k) (hk1 : k < e.length) (hk2 : k < l.length) :
    Calls Try.prog 31 #[.pointer (some ⟨g, 0, none⟩), .int .i64 j, .int .i64 k] w fun e' w' => e' = .returned (.int .i64 (m_size l e j k)) ∧ w = w' := by
  obtain ⟨g0, g1, g2⟩ := h.cells
  obtain ⟨ej0, _, _, _⟩ := ent_cells h j hj0 hj1
  obtain ⟨ek0, _, _, _⟩ := ent_cells h k hk0 hk1
  obtain ⟨ad, rfl, hx0, hx1, hx2, hx3⟩ := at_T28 h.runs k hk0 hk2
  have H := Aside0.mk h
  have hl := h.hl
  have he := h.he
  clear h
  by_cases c1 : (rd_T28 l k).f0 = 126
  · have c1b : ((rd_T28 l k).f0 != 126) = false := bne_eq_false_iff_eq.mpr c1
    have hr : m_size l e j k = (rd_T53 e k).f0 := by unfold m_size; rw [if_pos c1]
    have HR := Aside0.mk hr
    clear c1 hr
    go_enter Try.func31, Try.ntmps31
    go_wp2_with fail
    go_ret
    exact ⟨ret_i64 HR.out.symm, rfl⟩
  · have c1b : ((rd_T28 l k).f0 != 126) = true := bne_iff_ne.mpr c1
    have hr : m_size l e j k = mn (mn (rd_T53 e k).f0 (rd_T53 e j).f0) 2 := by unfold m_size; rw [if_neg c1]
    have HR := Aside0.mk hr
    clear c1 hr
    go_enter Try.func31, Try.ntmps31
    go_wp2_with fail
    all_goals (go_ret; refine ⟨ret_i64 ?_, rfl⟩; rw [HR.out]; unfold mn)
    all_goals (repeat' split) <;> omega

def m_of (l : List S28) (e : List S53) (k : Int) : Key :=
  if (rd_T28 l k).f0 = 126 then ((rd_T28 l k).f0, false, (rd_T53 e k).f0) else ((rd_T28 l k).f0, (rd_T28 l k).f2, (rd_T28 l k).f1.tmod 3)

set_option maxHeartbeats 2000000 in
theorem of_calls {w : World} {B g eb mb ecap : Nat} {A : Option Addr} {c : Nat} {l : List S28} {e : List S53} {f : Key → Option Int} (h : MAt w B g eb mb ecap A c l e f) (k : Int) (hk0 : 0 ≤ k) (hk1 : k < e.length) (hk2 : k < l.length) :
    Calls Try.prog 24 #[.pointer (some ⟨g, 0, none⟩), .int .i64 k] w fun e' w' => e' = .returned (encK (m_of l e k)) ∧ Below w.heap.size w w' := by
  obtain ⟨g0, g1, g2⟩ := h.cells
  obtain ⟨ek0, _, _, _⟩ := ent_cells h k hk0 hk1
  obtain ⟨ad, rfl, hx0, hx1, hx2, hx3⟩ := at_T28 h.runs k hk0 hk2
  have H := Aside0.mk h
  have hl := h.hl
  have he := h.he
  have hu28 := Try.underlying28
  have hu57 := Try.underlying57
  have n0 := World.new_ne w _ g0
  have n1 := World.new_ne w _ g1
  have n2 := World.new_ne w _ ek0
  have n3 := World.new_ne w _ hx0
  clear h
  by_cases c1 : (rd_T28 l k).f0 = 126
  · have c1b : ((rd_T28 l k).f0 == 126) = true := beq_iff_eq.mpr c1
    have C := Aside0.mk c1
    clear c1
    go_enter Try.func24, Try.ntmps24
    go_wp2_with fail
    go_region_held3 (fun w' => w'.cell? ⟨w.heap.size + 1, 0, none⟩ = some (.int .u8 (rd_T28 l k).f0) ∧ w'.cell? ⟨g, 1, none⟩ = some (.slice (some ⟨eb, 0, none⟩) e.length ecap) ∧ w'.cell? ⟨eb, k.toNat * 3, none⟩ = some (.int .i64 (rd_T53 e k).f0)) (go_keep) (fail)
    go_wp2
    refine bodyPost_ret (v := encK ((rd_T28 l k).f0, false, (rd_T53 e k).f0)) (by simp [encK, results, Try.results24, go_sem, hu57]) rfl ⟨?_, ?_⟩
    · unfold m_of; rw [if_pos C.out]
    · exact below_drew (below_alloc (below_alloc (Below.refl _ _) _) _)
  · have c1b : ((rd_T28 l k).f0 == 126) = false := beq_eq_false_iff_ne.mpr c1
    have C := Aside0.mk c1
    clear c1
    go_enter Try.func24, Try.ntmps24
    go_wp2_with fail
    refine bodyPost_ret (v := encK ((rd_T28 l k).f0, (rd_T28 l k).f2, (rd_T28 l k).f1.tmod 3)) (by simp [encK, results, Try.results24, go_sem, hu57]) rfl ⟨?_, ?_⟩
    · unfold m_of; rw [if_neg C.out]
    · exact (below_alloc (below_alloc (Below.refl _ _) _) _)
section
variable {w w1 : World} {B g eb mb ecap : Nat} {A : Option Addr} {c : Nat} {l : List S28} {e : List S53} {f : Key → Option Int}
theorem MAt.drew (h : MAt w B g eb mb ecap A c l e f) : MAt w.drew B g eb mb ecap A c l e f := ⟨h.blk, Kd.C_drew h.runs, Kd.R_drew h.ents, h.map.step rfl, h.hB, h.harg, h.hl, h.he⟩
theorem MAt.below (h : MAt w B g eb mb ecap A c l e f) (hb : Below w.heap.size w w1) : MAt w1 B g eb mb ecap A c l e f :=
  ⟨blk_below h.blk hb, Kd.C_below h.runs hb, Kd.R_below h.ents hb, h.map.below' hb, h.hB, h.harg, h.hl, h.he⟩
theorem MAt.hne (h : MAt w B g eb mb ecap A c l e f) (hp : 0 < e.length) : g ≠ eb ∧ mb ≠ eb ∧ B ≤ eb := by
  obtain ⟨g', cap', hv, hb', _, cs, hcs⟩ := Kd.R_form h.ents hp
  injection hv with h1 h2 h3
  injection h1 with h1
  injection h1 with h1
  subst h1
  exact ⟨blk_ne h.blk hcs (by decide), fun e => h.map.ne_cells hcs e.symm, hb'⟩
theorem setCells_one (w : World) (b o : Nat) (v : Value) : w.setCells b o [v] = w.setCell ⟨b, o, none⟩ v := rfl
/-- A store into entry i: field j. -/
theorem MAt.store (h : MAt w B g eb mb ecap A c l e f) (i : Int) (h0 : 0 ≤ i) (h1 : i < e.length) (j : Nat) (hj : j < 3) (x : Int) (y : S53)
    (hy : [Value.int .i64 y.f0, .int .i64 y.f1, .int .i64 y.f2] = [Value.int .i64 (rd_T53 e i).f0, .int .i64 (rd_T53 e i).f1, .int .i64 (rd_T53 e i).f2].set j (.int .i64 x)) :
    MAt (w.setCell ⟨eb, i.toNat * 3 + j, none⟩ (.int .i64 x)) B g eb mb ecap A c l (e.set i.toNat y) f ∧ w.grownBy (w.setCell ⟨eb, i.toNat * 3 + j, none⟩ (.int .i64 x)) (some eb) := by
  obtain ⟨hg, hm, hB⟩ := h.hne (by omega)
  obtain ⟨cs, hcl, hM, hc, _⟩ := Kd.R_elem h.ents z53 i h0 h1
  obtain rfl := k53_open (k53.K_of_M hM)
  have hs := Kd.R_seg h.ents i h0 h1 (c := [Value.int .i64 (rd_T53 e i).f0, .int .i64 (rd_T53 e i).f1, .int .i64 (rd_T53 e i).f2]) (seg := [.int .i64 x]) (j := j) (x' := y) (okp := fun _ => False) rfl hc (by
      show j + 1 ≤ 3
      omega) (by
      have h2 : ([Value.int .i64 (rd_T53 e i).f0, .int .i64 (rd_T53 e i).f1, .int .i64 (rd_T53 e i).f2].take j ++ [Value.int .i64 x] ++ [Value.int .i64 (rd_T53 e i).f0, .int .i64 (rd_T53 e i).f1, .int .i64 (rd_T53 e i).f2].drop (j + [Value.int .i64 x].length)) = [Value.int .i64 y.f0, .int .i64 y.f1, .int .i64 y.f2] := by
        rw [hy]
        match j, hj with
        | 0, _ => rfl
        | 1, _ => rfl
        | 2, _ => rfl
      rw [h2]
      exact k53_mkM _ _ _ y) (fun _ hk => hk.elim)
  rw [setCells_one] at hs
  obtain ⟨hr, hgr⟩ := hs
  refine ⟨⟨?_, ?_, ?_, ?_, h.hB, h.harg, h.hl, ?_⟩, hgr⟩
  · have := blk_grown h.blk hgr (by simp [hg])
    rw [List.length_set]
    exact this
  · exact Kd.C_foot_ne (g := eb) (fun h => h) h.runs (fun ad ha hl he => by have := h.harg ad ha hl; omega) _ ⟨by simp [World.setCell], fun i _ hi _ => Below.heap_setCell w _ _ i hi⟩
  · rw [List.length_set]
    exact hr
  · exact h.map.grown hgr (by simp [hm])
  · rw [List.length_set]; exact h.he
end
end Go.Proofs.Ytclondmclehiiaa.P
