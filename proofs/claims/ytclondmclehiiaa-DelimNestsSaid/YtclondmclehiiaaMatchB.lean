/- The matcher's method drop: the call comes to a plain Lean function of the entries. -/
import Derived.Test.YtclondmclehiiaaPk0
import Derived.Test.YtclondmclehiiaaMatchA
import Derived.DeepKeys5
import Derived.Deep.RegionHeld3
namespace Go.Proofs.Ytclondmclehiiaa.P
open Go.RowKit Go.Proofs.YtclondmclehiiaaW.PrintWords Go.Proofs.YtclondmclehiiaaW.PrintLast Go.Proofs.YtclondmclehiiaaW.PrintMore Go.Proofs.Ytclondmclehiiaa.M
attribute [local go_sem] max2_int min2_int max_two min_two max_three min_three max_four min_four World.cell?_alloc_some World.cell?_setCell_far
set_option linter.unusedVariables false
set_option linter.unusedSimpArgs false

def m_drop1 (e : List S53) (k : Int) : List S53 := let x := rd_T53 e k; if 0 ≤ x.f1 then e.set x.f1.toNat ⟨(rd_T53 e x.f1).f0, (rd_T53 e x.f1).f1, x.f2⟩ else e
def m_drop2 (e : List S53) (k : Int) : List S53 := let x := rd_T53 e k; if x.f2 < e.length then e.set x.f2.toNat ⟨(rd_T53 e x.f2).f0, x.f1, (rd_T53 e x.f2).f2⟩ else e
def m_drop3 (e : List S53) (k : Int) : List S53 := e.set k.toNat ⟨0, (rd_T53 e k).f1, (rd_T53 e k).f2⟩
def m_drop (e : List S53) (k : Int) : List S53 := m_drop3 (m_drop2 (m_drop1 e k) k) k
theorem grown_drew {a w : World} {row : Option Nat} (h : a.grownBy w row) : a.grownBy w.drew row := ⟨h.os, h.tape, h.output, h.size, h.block⟩
theorem grown_drewN {a w : World} {row : Option Nat} (h : a.grownBy w row) (n : Nat) : a.grownBy (w.drewN n) row := ⟨h.os, h.tape, h.output, h.size, h.block⟩
theorem MAt.drewN {w : World} {B g eb mb ecap : Nat} {A : Option Addr} {c : Nat} {l : List S28} {e : List S53} {f : Key → Option Int} (h : MAt w B g eb mb ecap A c l e f) (n : Nat) : MAt (w.drewN n) B g eb mb ecap A c l e f := ⟨h.blk, Kd.C_drewN h.runs n, Kd.R_drewN h.ents n, h.map.step rfl, h.hB, h.harg, h.hl, h.he⟩
theorem m_drop1_len (e : List S53) (k : Int) : (m_drop1 e k).length = e.length := by unfold m_drop1; dsimp only; split <;> simp
theorem m_drop2_len (e : List S53) (k : Int) : (m_drop2 e k).length = e.length := by unfold m_drop2; dsimp only; split <;> simp

set_option maxHeartbeats 4000000 in
theorem drop_calls {w : World} {B g eb mb ecap : Nat} {A : Option Addr} {c : Nat} {l : List S28} {e : List S53} {f : Key → Option Int} (h : MAt w B g eb mb ecap A c l e f) (k : Int) (hk0 : 0 ≤ k) (hk1 : k < e.length)
    (hp1 : (rd_T53 e k).f1 < e.length) (hpk : (rd_T53 e k).f1 ≠ k) (hqk : (rd_T53 (m_drop1 e k) k).f2 ≠ k) (hq0 : 0 ≤ (rd_T53 (m_drop1 e k) k).f2) :
    Calls Try.prog 25 #[.pointer (some ⟨g, 0, none⟩), .int .i64 k] w fun e' w' => e' = .returned (.tuple #[]) ∧ MAt w' B g eb mb ecap A c l (m_drop e k) f ∧ w.grownBy w' (some eb) := by
  obtain ⟨g0, g1, g2⟩ := h.cells
  obtain ⟨ek0, ek1, ek2, ekf⟩ := ent_cells h k hk0 hk1
  have H := Aside0.mk h
  have he := h.he
  have hk1' : k < (m_drop1 e k).length := by rw [m_drop1_len]; exact hk1
  clear h
  by_cases c1 : 0 ≤ (rd_T53 e k).f1
  · obtain ⟨ep0, ep1, ep2, epf⟩ := ent_cells H.out _ c1 hp1
    have hf := epf 2
    have hge := (H.out.hne (by omega)).1
    have hn1 : ¬ (eb = g) := fun h => hge h.symm
    have hn2 : ¬ ((rd_T53 e k).f1.toNat * 3 + 2 = k.toNat * 3 + 1) := by omega
    have hn3 : ¬ ((rd_T53 e k).f1.toNat = k.toNat) := by omega
    have HS := Aside0.mk (MAt.store H.out _ c1 hp1 2 (by omega) (rd_T53 e k).f2 ⟨(rd_T53 e (rd_T53 e k).f1).f0, (rd_T53 e (rd_T53 e k).f1).f1, (rd_T53 e k).f2⟩ rfl)
    have he1 : m_drop1 e k = e.set (rd_T53 e k).f1.toNat ⟨(rd_T53 e (rd_T53 e k).f1).f0, (rd_T53 e (rd_T53 e k).f1).f1, (rd_T53 e k).f2⟩ := if_pos c1
    rw [← he1] at HS
    have HE1 := Aside0.mk he1
    clear he1
    go_enter Try.func25, Try.ntmps25
    go_wp2_with fail
    go_region_held3 (fun w' => w'.cell? ⟨g, 1, none⟩ = some (.slice (some ⟨eb, 0, none⟩) e.length ecap) ∧ w'.cell? ⟨eb, k.toNat * 3 + 1, none⟩ = some (.int .i64 (rd_T53 e k).f1) ∧ w'.cell? ⟨eb, k.toNat * 3 + 2, none⟩ = some (.int .i64 (rd_T53 e k).f2)) ((simp [*, World.cell?_setCell_far, World.cell?_setCell_other])) (fail)
    have H1 := Aside0.mk (MAt.drew HS.out.1)
    have HG := Aside0.mk (grown_drew HS.out.2)
    generalize (w.setCell ⟨eb, (rd_T53 e k).f1.toNat * 3 + 2, none⟩ (.int .i64 (rd_T53 e k).f2)).drew = w1 at H1 HG ⊢
    clear HS H g0 g1 g2 ek0 ek1 ek2 ekf ep0 ep1 ep2 epf hf hn1 hn2 hn3 hge
    generalize hE1 : m_drop1 e k = e1 at H1 hk1' hq0 hqk
    have HE1 := Aside0.mk hE1
    clear hE1
    go_wp2_with fail
    obtain ⟨g0, g1, g2⟩ := H1.out.cells
    obtain ⟨ek0, ek1, ek2, ekf⟩ := ent_cells H1.out k hk0 hk1'
    have hge := (H1.out.hne (by omega)).1
    have hn1 : ¬ (eb = g) := fun h => hge h.symm
    by_cases c2 : (rd_T53 e1 k).f2 < e1.length
    · go_quiet (fail)
      have H2 := Aside0.mk (H1.out.drewN nq)
      have HG2 := Aside0.mk (grown_drewN HG.out nq)
      generalize w1.drewN nq = w2 at H2 HG2 ⊢
      clear H1 HG g0 g1 g2 ek0 ek1 ek2 ekf
      obtain ⟨g0, g1, g2⟩ := H2.out.cells
      obtain ⟨ek0, ek1, ek2, ekf⟩ := ent_cells H2.out k hk0 hk1'
      obtain ⟨eq0, eq1, eq2, eqf⟩ := ent_cells H2.out _ hq0 c2
      have hf := eqf 1
      have hn2 : ¬ ((rd_T53 e1 k).f2.toNat * 3 + 1 = k.toNat * 3 + 2) := by omega
      have hn3 : ¬ ((rd_T53 e1 k).f2.toNat = k.toNat) := by omega
      have HS := Aside0.mk (MAt.store H2.out _ hq0 c2 1 (by omega) (rd_T53 e1 k).f1 ⟨(rd_T53 e1 (rd_T53 e1 k).f2).f0, (rd_T53 e1 k).f1, (rd_T53 e1 (rd_T53 e1 k).f2).f2⟩ rfl)
      have he2 : m_drop2 e1 k = e1.set (rd_T53 e1 k).f2.toNat ⟨(rd_T53 e1 (rd_T53 e1 k).f2).f0, (rd_T53 e1 k).f1, (rd_T53 e1 (rd_T53 e1 k).f2).f2⟩ := if_pos c2
      rw [← he2] at HS
      clear he2
      go_wp2_with fail
      go_region_held3 (fun w' => w'.cell? ⟨g, 1, none⟩ = some (.slice (some ⟨eb, 0, none⟩) e1.length ecap) ∧ w'.cell? ⟨eb, k.toNat * 3 + 1, none⟩ = some (.int .i64 (rd_T53 e1 k).f1) ∧ w'.cell? ⟨eb, k.toNat * 3 + 2, none⟩ = some (.int .i64 (rd_T53 e1 k).f2)) ((simp [*, World.cell?_setCell_far, World.cell?_setCell_other])) (fail)
      have H3 := Aside0.mk (MAt.drew HS.out.1)
      have HG3 := Aside0.mk (grown_drew (World.grownBy.trans HG2.out HS.out.2))
      generalize (w2.setCell ⟨eb, (rd_T53 e1 k).f2.toNat * 3 + 1, none⟩ (.int .i64 (rd_T53 e1 k).f1)).drew = w3 at H3 HG3 ⊢
      clear HS H2 HG2 g0 g1 g2 ek0 ek1 ek2 ekf eq0 eq1 eq2 eqf hf hn2 hn3
      have hk2' : k < (m_drop2 e1 k).length := by rw [m_drop2_len]; exact hk1'
      generalize hE2 : m_drop2 e1 k = e2 at H3 hk2'
      have HE2 := Aside0.mk hE2
      clear hE2
      obtain ⟨g0, g1, g2⟩ := H3.out.cells
      obtain ⟨ek0, ek1, ek2, ekf⟩ := ent_cells H3.out k hk0 hk2'
      have hf : w3.frozen? ⟨eb, k.toNat * 3, none⟩ = false := ekf 0
      have HS := Aside0.mk (MAt.store H3.out _ hk0 hk2' 0 (by omega) 0 ⟨0, (rd_T53 e2 k).f1, (rd_T53 e2 k).f2⟩ rfl)
      go_wp2_with fail
      go_end0
      exact ⟨rfl, by unfold m_drop; rw [HE1.out, HE2.out]; exact HS.out.1, World.grownBy.trans HG3.out HS.out.2⟩
    · go_quiet (fail)
      have H2 := Aside0.mk (H1.out.drewN nq)
      have HG2 := Aside0.mk (grown_drewN HG.out nq)
      generalize w1.drewN nq = w2 at H2 HG2 ⊢
      clear H1 HG g0 g1 g2 ek0 ek1 ek2 ekf
      have HE2 := Aside0.mk (show m_drop2 e1 k = e1 from if_neg c2)
      obtain ⟨g0, g1, g2⟩ := H2.out.cells
      obtain ⟨ek0, ek1, ek2, ekf⟩ := ent_cells H2.out k hk0 hk1'
      have hf : w2.frozen? ⟨eb, k.toNat * 3, none⟩ = false := ekf 0
      have HS := Aside0.mk (MAt.store H2.out _ hk0 hk1' 0 (by omega) 0 ⟨0, (rd_T53 e1 k).f1, (rd_T53 e1 k).f2⟩ rfl)
      go_wp2_with fail
      go_end0
      exact ⟨rfl, by unfold m_drop; rw [HE1.out, HE2.out]; exact HS.out.1, World.grownBy.trans HG2.out HS.out.2⟩

  · have he1 : m_drop1 e k = e := if_neg c1
    rw [he1] at hk1' hq0 hqk
    have HE1 := Aside0.mk he1
    clear he1
    have H1 := H
    have HG := Aside0.mk (World.grownBy.refl w (some eb))
    go_enter Try.func25, Try.ntmps25
    clear g0 g1 g2 ekf
    obtain ⟨g0, g1, g2⟩ := H1.out.cells
    go_wp2_with fail
    clear g0 g1 g2 ek0 ek1 ek2
    obtain ⟨g0, g1, g2⟩ := H1.out.cells
    obtain ⟨ek0, ek1, ek2, ekf⟩ := ent_cells H1.out k hk0 hk1'
    have hge := (H1.out.hne (by omega)).1
    have hn1 : ¬ (eb = g) := fun h => hge h.symm
    by_cases c2 : (rd_T53 e k).f2 < e.length
    · go_quiet (fail)
      have H2 := Aside0.mk (H1.out.drewN nq)
      have HG2 := Aside0.mk (grown_drewN HG.out nq)
      generalize w.drewN nq = w2 at H2 HG2 ⊢
      clear H1 HG g0 g1 g2 ek0 ek1 ek2 ekf
      obtain ⟨g0, g1, g2⟩ := H2.out.cells
      obtain ⟨ek0, ek1, ek2, ekf⟩ := ent_cells H2.out k hk0 hk1'
      obtain ⟨eq0, eq1, eq2, eqf⟩ := ent_cells H2.out _ hq0 c2
      have hf := eqf 1
      have hn2 : ¬ ((rd_T53 e k).f2.toNat * 3 + 1 = k.toNat * 3 + 2) := by omega
      have hn3 : ¬ ((rd_T53 e k).f2.toNat = k.toNat) := by omega
      have HS := Aside0.mk (MAt.store H2.out _ hq0 c2 1 (by omega) (rd_T53 e k).f1 ⟨(rd_T53 e (rd_T53 e k).f2).f0, (rd_T53 e k).f1, (rd_T53 e (rd_T53 e k).f2).f2⟩ rfl)
      have he2 : m_drop2 e k = e.set (rd_T53 e k).f2.toNat ⟨(rd_T53 e (rd_T53 e k).f2).f0, (rd_T53 e k).f1, (rd_T53 e (rd_T53 e k).f2).f2⟩ := if_pos c2
      rw [← he2] at HS
      clear he2
      go_wp2_with fail
      go_region_held3 (fun w' => w'.cell? ⟨g, 1, none⟩ = some (.slice (some ⟨eb, 0, none⟩) e.length ecap) ∧ w'.cell? ⟨eb, k.toNat * 3 + 1, none⟩ = some (.int .i64 (rd_T53 e k).f1) ∧ w'.cell? ⟨eb, k.toNat * 3 + 2, none⟩ = some (.int .i64 (rd_T53 e k).f2)) ((simp [*, World.cell?_setCell_far, World.cell?_setCell_other])) (fail)
      have H3 := Aside0.mk (MAt.drew HS.out.1)
      have HG3 := Aside0.mk (grown_drew (World.grownBy.trans HG2.out HS.out.2))
      generalize (w2.setCell ⟨eb, (rd_T53 e k).f2.toNat * 3 + 1, none⟩ (.int .i64 (rd_T53 e k).f1)).drew = w3 at H3 HG3 ⊢
      clear HS H2 HG2 g0 g1 g2 ek0 ek1 ek2 ekf eq0 eq1 eq2 eqf hf hn2 hn3
      have hk2' : k < (m_drop2 e k).length := by rw [m_drop2_len]; exact hk1'
      generalize hE2 : m_drop2 e k = e2 at H3 hk2'
      have HE2 := Aside0.mk hE2
      clear hE2
      obtain ⟨g0, g1, g2⟩ := H3.out.cells
      obtain ⟨ek0, ek1, ek2, ekf⟩ := ent_cells H3.out k hk0 hk2'
      have hf : w3.frozen? ⟨eb, k.toNat * 3, none⟩ = false := ekf 0
      have HS := Aside0.mk (MAt.store H3.out _ hk0 hk2' 0 (by omega) 0 ⟨0, (rd_T53 e2 k).f1, (rd_T53 e2 k).f2⟩ rfl)
      go_wp2_with fail
      go_end0
      exact ⟨rfl, by unfold m_drop; rw [HE1.out, HE2.out]; exact HS.out.1, World.grownBy.trans HG3.out HS.out.2⟩
    · go_quiet (fail)
      have H2 := Aside0.mk (H1.out.drewN nq)
      have HG2 := Aside0.mk (grown_drewN HG.out nq)
      generalize w.drewN nq = w2 at H2 HG2 ⊢
      clear H1 HG g0 g1 g2 ek0 ek1 ek2 ekf
      have HE2 := Aside0.mk (show m_drop2 e k = e from if_neg c2)
      obtain ⟨g0, g1, g2⟩ := H2.out.cells
      obtain ⟨ek0, ek1, ek2, ekf⟩ := ent_cells H2.out k hk0 hk1'
      have hf : w2.frozen? ⟨eb, k.toNat * 3, none⟩ = false := ekf 0
      have HS := Aside0.mk (MAt.store H2.out _ hk0 hk1' 0 (by omega) 0 ⟨0, (rd_T53 e k).f1, (rd_T53 e k).f2⟩ rfl)
      go_wp2_with fail
      go_end0
      exact ⟨rfl, by unfold m_drop; rw [HE1.out, HE2.out]; exact HS.out.1, World.grownBy.trans HG2.out HS.out.2⟩

end Go.Proofs.Ytclondmclehiiaa.P
