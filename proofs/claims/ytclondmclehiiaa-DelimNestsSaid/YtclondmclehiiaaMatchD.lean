/- The matcher's method pair: the call comes to a plain Lean function of the runs and the entries. -/
import Derived.Test.YtclondmclehiiaaPk0
import Derived.Test.YtclondmclehiiaaMatchB
import Derived.Deep.DeepCutAuto
import Derived.Deep.LoopGhost
namespace Go.Proofs.Ytclondmclehiiaa.P
open Go.RowKit Go.Proofs.YtclondmclehiiaaW.PrintWords Go.Proofs.YtclondmclehiiaaW.PrintLast Go.Proofs.YtclondmclehiiaaW.PrintMore Go.Proofs.Ytclondmclehiiaa.M
attribute [local go_sem] max2_int min2_int max_two min_two max_three min_three max_four min_four World.cell?_alloc_some World.cell?_setCell_far
set_option linter.unusedVariables false
set_option linter.unusedSimpArgs false

def dropOk (e : List S53) (p : Int) : Prop := (0 ≤ p ∧ p < e.length) ∧ (rd_T53 e p).f1 < e.length ∧ (rd_T53 e p).f1 ≠ p ∧ (rd_T53 (m_drop1 e p) p).f2 ≠ p ∧ 0 ≤ (rd_T53 (m_drop1 e p) p).f2
instance (e : List S53) (p : Int) : Decidable (dropOk e p) := by unfold dropOk; infer_instance
def m_dropO (e : List S53) (p : Int) : Option (List S53) := if dropOk e p then some (m_drop e p) else none
def m_unlink (k j : Int) : Nat → List S53 → Option (List S53)
  | 0, _ => none
  | n + 1, e => if (rd_T53 e k).f1 = j then some e else (m_dropO e (rd_T53 e k).f1).bind (m_unlink k j n)
def m_sub (e : List S53) (x n : Int) : List S53 := e.set x.toNat ⟨wrap64 ((rd_T53 e x).f0 - n), (rd_T53 e x).f1, (rd_T53 e x).f2⟩
def m_pair (l : List S28) (n : Nat) (e : List S53) (j k : Int) : Option (List S53) :=
  (m_unlink k j n e).bind fun e1 =>
    if (rd_T53 (m_sub (m_sub e1 j (m_size l e j k)) k (m_size l e j k)) j).f0 = 0 then m_dropO (m_sub (m_sub e1 j (m_size l e j k)) k (m_size l e j k)) j
    else some (m_sub (m_sub e1 j (m_size l e j k)) k (m_size l e j k))
theorem m_drop_len (e : List S53) (k : Int) : (m_drop e k).length = e.length := by unfold m_drop m_drop3; rw [List.length_set, m_drop2_len, m_drop1_len]
theorem m_dropO_len {e e' : List S53} {p : Int} (h : m_dropO e p = some e') : e'.length = e.length := by
  unfold m_dropO at h
  split at h
  · cases h; exact m_drop_len _ _
  · cases h
theorem m_sub_len (e : List S53) (x n : Int) : (m_sub e x n).length = e.length := by unfold m_sub; rw [List.length_set]

theorem m_unlink_len {k j : Int} : ∀ {n : Nat} {e e' : List S53}, m_unlink k j n e = some e' → e'.length = e.length
  | 0, _, _, h => by cases h
  | n + 1, e, e', h => by
    simp only [m_unlink] at h
    split at h
    · cases h; rfl
    · obtain ⟨e2, h1, h2⟩ := Option.bind_eq_some_iff.mp h
      exact (m_unlink_len h2).trans (m_dropO_len h1)
theorem m_pair_len {l : List S28} {n : Nat} {e e' : List S53} {j k : Int} (h : m_pair l n e j k = some e') : e'.length = e.length := by
  unfold m_pair at h
  obtain ⟨e1, h1, h⟩ := Option.bind_eq_some_iff.mp h
  have h2 := m_unlink_len h1
  split at h
  · rw [m_dropO_len h, m_sub_len, m_sub_len, h2]
  · cases h
    rw [m_sub_len, m_sub_len, h2]
theorem MAt.typed {w : World} {B g eb mb ecap : Nat} {A : Option Addr} {c : Nat} {l : List S28} {e : List S53} {f : Key → Option Int} (h : MAt w B g eb mb ecap A c l e f) (hp : 0 < e.length) : ∃ cs, w.heap[eb]? = some (.cells cs 53 (0, 0)) := by
  obtain ⟨_, cap', hv, _, _, cs, hcs⟩ := Kd.R_form h.ents hp
  injection hv with hv1 _ _
  injection hv1 with hv1
  injection hv1 with hv1
  subst hv1
  exact ⟨cs, hcs⟩
theorem MAt.far {w : World} {B g eb mb ecap : Nat} {A : Option Addr} {c : Nat} {l : List S28} {e : List S53} {f : Key → Option Int} (h : MAt w B g eb mb ecap A c l e f) (hp : 0 < e.length) {rb : Nat} {cs : Array Value} (hb : w.heap[rb]? = some (.cells cs 40 (0, 0))) (hB : B ≤ rb) (i : Nat) (u : Value) :
    MAt (w.setCell ⟨rb, i, none⟩ u) B g eb mb ecap A c l e f := by
  obtain ⟨cs', hcs⟩ := h.typed hp
  refine ⟨blk_far h.blk (p := ⟨rb, i, none⟩) (blk_ne h.blk hb (by decide)) u, ?_, ?_, ?_, h.hB, h.harg, h.hl, h.he⟩
  · exact Kd.C_foot_ne (g := rb) (fun h => h) h.runs (fun ad ha hl he => by have := h.harg ad ha hl; omega) _ ⟨by simp [World.setCell], fun i _ hi _ => Below.heap_setCell w _ _ i hi⟩
  · exact Kd.R_set h.ents hb (by decide) i u
  · exact h.map.step (Below.heap_setCell w _ _ mb (fun he => h.map.ne_cells hb he.symm))
theorem grown_far {a w : World} {row : Option Nat} (h : a.grownBy w row) {rb : Nat} (hrb : a.heap.size ≤ rb) (i : Nat) (u : Value) : a.grownBy (w.setCell ⟨rb, i, none⟩ u) row :=
  ⟨h.os, h.tape, h.output, by simpa [World.setCell] using h.size, fun j hj hne => (Below.heap_setCell w _ _ j (by
    rintro rfl
    exact absurd hj (by simp; omega))).trans (h.block j hj hne)⟩
def subAt (e : List S53) (j k sz : Int) : Nat → List S53
  | 0 => e
  | 1 => m_sub e j sz
  | _ => m_sub (m_sub e j sz) k sz
theorem subAt_len (e : List S53) (j k sz : Int) (i : Nat) : (subAt e j k sz i).length = e.length := by
  match i with
  | 0 => rfl
  | 1 => exact m_sub_len _ _ _
  | _ + 2 => exact (m_sub_len _ _ _).trans (m_sub_len _ _ _)
def pickAt (j k : Int) : Nat → Int
  | 0 => j
  | _ => k
theorem subAt_succ (e : List S53) (j k sz : Int) (i : Nat) (h : i < 2) : subAt e j k sz (i + 1) = m_sub (subAt e j k sz i) (pickAt j k i) sz := by
  match i, h with
  | 0, _ => rfl
  | 1, _ => rfl

set_option maxRecDepth 100000 in
set_option maxHeartbeats 8000000 in
theorem pair_calls {w : World} {B g eb mb ecap : Nat} {A : Option Addr} {c : Nat} {l : List S28} {e : List S53} {f : Key → Option Int} (h : MAt w B g eb mb ecap A c l e f) (j k : Int) (hj0 : 0 ≤ j) (hj1 : j < e.length) (hk0 : 0 ≤ k) (hk1 : k < e.length) (hle : l.length = e.length)
    (n : Nat) (e' : List S53) (hr : m_pair l n e j k = some e') :
    Calls Try.prog 23 #[.pointer (some ⟨g, 0, none⟩), .int .i64 j, .int .i64 k] w fun en w' => en = .returned (.agg #[.int .i64 j, .int .i64 k, .int .i64 (m_size l e j k)]) ∧ MAt w' B g eb mb ecap A c l e' f ∧ w.grownBy w' (some eb) := by
  have hsz := fun w' (h' : MAt w' B g eb mb ecap A c l e f) => size_calls h' j k hj0 hj1 hk0 hk1 (by omega)
  have H := Aside0.mk h
  have HSZ := Aside0.mk hsz
  have hlen := h.he
  have hu40 := Try.underlying40
  unfold m_pair at hr
  obtain ⟨e1, hun, hr2⟩ := Option.bind_eq_some_iff.mp hr
  have HR := Aside0.mk hr2
  have HU := Aside0.mk hun
  clear h hsz hr hr2 hun
  generalize m_size l e j k = sz at *
  go_enter Try.func23, Try.ntmps23
  go_wp2_with fail
  refine (HSZ.out _ (H.out.below (below_alloc (Below.refl _ _) _))).mono ?_
  rintro en w1 ⟨rfl, hw1⟩
  have H1 := Aside0.mk (H.out.below (w1 := w1) (by rw [← hw1]; exact below_alloc (Below.refl _ _) _))
  have hbk : w1.heap[w.heap.size]? = some (.cells #[.int .i64 0, .int .i64 0, .int .i64 0] 40 (0, 0)) := by rw [← hw1]; exact blk_new w _
  have HG := Aside0.mk (show w.grownBy w1 (some eb) by rw [← hw1]; exact World.grownBy_alloc w _ _)
  have HBK := Aside0.mk hbk
  have HBW0 := Aside0.mk (show B ≤ w.heap.size by
    obtain ⟨cs, hcs⟩ := H.out.typed (by omega)
    have h1 := (H.out.hne (by omega)).2.2
    have h2 := blk_lt hcs
    omega)
  clear hbk hw1 H HSZ
  obtain ⟨rb, hrb⟩ : ∃ rb, rb = w.heap.size := ⟨_, rfl⟩
  rw [← hrb] at HBK ⊢
  have hrw : w.heap.size ≤ rb := by omega
  have HBW := Aside0.mk (show B ≤ rb by have := HBW0.out; omega)
  clear HBW0
  clear hrb
  go_wp2_with fail
  have hel : (e.length : Int) ≤ 9223372036854775807 := by omega
  go_loopg [14] n (fun kq v14 w' => ∃ e0 : List S53, Aside0 (e0.length = e.length) ∧ Aside0 (m_unlink k j kq e0 = some e1) ∧ Aside0 (MAt w' B g eb mb ecap A c l e0 f) ∧ Aside0 (w.grownBy w' (some eb)) ∧
    Aside0 (w'.heap[rb]? = some (.cells #[.int .i64 0, .int .i64 0, .int .i64 0] 40 (0, 0))))
  case atStart => exact ⟨e, ⟨rfl⟩, HU, H1, HG, HBK⟩
  case round =>
    clear HU H1 HG HBK
    obtain ⟨e0, HL, HU, H1, HG, HBK⟩ := hrel
    cases gk with
    | zero => exact absurd HU.out (by simp [m_unlink])
    | succ gk =>
      have hk2 : k < (e0.length : Int) := by rw [HL.out]; exact hk1
      obtain ⟨g0, g1, g2⟩ := H1.out.cells
      obtain ⟨ek0, ek1, ek2, ekf⟩ := ent_cells H1.out k hk0 hk2
      clear ekf
      have hr := HU.out
      clear HU
      simp only [m_unlink] at hr
      by_cases c1 : (rd_T53 e0 k).f1 = j
      · rw [if_pos c1] at hr
        obtain rfl := Option.some.inj hr
        have c1b : ((rd_T53 e0 k).f1 != j) = false := bne_eq_false_iff_eq.mpr c1
        clear c1 hr
        go_wp2_with fail
        have hlit : (wr.alloc (.cells #[.int .i64 j, .int .i64 k] 3)).heap[wr.heap.size]? = some (.cells #[.int .i64 j, .int .i64 k] 3 (0, 0)) := blk_new wr _
        have HLIT := Aside0.mk hlit
        have H2 := Aside0.mk (H1.out.below (below_alloc (Below.refl _ _) (.cells #[.int .i64 j, .int .i64 k] 3)))
        have HG2 := Aside0.mk (World.grownBy.trans HG.out (World.grownBy_alloc wr (.cells #[.int .i64 j, .int .i64 k] 3) (some eb)))
        have HBK2 := Aside0.mk (blk_alloc HBK.out (.cells #[.int .i64 j, .int .i64 k] 3))
        clear hlit H1 HG HBK g0 g1 g2 ek0 ek1 ek2
        generalize hw2 : wr.alloc (.cells #[.int .i64 j, .int .i64 k] 3) = w2 at HLIT H2 HG2 HBK2 ⊢
        clear hw2
        obtain ⟨lb, hlb⟩ : ∃ lb, lb = wr.heap.size := ⟨_, rfl⟩
        rw [← hlb] at HLIT ⊢
        clear hlb
        go_loopw [38] (fun v38 wq => ∃ i : Nat, i ≤ 2 ∧ v38 = .int .i64 i ∧ Aside0 (MAt wq B g eb mb ecap A c l (subAt e0 j k sz i) f) ∧ Aside0 (w.grownBy wq (some eb)) ∧
          Aside0 (wq.heap[rb]? = some (.cells #[.int .i64 0, .int .i64 0, .int .i64 0] 40 (0, 0))) ∧ Aside0 (wq.heap[lb]? = some (.cells #[.int .i64 j, .int .i64 k] 3 (0, 0)))) (fun v38 _ => 2 - (intOf v38).toNat)
        case atStart => exact ⟨0, by omega, rfl, H2, HG2, HBK2, HLIT⟩
        case round =>
          clear H2 HG2 HBK2 HLIT
          obtain ⟨i, hi, rfl, H2, HG2, HBK2, HLIT⟩ := hrel
          by_cases hlt : i < 2
          · have hx : wr.cell? ⟨lb, i, none⟩ = some (.int .i64 (pickAt j k i)) := by
              rw [blk_cell HLIT.out]
              match i, hlt with
              | 0, _ => rfl
              | 1, _ => rfl
            have hx0 : 0 ≤ pickAt j k i := by
              match i, hlt with
              | 0, _ => exact hj0
              | 1, _ => exact hk0
            have hx1 : pickAt j k i < ((subAt e0 j k sz i).length : Int) := by
              rw [subAt_len, HL.out]
              match i, hlt with
              | 0, _ => exact hj1
              | 1, _ => exact hk1
            have HSUC := Aside0.mk (subAt_succ e0 j k sz i hlt)
            generalize pickAt j k i = x at *
            obtain ⟨g0, g1, g2⟩ := H2.out.cells
            obtain ⟨ex0, ex1, ex2, exf⟩ := ent_cells H2.out x hx0 hx1
            have hf : wr.frozen? ⟨eb, x.toNat * 3, none⟩ = false := exf 0
            clear exf
            have HS := Aside0.mk (MAt.store H2.out x hx0 hx1 0 (by omega) (wrap64 ((rd_T53 (subAt e0 j k sz i) x).f0 - sz)) ⟨wrap64 ((rd_T53 (subAt e0 j k sz i) x).f0 - sz), (rd_T53 (subAt e0 j k sz i) x).f1, (rd_T53 (subAt e0 j k sz i) x).f2⟩ rfl)
            have hx9 : x < 9223372036854775807 := by have := H2.out.he; omega
            obtain ⟨cs, hcs⟩ := H2.out.typed (by omega)
            have hrb := blk_ne HBK2.out hcs (by decide)
            have hlb := blk_ne HLIT.out hcs (by decide)
            have HS2 := Aside0.mk (World.grownBy.trans HG2.out HS.out.2)
            have HBK3 := Aside0.mk (blk_grown HBK2.out HS.out.2 (by simp [hrb]))
            have HLIT3 := Aside0.mk (blk_grown HLIT.out HS.out.2 (by simp [hlb]))
            clear hcs HBK2 HLIT hrb hlb
            go_wp2_with fail
            go_roundw
            case rel => exact ⟨i + 1, by omega, by go_num, ⟨by rw [HSUC.out]; exact HS.out.1⟩, HS2, HBK3, HLIT3⟩
            case measure => simp [intOf]; omega
          · obtain rfl : i = 2 := by omega
            have hj3 : j < ((subAt e0 j k sz 2).length : Int) := by rw [subAt_len, HL.out]; exact hj1
            have hr : (if (rd_T53 (subAt e0 j k sz 2) j).f0 = 0 then m_dropO (subAt e0 j k sz 2) j else some (subAt e0 j k sz 2)) = some e' := HR.out
            clear HR HL HLIT
            generalize subAt e0 j k sz 2 = e3 at *
            obtain ⟨g0, g1, g2⟩ := H2.out.cells
            obtain ⟨ej0, ej1, ej2, ejf⟩ := ent_cells H2.out j hj0 hj3
            clear ejf
            obtain ⟨cs, hcs⟩ := H2.out.typed (by omega)
            have hrb := blk_ne HBK2.out hcs (by decide)
            clear hcs
            by_cases c4 : (rd_T53 e3 j).f0 = 0
            · rw [if_pos c4] at hr
              have c4b : ((rd_T53 e3 j).f0 == 0) = true := beq_iff_eq.mpr c4
              clear c4
              unfold m_dropO at hr
              by_cases c2 : dropOk e3 j
              · rw [if_pos c2] at hr
                obtain rfl := Option.some.inj hr
                have C2 := Aside0.mk c2
                clear hr c2
                go_wp2_with fail
                refine (drop_calls H2.out _ C2.out.1.1 C2.out.1.2 C2.out.2.1 C2.out.2.2.1 C2.out.2.2.2.1 C2.out.2.2.2.2).mono ?_
                rintro en w3 ⟨rfl, h3, hg3⟩
                have H3 := Aside0.mk h3
                have HG3 := Aside0.mk (World.grownBy.trans HG2.out hg3)
                have HBK3 := Aside0.mk (blk_grown HBK2.out hg3 (by simp [hrb]))
                clear h3 hg3 H2 HG2 HBK2 g0 g1 g2 ej0 ej1 ej2
                have hc0 := blk_cell HBK3.out 0
                have hc1 := blk_cell HBK3.out 1
                have hc2 := blk_cell HBK3.out 2
                have hf0 := blk_frozen HBK3.out
                go_wp2_with fail
                refine bodyPost_ret (v := .agg #[.int .i64 j, .int .i64 k, .int .i64 sz]) (by simp [results, Try.results23, go_sem, hu40, hc0, hc1, hc2]) rfl ⟨rfl, ?_, ?_⟩
                · exact MAt.far (MAt.far (MAt.far H3.out (by rw [m_drop_len]; omega) HBK3.out HBW.out 0 _) (by rw [m_drop_len]; omega) (blk_set HBK3.out 0 _) HBW.out 1 _) (by rw [m_drop_len]; omega) (blk_set (blk_set HBK3.out 0 _) 1 _) HBW.out 2 _
                · exact grown_far (grown_far (grown_far HG3.out hrw _ _) hrw _ _) hrw _ _
              · rw [if_neg c2] at hr
                cases hr
            · rw [if_neg c4] at hr
              have c4b : ((rd_T53 e3 j).f0 == 0) = false := beq_eq_false_iff_ne.mpr c4
              obtain rfl := Option.some.inj hr
              clear c4 hr
              have hc0 := blk_cell HBK2.out 0
              have hc1 := blk_cell HBK2.out 1
              have hc2 := blk_cell HBK2.out 2
              have hf0 := blk_frozen HBK2.out
              go_wp2_with fail
              refine bodyPost_ret (v := .agg #[.int .i64 j, .int .i64 k, .int .i64 sz]) (by simp [results, Try.results23, go_sem, hu40, hc0, hc1, hc2]) rfl ⟨rfl, ?_, ?_⟩
              · exact MAt.far (MAt.far (MAt.far H2.out (by omega) HBK2.out HBW.out 0 _) (by omega) (blk_set HBK2.out 0 _) HBW.out 1 _) (by omega) (blk_set (blk_set HBK2.out 0 _) 1 _) HBW.out 2 _
              · exact grown_far (grown_far (grown_far HG2.out hrw _ _) hrw _ _) hrw _ _
      · rw [if_neg c1] at hr
        have c1b : ((rd_T53 e0 k).f1 != j) = true := bne_iff_ne.mpr c1
        obtain ⟨e2, hd, hr⟩ := Option.bind_eq_some_iff.mp hr
        have HU := Aside0.mk hr
        have hl2 := m_dropO_len hd
        unfold m_dropO at hd
        by_cases c2 : dropOk e0 (rd_T53 e0 k).f1
        · rw [if_pos c2] at hd
          obtain rfl := Option.some.inj hd
          clear hd c1 hr
          have C2 := Aside0.mk c2
          have HL2 := Aside0.mk (hl2.trans HL.out)
          clear c2 hl2
          go_wp2_with fail
          refine (drop_calls H1.out _ C2.out.1.1 C2.out.1.2 C2.out.2.1 C2.out.2.2.1 C2.out.2.2.2.1 C2.out.2.2.2.2).mono ?_
          rintro en w2 ⟨rfl, h2, hg2⟩
          have hne := (H1.out.hne (by omega)).2.2
          obtain ⟨_, cap', hv, _, _, cs, hcs⟩ := Kd.R_form H1.out.ents (by omega)
          injection hv with hv1 _ _
          injection hv1 with hv1
          injection hv1 with hv1
          subst hv1
          have hrb := blk_ne HBK.out hcs (by decide)
          have H2 := Aside0.mk h2
          have HG2 := Aside0.mk (World.grownBy.trans HG.out hg2)
          have HBK2 := Aside0.mk (blk_grown HBK.out hg2 (by simp [hrb]))
          clear h2 hg2 hcs HBK HG H1 hne
          go_wp2_with fail
          go_roundg gk
          case rel => exact ⟨_, HL2, HU, H2, HG2, HBK2⟩
          case measure => omega
        · rw [if_neg c2] at hd
          cases hd
end Go.Proofs.Ytclondmclehiiaa.P
