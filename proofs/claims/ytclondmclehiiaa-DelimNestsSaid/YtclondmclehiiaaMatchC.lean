/- The matcher's method opener: the call comes to a plain Lean function of the runs, the entries and the map. -/
import Derived.Test.YtclondmclehiiaaPk0
import Derived.Test.YtclondmclehiiaaPk1
import Derived.Test.YtclondmclehiiaaMatchB
import Derived.Deep.DeepCutAuto
import Derived.Deep.LoopGhost
namespace Go.Proofs.Ytclondmclehiiaa.P
open Go.RowKit Go.Proofs.YtclondmclehiiaaW.PrintWords Go.Proofs.YtclondmclehiiaaW.PrintLast Go.Proofs.YtclondmclehiiaaW.PrintMore Go.Proofs.Ytclondmclehiiaa.M
attribute [local go_sem] max2_int min2_int max_two min_two max_three min_three max_four min_four World.cell?_alloc_some World.cell?_setCell_far
set_option linter.unusedVariables false
set_option linter.unusedSimpArgs false

theorem blk_two_0 (w : World) (o1 o2 : Obj) : ((w.alloc o1).alloc o2).drew.heap[w.heap.size]? = some o1 := blk_drew (blk_alloc (blk_new w o1) o2)
theorem blk_two_1 (w : World) (o1 o2 : Obj) : ((w.alloc o1).alloc o2).drew.heap[w.heap.size + 1]? = some o2 := by
  have h := blk_new (w.alloc o1) o2
  rw [World.size_alloc] at h
  exact blk_drew h
theorem laidOut_ : laidOutB Try.prog = true := by kernel_rfl
theorem key_law : Go.Maps.Keyed Try.prog 57 := Go.Maps.Keyed.of_law (deep_law_gate laidOut_ (of_decide_eq_true (by kernel_rfl)) (of_decide_eq_true (by kernel_rfl)) (by kernel_rfl) (by kernel_rfl))
theorem zero3 (w : World) : (zeroValue 3).run Try.prog w = .ok (.int .i64 0) w := by kernel_rfl
theorem i64_inj (v v' : Int) (h : Value.int .i64 v = Value.int .i64 v') : v = v' := by injection h

def fitsB (a b : S28) : Bool := (delim_fits.f a.f0 a.f1 a.f2 a.f3 b.f0 b.f1 b.f2 b.f3).getD false
theorem fits_some (a b : S28) : delim_fits.f a.f0 a.f1 a.f2 a.f3 b.f0 b.f1 b.f2 b.f3 = some (fitsB a b) := by
  have h : ∃ r, delim_fits.f a.f0 a.f1 a.f2 a.f3 b.f0 b.f1 b.f2 b.f3 = some r := by
    unfold delim_fits.f
    repeat' split
    all_goals exact ⟨_, rfl⟩
  obtain ⟨r, hr⟩ := h
  unfold fitsB
  rw [hr]
  rfl

def m_fits (l : List S28) (e : List S53) (j k : Int) : Bool :=
  if (rd_T28 l j).f0 = (rd_T28 l k).f0 then (if (rd_T28 l j).f2 = true then (if (rd_T53 e j).f0 < 1 then false else
    (if (rd_T28 l k).f0 = 126 then decide ((rd_T53 e j).f0 = (rd_T53 e k).f0) else fitsB (rd_T28 l j) (rd_T28 l k))) else false) else false
def m_open (l : List S28) (e : List S53) (low k : Int) : Nat → Int → Option Int
  | 0, _ => none
  | n + 1, j => if low < j then (if m_fits l e j k = true then some j else m_open l e low k n (rd_T53 e j).f1) else some (-1)
def m_low (f : Key → Option Int) (key : Key) : Int := (f key).getD (-1)

set_option maxRecDepth 100000 in
set_option maxHeartbeats 8000000 in
theorem opener_calls {w : World} {B g eb mb ecap : Nat} {A : Option Addr} {c : Nat} {l : List S28} {e : List S53} {f : Key → Option Int} (h : MAt w B g eb mb ecap A c l e f) (k : Int) (hk0 : 0 ≤ k) (hk1 : k < e.length) (hle : l.length = e.length)
    (hprev : ∀ i : Int, 0 ≤ i → i < e.length → (rd_T53 e i).f1 < e.length) (hkey : ∃ lit, keyOf Try.prog 57 (encK (m_of l e k)) = some lit) (hlow : -1 ≤ m_low f (m_of l e k))
    (n : Nat) (r : Int) (hr : m_open l e (m_low f (m_of l e k)) k n (rd_T53 e k).f1 = some r) :
    Calls Try.prog 22 #[.pointer (some ⟨g, 0, none⟩), .int .i64 k] w fun e' w' => e' = .returned (.int .i64 r) ∧ Below w.heap.size w w' := by
  have hlook : ∀ w' : World, MAt w' B g eb mb ecap A c l e f → (Instr.lookup 48 (.map (some mb)) (encK (m_of l e k)) true).run Try.prog w' = .ok (.tuple #[((f (m_of l e k)).map (Value.int .i64)).getD (.int .i64 0), .bool (f (m_of l e k)).isSome]) w' :=
    fun w' h' => MapF.look key_law Try.underlying48 encK_inj i64_inj (zero3 w') h'.map (m_of l e k) hkey true
  have hof := fun w' (h' : MAt w' B g eb mb ecap A c l e f) => of_calls h' k hk0 hk1 (by omega)
  obtain ⟨g0, g1, g2⟩ := h.cells
  have H := Aside0.mk h
  have HR := Aside0.mk hr
  have HLE := Aside0.mk hle
  have HPR := Aside0.mk hprev
  have HOF := Aside0.mk hof
  have HLK := Aside0.mk hlook
  clear h hr hle hprev hof hlook
  generalize m_of l e k = kv at *
  go_enter Try.func22, Try.ntmps22
  go_wp2_with fail
  go_region_held3 (fun w' => w'.cell? ⟨g, 2, none⟩ = some (.map (some mb)) ∧ (Instr.lookup 48 (.map (some mb)) (encK kv) true).run Try.prog w' = .ok (.tuple #[((f kv).map (Value.int .i64)).getD (.int .i64 0), .bool (f kv).isSome]) w' ∧ MAt w' B g eb mb ecap A c l e f)
    ((refine ⟨?_, ?_, ?_⟩ <;> first | exact HLK.out _ H.out.drew | exact H.out.drew | exact H.out.drew.cells.2.2 | exact HLK.out _ (H.out.drew.below hb1) | exact H.out.drew.below hb1 | exact (H.out.drew.below hb1).cells.2.2)) ((go_at_call 24; refine (HOF.out _ H.out.drew).mono ?_; rintro e' w1 ⟨rfl, hb1⟩))
  have H1 := Aside0.mk (H.out.drew.below hb1)
  have HB1 := Aside0.mk (show Below w.heap.size w w1 from (below_drew (Below.refl _ _)).trans hb1)
  clear hb1 g0 g1 g2 H HOF HLK
  obtain ⟨g0, g1, g2⟩ := H1.out.cells
  obtain ⟨ek0, ek1, ek2, ekf⟩ := ent_cells H1.out k hk0 hk1
  have hlen : (e.length : Int) ≤ 9223372036854775807 := by have := H1.out.he; omega
  have hlow' : ∃ low, low = m_low f kv := ⟨_, rfl⟩
  obtain ⟨low, hlw⟩ := hlow'
  rw [← hlw] at HR hlow
  have HLW := Aside0.mk hlw
  clear hlw
  go_upto_if 22 with (fail)
  go_cut [5, 6] (fun v5 v6 wc => v5 = .int .i64 low ∧ (∃ b6 : Bool, v6 = .bool b6) ∧ wc = w1)
  case first =>
    cases hf : f kv with
    | none =>
      have hlw2 : low = -1 := by rw [HLW.out]; unfold m_low; rw [hf]; rfl
      clear hf HLW
      subst hlw2
      go_wp2_with fail
      go_meet
      case rel => exact ⟨rfl, ⟨_, rfl⟩, rfl⟩
    | some v =>
      have hlw2 : low = v := by rw [HLW.out]; unfold m_low; rw [hf]; rfl
      clear hf HLW
      subst hlw2
      go_wp2_with fail
      go_meet
      case rel => exact ⟨rfl, ⟨_, rfl⟩, rfl⟩
  case rest =>
    obtain ⟨rfl, ⟨b6, rfl⟩, rfl⟩ := hcut
    clear HLW
    go_wp2_with fail
    go_loopg [7] n (fun kq v7 w' => ∃ j : Int, v7 = .int .i64 j ∧ j < e.length ∧ Aside0 (m_open l e low k kq j = some r) ∧ Aside0 (MAt w' B g eb mb ecap A c l e f) ∧ Aside0 (Below w.heap.size w w'))
    case atStart => exact ⟨_, rfl, HPR.out _ hk0 hk1, HR, H1, HB1⟩
    case round =>
      clear g0 g1 g2 ek0 ek1 ek2 ekf H1 HB1 HR
      obtain ⟨j, rfl, hj1, HR, H1, HB1⟩ := hrel
      cases gk with
      | zero => exact absurd HR.out (by simp [m_open])
      | succ gk =>
        have hr := HR.out
        clear HR
        simp only [m_open] at hr
        by_cases hlt : low < j
        · rw [if_pos hlt] at hr
          have HR := Aside0.mk hr
          clear hr
          have hj0 : 0 ≤ j := by omega
          have hu28 := Try.underlying28
          go_upto_region 7 with (fail)
          go_cut [8, 9] (fun v8 v9 wc => ∃ g8 g9 : Nat, v8 = .pointer (some ⟨g8, 0, none⟩) ∧ v9 = .pointer (some ⟨g9, 0, none⟩) ∧
            Aside0 (wc.heap[g8]? = some (.cells #[.int .u8 (rd_T28 l j).f0, .int .i64 (rd_T28 l j).f1, .bool (rd_T28 l j).f2, .bool (rd_T28 l j).f3] 28 (0, 0))) ∧
            Aside0 (wc.heap[g9]? = some (.cells #[.int .u8 (rd_T28 l k).f0, .int .i64 (rd_T28 l k).f1, .bool (rd_T28 l k).f2, .bool (rd_T28 l k).f3] 28 (0, 0))) ∧ Aside0 (MAt wc B g eb mb ecap A c l e f) ∧ Aside0 (Below w.heap.size w wc))
          case first =>
            obtain ⟨g0, g1, g2⟩ := H1.out.cells
            obtain ⟨ad, hA, hx0, hx1, hx2, hx3⟩ := at_T28 H1.out.runs j hj0 (by rw [HLE.out]; exact hj1)
            obtain ⟨ad', hA', hy0, hy1, hy2, hy3⟩ := at_T28 H1.out.runs k hk0 (by rw [HLE.out]; exact hk1)
            subst hA
            cases hA'
            have n0 := World.new_ne wr _ g0
            have n3 := World.new_ne wr _ hx0
            have n4 := World.new_ne wr _ hy0
            have hjl : j < (l.length : Int) := by rw [HLE.out]; exact hj1
            have hkl : k < (l.length : Int) := by rw [HLE.out]; exact hk1
            go_region_held3 (fun w' => w'.cell? ⟨g, 0, none⟩ = some (.slice (some ad) l.length c) ∧ w'.cell? (ad.add (j.toNat * 4)) = some (.int .u8 (rd_T28 l j).f0) ∧ w'.cell? ⟨(ad.add (j.toNat * 4)).block, (ad.add (j.toNat * 4)).off + 1, none⟩ = some (.int .i64 (rd_T28 l j).f1) ∧ w'.cell? ⟨(ad.add (j.toNat * 4)).block, (ad.add (j.toNat * 4)).off + 2, none⟩ = some (.bool (rd_T28 l j).f2) ∧ w'.cell? ⟨(ad.add (j.toNat * 4)).block, (ad.add (j.toNat * 4)).off + 3, none⟩ = some (.bool (rd_T28 l j).f3) ∧
              w'.cell? (ad.add (k.toNat * 4)) = some (.int .u8 (rd_T28 l k).f0) ∧ w'.cell? ⟨(ad.add (k.toNat * 4)).block, (ad.add (k.toNat * 4)).off + 1, none⟩ = some (.int .i64 (rd_T28 l k).f1) ∧ w'.cell? ⟨(ad.add (k.toNat * 4)).block, (ad.add (k.toNat * 4)).off + 2, none⟩ = some (.bool (rd_T28 l k).f2) ∧ w'.cell? ⟨(ad.add (k.toNat * 4)).block, (ad.add (k.toNat * 4)).off + 3, none⟩ = some (.bool (rd_T28 l k).f3)) (go_keep) (fail)
            all_goals (go_wp2_with fail; go_meet)
            case rel => exact ⟨_, _, rfl, rfl, ⟨blk_two_0 _ _ _⟩, ⟨blk_two_1 _ _ _⟩, ⟨H1.out.below (below_drew (below_alloc (below_alloc (Below.refl _ _) _) _))⟩, ⟨below_drew (below_alloc (below_alloc HB1.out _) _)⟩⟩
            case rel => exact ⟨_, _, rfl, rfl, ⟨blk_two_1 _ _ _⟩, ⟨blk_two_0 _ _ _⟩, ⟨H1.out.below (below_drew (below_alloc (below_alloc (Below.refl _ _) _) _))⟩, ⟨below_drew (below_alloc (below_alloc HB1.out _) _)⟩⟩
          case rest =>
            obtain ⟨g8, g9, rfl, rfl, HB8, HB9, H2, HB2⟩ := hcut
            clear H1 HB1
            obtain ⟨g0, g1, g2⟩ := H2.out.cells
            obtain ⟨ek0, ek1, ek2, ekf⟩ := ent_cells H2.out k hk0 hk1
            obtain ⟨ej0, ej1, ej2, ejf⟩ := ent_cells H2.out j hj0 hj1
            clear ekf ejf ek1 ek2 ej2
            have a0 : wc.cell? ⟨g8, 0, none⟩ = some (.int .u8 (rd_T28 l j).f0) := blk_cell HB8.out 0
            have a1 : wc.cell? ⟨g8, 1, none⟩ = some (.int .i64 (rd_T28 l j).f1) := blk_cell HB8.out 1
            have a2 : wc.cell? ⟨g8, 2, none⟩ = some (.bool (rd_T28 l j).f2) := blk_cell HB8.out 2
            have a3 : wc.cell? ⟨g8, 3, none⟩ = some (.bool (rd_T28 l j).f3) := blk_cell HB8.out 3
            have b0 : wc.cell? ⟨g9, 0, none⟩ = some (.int .u8 (rd_T28 l k).f0) := blk_cell HB9.out 0
            have b1 : wc.cell? ⟨g9, 1, none⟩ = some (.int .i64 (rd_T28 l k).f1) := blk_cell HB9.out 1
            have b2 : wc.cell? ⟨g9, 2, none⟩ = some (.bool (rd_T28 l k).f2) := blk_cell HB9.out 2
            have b3 : wc.cell? ⟨g9, 3, none⟩ = some (.bool (rd_T28 l k).f3) := blk_cell HB9.out 3
            have hnx := HPR.out j hj0 hj1
            have hr := HR.out
            clear HR
            unfold m_fits at hr
            by_cases c1 : (rd_T28 l j).f0 = (rd_T28 l k).f0
            · rw [if_pos c1] at hr
              have c1b : ((rd_T28 l j).f0 != (rd_T28 l k).f0) = false := bne_eq_false_iff_eq.mpr c1
              clear c1
              by_cases c2 : (rd_T28 l j).f2 = true
              · rw [if_pos c2] at hr
                rw [c2] at a2
                have hfs := fits_some (rd_T28 l j) (rd_T28 l k)
                rw [c2] at hfs
                have HF := Aside0.mk hfs
                clear c2 hfs
                by_cases c3 : (rd_T53 e j).f0 < 1
                · rw [if_pos c3, if_neg (by decide)] at hr
                  have c3b : decide ((rd_T53 e j).f0 < 1) = true := decide_eq_true c3
                  have HR := Aside0.mk hr
                  clear hr c3
                  go_wp2_with fail
                  go_roundg gk
                  case rel => exact ⟨_, rfl, hnx, HR, H2, HB2⟩
                  case measure => omega
                · rw [if_neg c3] at hr
                  have c3b : decide ((rd_T53 e j).f0 < 1) = false := decide_eq_false c3
                  clear c3
                  by_cases c4 : (rd_T28 l k).f0 = 126
                  · rw [if_pos c4] at hr
                    have c4b : ((rd_T28 l k).f0 == 126) = true := beq_iff_eq.mpr c4
                    clear c4
                    by_cases c5 : (rd_T53 e j).f0 = (rd_T53 e k).f0
                    · rw [if_pos (decide_eq_true c5)] at hr
                      have c5b : ((rd_T53 e j).f0 != (rd_T53 e k).f0) = false := bne_eq_false_iff_eq.mpr c5
                      clear c5
                      have hjr : j = r := Option.some.inj hr
                      have HJ := Aside0.mk hjr
                      clear hr hjr
                      go_wp2_with fail
                      go_quiet (fail)
                      go_wp2_with fail
                      go_ret
                      exact ⟨ret_i64 HJ.out, pw_below_drewN HB2.out _⟩
                    · rw [if_neg (by simpa using c5)] at hr
                      have c5b : ((rd_T53 e j).f0 != (rd_T53 e k).f0) = true := bne_iff_ne.mpr c5
                      have HR := Aside0.mk hr
                      clear hr c5
                      go_wp2_with fail
                      go_quiet (fail)
                      go_wp2_with fail
                      go_roundg gk
                      case rel => exact ⟨_, rfl, hnx, HR, ⟨H2.out.drewN _⟩, ⟨pw_below_drewN HB2.out _⟩⟩
                      case measure => omega
                  · rw [if_neg c4] at hr
                    have c4b : ((rd_T28 l k).f0 == 126) = false := beq_eq_false_iff_ne.mpr c4
                    clear c4
                    cases hfb : fitsB (rd_T28 l j) (rd_T28 l k) with
                    | true =>
                      rw [hfb] at hr HF
                      clear hfb
                      rw [if_pos rfl] at hr
                      have HJ := Aside0.mk (show j = r from Option.some.inj hr)
                      clear hr
                      go_wp2_with fail
                      go_quiet (fail)
                      go_wp2_with fail
                      refine (delim_fits.calls _ _ _ _ _ _ _ _ true _ HF.out).mono ?_
                      rintro e' w3 ⟨rfl, hb3⟩
                      have HB3 := Aside0.mk (below_step (pw_below_drewN HB2.out nq) hb3)
                      clear hb3
                      go_wp2_with fail
                      go_ret
                      exact ⟨ret_i64 HJ.out, HB3.out⟩
                    | false =>
                      rw [hfb] at hr HF
                      clear hfb
                      rw [if_neg (by decide)] at hr
                      have HR := Aside0.mk hr
                      clear hr
                      go_wp2_with fail
                      go_quiet (fail)
                      go_wp2_with fail
                      refine (delim_fits.calls _ _ _ _ _ _ _ _ false _ HF.out).mono ?_
                      rintro e' w3 ⟨rfl, hb3⟩
                      have HB3 := Aside0.mk (below_step (pw_below_drewN HB2.out nq) hb3)
                      have H3 := Aside0.mk ((H2.out.drewN nq).below hb3)
                      clear hb3 H2 HB2 g0 g1 g2 ej0 ej1 ek0
                      obtain ⟨g0, g1, g2⟩ := H3.out.cells
                      obtain ⟨ej0, ej1, _, _⟩ := ent_cells H3.out j hj0 hj1
                      go_wp2_with fail
                      go_roundg gk
                      case rel => exact ⟨_, rfl, hnx, HR, H3, HB3⟩
                      case measure => omega
              · rw [if_neg c2, if_neg (by decide)] at hr
                have c2f := Bool.eq_false_iff.mpr c2
                rw [c2f] at a2
                have HR := Aside0.mk hr
                clear hr c2 c2f
                go_wp2_with fail
                go_roundg gk
                case rel => exact ⟨_, rfl, hnx, HR, H2, HB2⟩
                case measure => omega
            · rw [if_neg c1, if_neg (by decide)] at hr
              have c1b : ((rd_T28 l j).f0 != (rd_T28 l k).f0) = true := bne_iff_ne.mpr c1
              have HR := Aside0.mk hr
              clear hr c1
              go_wp2_with fail
              go_roundg gk
              case rel => exact ⟨_, rfl, hnx, HR, H2, HB2⟩
              case measure => omega
        · rw [if_neg hlt] at hr
          obtain rfl := Option.some.inj hr
          go_wp2_with fail
          go_ret
          exact ⟨rfl, HB1.out⟩
end Go.Proofs.Ytclondmclehiiaa.P
