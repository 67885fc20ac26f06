/- (*Arena).at, Unlink, Move. -/
import Derived.Test.YtikfbipjlkhgeaaArenaAd
import Derived.Test.YtikfbipjlkhgeaaArenaT
import Derived.WalkMore
import Derived.ScopeJumps
namespace Go.Proofs.Ytikfbipjlkhgeaa.P
open Go.RowKit Go.Proofs.YtikfbipjlkhgeaaW.PrintWords Go.Proofs.YtikfbipjlkhgeaaW.PrintLast Go.Proofs.YtikfbipjlkhgeaaW.PrintMore
set_option linter.unusedVariables false
set_option linter.unusedSimpArgs false
/-- Does top stand at id, or above it? -/
def atF (sl : List S70) : Nat → Int → Int → Bool
  | 0, _, _ => false
  | k + 1, id, top => if id = top then true else if id < 0 then false else atF sl k (rd_T70 sl id).f1 top
/-- Parents are slots, or -1; d falls upward. -/
structure Up (sl : List S70) (d : Nat → Nat) : Prop where
  pr : ∀ i : Nat, i < sl.length → (rd_T70 sl (i : Int)).f1 = -1 ∨ ∃ p : Nat, p < sl.length ∧ (rd_T70 sl (i : Int)).f1 = (p : Int) ∧ d p < d i
def AtOk (sl : List S70) (d : Nat → Nat) (q : Nat) (m : Int) : Prop := (m = -1 ∧ 1 ≤ q) ∨ ∃ j : Nat, m = j ∧ j < sl.length ∧ d j + 2 ≤ q
def atM (d : Nat → Nat) (m : Int) : Nat := if m < 0 then 0 else d m.toNat + 1
theorem at_step {sl : List S70} {d : Nat → Nat} (hu : Up sl d) (j : Nat) (hj : j < sl.length) (top : Int) (q : Nat) (ht : ¬ (j : Int) = top) (hq : d j + 1 ≤ q) (pv : Int) (hpv : pv = (rd_T70 sl (j : Int)).f1) :
    atF sl (q + 1) j top = atF sl q pv top ∧ AtOk sl d q pv ∧ atM d pv < atM d j := by
  refine ⟨by rw [hpv]; conv => lhs; unfold atF; rw [if_neg ht, if_neg (by omega)], ?_⟩
  rcases hu.pr j hj with h | ⟨p, hp, h, hd⟩
  · rw [h] at hpv
    subst hpv
    refine ⟨.inl ⟨rfl, by omega⟩, ?_⟩
    unfold atM
    rw [if_pos (by omega), if_neg (by omega)]
    omega
  · rw [h] at hpv
    subst hpv
    refine ⟨.inr ⟨p, rfl, hp, by omega⟩, ?_⟩
    unfold atM
    rw [if_neg (by omega), if_neg (by omega)]
    simp only [Int.toNat_natCast]
    omega
set_option maxRecDepth 100000 in
set_option maxHeartbeats 8000000 in
theorem at_calls {w : World} {B g : Nat} {sl : List S70} {d : Nat → Nat} (h : Ar w B g sl) (hu : Up sl d) (i : Nat) (hi : i < sl.length) (top : Int) (k : Nat) (hk : d i + 2 ≤ k) :
    Calls Try.prog 59 #[.pointer (some ⟨g, 0, none⟩), .int .i64 i, .int .i64 top] w fun e w' => e = .returned (.bool (atF sl k i top)) ∧ w' = w := by
  have hu70 := Try.underlying70
  have hu73 := Try.underlying73
  obtain ⟨v, rows, h⟩ := h
  obtain ⟨r, cap, rfl, hr, cells, hty⟩ := h.row0 (by omega)
  have g0 : w.cell? ⟨g, 0, none⟩ = some (.slice (some ⟨r, 0, none⟩) sl.length cap) := blk_cell h.blk 0
  have H := Aside0.mk h
  clear h hty
  go_enter Try.func59, Try.ntmps59
  go_wp2_with fail
  refine wp_scope_jumps 0 (fun a' w' => w' = w ∧ ∃ (m : Int) (q : Nat) (u7 u8 u9 u10 u11 u12 u13 u14 u15 u16 u17 u18 u19 u20 u21 : Value), a' = { tmps := #[.pointer (some ⟨g, 0, none⟩), .int .i64 m, .int .i64 top, undef, undef, undef, .bool false, u7, u8, u9, u10, u11, u12, u13, u14, u15, u16, u17, u18, u19, u20, u21], defers := [] } ∧ Aside0 (atF sl q m top = atF sl k i top) ∧ Aside0 (AtOk sl d q m)) (fun a' _ => atM d (intOf (a'.tmps.getD 1 undef))) rfl ?_ ?_
  · by_cases htop : (i : Int) = top
    · have heq : ((i : Int) == top) = true := beq_iff_eq.2 htop
      have hF : atF sl k i top = true := by
        obtain ⟨q', rfl⟩ : ∃ q', k = q' + 1 := ⟨k - 1, by omega⟩
        unfold atF; rw [if_pos htop]
      have HF := Aside0.mk hF
      clear htop hF
      go_wp2_with fail
      go_step3
      go_wp2_with fail
      simp only [Exit.jump]
      go_ret
      exact ⟨by rw [HF.out]; rfl, rfl⟩
    · obtain ⟨q', rfl⟩ : ∃ q', k = q' + 1 := ⟨k - 1, by omega⟩
      have hne : ((i : Int) == top) = false := beq_eq_false_iff_ne.2 htop
      have hge : decide ((i : Int) < 0) = false := decide_eq_false (by omega)
      have hlt : (i : Int) < (sl.length : Int) := by omega
      have h7 := H.out.cell7 i (by omega)
      obtain ⟨pv, hpv⟩ : ∃ pv : Int, pv = (rd_T70 sl (i : Int)).f1 := ⟨_, rfl⟩
      rw [← hpv] at h7
      have HP := Aside0.mk (at_step hu i hi top q' htop (by omega) pv hpv)
      clear hpv
      go_wp2_with fail
      go_step3
      go_wp2_with fail
      go_step3
      exact ⟨rfl, rfl, pv, q', _, _, _, _, _, _, _, _, _, _, _, _, _, _, _, rfl, ⟨HP.out.1.symm⟩, ⟨HP.out.2.1⟩⟩
  · rintro a' w' ⟨rfl, m, q, u7, u8, u9, u10, u11, u12, u13, u14, u15, u16, u17, u18, u19, u20, u21, rfl, HE, HK⟩
    rcases HK.out with ⟨rfl, hq⟩ | ⟨j, rfl, hj, hq⟩
    · obtain ⟨q', rfl⟩ : ∃ q', q = q' + 1 := ⟨q - 1, by omega⟩
      by_cases htop : (-1 : Int) = top
      · have heq : ((-1 : Int) == top) = true := beq_iff_eq.2 htop
        have hF : atF sl (q' + 1) (-1) top = true := by unfold atF; rw [if_pos htop]
        have HF := Aside0.mk hF
        clear hF htop
        go_wp2_with fail
        simp only [Exit.jump]
        go_ret
        exact ⟨by rw [← HE.out, HF.out]; rfl, rfl⟩
      · have heq : ((-1 : Int) == top) = false := beq_eq_false_iff_ne.2 htop
        have hF : atF sl (q' + 1) (-1) top = false := by unfold atF; rw [if_neg htop, if_pos (by omega)]
        have HF := Aside0.mk hF
        clear hF htop
        go_wp2_with fail
        simp only [Exit.jump]
        go_ret
        exact ⟨by rw [← HE.out, HF.out]; rfl, rfl⟩
    · by_cases htop : (j : Int) = top
      · have heq : ((j : Int) == top) = true := beq_iff_eq.2 htop
        have hF : atF sl q j top = true := by
          obtain ⟨q', rfl⟩ : ∃ q', q = q' + 1 := ⟨q - 1, by omega⟩
          unfold atF; rw [if_pos htop]
        have HF := Aside0.mk hF
        clear htop hF
        go_wp2_with fail
        simp only [Exit.jump]
        go_ret
        exact ⟨by rw [← HE.out, HF.out]; rfl, rfl⟩
      · obtain ⟨q', rfl⟩ : ∃ q', q = q' + 1 := ⟨q - 1, by omega⟩
        have hne : ((j : Int) == top) = false := beq_eq_false_iff_ne.2 htop
        have hge : decide ((j : Int) < 0) = false := decide_eq_false (by omega)
        have hlt : (j : Int) < (sl.length : Int) := by omega
        have h7 := H.out.cell7 j (by omega)
        obtain ⟨pv, hpv⟩ : ∃ pv : Int, pv = (rd_T70 sl (j : Int)).f1 := ⟨_, rfl⟩
        rw [← hpv] at h7
        have HP := Aside0.mk (at_step hu j hj top q' htop (by omega) pv hpv)
        clear hpv
        go_wp2_with fail
        go_step3
        refine ⟨rfl, ⟨rfl, pv, q', _, _, _, _, _, _, _, _, _, _, _, _, _, _, _, rfl, ⟨HP.out.1.symm.trans HE.out⟩, ⟨HP.out.2.1⟩⟩, HP.out.2.2⟩
end Go.Proofs.Ytikfbipjlkhgeaa.P
