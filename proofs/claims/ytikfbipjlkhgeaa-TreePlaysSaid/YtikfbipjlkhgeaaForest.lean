/- Trees that an arena's slots are: plain words, no program. -/
import Derived.Test.YtikfbipjlkhgeaaArenaB
namespace Go.Proofs.Ytikfbipjlkhgeaa.P
open Go.RowKit Go.Proofs.YtikfbipjlkhgeaaW.PrintWords Go.Proofs.YtikfbipjlkhgeaaW.PrintLast Go.Proofs.YtikfbipjlkhgeaaW.PrintMore
set_option linter.unusedVariables false
set_option linter.unusedSimpArgs false
mutual
/-- From slot i on the slots (all from m on) are the tree. -/
def trT (m : Nat) (sl : List S70) : Nat → S24 → Prop
  | i, ⟨a0, a1, a2, a3, a4, a5, l⟩ => m ≤ i ∧ i < sl.length ∧ (rd_T70 sl (i : Int)).f0 = ⟨a0, a1, a2, a3, a4, a5, []⟩ ∧ trL m sl (rd_T70 sl (i : Int)).f2 l
def trL (m : Nat) (sl : List S70) : List Int → List S24 → Prop
  | [], [] => True
  | c :: cs, x :: l => (0 ≤ c ∧ trT m sl c.toNat x) ∧ trL m sl cs l
  | [], _ :: _ => False
  | _ :: _, [] => False
end
theorem trL_len {m : Nat} {sl : List S70} : ∀ {cs : List Int} {l : List S24}, trL m sl cs l → cs.length = l.length
  | [], [], _ => rfl
  | c :: cs, x :: l, h => by
    unfold trL at h
    simp [trL_len h.2]
  | [], _ :: _, h => by unfold trL at h; exact h.elim
  | _ :: _, [], h => by unfold trL at h; exact h.elim
theorem trL_get {m : Nat} {sl : List S70} : ∀ {cs : List Int} {l : List S24}, trL m sl cs l → ∀ k : Nat, k < l.length → 0 ≤ rd cs k ∧ trT m sl (rd cs k).toNat (rd_T24 l k)
  | [], [], _, k, hk => absurd hk (by simp)
  | c :: cs, x :: l, h, k, hk => by
    unfold trL at h
    cases k with
    | zero => exact h.1
    | succ k => exact trL_get h.2 k (by simpa using hk)
  | [], _ :: _, h, _, _ => by unfold trL at h; exact h.elim
  | _ :: _, [], h, _, _ => by unfold trL at h; exact h.elim
theorem trL_app {m : Nat} {sl : List S70} : ∀ {cs ds : List Int} {l k : List S24}, trL m sl cs l → trL m sl ds k → trL m sl (cs ++ ds) (l ++ k)
  | [], _, [], _, _, h => h
  | c :: cs, _, x :: l, _, h, h' => by
    unfold trL at h
    show trL m sl (c :: (cs ++ _)) (x :: (l ++ _))
    unfold trL
    exact ⟨h.1, trL_app h.2 h'⟩
  | [], _, _ :: _, _, h, _ => by unfold trL at h; exact h.elim
  | _ :: _, _, [], _, h, _ => by unfold trL at h; exact h.elim
mutual
theorem trT_mono {m m' : Nat} {sl sl' : List S70} (hm : m' ≤ m) (hl : sl.length ≤ sl'.length) (hag : ∀ j : Nat, m ≤ j → j < sl.length → rd_T70 sl' (j : Int) = rd_T70 sl (j : Int)) : ∀ (i : Nat) (t : S24), trT m sl i t → trT m' sl' i t
  | i, ⟨a0, a1, a2, a3, a4, a5, l⟩, h => by
    unfold trT at h ⊢
    obtain ⟨h1, h2, h3, h4⟩ := h
    rw [hag i h1 h2]
    exact ⟨by omega, by omega, h3, trL_mono hm hl hag _ l h4⟩
theorem trL_mono {m m' : Nat} {sl sl' : List S70} (hm : m' ≤ m) (hl : sl.length ≤ sl'.length) (hag : ∀ j : Nat, m ≤ j → j < sl.length → rd_T70 sl' (j : Int) = rd_T70 sl (j : Int)) : ∀ (cs : List Int) (l : List S24), trL m sl cs l → trL m' sl' cs l
  | [], [], _ => by unfold trL; trivial
  | c :: cs, x :: l, h => by
    unfold trL at h ⊢
    exact ⟨⟨h.1.1, trT_mono hm hl hag _ x h.1.2⟩, trL_mono hm hl hag cs l h.2⟩
  | [], _ :: _, h => by unfold trL at h; exact h.elim
  | _ :: _, [], h => by unfold trL at h; exact h.elim
end
end Go.Proofs.Ytikfbipjlkhgeaa.P
