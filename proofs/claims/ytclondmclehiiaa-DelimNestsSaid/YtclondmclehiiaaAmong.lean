/- The reference's spans and its flanks: both answer as the program's own class.Space, class.Punct and delim.Flank do. -/
import Derived.Test.YtclondmclehiiaaPk3
namespace Go.Proofs.Ytclondmclehiiaa.P
open Go.RowKit Go.Proofs.YtclondmclehiiaaW.PrintWords
set_option linter.unusedVariables false
set_option linter.unusedSimpArgs false

theorem wrap64_sm {a : Int} (h0 : 0 ≤ a) (h1 : a ≤ 1073741824) : wrap64 a = a := by unfold wrap64; omega
def flatS : List (Int × Int) → List Int
  | [] => []
  | p :: l => p.1 :: p.2 :: flatS l
theorem flatS_length : ∀ l, (flatS l).length = 2 * l.length
  | [] => rfl
  | p :: l => by simp [flatS, flatS_length l]; omega
theorem among_eq (a : Int) : ∀ (l : List (Int × Int)) (pre : List Int) (k : Nat), l.length < k → pre.length + 2 * l.length < 1000000 →
    incipitref03_among.l0 k a (pre ++ flatS l) (pre.length : Int) = some (inSpans l a)
  | l, pre, 0, h, _ => by omega
  | [], pre, k + 1, _, hb => by
    unfold incipitref03_among.l0
    rw [if_neg (by rw [wrap64_sm (by omega) (by omega)]; simp [flatS]; omega)]
    rfl
  | p :: l, pre, k + 1, h, hb => by
    simp only [List.length_cons] at h hb
    have hl : (pre ++ flatS (p :: l)).length = pre.length + 2 * l.length + 2 := by
      rw [List.length_append, flatS_length]; simp; omega
    have e1 : rd (pre ++ flatS (p :: l)) (pre.length : Int) = p.1 := by
      unfold rd; simp [flatS, List.getD_eq_getElem?_getD]
    have e2 : rd (pre ++ flatS (p :: l)) ((pre.length : Int) + 1) = p.2 := by
      unfold rd
      have : ((pre.length : Int) + 1).toNat = pre.length + 1 := by omega
      rw [this, List.getD_eq_getElem?_getD, List.getElem?_append_right (by omega)]
      simp [flatS]
    have e3 : incipitref03_among.l0 k a (pre ++ flatS (p :: l)) ((pre.length : Int) + 2) = some (inSpans l a) := by
      have := among_eq a l (pre ++ [p.1, p.2]) k (by omega) (by simp; omega)
      simpa [flatS] using this
    unfold incipitref03_among.l0
    rw [wrap64_sm (by omega) (by omega), wrap64_sm (by omega) (by omega), if_pos (by omega), if_pos (by omega), if_pos (by omega), e1, e2, e3, if_pos (show (0 : Int) ≤ (pre.length : Int) + 1 by omega)]
    unfold inSpans
    rw [List.any_cons]
    by_cases h1 : p.1 ≤ a <;> by_cases h2 : a ≤ p.2 <;> simp [h1, h2]

theorem refSpace_eq (a : Int) (k : Nat) (h : 40 ≤ k) : incipitref03_Space.f k a = some (inSpans spaceSpans a) := by
  have := among_eq a spaceSpans [] k (by simp [spaceSpans]; omega) (by simp [spaceSpans])
  unfold incipitref03_Space.f incipitref03_among.f
  exact congrArg (fun o => Option.bind o fun t => some t) this
theorem refPunct_eq (a : Int) (k : Nat) (h : 40 ≤ k) : incipitref03_Punct.f k a = some (inSpans punctSpans a) := by
  have := among_eq a punctSpans [] k (by simp [punctSpans]; omega) (by simp [punctSpans])
  unfold incipitref03_Punct.f incipitref03_among.f
  exact congrArg (fun o => Option.bind o fun t => some t) this

def whiteB (a : Int) : Bool := decide (a = 0) || inSpans spaceSpans a
def punctB (a : Int) : Bool := inSpans punctSpans a
def leansB (a b : Int) : Bool := !whiteB a && (!punctB a || whiteB b || punctB b)
def flankB (a b d : Int) : Bool × Bool :=
  if d = 95 then (if leansB b a = true then (if leansB a b = true then (punctB a, punctB b) else (true, false)) else (false, leansB a b)) else (leansB b a, leansB a b)
theorem white_eq (a : Int) : delim_white.f a = some (whiteB a) := by
  unfold delim_white.f class_Space.f whiteB
  by_cases h : a = 0 <;> simp [h]
theorem leans_eq (a b : Int) : delim_leans.f a b = some (leansB a b) := by
  unfold delim_leans.f leansB
  simp only [white_eq, class_Punct.f, Option.bind_some]
  show (if whiteB a = true then some false else if punctB a = true then (if whiteB b = true then some true else some (punctB b)) else some true) = _
  cases whiteB a <;> cases punctB a <;> cases whiteB b <;> simp
theorem flank_eq (a b d : Int) : delim_Flank.f a b d = some (flankB a b d) := by
  unfold delim_Flank.f flankB
  simp only [leans_eq, class_Punct.f, Option.bind_some]
  show (if d = 95 then (if leansB b a = true then (if leansB a b = true then some (punctB a, punctB b) else some (true, false)) else (if leansB a b = true then some (false, true) else some (false, false))) else some (leansB b a, leansB a b)) = _
  cases leansB b a <;> cases leansB a b <;> by_cases h : d = 95 <;> simp [h]
theorem refFlank_j1 (k : Nat) (a b d : Int) (x8 x9 : Bool) (h : 40 ≤ k) (h8 : x8 = whiteB a) (h9 : x9 = whiteB b) :
    incipitref13_Flank.j1 (k + 1) a b d x8 x9 = some (flankB a b d) := by
  subst h8 h9
  rw [incipitref13_Flank.j1]
  rw [refPunct_eq a k h, refPunct_eq b k h]
  simp only [Option.bind_some]
  change (if _ then _ else _) = _
  rw [show inSpans punctSpans a = punctB a from rfl, show inSpans punctSpans b = punctB b from rfl]
  unfold flankB leansB
  by_cases hd : d = 95 <;> cases whiteB a <;> cases whiteB b <;> cases punctB a <;> cases punctB b <;> simp [hd]
theorem refFlank_j0 (k : Nat) (a b d : Int) (x8 : Bool) (h : 40 ≤ k) (h8 : x8 = whiteB a) :
    incipitref13_Flank.j0 (k + 2) a b d x8 = some (flankB a b d) := by
  rw [incipitref13_Flank.j0]
  rw [refSpace_eq b (k + 1) (by omega)]
  by_cases hb : b = 0
  · rw [if_pos hb, refFlank_j1 k a b d x8 true h h8 (by simp [whiteB, hb])]
  · rw [if_neg hb]
    simp only [Option.bind_some]
    exact refFlank_j1 k a b d x8 _ h h8 (by simp [whiteB, hb])
theorem refFlank_eq (a b d : Int) : incipitref13_Flank.f 42 a b d = some (flankB a b d) := by
  unfold incipitref13_Flank.f
  rw [refSpace_eq a 42 (by omega)]
  by_cases ha : a = 0
  · rw [if_pos ha, refFlank_j0 40 a b d true (by omega) (by simp [whiteB, ha])]
  · rw [if_neg ha]
    simp only [Option.bind_some]
    exact refFlank_j0 40 a b d _ (by omega) (by simp [whiteB, ha])
theorem flank_swap (a b d : Int) : flankB b a d = ((flankB a b d).2, (flankB a b d).1) := by
  unfold flankB
  cases leansB b a <;> cases leansB a b <;> by_cases h : d = 95 <;> simp [h]
end Go.Proofs.Ytclondmclehiiaa.P
