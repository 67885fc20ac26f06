/- The reference's decoding: what incipitref01 tells of a run of bytes, and of a text, is what the texts' plain words say. -/
import Derived.Test.YtbgbmphjjdiaeaaDoorPk5
import Derived.Test.YtbgbmphjjdiaeaaDoorPk4
import Derived.Test.YtbgbmphjjdiaeaaDoorChars4
namespace Go.Proofs.YtbgbmphjjdiaeaaDoor.P
open Go.RowKit Go.Proofs.YtbgbmphjjdiaeaaDoorW.PrintWords Go.Proofs.YtbgbmphjjdiaeaaDoorW.PrintLast Go.Proofs.YtbgbmphjjdiaeaaDoorW.PrintMore
set_option linter.unusedVariables false
set_option linter.unusedSimpArgs false
def bints (l : List UInt8) : List Int := l.map fun c => (c.toNat : Int)
theorem bints_len (l : List UInt8) : (bints l).length = l.length := by simp [bints]
theorem bints_rd (l : List UInt8) (i : Nat) : rd (bints l) (i : Int) = (T.byt l i : Int) := by
  unfold rd bints T.byt
  rw [Int.toNat_natCast, List.getD_eq_getElem?_getD, List.getElem?_map, List.getD_eq_getElem?_getD]
  cases l[i]? <;> rfl
theorem bints_drop (l : List UInt8) (k : Nat) : (bints l).drop k = bints (l.drop k) := by unfold bints; rw [List.map_drop]
theorem bints_take (l : List UInt8) (k : Nat) : (bints l).take k = bints (l.take k) := by unfold bints; rw [List.map_take]
theorem bints_append (a b : List UInt8) : bints (a ++ b) = bints a ++ bints b := by unfold bints; rw [List.map_append]
theorem bints_str (l : List UInt8) : strOfNums (bints l) = ⟨l.toArray⟩ := by
  unfold strOfNums bints
  rw [List.map_map, show ((fun n : Int => UInt8.ofNat n.toNat) ∘ fun c : UInt8 => (c.toNat : Int)) = id from funext fun c => by simp]
  simp
def btw (n i b lo hi : Nat) : Bool := decide (i < n) && (decide (lo ≤ b) && decide (b ≤ hi))
theorem between_f (l : List UInt8) (i lo hi : Nat) : incipitref01_between.f (bints l) (i : Int) (lo : Int) (hi : Int) = some (btw l.length i (T.byt l i) lo hi) := by
  unfold incipitref01_between.f btw
  rw [bints_len, bints_rd]
  by_cases h1 : i < l.length
  · rw [if_pos (by omega), if_pos (by omega)]
    by_cases h2 : lo ≤ T.byt l i
    · rw [if_pos (by omega)]
      by_cases h3 : T.byt l i ≤ hi
      · simp [h1, h2, h3]
      · simp [h1, h2, h3]
    · rw [if_neg (by omega)]
      simp [h1, h2]
  · rw [if_neg (by omega)]
    simp [h1]
def goodG (n b0 b1 b2 b3 : Nat) : Nat :=
  if btw n 0 b0 0 127 = true then 1
  else if btw n 0 b0 194 223 = true ∧ btw n 1 b1 128 191 = true then 2
  else if btw n 2 b2 128 191 = true then
    (if (btw n 0 b0 224 224 = true ∧ btw n 1 b1 160 191 = true) ∨ (btw n 0 b0 237 237 = true ∧ btw n 1 b1 128 159 = true) ∨ (btw n 0 b0 225 236 = true ∧ btw n 1 b1 128 191 = true) ∨ (btw n 0 b0 238 239 = true ∧ btw n 1 b1 128 191 = true) then 3
    else if btw n 3 b3 128 191 = true then
      (if (btw n 0 b0 240 240 = true ∧ btw n 1 b1 144 191 = true) ∨ (btw n 0 b0 241 243 = true ∧ btw n 1 b1 128 191 = true) ∨ (btw n 0 b0 244 244 = true ∧ btw n 1 b1 128 143 = true) then 4 else 0)
    else 0)
  else 0
theorem btw_iff (n i b lo hi : Nat) : (btw n i b lo hi = true) = (i < n ∧ lo ≤ b ∧ b ≤ hi) := by
  unfold btw
  simp
set_option maxHeartbeats 4000000 in
theorem goodG_dec (n b0 b1 b2 b3 : Nat) (hn : 1 ≤ n) (h0 : b0 < 256) (h1 : b1 < 256) (h2 : b2 < 256) (h3 : b3 < 256) :
    goodG n b0 b1 b2 b3 = if 128 ≤ b0 ∧ (Lib.decodeN n b0 b1 b2 b3).2 = 1 then 0 else (Lib.decodeN n b0 b1 b2 b3).2 := by
  unfold goodG
  simp only [btw_iff]
  unfold Lib.decodeN
  by_cases c0 : b0 < 128
  · rw [if_pos c0, if_pos (by omega), if_neg (by omega)]
  · rw [if_neg c0, if_neg (by omega)]
    by_cases c1 : b0 / 32 = 6 ∧ (1 < n ∧ b1 / 64 = 2)
    · rw [if_pos c1]
      by_cases d1 : b0 % 32 * 64 + b1 % 64 ≥ 128
      · rw [if_pos d1, if_pos (by omega), if_neg (by simp)]
      · rw [if_neg d1, if_neg (by omega), if_pos (show 128 ≤ b0 ∧ (1 : Nat) = 1 from ⟨by omega, rfl⟩)]
        split
        · rw [if_neg (by omega)]
          split
          · rw [if_neg (by omega)]
          · rfl
        · rfl
    · rw [if_neg c1, if_neg (by omega)]
      by_cases c2 : b0 / 16 = 14 ∧ (1 < n ∧ b1 / 64 = 2) ∧ (2 < n ∧ b2 / 64 = 2)
      · rw [if_pos c2, if_pos (by omega)]
        by_cases d2 : b0 % 16 * 4096 + b1 % 64 * 64 + b2 % 64 ≥ 2048 ∧ (b0 % 16 * 4096 + b1 % 64 * 64 + b2 % 64 < 55296 ∨ (57344 ≤ b0 % 16 * 4096 + b1 % 64 * 64 + b2 % 64 ∧ b0 % 16 * 4096 + b1 % 64 * 64 + b2 % 64 ≤ 1114111))
        · rw [if_pos d2, if_pos (by omega), if_neg (by simp)]
        · rw [if_neg d2, if_neg (by omega), if_pos (show 128 ≤ b0 ∧ (1 : Nat) = 1 from ⟨by omega, rfl⟩)]
          split
          · rw [if_neg (by omega)]
          · rfl
      · rw [if_neg c2]
        by_cases c3 : b0 / 8 = 30 ∧ (1 < n ∧ b1 / 64 = 2) ∧ (2 < n ∧ b2 / 64 = 2) ∧ (3 < n ∧ b3 / 64 = 2)
        · rw [if_pos c3, if_pos (by omega), if_neg (by omega), if_pos (by omega)]
          by_cases d3 : b0 % 8 * 262144 + b1 % 64 * 4096 + b2 % 64 * 64 + b3 % 64 ≥ 65536 ∧ (b0 % 8 * 262144 + b1 % 64 * 4096 + b2 % 64 * 64 + b3 % 64 < 55296 ∨ (57344 ≤ b0 % 8 * 262144 + b1 % 64 * 4096 + b2 % 64 * 64 + b3 % 64 ∧ b0 % 8 * 262144 + b1 % 64 * 4096 + b2 % 64 * 64 + b3 % 64 ≤ 1114111))
          · rw [if_pos d3, if_pos (by omega), if_neg (by simp)]
          · rw [if_neg d3, if_neg (by omega), if_pos (show 128 ≤ b0 ∧ (1 : Nat) = 1 from ⟨by omega, rfl⟩)]
        · rw [if_neg c3, if_pos (show 128 ≤ b0 ∧ (1 : Nat) = 1 from ⟨by omega, rfl⟩)]
          split
          · rw [if_neg (by omega)]
            split
            · rw [if_neg (by omega)]
            · rfl
          · rfl
def goodN (l : List UInt8) : Nat := if 128 ≤ T.byt l 0 ∧ (T.dec l).2 = 1 then 0 else (T.dec l).2
theorem good_chain (L : List Int) (q0 q1 q2 q3 q4 q5 q6 q7 q8 q9 q10 q11 q12 q13 q14 q15 : Bool)
    (e0 : incipitref01_between.f L 0 0 127 = some q0)
    (e1 : incipitref01_between.f L 0 194 223 = some q1)
    (e2 : incipitref01_between.f L 1 128 191 = some q2)
    (e3 : incipitref01_between.f L 2 128 191 = some q3)
    (e4 : incipitref01_between.f L 0 224 224 = some q4)
    (e5 : incipitref01_between.f L 1 160 191 = some q5)
    (e6 : incipitref01_between.f L 0 237 237 = some q6)
    (e7 : incipitref01_between.f L 1 128 159 = some q7)
    (e8 : incipitref01_between.f L 0 225 236 = some q8)
    (e9 : incipitref01_between.f L 0 238 239 = some q9)
    (e10 : incipitref01_between.f L 3 128 191 = some q10)
    (e11 : incipitref01_between.f L 0 240 240 = some q11)
    (e12 : incipitref01_between.f L 1 144 191 = some q12)
    (e13 : incipitref01_between.f L 0 241 243 = some q13)
    (e14 : incipitref01_between.f L 0 244 244 = some q14)
    (e15 : incipitref01_between.f L 1 128 143 = some q15)
    (k : Nat) : incipitref01_good.f (k + 1 + 1 + 1 + 1 + 1 + 1) L = some (if q0 = true then 1 else if q1 = true ∧ q2 = true then 2 else if q3 = true then
      (if (q4 = true ∧ q5 = true) ∨ (q6 = true ∧ q7 = true) ∨ (q8 = true ∧ q2 = true) ∨ (q9 = true ∧ q2 = true) then 3 else if q10 = true then (if (q11 = true ∧ q12 = true) ∨ (q13 = true ∧ q2 = true) ∨ (q14 = true ∧ q15 = true) then 4 else 0) else 0) else 0) := by
  have J5 : ∀ (k : Nat) (b : Bool), incipitref01_good.j5 (k + 1) L b = some (if b = true ∨ (q14 = true ∧ q15 = true) then 4 else 0) := fun k b => by
    simp only [incipitref01_good.j5, e14, e15, Option.bind_some]
    cases b <;> cases q14 <;> cases q15 <;> simp
  have J4 : ∀ (k : Nat) (b : Bool), incipitref01_good.j4 (k + 1 + 1) L b = some (if b = true ∨ (q13 = true ∧ q2 = true) ∨ (q14 = true ∧ q15 = true) then 4 else 0) := fun k b => by
    simp only [incipitref01_good.j4, e13, e2, Option.bind_some, J5]
    cases b <;> cases q13 <;> cases q2 <;> simp
  have J3 : ∀ (k : Nat) (b : Bool), incipitref01_good.j3 (k + 1 + 1 + 1) L b = some (if b = true then 3 else if q10 = true then (if (q11 = true ∧ q12 = true) ∨ (q13 = true ∧ q2 = true) ∨ (q14 = true ∧ q15 = true) then 4 else 0) else 0) := fun k b => by
    simp only [incipitref01_good.j3, e10, e11, e12, Option.bind_some, J4]
    cases b <;> cases q10 <;> cases q11 <;> cases q12 <;> simp
  have J2 : ∀ (k : Nat) (b : Bool), incipitref01_good.j2 (k + 1 + 1 + 1 + 1) L b = some (if b = true ∨ (q8 = true ∧ q2 = true) ∨ (q9 = true ∧ q2 = true) then 3 else if q10 = true then (if (q11 = true ∧ q12 = true) ∨ (q13 = true ∧ q2 = true) ∨ (q14 = true ∧ q15 = true) then 4 else 0) else 0) := fun k b => by
    simp only [incipitref01_good.j2, e8, e9, e2, Option.bind_some, J3]
    cases b <;> cases q8 <;> cases q9 <;> cases q2 <;> simp
  have J1 : ∀ (k : Nat) (b : Bool), incipitref01_good.j1 (k + 1 + 1 + 1 + 1 + 1) L b = some (if b = true ∨ (q6 = true ∧ q7 = true) ∨ (q8 = true ∧ q2 = true) ∨ (q9 = true ∧ q2 = true) then 3 else if q10 = true then (if (q11 = true ∧ q12 = true) ∨ (q13 = true ∧ q2 = true) ∨ (q14 = true ∧ q15 = true) then 4 else 0) else 0) := fun k b => by
    simp only [incipitref01_good.j1, e6, e7, Option.bind_some, J2]
    cases b <;> cases q6 <;> cases q7 <;> simp
  have J0 : ∀ (k : Nat) (b : Bool), incipitref01_good.j0 (k + 1 + 1 + 1 + 1 + 1 + 1) L b = some (if b = true then 2 else if q3 = true then (if (q4 = true ∧ q5 = true) ∨ (q6 = true ∧ q7 = true) ∨ (q8 = true ∧ q2 = true) ∨ (q9 = true ∧ q2 = true) then 3 else if q10 = true then (if (q11 = true ∧ q12 = true) ∨ (q13 = true ∧ q2 = true) ∨ (q14 = true ∧ q15 = true) then 4 else 0) else 0) else 0) := fun k b => by
    simp only [incipitref01_good.j0, e3, e4, e5, Option.bind_some, J1]
    cases b <;> cases q3 <;> cases q4 <;> cases q5 <;> simp
  unfold incipitref01_good.f
  simp only [e0, e1, e2, Option.bind_some, J0]
  cases q0 <;> cases q1 <;> cases q2 <;> simp
theorem good_f (l : List UInt8) (hl : l ≠ []) (k : Nat) (hk : 6 ≤ k) : incipitref01_good.f k (bints l) = some ((goodN l : Nat) : Int) := by
  obtain ⟨k, rfl⟩ : ∃ q, k = q + 1 + 1 + 1 + 1 + 1 + 1 := ⟨k - 6, by omega⟩
  have hG : goodG l.length (T.byt l 0) (T.byt l 1) (T.byt l 2) (T.byt l 3) = goodN l := by
    have hn : 1 ≤ l.length := List.length_pos_iff.2 hl
    exact goodG_dec _ _ _ _ _ hn (T.byt_lt _ _) (T.byt_lt _ _) (T.byt_lt _ _) (T.byt_lt _ _)
  rw [good_chain (bints l) _ _ _ _ _ _ _ _ _ _ _ _ _ _ _ _ (between_f l 0 0 127) (between_f l 0 194 223) (between_f l 1 128 191) (between_f l 2 128 191) (between_f l 0 224 224) (between_f l 1 160 191) (between_f l 0 237 237) (between_f l 1 128 159) (between_f l 0 225 236) (between_f l 0 238 239) (between_f l 3 128 191) (between_f l 0 240 240) (between_f l 1 144 191) (between_f l 0 241 243) (between_f l 0 244 244) (between_f l 1 128 143) k, ← hG]
  unfold goodG
  congr 1
  repeat' split
  all_goals rfl
/-! Clean -/
theorem refClean_loop (n : Nat) : ∀ (l done : List UInt8) (k : Nat), l.length ≤ n → l.length + 6 ≤ k → done.length + 3 * l.length ≤ 70368744177664 → incipitref01_Clean.l0 (k + 1) (bints l) (bints done) = some ⟨(done ++ T.clean l).toArray⟩ := by
  induction n with
  | zero =>
    intro l done k h hk hd
    have : l = [] := List.eq_nil_of_length_eq_zero (by omega)
    subst this
    rw [incipitref01_Clean.l0, if_neg (by simp [bints]), bints_str, T.clean_nil, List.append_nil]
  | succ n ih =>
    intro l done k h hk hd
    match l with
    | [] => rw [incipitref01_Clean.l0, if_neg (by simp [bints]), bints_str, T.clean_nil, List.append_nil]
    | x :: l =>
      rw [List.length_cons] at h hk hd
      obtain ⟨hs1, hs2, _⟩ := T.dec_spec x l
      have hb0 : T.byt (x :: l) 0 = x.toNat := rfl
      have hbad : bints [239, 191, 189] = ([239, 191, 189] : List Int) := rfl
      obtain ⟨k, rfl⟩ : ∃ q, k = q + 1 := ⟨k - 1, by omega⟩
      have hrd := bints_rd (x :: l) 0
      rw [hb0] at hrd
      have hrd0 : rd (bints (x :: l)) 0 = (x.toNat : Int) := hrd
      rw [incipitref01_Clean.l0, if_pos (by rw [bints_len, List.length_cons]; omega), good_f (x :: l) (by simp) (k + 1) (by omega), Option.bind_some]
      unfold goodN
      rw [hb0]
      by_cases hbd : 128 ≤ x.toNat ∧ (T.dec (x :: l)).2 = 1
      · rw [if_pos hbd, if_pos (show ((0 : Nat) : Int) = 0 from rfl), Option.bind_some, ← hbad, if_pos (by rw [bints_len, bints_len]; simp; omega), if_pos (by rw [bints_len, List.length_cons]; omega), bints_drop, ← bints_append]
        rw [ih _ _ k (by simp; omega) (by simp; omega) (by simp; omega), T.clean_bad x l hbd.1 hbd.2]
        simp
      · rw [if_neg hbd, if_neg (by omega), if_pos (by rw [bints_len, List.length_cons]; omega), hrd0]
        by_cases h0 : x.toNat = 0
        · rw [if_pos (by omega), Option.bind_some, ← hbad, if_pos (by rw [bints_len, bints_len]; simp; omega), if_pos (by rw [bints_len, List.length_cons]; omega), bints_drop, ← bints_append]
          rw [ih _ _ k (by simp; omega) (by simp; omega) (by simp; omega), T.clean_zero x l h0]
          simp
        · rw [if_neg (by omega), if_pos (by omega), if_pos (by rw [bints_len, List.length_cons]; omega), Option.bind_some, Int.toNat_natCast, if_pos (by rw [bints_len, bints_take, bints_len, List.length_take, List.length_cons]; omega), bints_drop, bints_take, ← bints_append]
          rw [ih _ _ k (by rw [List.length_drop, List.length_cons]; omega) (by rw [List.length_drop, List.length_cons]; omega) (by rw [List.length_append, List.length_take, List.length_drop, List.length_cons]; omega), T.clean_good x l h0 (fun h => hbd ⟨h.2, h.1⟩), List.append_assoc]
theorem refClean_f (l : List UInt8) (hl : l.length ≤ 1099511627776) (k : Nat) (hk : l.length + 7 ≤ k) : incipitref01_Clean.f k (bints l) = some ⟨(T.clean l).toArray⟩ := by
  obtain ⟨k, rfl⟩ : ∃ q, k = q + 1 := ⟨k - 1, by omega⟩
  unfold incipitref01_Clean.f
  have := refClean_loop l.length l [] k (Nat.le_refl _) (by omega) (by simp; omega)
  rw [List.nil_append] at this
  exact this
end Go.Proofs.YtbgbmphjjdiaeaaDoor.P
