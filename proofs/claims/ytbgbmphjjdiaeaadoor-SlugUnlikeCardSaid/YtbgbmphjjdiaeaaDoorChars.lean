/- Texts as lists of characters: decoding, writing, cleaning; plain, no program in sight. -/
import Derived.Lib.DecodeN
import Derived.Lib.RuneBytes
namespace Go.Proofs.YtbgbmphjjdiaeaaDoor.T
open Go Go.Lib
set_option linter.unusedVariables false
def byt (l : List UInt8) (i : Nat) : Nat := (l.getD i 0).toNat
def dec (l : List UInt8) : Nat × Nat := decodeN l.length (byt l 0) (byt l 1) (byt l 2) (byt l 3)
def enc (r : Nat) : List UInt8 := encodeRune (r : Int)
def okR (r : Nat) : Prop := r < 55296 ∨ (57344 ≤ r ∧ r ≤ 1114111)
def fixR (r : Nat) : Nat := if r = 0 then 65533 else r
def good (r : Nat) : Prop := okR r ∧ r ≠ 0
theorem byt_lt (l : List UInt8) (i : Nat) : byt l i < 256 := (l.getD i 0).toNat_lt
theorem byt_zero (x : UInt8) (l : List UInt8) : byt (x :: l) 0 = x.toNat := rfl
theorem byt_succ (x : UInt8) (l : List UInt8) (i : Nat) : byt (x :: l) (i + 1) = byt l i := rfl
theorem ofNat_toNat (n : Nat) (h : n < 256) : (UInt8.ofNat n).toNat = n := by simp; omega
theorem enc_one {r : Nat} (h : r < 128) : enc r = [UInt8.ofNat r] := by
  unfold enc encodeRune
  rw [encodeRuneZ_one (by omega) (by omega)]
  simp only [List.map_cons, List.map_nil, Int.toNat_natCast]
theorem enc_two {r : Nat} (h0 : 128 ≤ r) (h1 : r ≤ 2047) : enc r = [UInt8.ofNat (192 + r / 64), UInt8.ofNat (128 + r % 64)] := by
  unfold enc encodeRune
  rw [encodeRuneZ_two (by omega) (by omega)]
  simp only [List.map_cons, List.map_nil]
  rw [show (192 + (r : Int) / 64).toNat = 192 + r / 64 by omega, show (128 + (r : Int) % 64).toNat = 128 + r % 64 by omega]
theorem enc_three {r : Nat} (h : (2048 ≤ r ∧ r < 55296) ∨ (57343 < r ∧ r ≤ 65535)) : enc r = [UInt8.ofNat (224 + r / 4096), UInt8.ofNat (128 + r / 64 % 64), UInt8.ofNat (128 + r % 64)] := by
  unfold enc encodeRune
  rw [encodeRuneZ_three (by omega)]
  simp only [List.map_cons, List.map_nil]
  rw [show (224 + (r : Int) / 4096).toNat = 224 + r / 4096 by omega, show (128 + (r : Int) / 64 % 64).toNat = 128 + r / 64 % 64 by omega, show (128 + (r : Int) % 64).toNat = 128 + r % 64 by omega]
theorem enc_four {r : Nat} (h0 : 65536 ≤ r) (h1 : r ≤ 1114111) : enc r = [UInt8.ofNat (240 + r / 262144), UInt8.ofNat (128 + r / 4096 % 64), UInt8.ofNat (128 + r / 64 % 64), UInt8.ofNat (128 + r % 64)] := by
  unfold enc encodeRune
  rw [encodeRuneZ_four (by omega) (by omega)]
  simp only [List.map_cons, List.map_nil]
  rw [show (240 + (r : Int) / 262144).toNat = 240 + r / 262144 by omega, show (128 + (r : Int) / 4096 % 64).toNat = 128 + r / 4096 % 64 by omega, show (128 + (r : Int) / 64 % 64).toNat = 128 + r / 64 % 64 by omega, show (128 + (r : Int) % 64).toNat = 128 + r % 64 by omega]
theorem enc_cases {r : Nat} (h : okR r) : r < 128 ∨ (128 ≤ r ∧ r ≤ 2047) ∨ ((2048 ≤ r ∧ r < 55296) ∨ (57343 < r ∧ r ≤ 65535)) ∨ (65536 ≤ r ∧ r ≤ 1114111) := by unfold okR at h; omega
theorem enc_pos (r : Nat) : 1 ≤ (enc r).length ∧ (enc r).length ≤ 4 := by
  have := encodeRuneZ_length (r : Int)
  unfold enc encodeRune
  rw [List.length_map]
  exact this
theorem decN_cases (n b0 b1 b2 b3 : Nat) (h0 : b0 < 256) : (b0 < 128 ∧ decodeN n b0 b1 b2 b3 = (b0, 1)) ∨
    (b0 / 32 = 6 ∧ 1 < n ∧ b1 / 64 = 2 ∧ ∃ r, decodeN n b0 b1 b2 b3 = (r, 2) ∧ r = b0 % 32 * 64 + b1 % 64 ∧ 128 ≤ r ∧ r ≤ 2047) ∨
    (b0 / 16 = 14 ∧ 2 < n ∧ b1 / 64 = 2 ∧ b2 / 64 = 2 ∧ ∃ r, decodeN n b0 b1 b2 b3 = (r, 3) ∧ r = b0 % 16 * 4096 + b1 % 64 * 64 + b2 % 64 ∧ 2048 ≤ r ∧ r ≤ 65535 ∧ (r < 55296 ∨ 57344 ≤ r)) ∨
    (b0 / 8 = 30 ∧ 3 < n ∧ b1 / 64 = 2 ∧ b2 / 64 = 2 ∧ b3 / 64 = 2 ∧ ∃ r, decodeN n b0 b1 b2 b3 = (r, 4) ∧ r = b0 % 8 * 262144 + b1 % 64 * 4096 + b2 % 64 * 64 + b3 % 64 ∧ 65536 ≤ r ∧ r ≤ 1114111) ∨
    (128 ≤ b0 ∧ decodeN n b0 b1 b2 b3 = (65533, 1)) := by
  unfold decodeN
  by_cases c0 : b0 < 128
  · left; exact ⟨c0, if_pos c0⟩
  · rw [if_neg c0]
    right
    by_cases c1 : b0 / 32 = 6 ∧ (1 < n ∧ b1 / 64 = 2)
    · rw [if_pos c1]
      by_cases d1 : b0 % 32 * 64 + b1 % 64 ≥ 128
      · rw [if_pos d1]; left; exact ⟨c1.1, c1.2.1, c1.2.2, _, rfl, rfl, d1, by omega⟩
      · rw [if_neg d1]; right; right; right; exact ⟨by omega, rfl⟩
    · rw [if_neg c1]
      right
      by_cases c2 : b0 / 16 = 14 ∧ (1 < n ∧ b1 / 64 = 2) ∧ (2 < n ∧ b2 / 64 = 2)
      · rw [if_pos c2]
        by_cases d2 : b0 % 16 * 4096 + b1 % 64 * 64 + b2 % 64 ≥ 2048 ∧ (b0 % 16 * 4096 + b1 % 64 * 64 + b2 % 64 < 55296 ∨ (57344 ≤ b0 % 16 * 4096 + b1 % 64 * 64 + b2 % 64 ∧ b0 % 16 * 4096 + b1 % 64 * 64 + b2 % 64 ≤ 1114111))
        · rw [if_pos d2]; left; exact ⟨c2.1, c2.2.2.1, c2.2.1.2, c2.2.2.2, _, rfl, rfl, d2.1, by omega, by omega⟩
        · rw [if_neg d2]; right; right; exact ⟨by omega, rfl⟩
      · rw [if_neg c2]
        right
        by_cases c3 : b0 / 8 = 30 ∧ (1 < n ∧ b1 / 64 = 2) ∧ (2 < n ∧ b2 / 64 = 2) ∧ (3 < n ∧ b3 / 64 = 2)
        · rw [if_pos c3]
          by_cases d3 : b0 % 8 * 262144 + b1 % 64 * 4096 + b2 % 64 * 64 + b3 % 64 ≥ 65536 ∧ (b0 % 8 * 262144 + b1 % 64 * 4096 + b2 % 64 * 64 + b3 % 64 < 55296 ∨ (57344 ≤ b0 % 8 * 262144 + b1 % 64 * 4096 + b2 % 64 * 64 + b3 % 64 ∧ b0 % 8 * 262144 + b1 % 64 * 4096 + b2 % 64 * 64 + b3 % 64 ≤ 1114111))
          · rw [if_pos d3]; left; exact ⟨c3.1, c3.2.2.2.1, c3.2.1.2, c3.2.2.1.2, c3.2.2.2.2, _, rfl, rfl, d3.1, by omega⟩
          · rw [if_neg d3]; right; exact ⟨by omega, rfl⟩
        · rw [if_neg c3]; right; exact ⟨by omega, rfl⟩
theorem dec_cons (x : UInt8) (l : List UInt8) : dec (x :: l) = decodeN (l.length + 1) x.toNat (byt l 0) (byt l 1) (byt l 2) := rfl
theorem u8_eq (x : UInt8) (n : Nat) (h : x.toNat = n) : x = UInt8.ofNat n := by subst h; simp
theorem bad_spec {x : UInt8} {l : List UInt8} (h : 128 ≤ x.toNat) : 1 ≤ ((65533, 1) : Nat × Nat).2 ∧ ((65533, 1) : Nat × Nat).2 ≤ l.length + 1 ∧ okR ((65533, 1) : Nat × Nat).1 ∧
    ((128 ≤ x.toNat ∧ ((65533, 1) : Nat × Nat) = (65533, 1)) ∨ ((x :: l).take ((65533, 1) : Nat × Nat).2 = enc ((65533, 1) : Nat × Nat).1 ∧ (x.toNat < 128 → ((65533, 1) : Nat × Nat) = (x.toNat, 1)) ∧ (128 ≤ x.toNat → 128 ≤ ((65533, 1) : Nat × Nat).1 ∧ 2 ≤ ((65533, 1) : Nat × Nat).2))) := by
  generalize hp : ((65533, 1) : Nat × Nat) = p
  have h1 : p.1 = 65533 := by rw [← hp]
  have h2 : p.2 = 1 := by rw [← hp]
  refine ⟨by omega, by omega, ?_, .inl ⟨h, rfl⟩⟩
  unfold okR
  omega
/-- What decoding a text's head tells. -/
theorem dec_spec (x : UInt8) (l : List UInt8) : 1 ≤ (dec (x :: l)).2 ∧ (dec (x :: l)).2 ≤ l.length + 1 ∧ okR (dec (x :: l)).1 ∧
    ((128 ≤ x.toNat ∧ dec (x :: l) = (65533, 1)) ∨ ((x :: l).take (dec (x :: l)).2 = enc (dec (x :: l)).1 ∧ (x.toNat < 128 → dec (x :: l) = (x.toNat, 1)) ∧ (128 ≤ x.toNat → 128 ≤ (dec (x :: l)).1 ∧ 2 ≤ (dec (x :: l)).2))) := by
  rw [dec_cons]
  have hx : x.toNat < 256 := x.toNat_lt
  rcases decN_cases (l.length + 1) x.toNat (byt l 0) (byt l 1) (byt l 2) hx with ⟨h, e⟩ | ⟨h, hn, h1, r, e, hr, r0, r1⟩ | ⟨h, hn, h1, h2, r, e, hr, r0, r1, r2⟩ | ⟨h, hn, h1, h2, h3, r, e, hr, r0, r1⟩ | ⟨h, e⟩
  · rw [e]
    refine ⟨Nat.le_refl _, by simp, .inl (by simp only; omega), .inr ⟨?_, fun _ => rfl, fun h' => absurd h (by omega)⟩⟩
    rw [enc_one h]
    simp
  · rw [e]
    match l, hn with
    | y :: l, _ =>
      have ey : byt (y :: l) 0 = y.toNat := rfl
      rw [ey] at h1 hr
      have hy : y.toNat < 256 := y.toNat_lt
      refine ⟨by omega, by simp, .inl (by simp only; omega), .inr ⟨?_, fun h' => by omega, fun _ => ⟨by simp only; omega, by simp⟩⟩⟩
      rw [enc_two r0 r1, ← u8_eq x (192 + r / 64) (by omega), ← u8_eq y (128 + r % 64) (by omega)]
      simp
  · rw [e]
    match l, hn with
    | y :: z :: l, _ =>
      have ey : byt (y :: z :: l) 0 = y.toNat := rfl
      have ez : byt (y :: z :: l) 1 = z.toNat := rfl
      rw [ey] at h1 hr
      rw [ez] at h2 hr
      have hy : y.toNat < 256 := y.toNat_lt
      have hz : z.toNat < 256 := z.toNat_lt
      refine ⟨by omega, by simp, by unfold okR; simp only; omega, .inr ⟨?_, fun h' => by omega, fun _ => ⟨by simp only; omega, by simp⟩⟩⟩
      rw [enc_three (by omega), ← u8_eq x (224 + r / 4096) (by omega), ← u8_eq y (128 + r / 64 % 64) (by omega), ← u8_eq z (128 + r % 64) (by omega)]
      simp
  · rw [e]
    obtain ⟨y, z, v, l, rfl⟩ : ∃ y z v l', l = y :: z :: v :: l' := by
      rcases l with _ | ⟨y, _ | ⟨z, _ | ⟨v, l⟩⟩⟩
      · simp at hn
      · simp at hn
      · simp at hn
      · exact ⟨y, z, v, l, rfl⟩
    have ey : byt (y :: z :: v :: l) 0 = y.toNat := rfl
    have ez : byt (y :: z :: v :: l) 1 = z.toNat := rfl
    have ev : byt (y :: z :: v :: l) 2 = v.toNat := rfl
    rw [ey] at h1 hr
    rw [ez] at h2 hr
    rw [ev] at h3 hr
    have hy : y.toNat < 256 := y.toNat_lt
    have hz : z.toNat < 256 := z.toNat_lt
    have hv : v.toNat < 256 := v.toNat_lt
    refine ⟨by omega, by simp, by unfold okR; simp only; omega, .inr ⟨?_, fun h' => by omega, fun _ => ⟨by simp only; omega, by simp⟩⟩⟩
    rw [enc_four r0 r1, ← u8_eq x (240 + r / 262144) (by omega), ← u8_eq y (128 + r / 4096 % 64) (by omega), ← u8_eq z (128 + r / 64 % 64) (by omega), ← u8_eq v (128 + r % 64) (by omega)]
    simp
  · rw [e]
    exact bad_spec h
/-- What was written is read. -/
theorem dec_enc {r : Nat} (h : okR r) (t : List UInt8) : dec (enc r ++ t) = (r, (enc r).length) := by
  rcases enc_cases h with h1 | ⟨h1, h2⟩ | h1 | ⟨h1, h2⟩
  · rw [enc_one h1]
    show decodeN _ (UInt8.ofNat r).toNat _ _ _ = _
    rw [ofNat_toNat _ (by omega)]
    unfold decodeN
    rw [if_pos h1]; rfl
  · rw [enc_two h1 h2]
    show decodeN (t.length + 1 + 1) (UInt8.ofNat (192 + r / 64)).toNat (UInt8.ofNat (128 + r % 64)).toNat _ _ = (r, 2)
    rw [ofNat_toNat _ (by omega), ofNat_toNat _ (by omega)]
    unfold decodeN
    rw [if_neg (by omega), if_pos (by omega), if_pos (by omega)]
    congr 1; omega
  · rw [enc_three h1]
    show decodeN (t.length + 1 + 1 + 1) (UInt8.ofNat (224 + r / 4096)).toNat (UInt8.ofNat (128 + r / 64 % 64)).toNat (UInt8.ofNat (128 + r % 64)).toNat _ = (r, 3)
    rw [ofNat_toNat _ (by omega), ofNat_toNat _ (by omega), ofNat_toNat _ (by omega)]
    have hr : (224 + r / 4096) % 16 * 4096 + (128 + r / 64 % 64) % 64 * 64 + (128 + r % 64) % 64 = r := by omega
    unfold decodeN
    rw [if_neg (by omega), if_neg (by omega), if_pos (by omega), hr, if_pos (by omega)]
  · rw [enc_four h1 h2]
    show decodeN (t.length + 1 + 1 + 1 + 1) (UInt8.ofNat (240 + r / 262144)).toNat (UInt8.ofNat (128 + r / 4096 % 64)).toNat (UInt8.ofNat (128 + r / 64 % 64)).toNat (UInt8.ofNat (128 + r % 64)).toNat = (r, 4)
    rw [ofNat_toNat _ (by omega), ofNat_toNat _ (by omega), ofNat_toNat _ (by omega), ofNat_toNat _ (by omega)]
    have hr : (240 + r / 262144) % 8 * 262144 + (128 + r / 4096 % 64) % 64 * 4096 + (128 + r / 64 % 64) % 64 * 64 + (128 + r % 64) % 64 = r := by omega
    unfold decodeN
    rw [if_neg (by omega), if_neg (by omega), if_neg (by omega), if_pos (by omega), hr, if_pos (by omega)]
/-- A byte below 128 ends what stands ahead of it. -/
theorem dec_cut (x : UInt8) (l : List UInt8) (c : UInt8) (y : List UInt8) (hc : c.toNat < 128) : dec (x :: l ++ c :: y) = dec (x :: l) := by
  match l with
  | [] =>
    show decodeN (y.length + 1 + 1) x.toNat c.toNat (byt y 0) (byt y 1) = decodeN 1 x.toNat 0 0 0
    unfold decodeN
    rw [if_neg (show ¬ (x.toNat / 32 = 6 ∧ (1 < y.length + 1 + 1 ∧ c.toNat / 64 = 2)) by omega), if_neg (show ¬ (x.toNat / 16 = 14 ∧ (1 < y.length + 1 + 1 ∧ c.toNat / 64 = 2) ∧ (2 < y.length + 1 + 1 ∧ byt y 0 / 64 = 2)) by omega),
      if_neg (show ¬ (x.toNat / 8 = 30 ∧ (1 < y.length + 1 + 1 ∧ c.toNat / 64 = 2) ∧ (2 < y.length + 1 + 1 ∧ byt y 0 / 64 = 2) ∧ (3 < y.length + 1 + 1 ∧ byt y 1 / 64 = 2)) by omega),
      if_neg (show ¬ (x.toNat / 32 = 6 ∧ (1 < 1 ∧ 0 / 64 = 2)) by omega), if_neg (show ¬ (x.toNat / 16 = 14 ∧ (1 < 1 ∧ 0 / 64 = 2) ∧ (2 < 1 ∧ 0 / 64 = 2)) by omega), if_neg (show ¬ (x.toNat / 8 = 30 ∧ (1 < 1 ∧ 0 / 64 = 2) ∧ (2 < 1 ∧ 0 / 64 = 2) ∧ (3 < 1 ∧ 0 / 64 = 2)) by omega)]
  | [a] =>
    show decodeN (y.length + 1 + 1 + 1) x.toNat a.toNat c.toNat (byt y 0) = decodeN 2 x.toNat a.toNat 0 0
    unfold decodeN
    have e1 : (1 < y.length + 1 + 1 + 1) = True := eq_true (by omega)
    rw [if_neg (show ¬ (x.toNat / 16 = 14 ∧ (1 < y.length + 1 + 1 + 1 ∧ a.toNat / 64 = 2) ∧ (2 < y.length + 1 + 1 + 1 ∧ c.toNat / 64 = 2)) by omega),
      if_neg (show ¬ (x.toNat / 8 = 30 ∧ (1 < y.length + 1 + 1 + 1 ∧ a.toNat / 64 = 2) ∧ (2 < y.length + 1 + 1 + 1 ∧ c.toNat / 64 = 2) ∧ (3 < y.length + 1 + 1 + 1 ∧ byt y 0 / 64 = 2)) by omega),
      if_neg (show ¬ (x.toNat / 16 = 14 ∧ (1 < 2 ∧ a.toNat / 64 = 2) ∧ (2 < 2 ∧ 0 / 64 = 2)) by omega), if_neg (show ¬ (x.toNat / 8 = 30 ∧ (1 < 2 ∧ a.toNat / 64 = 2) ∧ (2 < 2 ∧ 0 / 64 = 2) ∧ (3 < 2 ∧ 0 / 64 = 2)) by omega)]
    simp [e1]
  | [a, b] =>
    show decodeN (y.length + 1 + 1 + 1 + 1) x.toNat a.toNat b.toNat c.toNat = decodeN 3 x.toNat a.toNat b.toNat 0
    unfold decodeN
    have e1 : (1 < y.length + 1 + 1 + 1 + 1) = True := eq_true (by omega)
    have e2 : (2 < y.length + 1 + 1 + 1 + 1) = True := eq_true (by omega)
    rw [if_neg (show ¬ (x.toNat / 8 = 30 ∧ (1 < y.length + 1 + 1 + 1 + 1 ∧ a.toNat / 64 = 2) ∧ (2 < y.length + 1 + 1 + 1 + 1 ∧ b.toNat / 64 = 2) ∧ (3 < y.length + 1 + 1 + 1 + 1 ∧ c.toNat / 64 = 2)) by omega),
      if_neg (show ¬ (x.toNat / 8 = 30 ∧ (1 < 3 ∧ a.toNat / 64 = 2) ∧ (2 < 3 ∧ b.toNat / 64 = 2) ∧ (3 < 3 ∧ 0 / 64 = 2)) by omega)]
    simp [e1, e2]
  | a :: b :: d :: l =>
    show decodeN ((x :: a :: b :: d :: l ++ c :: y).length) x.toNat a.toNat b.toNat d.toNat = decodeN ((x :: a :: b :: d :: l).length) x.toNat a.toNat b.toNat d.toNat
    unfold decodeN
    have e1 : ∀ k, k < 4 → (k < (x :: a :: b :: d :: l ++ c :: y).length) = True := fun k hk => eq_true (by simp; omega)
    have e2 : ∀ k, k < 4 → (k < (x :: a :: b :: d :: l).length) = True := fun k hk => eq_true (by simp; omega)
    simp only [e1 1 (by omega), e1 2 (by omega), e1 3 (by omega), e2 1 (by omega), e2 2 (by omega), e2 3 (by omega)]
end Go.Proofs.YtbgbmphjjdiaeaaDoor.T
