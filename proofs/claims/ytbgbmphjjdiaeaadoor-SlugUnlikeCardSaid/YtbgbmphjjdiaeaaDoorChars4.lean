/- Texts as lists of characters: what the model's own decoding, the library's fields and the conversions tell of them. -/
import Derived.Test.YtbgbmphjjdiaeaaDoorChars3
import Derived.Shelf.Unicode.DecodeSlow
import Derived.Lib.FieldsP
import Derived.Lib.Join
namespace Go.Proofs.YtbgbmphjjdiaeaaDoor.T
open Go Go.Lib
set_option linter.unusedVariables false
theorem get_byt (s : ByteArray) (i : Nat) : (s.get! i).toNat = byt s.data.toList i := by
  obtain ⟨a⟩ := s
  unfold byt ByteArray.get!
  congr 1
  by_cases h : i < a.size
  · simp [h]
  · simp [h]; rfl
theorem byt_drop (l : List UInt8) (i k : Nat) : byt (l.drop i) k = byt l (i + k) := by
  unfold byt
  rw [List.getD_eq_getElem?_getD, List.getElem?_drop, List.getD_eq_getElem?_getD]
theorem decode_dec (s : ByteArray) (i : Nat) : Utf8.decode s i = dec (s.data.toList.drop i) := by
  rw [decode_at]
  unfold dec
  rw [byt_drop, byt_drop, byt_drop, byt_drop, get_byt, get_byt, get_byt, get_byt, List.length_drop]
  rfl
theorem decodeGo_dec (s : ByteArray) (h : s.size ≠ 0) : decodeGo s = dec s.data.toList := by
  unfold decodeGo
  rw [if_neg h, decode_dec]
  rfl
theorem encs_cons (r : Nat) (l : List Nat) : encs (r :: l) = enc r ++ encs l := rfl
theorem decode_encs (s : ByteArray) (a : List Nat) (r : Nat) (b : List Nat) (h : okR r) (hs : s.data.toList = encs a ++ encs (r :: b)) : Utf8.decode s (encs a).length = (r, (enc r).length) := by
  rw [decode_dec, hs, List.drop_left, encs_cons, dec_enc h]
/-! []rune(text) -/
theorem runesFrom_encs (s : ByteArray) : ∀ (b a : List Nat) (k : Nat) (acc : Array Value), (∀ r ∈ b, okR r) → s.data.toList = encs a ++ encs b → (encs b).length ≤ k →
    Conv.runesFrom s k (encs a).length acc = acc ++ (b.map fun (r : Nat) => Value.int .i32 (r : Int)).toArray := by
  intro b
  induction b with
  | nil =>
    intro a k acc _ hs _
    have hsz : s.size = (encs a).length := by
      have := congrArg List.length hs
      simp [encs] at this ⊢
      exact this
    cases k with
    | zero => simp [Conv.runesFrom]
    | succ k => rw [Conv.runesFrom, if_neg (by omega)]; simp
  | cons r b ih =>
    intro a k acc hb hs hk
    have hp := enc_pos r
    have hl : (encs (r :: b)).length = (enc r).length + (encs b).length := by rw [encs_cons, List.length_append]
    have hsz : s.size = (encs a).length + (encs (r :: b)).length := by
      have := congrArg List.length hs
      rw [List.length_append] at this
      simpa using this
    obtain ⟨k, rfl⟩ : ∃ q, k = q + 1 := ⟨k - 1, by omega⟩
    rw [Conv.runesFrom, if_pos (by omega)]
    simp only [decode_encs s a r b (hb r (by simp)) hs]
    have e : (encs a).length + (enc r).length = (encs (a ++ [r])).length := by rw [encs_append, List.length_append, encs_cons]; simp [encs]
    rw [e, ih (a ++ [r]) k _ (fun x hx => hb x (by simp [hx])) (by rw [hs, encs_append, encs_cons, encs_cons]; simp [encs]) (by omega)]
    simp
theorem runesFrom_clean (s : ByteArray) (l : List Nat) (h : ∀ r ∈ l, okR r) (hs : s.data.toList = encs l) : Conv.runesFrom s s.size 0 #[] = (l.map fun (r : Nat) => Value.int .i32 (r : Int)).toArray := by
  have := runesFrom_encs s l [] s.size #[] h (by simp [hs, encs]) (by rw [← hs]; simp)
  simpa [encs] using this
/-! strings.FieldsFunc -/
def mk (l : List Nat) : ByteArray := ⟨(encs l).toArray⟩
theorem extract_mid (s : ByteArray) (a b c : List UInt8) (hs : s.data.toList = a ++ b ++ c) : s.extract a.length (a.length + b.length) = ⟨b.toArray⟩ := by
  have e : (s.extract a.length (a.length + b.length)).data.toList = b := by
    rw [ByteArray.data_extract, Array.toList_extract, hs]
    rw [List.extract_eq_take_drop, List.append_assoc, List.drop_left]
    simp
  have : (s.extract a.length (a.length + b.length)).data = b.toArray := Array.toList_inj.1 (by rw [e])
  exact congrArg ByteArray.mk this
theorem spans_none (p : Nat → Bool) (s : ByteArray) (f pos : Nat) (acc : List (Nat × Nat)) (h : pos < s.size) :
    spansFromP p s (f + 1) pos none acc = if p (Utf8.decode s pos).1 = true then spansFromP p s f (pos + (Utf8.decode s pos).2) none acc else spansFromP p s f (pos + (Utf8.decode s pos).2) (some pos) acc := by simp [spansFromP, h]
theorem spans_some (p : Nat → Bool) (s : ByteArray) (f pos a : Nat) (acc : List (Nat × Nat)) (h : pos < s.size) :
    spansFromP p s (f + 1) pos (some a) acc = if p (Utf8.decode s pos).1 = true then spansFromP p s f (pos + (Utf8.decode s pos).2) none (acc ++ [(a, pos)]) else spansFromP p s f (pos + (Utf8.decode s pos).2) (some a) acc := by simp [spansFromP, h]
theorem spans_encs (p : Nat → Bool) (s : ByteArray) : ∀ (b a cur : List Nat) (k : Nat) (acc : List (Nat × Nat)), (∀ r ∈ b, okR r) → s.data.toList = encs a ++ encs cur ++ encs b → (encs b).length ≤ k →
    (closeSpans s (spansFromP p s k ((encs a).length + (encs cur).length) (if cur.length = 0 then none else some (encs a).length) acc)).map (fun x => s.extract x.1 x.2) = acc.map (fun x => s.extract x.1 x.2) ++ (wordsA p b cur).map mk := by
  intro b
  induction b with
  | nil =>
    intro a cur k acc _ hs _
    have hsz : s.size = (encs a).length + (encs cur).length := by
      have := congrArg List.length hs
      simp [encs] at this ⊢
      exact this
    rw [spansFromP_end _ _ _ _ _ _ (by omega), wordsA]
    by_cases e : cur.length = 0
    · rw [if_pos e, if_pos e]
      simp [closeSpans]
    · rw [if_neg e, if_neg e]
      simp only [closeSpans, List.map_append, List.map_cons, List.map_nil]
      rw [hsz, extract_mid s (encs a) (encs cur) (encs []) hs]
      rfl
  | cons r b ih =>
    intro a cur k acc hb hs hk
    have hp := enc_pos r
    have hl : (encs (r :: b)).length = (enc r).length + (encs b).length := by rw [encs_cons, List.length_append]
    have hsz : s.size = (encs a).length + (encs cur).length + (encs (r :: b)).length := by
      have := congrArg List.length hs
      rw [List.length_append, List.length_append] at this
      simpa using this
    obtain ⟨k, rfl⟩ : ∃ q, k = q + 1 := ⟨k - 1, by omega⟩
    have hd : Utf8.decode s ((encs a).length + (encs cur).length) = (r, (enc r).length) := by
      have := decode_encs s (a ++ cur) r b (hb r (by simp)) (by rw [encs_append]; exact hs)
      rw [encs_append, List.length_append] at this
      exact this
    have hc1 : ∀ x : List Nat, (encs (x ++ [r])).length = (encs x).length + (enc r).length := fun x => by rw [encs_append, List.length_append, encs_cons]; simp [encs]
    by_cases e : cur.length = 0
    · have e' : cur = [] := List.eq_nil_of_length_eq_zero e
      subst e'
      rw [if_pos e, spans_none _ _ _ _ _ (by omega), hd, wordsA]
      by_cases hw : p r = true
      · rw [if_pos hw, if_pos hw, if_pos e]
        have := ih (a ++ [r]) [] k acc (fun x hx => hb x (by simp [hx])) (by rw [hs, encs_append, encs_cons, encs_cons]; simp [encs]) (by omega)
        rw [if_pos e, hc1] at this
        rw [← this]
        simp [encs]
      · rw [if_neg hw, if_neg hw]
        have := ih a [r] k acc (fun x hx => hb x (by simp [hx])) (by rw [hs, encs_cons, encs_cons]; simp [encs]) (by omega)
        rw [if_neg (by simp)] at this
        rw [List.nil_append, ← this]
        simp [encs]
    · rw [if_neg e, spans_some _ _ _ _ _ _ (by omega), hd, wordsA]
      by_cases hw : p r = true
      · rw [if_pos hw, if_pos hw, if_neg e]
        have := ih (a ++ cur ++ [r]) [] k (acc ++ [((encs a).length, (encs a).length + (encs cur).length)]) (fun x hx => hb x (by simp [hx])) (by rw [hs, encs_append, encs_append, encs_cons, encs_cons]; simp [encs]) (by omega)
        rw [if_pos (by rfl), hc1, encs_append, List.length_append, show encs [] = [] from rfl, List.length_nil, Nat.add_zero] at this
        rw [this]
        simp only [List.map_append, List.map_cons, List.map_nil, List.append_assoc]
        rw [extract_mid s (encs a) (encs cur) (encs (r :: b)) hs]
        rfl
      · rw [if_neg hw, if_neg hw]
        have := ih a (cur ++ [r]) k acc (fun x hx => hb x (by simp [hx])) (by rw [hs, encs_append, encs_cons, encs_cons]; simp [encs]) (by omega)
        rw [if_neg (by simp), hc1, ← Nat.add_assoc] at this
        exact this
theorem fields_encs (p : Nat → Bool) (s : ByteArray) (l : List Nat) (h : ∀ r ∈ l, okR r) (hs : s.data.toList = encs l) : goFieldsP p s = (wordsA p l []).map mk := by
  have := spans_encs p s l [] [] s.size [] h (by simp [hs, encs]) (by rw [← hs]; simp)
  rw [if_pos List.length_nil, show encs [] = [] from rfl, List.length_nil] at this
  simpa [goFieldsP, spansOfP] using this
theorem join_mk (ws : List (List Nat)) : Lib.join ((ws.map mk).map (·.data.toList)) [32] = encs (joinW 32 ws) := by
  induction ws with
  | nil => rfl
  | cons x r ih =>
    match r with
    | [] =>
      rw [List.map_cons, List.map_cons, List.map_nil, List.map_nil, join_one, joinW]
      simp [mk]
    | y :: r =>
      rw [List.map_cons, List.map_cons, join_cons, joinW, encs_append, encs_cons, ← ih]
      rw [List.map_cons, List.map_cons, join_cons, joinTail, List.map_cons, List.flatten_cons, joinTail, show enc 32 = [32] from by rw [enc_one (by omega)]; rfl]
      simp [mk]
/-! text.Clean, a step -/
theorem enc_bad : enc 65533 = [239, 191, 189] := by rw [enc_three (by omega)]; rfl
theorem clean_nil : clean [] = [] := rfl
theorem clean_cons (x : UInt8) (l : List UInt8) : clean (x :: l) = enc (fixR (dec (x :: l)).1) ++ clean ((x :: l).drop (dec (x :: l)).2) := by
  unfold clean
  rw [runes_cons (by simp), encs_cons]
theorem clean_zero (x : UInt8) (l : List UInt8) (h : x.toNat = 0) : clean (x :: l) = [239, 191, 189] ++ clean l := by
  rw [clean_cons, dec_ascii x l (by omega), h]
  simp only [fixR]
  rw [if_pos trivial, enc_bad]; rfl
theorem clean_bad (x : UInt8) (l : List UInt8) (h : 128 ≤ x.toNat) (h1 : (dec (x :: l)).2 = 1) : clean (x :: l) = [239, 191, 189] ++ clean l := by
  rw [clean_cons]
  rcases (dec_spec x l).2.2.2 with ⟨_, e⟩ | ⟨_, _, e⟩
  · rw [e]
    simp only [fixR]
    rw [if_neg (by omega), enc_bad]; rfl
  · have := (e h).2
    omega
theorem clean_good (x : UInt8) (l : List UInt8) (h : x.toNat ≠ 0) (h1 : ¬ ((dec (x :: l)).2 = 1 ∧ 128 ≤ x.toNat)) : clean (x :: l) = (x :: l).take (dec (x :: l)).2 ++ clean ((x :: l).drop (dec (x :: l)).2) := by
  rw [clean_cons]
  congr 1
  rcases (dec_spec x l).2.2.2 with ⟨h2, e⟩ | ⟨e, e1, e2⟩
  · exact absurd ⟨by rw [e], h2⟩ h1
  · rw [e]
    congr 1
    unfold fixR
    by_cases hx : x.toNat < 128
    · rw [e1 hx]
      exact if_neg h
    · exact if_neg (by have := (e2 (by omega)).1; omega)
theorem clean_len : ∀ (n : Nat) (l : List UInt8), l.length ≤ n → (clean l).length ≤ 3 * l.length := by
  intro n
  induction n with
  | zero =>
    intro l h
    have : l = [] := List.eq_nil_of_length_eq_zero (by omega)
    subst this
    simp [clean_nil]
  | succ n ih =>
    intro l h
    match l with
    | [] => simp [clean_nil]
    | x :: l =>
      simp at h
      by_cases h0 : x.toNat = 0
      · rw [clean_zero x l h0]
        have := ih l h
        simp; omega
      · by_cases h1 : (dec (x :: l)).2 = 1 ∧ 128 ≤ x.toNat
        · rw [clean_bad x l h1.2 h1.1]
          have := ih l h
          simp; omega
        · rw [clean_good x l h0 h1]
          obtain ⟨h2, h3, _⟩ := dec_spec x l
          have := ih ((x :: l).drop (dec (x :: l)).2) (by rw [List.length_drop]; simp; omega)
          rw [List.length_drop] at this
          rw [List.length_append, List.length_take]
          simp at this ⊢
          omega
theorem clean_le (l : List UInt8) : (clean l).length ≤ 3 * l.length := clean_len l.length l (Nat.le_refl _)
theorem encs_len (l : List Nat) : l.length ≤ (encs l).length ∧ (encs l).length ≤ 4 * l.length := by
  induction l with
  | nil => exact ⟨Nat.le_refl _, Nat.le_refl _⟩
  | cons r l ih =>
    have := enc_pos r
    rw [encs_cons, List.length_append, List.length_cons]
    omega
theorem runes_len (l : List UInt8) : (runes l).length ≤ 3 * l.length := by
  have := (encs_len (runes l)).1
  have := clean_le l
  unfold clean at this
  omega
end Go.Proofs.YtbgbmphjjdiaeaaDoor.T
