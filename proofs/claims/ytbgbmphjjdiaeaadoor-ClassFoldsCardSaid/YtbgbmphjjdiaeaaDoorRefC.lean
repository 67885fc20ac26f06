/- The reference's texts without capitals, and labels. -/
import Derived.Test.YtbgbmphjjdiaeaaDoorPk10
import Derived.Test.YtbgbmphjjdiaeaaDoorRefB
import Derived.Test.YtbgbmphjjdiaeaaDoorForms
import Derived.Test.YtbgbmphjjdiaeaaDoorClassP
namespace Go.Proofs.YtbgbmphjjdiaeaaDoor.P
open Go.RowKit Go.Proofs.YtbgbmphjjdiaeaaDoorW.PrintWords Go.Proofs.YtbgbmphjjdiaeaaDoorW.PrintLast Go.Proofs.YtbgbmphjjdiaeaaDoorW.PrintMore
set_option linter.unusedVariables false
set_option linter.unusedSimpArgs false
theorem encode_enc (r : Nat) (h : T.okR r) : Utf8.encode (r : Int) = ⟨(T.enc r).toArray⟩ := by
  have hv : Utf8.valid (r : Int) = true := by
    unfold Utf8.valid
    unfold T.okR at h
    simp
    omega
  unfold Utf8.encode
  rw [hv]
  simp only [if_true, Int.toNat_natCast]
  rcases T.enc_cases h with h1 | ⟨h1, h2⟩ | h1 | ⟨h1, h2⟩
  · rw [if_pos h1, T.enc_one h1]
  · rw [if_neg (by omega), if_pos (by omega), T.enc_two h1 h2]
  · rw [if_neg (by omega), if_neg (by omega), if_pos (by omega), T.enc_three h1]
  · rw [if_neg (by omega), if_neg (by omega), if_neg (by omega), T.enc_four h1 h2]
def capSpans : List (Int × Int) := [(65, 90), (192, 214), (216, 222), (913, 929), (931, 939), (1040, 1071)]
theorem caps_iff (r : Nat) : (inSpans capSpans (r : Int) = true) = ((65 ≤ r ∧ r ≤ 90) ∨ (192 ≤ r ∧ r ≤ 222 ∧ r ≠ 215) ∨ (913 ≤ r ∧ r ≤ 939 ∧ r ≠ 930) ∨ (1040 ≤ r ∧ r ≤ 1071)) := by
  simp only [inSpans, capSpans, List.any_cons, List.any_nil, Bool.or_false, Bool.or_eq_true, Bool.and_eq_true, decide_eq_true_eq]
  apply propext
  omega
theorem caps2_iff (r : Nat) : (inSpans [(1024, 1039)] (r : Int) = true) = (1024 ≤ r ∧ r ≤ 1039) := by
  simp only [inSpans, List.any_cons, List.any_nil, Bool.or_false, Bool.and_eq_true, decide_eq_true_eq]
  apply propext
  omega
theorem encs_one (r : Nat) : T.encs [r] = T.enc r := by simp [T.encs]
theorem refFold1_f (r : Nat) (h : T.good r) (k : Nat) (hk : 8 ≤ k) : incipitref03_fold.f k (r : Int) = some ⟨(T.encs (T.foldR r)).toArray⟩ := by
  obtain ⟨k, rfl⟩ : ∃ q, k = q + 1 := ⟨k - 1, by omega⟩
  have a1 : incipitref03_among.f k (r : Int) ([65, 90, 192, 214, 216, 222, 913, 929, 931, 939, 1040, 1071] : List Int) = some (inSpans capSpans (r : Int)) := among_f capSpans (r : Int) (by decide) k (by show 6 < k; omega)
  have a2 : incipitref03_among.f k (r : Int) ([1024, 1039] : List Int) = some (inSpans [(1024, 1039)] (r : Int)) := among_f [(1024, 1039)] (r : Int) (by decide) k (by show 1 < k; omega)
  have hb := h.1
  unfold T.okR at hb
  have ss : (⟨#[115, 115]⟩ : ByteArray) = ⟨(T.encs [115, 115]).toArray⟩ := by
    rw [T.encs_cons, encs_one, T.enc_one (by omega)]; rfl
  unfold incipitref03_fold.f T.foldR
  by_cases c0 : r = 223
  · rw [if_pos (by omega), if_pos (.inl c0), incipitref03_fold.j0, if_pos rfl, ss]
  · rw [if_neg (by omega), incipitref03_fold.j0]
    by_cases c1 : r = 7838
    · rw [if_pos (show ((r : Int) == 7838) = true from by rw [beq_iff_eq]; omega), if_pos (show r = 223 ∨ r = 7838 from .inr c1), ss]
    · rw [if_neg (show ¬ (r = 223 ∨ r = 7838) by omega), if_neg (by rw [beq_iff_eq]; omega), a1, Option.bind_some, a2]
      by_cases c3 : (65 ≤ r ∧ r ≤ 90) ∨ (192 ≤ r ∧ r ≤ 222 ∧ r ≠ 215) ∨ (913 ≤ r ∧ r ≤ 939 ∧ r ≠ 930) ∨ (1040 ≤ r ∧ r ≤ 1071)
      · rw [if_pos (by rw [caps_iff]; exact c3), if_neg (show ¬ r = 962 by omega), if_pos c3, encs_one, ← encode_enc (r + 32) (by unfold T.okR; omega)]
        congr 2
        unfold wrap32
        omega
      · rw [if_neg (by rw [caps_iff]; exact c3), Option.bind_some]
        by_cases c4 : 1024 ≤ r ∧ r ≤ 1039
        · rw [if_pos (by rw [caps2_iff]; exact c4), if_neg (show ¬ r = 962 by omega), if_neg c3, if_pos c4, encs_one, ← encode_enc (r + 80) (by unfold T.okR; omega)]
          congr 2
          unfold wrap32
          omega
        · rw [if_neg (by rw [caps2_iff]; exact c4)]
          by_cases c5 : r = 962
          · rw [if_pos (by omega), if_pos c5, encs_one, T.enc_two (by omega) (by omega)]
            rfl
          · rw [if_neg (by omega), if_neg c5, if_neg c3, if_neg c4, encs_one, encode_enc r h.1]
theorem ints_rd (R : List Nat) (i : Nat) : rd (ints R) (i : Int) = ((R.getD i 0 : Nat) : Int) := by
  unfold rd ints
  rw [Int.toNat_natCast, List.getD_eq_getElem?_getD, List.getElem?_map, List.getD_eq_getElem?_getD]
  cases R[i]? <;> rfl
theorem ints_len (R : List Nat) : (ints R).length = R.length := by simp [ints]
theorem mk_app2 (x y : List UInt8) : ((⟨x.toArray⟩ : ByteArray) ++ (⟨y.toArray⟩ : ByteArray)) = ⟨(x ++ y).toArray⟩ := by
  apply ByteArray.ext
  simp
theorem refFold_loop (R : List Nat) (hR : ∀ r ∈ R, T.good r) (hl : R.length ≤ 4294967296) : ∀ (d i k : Nat) (acc : List UInt8), i + d = R.length → d + 8 < k → acc.length + 8 * d ≤ 140737488355328 → incipitref03_Fold.l0 k ⟨acc.toArray⟩ (ints R) (i : Int) = some ⟨(acc ++ T.encs (T.foldL (R.drop i))).toArray⟩ := by
  intro d
  induction d with
  | zero =>
    intro i k acc hi hk _
    obtain ⟨k, rfl⟩ : ∃ q, k = q + 1 := ⟨k - 1, by omega⟩
    rw [incipitref03_Fold.l0, if_neg (by rw [ints_len]; omega), List.drop_of_length_le (by omega)]
    simp [T.foldL, T.encs]
  | succ d ih =>
    intro i k acc hi hk ha
    obtain ⟨k, rfl⟩ : ∃ q, k = q + 1 := ⟨k - 1, by omega⟩
    have hlt : i < R.length := by omega
    have hg : R.getD i 0 = R[i] := by rw [List.getD_eq_getElem?_getD, List.getElem?_eq_getElem hlt]; rfl
    have hw : wrap64 ((i : Int) + 1) = ((i + 1 : Nat) : Int) := by unfold wrap64; omega
    have h8 : (T.encs (T.foldR R[i])).length ≤ 8 := by have := encs_foldL_len [R[i]]; simpa [T.foldL] using this
    rw [incipitref03_Fold.l0, ints_rd, hg, hw]
    clear hw
    rw [if_pos (by rw [ints_len]; omega), if_pos (by omega), refFold1_f R[i] (hR _ (List.getElem_mem hlt)) k (by omega), Option.bind_some, if_pos (by rw [mk_size, mk_size]; omega), mk_app2, ih (i + 1) k _ (by omega) (by omega) (by rw [List.length_append]; omega), List.drop_eq_getElem_cons hlt, T.foldL_cons, T.encs_append, List.append_assoc]
theorem refFold_f (l : List UInt8) (hl : l.length ≤ 1073741824) (k : Nat) (hk : 3 * l.length + 8 < k) : incipitref03_Fold.f k ⟨l.toArray⟩ = some ⟨(T.foldS l).toArray⟩ := by
  have hr := T.runes_len l
  unfold incipitref03_Fold.f incipitref01_Runes.f
  rw [if_pos (by rw [mk_size]; exact hl), Option.bind_some, mk_data]
  have := refFold_loop (T.runes l) (T.runes_ok l) (by omega) (T.runes l).length 0 k [] (by omega) (by omega) (by simp; omega)
  rw [List.nil_append, List.drop_zero] at this
  exact this
/-! labels -/
theorem join_snoc {α : Type} (sp : α) (x : List α) : ∀ ws : List (List α), ws ≠ [] → T.joinW sp (ws ++ [x]) = T.joinW sp ws ++ sp :: x
  | [y], _ => rfl
  | y :: z :: r, _ => by
    have := join_snoc sp x (z :: r) (by simp)
    show y ++ sp :: T.joinW sp ((z :: r) ++ [x]) = (y ++ sp :: T.joinW sp (z :: r)) ++ sp :: x
    rw [this]
    simp
theorem join_ext {α : Type} (sp c : α) (x : List α) (ws : List (List α)) : T.joinW sp (ws ++ [x ++ [c]]) = T.joinW sp (ws ++ [x]) ++ [c] := by
  cases ws with
  | nil => rfl
  | cons y r => rw [join_snoc sp _ (y :: r) (by simp), join_snoc sp _ (y :: r) (by simp)]; simp
theorem join_pos {α : Type} (sp : α) : ∀ ws : List (List α), (∀ x ∈ ws, x ≠ []) → ws ≠ [] → 0 < (T.joinW sp ws).length
  | [x], h, _ => List.length_pos_iff.2 (h x (by simp))
  | x :: y :: r, h, _ => by rw [T.joinW, List.length_append, List.length_cons]; omega
def curW (cur : List UInt8) : List (List UInt8) := if cur.length = 0 then [] else [cur]
theorem strOf (l : List UInt8) : strOfNums (bints l) = ⟨l.toArray⟩ := bints_str l
theorem bt_byt (a : ByteArray) (i : Nat) (h : i < a.size) : bt a (i : Int) = ((a.data.toList[i]'(by simpa using h)).toNat : Int) := by
  unfold bt
  rw [dif_pos (by rw [Int.toNat_natCast]; exact h)]
  rfl
theorem refLabel_loop (a : ByteArray) (hs : a.size ≤ 1000000) : ∀ (d i k : Nat) (ws : List (List UInt8)) (cur b : List UInt8) (gap : Bool), i + d = a.size → (∀ x ∈ ws, x ≠ []) → b = T.joinW 32 (ws ++ curW cur) → gap = (decide (cur.length = 0) && decide (ws ≠ [])) → b.length + 2 * d ≤ 2000000 → 2 * d + 6000100 < k →
    incipitref03_Label.l0 k a (bints b) gap (i : Int) = some ⟨(T.foldS (T.joinW 32 (ws ++ T.wordsA T.whiteB (a.data.toList.drop i) cur))).toArray⟩ := by
  intro d
  induction d with
  | zero =>
    intro i k ws cur b gap hi hw hb hg hl hk
    obtain ⟨k, rfl⟩ : ∃ q, k = q + 1 := ⟨k - 1, by omega⟩
    rw [incipitref03_Label.l0, if_neg (by omega), strOf, refFold_f b (by omega) k (by omega), Option.bind_some, List.drop_of_length_le (by simp; omega), T.wordsA, hb]
    rfl
  | succ d ih =>
    intro i k ws cur b gap hi hw hb hg hl hk
    obtain ⟨k, rfl⟩ : ∃ q, k = q + 1 + 1 := ⟨k - 2, by omega⟩
    have hlt : i < a.size := by omega
    have hlt' : i < a.data.toList.length := by simpa using hlt
    obtain ⟨c, hc⟩ : ∃ c, c = a.data.toList[i]'hlt' := ⟨_, rfl⟩
    have hbt := bt_byt a i hlt
    rw [← hc] at hbt
    have hdr : a.data.toList.drop i = c :: a.data.toList.drop (i + 1) := by rw [hc]; exact List.drop_eq_getElem_cons hlt'
    have hw1 : wrap64 ((i : Int) + 1) = ((i + 1 : Nat) : Int) := by unfold wrap64; omega
    have hwh : (if (bt a (i : Int)) = 32 then (incipitref03_Label.j1 (k + 1) a (bints b) gap (i : Int) true) else (if (bt a (i : Int)) ≥ 9 then (incipitref03_Label.j1 (k + 1) a (bints b) gap (i : Int) (decide ((bt a (i : Int)) ≤ 13))) else (incipitref03_Label.j1 (k + 1) a (bints b) gap (i : Int) false))) = incipitref03_Label.j1 (k + 1) a (bints b) gap (i : Int) (T.whiteB c) := by
      rw [hbt]
      show _ = incipitref03_Label.j1 (k + 1) a (bints b) gap (i : Int) (T.whiteN c.toNat)
      by_cases h32 : c.toNat = 32
      · have e : T.whiteN c.toNat = true := by rw [h32]; rfl
        rw [if_pos (by omega), e]
      · rw [if_neg (by omega)]
        by_cases h9 : 9 ≤ c.toNat
        · have e : T.whiteN c.toNat = decide ((c.toNat : Int) ≤ 13) := by
            unfold T.whiteN
            rw [beq_eq_false_iff_ne.2 h32, decide_eq_true h9, Bool.false_or, Bool.true_and]
            by_cases h13 : c.toNat ≤ 13
            · rw [decide_eq_true h13, decide_eq_true (by omega)]
            · rw [decide_eq_false h13, decide_eq_false (by omega)]
          rw [if_pos (by omega), e]
        · have e : T.whiteN c.toNat = false := by
            unfold T.whiteN
            rw [beq_eq_false_iff_ne.2 h32, decide_eq_false h9]; rfl
          rw [if_neg (by omega), e]
    rw [incipitref03_Label.l0, if_pos (by omega), if_pos (by omega), hwh, hdr, incipitref03_Label.j1, hw1, hbt]
    clear hw1 hwh hbt
    by_cases hcw : T.whiteB c = true
    · rw [if_pos hcw, T.wordsA, if_pos hcw]
      have hgap : decide (((bints b).length : Int) > 0) = (decide (([] : List UInt8).length = 0) && decide (ws ++ curW cur ≠ [])) := by
        rw [bints_len]
        by_cases he : ws ++ curW cur = []
        · rw [hb, he]; simp [T.joinW]
        · have := join_pos (32 : UInt8) (ws ++ curW cur) (fun x hx => by
            rcases List.mem_append.1 hx with hx | hx
            · exact hw x hx
            · unfold curW at hx
              split at hx
              · cases hx
              · simp at hx; rw [hx]; intro e; rename_i hn; exact hn (by rw [e]; rfl)) he
          rw [← hb] at this
          rw [decide_eq_true (show ((b.length : Nat) : Int) > 0 by omega), decide_eq_true (show ws ++ curW cur ≠ [] from he)]
          rfl
      rw [hgap, ih (i + 1) k (ws ++ curW cur) [] b _ (by omega) (fun x hx => by
        rcases List.mem_append.1 hx with hx | hx
        · exact hw x hx
        · unfold curW at hx
          split at hx
          · cases hx
          · simp at hx; rw [hx]; intro e; rename_i hn; exact hn (by rw [e]; rfl)) (by rw [hb]; simp [curW]) rfl (by omega) (by omega)]
      unfold curW
      by_cases he : cur.length = 0
      · rw [if_pos he, if_pos he]; simp
      · rw [if_neg he, if_neg he]; simp
    · rw [if_neg hcw, T.wordsA, if_neg hcw]
      have hcs : ((c.toNat : Int) :: []) = bints [c] := rfl
      by_cases hgp : gap = true
      · rw [if_pos hgp]
        rw [hg] at hgp
        simp only [Bool.and_eq_true, decide_eq_true_eq] at hgp
        obtain ⟨g1, g2⟩ := hgp
        have hcn : cur = [] := List.eq_nil_of_length_eq_zero g1
        have hbj : b = T.joinW 32 ws := by rw [hb, hcn]; simp [curW]
        rw [if_pos (by rw [bints_len]; omega), Option.bind_some, if_pos (by omega), if_pos (by omega), if_pos (by rw [List.length_append, bints_len]; simp; omega), show ([32] : List Int) = bints [32] from rfl, hcs, ← bints_append, ← bints_append]
        rw [ih (i + 1) k ws [c] _ false (by omega) hw (by rw [show curW [c] = [[c]] from rfl, join_snoc 32 [c] ws g2, hbj]; simp) (by simp) (by simp; omega) (by omega), hcn]
        rfl
      · rw [if_neg hgp, if_pos (by omega), if_pos (by omega), if_pos (by rw [bints_len]; omega), hcs, ← bints_append]
        have hgf : gap = false := by simpa using hgp
        rw [ih (i + 1) k ws (cur ++ [c]) _ false (by omega) hw ?_ (by simp) (by simp; omega) (by omega)]
        have e1 : curW (cur ++ [c]) = [cur ++ [c]] := by unfold curW; rw [if_neg (by simp)]
        rw [e1, hb]
        by_cases he : cur.length = 0
        · have hcn : cur = [] := List.eq_nil_of_length_eq_zero he
          have hwn : ws = [] := by
            rw [hgf, decide_eq_true he, Bool.true_and] at hg
            have := of_decide_eq_false hg.symm
            simpa using this
          rw [hcn, hwn]
          rfl
        · rw [join_ext]
          unfold curW
          rw [if_neg he]
theorem refLabel_f (a : ByteArray) (hs : a.size ≤ 1000000) (k : Nat) (hk : 8000200 ≤ k) : incipitref03_Label.f k a = some ⟨(T.labelS a.data.toList).toArray⟩ := by
  unfold incipitref03_Label.f
  have := refLabel_loop a hs a.size 0 k [] [] [] false (by omega) (by simp) (by simp [curW, T.joinW]) (by simp) (by simp; omega) (by omega)
  rw [List.drop_zero, List.nil_append] at this
  rw [T.labelS_bytes]
  exact this
end Go.Proofs.YtbgbmphjjdiaeaaDoor.P
