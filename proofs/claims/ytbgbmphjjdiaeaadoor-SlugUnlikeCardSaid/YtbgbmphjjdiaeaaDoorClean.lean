/- text.Clean: for every slice of bytes the call returns the cleaned text. -/
import Derived.Test.YtbgbmphjjdiaeaaDoorPk0
import Derived.Test.YtbgbmphjjdiaeaaDoorShelf2
import Derived.Test.YtbgbmphjjdiaeaaDoorChars4
import Derived.Deep.LoopGhost
import Derived.Lib.LaidTab
import Derived.Lib.ItoaNum
namespace Go.Proofs.YtbgbmphjjdiaeaaDoor.P
open Go.RowKit Go.Proofs.YtbgbmphjjdiaeaaDoorW.PrintWords Go.Proofs.YtbgbmphjjdiaeaaDoorW.PrintLast Go.Proofs.YtbgbmphjjdiaeaaDoorW.PrintMore
set_option linter.unusedVariables false
set_option linter.unusedSimpArgs false
/-- The two tables of unicode/utf8 lie as the program's text lays them. -/
def Tabs (w : World) : Prop := Lib.Utf8Tabs 0 1 w ∧ Lib.TabIs Tryd.prog w "internal/strconv.uint64pow10" .u64 Lib.pow10Tab
theorem tabIs_keep {n : String} {g : Nat} {k : IntKind} {zs : List Int} {w w' : World} (hg : Tryd.prog.globalNamed n = some g) (h : Lib.TabIs Tryd.prog w n k zs) (hb : Below w.heap.size w w') : Lib.TabIs Tryd.prog w' n k zs := by
  unfold Lib.TabIs World.var? at h ⊢
  rw [hg] at h ⊢
  simp only [Option.bind_some] at h ⊢
  have hlt : g < w.heap.size := by
    rcases Nat.lt_or_ge g w.heap.size with h' | h'
    · exact h'
    · rw [Array.getElem?_eq_none h'] at h; cases h
  rw [hb.block g hlt]
  exact h
theorem Tabs.below {w w' : World} (h : Tabs w) (hb : Below w.heap.size w w') : Tabs w' := ⟨Utf8Tabs_below h.1 hb, tabIs_keep (g := 3) (by kernel_rfl) h.2 hb⟩
theorem own_step {W W' : World} {B e size n : Nat} {v : Value} {xs : List Value} (h : W.ownsRow B e size v n xs) (hb : Below W.heap.size W W') : W'.ownsRow B e size v n xs :=
  h.kept (row := none) ⟨hb.os, hb.tape, hb.output, hb.size, fun k hk _ => hb.block k hk⟩ (Classical.em _)
theorem bldAt_step {T e B b : Nat} {p : Value} {bs : List Value} {w w1 : World} (h : Lib.BuilderAt T e B b p bs w) (hb : Below w.heap.size w w1) : Lib.BuilderAt T e B b p bs w1 := by
  obtain ⟨h1, v, h2, h3, h4⟩ := h
  exact ⟨h1, v, (hb.block b (Array.getElem?_eq_some_iff.1 h2).1).trans h2, own_step h3 hb, h4⟩
theorem bld_step {T e B b : Nat} {bs : List Value} {w w1 : World} (h : Lib.IsBuilder T e B b bs w) (hb : Below w.heap.size w w1) : Lib.IsBuilder T e B b bs w1 := by
  rcases h with h | h
  · exact .inl (bldAt_step h hb)
  · exact .inr (bldAt_step h hb)
theorem slice_from (b o m c k : Nat) (hk : k ≤ m) (hm : m ≤ c) : ∃ o', (k < c → o' = o + k) ∧ ∀ W : World, (Instr.slice 42 (.slice (some ⟨b, o, none⟩) m c) (some (.int .i64 (k : Int))) none none).run Tryd.prog W = .ok (.slice (some ⟨b, o', none⟩) (m - k) (c - k)) W := by
  have ht : Tryd.prog.underlying 42 = some (.slice (Tryd.prog.elem 42)) := by kernel_rfl
  have hz : ∀ W, (Go.sizeOf (Tryd.prog.elem 42)).run Tryd.prog W = .ok 1 W := fun W => by
    have e : Tryd.prog.elem 42 = 5 := by kernel_rfl
    rw [e]; exact Tryd.sizeOf5 W
  by_cases hc : c = k
  · refine ⟨o, fun h => absurd h (by omega), fun W => ?_⟩
    rw [run_slice_l W 42 _ m c ht .i64 (k : Int) (by omega) (by omega), hz]
    simp [Result.andThen, sliced, hc]
  · refine ⟨o + k, fun _ => rfl, fun W => ?_⟩
    rw [run_slice_l W 42 _ m c ht .i64 (k : Int) (by omega) (by omega), hz]
    simp [Result.andThen, sliced, hc, Addr.add]
theorem slice_to (b o m c k : Nat) (hk : k ≤ m) (hm : m ≤ c) : ∀ W : World, (Instr.slice 42 (.slice (some ⟨b, o, none⟩) m c) none (some (.int .i64 (k : Int))) none).run Tryd.prog W = .ok (.slice (some ⟨b, o, none⟩) k c) W := fun W => by
  have ht : Tryd.prog.underlying 42 = some (.slice (Tryd.prog.elem 42)) := by kernel_rfl
  have hz : ∀ W, (Go.sizeOf (Tryd.prog.elem 42)).run Tryd.prog W = .ok 1 W := fun W => by
    have e : Tryd.prog.elem 42 = 5 := by kernel_rfl
    rw [e]; exact Tryd.sizeOf5 W
  rw [run_slice_h W 42 _ m c ht .i64 (k : Int) (by omega) (by omega), hz]
  simp [Result.andThen, sliced, Addr.add]
structure CInv (l done rest : List UInt8) (b o : Nat) (w wr : World) : Prop where
  cells : ∀ j, j < rest.length → w.cell? ⟨b, o + j, none⟩ = some (.int .u8 ((T.byt rest j : Nat) : Int))
  bld : Lib.IsBuilder 74 5 w.heap.size w.heap.size (Lib.byteCells done) wr
  eq : done ++ T.clean rest = T.clean l
  len : done.length + 3 * rest.length ≤ 3 * l.length
  below : Below w.heap.size w wr
def lenOf : Value → Nat
  | .slice _ n _ => n
  | _ => 0
theorem byt_get (l : List UInt8) (j : Nat) : (((⟨l.toArray⟩ : ByteArray).get! j).toNat) = T.byt l j := by
  rw [T.get_byt]
theorem CInv.write {l done t : List UInt8} {x : UInt8} {b o o' c : Nat} {w w1 w2 : World} (news : List UInt8) (k : Nat) (h : CInv l done (x :: t) b o w w1) (hc : (x :: t).length ≤ c) (ho : k < c → o' = o + k) (hk : 1 ≤ k) (hk2 : k ≤ (x :: t).length)
    (he : T.clean (x :: t) = news ++ T.clean ((x :: t).drop k)) (hn : news.length ≤ 3 * k) (hb : Lib.BuilderAt 74 5 w.heap.size w.heap.size (.pointer (some ⟨w.heap.size, 0, none⟩)) (Lib.byteCells done ++ Lib.byteCells news) w2) (hbl : Below w.heap.size w1 w2) :
    CInv l (done ++ news) ((x :: t).drop k) b o' w w2 := by
  refine ⟨fun j hj => ?_, ?_, ?_, ?_, h.below.trans hbl⟩
  · rw [List.length_drop] at hj
    rw [ho (by omega), Nat.add_assoc, h.cells (k + j) (by omega), T.byt_drop]
  · rw [Lib.byteCells_append]
    exact .inr hb
  · rw [List.append_assoc, ← he]
    exact h.eq
  · have := h.len
    rw [List.length_append, List.length_drop]
    omega
theorem CInv.take {l done rest : List UInt8} {b o : Nat} {w wr : World} (h : CInv l done rest b o w wr) (hbw : b < w.heap.size) (K : Nat) (hK : K ≤ rest.length) :
    (Lib.byteCells (rest.take K)).length = K ∧ (∀ (j : Nat) u, (Lib.byteCells (rest.take K))[j]? = some u → wr.cell? ((⟨b, o, none⟩ : Addr).add j) = some u) ∧ ∀ u ∈ Lib.byteCells (rest.take K), u.oneCell' = true := by
  refine ⟨by rw [Lib.byteCells_length, List.length_take]; omega, fun j u hj => ?_, fun u hu => ?_⟩
  · unfold Lib.byteCells at hj
    rw [List.getElem?_map] at hj
    obtain ⟨c, hc, rfl⟩ := Option.map_eq_some_iff.1 hj
    rw [List.getElem?_take] at hc
    split at hc
    · rename_i hjK
      have := h.cells j (by omega)
      rw [← h.below.cell (p := ⟨b, o + j, none⟩) hbw] at this
      rw [show (⟨b, o, none⟩ : Addr).add j = ⟨b, o + j, none⟩ from by simp [Addr.add], this]
      unfold T.byt
      rw [List.getD_eq_getElem?_getD, hc]
      rfl
    · cases hc
  · unfold Lib.byteCells at hu
    obtain ⟨c, _, rfl⟩ := List.mem_map.1 hu
    rfl
section
set_option maxRecDepth 100000 in
set_option maxHeartbeats 4000000 in
theorem clean_cells (l : List UInt8) (b off cap : Nat) (w : World) (hT : Tabs w) (hbw : b < w.heap.size) (hp : ∀ j, j < l.length → w.cell? ⟨b, off + j, none⟩ = some (.int .u8 ((T.byt l j : Nat) : Int))) (hcap : l.length ≤ cap) (hl : l.length ≤ 1099511627776) :
    Calls Tryd.prog 35 #[.slice (some ⟨b, off, none⟩) l.length cap] w fun e w' => e = .returned (.string ⟨(T.clean l).toArray⟩) ∧ Below w.heap.size w w' := by
  have HT := Aside0.mk hT
  have HI0 : Aside0 (CInv l [] l b off w (w.alloc (.cells #[.pointer none, .slice none 0 0] 74))) := ⟨⟨hp, Lib.fresh_isBuilder 74 5 w, rfl, by simp, below_alloc (Below.refl _ _) _⟩⟩
  obtain ⟨n, en⟩ : ∃ n, n = l.length := ⟨_, rfl⟩
  have HEN := Aside0.mk en
  have HBW := Aside0.mk hbw
  rw [← en] at hcap hl ⊢
  clear hT hp en hbw
  go_enter Tryd.func35, Tryd.ntmps35
  go_wp2_with fail
  go_step3
  go_wp2_with fail
  go_step3
  go_wp2_with fail
  go_loopg [0] n (fun gf v wr => ∃ (done rest : List UInt8) (o c : Nat), v = .slice (some ⟨b, o, none⟩) gf c ∧ gf ≤ c ∧ gf ≤ n ∧ Aside0 (gf = rest.length) ∧ Aside0 (CInv l done rest b o w wr))
  case atStart => exact ⟨[], l, off, cap, rfl, hcap, Nat.le_refl _, HEN, HI0⟩
  case round =>
    clear HI0
    obtain ⟨done, rest, o, c, rfl, hmc, hmn, HM, HI⟩ := hrel
    cases rest with
    | nil =>
      obtain rfl : gk = 0 := HM.out
      have hd : done = T.clean l := by have := HI.out.eq; rw [T.clean_nil, List.append_nil] at this; exact this
      subst hd
      have CS : Aside0 (Calls Tryd.prog 56 #[.pointer (some ⟨w.heap.size, 0, none⟩)] wr fun e w' => e = .returned (.string ⟨(T.clean l).toArray⟩) ∧ Below w.heap.size wr w') := ⟨Tryd.Builder_String_any w.heap.size w.heap.size (T.clean l) wr HI.out.bld HI.out.below.size⟩
      go_wp2_with (go_at_call 56; refine CS.out.mono ?_; rintro e w2 ⟨rfl, hb⟩; have HB := Aside0.mk hb; clear hb)
      rw [Exit.noGoto_ret]
      go_ret
      exact ⟨rfl, HI.out.below.trans HB.out⟩
    | cons x t =>
      obtain ⟨g', rfl⟩ : ∃ g', gk = g' + 1 := ⟨t.length, HM.out⟩
      obtain ⟨R, hR⟩ : ∃ R, R = (T.dec (x :: t)).1 := ⟨_, rfl⟩
      obtain ⟨K, hK⟩ : ∃ K, K = (T.dec (x :: t)).2 := ⟨_, rfl⟩
      obtain ⟨X, hX⟩ : ∃ X, X = x.toNat := ⟨_, rfl⟩
      have hds := T.dec_step (l := x :: t) (by simp)
      have hlen : (x :: t).length = g' + 1 := HM.out.symm
      rw [← hK, hlen] at hds
      obtain ⟨hK1, hK2⟩ := hds
      have c0 : w.cell? ⟨b, o, none⟩ = some (.int .u8 (X : Int)) := by rw [hX]; exact HI.out.cells 0 (by simp)
      have hX2 : X < 256 := by rw [hX]; exact x.toNat_lt
      have CD : Aside0 (Calls Tryd.prog 62 #[.slice (some ⟨b, o, none⟩) (g' + 1) c] wr fun e w' => e = .returned (.tuple #[.int .i32 (R : Int), .int .i64 (K : Int)]) ∧ Below wr.heap.size wr w') := ⟨by
        have h := Tryd.utf8_DecodeRune ⟨(x :: t).toArray⟩ b o c wr (Tabs.below HT.out HI.out.below).1 (fun j hj => by
          have hj' : j < (x :: t).length := by simpa [ByteArray.size] using hj
          rw [byt_get, HI.out.below.cell (p := ⟨b, o + j, none⟩) HBW.out]
          exact HI.out.cells j hj')
        have hsz : (⟨(x :: t).toArray⟩ : ByteArray).size = g' + 1 := by rw [← hlen]; simp [ByteArray.size]
        rw [T.decodeGo_dec _ (by rw [hsz]; omega), hsz] at h
        rw [hR, hK]
        exact h⟩
      obtain ⟨o1, ho1, hs1⟩ := slice_from b o (g' + 1) c 1 (by omega) hmc
      obtain ⟨oK, hoK, hsK⟩ := slice_from b o (g' + 1) c K hK2 hmc
      have htK := slice_to b o (g' + 1) c K hK2 hmc
      have HO1 := Aside0.mk ho1
      have HOK := Aside0.mk hoK
      have HR := Aside0.mk hR
      have HK := Aside0.mk hK
      have HX := Aside0.mk hX
      have HLN := Aside0.mk hlen
      have HC0 := Aside0.mk c0
      clear hR hK hX hlen ho1 hoK c0
      have step : ∀ w', Below wr.heap.size wr w' → w'.cell? ⟨b, o, none⟩ = some (.int .u8 (X : Int)) ∧ CInv l done (x :: t) b o w w' := fun w' hb => by
        have hB : Below w.heap.size w w' := HI.out.below.trans (hb.mono HI.out.below.size)
        exact ⟨(hB.cell (p := ⟨b, o, none⟩) HBW.out).trans HC0.out, HI.out.cells, bld_step HI.out.bld hb, HI.out.eq, HI.out.len, hB⟩
      have STEP := Aside0.mk step
      clear step
      have hlt : (0 : Int) < ((g' + 1 : Nat) : Int) := by omega
      have hs1' : ∀ W : World, (Instr.slice 42 (.slice (some ⟨b, o, none⟩) (g' + 1) c) (some (.int .i64 1)) none none).run Tryd.prog W = .ok (.slice (some ⟨b, o1, none⟩) g' (c - 1)) W := fun W => hs1 W
      have HDL : Aside0 ((Lib.byteCells done).length + 3 ≤ 140737488355328 ∧ (Lib.byteCells done).length + K ≤ 140737488355328) := ⟨by
        rw [Lib.byteCells_length]
        have := HI.out.len
        have := HEN.out
        omega⟩
      have hct : g' ≤ c - 1 := by omega
      have hcK : g' + 1 - K ≤ c - K := by omega
      clear hs1
      by_cases hx0 : X = 0
      · have HCL : Aside0 (T.clean (x :: t) = [239, 191, 189] ++ T.clean ((x :: t).drop 1)) := ⟨T.clean_zero x t (by rw [← HX.out]; exact hx0)⟩
        have hb1 : ((X : Int) == 0) = true := by simp [hx0]
        clear hx0 hsK htK
        go_wp2_with (first | (go_at_call 62; refine CD.out.mono ?_; rintro e w2 ⟨rfl, hb⟩; obtain ⟨d0, hI⟩ := STEP.out w2 hb; have HI2 := Aside0.mk hI; clear hb hI) | (go_at_call 63; refine (Tryd.Builder_WriteString w.heap.size w.heap.size (Lib.byteCells done) ⟨#[239, 191, 189]⟩ _ HI2.out.bld HDL.out.1 HI2.out.below.size).mono ?_; rintro e w3 ⟨rfl, hA, hbl⟩; have HA := Aside0.mk hA; have HBL := Aside0.mk hbl; clear hA hbl))
        go_roundg g'
        case measure => omega
        case rel => exact ⟨done ++ [239, 191, 189], t, o1, c - 1, rfl, by omega, by omega, ⟨by have := HLN.out; simp at this; omega⟩, ⟨CInv.write [239, 191, 189] 1 HI2.out (by rw [HLN.out]; exact hmc) HO1.out (by omega) (by simp) HCL.out (by simp) HA.out HBL.out⟩⟩
      · by_cases hk1 : K = 1 ∧ 128 ≤ X
        · have HCL : Aside0 (T.clean (x :: t) = [239, 191, 189] ++ T.clean ((x :: t).drop 1)) := ⟨T.clean_bad x t (by rw [← HX.out]; exact hk1.2) (by rw [← HK.out]; exact hk1.1)⟩
          have hb1 : ((X : Int) == 0) = false := by simp [hx0]
          have hb2 : ((K : Int) == 1) = true := by simp [hk1.1]
          have hb3 : decide ((128 : Int) ≤ (X : Int)) = true := decide_eq_true (by omega)
          clear hx0 hk1 hsK htK
          go_wp2_with (first | (go_at_call 62; refine CD.out.mono ?_; rintro e w2 ⟨rfl, hb⟩; obtain ⟨d0, hI⟩ := STEP.out w2 hb; have HI2 := Aside0.mk hI; clear hb hI) | (go_at_call 63; refine (Tryd.Builder_WriteString w.heap.size w.heap.size (Lib.byteCells done) ⟨#[239, 191, 189]⟩ _ HI2.out.bld HDL.out.1 HI2.out.below.size).mono ?_; rintro e w3 ⟨rfl, hA, hbl⟩; have HA := Aside0.mk hA; have HBL := Aside0.mk hbl; clear hA hbl))
          go_roundg g'
          case measure => omega
          case rel => exact ⟨done ++ [239, 191, 189], t, o1, c - 1, rfl, by omega, by omega, ⟨by have := HLN.out; simp at this; omega⟩, ⟨CInv.write [239, 191, 189] 1 HI2.out (by rw [HLN.out]; exact hmc) HO1.out (by omega) (by simp) HCL.out (by simp) HA.out HBL.out⟩⟩
        · have HCL : Aside0 (T.clean (x :: t) = (x :: t).take K ++ T.clean ((x :: t).drop K)) := ⟨by
            rw [HK.out]
            exact T.clean_good x t (by rw [← HX.out]; exact hx0) (by rw [← HX.out, ← HK.out]; exact hk1)⟩
          have hb1 : ((X : Int) == 0) = false := by simp [hx0]
          have hKl : K ≤ (x :: t).length := by rw [HLN.out]; exact hK2
          have HKL := Aside0.mk hKl
          have hcase : (K : Int) ≠ 1 ∨ (K = 1 ∧ X < 128) := by omega
          clear hx0 hk1 hs1' hKl
          rcases hcase with hk | ⟨hk, hx⟩
          · have hb2 : ((K : Int) == 1) = false := by simpa using hk
            clear hk
            go_wp2_with (first | (go_at_call 62; refine CD.out.mono ?_; rintro e w2 ⟨rfl, hb⟩; obtain ⟨d0, hI⟩ := STEP.out w2 hb; have HI2 := Aside0.mk hI; clear hb hI) | (go_at_call 64; refine (Tryd.Builder_Write w.heap.size w.heap.size (Lib.byteCells done) ⟨b, o, none⟩ K c (Lib.byteCells ((x :: t).take K)) _ HI2.out.bld (HI2.out.take HBW.out K HKL.out).1 (HI2.out.take HBW.out K HKL.out).2.1 HBW.out (HI2.out.take HBW.out K HKL.out).2.2 HDL.out.2 HI2.out.below.size).mono ?_; rintro e w3 ⟨rfl, hA, hbl⟩; have HA := Aside0.mk hA; have HBL := Aside0.mk hbl; clear hA hbl))
            go_roundg (g' + 1 - K)
            case measure => omega
            case rel => exact ⟨done ++ (x :: t).take K, (x :: t).drop K, oK, c - K, rfl, hcK, by omega, ⟨by rw [List.length_drop, HLN.out]⟩, ⟨CInv.write ((x :: t).take K) K HI2.out (by rw [HLN.out]; exact hmc) HOK.out hK1 HKL.out HCL.out (by rw [List.length_take]; omega) HA.out HBL.out⟩⟩
          · have hb2 : ((K : Int) == 1) = true := by simp [hk]
            have hb3 : decide ((128 : Int) ≤ (X : Int)) = false := decide_eq_false (by omega)
            clear hk hx
            go_wp2_with (first | (go_at_call 62; refine CD.out.mono ?_; rintro e w2 ⟨rfl, hb⟩; obtain ⟨d0, hI⟩ := STEP.out w2 hb; have HI2 := Aside0.mk hI; clear hb hI) | (go_at_call 64; refine (Tryd.Builder_Write w.heap.size w.heap.size (Lib.byteCells done) ⟨b, o, none⟩ K c (Lib.byteCells ((x :: t).take K)) _ HI2.out.bld (HI2.out.take HBW.out K HKL.out).1 (HI2.out.take HBW.out K HKL.out).2.1 HBW.out (HI2.out.take HBW.out K HKL.out).2.2 HDL.out.2 HI2.out.below.size).mono ?_; rintro e w3 ⟨rfl, hA, hbl⟩; have HA := Aside0.mk hA; have HBL := Aside0.mk hbl; clear hA hbl))
            go_roundg (g' + 1 - K)
            case measure => omega
            case rel => exact ⟨done ++ (x :: t).take K, (x :: t).drop K, oK, c - K, rfl, hcK, by omega, ⟨by rw [List.length_drop, HLN.out]⟩, ⟨CInv.write ((x :: t).take K) K HI2.out (by rw [HLN.out]; exact hmc) HOK.out hK1 HKL.out HCL.out (by rw [List.length_take]; omega) HA.out HBL.out⟩⟩
end
end Go.Proofs.YtbgbmphjjdiaeaaDoor.P
