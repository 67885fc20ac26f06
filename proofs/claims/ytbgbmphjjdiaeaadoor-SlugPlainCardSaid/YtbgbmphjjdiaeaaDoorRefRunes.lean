/- incipitref01.Runes: for every text the call returns its characters. -/
import Derived.Test.YtbgbmphjjdiaeaaDoorRefA
import Derived.Test.YtbgbmphjjdiaeaaDoorRunes
import Derived.Deep.LoopGhost
namespace Go.Proofs.YtbgbmphjjdiaeaaDoor.P
open Go.RowKit Go.Proofs.YtbgbmphjjdiaeaaDoorW.PrintWords Go.Proofs.YtbgbmphjjdiaeaaDoorW.PrintLast Go.Proofs.YtbgbmphjjdiaeaaDoorW.PrintMore
set_option linter.unusedVariables false
set_option linter.unusedSimpArgs false
theorem C_bytes {w : World} {b o : Nat} {l : List UInt8} (hp : ∀ j, j < l.length → w.cell? ⟨b, o + j, none⟩ = some (.int .u8 ((T.byt l j : Nat) : Int))) (hl : l.length ≤ 9223372036854775807) : Kd.C (Kd.int .u8) w (some ⟨b, o, none⟩) (bints l).length (bints l) := by
  rw [bints_len]
  refine Kd.C_of_reads (d := (0 : Int)) ⟨bints_len l, hl, fun _ => ⟨_, rfl, fun j hj => ?_⟩⟩
  rw [show (⟨b, o, none⟩ : Addr).add j = ⟨b, o + j, none⟩ from by simp [Addr.add], hp j hj]
  have := bints_rd l j
  unfold rd at this
  rw [Int.toNat_natCast] at this
  rw [this]
theorem enc_vals (r : Nat) (h : T.okR r) : ∃ V : Nat → Nat, (∀ j, 1 ≤ j → j < (T.enc r).length → V (j + 1) + 128 = V j * 64 + T.byt (T.enc r) j ∧ V j ≤ 17408 ∧ V (j + 1) ≤ 1114111) ∧ V (T.enc r).length = r ∧
    (((T.enc r).length = 1 ∧ T.byt (T.enc r) 0 = V 1) ∨ ((T.enc r).length = 2 ∧ T.byt (T.enc r) 0 = V 1 + 192) ∨ ((T.enc r).length = 3 ∧ T.byt (T.enc r) 0 = V 1 + 224) ∨ ((T.enc r).length = 4 ∧ T.byt (T.enc r) 0 = V 1 + 240)) ∧ V 1 ≤ 255 := by
  have T0 : ∀ (x : UInt8) (l : List UInt8), T.byt (x :: l) 0 = x.toNat := fun _ _ => rfl
  have T1 : ∀ (x y : UInt8) (l : List UInt8), T.byt (x :: y :: l) 1 = y.toNat := fun _ _ _ => rfl
  have T2 : ∀ (x y z : UInt8) (l : List UInt8), T.byt (x :: y :: z :: l) 2 = z.toNat := fun _ _ _ _ => rfl
  have T3 : ∀ (x y z v : UInt8) (l : List UInt8), T.byt (x :: y :: z :: v :: l) 3 = v.toNat := fun _ _ _ _ _ => rfl
  rcases T.enc_cases h with h1 | ⟨h1, h2⟩ | h1 | ⟨h1, h2⟩
  · rw [T.enc_one h1]
    refine ⟨fun _ => r, fun j j1 j2 => absurd j2 (by simp; omega), rfl, .inl ⟨rfl, ?_⟩, by show r ≤ 255; omega⟩
    rw [T0, T.ofNat_toNat _ (by omega)]
  · rw [T.enc_two h1 h2]
    refine ⟨fun j => if j = 1 then r / 64 else r, fun j j1 j2 => ?_, by simp, .inr (.inl ⟨rfl, ?_⟩), by simp; omega⟩
    · obtain rfl : j = 1 := by simp at j2; omega
      rw [T1, T.ofNat_toNat _ (by omega)]
      simp
      omega
    · rw [T0, T.ofNat_toNat _ (by omega)]
      simp; omega
  · rw [T.enc_three h1]
    refine ⟨fun j => if j = 1 then r / 4096 else if j = 2 then r / 64 else r, fun j j1 j2 => ?_, by simp, .inr (.inr (.inl ⟨rfl, ?_⟩)), by simp; omega⟩
    · have : j = 1 ∨ j = 2 := by simp at j2; omega
      rcases this with rfl | rfl
      · rw [T1, T.ofNat_toNat _ (by omega)]; simp; omega
      · rw [T2, T.ofNat_toNat _ (by omega)]; simp; omega
    · rw [T0, T.ofNat_toNat _ (by omega)]
      simp; omega
  · rw [T.enc_four h1 h2]
    refine ⟨fun j => if j = 1 then r / 262144 else if j = 2 then r / 4096 else if j = 3 then r / 64 else r, fun j j1 j2 => ?_, by simp, .inr (.inr (.inr ⟨rfl, ?_⟩)), by simp; omega⟩
    · have : j = 1 ∨ j = 2 ∨ j = 3 := by simp at j2; omega
      rcases this with rfl | rfl | rfl
      · rw [T1, T.ofNat_toNat _ (by omega)]; simp; omega
      · rw [T2, T.ofNat_toNat _ (by omega)]; simp; omega
      · rw [T3, T.ofNat_toNat _ (by omega)]; simp; omega
    · rw [T0, T.ofNat_toNat _ (by omega)]
      simp; omega
structure QInv (R dn rest : List Nat) (v : Value) (g o : Nat) (C : Array Value) (fz : Nat × Nat) (w wr : World) : Prop where
  eq : R = dn ++ rest
  own : wr.ownsRow w.heap.size 21 1 v dn.length (encs (Value.int .i32) (ints dn))
  blk : wr.heap[g]? = some (.cells C 5 fz)
  cells : ∀ j, j < (T.encs rest).length → C[o + j]? = some (.int .u8 ((T.byt (T.encs rest) j : Nat) : Int))
  below : Below w.heap.size w wr
theorem QInv.cell {R dn rest : List Nat} {v : Value} {g o : Nat} {C : Array Value} {fz : Nat × Nat} {w wr : World} (h : QInv R dn rest v g o C fz w wr) (j : Nat) (hj : j < (T.encs rest).length) : wr.cell? ⟨g, o + j, none⟩ = some (.int .u8 ((T.byt (T.encs rest) j : Nat) : Int)) := by
  rw [Lib.cell_of_heap h.blk]
  exact h.cells j hj
theorem QInv.good {R dn rest : List Nat} {v : Value} {g o : Nat} {C : Array Value} {fz : Nat × Nat} {w wr : World} (h : QInv R dn rest v g o C fz w wr) (hr : T.encs rest ≠ []) (hl : (T.encs rest).length ≤ 9223372036854775807) (c : Nat) (hc : (T.encs rest).length ≤ c) :
    Calls Tryd.prog 81 #[.slice (some ⟨g, o, none⟩) (T.encs rest).length c] wr fun e w' => e = .returned (.int .i64 ((goodN (T.encs rest) : Nat) : Int)) ∧ Drawn0 wr w' := by
  have := incipitref01_good.calls 6 (some ⟨g, o, none⟩) c (bints (T.encs rest)) _ wr (C_bytes h.cell hl) (by rw [bints_len]; exact hc) (good_f (T.encs rest) hr 6 (Nat.le_refl _))
  rw [bints_len] at this
  exact this
theorem goodN_enc (r : Nat) (h : T.okR r) (t : List UInt8) : goodN (T.enc r ++ t) = (T.enc r).length := by
  unfold goodN
  rw [T.dec_enc h]
  have hp := T.enc_pos r
  simp only
  by_cases h1 : (T.enc r).length = 1
  · have h128 : r < 128 := by
      rcases T.enc_cases h with c | ⟨c1, c2⟩ | c | ⟨c1, c2⟩
      · exact c
      · rw [T.enc_two c1 c2] at h1; simp at h1
      · rw [T.enc_three c] at h1; simp at h1
      · rw [T.enc_four c1 c2] at h1; simp at h1
    have hb : T.byt (T.enc r ++ t) 0 = r := by
      rw [T.enc_one h128]
      show (UInt8.ofNat r).toNat = r
      exact T.ofNat_toNat _ (by omega)
    rw [hb, if_neg (by omega)]
  · rw [if_neg (by omega)]
theorem conv_bytes2 (s : ByteArray) (w : World) : ∃ cap w1 C fz, (convert 9 42 (.string s)).run Tryd.prog w = .ok (.slice (some ⟨w.heap.size, 0, none⟩) s.size cap) w1 ∧ Below w.heap.size w w1 ∧ s.size ≤ cap ∧ w1.heap[w.heap.size]? = some (.cells C 5 fz) ∧
    ∀ j, j < s.size → C[j]? = some (.int .u8 ((T.byt s.data.toList j : Nat) : Int)) := by
  refine ⟨_, _, _, _, run_bytes_of_string (P := Tryd.prog) w 9 42 5 s Tryd.underlying9 Tryd.underlying42 Tryd.underlying5, below_new w _, grownCap_ge _ _ _ _, blk_new w.drew _, fun j hj => ?_⟩
  rw [bytesRow_at s _ j hj]
  congr 3
  rw [← T.get_byt]
  obtain ⟨a⟩ := s
  show _ = (ByteArray.get! ⟨a⟩ j).toNat
  unfold ByteArray.get!
  have hj' : j < a.size := hj
  simp [hj']
theorem QInv.push {R dn t : List Nat} {r : Nat} {v v' : Value} {g o o' c : Nat} {C : Array Value} {fz : Nat × Nat} {w wr w1 w2 : World} (h : QInv R dn (r :: t) v g o C fz w wr) (hb1 : Below wr.heap.size wr w1) (hg : w1.grownBy w2 v.ownBlock) (hw : w.heap.size ≤ w1.heap.size)
    (hv : w2.ownsRow w.heap.size 21 1 v' (dn.length + 1) (encs (Value.int .i32) (ints dn) ++ [Value.int .i32 (r : Int)])) (hc : (T.encs (r :: t)).length ≤ c) (ho : (T.enc r).length < c → o' = o + (T.enc r).length) : QInv R (dn ++ [r]) t v' g o' C fz w w2 := by
  have hblk1 : w1.heap[g]? = some (.cells C 5 fz) := (hb1.block g (Array.getElem?_eq_some_iff.1 h.blk).1).trans h.blk
  refine ⟨by rw [h.eq]; simp, ?_, ?_, fun j hj => ?_, ?_⟩
  · rw [List.length_append, List.length_singleton]
    have : encs (Value.int .i32) (ints (dn ++ [r])) = encs (Value.int .i32) (ints dn) ++ [Value.int .i32 (r : Int)] := by simp [encs, ints]
    rw [this]
    exact hv
  · rw [hg.block g (Array.getElem?_eq_some_iff.1 hblk1).1 ?_]
    · exact hblk1
    · intro e
      obtain ⟨cells, hcl⟩ := own_typed (own_step h.own hb1) g e.symm
      rw [hblk1] at hcl
      cases hcl
  · rw [T.encs_cons, List.length_append] at hc
    have h1 := h.cells ((T.enc r).length + j) (by rw [T.encs_cons, List.length_append]; omega)
    rw [ho (by omega), Nat.add_assoc, h1, T.encs_cons]
    congr 3
    unfold T.byt
    rw [List.getD_eq_getElem?_getD, List.getElem?_append_right (by omega), List.getD_eq_getElem?_getD]
    congr 3
    omega
  · have hb : Below w.heap.size w w1 := h.below.trans (hb1.mono h.below.size)
    refine hb.grown hg hw ?_
    intro k hk
    rcases h.own.2 with ⟨rfl, _⟩ | ⟨g', cap', cur, rfl, hg', _⟩
    · cases hk
    · simp [Value.ownBlock] at hk
      omega
theorem news_one (w : World) (x : Value) (t : TypeId) : ∀ (j : Nat) u, [x][j]? = some u → (w.alloc (.cells #[x] t)).cell? ((⟨w.heap.size, 0, none⟩ : Addr).add j) = some u := by
  intro j u hj
  match j, hj with
  | 0, hj => simp at hj; subst hj; simp [Addr.add]
  | j + 1, hj => simp at hj
theorem one_int (x : Int) : ∀ u ∈ [Value.int .i32 x], u.oneCell' = true := by
  intro u hu
  simp at hu
  subst hu
  rfl
section
set_option maxRecDepth 100000 in
set_option maxHeartbeats 8000000 in
theorem refRunes_calls (a0 : ByteArray) (w : World) (hs : a0.size ≤ 1073741824) :
    Calls Tryd.prog 57 #[.string a0] w fun e w' => ∃ v, e = .returned v ∧ (Kd.int .i32).R 21 w' w.heap.size (fun _ => True) v (ints (T.runes a0.data.toList)) ∧ Below w.heap.size w w' := by
  obtain ⟨cap, w1, hc1, hb1, hlt, hcap, hcells⟩ := conv_bytes a0 w
  have hlen : a0.data.toList.length = a0.size := by simp
  have CC : Aside0 (Calls Tryd.prog 80 #[.slice (some ⟨w.heap.size, 0, none⟩) a0.size cap] w1 fun e w' => e = .returned (.string ⟨(T.clean a0.data.toList).toArray⟩) ∧ Below w1.heap.size w1 w') := ⟨by
    have hC := C_bytes (w := w1) (b := w.heap.size) (o := 0) (l := a0.data.toList) (fun j hj => hcells j (by rw [hlen] at hj; exact hj)) (by rw [hlen]; omega)
    have h := incipitref01_Clean.calls (a0.data.toList.length + 7) (fun k => k < w1.heap.size) (some ⟨w.heap.size, 0, none⟩) cap (bints a0.data.toList) _ w1 (Kd.V_mk (by rw [bints_len, hlen]; exact hcap) (Kd.C_F (Kd.heap_int .u8) hC)) (refClean_f a0.data.toList (by rw [hlen]; omega) _ (Nat.le_refl _))
    rw [bints_len, hlen] at h
    exact h⟩
  obtain ⟨R, hR⟩ : ∃ R, R = T.runes a0.data.toList := ⟨_, rfl⟩
  have hRg : ∀ r ∈ R, T.good r := by rw [hR]; exact T.runes_ok _
  have hcl : (T.clean a0.data.toList).length ≤ 3 * a0.size := by have := T.clean_le a0.data.toList; rw [hlen] at this; exact this
  have hce : T.clean a0.data.toList = T.encs R := by rw [hR]; rfl
  obtain ⟨n, hn⟩ : ∃ n, n = (T.encs R).length := ⟨_, rfl⟩
  have hn9 : n ≤ 3221225472 := by rw [hn, ← hce]; omega
  have hRl : R.length ≤ n := by rw [hn]; exact (T.encs_len R).1
  rw [← hR]
  rw [hce] at CC
  have CB : Aside0 (∀ W : World, ∃ cap1 W1 C fz, (convert 9 42 (.string ⟨(T.encs R).toArray⟩)).run Tryd.prog W = .ok (.slice (some ⟨W.heap.size, 0, none⟩) n cap1) W1 ∧ Below W.heap.size W W1 ∧ n ≤ cap1 ∧ W1.heap[W.heap.size]? = some (.cells C 5 fz) ∧ ∀ j, j < n → C[j]? = some (.int .u8 ((T.byt (T.encs R) j : Nat) : Int))) := ⟨fun W => by
    have h := conv_bytes2 ⟨(T.encs R).toArray⟩ W
    have hsz : (⟨(T.encs R).toArray⟩ : ByteArray).size = n := by rw [hn]; simp [ByteArray.size]
    rw [hsz] at h
    exact h⟩
  have HB1 := Aside0.mk hb1
  have HRG := Aside0.mk hRg
  have HN := Aside0.mk hn
  have HRL := Aside0.mk hRl
  obtain ⟨i0, hi, hz0, hz1, hz2⟩ := info_parts (show (Tryd.prog.info? 21).map (fun i => (i.zero, i.size, i.bytes)) = some (some (.int .i32 0), 1, 4) from by kernel_rfl)
  have HI0 := Aside0.mk (And.intro hi (And.intro hz0 (And.intro hz1 hz2)))
  clear hb1 hcells hlen hR hRg hcl hce hn hRl hs hlt hcap hi hz0 hz1 hz2
  go_enter Tryd.func57, Tryd.ntmps57
  go_wp2_with (go_at_call 80; refine CC.out.mono ?_; rintro e w2 ⟨rfl, hb2⟩; obtain ⟨cap3, w3, C, fz, hc3, hb3, hcap3, hblk3, hcl3⟩ := CB.out w2; have HB3 := Aside0.mk (HB1.out.trans ((hb2.trans (hb3.mono hb2.size)).mono HB1.out.size)); have HBLK := Aside0.mk hblk3; have HCL := Aside0.mk hcl3; clear hb2 hb3 hblk3 hcl3)
  obtain ⟨g, hg⟩ : ∃ g, g = w2.heap.size := ⟨_, rfl⟩
  have Q0 : Aside0 (QInv R [] R (.slice none 0 0) g 0 C fz w w3) := ⟨⟨rfl, ⟨by simp [encs, ints], .inl ⟨rfl, rfl⟩⟩, by rw [hg]; exact HBLK.out, fun j hj => by rw [Nat.zero_add]; exact HCL.out j (by rw [HN.out]; exact hj), HB3.out⟩⟩
  rw [← hg] at *
  clear hg HBLK HCL CC CB hc1 hc3
  go_loopw [3, 4] (fun v3 v4 wr => ∃ (v : Value) (dn rest : List Nat) (o c m : Nat), v = v3 ∧ v4 = .slice (some ⟨g, o, none⟩) m c ∧ m ≤ c ∧ m ≤ n ∧ Aside0 (m = (T.encs rest).length) ∧ Aside0 (QInv R dn rest v g o C fz w wr)) (fun _ v _ => lenOf v)
  case atStart => exact ⟨_, [], R, 0, cap3, n, rfl, rfl, hcap3, Nat.le_refl _, HN, Q0⟩
  case round =>
    clear Q0
    obtain ⟨wo, rfl⟩ : ∃ wo : World, wo = wr := ⟨_, rfl⟩
    obtain ⟨v, dn, rest, o, c, m, rfl, rfl, hmc, hmn, HM, HQ⟩ := hrel
    cases rest with
    | nil =>
      obtain rfl : m = 0 := HM.out
      go_wp2_with fail
      go_ret
      refine ⟨_, rfl, ?_, HQ.out.below⟩
      have he := HQ.out.eq
      rw [List.append_nil] at he
      rw [he]
      have hl : (ints dn).length = dn.length := by simp [ints]
      refine Kd.R_of_own ?_ (fun _ _ => trivial)
      rw [hl]
      exact HQ.out.own
    | cons r t =>
      have hrg := HRG.out r (by rw [HQ.out.eq]; simp)
      obtain ⟨V, hV1, hV2, hV3, hV4⟩ := enc_vals r hrg.1
      obtain ⟨K, hK⟩ : ∃ K, K = (T.enc r).length := ⟨_, rfl⟩
      have hKp := T.enc_pos r
      have hml : m = (T.enc r).length + (T.encs t).length := by rw [HM.out, T.encs_cons, List.length_append]
      rw [← hK] at hV1 hV2 hV3 hKp hml
      obtain ⟨hK1, hK4⟩ := hKp
      have hKm : K ≤ m := by omega
      have hby : ∀ j, j < K → T.byt (T.encs (r :: t)) j = T.byt (T.enc r) j := fun j hj => by
        rw [T.encs_cons]
        unfold T.byt
        rw [List.getD_eq_getElem?_getD, List.getElem?_append_left (by omega), List.getD_eq_getElem?_getD]
      have CG : Aside0 (Calls Tryd.prog 81 #[.slice (some ⟨g, o, none⟩) m c] wo fun e w' => e = .returned (.int .i64 (K : Int)) ∧ Drawn0 wo w') := ⟨by
        have h := HQ.out.good (by intro e; have := HM.out; rw [e] at this; simp at this; omega) (by rw [← HM.out]; omega) c (by rw [← HM.out]; exact hmc)
        rw [← HM.out, T.encs_cons, goodN_enc r hrg.1, ← hK] at h
        exact h⟩
      obtain ⟨oK, hoK, hsK⟩ := slice_from g o m c K hKm hmc
      have HOK := Aside0.mk hoK
      have HK := Aside0.mk hK
      have HBY := Aside0.mk hby
      have HV1 := Aside0.mk hV1
      have HV2 := Aside0.mk hV2
      have HML := Aside0.mk hml
      have hcell : ∀ W : World, Drawn0 wo W → ∀ j, j < m → W.cell? ⟨g, o + j, none⟩ = some (.int .u8 ((T.byt (T.encs (r :: t)) j : Nat) : Int)) := fun W hW j hj => by
        obtain ⟨q, rfl⟩ := hW.out
        exact HQ.out.cell j (by rw [← HM.out]; exact hj)
      have HCELL := Aside0.mk hcell
      clear hK hby hV1 hV2 hml hoK hcell
      rcases hV3 with ⟨hk, hx⟩ | ⟨hk, hx⟩ | ⟨hk, hx⟩ | ⟨hk, hx⟩
      · have k2 : ((K : Int) == 2) = false := by rw [hk]; rfl
        have k3 : ((K : Int) == 3) = false := by rw [hk]; rfl
        have k4 : ((K : Int) == 4) = false := by rw [hk]; rfl
        have hx0 : T.byt (T.enc r) 0 < 256 := T.byt_lt _ _
        obtain ⟨U, hU⟩ : ∃ U, U = V 1 := ⟨_, rfl⟩
        rw [← hU] at hx hV4
        have hU1 : (U : Int) ≤ 255 := by omega
        have hU2 : (U : Int) < 256 := by omega
        have hm0 : (0 : Int) < (m : Int) := by omega
        have hD := Aside0.mk (fun (w4 : World) (hd : Drawn0 wo w4) => (show w4.cell? ⟨g, o, none⟩ = some (.int .u8 ((U : Int))) from by
          have h := HCELL.out w4 hd 0 (by omega)
          rw [HBY.out 0 (by omega), hx, Nat.add_zero] at h
          exact h))
        have HU := Aside0.mk hU
        clear hU hk hx hx0 hV4
        go_wp2_with (go_at_call 81; refine CG.out.mono ?_; rintro e w4 ⟨rfl, hd⟩; have d0 := hD.out w4 hd; have HD := Aside0.mk hd; clear hd)
        rw [HU.out] at *
        clear d0 hU1 hU2 k2 k3 k4
        go_loopw [6, 7] (fun v6 v7 wx => ∃ j : Nat, 1 ≤ j ∧ j ≤ K ∧ v7 = .int .i64 j ∧ v6 = .int .i32 (V j : Int) ∧ Aside0 (Drawn0 wo wx)) (fun _ v7 _ => K - (intOf v7).toNat)
        case atStart => exact ⟨1, Nat.le_refl _, hK1, rfl, rfl, HD⟩
        case round =>
          clear HD
          obtain ⟨j, hj1, hj2, rfl, rfl, HD⟩ := hrel
          by_cases hlt : j < K
          · obtain ⟨e1, e2, e3⟩ := HV1.out j hj1 hlt
            obtain ⟨Z, hZ⟩ : ∃ Z, Z = V j := ⟨_, rfl⟩
            obtain ⟨Y, hY⟩ : ∃ Y, Y = T.byt (T.enc r) j := ⟨_, rfl⟩
            have hY2 : Y < 256 := by rw [hY]; exact T.byt_lt _ _
            have d1 := HCELL.out _ HD.out j (by omega)
            rw [HBY.out j hlt, ← hY] at d1
            rw [← hZ] at e1 e2 ⊢
            rw [← hY] at e1
            have HE := Aside0.mk e1
            have HZ := Aside0.mk hZ
            have hz1 : (Z : Int) ≤ 17408 := by omega
            have hz0 : (0 : Int) ≤ (Z : Int) := by omega
            have hy1 : (Y : Int) < 256 := by omega
            have hy0 : (0 : Int) ≤ (Y : Int) := by omega
            have hji : (j : Int) < (m : Int) := by omega
            have hjk : (j : Int) < (K : Int) := by omega
            have hlo : (128 : Int) ≤ (Z : Int) * 64 + (Y : Int) := by omega
            have hhi : (Z : Int) * 64 + (Y : Int) - 128 ≤ 1114111 := by omega
            clear e1 e2 e3 hZ hY hY2
            go_wp2_with fail
            go_roundw
            case rel => exact ⟨j + 1, by omega, by omega, by go_num, by rw [show (Z : Int) * 64 + (Y : Int) - 128 = ((V (j + 1) : Nat) : Int) from by have := HE.out; omega], HD⟩
            case measure => simp [intOf]; omega
          · obtain rfl : j = K := by omega
            rw [HV2.out]
            have hjk : ¬ (j : Int) < (j : Int) := by omega
            have hbd : Below wo.heap.size wo wr := by obtain ⟨q, rfl⟩ := HD.out.out; exact pw_below_drewN (Below.refl _ _) q
            have HBD := Aside0.mk hbd
            have HOW := Aside0.mk (own_step HQ.out.own hbd)
            have hdl : dn.length + 1 ≤ 3221225472 := by
              have h1 := congrArg List.length HQ.out.eq
              rw [List.length_append, List.length_cons] at h1
              have := HRL.out
              omega
            have HSZ : Aside0 (dn.length + 1 ≤ maxLen ∧ (dn.length + 1) * 4 ≤ 140737488355328 ∧ w.heap.size ≤ (wr.alloc (.cells #[.int .i32 (r : Int)] 21)).heap.size) := ⟨⟨by unfold maxLen; omega, by omega, by have h1 := HQ.out.below.size; have h2 := hbd.size; simp; omega⟩⟩
            clear hdl hbd
            go_wp2_with (at_builtin; refine wpList_append_own _ rfl _ _ 49 rfl w.heap.size 21 i0 (.int .i32 0) 1 4 Tryd.underlying49 HI0.out.1 HI0.out.2.1 HI0.out.2.2.1 HI0.out.2.2.2 rfl (by decide) _ _ _ rfl (HOW.out.alloc _) ⟨wr.heap.size, 0, none⟩ 1 1 [.int .i32 (r : Int)] rfl rfl (news_one _ _ _) (one_int _) HSZ.out.1 HSZ.out.2.1 HSZ.out.2.2 ?_; intro v' w6 hown' hgrow _; have HOWN := Aside0.mk hown'; have HGR := Aside0.mk hgrow; clear hown' hgrow)
            go_roundw
            case rel => exact ⟨_, dn ++ [r], t, oK, c - j, m - j, rfl, rfl, by omega, by omega, ⟨by have h1 := HML.out; have h2 := HK.out; omega⟩, ⟨HQ.out.push (below_alloc HBD.out _) HGR.out HSZ.out.2.2 HOWN.out (by rw [← HM.out]; exact hmc) (by have h2 := HK.out; rw [← h2]; exact HOK.out)⟩⟩
            case measure => simp [lenOf]; omega
      · have k2 : ((K : Int) == 2) = true := by rw [hk]; rfl
        have k3 : ((K : Int) == 3) = false := by rw [hk]; rfl
        have k4 : ((K : Int) == 4) = false := by rw [hk]; rfl
        have hx0 : T.byt (T.enc r) 0 < 256 := T.byt_lt _ _
        obtain ⟨U, hU⟩ : ∃ U, U = V 1 := ⟨_, rfl⟩
        rw [← hU] at hx hV4
        have hU1 : (U : Int) ≤ 255 := by omega
        have hU2 : (U : Int) + 192 < 256 := by omega
        have hm0 : (0 : Int) < (m : Int) := by omega
        have hD := Aside0.mk (fun (w4 : World) (hd : Drawn0 wo w4) => (show w4.cell? ⟨g, o, none⟩ = some (.int .u8 ((U : Int) + 192)) from by
          have h := HCELL.out w4 hd 0 (by omega)
          rw [HBY.out 0 (by omega), hx, Nat.add_zero] at h
          exact h))
        have HU := Aside0.mk hU
        clear hU hk hx hx0 hV4
        go_wp2_with (go_at_call 81; refine CG.out.mono ?_; rintro e w4 ⟨rfl, hd⟩; have d0 := hD.out w4 hd; have HD := Aside0.mk hd; clear hd)
        rw [HU.out] at *
        clear d0 hU1 hU2 k2 k3 k4
        go_loopw [6, 7] (fun v6 v7 wx => ∃ j : Nat, 1 ≤ j ∧ j ≤ K ∧ v7 = .int .i64 j ∧ v6 = .int .i32 (V j : Int) ∧ Aside0 (Drawn0 wo wx)) (fun _ v7 _ => K - (intOf v7).toNat)
        case atStart => exact ⟨1, Nat.le_refl _, hK1, rfl, rfl, HD⟩
        case round =>
          clear HD
          obtain ⟨j, hj1, hj2, rfl, rfl, HD⟩ := hrel
          by_cases hlt : j < K
          · obtain ⟨e1, e2, e3⟩ := HV1.out j hj1 hlt
            obtain ⟨Z, hZ⟩ : ∃ Z, Z = V j := ⟨_, rfl⟩
            obtain ⟨Y, hY⟩ : ∃ Y, Y = T.byt (T.enc r) j := ⟨_, rfl⟩
            have hY2 : Y < 256 := by rw [hY]; exact T.byt_lt _ _
            have d1 := HCELL.out _ HD.out j (by omega)
            rw [HBY.out j hlt, ← hY] at d1
            rw [← hZ] at e1 e2 ⊢
            rw [← hY] at e1
            have HE := Aside0.mk e1
            have HZ := Aside0.mk hZ
            have hz1 : (Z : Int) ≤ 17408 := by omega
            have hz0 : (0 : Int) ≤ (Z : Int) := by omega
            have hy1 : (Y : Int) < 256 := by omega
            have hy0 : (0 : Int) ≤ (Y : Int) := by omega
            have hji : (j : Int) < (m : Int) := by omega
            have hjk : (j : Int) < (K : Int) := by omega
            have hlo : (128 : Int) ≤ (Z : Int) * 64 + (Y : Int) := by omega
            have hhi : (Z : Int) * 64 + (Y : Int) - 128 ≤ 1114111 := by omega
            clear e1 e2 e3 hZ hY hY2
            go_wp2_with fail
            go_roundw
            case rel => exact ⟨j + 1, by omega, by omega, by go_num, by rw [show (Z : Int) * 64 + (Y : Int) - 128 = ((V (j + 1) : Nat) : Int) from by have := HE.out; omega], HD⟩
            case measure => simp [intOf]; omega
          · obtain rfl : j = K := by omega
            rw [HV2.out]
            have hjk : ¬ (j : Int) < (j : Int) := by omega
            have hbd : Below wo.heap.size wo wr := by obtain ⟨q, rfl⟩ := HD.out.out; exact pw_below_drewN (Below.refl _ _) q
            have HBD := Aside0.mk hbd
            have HOW := Aside0.mk (own_step HQ.out.own hbd)
            have hdl : dn.length + 1 ≤ 3221225472 := by
              have h1 := congrArg List.length HQ.out.eq
              rw [List.length_append, List.length_cons] at h1
              have := HRL.out
              omega
            have HSZ : Aside0 (dn.length + 1 ≤ maxLen ∧ (dn.length + 1) * 4 ≤ 140737488355328 ∧ w.heap.size ≤ (wr.alloc (.cells #[.int .i32 (r : Int)] 21)).heap.size) := ⟨⟨by unfold maxLen; omega, by omega, by have h1 := HQ.out.below.size; have h2 := hbd.size; simp; omega⟩⟩
            clear hdl hbd
            go_wp2_with (at_builtin; refine wpList_append_own _ rfl _ _ 49 rfl w.heap.size 21 i0 (.int .i32 0) 1 4 Tryd.underlying49 HI0.out.1 HI0.out.2.1 HI0.out.2.2.1 HI0.out.2.2.2 rfl (by decide) _ _ _ rfl (HOW.out.alloc _) ⟨wr.heap.size, 0, none⟩ 1 1 [.int .i32 (r : Int)] rfl rfl (news_one _ _ _) (one_int _) HSZ.out.1 HSZ.out.2.1 HSZ.out.2.2 ?_; intro v' w6 hown' hgrow _; have HOWN := Aside0.mk hown'; have HGR := Aside0.mk hgrow; clear hown' hgrow)
            go_roundw
            case rel => exact ⟨_, dn ++ [r], t, oK, c - j, m - j, rfl, rfl, by omega, by omega, ⟨by have h1 := HML.out; have h2 := HK.out; omega⟩, ⟨HQ.out.push (below_alloc HBD.out _) HGR.out HSZ.out.2.2 HOWN.out (by rw [← HM.out]; exact hmc) (by have h2 := HK.out; rw [← h2]; exact HOK.out)⟩⟩
            case measure => simp [lenOf]; omega
      · have k2 : ((K : Int) == 2) = false := by rw [hk]; rfl
        have k3 : ((K : Int) == 3) = true := by rw [hk]; rfl
        have k4 : ((K : Int) == 4) = false := by rw [hk]; rfl
        have hx0 : T.byt (T.enc r) 0 < 256 := T.byt_lt _ _
        obtain ⟨U, hU⟩ : ∃ U, U = V 1 := ⟨_, rfl⟩
        rw [← hU] at hx hV4
        have hU1 : (U : Int) ≤ 255 := by omega
        have hU2 : (U : Int) + 224 < 256 := by omega
        have hm0 : (0 : Int) < (m : Int) := by omega
        have hD := Aside0.mk (fun (w4 : World) (hd : Drawn0 wo w4) => (show w4.cell? ⟨g, o, none⟩ = some (.int .u8 ((U : Int) + 224)) from by
          have h := HCELL.out w4 hd 0 (by omega)
          rw [HBY.out 0 (by omega), hx, Nat.add_zero] at h
          exact h))
        have HU := Aside0.mk hU
        clear hU hk hx hx0 hV4
        go_wp2_with (go_at_call 81; refine CG.out.mono ?_; rintro e w4 ⟨rfl, hd⟩; have d0 := hD.out w4 hd; have HD := Aside0.mk hd; clear hd)
        rw [HU.out] at *
        clear d0 hU1 hU2 k2 k3 k4
        go_loopw [6, 7] (fun v6 v7 wx => ∃ j : Nat, 1 ≤ j ∧ j ≤ K ∧ v7 = .int .i64 j ∧ v6 = .int .i32 (V j : Int) ∧ Aside0 (Drawn0 wo wx)) (fun _ v7 _ => K - (intOf v7).toNat)
        case atStart => exact ⟨1, Nat.le_refl _, hK1, rfl, rfl, HD⟩
        case round =>
          clear HD
          obtain ⟨j, hj1, hj2, rfl, rfl, HD⟩ := hrel
          by_cases hlt : j < K
          · obtain ⟨e1, e2, e3⟩ := HV1.out j hj1 hlt
            obtain ⟨Z, hZ⟩ : ∃ Z, Z = V j := ⟨_, rfl⟩
            obtain ⟨Y, hY⟩ : ∃ Y, Y = T.byt (T.enc r) j := ⟨_, rfl⟩
            have hY2 : Y < 256 := by rw [hY]; exact T.byt_lt _ _
            have d1 := HCELL.out _ HD.out j (by omega)
            rw [HBY.out j hlt, ← hY] at d1
            rw [← hZ] at e1 e2 ⊢
            rw [← hY] at e1
            have HE := Aside0.mk e1
            have HZ := Aside0.mk hZ
            have hz1 : (Z : Int) ≤ 17408 := by omega
            have hz0 : (0 : Int) ≤ (Z : Int) := by omega
            have hy1 : (Y : Int) < 256 := by omega
            have hy0 : (0 : Int) ≤ (Y : Int) := by omega
            have hji : (j : Int) < (m : Int) := by omega
            have hjk : (j : Int) < (K : Int) := by omega
            have hlo : (128 : Int) ≤ (Z : Int) * 64 + (Y : Int) := by omega
            have hhi : (Z : Int) * 64 + (Y : Int) - 128 ≤ 1114111 := by omega
            clear e1 e2 e3 hZ hY hY2
            go_wp2_with fail
            go_roundw
            case rel => exact ⟨j + 1, by omega, by omega, by go_num, by rw [show (Z : Int) * 64 + (Y : Int) - 128 = ((V (j + 1) : Nat) : Int) from by have := HE.out; omega], HD⟩
            case measure => simp [intOf]; omega
          · obtain rfl : j = K := by omega
            rw [HV2.out]
            have hjk : ¬ (j : Int) < (j : Int) := by omega
            have hbd : Below wo.heap.size wo wr := by obtain ⟨q, rfl⟩ := HD.out.out; exact pw_below_drewN (Below.refl _ _) q
            have HBD := Aside0.mk hbd
            have HOW := Aside0.mk (own_step HQ.out.own hbd)
            have hdl : dn.length + 1 ≤ 3221225472 := by
              have h1 := congrArg List.length HQ.out.eq
              rw [List.length_append, List.length_cons] at h1
              have := HRL.out
              omega
            have HSZ : Aside0 (dn.length + 1 ≤ maxLen ∧ (dn.length + 1) * 4 ≤ 140737488355328 ∧ w.heap.size ≤ (wr.alloc (.cells #[.int .i32 (r : Int)] 21)).heap.size) := ⟨⟨by unfold maxLen; omega, by omega, by have h1 := HQ.out.below.size; have h2 := hbd.size; simp; omega⟩⟩
            clear hdl hbd
            go_wp2_with (at_builtin; refine wpList_append_own _ rfl _ _ 49 rfl w.heap.size 21 i0 (.int .i32 0) 1 4 Tryd.underlying49 HI0.out.1 HI0.out.2.1 HI0.out.2.2.1 HI0.out.2.2.2 rfl (by decide) _ _ _ rfl (HOW.out.alloc _) ⟨wr.heap.size, 0, none⟩ 1 1 [.int .i32 (r : Int)] rfl rfl (news_one _ _ _) (one_int _) HSZ.out.1 HSZ.out.2.1 HSZ.out.2.2 ?_; intro v' w6 hown' hgrow _; have HOWN := Aside0.mk hown'; have HGR := Aside0.mk hgrow; clear hown' hgrow)
            go_roundw
            case rel => exact ⟨_, dn ++ [r], t, oK, c - j, m - j, rfl, rfl, by omega, by omega, ⟨by have h1 := HML.out; have h2 := HK.out; omega⟩, ⟨HQ.out.push (below_alloc HBD.out _) HGR.out HSZ.out.2.2 HOWN.out (by rw [← HM.out]; exact hmc) (by have h2 := HK.out; rw [← h2]; exact HOK.out)⟩⟩
            case measure => simp [lenOf]; omega
      · have k2 : ((K : Int) == 2) = false := by rw [hk]; rfl
        have k3 : ((K : Int) == 3) = false := by rw [hk]; rfl
        have k4 : ((K : Int) == 4) = true := by rw [hk]; rfl
        have hx0 : T.byt (T.enc r) 0 < 256 := T.byt_lt _ _
        obtain ⟨U, hU⟩ : ∃ U, U = V 1 := ⟨_, rfl⟩
        rw [← hU] at hx hV4
        have hU1 : (U : Int) ≤ 255 := by omega
        have hU2 : (U : Int) + 240 < 256 := by omega
        have hm0 : (0 : Int) < (m : Int) := by omega
        have hD := Aside0.mk (fun (w4 : World) (hd : Drawn0 wo w4) => (show w4.cell? ⟨g, o, none⟩ = some (.int .u8 ((U : Int) + 240)) from by
          have h := HCELL.out w4 hd 0 (by omega)
          rw [HBY.out 0 (by omega), hx, Nat.add_zero] at h
          exact h))
        have HU := Aside0.mk hU
        clear hU hk hx hx0 hV4
        go_wp2_with (go_at_call 81; refine CG.out.mono ?_; rintro e w4 ⟨rfl, hd⟩; have d0 := hD.out w4 hd; have HD := Aside0.mk hd; clear hd)
        rw [HU.out] at *
        clear d0 hU1 hU2 k2 k3 k4
        go_loopw [6, 7] (fun v6 v7 wx => ∃ j : Nat, 1 ≤ j ∧ j ≤ K ∧ v7 = .int .i64 j ∧ v6 = .int .i32 (V j : Int) ∧ Aside0 (Drawn0 wo wx)) (fun _ v7 _ => K - (intOf v7).toNat)
        case atStart => exact ⟨1, Nat.le_refl _, hK1, rfl, rfl, HD⟩
        case round =>
          clear HD
          obtain ⟨j, hj1, hj2, rfl, rfl, HD⟩ := hrel
          by_cases hlt : j < K
          · obtain ⟨e1, e2, e3⟩ := HV1.out j hj1 hlt
            obtain ⟨Z, hZ⟩ : ∃ Z, Z = V j := ⟨_, rfl⟩
            obtain ⟨Y, hY⟩ : ∃ Y, Y = T.byt (T.enc r) j := ⟨_, rfl⟩
            have hY2 : Y < 256 := by rw [hY]; exact T.byt_lt _ _
            have d1 := HCELL.out _ HD.out j (by omega)
            rw [HBY.out j hlt, ← hY] at d1
            rw [← hZ] at e1 e2 ⊢
            rw [← hY] at e1
            have HE := Aside0.mk e1
            have HZ := Aside0.mk hZ
            have hz1 : (Z : Int) ≤ 17408 := by omega
            have hz0 : (0 : Int) ≤ (Z : Int) := by omega
            have hy1 : (Y : Int) < 256 := by omega
            have hy0 : (0 : Int) ≤ (Y : Int) := by omega
            have hji : (j : Int) < (m : Int) := by omega
            have hjk : (j : Int) < (K : Int) := by omega
            have hlo : (128 : Int) ≤ (Z : Int) * 64 + (Y : Int) := by omega
            have hhi : (Z : Int) * 64 + (Y : Int) - 128 ≤ 1114111 := by omega
            clear e1 e2 e3 hZ hY hY2
            go_wp2_with fail
            go_roundw
            case rel => exact ⟨j + 1, by omega, by omega, by go_num, by rw [show (Z : Int) * 64 + (Y : Int) - 128 = ((V (j + 1) : Nat) : Int) from by have := HE.out; omega], HD⟩
            case measure => simp [intOf]; omega
          · obtain rfl : j = K := by omega
            rw [HV2.out]
            have hjk : ¬ (j : Int) < (j : Int) := by omega
            have hbd : Below wo.heap.size wo wr := by obtain ⟨q, rfl⟩ := HD.out.out; exact pw_below_drewN (Below.refl _ _) q
            have HBD := Aside0.mk hbd
            have HOW := Aside0.mk (own_step HQ.out.own hbd)
            have hdl : dn.length + 1 ≤ 3221225472 := by
              have h1 := congrArg List.length HQ.out.eq
              rw [List.length_append, List.length_cons] at h1
              have := HRL.out
              omega
            have HSZ : Aside0 (dn.length + 1 ≤ maxLen ∧ (dn.length + 1) * 4 ≤ 140737488355328 ∧ w.heap.size ≤ (wr.alloc (.cells #[.int .i32 (r : Int)] 21)).heap.size) := ⟨⟨by unfold maxLen; omega, by omega, by have h1 := HQ.out.below.size; have h2 := hbd.size; simp; omega⟩⟩
            clear hdl hbd
            go_wp2_with (at_builtin; refine wpList_append_own _ rfl _ _ 49 rfl w.heap.size 21 i0 (.int .i32 0) 1 4 Tryd.underlying49 HI0.out.1 HI0.out.2.1 HI0.out.2.2.1 HI0.out.2.2.2 rfl (by decide) _ _ _ rfl (HOW.out.alloc _) ⟨wr.heap.size, 0, none⟩ 1 1 [.int .i32 (r : Int)] rfl rfl (news_one _ _ _) (one_int _) HSZ.out.1 HSZ.out.2.1 HSZ.out.2.2 ?_; intro v' w6 hown' hgrow _; have HOWN := Aside0.mk hown'; have HGR := Aside0.mk hgrow; clear hown' hgrow)
            go_roundw
            case rel => exact ⟨_, dn ++ [r], t, oK, c - j, m - j, rfl, rfl, by omega, by omega, ⟨by have h1 := HML.out; have h2 := HK.out; omega⟩, ⟨HQ.out.push (below_alloc HBD.out _) HGR.out HSZ.out.2.2 HOWN.out (by rw [← HM.out]; exact hmc) (by have h2 := HK.out; rw [← h2]; exact HOK.out)⟩⟩
            case measure => simp [lenOf]; omega
end
end Go.Proofs.YtbgbmphjjdiaeaaDoor.P
