/- Proved here: whoever has a digest and a length can go on behind the padding without the message; of arguments of a bulk of at most 1048576 values. The table of constants is tied to the program's text. -/
import Derived.Test.YtepcjdifjjombaaDoorPw
import Derived.Test.YtepcjdifjjombaaDoorOl
import Derived.Test.YtepcjdifjjombaaDoorLh
import Derived.Test.YtepcjdifjjombaaDoorFHashLengthensUpto
namespace Go.Proofs.YtepcjdifjjombaaDoor
open Go.RowKit Cop
set_option linter.unusedVariables false
set_option linter.unusedSimpArgs false
set_option maxRecDepth 100000 in
set_option maxHeartbeats 16000000 in
theorem lengthens_gen (s m D P SV ALL E t : List UInt8) (H h2 : H8) (N : Nat) (f : Nat → List UInt8) (v0 v1 : Value) (w : World) (hT : Tab w) (h0 : Rd w v0 s.length 1 (bl s)) (h1 : Rd w v1 m.length 1 (bl m)) (hs : s.length ≤ 1048576) (hm : m.length ≤ 1048576)
    (hD : D.length = 32) (hE : E.length = 32) (hP : P.length ≤ 128) (hN : s.length + P.length = N) (hf0 : D = f 0) (hf8 : f 8 = SV) (hfl : ∀ k, k ≤ 8 → (f k).length = 32 + k) (hfs : ∀ j k, j + k = 7 → f k ++ [UInt8.ofNat (N / 256 ^ j)] = f (k + 1))
    (hall : (s ++ P) ++ m = ALL)
    (CA : ∀ w', Tab w' → Rd w' v0 s.length 1 (bl s) → Calls Tryd.prog 20 #[v0] w' fun e w2 => e = .returned (.agg (bv D)) ∧ Below w'.heap.size w' w2)
    (CP : ∀ w', Calls Tryd.prog 31 #[.int .i64 s.length] w' fun e w2 => ∃ x, e = .returned (.tuple #[x, .int .i64 0]) ∧ Below w'.heap.size w' w2 ∧ w2.ownsRow w'.heap.size 5 1 x P.length (bl P))
    (CL : ∀ (w' : World) (R : List Pc) (v : Value) (i : Nat), R[i]? = some (.rd v SV.length 1 (bl SV)) → Sep w.heap.size w w' R → Calls Tryd.prog 32 #[v] w' fun e w2 => ∃ g v', e = .returned (.tuple #[.pointer (some ⟨g, 0, none⟩), .int .i64 0]) ∧ Sep w.heap.size w w2 (.row g (stv true H (N : Int) v') 50 :: .own v' 5 1 ([] : List UInt8).length (bl []) :: R))
    (CW : ∀ (g : Nat) (v vb : Value) (w' : World) (R : List Pc), Sep w.heap.size w w' (.row g (stv true H (N : Int) v) 50 :: .own v 5 1 ([] : List UInt8).length (bl []) :: .rd vb m.length 1 (bl m) :: R) →
      Calls Tryd.prog 23 #[.pointer (some ⟨g, 0, none⟩), vb] w' fun e w2 => e = .returned (.int .i64 0) ∧ ∃ v3, Sep w.heap.size w w2 (.row g (stv true h2 ((N + m.length : Nat) : Int) v3) 50 :: .own v3 5 1 t.length (bl t) :: .rd vb m.length 1 (bl m) :: R))
    (CS : ∀ (R' : List Pc) (w' : World) (i j g : Nat) (v : Value), R'[i]? = some (.row g (stv true h2 ((N + m.length : Nat) : Int) v) 50) → R'[j]? = some (.own v 5 1 t.length (bl t)) → Sep w.heap.size w w' R' →
      Calls Tryd.prog 24 #[.pointer (some ⟨g, 0, none⟩)] w' fun e w2 => e = .returned (.agg (bv E)) ∧ Sep w.heap.size w w2 R')
    (CB : ∀ w' v, Tab w' → Rd w' v ALL.length 1 (bl ALL) → Calls Tryd.prog 20 #[v] w' fun e w2 => e = .returned (.agg (bv E)) ∧ Below w'.heap.size w' w2)
    (CK : ∀ w', Tab w' → Calls Tryd.prog 26 #[] w' fun e w2 => e = .returned (.bool true) ∧ Below w'.heap.size w' w2) :
    Calls Tryd.prog 8 #[v0, v1] w fun e w' => e = .returned (.bool true) ∧ Below w.heap.size w w' := by
  have HTB := hT.base
  have CA := Lib.hid CA
  have CP := Lib.hid CP
  have CL := Lib.hid CL
  have CW := Lib.hid CW
  have CS := Lib.hid CS
  have CB := Lib.hid CB
  have CK := Lib.hid CK
  have HDL := Lib.hid hD
  have HF0 := Lib.hid hf0
  have HF0L := Lib.hid (show 32 = (f 0).length by rw [← hf0, hD])
  have HF8 := Lib.hid hf8
  have HFL := Lib.hid hfl
  have HFS := Lib.hid hfs
  have HPL := Lib.hid hP
  have HQ := Lib.hid (fun w' : World => run_equal_bv (P := Tryd.prog) w' (d := 9998) Tryd.underlying32 Tryd.underlying5 (by kernel_rfl) E E hE hE)
  rw [decide_eq_true (rfl : E = E)] at HQ
  have HAL1 := Lib.hid (show (s ++ P).length = s.length + P.length by rw [List.length_append])
  have HAL2 := Lib.hid (show s.length + P.length + m.length = ALL.length by rw [← hall, List.length_append, List.length_append])
  have HALL := Lib.hid hall
  have hNi : (s.length : Int) + (P.length : Int) = (N : Int) := by omega
  have hNb : (N : Int) ≤ 1048704 := by omega
  have hPb : (P.length : Int) ≤ 128 := by omega
  have HNN := Lib.hid hN
  have HS0 := ((Sep.start w).arg0 h0).arg0 h1
  obtain ⟨A0, c0, rfl, _, _⟩ := h0.shape
  obtain ⟨A1, c1, rfl, _, _⟩ := h1.shape
  clear h0 h1 hD hE hP hf0 hf8 hfl hfs hall hN
  go_enter Tryd.func8, Tryd.ntmps8
  go_wp2_with fail
  have hrd := HS0.rd 1 rfl
  (with_reducible refine Calls.mono (CA.out w hT hrd) ?_)
  rintro e w1 ⟨rfl, b1⟩
  have HS1 := HS0.keep b1
  clear HS0
  clear hrd
  go_wp2_with (first | refine wl_al HS1 rfl 32 rfl (bv (List.replicate 32 0)) (by kernel_rfl) ?_)
  intro g5 w2 HS2
  go_wp2_with (first | refine wl_st HS2 0 rfl rfl 32 _ _ rfl rfl rfl (dgS HDL.out) (dgE rfl HDL.out) (bv_one _) ?_)
  intro w3 HS3
  clear HS1 HS2
  go_wp2_with fail
  (with_reducible refine Calls.mono (CP.out w3) ?_)
  rintro e w4 ⟨p, rfl, b4, o4⟩
  have HS4 := HS3.madeRow b4 o4
  obtain ⟨Ap, cp, rfl, _⟩ := (HS4.own 0 rfl).sl
  clear HS3 o4 b4
  go_wp2_with (first | refine wl_bz HS4 rfl 30 5 1 rfl Tryd.underlying30 (by kernel_rfl) ?_)
  intro gz w5 HS5
  go_wp2_with (first | refine wl_apb (xs := []) HS5 0 rfl rfl rfl (Sep.rdRow HS5 2 rfl 32 HDL.out (by decide)) rfl rfl 32 D (by decide) rfl (by decide) ?_)
  intro v6 w6 HS6 _
  clear HS4 HS5
  have HS7 : Sep w.heap.size w w6 (.own v6 5 1 (f 0).length (bl (f 0)) :: .own (.slice Ap P.length cp) 5 1 P.length (bl P) :: .rd (.slice A1 m.length c1) m.length 1 (bl m) :: .rd (.slice A0 s.length c0) s.length 1 (bl s) :: []) := by
    rw [← HF0L.out, ← HF0.out]
    exact HS6.sub (by repeat (first | exact List.nil_sublist _ | exact List.Sublist.refl _ | apply List.Sublist.cons_cons | apply List.Sublist.cons))
  clear HS6
  go_wp2
  go_loopw [9, 10] (fun s9 s10 wr => ∃ j k : Nat, j + k = 8 ∧ s10 = .int .i64 ((j : Int) - 1) ∧ Sep w.heap.size w wr (.own s9 5 1 (f k).length (bl (f k)) :: .own (.slice Ap P.length cp) 5 1 P.length (bl P) :: .rd (.slice A1 m.length c1) m.length 1 (bl m) :: .rd (.slice A0 s.length c0) s.length 1 (bl s) :: [])) (fun _ s10 _ => (intOf s10 + 1).toNat)
  case atStart => exact ⟨8, 0, rfl, rfl, HS7⟩
  case round =>
    clear HS7
    obtain ⟨jj, k, hjk, rfl, HSi⟩ := hrel
    have Hjk := Lib.hid hjk
    have hj8 : jj ≤ 8 := by omega
    obtain ⟨A7, c7, rfl, _⟩ := (HSi.own 0 rfl).sl
    cases jj with
    | zero =>
      have hk8 : k = 8 := by omega
      subst hk8
      clear hjk
      rw [HF8.out] at HSi ⊢
      go_wp2_with fail
      have HSj := HSi.toRd 0 rfl
      have HSj : Sep w.heap.size w wr (.rd (.slice A7 SV.length c7) SV.length 1 (bl SV) :: .own (.slice Ap P.length cp) 5 1 P.length (bl P) :: .rd (.slice A1 m.length c1) m.length 1 (bl m) :: .rd (.slice A0 s.length c0) s.length 1 (bl s) :: []) := HSj
      (with_reducible refine Calls.mono (CL.out wr _ _ 0 rfl HSj) ?_)
      rintro e w8 ⟨g, v, rfl, HS8⟩
      have HS9 : Sep w.heap.size w w8 (.row g (stv true H (N : Int) v) 50 :: .own v 5 1 ([] : List UInt8).length (bl []) :: .rd (.slice A1 m.length c1) m.length 1 (bl m) :: .own (.slice Ap P.length cp) 5 1 P.length (bl P) :: .rd (.slice A0 s.length c0) s.length 1 (bl s) :: []) := (((HS8.front 4).front 2).front 2).sub (by repeat (first | exact List.nil_sublist _ | exact List.Sublist.refl _ | apply List.Sublist.cons_cons | apply List.Sublist.cons))
      clear HSi HSj HS8
      go_wp2_with fail
      (with_reducible refine Calls.mono (CW.out g v _ w8 _ HS9) ?_)
      rintro e w9 ⟨rfl, v3, HS10⟩
      clear HS9
      go_wp2_with (first | refine wl_bz HS10 rfl 30 5 1 rfl Tryd.underlying30 (by kernel_rfl) ?_)
      intro gy w10 HS11
      go_wp2_with (first | refine wl_apb (xs := []) HS11 0 rfl rfl rfl (HS11.rd 5 rfl) rfl rfl s.length s (by omega) rfl (by omega) ?_)
      intro v11 w11 HS12 _
      obtain ⟨A11, c11, rfl, _⟩ := (HS12.own 0 rfl).sl
      go_wp2_with (first | refine wl_apb HS12 0 rfl rfl rfl (HS12.own 4 rfl).rd rfl rfl (s.length + P.length) (s ++ P) rfl rfl (by have := HPL.out; omega) ?_)
      intro v12 w12 HS13 _
      obtain ⟨A12, c12, rfl, _⟩ := (HS13.own 0 rfl).sl
      go_wp2_with (first | refine wl_apb HS13 0 rfl rfl rfl (HS13.rd 3 rfl) rfl rfl ALL.length ALL HAL2.out HALL.out (by have := HPL.out; have := HAL2.out; omega) ?_)
      intro v13 w13 HS14 _
      obtain ⟨A13, c13, rfl, _⟩ := (HS14.own 0 rfl).sl
      clear HS10 HS11 HS12 HS13
      go_wp2_with fail
      (with_reducible refine Calls.mono (CS.out _ w13 1 2 g v3 rfl rfl HS14) ?_)
      rintro e w14 ⟨rfl, HS15⟩
      clear HS14
      go_wp2_with fail
      have hrd := (HS15.own 0 rfl).rd
      have hTx := HTB _ HS15.hb
      (with_reducible refine Calls.mono (CB.out w14 _ hTx hrd) ?_)
      rintro e w15 ⟨rfl, b15⟩
      have HS16 := HS15.keep b15
      clear HS15
      clear hrd hTx
      have q := HQ.out w15
      go_wp2_with fail
      have hTx := HTB _ HS16.hb
      (with_reducible refine Calls.mono (CK.out w15 hTx) ?_)
      rintro e w16 ⟨rfl, b16⟩
      have HS17 := HS16.keep b16
      clear HS16
      go_wp2
      go_ret
      exact ⟨rfl, HS17.hb⟩
    | succ j =>
      have hm7 : j ≤ 7 := by omega
      clear hjk
      rw [show (((j + 1 : Nat) : Int) - 1) = (j : Int) from by omega]
      obtain ⟨y, hy⟩ : ∃ y, UInt8.ofNat (N / 256 ^ j) = y := ⟨_, rfl⟩
      have HB := Lib.hid (show [Value.int .u8 ((N : Int) / 2 ^ (8 * j) % 256)] = bl [y] by
        rw [show (N : Int) / 2 ^ (8 * j) % 256 = (y.toNat : Int) by rw [← hy, byte_of, ← pow256]; simp]; rfl)
      have HY := Lib.hid (show f k ++ [y] = f (k + 1) by rw [← hy]; exact HFS.out j k (by have := Hjk.out; omega))
      have HYL := Lib.hid (show (f k).length + 1 = (f (k + 1)).length by rw [← HY.out, List.length_append]; rfl)
      have hlk := HFL.out (k + 1) (by have := Hjk.out; omega)
      have HLK := Lib.hid hlk
      clear hy hlk
      go_wp2_with (first | refine wl_bs HSi rfl 30 5 1 1 _ rfl [Value.int .u8 ((N : Int) / 2 ^ (8 * j) % 256)] (.int .u8 0) Tryd.underlying30 (by kernel_rfl) (by decide) (by decide) (by kernel_rfl) rfl ?_)
      intro g2 w2 HS2
      rw [HB.out] at HS2
      go_wp2_with (refine wl_apb (cs := [y]) HS2 1 rfl rfl rfl (HS2.own 0 rfl).rd rfl rfl (f (k + 1)).length (f (k + 1)) HYL.out HY.out (by have := HLK.out; have := Hjk.out; omega) ?_)
      intro v5 w5 HS5 _
      clear HSi HS2
      go_wp2
      go_roundw
      case rel => exact ⟨j, k + 1, by have := Hjk.out; omega, by go_num, HS5.tail⟩
      case measure => simp [intOf]
theorem lengthens_walk (s m : List UInt8) (v0 v1 : Value) (w : World) (hT : Tab w) (h0 : Rd w v0 s.length 1 (bl s)) (h1 : Rd w v1 m.length 1 (bl m)) (hs : s.length ≤ 1048576) (hm : m.length ≤ 1048576) :
    Calls Tryd.prog 8 #[v0, v1] w fun e w' => e = .returned (.bool true) ∧ Below w.heap.size w w' := by
  have hTB : TabB w.heap.size w := hT.base
  have hpl := pad_length s.length
  have hD : sha s = wb (over hbegin (s ++ pad s.length)).l := rfl
  have hsd : Sound (over hbegin (s ++ pad s.length)) (s.length + (pad s.length).length) [] := by
    refine ⟨by omega, ?_, fun h => ?_⟩
    · rw [List.length_nil]; omega
    · omega
  obtain ⟨H, hH⟩ : ∃ H, over hbegin (s ++ pad s.length) = H := ⟨_, rfl⟩
  rw [hH] at hD hsd
  have hw32 : (wb H.l).length = 32 := by rw [wb_length]; rfl
  have hSV : wb H.l ++ be 8 (s.length + (pad s.length).length) = savD H (s.length + (pad s.length).length) [] := by rw [savD, List.append_nil]
  have htl : tl (s ++ pad s.length) = [] := List.eq_nil_of_length_eq_zero (by rw [tl, List.length_drop, List.length_append]; omega)
  have hE : endOf (over H ([] ++ m)) (s.length + (pad s.length).length + m.length) (tl ([] ++ m)) = sha ((s ++ pad s.length) ++ m) := by
    rw [endOf_step, List.nil_append, sha, endOf, endOf, ← hH, List.append_assoc (s ++ pad s.length), ← (over_step (s ++ pad s.length) hbegin (m ++ _)).1, htl, List.nil_append, List.length_append, List.length_append]
  have hx := hsd.write m (by omega)
  refine lengthens_gen s m (sha s) (pad s.length) (savD H (s.length + (pad s.length).length) []) ((s ++ pad s.length) ++ m) (sha ((s ++ pad s.length) ++ m)) (tl ([] ++ m)) H (over H ([] ++ m)) (s.length + (pad s.length).length)
    (fun k => wb H.l ++ (be 8 (s.length + (pad s.length).length)).take k) v0 v1 w hT h0 h1 hs hm (sha_length _) (sha_length _) (by omega) rfl (by rw [hD]; simp) ?_ (fun k hk => ?_) (fun j k hjk => ?_) rfl
    (fun w' hT' hR => sum_a s v0 w' hT' hR (by omega)) (fun w' => padding_a _ w' (by omega)) (fun w' R v i hi HS => load_saved hsd v i hi HS)
    (fun g v vb w' R HS => write_a _ w g _ v vb H [] m R w' hTB (by decide) (by omega) (by omega) HS)
    (fun R' w' i j g v hi hj HS => ?_) (fun w' v hT' hR => sum_a _ v w' hT' hR (by rw [List.length_append, List.length_append]; omega)) known_a
  · show wb H.l ++ (be 8 (s.length + (pad s.length).length)).take 8 = _
    rw [List.take_of_length_le (by rw [be_length]; exact Nat.le_refl _), hSV]
  · show (wb H.l ++ (be 8 (s.length + (pad s.length).length)).take k).length = _
    rw [List.length_append, hw32, List.length_take, be_length]; omega
  · show (wb H.l ++ (be 8 (s.length + (pad s.length).length)).take k) ++ _ = wb H.l ++ (be 8 (s.length + (pad s.length).length)).take (k + 1)
    rw [be_take 8 _ k (by omega), show 8 - 1 - k = j from by omega, List.append_assoc]
  · have h := sumS_a _ w g _ v _ _ R' w' hTB (tl_length ([] ++ m)) hx.hn i j hi hj HS
    rw [hE] at h
    exact h
theorem hashLengthens_holds : Rows.HashLengthensUptoCardSaid := hashLengthens.card_of_walk fun H enc W base v0 v1 d0 d1 p0 p1 h0 k0 h1 k1 hsz hL hbulk => by
  obtain ⟨a0, len0, cap0, rfl⟩ := Go.WideShapes.okWide_slice Tryd.underlying30 k0
  obtain ⟨a1, len1, cap1, rfl⟩ := Go.WideShapes.okWide_slice Tryd.underlying30 k1
  obtain ⟨f0, hf0⟩ := h0
  obtain ⟨f1, hf1⟩ := h1
  obtain ⟨x0, s, e0, hR0, hb0⟩ := open_bytes3 Tryd.underlying30 Tryd.underlying5 (by kernel_rfl) (by kernel_rfl) hf0
  obtain ⟨x1, m, e1, hR1, hb1⟩ := open_bytes3 Tryd.underlying30 Tryd.underlying5 (by kernel_rfl) (by kernel_rfl) hf1
  have e0 : Value.slice a0 len0 cap0 = x0 := (List.cons.inj (show [Value.slice a0 len0 cap0] = [x0] from e0)).1
  have e1 : Value.slice a1 len1 cap1 = x1 := (List.cons.inj (show [Value.slice a1 len1 cap1] = [x1] from e1)).1
  subst e0 e1
  have b0 : s.length ≤ Rows.uptoBulk d0 := bulk_bytes hb0
  have b1 : m.length ≤ Rows.uptoBulk d1 := bulk_bytes hb1
  simp only [Rows.uptoBulkAll] at hbulk
  exact lengthens_walk s m _ _ W (table_of hL) hR0 hR1 (by omega) (by omega)
#print axioms hashLengthens_holds
end Go.Proofs.YtepcjdifjjombaaDoor
