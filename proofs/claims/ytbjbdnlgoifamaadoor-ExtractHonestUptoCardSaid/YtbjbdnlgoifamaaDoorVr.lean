/- verify.Root and the reference's: what a path leads to. -/
import Derived.Test.YtbjbdnlgoifamaaDoorRs
import Derived.Test.YtbjbdnlgoifamaaDoorVw
namespace Go.Proofs.YtbjbdnlgoifamaaDoor
open Go.RowKit Cop
set_option linter.unusedVariables false
set_option linter.unusedSimpArgs false
theorem right_ok (i n : Nat) (w : World) (hi : i < n) (hn : n ≤ 281474976710656) : Calls Tryd.prog 82 #[.int .i64 i, .int .i64 n] w fun e w' => e = .returned (.bool true) ∧ w = w' := by
  have h1 : 1 ≤ (n : Int) := by omega
  go_enter Tryd.func82, Tryd.ntmps82
  go_wp2
  go_ret
  exact ⟨rfl, rfl⟩
theorem right_bad (i n : Int) (w : World) (h : ¬ okI i n) : Calls Tryd.prog 82 #[.int .i64 i, .int .i64 n] w fun e w' => e = .returned (.bool false) ∧ w = w' := by
  unfold okI at h
  rcases (show ¬ 1 ≤ n ∨ (1 ≤ n ∧ ¬ n ≤ 281474976710656) ∨ (1 ≤ n ∧ n ≤ 281474976710656 ∧ ¬ 0 ≤ i) ∨ (1 ≤ n ∧ n ≤ 281474976710656 ∧ 0 ≤ i ∧ ¬ i < n) from by omega) with h1 | ⟨h1, h2⟩ | ⟨h1, h2, h3⟩ | ⟨h1, h2, h3, h4⟩
  all_goals
    clear h
    go_enter Tryd.func82, Tryd.ntmps82
    go_wp2
    go_ret
    exact ⟨rfl, rfl⟩
set_option maxRecDepth 100000 in
set_option maxHeartbeats 4000000 in
theorem vroot_bad (leaf : List UInt8) (i n : Int) (v : Value) (w : World) (h : ¬ okI i n) : Gives 56 #[.agg (bv leaf), .int .i64 i, .int .i64 n, v] w (.tuple #[.agg (bv (List.replicate 32 0)), .int .i64 40]) := by
  have CB := Lib.hid (fun w => right_bad i n w h)
  have HS0 := Sep.start w
  clear h
  go_enter Tryd.func56, Tryd.ntmps56
  go_wp2_with (first | refine wl_bx HS0 rfl 24 _ rfl (bv leaf) rfl ?_)
  intro g1 w1 HS1
  go_wp2_with (first | refine wl_al HS1 rfl 24 rfl (bv (List.replicate 32 0)) (by kernel_rfl) ?_)
  intro g2 w2 HS2
  go_wp2_with fail
  (with_reducible refine Calls.mono (CB.out w2) ?_)
  rintro e wx ⟨rfl, rfl⟩
  go_wp2_with (first | refine wl_st HS2 0 rfl rfl 24 _ _ rfl rfl (cs := bv (List.replicate 32 0)) rfl (dgS rfl) rfl (bv_one _) ?_)
  intro w3 HS3
  go_wp2_with fail
  exact ret_row_tmp rfl rfl g2 rfl 24 (bv (List.replicate 32 0)) (0, 0) _ (HS3.row 0 rfl) Tryd.underlying24 rfl (dgS rfl) (.int .i64 40) rfl ⟨rfl, HS3.hb⟩
/-- A way's cells. -/
theorem turn_cell {w : World} {B : Nat} {g c m : Nat} {e : TypeId} {ts : List Bool} (h : Ow w B e 1 (.slice (some ⟨g, 0, none⟩) m c) m (ts.map Value.bool)) (k : Nat) (hk : k < ts.length) : w.cell? ⟨g, k, none⟩ = some (.bool (ts.getD k false)) := by
  refine own_cell h k ?_
  simp [List.getD, hk]
set_option maxRecDepth 100000 in
set_option maxHeartbeats 4000000 in
theorem vroot_short (leaf : List UInt8) (i n : Nat) (A : Option Addr) (m c : Nat) (ts : List Bool) (w : World) (hi : i < n) (hn : n ≤ 281474976710656) (hne : ts.length ≠ m) (hm : m ≤ 4398046511104) (hts : ts.length ≤ 48)
    (hCW : ∀ w', Calls Tryd.prog 83 #[.int .i64 i, .int .i64 n] w' fun e w'' => ∃ v, e = .returned v ∧ Below w'.heap.size w' w'' ∧ w''.ownsRow w'.heap.size 134 1 v ts.length (ts.map Value.bool)) :
    Gives 56 #[.agg (bv leaf), .int .i64 i, .int .i64 n, .slice A m c] w (.tuple #[.agg (bv (List.replicate 32 0)), .int .i64 70]) := by
  have CB := Lib.hid (fun w => right_ok i n w hi hn)
  have CW := Lib.hid hCW
  have HS0 := Sep.start w
  have hne2 : ¬ (ts.length : Int) = (m : Int) := by omega
  clear hCW hne
  go_enter Tryd.func56, Tryd.ntmps56
  go_wp2_with (first | refine wl_bx HS0 rfl 24 _ rfl (bv leaf) rfl ?_)
  intro g1 w1 HS1
  go_wp2_with (first | refine wl_al HS1 rfl 24 rfl (bv (List.replicate 32 0)) (by kernel_rfl) ?_)
  intro g2 w2 HS2
  go_wp2_with fail
  (with_reducible refine Calls.mono (CB.out w2) ?_)
  rintro e wx ⟨rfl, rfl⟩
  go_wp2_with fail
  refine Calls.mono (CW.out w2) ?_
  rintro e w3 ⟨v3, rfl, b3, o3⟩
  have HS3 := HS2.madeRow b3 o3
  obtain ⟨A3, c3, rfl, _⟩ := (HS3.own 0 rfl).sl
  clear HS2 o3
  go_wp2_with (first | refine wl_st HS3 1 rfl rfl 24 _ _ rfl rfl (cs := bv (List.replicate 32 0)) rfl (dgS rfl) rfl (bv_one _) ?_)
  intro w4 HS4
  go_wp2_with fail
  exact ret_row_tmp rfl rfl g2 rfl 24 (bv (List.replicate 32 0)) (0, 0) _ (HS4.row 1 rfl) Tryd.underlying24 rfl (dgS rfl) (.int .i64 70) rfl ⟨rfl, HS4.hb⟩
set_option maxRecDepth 100000 in
set_option maxHeartbeats 4000000 in
theorem vroot_gen (nd : List UInt8 → List UInt8 → List UInt8) (D : Nat → List UInt8) (ts : List Bool) (path : List (List UInt8)) (leaf : List UInt8) (i n : Nat) (v : Value) (w : World) (hi : i < n) (hn : n ≤ 281474976710656) (hts : ts.length ≤ 48) (hlen : ts.length = path.length) (hp : AllD path) (hlf : leaf.length = 32) (hR : Rd w v path.length 32 (dcs path))
    (hD0 : D 0 = leaf) (hDl : ∀ k, (D k).length = 32) (hDt : ∀ k, k < path.length → ts.getD (path.length - 1 - k) false = true → D (k + 1) = nd (D k) (path.getD k [])) (hDf : ∀ k, k < path.length → ts.getD (path.length - 1 - k) false = false → D (k + 1) = nd (path.getD k []) (D k))
    (hCW : ∀ w', Calls Tryd.prog 83 #[.int .i64 i, .int .i64 n] w' fun e w'' => ∃ v, e = .returned v ∧ Below w'.heap.size w' w'' ∧ w''.ownsRow w'.heap.size 134 1 v ts.length (ts.map Value.bool))
    (hCN : ∀ w' a b, Below w.heap.size w w' → a.length = 32 → b.length = 32 → Gives 45 #[.agg (bv a), .agg (bv b)] w' (.agg (bv (nd a b)))) :
    Gives 56 #[.agg (bv leaf), .int .i64 i, .int .i64 n, v] w (.tuple #[.agg (bv (D path.length)), .int .i64 0]) := by
  have CB := Lib.hid (fun w => right_ok i n w hi hn)
  have CW := Lib.hid hCW
  have CN := Lib.hid hCN
  have HD0 := Lib.hid hD0
  have HDL := Lib.hid hDl
  have HDT := Lib.hid hDt
  have HDF := Lib.hid hDf
  have HP := Lib.hid hp
  obtain ⟨L, hL⟩ : ∃ L, path.length = L := ⟨_, rfl⟩
  rw [hL] at hR hlen HDT HDF ⊢
  rw [hlen] at CW hts
  have HLE := Lib.hid hlen
  have HPL := Lib.hid hL
  have HS0 := (Sep.start w).arg0 hR
  obtain ⟨A, c, rfl, hc, hcm⟩ := hR.shape
  clear hCW hCN hD0 hDl hDt hDf hp hL hR hlen
  go_enter Tryd.func56, Tryd.ntmps56
  go_wp2_with (first | refine wl_bx HS0 rfl 24 _ rfl (bv leaf) rfl ?_)
  intro g1 w1 HS1
  go_wp2_with (first | refine wl_al HS1 rfl 24 rfl (bv (List.replicate 32 0)) (by kernel_rfl) ?_)
  intro g2 w2 HS2
  go_wp2_with fail
  (with_reducible refine Calls.mono (CB.out w2) ?_)
  rintro e wx ⟨rfl, rfl⟩
  go_wp2_with fail
  refine Calls.mono (CW.out w2) ?_
  rintro e w3 ⟨v3, rfl, b3, o3⟩
  have HS3 := HS2.madeRow b3 o3
  obtain ⟨A3, c3, rfl, _⟩ := (HS3.own 0 rfl).sl
  clear HS0 HS1 HS2 o3
  go_wp2_with (first | refine wl_ld HS3 2 rfl rfl 24 _ rfl rfl Tryd.underlying24 rfl (dgS hlf) ?_ | refine wl_al HS3 rfl 24 rfl (bv (List.replicate 32 0)) (by kernel_rfl) ?_)
  intro g4 w4 HS4
  go_wp2_with (first | refine wl_st HS4 0 rfl rfl 24 _ _ rfl rfl rfl (dgS hlf) (dgE rfl hlf) (bv_one _) ?_)
  intro w5 HS5
  clear HS3 HS4
  go_wp2
  go_loopw [31] (fun s31 wr => ∃ k : Nat, k ≤ L ∧ s31 = .int .i64 k ∧ Sep w.heap.size w wr [.row g4 (bv (D k)) 24, .own (.slice A3 L c3) 134 1 L (ts.map Value.bool), .row g2 (bv (List.replicate 32 0)) 24, .row g1 (bv leaf) 24, .rd (.slice A L c) L 32 (dcs path)]) (fun s31 _ => L - (intOf s31).toNat)
  case atStart => exact ⟨0, by omega, rfl, by rw [HD0.out]; exact HS5⟩
  case round =>
    clear HS5
    obtain ⟨k, hk, rfl, HSi⟩ := hrel
    by_cases hlt : k < L
    · have hlt' : (k : Int) < (L : Int) := by omega
      obtain ⟨d, hd⟩ : ∃ d, path.getD k [] = d := ⟨_, rfl⟩
      have hdl : d.length = 32 := by rw [← hd]; exact dg_len HP.out k (by rw [HPL.out]; exact hlt)
      obtain ⟨b0, o0, rfl⟩ := rd_some (HSi.rd 4 rfl) (by omega)
      obtain ⟨g5, rfl⟩ := Ow.addr (HSi.own 1 rfl) (by omega)
      have HLD := Lib.hid (load_dg (HSi.rd 4 rfl) HPL.out.symm HP.out k (by rw [HPL.out]; exact hlt) d hd)
      have hDT := HDT.out k hlt
      have hDF := HDF.out k hlt
      rw [hd] at hDT hDF
      obtain ⟨m, hm⟩ : ∃ m, L - 1 - k = m := ⟨_, rfl⟩
      have hmL : (L : Int) - 1 - (k : Int) = (m : Int) := by omega
      have hmlt : m < L := by omega
      rw [hm] at hDT hDF
      obtain ⟨t, ht⟩ : ∃ t, ts.getD m false = t := ⟨_, rfl⟩
      rw [ht] at hDT hDF
      have HTC := Lib.hid (fun (W : World) (h : Ow W w.heap.size 134 1 (.slice (some ⟨g5, 0, none⟩) L c3) L (ts.map Value.bool)) => by
        have := turn_cell h m (by rw [HLE.out]; exact hmlt)
        rw [ht] at this
        exact this)
      have HDKL := Lib.hid (HDL.out k)
      have HDSL := Lib.hid (HDL.out (k + 1))
      obtain ⟨X, hX⟩ : ∃ X, D k = X := ⟨_, rfl⟩
      obtain ⟨Y, hY⟩ : ∃ Y, D (k + 1) = Y := ⟨_, rfl⟩
      rw [hX] at HSi HDKL hDT hDF
      rw [hY] at HDSL hDT hDF
      have HY := Lib.hid hY
      have HDT2 := Lib.hid hDT
      have HDF2 := Lib.hid hDF
      have hmi : (m : Int) < (L : Int) := by omega
      clear hd hDT hDF hm ht hX hY
      go_wp2_with (first | refine wl_ldx rfl 24 _ rfl _ rfl (.agg (bv d)) HLD.out ?_ | refine wl_al HSi rfl 24 rfl (bv (List.replicate 32 0)) (by kernel_rfl) ?_)
      intro g6 w6 HS6
      go_wp2_with (first | refine wl_st HS6 0 rfl rfl 24 _ _ rfl rfl rfl (dgS hdl) (dgE rfl hdl) (bv_one _) ?_)
      intro w7 HS7
      have htc := HTC.out w7 (HS7.own 2 rfl)
      cases t with
      | true =>
        have e1 := HDT2.out rfl
        have HCN := Lib.hid (fun w' hb => CN.out w' X d hb HDKL.out hdl)
        rw [← e1] at HCN
        clear e1
        go_wp2_with (first | refine wl_ld HS7 1 rfl rfl 24 _ rfl rfl Tryd.underlying24 rfl (dgS HDKL.out) ?_ | refine wl_ld HS7 0 rfl rfl 24 _ rfl rfl Tryd.underlying24 rfl (dgS hdl) ?_)
        (with_reducible refine Calls.mono (HCN.out w7 HS7.hb) ?_)
        rintro e w8 ⟨rfl, b8⟩
        have HS8 := HS7.keep b8
        clear HS7
        go_wp2_with (first | refine wl_st HS8 1 rfl rfl 24 _ _ rfl rfl rfl (dgS HDSL.out) (dgE HDKL.out HDSL.out) (bv_one _) ?_)
        intro w9 HS9
        go_wp2
        go_roundw
        case rel => exact ⟨k + 1, by omega, by go_num, by rw [HY.out]; exact HS9.tail⟩
        case measure => simp [intOf]; omega
      | false =>
        have e1 := HDF2.out rfl
        have HCN := Lib.hid (fun w' hb => CN.out w' d X hb hdl HDKL.out)
        rw [← e1] at HCN
        clear e1
        go_wp2_with (first | refine wl_ld HS7 1 rfl rfl 24 _ rfl rfl Tryd.underlying24 rfl (dgS HDKL.out) ?_ | refine wl_ld HS7 0 rfl rfl 24 _ rfl rfl Tryd.underlying24 rfl (dgS hdl) ?_)
        (with_reducible refine Calls.mono (HCN.out w7 HS7.hb) ?_)
        rintro e w8 ⟨rfl, b8⟩
        have HS8 := HS7.keep b8
        clear HS7
        go_wp2_with (first | refine wl_st HS8 1 rfl rfl 24 _ _ rfl rfl rfl (dgS HDSL.out) (dgE HDKL.out HDSL.out) (bv_one _) ?_)
        intro w9 HS9
        go_wp2
        go_roundw
        case rel => exact ⟨k + 1, by omega, by go_num, by rw [HY.out]; exact HS9.tail⟩
        case measure => simp [intOf]; omega
    · have hkL : k = L := by omega
      subst hkL
      go_wp2_with (first | refine wl_ld HSi 0 rfl rfl 24 _ rfl rfl Tryd.underlying24 rfl (dgS (HDL.out k)) ?_ | refine wl_st HSi 2 rfl rfl 24 _ _ rfl rfl rfl (dgS (HDL.out k)) (dgE rfl (HDL.out k)) (bv_one _) ?_)
      intro w6 HS6
      go_wp2_with fail
      exact ret_row_tmp rfl rfl g2 rfl 24 (bv (D k)) (0, 0) _ (HS6.row 2 rfl) Tryd.underlying24 rfl (dgS (HDL.out k)) (.int .i64 0) rfl ⟨rfl, HS6.hb⟩
end Go.Proofs.YtbjbdnlgoifamaaDoor
