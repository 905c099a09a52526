/- Sub of both; two digests' lists that are the same. -/
import Derived.Test.YtbdmehgbdnninaaDoorRq
import Derived.Test.YtbdmehgbdnninaaDoorOd
namespace Go.Proofs.YtbdmehgbdnninaaDoor
open Go.RowKit Cop
set_option linter.unusedVariables false
set_option linter.unusedSimpArgs false
theorem dgs_info : (Tryd.prog.info? 26).map (fun i => (i.zero, i.size, i.bytes)) = some (some (.agg (bv (List.replicate 32 0))), 32, 32) := by kernel_rfl
theorem dcs_one (l : List (List UInt8)) : ∀ c ∈ dcs l, c.oneCell' = true := by
  intro c hc
  simp only [dcs, List.mem_flatMap] at hc
  obtain ⟨x, _, hc⟩ := hc
  simp [bl] at hc; obtain ⟨b, _, rfl⟩ := hc; rfl
theorem whole_a (A : Option Addr) (n c : Nat) (b e : Int) (w : World) : Gives 49 #[.slice A n c, .agg #[.int .i64 b, .int .i64 e]] w (.bool (decide (b = 0) && decide (e = (n : Int)))) := by
  have HS0 := Sep.start w
  go_enter Tryd.func49, Tryd.ntmps49
  go_wp2_with (first | refine wl_bx HS0 rfl 24 _ rfl #[.int .i64 b, .int .i64 e] rfl ?_)
  intro g1 w1 HS1
  go_wp2_with (first | refine wl_ld HS1 0 rfl rfl 24 _ rfl rfl Tryd.underlying24 rfl (by kernel_rfl) ?_)
  all_goals
    go_ret
    exact ⟨by simp_all, HS1.hb⟩
set_option maxRecDepth 100000 in
set_option maxHeartbeats 4000000 in
theorem same_a (l : List (List UInt8)) (va vb : Value) (w : World) (hl : AllD l) (hll : l.length ≤ 4398046511104) (ha : Rd w va l.length 32 (dcs l)) (hb : Rd w vb l.length 32 (dcs l)) :
    Gives 17 #[va, vb] w (.bool true) := by
  have HL := Lib.hid hl
  have HS0 := ((Sep.start w).arg0 ha).arg0 hb
  obtain ⟨A, ca, rfl, _, _⟩ := ha.shape
  obtain ⟨B, cb, rfl, _, _⟩ := hb.shape
  clear ha hb hl
  go_enter Tryd.func17, Tryd.ntmps17
  go_wp2
  go_loopw [5] (fun s5 wr => ∃ k : Nat, k ≤ l.length ∧ s5 = .int .i64 k ∧ Sep w.heap.size w wr [.rd (.slice B l.length cb) l.length 32 (dcs l), .rd (.slice A l.length ca) l.length 32 (dcs l)]) (fun s5 _ => l.length - (intOf s5).toNat)
  case atStart => exact ⟨0, by omega, rfl, HS0⟩
  case round =>
    clear HS0
    obtain ⟨k, hk, rfl, HSi⟩ := hrel
    by_cases hlt : k < l.length
    · have hlt' : (k : Int) < (l.length : Int) := by omega
      obtain ⟨d, hd⟩ : ∃ d, l.getD k [] = d := ⟨_, rfl⟩
      have hdl : d.length = 32 := by rw [← hd]; exact dg_len HL.out k hlt
      obtain ⟨b1, o1, rfl⟩ := rd_some (HSi.rd 1 rfl) (by omega)
      obtain ⟨b2, o2, rfl⟩ := rd_some (HSi.rd 0 rfl) (by omega)
      have HD := Lib.hid hd
      have HEQ := Lib.hid (fun w' : World => run_equal_bv (P := Tryd.prog) w' (d := 9998) Tryd.underlying26 Tryd.underlying5 (by kernel_rfl) d d hdl hdl)
      have HLT := Lib.hid hlt
      clear hd
      go_wp2
      refine Cop.region_ord (fun w' => Sep w.heap.size w w' [.rd (.slice (some ⟨b2, o2, none⟩) l.length cb) l.length 32 (dcs l), .rd (.slice (some ⟨b1, o1, none⟩) l.length ca) l.length 32 (dcs l)]) 8 (.take 0 (.take 1 (.take 2 (.take 3 (.take 4 (.take 5 (.take 6 (.take 7 (.take 8 Cop.Ord.fin))))))))) (by kernel_rfl) (by kernel_rfl) (fun _ _ d _ _ h => by cases d <;> exact h) ?_
      intro wa hda
      replace HSi := HSi.keep hda
      (repeat (first | (refine Cop.og_skip rfl rfl HSi _ (by (simp only [Act.put, List.setIfInBounds_toArray, List.set_cons_succ, List.set_cons_zero]; rfl)) ?_) | (refine Cop.og_ld rfl rfl HSi 26 _ rfl (.pointer (some ⟨b1, o1 + k * 32, none⟩)) rfl (.agg (bv d)) (fun w9 h9 => load_dg (h9.rd 1 rfl) rfl HL.out k HLT.out d HD.out) _ (by (simp only [Act.put, List.setIfInBounds_toArray, List.set_cons_succ, List.set_cons_zero]; rfl)) ?_) | (refine Cop.og_ld rfl rfl HSi 26 _ rfl (.pointer (some ⟨b2, o2 + k * 32, none⟩)) rfl (.agg (bv d)) (fun w9 h9 => load_dg (h9.rd 0 rfl) rfl HL.out k HLT.out d HD.out) _ (by (simp only [Act.put, List.setIfInBounds_toArray, List.set_cons_succ, List.set_cons_zero]; rfl)) ?_) | (refine Cop.og_take rfl rfl HSi ?_; apply Exists.intro; refine ⟨fun w9 h9 => ?_, _, by (simp only [Act.put, List.setIfInBounds_toArray, List.set_cons_succ, List.set_cons_zero]; rfl), ?_⟩; (have q1 := HEQ.out w9; go_simp; with_reducible rfl))))
      refine og_fin ?_
      go_wp2
      go_roundw
      case rel => exact ⟨k + 1, by omega, by go_num, HSi⟩
      case measure => simp [intOf]; omega
    · have hlt' : ¬ (k : Int) < (l.length : Int) := by omega
      go_wp2
      go_ret
      exact ⟨rfl, HSi.hb⟩
set_option maxHeartbeats 4000000 in
theorem subNo_a (A : Option Addr) (n c : Nat) (b e : Int) (w : World) (hn : n ≤ 4398046511104) (hno : ¬ (0 ≤ b ∧ b < e ∧ e ≤ (n : Int))) : Gives 13 #[.slice A n c, .agg #[.int .i64 b, .int .i64 e]] w (.tuple #[.agg (bv (List.replicate 32 0)), .int .i64 40]) := by
  have HS0 := Sep.start w
  have HNO := Lib.hid hno
  clear hno
  go_enter Tryd.func13, Tryd.ntmps13
  go_wp2_with (first | refine wl_bx HS0 rfl 24 _ rfl #[.int .i64 b, .int .i64 e] rfl ?_)
  intro g1 w1 HS1
  go_wp2_with (first | refine wl_al HS1 rfl 26 rfl (bv (List.replicate 32 0)) (by kernel_rfl) ?_)
  intro g2 w2 HS2
  have c0 : w2.cell? ⟨g1, 0, none⟩ = some (.int .i64 b) := by rw [row_cell (HS2.row 1 rfl)]; rfl
  have c1 : w2.cell? ⟨g1, 1, none⟩ = some (.int .i64 e) := by rw [row_cell (HS2.row 1 rfl)]; rfl
  rcases (show b < 0 ∨ (¬ b < 0 ∧ e ≤ b) ∨ (¬ b < 0 ∧ ¬ e ≤ b ∧ (n : Int) < e) from by have := HNO.out; omega) with h1 | ⟨h1, h2⟩ | ⟨h1, h2, h3⟩
  all_goals
    go_wp2_with (first | refine wl_st HS2 0 rfl rfl 26 _ _ rfl rfl (cs := bv (List.replicate 32 0)) rfl (dgS rfl) rfl (bv_one _) ?_)
    intro w3 HS3
    go_wp2_with fail
    exact ret_row_tmp rfl rfl g2 rfl 26 (bv (List.replicate 32 0)) (0, 0) _ (HS3.row 0 rfl) Tryd.underlying26 rfl (dgS rfl) (.int .i64 40) rfl ⟨rfl, HS3.hb⟩
set_option maxHeartbeats 4000000 in
theorem subNo_b (A : Option Addr) (n c : Nat) (b e : Int) (w : World) (hn : n ≤ 4398046511104) (hno : ¬ (0 ≤ b ∧ b < e ∧ e ≤ (n : Int))) : Gives 14 #[.slice A n c, .agg #[.int .i64 b, .int .i64 e]] w (.tuple #[.agg (bv (List.replicate 32 0)), .int .i64 40]) := by
  have HS0 := Sep.start w
  have HNO := Lib.hid hno
  clear hno
  go_enter Tryd.func14, Tryd.ntmps14
  go_wp2_with (first | refine wl_bx HS0 rfl 24 _ rfl #[.int .i64 b, .int .i64 e] rfl ?_)
  intro g1 w1 HS1
  go_wp2_with (first | refine wl_al HS1 rfl 26 rfl (bv (List.replicate 32 0)) (by kernel_rfl) ?_)
  intro g2 w2 HS2
  have c0 : w2.cell? ⟨g1, 0, none⟩ = some (.int .i64 b) := by rw [row_cell (HS2.row 1 rfl)]; rfl
  have c1 : w2.cell? ⟨g1, 1, none⟩ = some (.int .i64 e) := by rw [row_cell (HS2.row 1 rfl)]; rfl
  rcases (show b < 0 ∨ (¬ b < 0 ∧ e ≤ b) ∨ (¬ b < 0 ∧ ¬ e ≤ b ∧ (n : Int) < e) from by have := HNO.out; omega) with h1 | ⟨h1, h2⟩ | ⟨h1, h2, h3⟩
  all_goals
    go_wp2_with (first | refine wl_st HS2 0 rfl rfl 26 _ _ rfl rfl (cs := bv (List.replicate 32 0)) rfl (dgS rfl) rfl (bv_one _) ?_)
    intro w3 HS3
    go_wp2_with fail
    exact ret_row_tmp rfl rfl g2 rfl 26 (bv (List.replicate 32 0)) (0, 0) _ (HS3.row 0 rfl) Tryd.underlying26 rfl (dgS rfl) (.int .i64 40) rfl ⟨rfl, HS3.hb⟩
set_option maxRecDepth 100000 in
set_option maxHeartbeats 4000000 in
theorem subB_gen (l : List (List UInt8)) (v : Value) (b e : Nat) (X : List UInt8) (w : World) (hl : AllD l) (hll : l.length ≤ 4398046511104) (hR : Rd w v l.length 32 (dcs l)) (h1 : b < e) (h2 : e ≤ l.length) (hX : X.length = 32)
    (hC : ∀ w' v', Rd w' v' (e - b) 32 (dcs ((l.take e).drop b)) → Gives 16 #[v'] w' (.agg (bv X))) :
    Gives 14 #[v, .agg #[.int .i64 b, .int .i64 e]] w (.tuple #[.agg (bv X), .int .i64 0]) := by
  obtain ⟨A1, c1, HR1, hc1, hm1, hs1, _, _⟩ := rd_dsub hR hl b e (by omega) h2
  obtain ⟨m, hm⟩ : ∃ m, e - b = m := ⟨_, rfl⟩
  obtain ⟨T, hT⟩ : ∃ T, (l.take e).drop b = T := ⟨_, rfl⟩
  rw [hm] at HR1 hs1 hC
  rw [hT] at HR1 hC
  have CR := Lib.hid hC
  have HXL := Lib.hid hX
  have HSL := Lib.hid hs1
  have HS0 := ((Sep.start w).arg0 hR).arg0 HR1
  obtain ⟨A, c, rfl, _, _⟩ := hR.shape
  have k1 : ¬ (b : Int) < 0 := by omega
  have k2 : ¬ (e : Int) ≤ (b : Int) := by omega
  have k3 : ¬ (l.length : Int) < (e : Int) := by omega
  clear hC hX hs1 hR HR1 hT hm hl
  go_enter Tryd.func14, Tryd.ntmps14
  go_wp2_with (first | refine wl_bx HS0 rfl 24 _ rfl #[.int .i64 b, .int .i64 e] rfl ?_)
  intro g1 w1 HS1
  go_wp2_with (first | refine wl_al HS1 rfl 26 rfl (bv (List.replicate 32 0)) (by kernel_rfl) ?_)
  intro g2 w2 HS2
  have c0 : w2.cell? ⟨g1, 0, none⟩ = some (.int .i64 b) := by rw [row_cell (HS2.row 1 rfl)]; rfl
  have c1 : w2.cell? ⟨g1, 1, none⟩ = some (.int .i64 e) := by rw [row_cell (HS2.row 1 rfl)]; rfl
  go_wp2_with (refine wl_sl2 rfl 22 _ _ _ rfl _ rfl _ _ rfl rfl _ (HSL.out _ _ _) ?_)
  (with_reducible refine Calls.mono (CR.out w2 _ (HS2.rd 2 rfl)) ?_)
  rintro e w3 ⟨rfl, b3⟩
  have HS3 := HS2.keep b3
  clear HS2
  go_wp2_with (first | refine wl_st HS3 0 rfl rfl 26 _ _ rfl rfl rfl (dgS HXL.out) (dgE rfl HXL.out) (bv_one _) ?_)
  intro w4 HS4
  go_wp2_with fail
  exact ret_row_tmp rfl rfl g2 rfl 26 (bv X) (0, 0) _ (HS4.row 0 rfl) Tryd.underlying26 rfl (dgS HXL.out) (.int .i64 0) rfl ⟨rfl, HS4.hb⟩
set_option maxRecDepth 100000 in
set_option maxHeartbeats 4000000 in
theorem subA_gen (l : List (List UInt8)) (v : Value) (b e : Nat) (X : List UInt8) (w : World) (hl : AllD l) (hll : l.length ≤ 4398046511104) (hR : Rd w v l.length 32 (dcs l)) (h1 : b < e) (h2 : e ≤ l.length) (hX : X.length = 32)
    (hC : ∀ w' v', Below w.heap.size w w' → Rd w' v' (e - b) 32 (dcs ((l.take e).drop b)) → Gives 15 #[v'] w' (.agg (bv X))) :
    Gives 13 #[v, .agg #[.int .i64 b, .int .i64 e]] w (.tuple #[.agg (bv X), .int .i64 0]) := by
  obtain ⟨A1, c1, HR1, hc1, hm1, hs1, _, _⟩ := rd_dsub hR hl b e (by omega) h2
  have HR2 : b = 0 ∧ e = l.length → Rd w v (e - b) 32 (dcs ((l.take e).drop b)) := by
    rintro ⟨rfl, rfl⟩
    rw [Nat.sub_zero, List.drop_zero, List.take_length]
    exact hR
  obtain ⟨m, hm⟩ : ∃ m, e - b = m := ⟨_, rfl⟩
  obtain ⟨T, hT⟩ : ∃ T, (l.take e).drop b = T := ⟨_, rfl⟩
  rw [hm] at HR1 hs1 hC HR2
  rw [hT] at HR1 hC HR2
  have CR := Lib.hid hC
  have HXL := Lib.hid hX
  have HSL := Lib.hid hs1
  have HRX := Lib.hid HR2
  have HS0 := ((Sep.start w).arg0 hR).arg0 HR1
  obtain ⟨A, c, rfl, _, _⟩ := hR.shape
  have CW := Lib.hid (fun w => whole_a A l.length c b e w)
  have k1 : ¬ (b : Int) < 0 := by omega
  have k2 : ¬ (e : Int) ≤ (b : Int) := by omega
  have k3 : ¬ (l.length : Int) < (e : Int) := by omega
  have hcw : ∃ t, (decide ((b : Int) = 0) && decide ((e : Int) = (l.length : Int))) = t ∧ (t = true → b = 0 ∧ e = l.length) := ⟨_, rfl, fun h => by simp at h; omega⟩
  obtain ⟨t, ht, htt⟩ := hcw
  rw [ht] at CW
  have HTT := Lib.hid htt
  clear hC hX hs1 hR HR1 hT hm hl HR2 ht htt
  go_enter Tryd.func13, Tryd.ntmps13
  go_wp2_with (first | refine wl_bx HS0 rfl 24 _ rfl #[.int .i64 b, .int .i64 e] rfl ?_)
  intro g1 w1 HS1
  go_wp2_with (first | refine wl_al HS1 rfl 26 rfl (bv (List.replicate 32 0)) (by kernel_rfl) ?_)
  intro g2 w2 HS2
  have c0 : w2.cell? ⟨g1, 0, none⟩ = some (.int .i64 b) := by rw [row_cell (HS2.row 1 rfl)]; rfl
  have c1 : w2.cell? ⟨g1, 1, none⟩ = some (.int .i64 e) := by rw [row_cell (HS2.row 1 rfl)]; rfl
  go_wp2_with (first | refine wl_ld HS2 1 rfl rfl 24 _ rfl rfl Tryd.underlying24 rfl (by kernel_rfl) ?_)
  (with_reducible refine Calls.mono (CW.out w2) ?_)
  rintro e w3 ⟨rfl, b3⟩
  have HS3 := HS2.keep b3
  clear HS2
  cases t with
  | true =>
    obtain ⟨hb0, he0⟩ := HTT.out rfl
    have hr3 := (HRX.out ⟨hb0, he0⟩)
    have hr4 := hr3.below HS3.hb
    clear hr3 hb0 he0
    go_wp2_with fail
    (with_reducible refine Calls.mono (CR.out w3 _ HS3.hb hr4) ?_)
    rintro e w4 ⟨rfl, b4⟩
    have HS4 := HS3.keep b4
    clear HS3
    clear hr4
    go_wp2_with (first | refine wl_st HS4 0 rfl rfl 26 _ _ rfl rfl rfl (dgS HXL.out) (dgE rfl HXL.out) (bv_one _) ?_)
    intro w5 HS5
    go_wp2_with fail
    exact ret_row_tmp rfl rfl g2 rfl 26 (bv X) (0, 0) _ (HS5.row 0 rfl) Tryd.underlying26 rfl (dgS HXL.out) (.int .i64 0) rfl ⟨rfl, HS5.hb⟩
  | false =>
    have c0 : w3.cell? ⟨g1, 0, none⟩ = some (.int .i64 b) := by rw [row_cell (HS3.row 1 rfl)]; rfl
    have c1 : w3.cell? ⟨g1, 1, none⟩ = some (.int .i64 e) := by rw [row_cell (HS3.row 1 rfl)]; rfl
    go_wp2_with (refine wl_sl2 rfl 22 _ _ _ rfl _ rfl _ _ rfl rfl _ (HSL.out _ _ _) ?_)
    (with_reducible refine Calls.mono (CR.out w3 _ HS3.hb (HS3.rd 2 rfl)) ?_)
    rintro e w4 ⟨rfl, b4⟩
    have HS4 := HS3.keep b4
    clear HS3
    go_wp2_with (first | refine wl_st HS4 0 rfl rfl 26 _ _ rfl rfl rfl (dgS HXL.out) (dgE rfl HXL.out) (bv_one _) ?_)
    intro w5 HS5
    go_wp2_with fail
    exact ret_row_tmp rfl rfl g2 rfl 26 (bv X) (0, 0) _ (HS5.row 0 rfl) Tryd.underlying26 rfl (dgS HXL.out) (.int .i64 0) rfl ⟨rfl, HS5.hb⟩
/-- Some span of leaves, by both. -/
theorem sub_ab (l : List (List UInt8)) (b e : Int) (w : World) (hT : Tab w) (hl : AllD l) (hll : l.length ≤ 4398046511104) : ∃ (X : List UInt8) (E : Int), X.length = 32 ∧
    (∀ w' v, Below w.heap.size w w' → Rd w' v l.length 32 (dcs l) → Gives 13 #[v, .agg #[.int .i64 b, .int .i64 e]] w' (.tuple #[.agg (bv X), .int .i64 E])) ∧
    (∀ w' v, Rd w' v l.length 32 (dcs l) → Gives 14 #[v, .agg #[.int .i64 b, .int .i64 e]] w' (.tuple #[.agg (bv X), .int .i64 E])) := by
  by_cases h : 0 ≤ b ∧ b < e ∧ e ≤ (l.length : Int)
  · obtain ⟨h1, h2, h3⟩ := h
    obtain ⟨i, rfl⟩ : ∃ i : Nat, b = (i : Int) := ⟨b.toNat, by omega⟩
    obtain ⟨j, rfl⟩ : ∃ j : Nat, e = (j : Int) := ⟨e.toNat, by omega⟩
    have hla : AllD ((l.take j).drop i) := (hl.take j).drop i
    have hlen : ((l.take j).drop i).length = j - i := by rw [List.length_drop, List.length_take]; omega
    refine ⟨root nodeD (sha []) ((l.take j).drop i), 0, root_length _ hla, fun w' v hb hR => ?_, fun w' v hR => ?_⟩
    · exact subA_gen l v i j _ w' hl hll hR (by omega) (by omega) (root_length _ hla) fun w2 v' hb2 hv => root_a _ v' w2 ((hT.below hb).below hb2) hla (by omega) (by rw [hlen]; exact hv)
    · exact subB_gen l v i j _ w' hl hll hR (by omega) (by omega) (root_length _ hla) fun w2 v' hv => root_b _ v' w2 hla (by omega) (by rw [hlen]; exact hv)
  · refine ⟨List.replicate 32 0, 40, rfl, fun w' v hb hR => ?_, fun w' v hR => ?_⟩
    all_goals
      obtain ⟨A, c, rfl, _, _⟩ := hR.shape
      first | exact subNo_a A _ c b e w' hll h | exact subNo_b A _ c b e w' hll h
end Go.Proofs.YtbdmehgbdnninaaDoor
