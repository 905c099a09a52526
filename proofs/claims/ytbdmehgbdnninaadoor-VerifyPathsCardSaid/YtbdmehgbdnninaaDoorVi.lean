/- Both Roots of a path, both Inclusions, lent and kept; an Ask that came in. -/
import Derived.Test.YtbdmehgbdnninaaDoorUp
import Derived.Test.YtbdmehgbdnninaaDoorOh
namespace Go.Proofs.YtbdmehgbdnninaaDoor
open Go.RowKit Cop
set_option linter.unusedVariables false
set_option linter.unusedSimpArgs false
theorem fold32d (nd : List UInt8 → List UInt8 → List UInt8) (hnd : ∀ a b, (nd a b).length = 32) : ∀ (l : List (Bool × List UInt8)) (d : List UInt8), d.length = 32 → (l.foldl (fun d q => if q.1 then nd d q.2 else nd q.2 d) d).length = 32 := by
  intro l
  induction l with
  | nil => intro d hd; exact hd
  | cons q l ih =>
    intro d hd
    rw [List.foldl_cons]
    refine ih _ ?_
    split <;> exact hnd _ _
theorem climb_steps (nd : List UInt8 → List UInt8 → List UInt8) (hnd : ∀ a b, (nd a b).length = 32) (leaf : List UInt8) (hlf : leaf.length = 32) (ts : List Bool) (p : List (List UInt8)) (h : ts.length = p.length) :
    ∃ D : Nat → List UInt8, D 0 = leaf ∧ D p.length = climb nd leaf ts p ∧ (∀ k, (D k).length = 32) ∧ (∀ k, k < p.length → ts.getD (p.length - 1 - k) false = true → D (k + 1) = nd (D k) (p.getD k [])) ∧ (∀ k, k < p.length → ts.getD (p.length - 1 - k) false = false → D (k + 1) = nd (p.getD k []) (D k)) := by
  have key : ∀ k, k < p.length → (ts.reverse.zip p).take (k + 1) = (ts.reverse.zip p).take k ++ [(ts.getD (p.length - 1 - k) false, p.getD k [])] := by
    intro k hk
    have h1 : k < (ts.reverse.zip p).length := by simp [List.length_zip]; omega
    rw [List.take_add_one, List.getElem?_eq_getElem h1, List.getElem_zip, List.getElem_reverse]
    simp [List.getD, hk, h, show p.length - 1 - k < p.length from by omega]
  refine ⟨fun k => ((ts.reverse.zip p).take k).foldl (fun d q => if q.1 then nd d q.2 else nd q.2 d) leaf, by simp, ?_, fun k => fold32d nd hnd _ _ hlf, fun k hk ht => ?_, fun k hk ht => ?_⟩
  · show ((ts.reverse.zip p).take p.length).foldl _ leaf = _
    rw [List.take_of_length_le (by rw [List.length_zip]; omega), ← climb_fold nd leaf ts p h]
  · show ((ts.reverse.zip p).take (k + 1)).foldl _ leaf = _
    rw [key k hk, List.foldl_append, ht]
    rfl
  · show ((ts.reverse.zip p).take (k + 1)).foldl _ leaf = _
    rw [key k hk, List.foldl_append, ht]
    rfl
set_option maxHeartbeats 4000000 in
theorem rroot_bad (leaf : List UInt8) (i n : Int) (v : Value) (w : World) (h : ¬ okI i n) : Gives 30 #[.agg (bv leaf), .int .i64 i, .int .i64 n, v] w (.tuple #[.agg (bv (List.replicate 32 0)), .int .i64 40]) := by
  have CB := Lib.hid (fun w => rlength_bad i n w h)
  have HS0 := Sep.start w
  clear h
  go_enter Tryd.func30, Tryd.ntmps30
  go_wp2_with (first | refine wl_bx HS0 rfl 26 _ rfl (bv leaf) rfl ?_)
  intro g1 w1 HS1
  go_wp2_with (first | refine wl_al HS1 rfl 26 rfl (bv (List.replicate 32 0)) (by kernel_rfl) ?_)
  intro g2 w2 HS2
  go_wp2_with fail
  (with_reducible refine Calls.mono (CB.out w2) ?_)
  rintro e wx ⟨rfl, rfl⟩
  go_wp2_with (first | refine wl_st HS2 0 rfl rfl 26 _ _ rfl rfl (cs := bv (List.replicate 32 0)) rfl (dgS rfl) rfl (bv_one _) ?_)
  intro w3 HS3
  go_wp2_with fail
  exact ret_row_tmp rfl rfl g2 rfl 26 (bv (List.replicate 32 0)) (0, 0) _ (HS3.row 0 rfl) Tryd.underlying26 rfl (dgS rfl) (.int .i64 40) rfl ⟨rfl, HS3.hb⟩
set_option maxHeartbeats 4000000 in
theorem rroot_short (leaf : List UInt8) (i n : Nat) (A : Option Addr) (m c : Nat) (w : World) (hi : i < n) (hn : n ≤ 281474976710656) (hne : (way i n).length ≠ m) : Gives 30 #[.agg (bv leaf), .int .i64 i, .int .i64 n, .slice A m c] w (.tuple #[.agg (bv (List.replicate 32 0)), .int .i64 70]) := by
  have CB := Lib.hid (fun w => rlength_ok i n w hi hn)
  obtain ⟨L, hL⟩ : ∃ L, (way i n).length = L := ⟨_, rfl⟩
  rw [hL] at CB hne
  have HS0 := Sep.start w
  have hne2 : ¬ (m : Int) = (L : Int) := by omega
  clear hL hne
  go_enter Tryd.func30, Tryd.ntmps30
  go_wp2_with (first | refine wl_bx HS0 rfl 26 _ rfl (bv leaf) rfl ?_)
  intro g1 w1 HS1
  go_wp2_with (first | refine wl_al HS1 rfl 26 rfl (bv (List.replicate 32 0)) (by kernel_rfl) ?_)
  intro g2 w2 HS2
  go_wp2_with fail
  (with_reducible refine Calls.mono (CB.out w2) ?_)
  rintro e wx ⟨rfl, rfl⟩
  go_wp2_with (first | refine wl_st HS2 0 rfl rfl 26 _ _ rfl rfl (cs := bv (List.replicate 32 0)) rfl (dgS rfl) rfl (bv_one _) ?_)
  intro w3 HS3
  go_wp2_with fail
  exact ret_row_tmp rfl rfl g2 rfl 26 (bv (List.replicate 32 0)) (0, 0) _ (HS3.row 0 rfl) Tryd.underlying26 rfl (dgS rfl) (.int .i64 70) rfl ⟨rfl, HS3.hb⟩
set_option maxHeartbeats 4000000 in
theorem rroot_ok (leaf : List UInt8) (i n m : Nat) (A : Option Addr) (c : Nat) (X : List UInt8) (w : World) (hlf : leaf.length = 32) (hX : X.length = 32) (hi : i < n) (hn : n ≤ 281474976710656) (hm : (way i n).length = m)
    (hC : ∀ w', Below w.heap.size w w' → Gives 61 #[.agg (bv leaf), .int .i64 i, .int .i64 n, .slice A m c] w' (.agg (bv X))) :
    Gives 30 #[.agg (bv leaf), .int .i64 i, .int .i64 n, .slice A m c] w (.tuple #[.agg (bv X), .int .i64 0]) := by
  have CB := Lib.hid (fun w => rlength_ok i n w hi hn)
  have CU := Lib.hid hC
  rw [hm] at CB
  have HS0 := Sep.start w
  clear hm hC
  go_enter Tryd.func30, Tryd.ntmps30
  go_wp2_with (first | refine wl_bx HS0 rfl 26 _ rfl (bv leaf) rfl ?_)
  intro g1 w1 HS1
  go_wp2_with (first | refine wl_al HS1 rfl 26 rfl (bv (List.replicate 32 0)) (by kernel_rfl) ?_)
  intro g2 w2 HS2
  go_wp2_with fail
  (with_reducible refine Calls.mono (CB.out w2) ?_)
  rintro e wx ⟨rfl, rfl⟩
  go_wp2_with (first | refine wl_ld HS2 1 rfl rfl 26 _ rfl rfl Tryd.underlying26 rfl (dgS hlf) ?_)
  (with_reducible refine Calls.mono (CU.out w2 HS2.hb) ?_)
  rintro e w3 ⟨rfl, b3⟩
  have HS3 := HS2.keep b3
  clear HS2
  go_wp2_with (first | refine wl_st HS3 0 rfl rfl 26 _ _ rfl rfl rfl (dgS hX) (dgE rfl hX) (bv_one _) ?_)
  intro w4 HS4
  go_wp2_with fail
  exact ret_row_tmp rfl rfl g2 rfl 26 (bv X) (0, 0) _ (HS4.row 0 rfl) Tryd.underlying26 rfl (dgS hX) (.int .i64 0) rfl ⟨rfl, HS4.hb⟩
/-- Where a path leads, by both. -/
theorem root_ab7 (leaf : List UInt8) (path : List (List UInt8)) (i n : Int) (w : World) (hT : Tab w) (hlf : leaf.length = 32) (hp : AllD path) (hpl : path.length ≤ 4398046511104) : ∃ (X : List UInt8) (E : Int), X.length = 32 ∧
    (∀ w' v, Below w.heap.size w w' → Rd w' v path.length 32 (dcs path) → Gives 29 #[.agg (bv leaf), .int .i64 i, .int .i64 n, v] w' (.tuple #[.agg (bv X), .int .i64 E])) ∧
    (∀ w' v, Rd w' v path.length 32 (dcs path) → Gives 30 #[.agg (bv leaf), .int .i64 i, .int .i64 n, v] w' (.tuple #[.agg (bv X), .int .i64 E])) := by
  by_cases hok : okI i n
  · obtain ⟨h1, h2, h3, h4⟩ := hok
    obtain ⟨a, rfl⟩ : ∃ a : Nat, i = (a : Int) := ⟨i.toNat, by omega⟩
    obtain ⟨b, rfl⟩ : ∃ b : Nat, n = (b : Int) := ⟨n.toNat, by omega⟩
    have hab : a < b := by omega
    have hb : b ≤ 281474976710656 := by omega
    have hw48 := way_len 48 b a (by omega)
    by_cases hlen : (way a b).length = path.length
    · obtain ⟨D, hD0, hDL, hDl, hDt, hDf⟩ := climb_steps nodeD nodeD_length leaf hlf (way a b) path hlen
      refine ⟨climb nodeD leaf (way a b) path, 0, climb32 nodeD nodeD_length leaf hlf _ _, fun w' v hbl hR => ?_, fun w' v hR => ?_⟩
      · rw [← hDL]
        exact vroot_gen nodeD D (way a b) path leaf a b v w' hab hb hw48 hlen hp hlf hR hD0 hDl hDt hDf (fun w2 => way54 a b w2 hab hb) (fun w2 x y hb2 hx hy => node_a x y w2 ((hT.below hbl).below hb2) hx hy)
      · have hU := fun w2 (hb2 : Below w'.heap.size w' w2) => up_gen nodeD nodeD_length (fun w3 x y hx hy => node_b x y w3 hx hy) b a a b path leaf v w2 rfl rfl hab hb hlf hp hlen hpl (hR.below hb2)
        obtain ⟨A, c, rfl, _, _⟩ := hR.shape
        exact rroot_ok leaf a b _ A c _ w' hlf (climb32 nodeD nodeD_length leaf hlf _ _) hab hb hlen hU
    · refine ⟨List.replicate 32 0, 70, rfl, fun w' v hbl hR => ?_, fun w' v hR => ?_⟩
      · obtain ⟨A, c, rfl, _, _⟩ := hR.shape
        exact vroot_short leaf a b A _ c (way a b) w' hab hb hlen hpl hw48 (fun w2 => way54 a b w2 hab hb)
      · obtain ⟨A, c, rfl, _, _⟩ := hR.shape
        exact rroot_short leaf a b A _ c w' hab hb hlen
  · exact ⟨List.replicate 32 0, 40, rfl, fun w' v hbl hR => vroot_bad leaf i n v w' hok, fun w' v hR => rroot_bad leaf i n v w' hok⟩
set_option maxRecDepth 100000 in
set_option maxHeartbeats 4000000 in
theorem vincl (leaf root X : List UInt8) (E F i n : Int) (v : Value) (w : World) (hlf : leaf.length = 32) (hrt : root.length = 32) (hX : X.length = 32)
    (hF : (E ≠ 0 ∧ F = E) ∨ (E = 0 ∧ X = root ∧ F = 0) ∨ (E = 0 ∧ X ≠ root ∧ F = 71))
    (hC : ∀ w', Below w.heap.size w w' → Gives 29 #[.agg (bv leaf), .int .i64 i, .int .i64 n, v] w' (.tuple #[.agg (bv X), .int .i64 E])) :
    Gives 31 #[.agg (bv leaf), .int .i64 i, .int .i64 n, v, .agg (bv root)] w (.int .i64 F) := by
  have CR := Lib.hid hC
  have HEQ := Lib.hid (fun w' : World => run_equal_bv (P := Tryd.prog) w' (d := 9998) Tryd.underlying26 Tryd.underlying5 (by kernel_rfl) X root hX hrt)
  have HF := Lib.hid hF
  have HS0 := Sep.start w
  clear hC hF
  go_enter Tryd.func31, Tryd.ntmps31
  go_wp2_with (first | refine wl_bx HS0 rfl 26 _ rfl (bv leaf) rfl ?_)
  intro g1 w1 HS1
  go_wp2_with (first | refine wl_bx HS1 rfl 26 _ rfl (bv root) rfl ?_)
  intro g2 w2 HS2
  go_wp2_with (first | refine wl_ld HS2 1 rfl rfl 26 _ rfl rfl Tryd.underlying26 rfl (dgS hlf) ?_)
  (with_reducible refine Calls.mono (CR.out w2 HS2.hb) ?_)
  rintro e w3 ⟨rfl, b3⟩
  have HS3 := HS2.keep b3
  clear HS2
  go_wp2_with (first | refine wl_al HS3 rfl 26 rfl (bv (List.replicate 32 0)) (by kernel_rfl) ?_)
  intro g4 w4 HS4
  go_wp2_with (first | refine wl_st HS4 0 rfl rfl 26 _ _ rfl rfl rfl (dgS hX) (dgE rfl hX) (bv_one _) ?_)
  intro w5 HS5
  have q := HEQ.out w5
  rcases HF.out with ⟨h1, rfl⟩ | ⟨rfl, h2, rfl⟩ | ⟨rfl, h2, rfl⟩
  · go_wp2
    go_ret
    exact ⟨rfl, HS5.hb⟩
  · rw [decide_eq_true h2] at q
    clear h2
    go_wp2_with (first | refine wl_ld HS5 0 rfl rfl 26 _ rfl rfl Tryd.underlying26 rfl (dgS hX) ?_ | refine wl_ld HS5 1 rfl rfl 26 _ rfl rfl Tryd.underlying26 rfl (dgS hrt) ?_ | refine wl_ldg HS5 0 rfl 26 _ rfl rfl Tryd.underlying26 rfl (dgS hX) rfl ?_ | refine wl_ldg HS5 1 rfl 26 _ rfl rfl Tryd.underlying26 rfl (dgS hrt) rfl ?_)
    go_ret
    exact ⟨rfl, HS5.hb⟩
  · rw [decide_eq_false h2] at q
    clear h2
    go_wp2_with (first | refine wl_ld HS5 0 rfl rfl 26 _ rfl rfl Tryd.underlying26 rfl (dgS hX) ?_ | refine wl_ld HS5 1 rfl rfl 26 _ rfl rfl Tryd.underlying26 rfl (dgS hrt) ?_ | refine wl_ldg HS5 0 rfl 26 _ rfl rfl Tryd.underlying26 rfl (dgS hX) rfl ?_ | refine wl_ldg HS5 1 rfl 26 _ rfl rfl Tryd.underlying26 rfl (dgS hrt) rfl ?_)
    go_ret
    exact ⟨rfl, HS5.hb⟩
set_option maxRecDepth 100000 in
set_option maxHeartbeats 4000000 in
theorem rincl (leaf root X : List UInt8) (E F i n : Int) (v : Value) (w : World) (hlf : leaf.length = 32) (hrt : root.length = 32) (hX : X.length = 32)
    (hF : (E ≠ 0 ∧ F = E) ∨ (E = 0 ∧ X = root ∧ F = 0) ∨ (E = 0 ∧ X ≠ root ∧ F = 71))
    (hC : ∀ w', Below w.heap.size w w' → Gives 30 #[.agg (bv leaf), .int .i64 i, .int .i64 n, v] w' (.tuple #[.agg (bv X), .int .i64 E])) :
    Gives 32 #[.agg (bv leaf), .int .i64 i, .int .i64 n, v, .agg (bv root)] w (.int .i64 F) := by
  have CR := Lib.hid hC
  have HEQ := Lib.hid (fun w' : World => run_equal_bv (P := Tryd.prog) w' (d := 9998) Tryd.underlying26 Tryd.underlying5 (by kernel_rfl) X root hX hrt)
  have HF := Lib.hid hF
  have HS0 := Sep.start w
  clear hC hF
  go_enter Tryd.func32, Tryd.ntmps32
  go_wp2_with (first | refine wl_bx HS0 rfl 26 _ rfl (bv leaf) rfl ?_)
  intro g1 w1 HS1
  go_wp2_with (first | refine wl_bx HS1 rfl 26 _ rfl (bv root) rfl ?_)
  intro g2 w2 HS2
  go_wp2_with (first | refine wl_ld HS2 1 rfl rfl 26 _ rfl rfl Tryd.underlying26 rfl (dgS hlf) ?_)
  (with_reducible refine Calls.mono (CR.out w2 HS2.hb) ?_)
  rintro e w3 ⟨rfl, b3⟩
  have HS3 := HS2.keep b3
  clear HS2
  go_wp2_with (first | refine wl_al HS3 rfl 26 rfl (bv (List.replicate 32 0)) (by kernel_rfl) ?_)
  intro g4 w4 HS4
  go_wp2_with (first | refine wl_st HS4 0 rfl rfl 26 _ _ rfl rfl rfl (dgS hX) (dgE rfl hX) (bv_one _) ?_)
  intro w5 HS5
  have q := HEQ.out w5
  rcases HF.out with ⟨h1, rfl⟩ | ⟨rfl, h2, rfl⟩ | ⟨rfl, h2, rfl⟩
  · go_wp2
    go_ret
    exact ⟨rfl, HS5.hb⟩
  · rw [decide_eq_true h2] at q
    clear h2
    go_wp2_with (first | refine wl_ld HS5 0 rfl rfl 26 _ rfl rfl Tryd.underlying26 rfl (dgS hX) ?_ | refine wl_ld HS5 1 rfl rfl 26 _ rfl rfl Tryd.underlying26 rfl (dgS hrt) ?_ | refine wl_ldg HS5 0 rfl 26 _ rfl rfl Tryd.underlying26 rfl (dgS hX) rfl ?_ | refine wl_ldg HS5 1 rfl 26 _ rfl rfl Tryd.underlying26 rfl (dgS hrt) rfl ?_)
    go_ret
    exact ⟨rfl, HS5.hb⟩
  · rw [decide_eq_false h2] at q
    clear h2
    go_wp2_with (first | refine wl_ld HS5 0 rfl rfl 26 _ rfl rfl Tryd.underlying26 rfl (dgS hX) ?_ | refine wl_ld HS5 1 rfl rfl 26 _ rfl rfl Tryd.underlying26 rfl (dgS hrt) ?_ | refine wl_ldg HS5 0 rfl 26 _ rfl rfl Tryd.underlying26 rfl (dgS hX) rfl ?_ | refine wl_ldg HS5 1 rfl 26 _ rfl rfl Tryd.underlying26 rfl (dgS hrt) rfl ?_)
    go_ret
    exact ⟨rfl, HS5.hb⟩
theorem lent_a (l : List (List UInt8)) (v : Value) (w : World) (hl : l.length ≤ 4398046511104) (hR : Rd w v l.length 32 (dcs l)) :
    Calls Tryd.prog 28 #[v] w fun e w' => ∃ x, e = .returned x ∧ Below w.heap.size w w' ∧ Ow w' w.heap.size 26 32 x l.length (dcs l) := by
  have HS0 := (Sep.start w).arg0 hR
  obtain ⟨A, c, rfl, _, _⟩ := hR.shape
  have hb32 : l.length * 32 ≤ 140737488355328 := by omega
  clear hR
  go_enter Tryd.func28, Tryd.ntmps28
  have HS3 := HS0.built #[] 26 0 32 rfl (by decide)
  go_wp2_with (refine wl_apn HS3 0 rfl _ _ 22 (.agg (bv (List.replicate 32 0))) 32 rfl rfl Tryd.underlying22 dgs_info rfl (by decide) (by decide) (HS3.rd 1 rfl) (dcs_one l) rfl rfl l.length (dcs l) (by simp) rfl hb32 ?_)
  intro v1 w4 HS4 _
  obtain ⟨A1, c1, rfl, _⟩ := (HS4.own 0 rfl).sl
  go_wp2
  go_ret
  exact ⟨_, rfl, HS4.hb, HS4.own 0 rfl⟩
set_option maxRecDepth 100000 in
set_option maxHeartbeats 4000000 in
theorem kept_a (l : List (List UInt8)) (va vb : Value) (w : World) (hl : AllD l) (hll : l.length ≤ 4398046511104) (ha : Rd w va l.length 32 (dcs l)) (hb : Rd w vb l.length 32 (dcs l)) :
    Gives 33 #[va, vb] w (.bool true) := by
  have HL := Lib.hid hl
  have HS0 := ((Sep.start w).arg0 ha).arg0 hb
  obtain ⟨A, ca, rfl, _, _⟩ := ha.shape
  obtain ⟨B, cb, rfl, _, _⟩ := hb.shape
  clear ha hb hl
  go_enter Tryd.func33, Tryd.ntmps33
  go_wp2
  go_loopw [5, 6] (fun s5 s6 wr => ∃ k : Nat, k ≤ l.length ∧ s5 = .bool true ∧ s6 = .int .i64 k ∧ Sep w.heap.size w wr [.rd (.slice B l.length cb) l.length 32 (dcs l), .rd (.slice A l.length ca) l.length 32 (dcs l)]) (fun s5 s6 _ => l.length - (intOf s6).toNat)
  case atStart => exact ⟨0, by omega, rfl, rfl, HS0⟩
  case round =>
    clear HS0
    obtain ⟨k, hk, rfl, rfl, HSi⟩ := hrel
    by_cases hlt : k < l.length
    · have hlt' : (k : Int) < (l.length : Int) := by omega
      obtain ⟨d, hd⟩ : ∃ d, l.getD k [] = d := ⟨_, rfl⟩
      have hdl : d.length = 32 := by rw [← hd]; exact dg_len HL.out k hlt
      obtain ⟨b1, o1, rfl⟩ := rd_some (HSi.rd 1 rfl) (by omega)
      obtain ⟨b2, o2, rfl⟩ := rd_some (HSi.rd 0 rfl) (by omega)
      have HD := Lib.hid hd
      have HEQ := Lib.hid (fun w' : World => run_equal_bv (P := Tryd.prog) w' (d := 9998) Tryd.underlying26 Tryd.underlying5 (by kernel_rfl) d d hdl hdl)
      have HLT := Lib.hid hlt
      clear hd
      go_wp2
      refine Cop.region_ord (fun w' => Sep w.heap.size w w' [.rd (.slice (some ⟨b2, o2, none⟩) l.length cb) l.length 32 (dcs l), .rd (.slice (some ⟨b1, o1, none⟩) l.length ca) l.length 32 (dcs l)]) 9 (.take 0 (.take 1 (.take 2 (.take 3 (.take 4 (.take 5 (.take 6 (.take 7 (.take 8 (.take 9 Cop.Ord.fin)))))))))) (by kernel_rfl) (by kernel_rfl) (fun _ _ d _ _ h => by cases d <;> exact h) ?_
      intro wa hda
      replace HSi := HSi.keep hda
      (repeat (first | (refine Cop.og_skip rfl rfl HSi _ (by (simp only [Act.put, List.setIfInBounds_toArray, List.set_cons_succ, List.set_cons_zero]; rfl)) ?_) | (refine Cop.og_ld rfl rfl HSi 26 _ rfl (.pointer (some ⟨b1, o1 + k * 32, none⟩)) rfl (.agg (bv d)) (fun w9 h9 => load_dg (h9.rd 1 rfl) rfl HL.out k HLT.out d HD.out) _ (by (simp only [Act.put, List.setIfInBounds_toArray, List.set_cons_succ, List.set_cons_zero]; rfl)) ?_) | (refine Cop.og_ld rfl rfl HSi 26 _ rfl (.pointer (some ⟨b2, o2 + k * 32, none⟩)) rfl (.agg (bv d)) (fun w9 h9 => load_dg (h9.rd 0 rfl) rfl HL.out k HLT.out d HD.out) _ (by (simp only [Act.put, List.setIfInBounds_toArray, List.set_cons_succ, List.set_cons_zero]; rfl)) ?_) | (refine Cop.og_take rfl rfl HSi ?_; apply Exists.intro; refine ⟨fun w9 h9 => ?_, _, by (simp only [Act.put, List.setIfInBounds_toArray, List.set_cons_succ, List.set_cons_zero]; rfl), ?_⟩; (have q1 := HEQ.out w9; go_simp; with_reducible rfl))))
      refine og_fin ?_
      go_wp2
      go_roundw
      case rel => exact ⟨k + 1, by omega, rfl, by go_num, HSi⟩
      case measure => simp [intOf]; omega
    · have hlt' : ¬ (k : Int) < (l.length : Int) := by omega
      go_wp2
      go_ret
      exact ⟨rfl, HSi.hb⟩
end Go.Proofs.YtbdmehgbdnninaaDoor
