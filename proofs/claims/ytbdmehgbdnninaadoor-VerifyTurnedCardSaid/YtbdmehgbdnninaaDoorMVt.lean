/- VerifyTurned's walk. -/
import Derived.Test.YtbdmehgbdnninaaDoorMVt0
import Derived.Test.YtbdmehgbdnninaaDoorMVt1
import Derived.Test.YtbdmehgbdnninaaDoorOz
import Derived.Deep.DeepCutAuto
import Derived.Test.YtbdmehgbdnninaaDoorRs
import Derived.Test.YtbdmehgbdnninaaDoorFVerifyTurned
namespace Go.Proofs.YtbdmehgbdnninaaDoor
open Go.RowKit Cop
set_option linter.unusedVariables false
set_option linter.unusedSimpArgs false
set_option maxRecDepth 100000 in
set_option maxHeartbeats 16000000 in
theorem collides_a (D E : Nat → List UInt8) (T : Nat) (l : List (List UInt8)) (v : Value) (i : Nat) (d leaf : List UInt8) (q : List (List UInt8)) (vq : Value) (w : World) (hT : Tab w) (hl : AllD l) (hll : l.length ≤ 4398046511104) (hR : Rd w v l.length 32 (dcs l)) (hd : l[i]? = some d) (hlf : leaf.length = 32) (hq : AllD q)
    (hlq : q.length = (tpath nodeD (sha []) l i).length) (hRq : Rd w vq q.length 32 (dcs q)) (hD0 : D 0 = d) (hE0 : E 0 = leaf) (hDl : ∀ k, (D k).length = 32) (hEl : ∀ k, (E k).length = 32)
    (hDt : ∀ k, k < q.length → (way i l.length).getD (q.length - 1 - k) false = true → D (k + 1) = nodeD (D k) ((tpath nodeD (sha []) l i).getD k [])) (hDf : ∀ k, k < q.length → (way i l.length).getD (q.length - 1 - k) false = false → D (k + 1) = nodeD ((tpath nodeD (sha []) l i).getD k []) (D k))
    (hEt : ∀ k, k < q.length → (way i l.length).getD (q.length - 1 - k) false = true → E (k + 1) = nodeD (E k) (q.getD k [])) (hEf : ∀ k, k < q.length → (way i l.length).getD (q.length - 1 - k) false = false → E (k + 1) = nodeD (q.getD k []) (E k))
    (hT0 : T = 0 → D 0 ≠ E 0) (hTk : ∀ k, k < q.length → T = k + 1 → q.getD k [] ≠ (tpath nodeD (sha []) l i).getD k []) (hTM : T ≤ q.length) :
    Calls Tryd.prog 47 #[v, .int .i64 i, .agg (bv leaf), vq] w fun e w' => ∃ r : Bool, e = .returned (.bool r) ∧ Below w.heap.size w w' ∧ (r = false → D q.length ≠ E q.length) := by
  have hil : i < l.length := (List.getElem?_eq_some_iff.1 hd).1
  have h0 : 0 < l.length := by omega
  have hdl : d.length = 32 := hl d (List.mem_iff_getElem?.2 ⟨i, hd⟩)
  have hdg : l.getD i [] = d := by simp [List.getD, hd]
  have hlb : (l.length : Int) ≤ 4398046511104 := by omega
  have hlen := (tpath_length nodeD (sha []) l l.length rfl i).symm
  have hpa := tpath_all _ l hl rfl i
  have hp64 := tpath_len64 l hll i
  have IA := Lib.hid (fun w' v hb hR => incl_ok l v i l.length w' (hT.below hb) hl hll hR hil (Nat.le_refl _))
  rw [List.take_length] at IA
  have CN := Lib.hid (fun w' x y (hb : Below w.heap.size w w') hx hy => node_a x y w' (hT.below hb) hx hy)
  have CS := Lib.hid (fun (m : Nat) (w : World) (h2 : 2 ≤ m) (hm : m ≤ 4398046511104) => split_hi (m : Int) w (by omega) (by omega))
  obtain ⟨P, hP⟩ : ∃ P, tpath nodeD (sha []) l i = P := ⟨_, rfl⟩
  rw [hP] at IA hlen hpa hp64 hDt hDf hTk hlq
  obtain ⟨ts, hts⟩ : ∃ ts, way i l.length = ts := ⟨_, rfl⟩
  rw [hts] at hlen hDt hDf hEt hEf
  obtain ⟨M, hM⟩ : ∃ M, q.length = M := ⟨_, rfl⟩
  have hPM : P.length = M := by omega
  rw [hPM] at IA hlen hp64
  rw [hM] at hRq hDt hDf hEt hEf hTk hTM ⊢
  have HTS := Lib.hid hts
  have HEM := Lib.hid hlen
  have hts64 : ts.length ≤ 64 := by omega
  have HPA := Lib.hid hpa
  have HQA := Lib.hid hq
  have HPM := Lib.hid hPM
  have HQM := Lib.hid hM
  have HD0 := Lib.hid hD0
  have HE0 := Lib.hid hE0
  have HDl := Lib.hid hDl
  have HEl := Lib.hid hEl
  have HDT := Lib.hid hDt
  have HDF := Lib.hid hDf
  have HET := Lib.hid hEt
  have HEF := Lib.hid hEf
  have HT0 := Lib.hid hT0
  have HTK := Lib.hid hTk
  have HTM := Lib.hid hTM
  have HS0 := ((Sep.start w).arg0 hR).arg0 hRq
  obtain ⟨A, c, rfl, _, _⟩ := hR.shape
  obtain ⟨b0, o0, rfl⟩ := rd_some hR h0
  obtain ⟨Aq, cq, rfl, _, _⟩ := hRq.shape
  have HLI := Lib.hid (fun (W' : World) (h : Rd W' (.slice (some ⟨b0, o0, none⟩) l.length c) l.length 32 (dcs l)) => load_dg h rfl hl i hil d hdg)
  clear hlen hpa hD0 hE0 hDl hEl hDt hDf hEt hEf hP hts hd hdg hR hRq hl hq hT0 hTk hTM hPM hM hlq
  go_enter Tryd.func47, Tryd.ntmps47
  go_wp2_with (first | refine wl_bx HS0 rfl 26 _ rfl (bv leaf) rfl ?_)
  intro g6 w1 HS1
  go_wp2_with fail
  (with_reducible refine Calls.mono (IA.out w1 _ HS1.hb (HS1.rd 2 rfl)) ?_)
  rintro e2 w2 ⟨x2, rfl, bb2, o2⟩
  have HS2 := HS1.made bb2 o2
  obtain ⟨A2, c2, rfl, _⟩ := (HS2.own 0 rfl).sl
  clear HS0 HS1 o2
  have HS6 := Sep.ownNil HS2 4 1
  clear HS2
  go_wp2
  go_loopw [11, 12, 13] (fun s8 s9 s10 wr => ∃ (lo h : Nat) (dn : List Bool) (A : Option Addr) (c4 : Nat), s8 = .int .i64 lo ∧ s9 = .int .i64 h ∧ s10 = .slice A dn.length c4 ∧ lo ≤ i ∧ i < h ∧ h ≤ l.length ∧ Hid (dn ++ way (i - lo) (h - lo) = ts) ∧ Sep w.heap.size w wr [.own (.slice A dn.length c4) 4 1 dn.length (dn.map Value.bool), .own (.slice A2 M c2) 26 32 M (dcs P), .row g6 (bv leaf) 26, .rd (.slice Aq M cq) M 32 (dcs q), .rd (.slice (some ⟨b0, o0, none⟩) l.length c) l.length 32 (dcs l)]) (fun s8 s9 _ _ => (intOf s9).toNat - (intOf s8).toNat)
  case atStart => exact ⟨0, l.length, [], none, 0, rfl, rfl, rfl, Nat.zero_le _, hil, Nat.le_refl _, Lib.hid (by simpa using HTS.out), HS6⟩
  case round =>
    clear HS6
    obtain ⟨lo, h, dn, A4, c4, rfl, rfl, rfl, hlo, hih, hhl, HW, HSi⟩ := hrel
    obtain ⟨m, hm⟩ : ∃ m, h - lo = m := ⟨_, rfl⟩
    have hmi : (h : Int) - (lo : Int) = (m : Int) := by omega
    have hm1 : 1 ≤ m := by omega
    rw [hm] at HW
    have hhb : (h : Int) ≤ 4398046511104 := by omega
    have hlob : (lo : Int) ≤ 4398046511104 := by omega
    by_cases hone : m = 1
    · subst hone
      have he : dn = ts := by have := HW.out; rwa [way_one (by omega), List.append_nil] at this
      subst he
      have hE : dn.length = M := HEM.out
      rw [hE] at HSi
      rw [hE]
      obtain ⟨ts, hts⟩ : ∃ t, dn = t := ⟨_, rfl⟩
      rw [hts] at HSi HDT HDF HET HEF HEM
      clear hE HTS HW hts hts64
      have hilb : (i : Int) < (l.length : Int) := by omega
      go_upto_region 12 with fail
      go_cut [16, 17] (fun s16 s17 wx => ∃ ga gb, s16 = .pointer (some ⟨ga, 0, none⟩) ∧ s17 = .pointer (some ⟨gb, 0, none⟩) ∧ Sep w.heap.size w wx [.row ga (bv d) 26, .row gb (bv leaf) 26, .own (.slice A4 M c4) 4 1 M (ts.map Value.bool), .own (.slice A2 M c2) 26 32 M (dcs P), .row g6 (bv leaf) 26, .rd (.slice Aq M cq) M 32 (dcs q), .rd (.slice (some ⟨b0, o0, none⟩) l.length c) l.length 32 (dcs l)])
      case first =>
        refine Cop.region_ord (fun w' => Sep w.heap.size w w' [.own (.slice A4 M c4) 4 1 M (ts.map Value.bool), .own (.slice A2 M c2) 26 32 M (dcs P), .row g6 (bv leaf) 26, .rd (.slice Aq M cq) M 32 (dcs q), .rd (.slice (some ⟨b0, o0, none⟩) l.length c) l.length 32 (dcs l)]) 8 (.take 0 (.take 1 (.take 2 (.take 3 (.take 4 (.run2 5 (.run 6 (.run 7 (.run 8 Cop.Ord.fin))) 6 (.run 5 (.run 7 (.run 8 Cop.Ord.fin))))))))) (by kernel_rfl) (by kernel_rfl) (fun _ _ d _ _ h => by cases d <;> exact h) ?_
        intro w30 hd30
        have HT0 := HSi.keep hd30
        clear HSi
        (repeat (first | (refine Cop.og_skip rfl rfl HT0 _ (by (simp only [Act.put, List.setIfInBounds_toArray, List.set_cons_succ, List.set_cons_zero]; rfl)) ?_) | (refine Cop.og_ld rfl rfl HT0 26 _ rfl (.pointer (some ⟨g6, 0, none⟩)) rfl _ (fun w9 h9 => load_row (h9.row 2 rfl) 26 Tryd.underlying26 rfl (dgS hlf)) _ (by (simp only [Act.put, List.setIfInBounds_toArray, List.set_cons_succ, List.set_cons_zero]; rfl)) ?_) | (refine Cop.og_ld rfl rfl HT0 26 _ rfl (.pointer (some ⟨b0, o0 + i * 32, none⟩)) rfl (.agg (bv d)) (fun w9 h9 => HLI.out w9 (h9.rd 4 rfl)) _ (by (simp only [Act.put, List.setIfInBounds_toArray, List.set_cons_succ, List.set_cons_zero]; rfl)) ?_) | (refine Cop.og_take rfl rfl HT0 ?_; apply Exists.intro; refine ⟨fun w9 h9 => ?_, _, by (simp only [Act.put, List.setIfInBounds_toArray, List.set_cons_succ, List.set_cons_zero]; rfl), ?_⟩; (go_simp; with_reducible rfl))))
        refine og_run2 ?_ ?_
        · refine Cop.og_run rfl rfl ?_
          refine ow_al HT0 26 rfl (bv (List.replicate 32 0)) (by kernel_rfl) ?_
          intro ga w31 HT1
          refine ⟨fun _ => HT1.sub (by repeat (first | exact List.nil_sublist _ | exact List.Sublist.refl _ | apply List.Sublist.cons_cons | apply List.Sublist.cons)), ?_⟩
          refine og_act (by (simp only [Act.put, List.setIfInBounds_toArray, List.set_cons_succ, List.set_cons_zero]; rfl)) ?_
          refine Cop.og_run rfl rfl ?_
          refine ow_al HT1 26 rfl (bv (List.replicate 32 0)) (by kernel_rfl) ?_
          intro gb w32 HT2
          refine ⟨fun _ => HT2.sub (by repeat (first | exact List.nil_sublist _ | exact List.Sublist.refl _ | apply List.Sublist.cons_cons | apply List.Sublist.cons)), ?_⟩
          refine og_act (by (simp only [Act.put, List.setIfInBounds_toArray, List.set_cons_succ, List.set_cons_zero]; rfl)) ?_
          refine Cop.og_run rfl rfl ?_
          refine ow_st HT2 1 rfl 26 _ _ rfl rfl rfl (dgS hdl) (dgE rfl hdl) (bv_one _) ?_
          intro w33 HT3
          refine ⟨fun _ => HT3.sub (by repeat (first | exact List.nil_sublist _ | exact List.Sublist.refl _ | apply List.Sublist.cons_cons | apply List.Sublist.cons)), ?_⟩
          refine og_act (by (simp only [Act.put, List.setIfInBounds_toArray, List.set_cons_succ, List.set_cons_zero]; rfl)) ?_
          refine Cop.og_run rfl rfl ?_
          refine ow_st HT3 0 rfl 26 _ _ rfl rfl rfl (dgS hlf) (dgE rfl hlf) (bv_one _) ?_
          intro w34 HT4
          refine ⟨fun h => absurd rfl h, ?_⟩
          refine og_fin ?_
          go_wp2
          go_meet
          case rel => exact ⟨ga, gb, rfl, rfl, HT4.front 1⟩
        · refine Cop.og_run rfl rfl ?_
          refine ow_al HT0 26 rfl (bv (List.replicate 32 0)) (by kernel_rfl) ?_
          intro gb w31 HT1
          refine ⟨fun _ => HT1.sub (by repeat (first | exact List.nil_sublist _ | exact List.Sublist.refl _ | apply List.Sublist.cons_cons | apply List.Sublist.cons)), ?_⟩
          refine og_act (by (simp only [Act.put, List.setIfInBounds_toArray, List.set_cons_succ, List.set_cons_zero]; rfl)) ?_
          refine Cop.og_run rfl rfl ?_
          refine ow_al HT1 26 rfl (bv (List.replicate 32 0)) (by kernel_rfl) ?_
          intro ga w32 HT2
          refine ⟨fun _ => HT2.sub (by repeat (first | exact List.nil_sublist _ | exact List.Sublist.refl _ | apply List.Sublist.cons_cons | apply List.Sublist.cons)), ?_⟩
          refine og_act (by (simp only [Act.put, List.setIfInBounds_toArray, List.set_cons_succ, List.set_cons_zero]; rfl)) ?_
          refine Cop.og_run rfl rfl ?_
          refine ow_st HT2 0 rfl 26 _ _ rfl rfl rfl (dgS hdl) (dgE rfl hdl) (bv_one _) ?_
          intro w33 HT3
          refine ⟨fun _ => HT3.sub (by repeat (first | exact List.nil_sublist _ | exact List.Sublist.refl _ | apply List.Sublist.cons_cons | apply List.Sublist.cons)), ?_⟩
          refine og_act (by (simp only [Act.put, List.setIfInBounds_toArray, List.set_cons_succ, List.set_cons_zero]; rfl)) ?_
          refine Cop.og_run rfl rfl ?_
          refine ow_st HT3 1 rfl 26 _ _ rfl rfl rfl (dgS hlf) (dgE rfl hlf) (bv_one _) ?_
          intro w34 HT4
          refine ⟨fun h => absurd rfl h, ?_⟩
          refine og_fin ?_
          go_wp2
          go_meet
          case rel => exact ⟨ga, gb, rfl, rfl, HT4⟩
      case rest =>
        clear HSi
        obtain ⟨ga, gb, rfl, rfl, HSs⟩ := hcut
        go_wp2
        go_loopw [18] (fun s18 wr => ∃ k : Nat, k ≤ M ∧ s18 = .int .i64 k ∧ Hid (T ≤ k → D k ≠ E k) ∧ Sep w.heap.size w wr [.row ga (bv (D k)) 26, .row gb (bv (E k)) 26, .own (.slice A4 M c4) 4 1 M (ts.map Value.bool), .own (.slice A2 M c2) 26 32 M (dcs P), .row g6 (bv leaf) 26, .rd (.slice Aq M cq) M 32 (dcs q), .rd (.slice (some ⟨b0, o0, none⟩) l.length c) l.length 32 (dcs l)]) (fun s18 _ => M - (intOf s18).toNat)
        case atStart => exact ⟨0, by omega, rfl, Lib.hid (fun h => HT0.out (by omega)), by rw [HD0.out, HE0.out]; exact HSs⟩
        case round =>
          clear HSs
          obtain ⟨k, hk, rfl, HK, HSi⟩ := hrel
          by_cases hlt : k < M
          · have hlt' : (k : Int) < (M : Int) := by omega
            obtain ⟨y, hy⟩ : ∃ y, P.getD k [] = y := ⟨_, rfl⟩
            have hyl : y.length = 32 := by rw [← hy]; exact dg_len HPA.out k (by rw [HPM.out]; exact hlt)
            obtain ⟨y2, hy2⟩ : ∃ y, q.getD k [] = y := ⟨_, rfl⟩
            have hy2l : y2.length = 32 := by rw [← hy2]; exact dg_len HQA.out k (by rw [HQM.out]; exact hlt)
            obtain ⟨gp, rfl⟩ := Ow.addr (HSi.own 3 rfl) (by omega)
            obtain ⟨gl, rfl⟩ := Ow.addr (HSi.own 2 rfl) (by omega)
            obtain ⟨bq, oq, rfl⟩ := rd_some (HSi.rd 5 rfl) (by omega)
            have HLP := Lib.hid (fun (W' : World) (h : Rd W' (.slice (some ⟨gp, 0, none⟩) M c2) M 32 (dcs P)) => load_dg h HPM.out.symm HPA.out k (by rw [HPM.out]; exact hlt) y hy)
            rw [Nat.zero_add] at HLP
            have HLQ := Lib.hid (fun (W' : World) (h : Rd W' (.slice (some ⟨bq, oq, none⟩) M cq) M 32 (dcs q)) => load_dg h HQM.out.symm HQA.out k (by rw [HQM.out]; exact hlt) y2 hy2)
            have hDT := HDT.out k hlt
            have hDF := HDF.out k hlt
            have hET := HET.out k hlt
            have hEF := HEF.out k hlt
            have hTK := HTK.out k hlt
            have hK := HK.out
            rw [hy] at hDT hDF hTK
            rw [hy2] at hET hEF hTK
            obtain ⟨m, hm⟩ : ∃ m, M - 1 - k = m := ⟨_, rfl⟩
            have hmL : (M : Int) - 1 - (k : Int) = (m : Int) := by omega
            have hmlt : m < M := by omega
            rw [hm] at hDT hDF hET hEF
            obtain ⟨t, ht⟩ : ∃ t, ts.getD m false = t := ⟨_, rfl⟩
            rw [ht] at hDT hDF hET hEF
            have HTC := Lib.hid (fun (W : World) (h : Ow W w.heap.size 4 1 (.slice (some ⟨gl, 0, none⟩) M c4) M (ts.map Value.bool)) => by
              have := turn_cell h m (by rw [HEM.out]; exact hmlt)
              rw [ht] at this
              exact this)
            have HXL := Lib.hid (HDl.out k)
            have HX2L := Lib.hid (HDl.out (k + 1))
            have HZL := Lib.hid (HEl.out k)
            have HZ2L := Lib.hid (HEl.out (k + 1))
            have hinv : D k = E k → y2 = y → (T ≤ k + 1 → D (k + 1) ≠ E (k + 1)) := fun hx hyy hle => by
              exfalso
              rcases Nat.lt_or_ge k T with h | h
              · exact hTK (by omega) hyy
              · exact hK h hx
            obtain ⟨X, hX⟩ : ∃ X, D k = X := ⟨_, rfl⟩
            obtain ⟨X2, hX2⟩ : ∃ X, D (k + 1) = X := ⟨_, rfl⟩
            obtain ⟨Z, hZ⟩ : ∃ X, E k = X := ⟨_, rfl⟩
            obtain ⟨Z2, hZ2⟩ : ∃ X, E (k + 1) = X := ⟨_, rfl⟩
            rw [hX] at HSi HXL hDT hDF hinv
            rw [hX2] at HX2L hDT hDF
            rw [hZ] at HSi HZL hET hEF hinv
            rw [hZ2] at HZ2L hET hEF
            have HINV := Lib.hid hinv
            have HX2 := Lib.hid hX2
            have HZ2 := Lib.hid hZ2
            have HDT := Lib.hid hDT
            have HDF := Lib.hid hDF
            have HET := Lib.hid hET
            have HEF := Lib.hid hEF
            have hmi2 : (m : Int) < (M : Int) := by omega
            have htc := HTC.out wr (HSi.own 2 rfl)
            clear hy hy2 hDT hDF hET hEF hTK hK hm ht hX hX2 hZ hZ2 hinv htc
            have HQ1 := Lib.hid (fun w' : World => run_equal_bv (P := Tryd.prog) w' (d := 9998) Tryd.underlying26 Tryd.underlying5 (by kernel_rfl) X Z HXL.out HZL.out)
            have HQ2 := Lib.hid (fun w' : World => run_equal_bv (P := Tryd.prog) w' (d := 9998) Tryd.underlying26 Tryd.underlying5 (by kernel_rfl) y2 y hy2l hyl)
            have HQ3 := Lib.hid (fun w' : World => run_equal_bv (P := Tryd.prog) w' (d := 9998) Tryd.underlying26 Tryd.underlying5 (by kernel_rfl) X2 Z2 HX2L.out HZ2L.out)
            by_cases hxz : X = Z
            · rw [decide_eq_true hxz] at HQ1
              have HXZ := Lib.hid hxz
              clear hxz
              by_cases hyy : y2 = y
              · rw [decide_eq_true hyy] at HQ2
                have HYY := Lib.hid hyy
                clear hyy
                go_wp2
                refine Cop.region_ord (fun w' => Sep w.heap.size w w' [.row ga (bv X) 26, .row gb (bv Z) 26, .own (.slice (some ⟨gl, 0, none⟩) M c4) 4 1 M (ts.map Value.bool), .own (.slice (some ⟨gp, 0, none⟩) M c2) 26 32 M (dcs P), .row g6 (bv leaf) 26, .rd (.slice (some ⟨bq, oq, none⟩) M cq) M 32 (dcs q), .rd (.slice (some ⟨b0, o0, none⟩) l.length c) l.length 32 (dcs l)]) 14 (.take 0 (.take 1 (.take 2 (.take 3 (.take 4 (.take 5 (.take 6 (.take 7 (.take 8 (.take 9 (.take 10 (.take 11 (.take 12 (.take 13 (.take 14 Cop.Ord.fin))))))))))))))) (by kernel_rfl) (by kernel_rfl) (fun _ _ d _ _ h => by cases d <;> exact h) ?_
                intro w40 hd40
                replace HSi := HSi.keep hd40
                (repeat (first | (refine Cop.og_skip rfl rfl HSi _ (by (simp only [Act.put, List.setIfInBounds_toArray, List.set_cons_succ, List.set_cons_zero]; rfl)) ?_) | (refine Cop.og_ld rfl rfl HSi 26 _ rfl (.pointer (some ⟨ga, 0, none⟩)) rfl _ (fun w9 h9 => load_row (h9.row 0 rfl) 26 Tryd.underlying26 rfl (dgS HXL.out)) _ (by (simp only [Act.put, List.setIfInBounds_toArray, List.set_cons_succ, List.set_cons_zero]; rfl)) ?_) | (refine Cop.og_ld rfl rfl HSi 26 _ rfl (.pointer (some ⟨gb, 0, none⟩)) rfl _ (fun w9 h9 => load_row (h9.row 1 rfl) 26 Tryd.underlying26 rfl (dgS HZL.out)) _ (by (simp only [Act.put, List.setIfInBounds_toArray, List.set_cons_succ, List.set_cons_zero]; rfl)) ?_) | (refine Cop.og_ld rfl rfl HSi 26 _ rfl (.pointer (some ⟨gp, k * 32, none⟩)) rfl (.agg (bv y)) (fun w9 h9 => HLP.out w9 (h9.own 3 rfl).rd) _ (by (simp only [Act.put, List.setIfInBounds_toArray, List.set_cons_succ, List.set_cons_zero]; rfl)) ?_) | (refine Cop.og_ld rfl rfl HSi 26 _ rfl (.pointer (some ⟨bq, oq + k * 32, none⟩)) rfl (.agg (bv y2)) (fun w9 h9 => HLQ.out w9 (h9.rd 5 rfl)) _ (by (simp only [Act.put, List.setIfInBounds_toArray, List.set_cons_succ, List.set_cons_zero]; rfl)) ?_) | (refine Cop.og_take rfl rfl HSi ?_; apply Exists.intro; refine ⟨fun w9 h9 => ?_, _, by (simp only [Act.put, List.setIfInBounds_toArray, List.set_cons_succ, List.set_cons_zero]; rfl), ?_⟩; (have q1 := HQ1.out w9; have q2 := HQ2.out w9; go_simp; with_reducible rfl))))
                refine og_fin ?_
                have htc := HTC.out w40 (HSi.own 2 rfl)
                cases t with
                | true =>
                  have e1 := HDT.out rfl
                  have e2 := HET.out rfl
                  have HC1 := Lib.hid (fun w' hb => CN.out w' X y hb HXL.out hyl)
                  have HC2 := Lib.hid (fun w' hb => CN.out w' Z y2 hb HZL.out hy2l)
                  rw [← e1] at HC1
                  rw [← e2] at HC2
                  clear e1 e2
                  go_wp2
                  refine Cop.region_ordz (fun w' => Sep w.heap.size w w' [.row ga (bv X) 26, .row gb (bv Z) 26, .own (.slice (some ⟨gl, 0, none⟩) M c4) 4 1 M (ts.map Value.bool), .own (.slice (some ⟨gp, 0, none⟩) M c2) 26 32 M (dcs P), .row g6 (bv leaf) 26, .rd (.slice (some ⟨bq, oq, none⟩) M cq) M 32 (dcs q), .rd (.slice (some ⟨b0, o0, none⟩) l.length c) l.length 32 (dcs l)]) 12 (.take 0 (.take 1 (.take 2 (.take 3 (.take 4 (.take 6 (.take 7 (.take 8 (.take 9 (.take 10 (.run 5 (.run 11 (.run 12 (.run 13 Cop.Ord.fin)))))))))))))) (by kernel_rfl) (by kernel_rfl) (fun _ _ d _ _ h => by cases d <;> exact h) ?_
                  intro w41 hd41
                  have HSa := HSi.keep hd41
                  clear HSi
                  (repeat (first | (refine Cop.ogz_skip rfl rfl (by decide) HSa _ (by (simp only [Act.put, List.setIfInBounds_toArray, List.set_cons_succ, List.set_cons_zero]; rfl)) ?_) | (refine Cop.ogz_ld rfl rfl (by decide) HSa 26 _ rfl (.pointer (some ⟨ga, 0, none⟩)) rfl _ (fun w9 h9 => load_row (h9.row 0 rfl) 26 Tryd.underlying26 rfl (dgS HXL.out)) _ (by (simp only [Act.put, List.setIfInBounds_toArray, List.set_cons_succ, List.set_cons_zero]; rfl)) ?_) | (refine Cop.ogz_ld rfl rfl (by decide) HSa 26 _ rfl (.pointer (some ⟨gb, 0, none⟩)) rfl _ (fun w9 h9 => load_row (h9.row 1 rfl) 26 Tryd.underlying26 rfl (dgS HZL.out)) _ (by (simp only [Act.put, List.setIfInBounds_toArray, List.set_cons_succ, List.set_cons_zero]; rfl)) ?_) | (refine Cop.ogz_ld rfl rfl (by decide) HSa 26 _ rfl (.pointer (some ⟨gp, k * 32, none⟩)) rfl (.agg (bv y)) (fun w9 h9 => HLP.out w9 (h9.own 3 rfl).rd) _ (by (simp only [Act.put, List.setIfInBounds_toArray, List.set_cons_succ, List.set_cons_zero]; rfl)) ?_) | (refine Cop.ogz_ld rfl rfl (by decide) HSa 26 _ rfl (.pointer (some ⟨bq, oq + k * 32, none⟩)) rfl (.agg (bv y2)) (fun w9 h9 => HLQ.out w9 (h9.rd 5 rfl)) _ (by (simp only [Act.put, List.setIfInBounds_toArray, List.set_cons_succ, List.set_cons_zero]; rfl)) ?_) | (refine Cop.ogz_take rfl rfl (by decide) HSa ?_; apply Exists.intro; refine ⟨fun w9 h9 => ?_, _, by (simp only [Act.put, List.setIfInBounds_toArray, List.set_cons_succ, List.set_cons_zero]; rfl), ?_⟩; (go_simp; with_reducible rfl))))
                  refine Cop.ogz_run rfl rfl ?_
                  refine ow_call 23 _ _ (fun w' => Below w41.heap.size w41 w') (by go_simp) (HC1.out w41 HSa.hb) ?_
                  intro w42 b42
                  have HSb := HSa.keep b42
                  refine ⟨fun _ => HSb, ?_⟩
                  refine Cop.ogz_run rfl rfl ?_
                  refine ow_call 23 _ _ (fun w' => Below w42.heap.size w42 w') (by go_simp) (HC2.out w42 HSb.hb) ?_
                  intro w43 b43
                  have HSc := HSb.keep b43
                  refine ⟨fun _ => HSc, ?_⟩
                  refine Cop.ogz_run rfl rfl ?_
                  refine ow_st HSc 0 rfl 26 _ _ rfl rfl rfl (dgS HX2L.out) (dgE HXL.out HX2L.out) (bv_one _) ?_
                  intro w44 HSd
                  refine ⟨fun h => absurd h (by decide), ?_⟩
                  refine Cop.ogz_run rfl rfl ?_
                  refine ow_st HSd 1 rfl 26 _ _ rfl rfl rfl (dgS HZ2L.out) (dgE HZL.out HZ2L.out) (bv_one _) ?_
                  intro w45 HSe
                  refine ⟨fun h => absurd h (by decide), ?_⟩
                  refine ogz_fin ?_
                  clear HSa HSb HSc HSd
                  go_wp2
                  go_roundw
                  case rel => exact ⟨k + 1, by omega, by go_num, Lib.hid (HINV.out HXZ.out HYY.out), by rw [HX2.out, HZ2.out]; exact HSe⟩
                  case measure => simp [intOf]; omega
                | false =>
                  have e1 := HDF.out rfl
                  have e2 := HEF.out rfl
                  have HC1 := Lib.hid (fun w' hb => CN.out w' y X hb hyl HXL.out)
                  have HC2 := Lib.hid (fun w' hb => CN.out w' y2 Z hb hy2l HZL.out)
                  rw [← e1] at HC1
                  rw [← e2] at HC2
                  clear e1 e2
                  go_wp2
                  refine Cop.region_ordz (fun w' => Sep w.heap.size w w' [.row ga (bv X) 26, .row gb (bv Z) 26, .own (.slice (some ⟨gl, 0, none⟩) M c4) 4 1 M (ts.map Value.bool), .own (.slice (some ⟨gp, 0, none⟩) M c2) 26 32 M (dcs P), .row g6 (bv leaf) 26, .rd (.slice (some ⟨bq, oq, none⟩) M cq) M 32 (dcs q), .rd (.slice (some ⟨b0, o0, none⟩) l.length c) l.length 32 (dcs l)]) 12 (.take 0 (.take 1 (.take 2 (.take 3 (.take 4 (.take 6 (.take 7 (.take 8 (.take 9 (.take 10 (.run 5 (.run 11 (.run 12 (.run 13 Cop.Ord.fin)))))))))))))) (by kernel_rfl) (by kernel_rfl) (fun _ _ d _ _ h => by cases d <;> exact h) ?_
                  intro w41 hd41
                  have HSa := HSi.keep hd41
                  clear HSi
                  (repeat (first | (refine Cop.ogz_skip rfl rfl (by decide) HSa _ (by (simp only [Act.put, List.setIfInBounds_toArray, List.set_cons_succ, List.set_cons_zero]; rfl)) ?_) | (refine Cop.ogz_ld rfl rfl (by decide) HSa 26 _ rfl (.pointer (some ⟨ga, 0, none⟩)) rfl _ (fun w9 h9 => load_row (h9.row 0 rfl) 26 Tryd.underlying26 rfl (dgS HXL.out)) _ (by (simp only [Act.put, List.setIfInBounds_toArray, List.set_cons_succ, List.set_cons_zero]; rfl)) ?_) | (refine Cop.ogz_ld rfl rfl (by decide) HSa 26 _ rfl (.pointer (some ⟨gb, 0, none⟩)) rfl _ (fun w9 h9 => load_row (h9.row 1 rfl) 26 Tryd.underlying26 rfl (dgS HZL.out)) _ (by (simp only [Act.put, List.setIfInBounds_toArray, List.set_cons_succ, List.set_cons_zero]; rfl)) ?_) | (refine Cop.ogz_ld rfl rfl (by decide) HSa 26 _ rfl (.pointer (some ⟨gp, k * 32, none⟩)) rfl (.agg (bv y)) (fun w9 h9 => HLP.out w9 (h9.own 3 rfl).rd) _ (by (simp only [Act.put, List.setIfInBounds_toArray, List.set_cons_succ, List.set_cons_zero]; rfl)) ?_) | (refine Cop.ogz_ld rfl rfl (by decide) HSa 26 _ rfl (.pointer (some ⟨bq, oq + k * 32, none⟩)) rfl (.agg (bv y2)) (fun w9 h9 => HLQ.out w9 (h9.rd 5 rfl)) _ (by (simp only [Act.put, List.setIfInBounds_toArray, List.set_cons_succ, List.set_cons_zero]; rfl)) ?_) | (refine Cop.ogz_take rfl rfl (by decide) HSa ?_; apply Exists.intro; refine ⟨fun w9 h9 => ?_, _, by (simp only [Act.put, List.setIfInBounds_toArray, List.set_cons_succ, List.set_cons_zero]; rfl), ?_⟩; (go_simp; with_reducible rfl))))
                  refine Cop.ogz_run rfl rfl ?_
                  refine ow_call 23 _ _ (fun w' => Below w41.heap.size w41 w') (by go_simp) (HC1.out w41 HSa.hb) ?_
                  intro w42 b42
                  have HSb := HSa.keep b42
                  refine ⟨fun _ => HSb, ?_⟩
                  refine Cop.ogz_run rfl rfl ?_
                  refine ow_call 23 _ _ (fun w' => Below w42.heap.size w42 w') (by go_simp) (HC2.out w42 HSb.hb) ?_
                  intro w43 b43
                  have HSc := HSb.keep b43
                  refine ⟨fun _ => HSc, ?_⟩
                  refine Cop.ogz_run rfl rfl ?_
                  refine ow_st HSc 0 rfl 26 _ _ rfl rfl rfl (dgS HX2L.out) (dgE HXL.out HX2L.out) (bv_one _) ?_
                  intro w44 HSd
                  refine ⟨fun h => absurd h (by decide), ?_⟩
                  refine Cop.ogz_run rfl rfl ?_
                  refine ow_st HSd 1 rfl 26 _ _ rfl rfl rfl (dgS HZ2L.out) (dgE HZL.out HZ2L.out) (bv_one _) ?_
                  intro w45 HSe
                  refine ⟨fun h => absurd h (by decide), ?_⟩
                  refine ogz_fin ?_
                  clear HSa HSb HSc HSd
                  go_wp2
                  go_roundw
                  case rel => exact ⟨k + 1, by omega, by go_num, Lib.hid (HINV.out HXZ.out HYY.out), by rw [HX2.out, HZ2.out]; exact HSe⟩
                  case measure => simp [intOf]; omega
              · rw [decide_eq_false hyy] at HQ2
                clear hyy
                go_wp2
                refine Cop.region_ord (fun w' => Sep w.heap.size w w' [.row ga (bv X) 26, .row gb (bv Z) 26, .own (.slice (some ⟨gl, 0, none⟩) M c4) 4 1 M (ts.map Value.bool), .own (.slice (some ⟨gp, 0, none⟩) M c2) 26 32 M (dcs P), .row g6 (bv leaf) 26, .rd (.slice (some ⟨bq, oq, none⟩) M cq) M 32 (dcs q), .rd (.slice (some ⟨b0, o0, none⟩) l.length c) l.length 32 (dcs l)]) 14 (.take 0 (.take 1 (.take 2 (.take 3 (.take 4 (.take 5 (.take 6 (.take 7 (.take 8 (.take 9 (.take 10 (.take 11 (.take 12 (.take 13 (.take 14 Cop.Ord.fin))))))))))))))) (by kernel_rfl) (by kernel_rfl) (fun _ _ d _ _ h => by cases d <;> exact h) ?_
                intro w40 hd40
                replace HSi := HSi.keep hd40
                (repeat (first | (refine Cop.og_skip rfl rfl HSi _ (by (simp only [Act.put, List.setIfInBounds_toArray, List.set_cons_succ, List.set_cons_zero]; rfl)) ?_) | (refine Cop.og_ld rfl rfl HSi 26 _ rfl (.pointer (some ⟨ga, 0, none⟩)) rfl _ (fun w9 h9 => load_row (h9.row 0 rfl) 26 Tryd.underlying26 rfl (dgS HXL.out)) _ (by (simp only [Act.put, List.setIfInBounds_toArray, List.set_cons_succ, List.set_cons_zero]; rfl)) ?_) | (refine Cop.og_ld rfl rfl HSi 26 _ rfl (.pointer (some ⟨gb, 0, none⟩)) rfl _ (fun w9 h9 => load_row (h9.row 1 rfl) 26 Tryd.underlying26 rfl (dgS HZL.out)) _ (by (simp only [Act.put, List.setIfInBounds_toArray, List.set_cons_succ, List.set_cons_zero]; rfl)) ?_) | (refine Cop.og_ld rfl rfl HSi 26 _ rfl (.pointer (some ⟨gp, k * 32, none⟩)) rfl (.agg (bv y)) (fun w9 h9 => HLP.out w9 (h9.own 3 rfl).rd) _ (by (simp only [Act.put, List.setIfInBounds_toArray, List.set_cons_succ, List.set_cons_zero]; rfl)) ?_) | (refine Cop.og_ld rfl rfl HSi 26 _ rfl (.pointer (some ⟨bq, oq + k * 32, none⟩)) rfl (.agg (bv y2)) (fun w9 h9 => HLQ.out w9 (h9.rd 5 rfl)) _ (by (simp only [Act.put, List.setIfInBounds_toArray, List.set_cons_succ, List.set_cons_zero]; rfl)) ?_) | (refine Cop.og_take rfl rfl HSi ?_; apply Exists.intro; refine ⟨fun w9 h9 => ?_, _, by (simp only [Act.put, List.setIfInBounds_toArray, List.set_cons_succ, List.set_cons_zero]; rfl), ?_⟩; (have q1 := HQ1.out w9; have q2 := HQ2.out w9; go_simp; with_reducible rfl))))
                refine og_fin ?_
                have htc := HTC.out w40 (HSi.own 2 rfl)
                cases t with
                | true =>
                  have e1 := HDT.out rfl
                  have e2 := HET.out rfl
                  have HC1 := Lib.hid (fun w' hb => CN.out w' X y hb HXL.out hyl)
                  have HC2 := Lib.hid (fun w' hb => CN.out w' Z y2 hb HZL.out hy2l)
                  rw [← e1] at HC1
                  rw [← e2] at HC2
                  clear e1 e2
                  go_wp2
                  refine Cop.region_ordz (fun w' => Sep w.heap.size w w' [.row ga (bv X) 26, .row gb (bv Z) 26, .own (.slice (some ⟨gl, 0, none⟩) M c4) 4 1 M (ts.map Value.bool), .own (.slice (some ⟨gp, 0, none⟩) M c2) 26 32 M (dcs P), .row g6 (bv leaf) 26, .rd (.slice (some ⟨bq, oq, none⟩) M cq) M 32 (dcs q), .rd (.slice (some ⟨b0, o0, none⟩) l.length c) l.length 32 (dcs l)]) 12 (.take 0 (.take 1 (.take 2 (.take 3 (.take 4 (.take 6 (.take 7 (.take 8 (.take 9 (.take 10 (.run 5 (.run 11 (.run 12 (.run 13 Cop.Ord.fin)))))))))))))) (by kernel_rfl) (by kernel_rfl) (fun _ _ d _ _ h => by cases d <;> exact h) ?_
                  intro w41 hd41
                  have HSa := HSi.keep hd41
                  clear HSi
                  (repeat (first | (refine Cop.ogz_skip rfl rfl (by decide) HSa _ (by (simp only [Act.put, List.setIfInBounds_toArray, List.set_cons_succ, List.set_cons_zero]; rfl)) ?_) | (refine Cop.ogz_ld rfl rfl (by decide) HSa 26 _ rfl (.pointer (some ⟨ga, 0, none⟩)) rfl _ (fun w9 h9 => load_row (h9.row 0 rfl) 26 Tryd.underlying26 rfl (dgS HXL.out)) _ (by (simp only [Act.put, List.setIfInBounds_toArray, List.set_cons_succ, List.set_cons_zero]; rfl)) ?_) | (refine Cop.ogz_ld rfl rfl (by decide) HSa 26 _ rfl (.pointer (some ⟨gb, 0, none⟩)) rfl _ (fun w9 h9 => load_row (h9.row 1 rfl) 26 Tryd.underlying26 rfl (dgS HZL.out)) _ (by (simp only [Act.put, List.setIfInBounds_toArray, List.set_cons_succ, List.set_cons_zero]; rfl)) ?_) | (refine Cop.ogz_ld rfl rfl (by decide) HSa 26 _ rfl (.pointer (some ⟨gp, k * 32, none⟩)) rfl (.agg (bv y)) (fun w9 h9 => HLP.out w9 (h9.own 3 rfl).rd) _ (by (simp only [Act.put, List.setIfInBounds_toArray, List.set_cons_succ, List.set_cons_zero]; rfl)) ?_) | (refine Cop.ogz_ld rfl rfl (by decide) HSa 26 _ rfl (.pointer (some ⟨bq, oq + k * 32, none⟩)) rfl (.agg (bv y2)) (fun w9 h9 => HLQ.out w9 (h9.rd 5 rfl)) _ (by (simp only [Act.put, List.setIfInBounds_toArray, List.set_cons_succ, List.set_cons_zero]; rfl)) ?_) | (refine Cop.ogz_take rfl rfl (by decide) HSa ?_; apply Exists.intro; refine ⟨fun w9 h9 => ?_, _, by (simp only [Act.put, List.setIfInBounds_toArray, List.set_cons_succ, List.set_cons_zero]; rfl), ?_⟩; (go_simp; with_reducible rfl))))
                  refine Cop.ogz_run rfl rfl ?_
                  refine ow_call 23 _ _ (fun w' => Below w41.heap.size w41 w') (by go_simp) (HC1.out w41 HSa.hb) ?_
                  intro w42 b42
                  have HSb := HSa.keep b42
                  refine ⟨fun _ => HSb, ?_⟩
                  refine Cop.ogz_run rfl rfl ?_
                  refine ow_call 23 _ _ (fun w' => Below w42.heap.size w42 w') (by go_simp) (HC2.out w42 HSb.hb) ?_
                  intro w43 b43
                  have HSc := HSb.keep b43
                  refine ⟨fun _ => HSc, ?_⟩
                  refine Cop.ogz_run rfl rfl ?_
                  refine ow_st HSc 0 rfl 26 _ _ rfl rfl rfl (dgS HX2L.out) (dgE HXL.out HX2L.out) (bv_one _) ?_
                  intro w44 HSd
                  refine ⟨fun h => absurd h (by decide), ?_⟩
                  refine Cop.ogz_run rfl rfl ?_
                  refine ow_st HSd 1 rfl 26 _ _ rfl rfl rfl (dgS HZ2L.out) (dgE HZL.out HZ2L.out) (bv_one _) ?_
                  intro w45 HSe
                  refine ⟨fun h => absurd h (by decide), ?_⟩
                  refine ogz_fin ?_
                  clear HSa HSb HSc HSd
                  have q3 := HQ3.out w45
                  by_cases he : X2 = Z2
                  · rw [decide_eq_true he] at q3
                    clear he
                    go_wp2_with (first | refine wl_ldg HSe 0 rfl 26 _ rfl rfl Tryd.underlying26 rfl (dgS HX2L.out) rfl ?_ | refine wl_ldg HSe 1 rfl 26 _ rfl rfl Tryd.underlying26 rfl (dgS HZ2L.out) rfl ?_)
                    (try rw [Exit.noGoto_ret])
                    go_ret
                    exact ⟨true, rfl, HSe.hb, fun h => by cases h⟩
                  · rw [decide_eq_false he] at q3
                    have HNE := Lib.hid he
                    clear he
                    go_wp2_with (first | refine wl_ldg HSe 0 rfl 26 _ rfl rfl Tryd.underlying26 rfl (dgS HX2L.out) rfl ?_ | refine wl_ldg HSe 1 rfl 26 _ rfl rfl Tryd.underlying26 rfl (dgS HZ2L.out) rfl ?_)
                    go_roundw
                    case rel => exact ⟨k + 1, by omega, by go_num, Lib.hid (fun _ => by rw [HX2.out, HZ2.out]; exact HNE.out), by rw [HX2.out, HZ2.out]; exact HSe⟩
                    case measure => simp [intOf]; omega
                | false =>
                  have e1 := HDF.out rfl
                  have e2 := HEF.out rfl
                  have HC1 := Lib.hid (fun w' hb => CN.out w' y X hb hyl HXL.out)
                  have HC2 := Lib.hid (fun w' hb => CN.out w' y2 Z hb hy2l HZL.out)
                  rw [← e1] at HC1
                  rw [← e2] at HC2
                  clear e1 e2
                  go_wp2
                  refine Cop.region_ordz (fun w' => Sep w.heap.size w w' [.row ga (bv X) 26, .row gb (bv Z) 26, .own (.slice (some ⟨gl, 0, none⟩) M c4) 4 1 M (ts.map Value.bool), .own (.slice (some ⟨gp, 0, none⟩) M c2) 26 32 M (dcs P), .row g6 (bv leaf) 26, .rd (.slice (some ⟨bq, oq, none⟩) M cq) M 32 (dcs q), .rd (.slice (some ⟨b0, o0, none⟩) l.length c) l.length 32 (dcs l)]) 12 (.take 0 (.take 1 (.take 2 (.take 3 (.take 4 (.take 6 (.take 7 (.take 8 (.take 9 (.take 10 (.run 5 (.run 11 (.run 12 (.run 13 Cop.Ord.fin)))))))))))))) (by kernel_rfl) (by kernel_rfl) (fun _ _ d _ _ h => by cases d <;> exact h) ?_
                  intro w41 hd41
                  have HSa := HSi.keep hd41
                  clear HSi
                  (repeat (first | (refine Cop.ogz_skip rfl rfl (by decide) HSa _ (by (simp only [Act.put, List.setIfInBounds_toArray, List.set_cons_succ, List.set_cons_zero]; rfl)) ?_) | (refine Cop.ogz_ld rfl rfl (by decide) HSa 26 _ rfl (.pointer (some ⟨ga, 0, none⟩)) rfl _ (fun w9 h9 => load_row (h9.row 0 rfl) 26 Tryd.underlying26 rfl (dgS HXL.out)) _ (by (simp only [Act.put, List.setIfInBounds_toArray, List.set_cons_succ, List.set_cons_zero]; rfl)) ?_) | (refine Cop.ogz_ld rfl rfl (by decide) HSa 26 _ rfl (.pointer (some ⟨gb, 0, none⟩)) rfl _ (fun w9 h9 => load_row (h9.row 1 rfl) 26 Tryd.underlying26 rfl (dgS HZL.out)) _ (by (simp only [Act.put, List.setIfInBounds_toArray, List.set_cons_succ, List.set_cons_zero]; rfl)) ?_) | (refine Cop.ogz_ld rfl rfl (by decide) HSa 26 _ rfl (.pointer (some ⟨gp, k * 32, none⟩)) rfl (.agg (bv y)) (fun w9 h9 => HLP.out w9 (h9.own 3 rfl).rd) _ (by (simp only [Act.put, List.setIfInBounds_toArray, List.set_cons_succ, List.set_cons_zero]; rfl)) ?_) | (refine Cop.ogz_ld rfl rfl (by decide) HSa 26 _ rfl (.pointer (some ⟨bq, oq + k * 32, none⟩)) rfl (.agg (bv y2)) (fun w9 h9 => HLQ.out w9 (h9.rd 5 rfl)) _ (by (simp only [Act.put, List.setIfInBounds_toArray, List.set_cons_succ, List.set_cons_zero]; rfl)) ?_) | (refine Cop.ogz_take rfl rfl (by decide) HSa ?_; apply Exists.intro; refine ⟨fun w9 h9 => ?_, _, by (simp only [Act.put, List.setIfInBounds_toArray, List.set_cons_succ, List.set_cons_zero]; rfl), ?_⟩; (go_simp; with_reducible rfl))))
                  refine Cop.ogz_run rfl rfl ?_
                  refine ow_call 23 _ _ (fun w' => Below w41.heap.size w41 w') (by go_simp) (HC1.out w41 HSa.hb) ?_
                  intro w42 b42
                  have HSb := HSa.keep b42
                  refine ⟨fun _ => HSb, ?_⟩
                  refine Cop.ogz_run rfl rfl ?_
                  refine ow_call 23 _ _ (fun w' => Below w42.heap.size w42 w') (by go_simp) (HC2.out w42 HSb.hb) ?_
                  intro w43 b43
                  have HSc := HSb.keep b43
                  refine ⟨fun _ => HSc, ?_⟩
                  refine Cop.ogz_run rfl rfl ?_
                  refine ow_st HSc 0 rfl 26 _ _ rfl rfl rfl (dgS HX2L.out) (dgE HXL.out HX2L.out) (bv_one _) ?_
                  intro w44 HSd
                  refine ⟨fun h => absurd h (by decide), ?_⟩
                  refine Cop.ogz_run rfl rfl ?_
                  refine ow_st HSd 1 rfl 26 _ _ rfl rfl rfl (dgS HZ2L.out) (dgE HZL.out HZ2L.out) (bv_one _) ?_
                  intro w45 HSe
                  refine ⟨fun h => absurd h (by decide), ?_⟩
                  refine ogz_fin ?_
                  clear HSa HSb HSc HSd
                  have q3 := HQ3.out w45
                  by_cases he : X2 = Z2
                  · rw [decide_eq_true he] at q3
                    clear he
                    go_wp2_with (first | refine wl_ldg HSe 0 rfl 26 _ rfl rfl Tryd.underlying26 rfl (dgS HX2L.out) rfl ?_ | refine wl_ldg HSe 1 rfl 26 _ rfl rfl Tryd.underlying26 rfl (dgS HZ2L.out) rfl ?_)
                    (try rw [Exit.noGoto_ret])
                    go_ret
                    exact ⟨true, rfl, HSe.hb, fun h => by cases h⟩
                  · rw [decide_eq_false he] at q3
                    have HNE := Lib.hid he
                    clear he
                    go_wp2_with (first | refine wl_ldg HSe 0 rfl 26 _ rfl rfl Tryd.underlying26 rfl (dgS HX2L.out) rfl ?_ | refine wl_ldg HSe 1 rfl 26 _ rfl rfl Tryd.underlying26 rfl (dgS HZ2L.out) rfl ?_)
                    go_roundw
                    case rel => exact ⟨k + 1, by omega, by go_num, Lib.hid (fun _ => by rw [HX2.out, HZ2.out]; exact HNE.out), by rw [HX2.out, HZ2.out]; exact HSe⟩
                    case measure => simp [intOf]; omega
            · rw [decide_eq_false hxz] at HQ1
              clear hxz
              go_wp2
              refine Cop.region_ord (fun w' => Sep w.heap.size w w' [.row ga (bv X) 26, .row gb (bv Z) 26, .own (.slice (some ⟨gl, 0, none⟩) M c4) 4 1 M (ts.map Value.bool), .own (.slice (some ⟨gp, 0, none⟩) M c2) 26 32 M (dcs P), .row g6 (bv leaf) 26, .rd (.slice (some ⟨bq, oq, none⟩) M cq) M 32 (dcs q), .rd (.slice (some ⟨b0, o0, none⟩) l.length c) l.length 32 (dcs l)]) 14 (.take 0 (.take 1 (.take 2 (.take 3 (.take 4 (.take 5 (.take 6 (.take 7 (.take 8 (.take 9 (.take 10 (.take 11 (.take 12 (.take 13 (.take 14 Cop.Ord.fin))))))))))))))) (by kernel_rfl) (by kernel_rfl) (fun _ _ d _ _ h => by cases d <;> exact h) ?_
              intro w40 hd40
              replace HSi := HSi.keep hd40
              (repeat (first | (refine Cop.og_skip rfl rfl HSi _ (by (simp only [Act.put, List.setIfInBounds_toArray, List.set_cons_succ, List.set_cons_zero]; rfl)) ?_) | (refine Cop.og_ld rfl rfl HSi 26 _ rfl (.pointer (some ⟨ga, 0, none⟩)) rfl _ (fun w9 h9 => load_row (h9.row 0 rfl) 26 Tryd.underlying26 rfl (dgS HXL.out)) _ (by (simp only [Act.put, List.setIfInBounds_toArray, List.set_cons_succ, List.set_cons_zero]; rfl)) ?_) | (refine Cop.og_ld rfl rfl HSi 26 _ rfl (.pointer (some ⟨gb, 0, none⟩)) rfl _ (fun w9 h9 => load_row (h9.row 1 rfl) 26 Tryd.underlying26 rfl (dgS HZL.out)) _ (by (simp only [Act.put, List.setIfInBounds_toArray, List.set_cons_succ, List.set_cons_zero]; rfl)) ?_) | (refine Cop.og_ld rfl rfl HSi 26 _ rfl (.pointer (some ⟨gp, k * 32, none⟩)) rfl (.agg (bv y)) (fun w9 h9 => HLP.out w9 (h9.own 3 rfl).rd) _ (by (simp only [Act.put, List.setIfInBounds_toArray, List.set_cons_succ, List.set_cons_zero]; rfl)) ?_) | (refine Cop.og_ld rfl rfl HSi 26 _ rfl (.pointer (some ⟨bq, oq + k * 32, none⟩)) rfl (.agg (bv y2)) (fun w9 h9 => HLQ.out w9 (h9.rd 5 rfl)) _ (by (simp only [Act.put, List.setIfInBounds_toArray, List.set_cons_succ, List.set_cons_zero]; rfl)) ?_) | (refine Cop.og_take rfl rfl HSi ?_; apply Exists.intro; refine ⟨fun w9 h9 => ?_, _, by (simp only [Act.put, List.setIfInBounds_toArray, List.set_cons_succ, List.set_cons_zero]; rfl), ?_⟩; (have q1 := HQ1.out w9; go_simp; with_reducible rfl))))
              refine og_fin ?_
              have htc := HTC.out w40 (HSi.own 2 rfl)
              cases t with
              | true =>
                have e1 := HDT.out rfl
                have e2 := HET.out rfl
                have HC1 := Lib.hid (fun w' hb => CN.out w' X y hb HXL.out hyl)
                have HC2 := Lib.hid (fun w' hb => CN.out w' Z y2 hb HZL.out hy2l)
                rw [← e1] at HC1
                rw [← e2] at HC2
                clear e1 e2
                go_wp2
                refine Cop.region_ordz (fun w' => Sep w.heap.size w w' [.row ga (bv X) 26, .row gb (bv Z) 26, .own (.slice (some ⟨gl, 0, none⟩) M c4) 4 1 M (ts.map Value.bool), .own (.slice (some ⟨gp, 0, none⟩) M c2) 26 32 M (dcs P), .row g6 (bv leaf) 26, .rd (.slice (some ⟨bq, oq, none⟩) M cq) M 32 (dcs q), .rd (.slice (some ⟨b0, o0, none⟩) l.length c) l.length 32 (dcs l)]) 12 (.take 0 (.take 1 (.take 2 (.take 3 (.take 4 (.take 6 (.take 7 (.take 8 (.take 9 (.take 10 (.run 5 (.run 11 (.run 12 (.run 13 Cop.Ord.fin)))))))))))))) (by kernel_rfl) (by kernel_rfl) (fun _ _ d _ _ h => by cases d <;> exact h) ?_
                intro w41 hd41
                have HSa := HSi.keep hd41
                clear HSi
                (repeat (first | (refine Cop.ogz_skip rfl rfl (by decide) HSa _ (by (simp only [Act.put, List.setIfInBounds_toArray, List.set_cons_succ, List.set_cons_zero]; rfl)) ?_) | (refine Cop.ogz_ld rfl rfl (by decide) HSa 26 _ rfl (.pointer (some ⟨ga, 0, none⟩)) rfl _ (fun w9 h9 => load_row (h9.row 0 rfl) 26 Tryd.underlying26 rfl (dgS HXL.out)) _ (by (simp only [Act.put, List.setIfInBounds_toArray, List.set_cons_succ, List.set_cons_zero]; rfl)) ?_) | (refine Cop.ogz_ld rfl rfl (by decide) HSa 26 _ rfl (.pointer (some ⟨gb, 0, none⟩)) rfl _ (fun w9 h9 => load_row (h9.row 1 rfl) 26 Tryd.underlying26 rfl (dgS HZL.out)) _ (by (simp only [Act.put, List.setIfInBounds_toArray, List.set_cons_succ, List.set_cons_zero]; rfl)) ?_) | (refine Cop.ogz_ld rfl rfl (by decide) HSa 26 _ rfl (.pointer (some ⟨gp, k * 32, none⟩)) rfl (.agg (bv y)) (fun w9 h9 => HLP.out w9 (h9.own 3 rfl).rd) _ (by (simp only [Act.put, List.setIfInBounds_toArray, List.set_cons_succ, List.set_cons_zero]; rfl)) ?_) | (refine Cop.ogz_ld rfl rfl (by decide) HSa 26 _ rfl (.pointer (some ⟨bq, oq + k * 32, none⟩)) rfl (.agg (bv y2)) (fun w9 h9 => HLQ.out w9 (h9.rd 5 rfl)) _ (by (simp only [Act.put, List.setIfInBounds_toArray, List.set_cons_succ, List.set_cons_zero]; rfl)) ?_) | (refine Cop.ogz_take rfl rfl (by decide) HSa ?_; apply Exists.intro; refine ⟨fun w9 h9 => ?_, _, by (simp only [Act.put, List.setIfInBounds_toArray, List.set_cons_succ, List.set_cons_zero]; rfl), ?_⟩; (go_simp; with_reducible rfl))))
                refine Cop.ogz_run rfl rfl ?_
                refine ow_call 23 _ _ (fun w' => Below w41.heap.size w41 w') (by go_simp) (HC1.out w41 HSa.hb) ?_
                intro w42 b42
                have HSb := HSa.keep b42
                refine ⟨fun _ => HSb, ?_⟩
                refine Cop.ogz_run rfl rfl ?_
                refine ow_call 23 _ _ (fun w' => Below w42.heap.size w42 w') (by go_simp) (HC2.out w42 HSb.hb) ?_
                intro w43 b43
                have HSc := HSb.keep b43
                refine ⟨fun _ => HSc, ?_⟩
                refine Cop.ogz_run rfl rfl ?_
                refine ow_st HSc 0 rfl 26 _ _ rfl rfl rfl (dgS HX2L.out) (dgE HXL.out HX2L.out) (bv_one _) ?_
                intro w44 HSd
                refine ⟨fun h => absurd h (by decide), ?_⟩
                refine Cop.ogz_run rfl rfl ?_
                refine ow_st HSd 1 rfl 26 _ _ rfl rfl rfl (dgS HZ2L.out) (dgE HZL.out HZ2L.out) (bv_one _) ?_
                intro w45 HSe
                refine ⟨fun h => absurd h (by decide), ?_⟩
                refine ogz_fin ?_
                clear HSa HSb HSc HSd
                have q3 := HQ3.out w45
                by_cases he : X2 = Z2
                · rw [decide_eq_true he] at q3
                  clear he
                  go_wp2_with (first | refine wl_ldg HSe 0 rfl 26 _ rfl rfl Tryd.underlying26 rfl (dgS HX2L.out) rfl ?_ | refine wl_ldg HSe 1 rfl 26 _ rfl rfl Tryd.underlying26 rfl (dgS HZ2L.out) rfl ?_)
                  (try rw [Exit.noGoto_ret])
                  go_ret
                  exact ⟨true, rfl, HSe.hb, fun h => by cases h⟩
                · rw [decide_eq_false he] at q3
                  have HNE := Lib.hid he
                  clear he
                  go_wp2_with (first | refine wl_ldg HSe 0 rfl 26 _ rfl rfl Tryd.underlying26 rfl (dgS HX2L.out) rfl ?_ | refine wl_ldg HSe 1 rfl 26 _ rfl rfl Tryd.underlying26 rfl (dgS HZ2L.out) rfl ?_)
                  go_roundw
                  case rel => exact ⟨k + 1, by omega, by go_num, Lib.hid (fun _ => by rw [HX2.out, HZ2.out]; exact HNE.out), by rw [HX2.out, HZ2.out]; exact HSe⟩
                  case measure => simp [intOf]; omega
              | false =>
                have e1 := HDF.out rfl
                have e2 := HEF.out rfl
                have HC1 := Lib.hid (fun w' hb => CN.out w' y X hb hyl HXL.out)
                have HC2 := Lib.hid (fun w' hb => CN.out w' y2 Z hb hy2l HZL.out)
                rw [← e1] at HC1
                rw [← e2] at HC2
                clear e1 e2
                go_wp2
                refine Cop.region_ordz (fun w' => Sep w.heap.size w w' [.row ga (bv X) 26, .row gb (bv Z) 26, .own (.slice (some ⟨gl, 0, none⟩) M c4) 4 1 M (ts.map Value.bool), .own (.slice (some ⟨gp, 0, none⟩) M c2) 26 32 M (dcs P), .row g6 (bv leaf) 26, .rd (.slice (some ⟨bq, oq, none⟩) M cq) M 32 (dcs q), .rd (.slice (some ⟨b0, o0, none⟩) l.length c) l.length 32 (dcs l)]) 12 (.take 0 (.take 1 (.take 2 (.take 3 (.take 4 (.take 6 (.take 7 (.take 8 (.take 9 (.take 10 (.run 5 (.run 11 (.run 12 (.run 13 Cop.Ord.fin)))))))))))))) (by kernel_rfl) (by kernel_rfl) (fun _ _ d _ _ h => by cases d <;> exact h) ?_
                intro w41 hd41
                have HSa := HSi.keep hd41
                clear HSi
                (repeat (first | (refine Cop.ogz_skip rfl rfl (by decide) HSa _ (by (simp only [Act.put, List.setIfInBounds_toArray, List.set_cons_succ, List.set_cons_zero]; rfl)) ?_) | (refine Cop.ogz_ld rfl rfl (by decide) HSa 26 _ rfl (.pointer (some ⟨ga, 0, none⟩)) rfl _ (fun w9 h9 => load_row (h9.row 0 rfl) 26 Tryd.underlying26 rfl (dgS HXL.out)) _ (by (simp only [Act.put, List.setIfInBounds_toArray, List.set_cons_succ, List.set_cons_zero]; rfl)) ?_) | (refine Cop.ogz_ld rfl rfl (by decide) HSa 26 _ rfl (.pointer (some ⟨gb, 0, none⟩)) rfl _ (fun w9 h9 => load_row (h9.row 1 rfl) 26 Tryd.underlying26 rfl (dgS HZL.out)) _ (by (simp only [Act.put, List.setIfInBounds_toArray, List.set_cons_succ, List.set_cons_zero]; rfl)) ?_) | (refine Cop.ogz_ld rfl rfl (by decide) HSa 26 _ rfl (.pointer (some ⟨gp, k * 32, none⟩)) rfl (.agg (bv y)) (fun w9 h9 => HLP.out w9 (h9.own 3 rfl).rd) _ (by (simp only [Act.put, List.setIfInBounds_toArray, List.set_cons_succ, List.set_cons_zero]; rfl)) ?_) | (refine Cop.ogz_ld rfl rfl (by decide) HSa 26 _ rfl (.pointer (some ⟨bq, oq + k * 32, none⟩)) rfl (.agg (bv y2)) (fun w9 h9 => HLQ.out w9 (h9.rd 5 rfl)) _ (by (simp only [Act.put, List.setIfInBounds_toArray, List.set_cons_succ, List.set_cons_zero]; rfl)) ?_) | (refine Cop.ogz_take rfl rfl (by decide) HSa ?_; apply Exists.intro; refine ⟨fun w9 h9 => ?_, _, by (simp only [Act.put, List.setIfInBounds_toArray, List.set_cons_succ, List.set_cons_zero]; rfl), ?_⟩; (go_simp; with_reducible rfl))))
                refine Cop.ogz_run rfl rfl ?_
                refine ow_call 23 _ _ (fun w' => Below w41.heap.size w41 w') (by go_simp) (HC1.out w41 HSa.hb) ?_
                intro w42 b42
                have HSb := HSa.keep b42
                refine ⟨fun _ => HSb, ?_⟩
                refine Cop.ogz_run rfl rfl ?_
                refine ow_call 23 _ _ (fun w' => Below w42.heap.size w42 w') (by go_simp) (HC2.out w42 HSb.hb) ?_
                intro w43 b43
                have HSc := HSb.keep b43
                refine ⟨fun _ => HSc, ?_⟩
                refine Cop.ogz_run rfl rfl ?_
                refine ow_st HSc 0 rfl 26 _ _ rfl rfl rfl (dgS HX2L.out) (dgE HXL.out HX2L.out) (bv_one _) ?_
                intro w44 HSd
                refine ⟨fun h => absurd h (by decide), ?_⟩
                refine Cop.ogz_run rfl rfl ?_
                refine ow_st HSd 1 rfl 26 _ _ rfl rfl rfl (dgS HZ2L.out) (dgE HZL.out HZ2L.out) (bv_one _) ?_
                intro w45 HSe
                refine ⟨fun h => absurd h (by decide), ?_⟩
                refine ogz_fin ?_
                clear HSa HSb HSc HSd
                have q3 := HQ3.out w45
                by_cases he : X2 = Z2
                · rw [decide_eq_true he] at q3
                  clear he
                  go_wp2_with (first | refine wl_ldg HSe 0 rfl 26 _ rfl rfl Tryd.underlying26 rfl (dgS HX2L.out) rfl ?_ | refine wl_ldg HSe 1 rfl 26 _ rfl rfl Tryd.underlying26 rfl (dgS HZ2L.out) rfl ?_)
                  (try rw [Exit.noGoto_ret])
                  go_ret
                  exact ⟨true, rfl, HSe.hb, fun h => by cases h⟩
                · rw [decide_eq_false he] at q3
                  have HNE := Lib.hid he
                  clear he
                  go_wp2_with (first | refine wl_ldg HSe 0 rfl 26 _ rfl rfl Tryd.underlying26 rfl (dgS HX2L.out) rfl ?_ | refine wl_ldg HSe 1 rfl 26 _ rfl rfl Tryd.underlying26 rfl (dgS HZ2L.out) rfl ?_)
                  go_roundw
                  case rel => exact ⟨k + 1, by omega, by go_num, Lib.hid (fun _ => by rw [HX2.out, HZ2.out]; exact HNE.out), by rw [HX2.out, HZ2.out]; exact HSe⟩
                  case measure => simp [intOf]; omega
          · have hkM : k = M := by omega
            subst hkM
            go_wp2
            go_ret
            exact ⟨false, rfl, HSi.hb, fun _ => HK.out HTM.out⟩
    · have h2 : 2 ≤ m := by omega
      have hk := CS.out m wr h2 (by omega)
      rw [Int.toNat_natCast] at hk
      have k1 := hf_pos m
      have k2 := hf_lt h2
      have hlt := way_lt (i := i - lo) h2
      have hge := way_ge (i := i - lo) h2
      obtain ⟨k, hkk⟩ : ∃ k, hf m = k := ⟨_, rfl⟩
      rw [hkk] at hk k1 k2 hlt hge
      have CK := Lib.hid hk
      have Hlt := Lib.hid hlt
      have Hge := Lib.hid hge
      have hk1 : ¬ (k : Int) < 1 := by omega
      have hkb : (k : Int) ≤ 4398046511104 := by omega
      have hdn : dn.length + 1 ≤ 65 := by have := congrArg List.length HW.out; simp only [List.length_append] at this; omega
      have hmgt : (1 : Int) < (m : Int) := by omega
      clear hkk hlt hge hone hk
      by_cases hak : i < lo + k
      · have haki : (i : Int) < (lo : Int) + (k : Int) := by omega
        go_wp2_with fail
        (with_reducible refine Calls.mono (CK.out) ?_)
        rintro e wx ⟨rfl, rfl⟩
        go_wp2_with (refine wl_bs1 HSi rfl 67 4 1 _ rfl (.bool true) (by go_simp) [.bool true] (.bool false) Tryd.underlying67 (by kernel_rfl) (by decide) (by decide) (by kernel_rfl) rfl ?_)
        intro g8 w8 HS8
        clear HSi
        go_wp2_with (refine wl_apn HS8 1 rfl _ _ 67 (.bool false) 1 rfl rfl Tryd.underlying67 (by kernel_rfl) rfl (by decide) (by decide) (HS8.own 0 rfl).rd (by simp [Value.oneCell']) rfl rfl (dn.length + 1) ((dn ++ [true]).map Value.bool) rfl (by simp) (by omega) ?_)
        intro v9 w9 HS9 _
        obtain ⟨A9, c9, rfl, _⟩ := (HS9.own 1 rfl).sl
        have HSk := HS9.tail
        clear HS8 HS9
        go_wp2
        go_roundw
        case rel => exact ⟨lo, lo + k, dn ++ [true], A9, c9, rfl, by go_num, by rw [List.length_append]; rfl, hlo, hak, by omega, Lib.hid (by rw [← HW.out, Hlt.out (by omega), show lo + k - lo = k from by omega]; simp), by simpa using HSk⟩
        case measure => simp [intOf]; omega
      · have haki : ¬ (i : Int) < (lo : Int) + (k : Int) := by omega
        go_wp2_with fail
        (with_reducible refine Calls.mono (CK.out) ?_)
        rintro e wx ⟨rfl, rfl⟩
        go_wp2_with (refine wl_bs1 HSi rfl 67 4 1 _ rfl (.bool false) (by go_simp) [.bool false] (.bool false) Tryd.underlying67 (by kernel_rfl) (by decide) (by decide) (by kernel_rfl) rfl ?_)
        intro g8 w8 HS8
        clear HSi
        go_wp2_with (refine wl_apn HS8 1 rfl _ _ 67 (.bool false) 1 rfl rfl Tryd.underlying67 (by kernel_rfl) rfl (by decide) (by decide) (HS8.own 0 rfl).rd (by simp [Value.oneCell']) rfl rfl (dn.length + 1) ((dn ++ [false]).map Value.bool) rfl (by simp) (by omega) ?_)
        intro v9 w9 HS9 _
        obtain ⟨A9, c9, rfl, _⟩ := (HS9.own 1 rfl).sl
        have HSk := HS9.tail
        clear HS8 HS9
        go_wp2
        go_roundw
        case rel => exact ⟨lo + k, h, dn ++ [false], A9, c9, by go_num, rfl, by rw [List.length_append]; rfl, by omega, hih, hhl, Lib.hid (by rw [← HW.out, Hge.out (by omega), show i - (lo + k) = i - lo - k from by omega, show h - (lo + k) = m - k from by omega]; simp), by simpa using HSk⟩
        case measure => simp [intOf]; omega
end Go.Proofs.YtbdmehgbdnninaaDoor
set_option linter.unusedVariables false
namespace Cop
open Go Go.RowKit
theorem splice_take1 {α : Type} (L cs : List α) (off N : Nat) (h : off + cs.length ≤ N) (hN : N ≤ L.length) : (L.take off ++ cs ++ L.drop (off + cs.length)).take N = (L.take N).take off ++ cs ++ (L.take N).drop (off + cs.length) := by
  have h1 : (L.take off ++ cs).length = off + cs.length := by rw [List.length_append, List.length_take]; omega
  rw [List.take_append, h1, List.take_of_length_le (by rw [h1]; exact h), List.take_take, Nat.min_eq_left (by omega), List.drop_take]
section
variable {P : Program} {w0 w : World} {B : Nat} {R : List Pc} {ops : Array Oper} {rest : List Oper} {o : Oper} {a : Act} {Q : Exit → Act → World → Prop} {K : Act → World → Prop}
/-- Some cells of a slice of the call's own are stored. -/
theorem ow_stg1 (HS : Sep B w0 w R) (i : Nat) {g n c : Nat} {e : TypeId} {size : Nat} {xs : List Value} (hi : R[i]? = some (.own (.slice (some ⟨g, 0, none⟩) n c) e size n xs)) (ty : TypeId) (ad x : Operand) (hop : o.op = .store ty ad x) (off : Nat) {cs : Array Value} {y : Value} (hyc : y.cells = cs) (hs1 : (P.info? ty).map (·.size) = some cs.size) (hoff : off + cs.size ≤ n * size) (h0 : 0 < n) (had : a.eval ad = .pointer (some ⟨g, off, none⟩)) (hx : a.eval x = y)
    (h1 : cs.all (·.oneCell') = true) (h : ∀ w1, Sep B w0 w1 (R.set i (.own (.slice (some ⟨g, 0, none⟩) n c) e size n (xs.take off ++ cs.toList ++ xs.drop (off + cs.size)))) → K (a.put o.dst undef) w1) : o.wp P a w K Q := by
  rcases (HS.own i hi).2 with ⟨A, he, hn⟩ | ⟨g', cap, cur, hc, he, hb, hg, hnc, hcm, hcs, htk⟩
  · omega
  injection he with he1 _ he3
  simp only [Option.some.injEq, Addr.mk.injEq, and_true] at he1
  subst he1 he3
  have hns : n * size ≤ cur.size := by rw [hcs]; exact Nat.mul_le_mul_right _ hnc
  have hst := run_storeCells_at P g off e cs.toList 0 cur w hg (by simp; omega) (fun v hv => (Array.all_eq_true_iff_forall_mem.1 h1) v (by simpa using hv))
  simp only [Nat.add_zero, Array.length_toList] at hst
  obtain ⟨new, hnew⟩ : ∃ new, (cur.toList.take off ++ cs.toList ++ cur.toList.drop (off + cs.size)).toArray = new := ⟨_, rfl⟩
  rw [hnew] at hst
  have hrun : (storeVar ty ⟨g, off, none⟩ y).run P w = .ok () (w.setRow g new) := by
    unfold storeVar
    rw [Sem.run_bind, run_sizeOf_gen (P := P) w hs1]
    simp [Result.andThen, hyc, hst]
  unfold Oper.wp
  simp only [execOp, hop, had, hx, Instr.storeAt, Instr.sureAddr, Sem.run_bind, Sem.run_pure, Result.andThen_ok, hrun]
  refine h _ (HS.at_ i hi fun HS => ?_)
  have hnl : new.size = cur.size := by
    rw [← hnew]
    simp only [List.size_toArray, List.length_append, List.length_take, List.length_drop, Array.length_toList]
    omega
  refine HS.turn rfl rfl rfl rfl (by simp) (fun k hk hne => setRow_other w g k new (fun e => hne (by simp [Pc.blk, vblk, e]; omega))) ⟨?_, .inr ⟨g, c, new, hc, rfl, hb, setRow_heap w g _ _ e _ hg, hnc, hcm, by rw [hnl, hcs], ?_⟩⟩ (fun k hk => .inl hk)
  · have := (HS.own 0 rfl).1
    simp only [List.length_append, List.length_take, List.length_drop, Array.length_toList, this]
    omega
  · rw [← hnew, ← htk]
    have := splice_take1 cur.toList cs.toList off (n * size) (by rw [Array.length_toList]; exact hoff) (by rw [Array.length_toList]; exact hns)
    rw [Array.length_toList] at this
    exact this
end
end Cop
namespace Go.Proofs.YtbdmehgbdnninaaDoor
open Go.RowKit Cop
set_option linter.unusedVariables false
set_option linter.unusedSimpArgs false
theorem and31 (E : Int) : ∃ j : Nat, j < 32 ∧ bits .and .i64 E 31 = (j : Int) := by
  refine ⟨(BitVec.ofInt 64 E &&& BitVec.ofInt 64 31).toNat, ?_, ?_⟩
  · rw [BitVec.toNat_and]
    have : (BitVec.ofInt 64 31).toNat = 31 := by decide
    rw [this]
    exact Nat.lt_of_le_of_lt Nat.and_le_right (by decide)
  · show IntKind.i64.wrap ((BitVec.ofInt 64 E &&& BitVec.ofInt 64 31).toNat : Int) = _
    have h2 : (BitVec.ofInt 64 E &&& BitVec.ofInt 64 31).toNat ≤ 31 := by
      rw [BitVec.toNat_and]
      have : (BitVec.ofInt 64 31).toNat = 31 := by decide
      rw [this]
      exact Nat.and_le_right
    rw [IntKind.wrap_i64]; omega
/-- One byte of a digest of a list is another one. -/
theorem dcs_set {l : List (List UInt8)} (h : AllD l) (k : Nat) (hk : k < l.length) (j : Nat) (hj : j < 32) (z : UInt8) : (dcs l).take (k * 32 + j) ++ [Value.int .u8 (z.toNat : Int)] ++ (dcs l).drop (k * 32 + j + 1) = dcs (l.set k ((l.getD k []).set j z)) := by
  have hg : l.getD k [] = l[k] := by simp [List.getD, hk]
  have hlk : (l[k]).length = 32 := h _ (List.getElem_mem hk)
  have e : l = l.take k ++ l[k] :: l.drop (k + 1) := by rw [← List.drop_eq_getElem_cons hk, List.take_append_drop]
  have hs : l.set k ((l[k]).set j z) = l.take k ++ (l[k]).set j z :: l.drop (k + 1) := by rw [List.set_eq_take_append_cons_drop, if_pos hk]
  have h1 : (dcs (l.take k)).length = k * 32 := by rw [dcs_length (h.take k), List.length_take, Nat.min_eq_left (by omega)]
  rw [hg, hs, dcs_append, dcs_cons]
  have hd : dcs l = dcs (l.take k) ++ (bl (l[k]) ++ dcs (l.drop (k + 1))) := by
    rw [← dcs_cons, ← dcs_append, ← e]
  rw [hd]
  have hb : bl ((l[k]).set j z) = (bl (l[k])).set j (Value.int .u8 (z.toNat : Int)) := by simp [bl, List.map_set]
  have hbl : (bl (l[k])).length = 32 := by rw [bl_length]; exact hlk
  rw [hb, List.set_eq_take_append_cons_drop, if_pos (by omega)]
  have q1 : (dcs (l.take k)).take (k * 32 + j) = dcs (l.take k) := List.take_of_length_le (by omega)
  have q2 : (dcs (l.take k)).drop (k * 32 + j + 1) = [] := List.drop_of_length_le (by omega)
  rw [List.take_append, h1, q1, List.drop_append, h1, q2]
  rw [show k * 32 + j - k * 32 = j from by omega, show k * 32 + j + 1 - k * 32 = j + 1 from by omega]
  rw [List.take_append_of_le_length (by omega), List.drop_append_of_le_length (by omega)]
  simp
end Go.Proofs.YtbdmehgbdnninaaDoor
namespace Go.Proofs.YtbdmehgbdnninaaDoor
open Go.RowKit Cop
set_option linter.unusedVariables false
set_option linter.unusedSimpArgs false
theorem turned_ab (l : List (List UInt8)) (i : Nat) (d leaf : List UInt8) (q : List (List UInt8)) (T : Nat) (w : World) (hT : Tab w) (hl : AllD l) (hll : l.length ≤ 4398046511104) (hd : l[i]? = some d) (hlf : leaf.length = 32) (hq : AllD q) (hlq : q.length = (tpath nodeD (sha []) l i).length)
    (hT0 : T = 0 → d ≠ leaf) (hTk : ∀ k, k < q.length → T = k + 1 → q.getD k [] ≠ (tpath nodeD (sha []) l i).getD k []) (hTM : T ≤ q.length) : ∃ X : List UInt8, X.length = 32 ∧
    (∀ w' v, Below w.heap.size w w' → Rd w' v q.length 32 (dcs q) → Gives 29 #[.agg (bv leaf), .int .i64 i, .int .i64 l.length, v] w' (.tuple #[.agg (bv X), .int .i64 0])) ∧
    (X = root nodeD (sha []) l → ∀ w' v vq, Below w.heap.size w w' → Rd w' v l.length 32 (dcs l) → Rd w' vq q.length 32 (dcs q) → Gives 47 #[v, .int .i64 i, .agg (bv leaf), vq] w' (.bool true)) := by
  have hi : i < l.length := (List.getElem?_eq_some_iff.1 hd).1
  have hdl : d.length = 32 := hl d (List.mem_iff_getElem?.2 ⟨i, hd⟩)
  have hlen := (tpath_length nodeD (sha []) l l.length rfl i).symm
  have hlen2 : (way i l.length).length = q.length := by omega
  have hw48 := way_len 48 l.length i (by omega)
  obtain ⟨D, hD0, hDL, hDl, hDt, hDf⟩ := climb_steps nodeD nodeD_length d hdl (way i l.length) (tpath nodeD (sha []) l i) hlen
  obtain ⟨E, hE0, hEL, hEl, hEt, hEf⟩ := climb_steps nodeD nodeD_length leaf hlf (way i l.length) q hlen2
  rw [climb_tpath nodeD (sha []) l.length l rfl i d hd] at hDL
  rw [← hlq] at hDL hDt hDf
  refine ⟨E q.length, hEl _, fun w' v hb hR => ?_, fun hX w' v vq hb hR hRq => ?_⟩
  · exact vroot_gen nodeD E (way i l.length) q leaf i l.length v w' hi (by omega) hw48 hlen2 hq hlf hR hE0 hEl hEt hEf (fun w2 => way54 i l.length w2 hi (by omega)) (fun w2 x y hb2 hx hy => node_a x y w2 ((hT.below hb).below hb2) hx hy)
  · refine (collides_a D E T l v i d leaf q vq w' (hT.below hb) hl hll hR hd hlf hq hlq hRq hD0 hE0 hDl hEl hDt hDf hEt hEf (fun h => by rw [hD0, hE0]; exact hT0 h) hTk hTM).mono ?_
    rintro e w2 ⟨r, rfl, hb2, hr⟩
    cases r with
    | true => exact ⟨rfl, hb2⟩
    | false => exact absurd (hDL.trans hX.symm) (hr rfl)
theorem length_25t (w : World) : Gives 46 #[.int .i64 2, .int .i64 5] w (.tuple #[.int .i64 3, .int .i64 0]) := by
  have h1 : way 2 5 = true :: way 2 4 := way_lt (by decide) (show 2 < hf 5 by decide)
  have h2 : way 2 4 = false :: way 0 2 := way_ge (i := 2) (n := 4) (by decide) (show ¬ 2 < hf 4 by decide)
  have h3 : way 0 2 = true :: way 0 1 := way_lt (by decide) (show 0 < hf 2 by decide)
  have h4 : way 0 1 = [] := way_one (by decide)
  have := length_ok 2 5 w (by decide) (by decide)
  rw [h1, h2, h3, h4] at this
  exact this
theorem xor_ne (x b : UInt8) (h : b ≠ 0) : x ^^^ b ≠ x := by
  intro e
  apply h
  have h2 : x ^^^ (x ^^^ b) = x ^^^ x := by rw [e]
  rw [← UInt8.xor_assoc, UInt8.xor_self, UInt8.zero_xor] at h2
  exact h2
theorem set_ne (d : List UInt8) (j : Nat) (hj : j < d.length) (b : UInt8) (h : b ≠ 0) : d ≠ d.set j (d.getD j 0 ^^^ b) := by
  intro e
  have h1 : d[j]? = (d.set j (d.getD j 0 ^^^ b))[j]? := congrArg (fun l => l[j]?) e
  rw [List.getElem?_set_self hj, List.getElem?_eq_getElem hj] at h1
  have h2 : d.getD j 0 = d[j] := by simp [List.getD, hj]
  rw [h2] at h1
  exact xor_ne _ b h (by injection h1 with h1; exact h1.symm)
end Go.Proofs.YtbdmehgbdnninaaDoor
namespace Go.Proofs.YtbdmehgbdnninaaDoor
open Go.RowKit Cop
set_option linter.unusedVariables false
set_option linter.unusedSimpArgs false
theorem turn_cells {w : World} {g : Nat} {i n : Int} {t : TypeId} (h : w.heap[g]? = some (.cells #[.int .i64 i, .int .u8 n] t (0, 0))) : w.cell? ⟨g, 0, none⟩ = some (.int .i64 i) ∧ w.cell? ⟨g, 1, none⟩ = some (.int .u8 n) :=
  ⟨by rw [row_cell h]; rfl, by rw [row_cell h]; rfl⟩
theorem open_turn {H : Type} {enc : TypeId × Value → H} {P : Program} {w : World} {base : Nat} {spare : Nat → Bool} {held : Bool} {t ti tb : TypeId} {v : Value} {d : DataW H} {ps : List MemPlace} {r : Reach} {base' : Nat} {f0 f1 : Field}
    (ht : P.underlying t = some (.struct #[f0, f1])) (e0 : f0.type = ti) (e1 : f1.type = tb) (o0 : f0.offset = 0) (o1 : f1.offset = 1) (hi : P.underlying ti = some (.int .i64)) (hb : P.underlying tb = some (.int .u8)) (hc0 : P.cellsOf ti = 1) (hc1 : P.cellsOf tb = 1) (hc : P.cellsOf t = 2)
    (h : DataW.Trod enc P w base spare held t v d ps) (hok : Value.okWide P w r base' t v) : ∃ (m : Int) (b : UInt8), v = .agg #[.int .i64 m, .int .u8 (b.toNat : Int)] := by
  obtain ⟨cs, rfl, hsz⟩ := Go.WideShapes.okWide_struct ht hok
  obtain ⟨fuel, hf⟩ := h
  obtain ⟨y0, y1, n, _, hl, h0, h1⟩ := Go.ChangeShapes.trod_struct2 ht hf
  obtain ⟨l⟩ := cs
  rw [hc] at hsz
  match l, hsz with
  | [a, b], _ =>
    rw [e0, o0, hc0] at h0
    rw [e1, o1, hc1] at h1
    obtain ⟨m, hm, _, w0⟩ := DataW.trod_int hi h0
    obtain ⟨n, hn, _, w1⟩ := DataW.trod_int hb h1
    obtain ⟨c, rfl⟩ := u8_of_wf w1
    simp [Value.cells] at hm hn
    exact ⟨m, c, by simp [hm, hn]⟩
set_option maxRecDepth 100000 in
set_option maxHeartbeats 4000000 in
theorem verifyTurned_none (v : Value) (a place n : Int) (w : World) (hR : Rd w v 0 32 (dcs [])) : Gives 11 #[v, .int .i64 a, .agg #[.int .i64 place, .int .u8 n]] w (.bool true) := by
  have HS0 := (Sep.start w).arg0 hR
  obtain ⟨A, c, rfl, hc, hcm⟩ := hR.shape
  clear hR
  go_enter Tryd.func11, Tryd.ntmps11
  go_wp2_with (first | refine wl_bx HS0 rfl 70 _ rfl #[.int .i64 place, .int .u8 n] rfl ?_)
  intro g1 w1 HS1
  have c1 := (turn_cells (HS1.row 0 rfl)).2
  go_wp2
  go_ret
  exact ⟨rfl, HS1.hb⟩
set_option maxRecDepth 100000 in
set_option maxHeartbeats 4000000 in
theorem verifyTurned_zero (l : List (List UInt8)) (v : Value) (a place : Int) (w : World) (hR : Rd w v l.length 32 (dcs l)) (hll : l.length ≤ 4398046511104) (h0 : 0 < l.length) : Gives 11 #[v, .int .i64 a, .agg #[.int .i64 place, .int .u8 0]] w (.bool true) := by
  have HS0 := (Sep.start w).arg0 hR
  obtain ⟨A, c, rfl, hc, hcm⟩ := hR.shape
  have hL0 : ¬ (l.length : Int) = 0 := by omega
  have hL0b : ((l.length : Int) == 0) = false := by rw [beq_eq_false_iff_ne]; exact hL0
  clear hR
  go_enter Tryd.func11, Tryd.ntmps11
  go_wp2_with (first | refine wl_bx HS0 rfl 70 _ rfl #[.int .i64 place, .int .u8 0] rfl ?_)
  intro g1 w1 HS1
  have c1 := (turn_cells (HS1.row 0 rfl)).2
  go_wp2
  go_ret
  exact ⟨rfl, HS1.hb⟩
set_option maxRecDepth 100000 in
set_option maxHeartbeats 8000000 in
theorem verifyTurned_walk (l : List (List UInt8)) (v : Value) (a place : Int) (b : UInt8) (w : World) (hT : Tab w) (hl : AllD l) (hll : l.length ≤ 4398046511104) (hR : Rd w v l.length 32 (dcs l)) (h0 : 0 < l.length) (hb : b ≠ 0) : Gives 11 #[v, .int .i64 a, .agg #[.int .i64 place, .int .u8 (b.toNat : Int)]] w (.bool true) := by
  have C25 := Lib.hid length_25t
  obtain ⟨i', i1, i2, hw1⟩ := within_a a 0 ((l.length : Int) - 1) (by omega) (by omega) (by omega)
  obtain ⟨i, rfl⟩ : ∃ i : Nat, i' = (i : Int) := ⟨i'.toNat, by omega⟩
  have hil : i < l.length := by omega
  obtain ⟨d, hd⟩ : ∃ d, l[i]? = some d := ⟨_, List.getElem?_eq_getElem hil⟩
  have hdl : d.length = 32 := hl d (List.mem_iff_getElem?.2 ⟨i, hd⟩)
  have hdg : l.getD i [] = d := by simp [List.getD, hd]
  have hp64 := tpath_len64 l hll i
  have hpa := tpath_all _ l hl rfl i
  have IA := Lib.hid (fun w' v hb hR => incl_ok l v i l.length w' (hT.below hb) hl hll hR hil (Nat.le_refl _))
  rw [List.take_length] at IA
  have TB := fun leaf q T h1 h2 h3 h4 h5 h6 => turned_ab l i d leaf q T w hT hl hll hd h1 h2 h3 h4 h5 h6
  obtain ⟨P, hP⟩ : ∃ P, tpath nodeD (sha []) l i = P := ⟨_, rfl⟩
  rw [hP] at IA hp64 hpa TB
  obtain ⟨M, hM⟩ : ∃ M, P.length = M := ⟨_, rfl⟩
  rw [hM] at IA hp64 TB
  obtain ⟨k', k1, k2, hw2⟩ := within_a place 0 M (by omega) (by omega) (by omega)
  obtain ⟨k, rfl⟩ : ∃ k : Nat, k' = (k : Int) := ⟨k'.toNat, by omega⟩
  obtain ⟨j, hj, hand⟩ := and31 place
  have RA := Lib.hid (fun w' v (hb : Below w.heap.size w w') hR => root_a l v w' (hT.below hb) hl hll hR)
  have hrl := root_length l hl
  obtain ⟨RR, hRR⟩ : ∃ r, root nodeD (sha []) l = r := ⟨_, rfl⟩
  rw [hRR] at RA hrl TB
  have CW1 := Lib.hid hw1
  have CW2 := Lib.hid hw2
  have HB := Lib.hid hb
  have hbz : ¬ (b.toNat : Int) = 0 := fun h => hb (UInt8.toNat_inj.1 (by rw [UInt8.toNat_zero]; omega))
  have hbzb : ((b.toNat : Int) == 0) = false := by rw [beq_eq_false_iff_ne]; exact hbz
  have hL0 : ¬ (l.length : Int) = 0 := by omega
  have hL0b : ((l.length : Int) == 0) = false := by rw [beq_eq_false_iff_ne]; exact hL0
  have hlb : (l.length : Int) ≤ 4398046511104 := by omega
  have HS0 := (Sep.start w).arg0 hR
  obtain ⟨A, c, rfl, _, _⟩ := hR.shape
  obtain ⟨b0, o0, rfl⟩ := rd_some hR h0
  have HLI := Lib.hid (fun (W' : World) (h : Rd W' (.slice (some ⟨b0, o0, none⟩) l.length c) l.length 32 (dcs l)) => load_dg h rfl hl i hil d hdg)
  have HTB := Lib.hid TB
  have HPM := Lib.hid hM
  have HPA := Lib.hid hpa
  have HJ := Lib.hid hand
  clear hP hM hRR hw1 hw2 hd hdg hR hl hpa TB hb hand
  go_enter Tryd.func11, Tryd.ntmps11
  go_wp2_with (first | refine wl_bx HS0 rfl 70 _ rfl #[.int .i64 place, .int .u8 (b.toNat : Int)] rfl ?_)
  intro g5 w1 HS1
  have c1 := (turn_cells (HS1.row 0 rfl)).2
  clear HS0
  go_wp2_with fail
  (with_reducible refine Calls.mono (CW1.out w1) ?_)
  rintro e wx ⟨rfl, rfl⟩
  go_wp2_with fail
  (with_reducible refine Calls.mono (IA.out w1 _ HS1.hb (HS1.rd 1 rfl)) ?_)
  rintro e2 w2 ⟨x2, rfl, bb2, o2⟩
  have HS2 := HS1.made bb2 o2
  obtain ⟨A2, c2, rfl, _⟩ := (HS2.own 0 rfl).sl
  clear HS1 o2 c1
  have c0 := (turn_cells (HS2.row 1 rfl)).1
  have hld := Lib.hid (HLI.out w2 (HS2.rd 2 rfl))
  go_wp2_with (first | refine wl_ldx rfl 26 _ rfl _ rfl (.agg (bv d)) hld.out ?_ | refine wl_al HS2 rfl 26 rfl (bv (List.replicate 32 0)) (by kernel_rfl) ?_)
  intro g10 w4 HS4
  go_wp2_with (first | refine wl_st HS4 0 rfl rfl 26 _ _ rfl rfl rfl (dgS hdl) (dgE rfl hdl) (bv_one _) ?_)
  intro w5 HS5
  clear HS2 HS4 hld c0
  have c0 := (turn_cells (HS5.row 2 rfl)).1
  go_wp2_with fail
  (with_reducible refine Calls.mono (CW2.out w5) ?_)
  rintro e wx ⟨rfl, rfl⟩
  clear c0
  by_cases hk : k = M
  · obtain ⟨x, hx⟩ : ∃ x, d.getD j 0 = x := ⟨_, rfl⟩
    obtain ⟨X, hX, h1, h2⟩ := HTB.out (d.set j (x ^^^ b)) P 0 (by simpa using hdl) HPA.out HPM.out (fun _ => by rw [← hx]; exact set_ne d j (by omega) b HB.out) (fun _ _ h => by omega) (Nat.zero_le _)
    rw [HPM.out] at h1 h2
    have VR := Lib.hid h1
    have CC := Lib.hid h2
    have HQ := Lib.hid (fun w' : World => run_equal_bv (P := Tryd.prog) w' (d := 9998) Tryd.underlying26 Tryd.underlying5 (by kernel_rfl) X RR hX hrl)
    have hlf : (d.set j (x ^^^ b)).length = 32 := by simpa using hdl
    have HCX := Lib.hid (fun (W : World) (h : W.heap[g10]? = some (.cells (bv d) 26 (0, 0))) => (by rw [row_cell h, bv_get d j (by omega), hx] : W.cell? ⟨g10, j, none⟩ = some (.int .u8 (x.toNat : Int))))
    have hBX := Lib.hid (bxor8 x b)
    have HSET := Lib.hid (bv_set d j (x ^^^ b))
    obtain ⟨LF, hLF⟩ : ∃ y, d.set j (x ^^^ b) = y := ⟨_, rfl⟩
    rw [hLF] at VR CC hlf HSET
    have hji : (j : Int) < 32 := by omega
    subst hk
    clear h1 h2 hx hLF
    go_wp2
    refine Cop.region_ord (fun w' => Sep w.heap.size w w' [.row g10 (bv d) 26, .own (.slice A2 k c2) 26 32 k (dcs P), .row g5 #[.int .i64 place, .int .u8 (b.toNat : Int)] 70, .rd (.slice (some ⟨b0, o0, none⟩) l.length c) l.length 32 (dcs l)]) 12 (.take 0 (.take 1 (.take 2 (.take 3 (.take 4 (.take 5 (.take 6 (.take 7 (.take 8 (.take 9 (.take 10 (.take 11 (.run 12 Cop.Ord.fin))))))))))))) (by kernel_rfl) (by kernel_rfl) (fun _ _ d _ _ h => by cases d <;> exact h) ?_
    intro w20 hd20
    have HSa := HS5.keep hd20
    clear HS5
    (repeat (first | (refine Cop.og_skip rfl rfl HSa _ (by (simp only [Act.put, List.setIfInBounds_toArray, List.set_cons_succ, List.set_cons_zero]; rfl)) ?_) | (refine Cop.og_take rfl rfl HSa ?_; apply Exists.intro; refine ⟨fun w9 h9 => ?_, _, by (simp only [Act.put, List.setIfInBounds_toArray, List.set_cons_succ, List.set_cons_zero]; rfl), ?_⟩; (have c0 := (turn_cells (h9.row 2 rfl)).1; have c1 := (turn_cells (h9.row 2 rfl)).2; have e1 := HJ.out; have e2 := HCX.out w9 (h9.row 0 rfl); have e3 := hBX.out; go_simp; with_reducible rfl))))
    refine Cop.og_run rfl rfl ?_
    refine ow_stc HSa 0 rfl 5 _ _ rfl (by kernel_rfl) j (by rw [bv_size, hdl]; exact hj) (y := .int .u8 ((x ^^^ b).toNat : Int)) rfl rfl rfl rfl ?_
    intro w21 HSr
    rw [HSET.out] at HSr
    refine ⟨fun h => absurd rfl h, ?_⟩
    refine og_fin ?_
    clear HSa
    go_wp2_with fail
    (with_reducible refine Calls.mono (C25.out w21) ?_)
    rintro e w22 ⟨rfl, b22⟩
    have HSs := HSr.keep b22
    clear HSr
    go_wp2_with (first | refine wl_ld HSs 0 rfl rfl 26 _ rfl rfl Tryd.underlying26 rfl (dgS hlf) ?_)
    (with_reducible refine Calls.mono (VR.out w22 _ HSs.hb (HSs.own 1 rfl).rd) ?_)
    rintro e w23 ⟨rfl, b23⟩
    have HSt := HSs.keep b23
    clear HSs
    go_wp2_with (first | refine wl_al HSt rfl 26 rfl (bv (List.replicate 32 0)) (by kernel_rfl) ?_)
    intro g14 w24 HSu
    go_wp2_with (first | refine wl_st HSu 0 rfl rfl 26 _ _ rfl rfl rfl (dgS hX) (dgE rfl hX) (bv_one _) ?_)
    intro w25 HSv
    clear HSt HSu
    go_wp2
    by_cases hxr : X = RR
    · have CX := Lib.hid (CC.out hxr)
      rw [decide_eq_true hxr] at HQ
      clear hxr
      refine Cop.region_ord (fun w' => Sep w.heap.size w w' [.row g14 (bv X) 26, .row g10 (bv LF) 26, .own (.slice A2 k c2) 26 32 k (dcs P), .row g5 #[.int .i64 place, .int .u8 (b.toNat : Int)] 70, .rd (.slice (some ⟨b0, o0, none⟩) l.length c) l.length 32 (dcs l)]) 15 (.take 0 (.take 1 (.take 2 (.take 3 (.take 4 (.run 5 (.take 6 (.take 7 (.take 8 (.take 9 (.take 10 (.take 11 (.run 12 (.take 13 (.take 14 (.take 15 Cop.Ord.fin)))))))))))))))) (by kernel_rfl) (by kernel_rfl) (fun _ _ d _ _ h => by cases d <;> exact h) ?_
      intro w26 hd26
      have HSw := HSv.keep hd26
      clear HSv
      (repeat (first | (refine Cop.og_skip rfl rfl HSw _ (by (simp only [Act.put, List.setIfInBounds_toArray, List.set_cons_succ, List.set_cons_zero]; rfl)) ?_) | (refine Cop.og_ld rfl rfl HSw 26 _ rfl (.pointer (some ⟨g14, 0, none⟩)) rfl _ (fun w9 h9 => load_row (h9.row 0 rfl) 26 Tryd.underlying26 rfl (dgS hX)) _ (by (simp only [Act.put, List.setIfInBounds_toArray, List.set_cons_succ, List.set_cons_zero]; rfl)) ?_) | (refine Cop.og_ld rfl rfl HSw 26 _ rfl (.pointer (some ⟨g10, 0, none⟩)) rfl _ (fun w9 h9 => load_row (h9.row 1 rfl) 26 Tryd.underlying26 rfl (dgS hlf)) _ (by (simp only [Act.put, List.setIfInBounds_toArray, List.set_cons_succ, List.set_cons_zero]; rfl)) ?_) | (refine Cop.og_take rfl rfl HSw ?_; apply Exists.intro; refine ⟨fun w9 h9 => ?_, _, by (simp only [Act.put, List.setIfInBounds_toArray, List.set_cons_succ, List.set_cons_zero]; rfl), ?_⟩; (go_simp; with_reducible rfl))))
      refine Cop.og_run rfl rfl ?_
      refine ow_call 15 _ _ (fun w' => Below w26.heap.size w26 w') (by go_simp) (RA.out w26 _ HSw.hb (HSw.rd 4 rfl)) ?_
      intro w27 b27
      have HSx := HSw.keep b27
      refine ⟨fun _ => HSx, ?_⟩
      (repeat (first | (refine Cop.og_skip rfl rfl HSx _ (by (simp only [Act.put, List.setIfInBounds_toArray, List.set_cons_succ, List.set_cons_zero]; rfl)) ?_) | (refine Cop.og_ld rfl rfl HSx 26 _ rfl (.pointer (some ⟨g14, 0, none⟩)) rfl _ (fun w9 h9 => load_row (h9.row 0 rfl) 26 Tryd.underlying26 rfl (dgS hX)) _ (by (simp only [Act.put, List.setIfInBounds_toArray, List.set_cons_succ, List.set_cons_zero]; rfl)) ?_) | (refine Cop.og_ld rfl rfl HSx 26 _ rfl (.pointer (some ⟨g10, 0, none⟩)) rfl _ (fun w9 h9 => load_row (h9.row 1 rfl) 26 Tryd.underlying26 rfl (dgS hlf)) _ (by (simp only [Act.put, List.setIfInBounds_toArray, List.set_cons_succ, List.set_cons_zero]; rfl)) ?_) | (refine Cop.og_take rfl rfl HSx ?_; apply Exists.intro; refine ⟨fun w9 h9 => ?_, _, by (simp only [Act.put, List.setIfInBounds_toArray, List.set_cons_succ, List.set_cons_zero]; rfl), ?_⟩; (have q := HQ.out w9; go_simp; with_reducible rfl))))
      refine Cop.og_run rfl rfl ?_
      refine ow_call 47 _ _ (fun w' => Below w27.heap.size w27 w') (by go_simp) (CX.out w27 _ _ HSx.hb (HSx.rd 4 rfl) (HSx.own 2 rfl).rd) ?_
      intro w28 b28
      have HSy := HSx.keep b28
      refine ⟨fun _ => HSy, ?_⟩
      (repeat (first | (refine Cop.og_skip rfl rfl HSy _ (by (simp only [Act.put, List.setIfInBounds_toArray, List.set_cons_succ, List.set_cons_zero]; rfl)) ?_) | (refine Cop.og_take rfl rfl HSy ?_; apply Exists.intro; refine ⟨fun w9 h9 => ?_, _, by (simp only [Act.put, List.setIfInBounds_toArray, List.set_cons_succ, List.set_cons_zero]; rfl), ?_⟩; (go_simp; with_reducible rfl))))
      refine og_fin ?_
      go_wp2
      go_ret
      exact ⟨rfl, HSy.hb⟩
    · rw [decide_eq_false hxr] at HQ
      clear hxr
      refine Cop.region_ord (fun w' => Sep w.heap.size w w' [.row g14 (bv X) 26, .row g10 (bv LF) 26, .own (.slice A2 k c2) 26 32 k (dcs P), .row g5 #[.int .i64 place, .int .u8 (b.toNat : Int)] 70, .rd (.slice (some ⟨b0, o0, none⟩) l.length c) l.length 32 (dcs l)]) 15 (.take 0 (.take 1 (.take 2 (.take 3 (.take 4 (.run 5 (.take 6 (.take 7 (.take 8 (.take 9 (.take 10 (.take 11 (.run 12 (.take 13 (.take 14 (.take 15 Cop.Ord.fin)))))))))))))))) (by kernel_rfl) (by kernel_rfl) (fun _ _ d _ _ h => by cases d <;> exact h) ?_
      intro w26 hd26
      have HSw := HSv.keep hd26
      clear HSv
      (repeat (first | (refine Cop.og_skip rfl rfl HSw _ (by (simp only [Act.put, List.setIfInBounds_toArray, List.set_cons_succ, List.set_cons_zero]; rfl)) ?_) | (refine Cop.og_ld rfl rfl HSw 26 _ rfl (.pointer (some ⟨g14, 0, none⟩)) rfl _ (fun w9 h9 => load_row (h9.row 0 rfl) 26 Tryd.underlying26 rfl (dgS hX)) _ (by (simp only [Act.put, List.setIfInBounds_toArray, List.set_cons_succ, List.set_cons_zero]; rfl)) ?_) | (refine Cop.og_ld rfl rfl HSw 26 _ rfl (.pointer (some ⟨g10, 0, none⟩)) rfl _ (fun w9 h9 => load_row (h9.row 1 rfl) 26 Tryd.underlying26 rfl (dgS hlf)) _ (by (simp only [Act.put, List.setIfInBounds_toArray, List.set_cons_succ, List.set_cons_zero]; rfl)) ?_) | (refine Cop.og_take rfl rfl HSw ?_; apply Exists.intro; refine ⟨fun w9 h9 => ?_, _, by (simp only [Act.put, List.setIfInBounds_toArray, List.set_cons_succ, List.set_cons_zero]; rfl), ?_⟩; (go_simp; with_reducible rfl))))
      refine Cop.og_run rfl rfl ?_
      refine ow_call 15 _ _ (fun w' => Below w26.heap.size w26 w') (by go_simp) (RA.out w26 _ HSw.hb (HSw.rd 4 rfl)) ?_
      intro w27 b27
      have HSx := HSw.keep b27
      refine ⟨fun _ => HSx, ?_⟩
      (repeat (first | (refine Cop.og_skip rfl rfl HSx _ (by (simp only [Act.put, List.setIfInBounds_toArray, List.set_cons_succ, List.set_cons_zero]; rfl)) ?_) | (refine Cop.og_ld rfl rfl HSx 26 _ rfl (.pointer (some ⟨g14, 0, none⟩)) rfl _ (fun w9 h9 => load_row (h9.row 0 rfl) 26 Tryd.underlying26 rfl (dgS hX)) _ (by (simp only [Act.put, List.setIfInBounds_toArray, List.set_cons_succ, List.set_cons_zero]; rfl)) ?_) | (refine Cop.og_ld rfl rfl HSx 26 _ rfl (.pointer (some ⟨g10, 0, none⟩)) rfl _ (fun w9 h9 => load_row (h9.row 1 rfl) 26 Tryd.underlying26 rfl (dgS hlf)) _ (by (simp only [Act.put, List.setIfInBounds_toArray, List.set_cons_succ, List.set_cons_zero]; rfl)) ?_) | (refine Cop.og_take rfl rfl HSx ?_; apply Exists.intro; refine ⟨fun w9 h9 => ?_, _, by (simp only [Act.put, List.setIfInBounds_toArray, List.set_cons_succ, List.set_cons_zero]; rfl), ?_⟩; (have q := HQ.out w9; go_simp; with_reducible rfl))))
      refine Cop.og_rskip rfl rfl HSx _ (by (simp only [Act.put, List.setIfInBounds_toArray, List.set_cons_succ, List.set_cons_zero]; rfl)) ?_
      (repeat (first | (refine Cop.og_skip rfl rfl HSx _ (by (simp only [Act.put, List.setIfInBounds_toArray, List.set_cons_succ, List.set_cons_zero]; rfl)) ?_) | (refine Cop.og_take rfl rfl HSx ?_; apply Exists.intro; refine ⟨fun w9 h9 => ?_, _, by (simp only [Act.put, List.setIfInBounds_toArray, List.set_cons_succ, List.set_cons_zero]; rfl), ?_⟩; (go_simp; with_reducible rfl))))
      refine og_fin ?_
      go_wp2
      go_ret
      exact ⟨rfl, HSx.hb⟩
  · have hkM : k < M := by omega
    obtain ⟨y, hy⟩ : ∃ y, P.getD k [] = y := ⟨_, rfl⟩
    have hyl : y.length = 32 := by rw [← hy]; exact dg_len HPA.out k (by rw [HPM.out]; exact hkM)
    obtain ⟨x, hx⟩ : ∃ x, y.getD j 0 = x := ⟨_, rfl⟩
    have hlq : (P.set k (y.set j (x ^^^ b))).length = M := by rw [List.length_set]; exact HPM.out
    have hqa : AllD (P.set k (y.set j (x ^^^ b))) := by
      intro z hz
      rcases List.mem_or_eq_of_mem_set hz with h | h
      · exact HPA.out z h
      · rw [h]; simpa using hyl
    obtain ⟨X, hX, h1, h2⟩ := HTB.out d (P.set k (y.set j (x ^^^ b))) (k + 1) hdl hqa hlq (fun h => by omega) (fun kk hk2 h => by
      have e : kk = k := by omega
      rw [e, show (P.set k (y.set j (x ^^^ b))).getD k [] = y.set j (x ^^^ b) from by simp [List.getD, List.getElem?_set_self (show k < P.length from by rw [HPM.out]; exact hkM)], hy, ← hx]
      exact (set_ne y j (by omega) b HB.out).symm) (by rw [hlq]; omega)
    rw [hlq] at h1 h2
    have VR := Lib.hid h1
    have CC := Lib.hid h2
    have HQ := Lib.hid (fun w' : World => run_equal_bv (P := Tryd.prog) w' (d := 9998) Tryd.underlying26 Tryd.underlying5 (by kernel_rfl) X RR hX hrl)
    obtain ⟨gp, rfl⟩ := Ow.addr (HS5.own 1 rfl) (by omega)
    have HCX := Lib.hid (fun (W : World) (h : Ow W w.heap.size 26 32 (.slice (some ⟨gp, 0, none⟩) M c2) M (dcs P)) => (own_cell h (k * 32 + j) (by rw [dcs_at HPA.out k (by rw [HPM.out]; exact hkM) j hj, hy]; simp [bl, List.getD, show j < y.length from by omega] at hx ⊢; rw [hx]) : W.cell? ⟨gp, k * 32 + j, none⟩ = some (.int .u8 (x.toNat : Int))))
    have hBX := Lib.hid (bxor8 x b)
    have HSET := Lib.hid (dcs_set HPA.out k (by rw [HPM.out]; exact hkM) j hj (x ^^^ b))
    rw [hy] at HSET
    obtain ⟨QQ, hQQ⟩ : ∃ z, P.set k (y.set j (x ^^^ b)) = z := ⟨_, rfl⟩
    rw [hQQ] at VR CC HSET
    have hji : (j : Int) < 32 := by omega
    have hkne : ¬ (k : Int) = (M : Int) := by omega
    have hki : (k : Int) < (M : Int) := by omega
    clear h1 h2 hx hQQ hy hqa hlq hk
    go_wp2
    refine Cop.region_ord (fun w' => Sep w.heap.size w w' [.row g10 (bv d) 26, .own (.slice (some ⟨gp, 0, none⟩) M c2) 26 32 M (dcs P), .row g5 #[.int .i64 place, .int .u8 (b.toNat : Int)] 70, .rd (.slice (some ⟨b0, o0, none⟩) l.length c) l.length 32 (dcs l)]) 18 (.take 0 (.take 1 (.take 2 (.take 3 (.take 4 (.take 5 (.take 6 (.take 7 (.take 8 (.take 9 (.take 10 (.take 11 (.take 12 (.take 13 (.take 14 (.take 15 (.take 16 (.take 17 (.run 18 Cop.Ord.fin))))))))))))))))))) (by kernel_rfl) (by kernel_rfl) (fun _ _ d _ _ h => by cases d <;> exact h) ?_
    intro w20 hd20
    have HSa := HS5.keep hd20
    clear HS5
    (repeat (first | (refine Cop.og_skip rfl rfl HSa _ (by (simp only [Act.put, List.setIfInBounds_toArray, List.set_cons_succ, List.set_cons_zero]; rfl)) ?_) | (refine Cop.og_take rfl rfl HSa ?_; apply Exists.intro; refine ⟨fun w9 h9 => ?_, _, by (simp only [Act.put, List.setIfInBounds_toArray, List.set_cons_succ, List.set_cons_zero]; rfl), ?_⟩; (have c0 := (turn_cells (h9.row 2 rfl)).1; have c1 := (turn_cells (h9.row 2 rfl)).2; have e1 := HJ.out; have e2 := HCX.out w9 (h9.own 1 rfl); have e3 := hBX.out; go_simp; with_reducible rfl))))
    refine Cop.og_run rfl rfl ?_
    refine ow_stg1 HSa 1 rfl 5 _ _ rfl (k * 32 + j) (cs := #[.int .u8 ((x ^^^ b).toNat : Int)]) (y := .int .u8 ((x ^^^ b).toNat : Int)) rfl (by kernel_rfl) (by show k * 32 + j + 1 ≤ M * 32; omega) (by omega) rfl rfl (by simp [Value.oneCell']) ?_
    intro w21 HSr
    have HSr : Sep w.heap.size w w21 [.row g10 (bv d) 26, .own (.slice (some ⟨gp, 0, none⟩) M c2) 26 32 M (dcs QQ), .row g5 #[.int .i64 place, .int .u8 (b.toNat : Int)] 70, .rd (.slice (some ⟨b0, o0, none⟩) l.length c) l.length 32 (dcs l)] := by
      rw [← HSET.out]; exact HSr
    refine ⟨fun h => absurd rfl h, ?_⟩
    refine og_fin ?_
    clear HSa
    go_wp2_with fail
    (with_reducible refine Calls.mono (C25.out w21) ?_)
    rintro e w22 ⟨rfl, b22⟩
    have HSs := HSr.keep b22
    clear HSr
    go_wp2_with (first | refine wl_ld HSs 0 rfl rfl 26 _ rfl rfl Tryd.underlying26 rfl (dgS hdl) ?_)
    (with_reducible refine Calls.mono (VR.out w22 _ HSs.hb (HSs.own 1 rfl).rd) ?_)
    rintro e w23 ⟨rfl, b23⟩
    have HSt := HSs.keep b23
    clear HSs
    go_wp2_with (first | refine wl_al HSt rfl 26 rfl (bv (List.replicate 32 0)) (by kernel_rfl) ?_)
    intro g14 w24 HSu
    go_wp2_with (first | refine wl_st HSu 0 rfl rfl 26 _ _ rfl rfl rfl (dgS hX) (dgE rfl hX) (bv_one _) ?_)
    intro w25 HSv
    clear HSt HSu
    go_wp2
    by_cases hxr : X = RR
    · have CX := Lib.hid (CC.out hxr)
      rw [decide_eq_true hxr] at HQ
      clear hxr
      refine Cop.region_ord (fun w' => Sep w.heap.size w w' [.row g14 (bv X) 26, .row g10 (bv d) 26, .own (.slice (some ⟨gp, 0, none⟩) M c2) 26 32 M (dcs QQ), .row g5 #[.int .i64 place, .int .u8 (b.toNat : Int)] 70, .rd (.slice (some ⟨b0, o0, none⟩) l.length c) l.length 32 (dcs l)]) 15 (.take 0 (.take 1 (.take 2 (.take 3 (.take 4 (.run 5 (.take 6 (.take 7 (.take 8 (.take 9 (.take 10 (.take 11 (.run 12 (.take 13 (.take 14 (.take 15 Cop.Ord.fin)))))))))))))))) (by kernel_rfl) (by kernel_rfl) (fun _ _ d _ _ h => by cases d <;> exact h) ?_
      intro w26 hd26
      have HSw := HSv.keep hd26
      clear HSv
      (repeat (first | (refine Cop.og_skip rfl rfl HSw _ (by (simp only [Act.put, List.setIfInBounds_toArray, List.set_cons_succ, List.set_cons_zero]; rfl)) ?_) | (refine Cop.og_ld rfl rfl HSw 26 _ rfl (.pointer (some ⟨g14, 0, none⟩)) rfl _ (fun w9 h9 => load_row (h9.row 0 rfl) 26 Tryd.underlying26 rfl (dgS hX)) _ (by (simp only [Act.put, List.setIfInBounds_toArray, List.set_cons_succ, List.set_cons_zero]; rfl)) ?_) | (refine Cop.og_ld rfl rfl HSw 26 _ rfl (.pointer (some ⟨g10, 0, none⟩)) rfl _ (fun w9 h9 => load_row (h9.row 1 rfl) 26 Tryd.underlying26 rfl (dgS hdl)) _ (by (simp only [Act.put, List.setIfInBounds_toArray, List.set_cons_succ, List.set_cons_zero]; rfl)) ?_) | (refine Cop.og_take rfl rfl HSw ?_; apply Exists.intro; refine ⟨fun w9 h9 => ?_, _, by (simp only [Act.put, List.setIfInBounds_toArray, List.set_cons_succ, List.set_cons_zero]; rfl), ?_⟩; (go_simp; with_reducible rfl))))
      refine Cop.og_run rfl rfl ?_
      refine ow_call 15 _ _ (fun w' => Below w26.heap.size w26 w') (by go_simp) (RA.out w26 _ HSw.hb (HSw.rd 4 rfl)) ?_
      intro w27 b27
      have HSx := HSw.keep b27
      refine ⟨fun _ => HSx, ?_⟩
      (repeat (first | (refine Cop.og_skip rfl rfl HSx _ (by (simp only [Act.put, List.setIfInBounds_toArray, List.set_cons_succ, List.set_cons_zero]; rfl)) ?_) | (refine Cop.og_ld rfl rfl HSx 26 _ rfl (.pointer (some ⟨g14, 0, none⟩)) rfl _ (fun w9 h9 => load_row (h9.row 0 rfl) 26 Tryd.underlying26 rfl (dgS hX)) _ (by (simp only [Act.put, List.setIfInBounds_toArray, List.set_cons_succ, List.set_cons_zero]; rfl)) ?_) | (refine Cop.og_ld rfl rfl HSx 26 _ rfl (.pointer (some ⟨g10, 0, none⟩)) rfl _ (fun w9 h9 => load_row (h9.row 1 rfl) 26 Tryd.underlying26 rfl (dgS hdl)) _ (by (simp only [Act.put, List.setIfInBounds_toArray, List.set_cons_succ, List.set_cons_zero]; rfl)) ?_) | (refine Cop.og_take rfl rfl HSx ?_; apply Exists.intro; refine ⟨fun w9 h9 => ?_, _, by (simp only [Act.put, List.setIfInBounds_toArray, List.set_cons_succ, List.set_cons_zero]; rfl), ?_⟩; (have q := HQ.out w9; go_simp; with_reducible rfl))))
      refine Cop.og_run rfl rfl ?_
      refine ow_call 47 _ _ (fun w' => Below w27.heap.size w27 w') (by go_simp) (CX.out w27 _ _ HSx.hb (HSx.rd 4 rfl) (HSx.own 2 rfl).rd) ?_
      intro w28 b28
      have HSy := HSx.keep b28
      refine ⟨fun _ => HSy, ?_⟩
      (repeat (first | (refine Cop.og_skip rfl rfl HSy _ (by (simp only [Act.put, List.setIfInBounds_toArray, List.set_cons_succ, List.set_cons_zero]; rfl)) ?_) | (refine Cop.og_take rfl rfl HSy ?_; apply Exists.intro; refine ⟨fun w9 h9 => ?_, _, by (simp only [Act.put, List.setIfInBounds_toArray, List.set_cons_succ, List.set_cons_zero]; rfl), ?_⟩; (go_simp; with_reducible rfl))))
      refine og_fin ?_
      go_wp2
      go_ret
      exact ⟨rfl, HSy.hb⟩
    · rw [decide_eq_false hxr] at HQ
      clear hxr
      refine Cop.region_ord (fun w' => Sep w.heap.size w w' [.row g14 (bv X) 26, .row g10 (bv d) 26, .own (.slice (some ⟨gp, 0, none⟩) M c2) 26 32 M (dcs QQ), .row g5 #[.int .i64 place, .int .u8 (b.toNat : Int)] 70, .rd (.slice (some ⟨b0, o0, none⟩) l.length c) l.length 32 (dcs l)]) 15 (.take 0 (.take 1 (.take 2 (.take 3 (.take 4 (.run 5 (.take 6 (.take 7 (.take 8 (.take 9 (.take 10 (.take 11 (.run 12 (.take 13 (.take 14 (.take 15 Cop.Ord.fin)))))))))))))))) (by kernel_rfl) (by kernel_rfl) (fun _ _ d _ _ h => by cases d <;> exact h) ?_
      intro w26 hd26
      have HSw := HSv.keep hd26
      clear HSv
      (repeat (first | (refine Cop.og_skip rfl rfl HSw _ (by (simp only [Act.put, List.setIfInBounds_toArray, List.set_cons_succ, List.set_cons_zero]; rfl)) ?_) | (refine Cop.og_ld rfl rfl HSw 26 _ rfl (.pointer (some ⟨g14, 0, none⟩)) rfl _ (fun w9 h9 => load_row (h9.row 0 rfl) 26 Tryd.underlying26 rfl (dgS hX)) _ (by (simp only [Act.put, List.setIfInBounds_toArray, List.set_cons_succ, List.set_cons_zero]; rfl)) ?_) | (refine Cop.og_ld rfl rfl HSw 26 _ rfl (.pointer (some ⟨g10, 0, none⟩)) rfl _ (fun w9 h9 => load_row (h9.row 1 rfl) 26 Tryd.underlying26 rfl (dgS hdl)) _ (by (simp only [Act.put, List.setIfInBounds_toArray, List.set_cons_succ, List.set_cons_zero]; rfl)) ?_) | (refine Cop.og_take rfl rfl HSw ?_; apply Exists.intro; refine ⟨fun w9 h9 => ?_, _, by (simp only [Act.put, List.setIfInBounds_toArray, List.set_cons_succ, List.set_cons_zero]; rfl), ?_⟩; (go_simp; with_reducible rfl))))
      refine Cop.og_run rfl rfl ?_
      refine ow_call 15 _ _ (fun w' => Below w26.heap.size w26 w') (by go_simp) (RA.out w26 _ HSw.hb (HSw.rd 4 rfl)) ?_
      intro w27 b27
      have HSx := HSw.keep b27
      refine ⟨fun _ => HSx, ?_⟩
      (repeat (first | (refine Cop.og_skip rfl rfl HSx _ (by (simp only [Act.put, List.setIfInBounds_toArray, List.set_cons_succ, List.set_cons_zero]; rfl)) ?_) | (refine Cop.og_ld rfl rfl HSx 26 _ rfl (.pointer (some ⟨g14, 0, none⟩)) rfl _ (fun w9 h9 => load_row (h9.row 0 rfl) 26 Tryd.underlying26 rfl (dgS hX)) _ (by (simp only [Act.put, List.setIfInBounds_toArray, List.set_cons_succ, List.set_cons_zero]; rfl)) ?_) | (refine Cop.og_ld rfl rfl HSx 26 _ rfl (.pointer (some ⟨g10, 0, none⟩)) rfl _ (fun w9 h9 => load_row (h9.row 1 rfl) 26 Tryd.underlying26 rfl (dgS hdl)) _ (by (simp only [Act.put, List.setIfInBounds_toArray, List.set_cons_succ, List.set_cons_zero]; rfl)) ?_) | (refine Cop.og_take rfl rfl HSx ?_; apply Exists.intro; refine ⟨fun w9 h9 => ?_, _, by (simp only [Act.put, List.setIfInBounds_toArray, List.set_cons_succ, List.set_cons_zero]; rfl), ?_⟩; (have q := HQ.out w9; go_simp; with_reducible rfl))))
      refine Cop.og_rskip rfl rfl HSx _ (by (simp only [Act.put, List.setIfInBounds_toArray, List.set_cons_succ, List.set_cons_zero]; rfl)) ?_
      (repeat (first | (refine Cop.og_skip rfl rfl HSx _ (by (simp only [Act.put, List.setIfInBounds_toArray, List.set_cons_succ, List.set_cons_zero]; rfl)) ?_) | (refine Cop.og_take rfl rfl HSx ?_; apply Exists.intro; refine ⟨fun w9 h9 => ?_, _, by (simp only [Act.put, List.setIfInBounds_toArray, List.set_cons_succ, List.set_cons_zero]; rfl), ?_⟩; (go_simp; with_reducible rfl))))
      refine og_fin ?_
      go_wp2
      go_ret
      exact ⟨rfl, HSx.hb⟩
set_option maxRecDepth 100000 in
theorem verifyTurned_holds : Rows.VerifyTurnedCardSaid := verifyTurned.card_of_walk fun H enc W base v0 v1 v2 d0 d1 d2 p0 p1 p2 h0 k0 h1 k1 h2 k2 hsz hL => by
  obtain ⟨l, hR, hl, hll⟩ := open_dslice Tryd.underlying22 Tryd.underlying26 Tryd.underlying5 (by kernel_rfl) (by kernel_rfl) (by kernel_rfl) h0 k0 hsz 0 rfl rfl
  obtain ⟨a, rfl, _, _, _⟩ := Go.ChangeShapes.open_int Tryd.underlying3 k1 h1
  obtain ⟨place, b, rfl⟩ := open_turn Tryd.underlying70 rfl rfl rfl rfl Tryd.underlying3 Tryd.underlying5 (by kernel_rfl) (by kernel_rfl) (by kernel_rfl) h2 k2
  rcases Nat.eq_zero_or_pos l.length with h0 | h0
  · have hl0 : l = [] := List.eq_nil_of_length_eq_zero h0
    subst hl0
    exact verifyTurned_none v0 a place _ W hR
  · by_cases hb : b = 0
    · subst hb
      exact verifyTurned_zero l v0 a place W hR (by omega) h0
    · exact verifyTurned_walk l v0 a place b W (table_of hL) hl (by omega) hR h0 hb
#print axioms verifyTurned_holds
end Go.Proofs.YtbdmehgbdnninaaDoor
