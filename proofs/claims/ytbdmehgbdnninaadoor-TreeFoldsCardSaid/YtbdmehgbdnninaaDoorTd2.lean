/- Proved here: from a leaf and its proof, digest by digest, comes the root, and the proof is short. The table of constants is tied to the program's text. No condition. -/
import Derived.Test.YtbdmehgbdnninaaDoorPb
import Derived.Test.YtbdmehgbdnninaaDoorFTreeFolds
namespace Go.Proofs.YtbdmehgbdnninaaDoor
open Go.RowKit Cop
set_option linter.unusedVariables false
set_option linter.unusedSimpArgs false
theorem fold32t (nd : List UInt8 → List UInt8 → List UInt8) (hnd : ∀ a b, (nd a b).length = 32) : ∀ (l : List (Bool × List UInt8)) (d : List UInt8), d.length = 32 → (l.foldl (fun d q => if q.1 then nd d q.2 else nd q.2 d) d).length = 32 := by
  intro l
  induction l with
  | nil => intro d hd; exact hd
  | cons q l ih =>
    intro d hd
    rw [List.foldl_cons]
    refine ih _ ?_
    split <;> exact hnd _ _
theorem climb_stepst (nd : List UInt8 → List UInt8 → List UInt8) (hnd : ∀ a b, (nd a b).length = 32) (leaf : List UInt8) (hlf : leaf.length = 32) (ts : List Bool) (p : List (List UInt8)) (h : ts.length = p.length) :
    ∃ D : Nat → List UInt8, D 0 = leaf ∧ D p.length = climb nd leaf ts p ∧ (∀ k, (D k).length = 32) ∧ (∀ k, k < p.length → ts.getD (p.length - 1 - k) false = true → D (k + 1) = nd (D k) (p.getD k [])) ∧ (∀ k, k < p.length → ts.getD (p.length - 1 - k) false = false → D (k + 1) = nd (p.getD k []) (D k)) := by
  have key : ∀ k, k < p.length → (ts.reverse.zip p).take (k + 1) = (ts.reverse.zip p).take k ++ [(ts.getD (p.length - 1 - k) false, p.getD k [])] := by
    intro k hk
    have h1 : k < (ts.reverse.zip p).length := by simp [List.length_zip]; omega
    rw [List.take_add_one, List.getElem?_eq_getElem h1, List.getElem_zip, List.getElem_reverse]
    simp [List.getD, hk, h, show p.length - 1 - k < p.length from by omega]
  refine ⟨fun k => ((ts.reverse.zip p).take k).foldl (fun d q => if q.1 then nd d q.2 else nd q.2 d) leaf, by simp, ?_, fun k => fold32t nd hnd _ _ hlf, fun k hk ht => ?_, fun k hk ht => ?_⟩
  · show ((ts.reverse.zip p).take p.length).foldl _ leaf = _
    rw [List.take_of_length_le (by rw [List.length_zip]; omega), ← climb_fold nd leaf ts p h]
  · show ((ts.reverse.zip p).take (k + 1)).foldl _ leaf = _
    rw [key k hk, List.foldl_append, ht]
    rfl
  · show ((ts.reverse.zip p).take (k + 1)).foldl _ leaf = _
    rw [key k hk, List.foldl_append, ht]
    rfl
/-- A way's cells. -/
theorem turn_cellt {w : World} {B : Nat} {g c m : Nat} {e : TypeId} {ts : List Bool} (h : Ow w B e 1 (.slice (some ⟨g, 0, none⟩) m c) m (ts.map Value.bool)) (k : Nat) (hk : k < ts.length) : w.cell? ⟨g, k, none⟩ = some (.bool (ts.getD k false)) := by
  refine own_cell h k ?_
  simp [List.getD, hk]
theorem bits_a (x : Nat) (w : World) (hx : x ≤ 4398046511104) : Calls Tryd.prog 44 #[.int .i64 x] w fun e w' => ∃ b : Nat, x < 2 ^ b ∧ b ≤ 43 ∧ e = .returned (.int .i64 b) ∧ w = w' := by
  have HX := Lib.hid hx
  clear hx
  go_enter Tryd.func44, Tryd.ntmps44
  go_wp2
  go_loopw [0, 3] (fun s0 s3 wr => ∃ (y c : Nat), s0 = .int .i64 y ∧ s3 = .int .i64 c ∧ Hid (x / 2 ^ c = y) ∧ c ≤ 43 ∧ y ≤ 4398046511104 ∧ w = wr) (fun s0 _ _ => (intOf s0).toNat)
  case atStart => exact ⟨x, 0, rfl, rfl, Lib.hid (by simp), by omega, HX.out, rfl⟩
  case round =>
    obtain ⟨y, c, rfl, rfl, HY, hc, hyb, rfl⟩ := hrel
    by_cases hy : y = 0
    · subst hy
      go_wp2
      go_ret
      refine ⟨c, ?_, hc, rfl, rfl⟩
      have := HY.out
      rcases Nat.div_eq_zero_iff.1 this with h | h
      · exact absurd h (Nat.pos_iff_ne_zero.1 (Nat.two_pow_pos c))
      · exact h
    · have hy0 : 0 < (y : Int) := by omega
      have hc2 : c ≤ 42 := by
        rcases Nat.lt_or_ge c 43 with h | h
        · omega
        · exfalso
          have hx2 := HX.out
          have h1 : x < 2 ^ 43 := by rw [show 2 ^ 43 = 8796093022208 from rfl]; omega
          have h4 : 2 ^ 43 ≤ 2 ^ c := Nat.pow_le_pow_right (by decide) h
          have h2 : x < 2 ^ c := Nat.lt_of_lt_of_le h1 h4
          have h3 := HY.out
          rw [Nat.div_eq_of_lt h2] at h3
          exact hy h3.symm
      go_wp2
      go_roundw
      case rel => exact ⟨y / 2, c + 1, by go_num, by go_num, Lib.hid (by rw [Nat.pow_succ, ← Nat.div_div_eq_div_mul, HY.out]), by omega, by omega, by first | rfl | trivial⟩
      case measure => simp [intOf]; omega
set_option maxRecDepth 100000 in
set_option maxHeartbeats 4000000 in
theorem treeFolds_none (v : Value) (i : Int) (w : World) (hR : Rd w v 0 32 (dcs [])) : Gives 10 #[v, .int .i64 i] w (.bool true) := by
  have HS0 := (Sep.start w).arg0 hR
  obtain ⟨A, c, rfl, hc, hcm⟩ := hR.shape
  clear hR
  go_enter Tryd.func10, Tryd.ntmps10
  go_wp2
  go_ret
  exact ⟨rfl, HS0.hb⟩
set_option maxRecDepth 100000 in
set_option maxHeartbeats 8000000 in
theorem treeFolds_walk (l : List (List UInt8)) (v : Value) (x : Int) (w : World) (hT : Tab w) (hl : AllD l) (hll : l.length ≤ 4398046511104) (hR : Rd w v l.length 32 (dcs l)) (h0 : 0 < l.length) : Gives 10 #[v, .int .i64 x] w (.bool true) := by
  have hm0 : 0 < (l.length : Int) := by omega
  have b1 : x.tmod l.length < l.length := Int.tmod_lt_of_pos x hm0
  have b2 : -(l.length : Int) < x.tmod l.length := by
    have := Int.tmod_lt_of_pos (-x) hm0
    rw [Int.neg_tmod] at this
    omega
  obtain ⟨a, ha⟩ : ∃ a, x.tmod l.length = a := ⟨_, rfl⟩
  rw [ha] at b1 b2
  obtain ⟨b, hb⟩ : ∃ b, a + l.length = b := ⟨_, rfl⟩
  have hb0 : 0 ≤ b := by omega
  have c1 : b.tmod l.length < l.length := Int.tmod_lt_of_pos b hm0
  have c2 : 0 ≤ b.tmod l.length := Int.tmod_nonneg _ hb0
  obtain ⟨i, hc⟩ : ∃ i : Nat, b.tmod l.length = (i : Int) := ⟨(b.tmod l.length).toNat, by omega⟩
  rw [hc] at c1 c2
  have hil : i < l.length := by omega
  have hmz : ¬ (l.length : Int) = 0 := by omega
  have hmz2 : ((l.length : Int) == 0) = false := by rw [beq_eq_false_iff_ne]; exact hmz
  have hmn : ¬ (l.length : Int) = -1 := by omega
  have hlb : (l.length : Int) ≤ 4398046511104 := by omega
  have hbb : b ≤ 8796093022208 := by omega
  obtain ⟨d, hd⟩ : ∃ d, l[i]? = some d := ⟨_, List.getElem?_eq_getElem hil⟩
  have hdl : d.length = 32 := hl d (List.mem_iff_getElem?.2 ⟨i, hd⟩)
  have hdg : l.getD i [] = d := by simp [List.getD, hd]
  have hlen := (tpath_length nodeD (sha []) l l.length rfl i).symm
  have hcl := climb_tpath nodeD (sha []) l.length l rfl i d hd
  have hpa := tpath_all _ l hl rfl i
  have hp64 := tpath_len64 l hll i
  have IA := Lib.hid (fun w' v hb hR => incl_ok l v i l.length w' (hT.below hb) hl hll hR hil (Nat.le_refl _))
  rw [List.take_length] at IA
  have hbit : ∀ b : Nat, l.length - 1 < 2 ^ b → (way i l.length).length ≤ b := fun b hb => way_len b l.length i (by omega)
  have CB := Lib.hid (show ∀ w', Calls Tryd.prog 44 #[.int .i64 ((l.length - 1 : Nat) : Int)] w' (fun e w2 => ∃ b : Nat, (way i l.length).length ≤ b ∧ b ≤ 43 ∧ e = .returned (.int .i64 b) ∧ w' = w2) from fun w' => (bits_a (l.length - 1) w' (by omega)).mono fun e w2 ⟨b, h1, h2, h3, h4⟩ => ⟨b, hbit b h1, h2, h3, h4⟩)
  rw [show ((l.length - 1 : Nat) : Int) = (l.length : Int) - 1 from by omega] at CB
  obtain ⟨D, hD0, hDL, hDl, hDt, hDf⟩ := climb_stepst nodeD nodeD_length d hdl (way i l.length) (tpath nodeD (sha []) l i) hlen
  rw [hcl] at hDL
  have RA := Lib.hid (fun w' v (hb : Below w.heap.size w w') hR => root_a l v w' (hT.below hb) hl hll hR)
  have CN := Lib.hid (fun w' x y (hb : Below w.heap.size w w') hx hy => node_a x y w' (hT.below hb) hx hy)
  have CS := Lib.hid (fun (m : Nat) (w : World) (h2 : 2 ≤ m) (hm : m ≤ 4398046511104) => split_hi (m : Int) w (by omega) (by omega))
  obtain ⟨P, hP⟩ : ∃ P, tpath nodeD (sha []) l i = P := ⟨_, rfl⟩
  rw [hP] at IA hlen hpa hp64 hDL hDt hDf
  obtain ⟨ts, hts⟩ : ∃ ts, way i l.length = ts := ⟨_, rfl⟩
  rw [hts] at hlen CB hDt hDf
  have HTS := Lib.hid hts
  have hts48 : ts.length ≤ 64 := by omega
  rw [hlen] at CB
  have HLE := Lib.hid hlen
  have HPA := Lib.hid hpa
  have HD0 := Lib.hid hD0
  have HDL := Lib.hid hDL
  have HDl := Lib.hid hDl
  have HDT := Lib.hid hDt
  have HDF := Lib.hid hDf
  have hrl := root_length l hl
  have HS0 := (Sep.start w).arg0 hR
  obtain ⟨A, c, rfl, _, _⟩ := hR.shape
  obtain ⟨b0, o0, rfl⟩ := rd_some hR h0
  have HLI := Lib.hid (fun (W' : World) (h : Rd W' (.slice (some ⟨b0, o0, none⟩) l.length c) l.length 32 (dcs l)) => load_dg h rfl hl i hil d hdg)
  clear hlen hpa hD0 hDL hDl hDt hDf hP hts hcl hd hdg hbit hR hl
  go_enter Tryd.func10, Tryd.ntmps10
  go_wp2_with fail
  (with_reducible refine Calls.mono (IA.out w _ HS0.hb (HS0.rd 0 rfl)) ?_)
  rintro e2 w2 ⟨x2, rfl, bb2, o2⟩
  have HS2 := HS0.made bb2 o2
  obtain ⟨A2, c2, rfl, _⟩ := (HS2.own 0 rfl).sl
  clear HS0 o2
  go_wp2_with fail
  (with_reducible refine Calls.mono (CB.out w2) ?_)
  rintro e3 w3 ⟨nb, hnb1, hnb2, rfl, rfl⟩
  have hnb : ¬ (nb : Int) < (P.length : Int) := by omega
  have hld := Lib.hid (HLI.out w2 (HS2.rd 1 rfl))
  go_wp2_with (first | refine wl_ldx rfl 26 _ rfl _ rfl (.agg (bv d)) hld.out ?_ | refine wl_al HS2 rfl 26 rfl (bv (List.replicate 32 0)) (by kernel_rfl) ?_)
  intro g7 w4 HS4
  go_wp2_with (first | refine wl_st HS4 0 rfl rfl 26 _ _ rfl rfl rfl (dgS hdl) (dgE rfl hdl) (bv_one _) ?_)
  intro w5 HS5
  clear HS2 HS4
  have HS6 := Sep.ownNil HS5 4 1
  clear HS5 hld
  go_wp2
  go_loopw [8, 9, 10] (fun s8 s9 s10 wr => ∃ (lo h : Nat) (dn : List Bool) (A : Option Addr) (c4 : Nat), s8 = .int .i64 lo ∧ s9 = .int .i64 h ∧ s10 = .slice A dn.length c4 ∧ lo ≤ i ∧ i < h ∧ h ≤ l.length ∧ Hid (dn ++ way (i - lo) (h - lo) = ts) ∧ Sep w.heap.size w wr [.own (.slice A (dn).length c4) 4 1 (dn).length ((dn).map Value.bool), .row g7 (bv d) 26, .own (.slice A2 P.length c2) 26 32 P.length (dcs P), .rd (.slice (some ⟨b0, o0, none⟩) l.length c) l.length 32 (dcs l)]) (fun s8 s9 _ _ => (intOf s9).toNat - (intOf s8).toNat)
  case atStart => exact ⟨0, l.length, [], none, 0, rfl, rfl, rfl, Nat.zero_le _, hil, Nat.le_refl _, Lib.hid (by simpa using HTS.out), HS6⟩
  case round =>
    clear HS6
    obtain ⟨lo, h, dn, A4, c4, rfl, rfl, rfl, hlo, hih, hhl, HW, HSi⟩ := hrel
    obtain ⟨m, hm⟩ : ∃ m, h - lo = m := ⟨_, rfl⟩
    have hmi : (h : Int) - (lo : Int) = (m : Int) := by omega
    have hm1 : 1 ≤ m := by omega
    rw [hm] at HW
    have hhb : (h : Int) ≤ 4398046511104 := by omega
    have hlob : (lo : Int) ≤ 4398046511104 := by omega
    by_cases hone : m = 1
    · subst hone
      have he : dn = ts := by have := HW.out; rwa [way_one (by omega), List.append_nil] at this
      subst he
      have hE : dn.length = P.length := HLE.out
      obtain ⟨M, hM⟩ : ∃ M, P.length = M := ⟨_, rfl⟩
      have HMM := Lib.hid hM
      rw [hE, hM] at HSi
      rw [hM] at HDT HDF HDL
      have hM64 : M ≤ 64 := by omega
      have HEM := Lib.hid (hE.trans hM)
      obtain ⟨ts, hts⟩ : ∃ t, dn = t := ⟨_, rfl⟩
      rw [hts] at HSi HDT HDF HEM
      rw [hE, hM]
      clear hE hM HLE HTS HW hts hts48
      go_wp2
      go_loopw [13] (fun s13 wr => ∃ k : Nat, k ≤ M ∧ s13 = .int .i64 k ∧ Sep w.heap.size w wr [.own (.slice A4 M c4) 4 1 M (ts.map Value.bool), .row g7 (bv (D k)) 26, .own (.slice A2 M c2) 26 32 M (dcs P), .rd (.slice (some ⟨b0, o0, none⟩) l.length c) l.length 32 (dcs l)]) (fun s13 _ => M - (intOf s13).toNat)
      case atStart => exact ⟨0, by omega, rfl, by rw [HD0.out]; exact HSi⟩
      case round =>
        clear HSi
        obtain ⟨k, hk, rfl, HSi⟩ := hrel
        by_cases hlt : k < M
        · have hlt' : (k : Int) < (M : Int) := by omega
          obtain ⟨y, hy⟩ : ∃ y, P.getD k [] = y := ⟨_, rfl⟩
          have hyl : y.length = 32 := by rw [← hy]; exact dg_len HPA.out k (by rw [HMM.out]; exact hlt)
          obtain ⟨gp, rfl⟩ := Ow.addr (HSi.own 2 rfl) (by omega)
          obtain ⟨gl, rfl⟩ := Ow.addr (HSi.own 0 rfl) (by omega)
          have HLD := Lib.hid (fun (W' : World) (h : Rd W' (.slice (some ⟨gp, 0, none⟩) M c2) M 32 (dcs P)) => load_dg h HMM.out.symm HPA.out k (by rw [HMM.out]; exact hlt) y hy)
          rw [Nat.zero_add] at HLD
          have hDT := HDT.out k hlt
          have hDF := HDF.out k hlt
          rw [hy] at hDT hDF
          obtain ⟨m, hm⟩ : ∃ m, M - 1 - k = m := ⟨_, rfl⟩
          have hmL : (M : Int) - 1 - (k : Int) = (m : Int) := by omega
          have hmlt : m < M := by omega
          rw [hm] at hDT hDF
          obtain ⟨t, ht⟩ : ∃ t, ts.getD m false = t := ⟨_, rfl⟩
          rw [ht] at hDT hDF
          have htc := turn_cellt (HSi.own 0 rfl) m (by rw [HEM.out]; exact hmlt)
          rw [ht] at htc
          have HDKL := Lib.hid (HDl.out k)
          have HDSL := Lib.hid (HDl.out (k + 1))
          obtain ⟨X, hX⟩ : ∃ X, D k = X := ⟨_, rfl⟩
          obtain ⟨Y, hY⟩ : ∃ Y, D (k + 1) = Y := ⟨_, rfl⟩
          rw [hX] at HSi HDKL hDT hDF
          rw [hY] at HDSL hDT hDF
          have HY := Lib.hid hY
          have HDT2 := Lib.hid hDT
          have HDF2 := Lib.hid hDF
          have hmi : (m : Int) < (M : Int) := by omega
          clear hy hDT hDF hm ht hX hY
          cases t with
          | true =>
            have e1 := HDT2.out rfl
            have HCN := Lib.hid (fun w' hb => CN.out w' X y hb HDKL.out hyl)
            rw [← e1] at HCN
            clear e1
            go_wp2
            refine Cop.region_ord (fun w' => Sep w.heap.size w w' [.own (.slice (some ⟨gl, 0, none⟩) M c4) 4 1 M (ts.map Value.bool), .row g7 (bv X) 26, .own (.slice (some ⟨gp, 0, none⟩) M c2) 26 32 M (dcs P), .rd (.slice (some ⟨b0, o0, none⟩) l.length c) l.length 32 (dcs l)]) 6 (.take 0 (.take 1 (.take 2 (.take 3 (.take 4 (.run 5 (.run 6 Cop.Ord.fin))))))) (by kernel_rfl) (by kernel_rfl) (fun _ _ d _ _ h => by cases d <;> exact h) ?_
            intro wa hda
            have HSa := HSi.keep hda
            clear HSi
            (repeat (first | (refine Cop.og_skip rfl rfl HSa _ (by (simp only [Act.put, List.setIfInBounds_toArray, List.set_cons_succ, List.set_cons_zero]; rfl)) ?_) | (refine Cop.og_ld rfl rfl HSa 26 _ rfl (.pointer (some ⟨g7, 0, none⟩)) rfl _ (fun w9 h9 => load_row (h9.row 1 rfl) 26 Tryd.underlying26 rfl (dgS HDKL.out)) _ (by (simp only [Act.put, List.setIfInBounds_toArray, List.set_cons_succ, List.set_cons_zero]; rfl)) ?_) | (refine Cop.og_ld rfl rfl HSa 26 _ rfl (.pointer (some ⟨gp, k * 32, none⟩)) rfl (.agg (bv y)) (fun w9 h9 => HLD.out w9 (h9.own 2 rfl).rd) _ (by (simp only [Act.put, List.setIfInBounds_toArray, List.set_cons_succ, List.set_cons_zero]; rfl)) ?_) | (refine Cop.og_take rfl rfl HSa ?_; apply Exists.intro; refine ⟨fun w9 h9 => ?_, _, by (simp only [Act.put, List.setIfInBounds_toArray, List.set_cons_succ, List.set_cons_zero]; rfl), ?_⟩; (go_simp; with_reducible rfl))))
            refine Cop.og_run rfl rfl ?_
            refine ow_call 23 _ _ (fun w' => Below wa.heap.size wa w') (by go_simp) (HCN.out wa HSa.hb) ?_
            intro wb bb
            have HSb := HSa.keep bb
            refine ⟨fun _ => HSb, ?_⟩
            (repeat (first | (refine Cop.og_skip rfl rfl HSb _ (by (simp only [Act.put, List.setIfInBounds_toArray, List.set_cons_succ, List.set_cons_zero]; rfl)) ?_) | (refine Cop.og_take rfl rfl HSb ?_; apply Exists.intro; refine ⟨fun w9 h9 => ?_, _, by (simp only [Act.put, List.setIfInBounds_toArray, List.set_cons_succ, List.set_cons_zero]; rfl), ?_⟩; (go_simp; with_reducible rfl))))
            refine Cop.og_run rfl rfl ?_
            refine ow_st HSb 1 rfl 26 _ _ rfl rfl rfl (dgS HDSL.out) (dgE HDKL.out HDSL.out) (bv_one _) ?_
            intro we HSe
            refine ⟨fun h => absurd rfl h, ?_⟩
            refine og_fin ?_
            go_wp2
            go_roundw
            case rel => exact ⟨k + 1, by omega, by go_num, by rw [HY.out]; exact HSe⟩
            case measure => simp [intOf]; omega
          | false =>
            have e1 := HDF2.out rfl
            have HCN := Lib.hid (fun w' hb => CN.out w' y X hb hyl HDKL.out)
            rw [← e1] at HCN
            clear e1
            go_wp2
            refine Cop.region_ord (fun w' => Sep w.heap.size w w' [.own (.slice (some ⟨gl, 0, none⟩) M c4) 4 1 M (ts.map Value.bool), .row g7 (bv X) 26, .own (.slice (some ⟨gp, 0, none⟩) M c2) 26 32 M (dcs P), .rd (.slice (some ⟨b0, o0, none⟩) l.length c) l.length 32 (dcs l)]) 6 (.take 0 (.take 1 (.take 2 (.take 3 (.take 4 (.run 5 (.run 6 Cop.Ord.fin))))))) (by kernel_rfl) (by kernel_rfl) (fun _ _ d _ _ h => by cases d <;> exact h) ?_
            intro wa hda
            have HSa := HSi.keep hda
            clear HSi
            (repeat (first | (refine Cop.og_skip rfl rfl HSa _ (by (simp only [Act.put, List.setIfInBounds_toArray, List.set_cons_succ, List.set_cons_zero]; rfl)) ?_) | (refine Cop.og_ld rfl rfl HSa 26 _ rfl (.pointer (some ⟨g7, 0, none⟩)) rfl _ (fun w9 h9 => load_row (h9.row 1 rfl) 26 Tryd.underlying26 rfl (dgS HDKL.out)) _ (by (simp only [Act.put, List.setIfInBounds_toArray, List.set_cons_succ, List.set_cons_zero]; rfl)) ?_) | (refine Cop.og_ld rfl rfl HSa 26 _ rfl (.pointer (some ⟨gp, k * 32, none⟩)) rfl (.agg (bv y)) (fun w9 h9 => HLD.out w9 (h9.own 2 rfl).rd) _ (by (simp only [Act.put, List.setIfInBounds_toArray, List.set_cons_succ, List.set_cons_zero]; rfl)) ?_) | (refine Cop.og_take rfl rfl HSa ?_; apply Exists.intro; refine ⟨fun w9 h9 => ?_, _, by (simp only [Act.put, List.setIfInBounds_toArray, List.set_cons_succ, List.set_cons_zero]; rfl), ?_⟩; (go_simp; with_reducible rfl))))
            refine Cop.og_run rfl rfl ?_
            refine ow_call 23 _ _ (fun w' => Below wa.heap.size wa w') (by go_simp) (HCN.out wa HSa.hb) ?_
            intro wb bb
            have HSb := HSa.keep bb
            refine ⟨fun _ => HSb, ?_⟩
            (repeat (first | (refine Cop.og_skip rfl rfl HSb _ (by (simp only [Act.put, List.setIfInBounds_toArray, List.set_cons_succ, List.set_cons_zero]; rfl)) ?_) | (refine Cop.og_take rfl rfl HSb ?_; apply Exists.intro; refine ⟨fun w9 h9 => ?_, _, by (simp only [Act.put, List.setIfInBounds_toArray, List.set_cons_succ, List.set_cons_zero]; rfl), ?_⟩; (go_simp; with_reducible rfl))))
            refine Cop.og_run rfl rfl ?_
            refine ow_st HSb 1 rfl 26 _ _ rfl rfl rfl (dgS HDSL.out) (dgE HDKL.out HDSL.out) (bv_one _) ?_
            intro we HSe
            refine ⟨fun h => absurd rfl h, ?_⟩
            refine og_fin ?_
            go_wp2
            go_roundw
            case rel => exact ⟨k + 1, by omega, by go_num, by rw [HY.out]; exact HSe⟩
            case measure => simp [intOf]; omega
        · have hkM : k = M := by omega
          subst hkM
          have hlt' : ¬ (k : Int) < (k : Int) := by omega
          have hDe := HDL.out
          rw [hDe] at HSi
          have hrl2 : (root nodeD (sha []) l).length = 32 := hrl
          obtain ⟨R, hRR⟩ : ∃ R, root nodeD (sha []) l = R := ⟨_, rfl⟩
          rw [hRR] at HSi hrl2 RA
          have HEQ := Lib.hid (fun w' : World => run_equal_bv (P := Tryd.prog) w' (d := 9998) Tryd.underlying26 Tryd.underlying5 (by kernel_rfl) R R hrl2 hrl2)
          clear hDe hRR
          go_wp2
          refine Cop.region_ord (fun w' => Sep w.heap.size w w' [.row g7 (bv R) 26, .rd (.slice (some ⟨b0, o0, none⟩) l.length c) l.length 32 (dcs l)]) 4 (.take 0 (.take 1 (.run 2 (.take 3 (.take 4 Cop.Ord.fin))))) (by kernel_rfl) (by kernel_rfl) (fun _ _ d _ _ h => by cases d <;> exact h) ?_
          intro wa hda
          have HSa := (HSi.keep hda).sub (R' := [.row g7 (bv R) 26, .rd (.slice (some ⟨b0, o0, none⟩) l.length c) l.length 32 (dcs l)]) (by repeat (first | exact List.nil_sublist _ | exact List.Sublist.refl _ | apply List.Sublist.cons_cons | apply List.Sublist.cons))
          clear HSi
          (repeat (first | (refine Cop.og_skip rfl rfl HSa _ (by (simp only [Act.put, List.setIfInBounds_toArray, List.set_cons_succ, List.set_cons_zero]; rfl)) ?_) | (refine Cop.og_ld rfl rfl HSa 26 _ rfl (.pointer (some ⟨g7, 0, none⟩)) rfl _ (fun w9 h9 => load_row (h9.row 0 rfl) 26 Tryd.underlying26 rfl (dgS hrl2)) _ (by (simp only [Act.put, List.setIfInBounds_toArray, List.set_cons_succ, List.set_cons_zero]; rfl)) ?_) | (refine Cop.og_take rfl rfl HSa ?_; apply Exists.intro; refine ⟨fun w9 h9 => ?_, _, by (simp only [Act.put, List.setIfInBounds_toArray, List.set_cons_succ, List.set_cons_zero]; rfl), ?_⟩; (go_simp; with_reducible rfl))))
          refine Cop.og_run rfl rfl ?_
          refine ow_call 15 _ _ (fun w' => Below wa.heap.size wa w') (by go_simp) (RA.out wa _ HSa.hb (HSa.rd 1 rfl)) ?_
          intro wb bb
          have HSb := HSa.keep bb
          refine ⟨fun _ => HSb, ?_⟩
          (repeat (first | (refine Cop.og_skip rfl rfl HSb _ (by (simp only [Act.put, List.setIfInBounds_toArray, List.set_cons_succ, List.set_cons_zero]; rfl)) ?_) | (refine Cop.og_take rfl rfl HSb ?_; apply Exists.intro; refine ⟨fun w9 h9 => ?_, _, by (simp only [Act.put, List.setIfInBounds_toArray, List.set_cons_succ, List.set_cons_zero]; rfl), ?_⟩; (have q := HEQ.out w9; go_simp; with_reducible rfl))))
          refine og_fin ?_
          go_wp2
          go_ret
          exact ⟨rfl, HSb.hb⟩
    · have h2 : 2 ≤ m := by omega
      have hk := CS.out m wr h2 (by omega)
      rw [Int.toNat_natCast] at hk
      have k1 := hf_pos m
      have k2 := hf_lt h2
      have hlt := way_lt (i := i - lo) h2
      have hge := way_ge (i := i - lo) h2
      obtain ⟨k, hkk⟩ : ∃ k, hf m = k := ⟨_, rfl⟩
      rw [hkk] at hk k1 k2 hlt hge
      have CK := Lib.hid hk
      have Hlt := Lib.hid hlt
      have Hge := Lib.hid hge
      have hk1 : ¬ (k : Int) < 1 := by omega
      have hkb : (k : Int) ≤ 4398046511104 := by omega
      have hdn : dn.length + 1 ≤ 65 := by have := congrArg List.length HW.out; simp only [List.length_append] at this; omega
      have hmgt : (1 : Int) < (m : Int) := by omega
      clear hkk hlt hge hone hk
      by_cases hak : i < lo + k
      · have haki : (i : Int) < (lo : Int) + (k : Int) := by omega
        go_wp2_with fail
        (with_reducible refine Calls.mono (CK.out) ?_)
        rintro e wx ⟨rfl, rfl⟩
        go_wp2_with (refine wl_bs1 HSi rfl 67 4 1 _ rfl (.bool true) (by go_simp) [.bool true] (.bool false) Tryd.underlying67 (by kernel_rfl) (by decide) (by decide) (by kernel_rfl) rfl ?_)
        intro g8 w8 HS8
        clear HSi
        go_wp2_with (refine wl_apn HS8 1 rfl _ _ 67 (.bool false) 1 rfl rfl Tryd.underlying67 (by kernel_rfl) rfl (by decide) (by decide) (HS8.own 0 rfl).rd (by simp [Value.oneCell']) rfl rfl (dn.length + 1) ((dn ++ [true]).map Value.bool) rfl (by simp) (by omega) ?_)
        intro v9 w9 HS9 _
        obtain ⟨A9, c9, rfl, _⟩ := (HS9.own 1 rfl).sl
        have HSk := HS9.tail
        clear HS8 HS9
        go_wp2
        go_roundw
        case rel => exact ⟨lo, lo + k, dn ++ [true], A9, c9, rfl, by go_num, by rw [List.length_append]; rfl, hlo, hak, by omega, Lib.hid (by rw [← HW.out, Hlt.out (by omega), show lo + k - lo = k from by omega]; simp), by simpa using HSk⟩
        case measure => simp [intOf]; omega
      · have haki : ¬ (i : Int) < (lo : Int) + (k : Int) := by omega
        go_wp2_with fail
        (with_reducible refine Calls.mono (CK.out) ?_)
        rintro e wx ⟨rfl, rfl⟩
        go_wp2_with (refine wl_bs1 HSi rfl 67 4 1 _ rfl (.bool false) (by go_simp) [.bool false] (.bool false) Tryd.underlying67 (by kernel_rfl) (by decide) (by decide) (by kernel_rfl) rfl ?_)
        intro g8 w8 HS8
        clear HSi
        go_wp2_with (refine wl_apn HS8 1 rfl _ _ 67 (.bool false) 1 rfl rfl Tryd.underlying67 (by kernel_rfl) rfl (by decide) (by decide) (HS8.own 0 rfl).rd (by simp [Value.oneCell']) rfl rfl (dn.length + 1) ((dn ++ [false]).map Value.bool) rfl (by simp) (by omega) ?_)
        intro v9 w9 HS9 _
        obtain ⟨A9, c9, rfl, _⟩ := (HS9.own 1 rfl).sl
        have HSk := HS9.tail
        clear HS8 HS9
        go_wp2
        go_roundw
        case rel => exact ⟨lo + k, h, dn ++ [false], A9, c9, by go_num, rfl, by rw [List.length_append]; rfl, by omega, hih, hhl, Lib.hid (by rw [← HW.out, Hge.out (by omega), show i - (lo + k) = i - lo - k from by omega, show h - (lo + k) = m - k from by omega]; simp), by simpa using HSk⟩
        case measure => simp [intOf]; omega
set_option maxRecDepth 100000 in
theorem treeFolds_holds : Rows.TreeFoldsCardSaid := treeFolds.card_of_walk fun H enc W base v0 v1 d0 d1 p0 p1 h0 k0 h1 k1 hsz hL => by
  obtain ⟨l, hR, hl, hll⟩ := open_dslice Tryd.underlying22 Tryd.underlying26 Tryd.underlying5 (by kernel_rfl) (by kernel_rfl) (by kernel_rfl) h0 k0 hsz 0 rfl rfl
  obtain ⟨x, rfl, _, _, _⟩ := Go.ChangeShapes.open_int Tryd.underlying3 k1 h1
  rcases Nat.eq_zero_or_pos l.length with h0 | h0
  · have hl0 : l = [] := List.eq_nil_of_length_eq_zero h0
    subst hl0
    exact treeFolds_none v0 x W hR
  · exact treeFolds_walk l v0 x W (table_of hL) hl (by omega) hR h0
#print axioms treeFolds_holds
end Go.Proofs.YtbdmehgbdnninaaDoor
