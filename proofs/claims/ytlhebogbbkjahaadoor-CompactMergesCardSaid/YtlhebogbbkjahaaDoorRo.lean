/- tree.Root: the root by peaks is the document's. -/
import Derived.Test.YtlhebogbbkjahaaDoorRp
import Derived.Test.YtlhebogbbkjahaaDoorBw
namespace Go.Proofs.YtlhebogbbkjahaaDoor
open Go.RowKit Go.Shelf Cop
set_option linter.unusedVariables false
set_option linter.unusedSimpArgs false
def lenOf : Value → Nat
  | .slice _ n _ => n
  | _ => 0
set_option maxRecDepth 100000 in
set_option maxHeartbeats 4000000 in
theorem root_gen (nd : List UInt8 → List UInt8 → List UInt8) (em r : List UInt8) (l : List (List UInt8)) (PKs : Nat → List (Nat × List UInt8)) (v : Value) (w : World) (hnd : ∀ a b, (nd a b).length = 32) (hem : em.length = 32) (hl : AllD l) (hll : l.length ≤ 4398046511104) (hR : Rd w v l.length 32 (dcs l))
    (hP0 : PKs 0 = []) (hPs : ∀ k, k < l.length → PKs (k + 1) = pushPk nd (PKs k) (1, l.getD k [])) (hPl : ∀ k, k ≤ l.length → (PKs k).length ≤ 64) (hPw : ∀ k, k ≤ l.length → wt (PKs k) = k) (hPa : ∀ k, k ≤ l.length → AllP (PKs k)) (hPp : ∀ k, 0 < k → k ≤ l.length → 0 < (PKs k).length)
    (hr0 : l = [] → r = em) (hr : ∀ p s, PKs l.length = p :: s → s.foldl (fun acc q => nd q.2 acc) p.2 = r)
    (hCE : ∀ w', Below w.heap.size w w' → Gives 40 #[] w' (.agg (bv em)))
    (hCN : ∀ w' a b, Below w.heap.size w w' → a.length = 32 → b.length = 32 → Gives 42 #[.agg (bv a), .agg (bv b)] w' (.agg (bv (nd a b)))) :
    Gives 13 #[v] w (.agg (bv r)) := by
  have CE := Lib.hid hCE
  have CN := Lib.hid hCN
  have HND := Lib.hid hnd
  have HEM := Lib.hid hem
  have HL := Lib.hid hl
  have P0 := Lib.hid hP0
  have PS := Lib.hid hPs
  have PL := Lib.hid hPl
  have PW := Lib.hid hPw
  have PA := Lib.hid hPa
  have PP := Lib.hid hPp
  have R0 := Lib.hid hr0
  have RR := Lib.hid hr
  have HR0 := Lib.hid hR
  have HS0 := (Sep.start w).arg0 hR
  obtain ⟨A0, c0, rfl, hc0, hcm0⟩ := hR.shape
  clear hCE hCN hnd hem hl hP0 hPs hPl hPw hPa hPp hr0 hr hR
  refine calls_marks Tryd.func13 rfl ?_
  simp only [Tryd.ntmps13, List.size_toArray, List.length_cons, List.length_nil, Nat.reduceAdd, Nat.reduceSub, Array.replicate_succ, Array.replicate_zero, List.push_toArray, List.append_toArray, List.nil_append, List.cons_append]
  go_wp2_with (first | refine wl_al HS0 rfl 33 rfl (bv (List.replicate 32 0)) (by kernel_rfl) ?_)
  intro g2 w1 HS1
  clear HS0
  rcases Nat.eq_zero_or_pos l.length with h0 | h0
  · have hl0 : l = [] := List.eq_nil_of_length_eq_zero h0
    have hre := R0.out hl0
    subst hre
    have h0' : (l.length : Int) = 0 := by omega
    clear h0 hl0
    go_wp2_with fail
    (with_reducible refine Calls.mono (CE.out w1 HS1.hb) ?_)
    rintro e w2 ⟨rfl, b2⟩
    have HS2 := HS1.keep b2
    clear HS1
    go_wp2_with (first | refine wl_st HS2 0 rfl rfl 33 _ _ rfl rfl rfl (dgS HEM.out) (dgE rfl HEM.out) (bv_one _) ?_)
    intro w3 HS3
    go_wp2_with fail
    exact ret_rowM rfl rfl g2 rfl 33 (bv r) (0, 0) _ (HS3.row 0 rfl) Tryd.underlying33 rfl (dgS HEM.out) ⟨rfl, HS3.hb⟩
  have h0' : ¬ (l.length : Int) = 0 := by omega
  have h0b : ((l.length : Int) == 0) = false := by rw [beq_eq_false_iff_ne]; exact h0'
  obtain ⟨b0, o0, rfl, hcell0⟩ : ∃ b o, A0 = some ⟨b, o, none⟩ ∧ True := by
    obtain ⟨_, A, c, he, _, _, _, h⟩ := HR0.out
    obtain ⟨b, o, h1, _⟩ := h h0
    injection he with he _ _
    exact ⟨b, o, he.trans h1, trivial⟩
  have HSn := Sep.ownNil HS1 108 33
  clear HS1 HR0 hcell0
  go_wp2
  go_loopw [3, 16] (fun s3 s16 wr => ∃ (k : Nat) (A : Option Addr) (c : Nat), k ≤ l.length ∧ s16 = .int .i64 k ∧ s3 = .slice A (PKs k).length c ∧ Sep w.heap.size w wr [.own (.slice A (PKs k).length c) 108 33 (PKs k).length (pcs (PKs k)), .row g2 (bv (List.replicate 32 0)) 33, .rd (.slice (some ⟨b0, o0, none⟩) l.length c0) l.length 32 (dcs l)]) (fun _ s16 _ => l.length - (intOf s16).toNat)
  case atStart => exact ⟨0, none, 0, by omega, rfl, by rw [P0.out]; rfl, by rw [P0.out]; exact HSn⟩
  case round =>
    clear HSn
    obtain ⟨k, A, c, hk, rfl, rfl, HSi⟩ := hrel
    by_cases hlt : k < l.length
    · have hlt' : (k : Int) < (l.length : Int) := by omega
      obtain ⟨d, hdd⟩ : ∃ d, l.getD k [] = d := ⟨_, rfl⟩
      have hd : d.length = 32 := by
        rw [← hdd]
        refine HL.out _ ?_
        simp only [List.getD, List.getElem?_eq_getElem hlt, Option.getD_some]
        exact List.getElem_mem hlt
      have HLD := Lib.hid (show (Instr.loadAt 33 (.pointer (some ⟨b0, o0 + k * 32, none⟩))).run Tryd.prog wr = .ok (.agg (bv d)) wr from
        load_cells (bv d) (fun j u hu => by
          have hj : j < 32 := by have := (Array.getElem?_eq_some_iff.1 hu).1; rw [bv_size, hd] at this; exact this
          have := rd_cell (HSi.rd 2 rfl) (by omega) (k * 32 + j) (v := u) (by
            rw [dcs_at HL.out k hlt j hj, hdd]
            rw [← bv_toList]
            simpa using hu)
          rwa [← Nat.add_assoc] at this) 33 Tryd.underlying33 rfl (dgS hd))
      have HB1 := Lib.hid (show ∀ W, (Instr.build 108 #[(0, .int .i64 1), (1, .agg (bv d))]).run Tryd.prog W = .ok (.agg (ptv 1 d)) W from fun W => run_part 1 hd W)
      have hpu := PS.out k hlt
      rw [hdd] at hpu
      have HPU := Lib.hid hpu
      have hs0 := PL.out k hk
      clear hdd hpu
      go_wp2_with (first | refine wl_ldx rfl 33 _ rfl _ rfl (.agg (bv d)) HLD.out ?_ | refine wl_al HSi rfl 33 rfl (bv (List.replicate 32 0)) (by kernel_rfl) ?_)
      intro g5 w5 HS5
      go_wp2_with (first | refine wl_st HS5 0 rfl rfl 33 _ _ rfl rfl rfl (dgS hd) (dgE rfl hd) (bv_one _) ?_)
      intro w6 HS6
      go_wp2_with (first | refine wl_ld HS6 0 rfl rfl 33 _ rfl rfl Tryd.underlying33 rfl (dgS hd) ?_ | refine wl_bd rfl 108 _ rfl #[(0, .int .i64 1), (1, .agg (bv d))] (by kernel_rfl) (.agg (ptv 1 d)) (HB1.out _) ?_ | refine wl_al HS6 rfl 108 rfl (ptv 0 (List.replicate 32 0)) (by kernel_rfl) ?_)
      intro g6 w7 HS7
      go_wp2_with (first | refine wl_st HS7 0 rfl rfl 108 _ _ rfl rfl rfl (ptS hd) (ptE rfl hd) (ptv_one _ _) ?_)
      intro w8 HS8
      clear HSi HS5 HS6 HS7 HLD
      go_wp2
      go_loopw [3] (fun s3 wr2 => ∃ (s : List (Nat × List UInt8)) (p : Nat × List UInt8) (A : Option Addr) (c : Nat), s3 = .slice A s.length c ∧ pushPk nd s p = PKs (k + 1) ∧ AllP (p :: s) ∧ wt s + p.1 = k + 1 ∧ s.length ≤ 64 ∧ Sep w.heap.size w wr2 [.row g6 (ptv p.1 p.2) 108, .row g5 (bv d) 33, .own (.slice A s.length c) 108 33 s.length (pcs s), .row g2 (bv (List.replicate 32 0)) 33, .rd (.slice (some ⟨b0, o0, none⟩) l.length c0) l.length 32 (dcs l)]) (fun s3 _ => lenOf s3)
      case atStart => exact ⟨PKs k, (1, d), A, c, rfl, HPU.out.symm, (by intro x hx; rcases List.mem_cons.1 hx with rfl | hx; exact hd; exact PA.out k hk x hx), by rw [PW.out k hk], hs0, HS8⟩
      case round =>
        clear HS8
        obtain ⟨s, p, A2, c2, rfl, hpush, hall, hwt, hsl, HSj⟩ := hrel
        obtain ⟨pn, pd⟩ := p
        have HA : True := trivial
        cases s with
        | nil =>
          go_wp2
          refine Cop.region_ord (fun w' => True) 14 (.take 0 (.take 1 (.take 2 (.take 3 (.take 4 (.take 5 (.take 6 (.take 7 (.take 8 (.take 9 (.take 10 (.take 11 (.take 12 (.take 13 (.take 14 Cop.Ord.fin))))))))))))))) (by kernel_rfl) (by kernel_rfl) (fun _ _ d _ _ h => by cases d <;> exact h) ?_
          intro wa hda
          replace HSj := HSj.keep hda
          (repeat (first | (refine Cop.og_skip rfl rfl HA _ (by (simp only [Act.put, List.setIfInBounds_toArray, List.set_cons_succ, List.set_cons_zero]; rfl)) ?_) | (refine Cop.og_take rfl rfl HA ?_; apply Exists.intro; refine ⟨fun w9 h9 => ?_, _, by (simp only [Act.put, List.setIfInBounds_toArray, List.set_cons_succ, List.set_cons_zero]; rfl), ?_⟩; (go_simp; with_reducible rfl))))
          refine og_fin ?_
          have hp2 : pd.length = 32 := hall.head
          have HT := Lib.hid (show (pn, pd) :: [] = PKs (k + 1) from by rw [← hpush]; rfl)
          clear hpush hall hwt
          go_wp2_with (first | refine wl_ld HSj 0 rfl rfl 108 _ rfl rfl Tryd.underlying108 rfl (ptS hp2) ?_ | refine wl_bs1 HSj rfl 106 108 33 _ rfl (.agg (ptv pn pd)) rfl (ptv pn pd).toList (.agg (ptv 0 (List.replicate 32 0))) Tryd.underlying106 (by kernel_rfl) (by decide) (by decide) (fill_part pn hp2) (by rw [Array.length_toList, ptv_size hp2]) ?_)
          intro gb wb HSb
          go_wp2_with (refine wl_apn HSb 3 rfl _ _ 106 (.agg (ptv 0 (List.replicate 32 0))) 40 rfl rfl Tryd.underlying106 (by kernel_rfl) rfl (by decide) (by decide) (HSb.own 0 rfl).rd (fun c hc => (Array.all_eq_true_iff_forall_mem.1 (ptv_one pn pd)) c (by simpa using hc)) rfl rfl (PKs (k + 1)).length (pcs (PKs (k + 1))) (by rw [← HT.out]; rfl) (by rw [← HT.out]; rfl) (by have := PL.out (k + 1) (by omega); omega) ?_)
          intro v9 wc HSc hgr
          obtain ⟨A9, c9, rfl, _⟩ := (HSc.own 3 rfl).sl
          clear HSb HSj
          go_wp2
          go_roundw
          case rel => exact ⟨k + 1, A9, c9, by omega, by go_num, rfl, HSc.sub (by repeat (first | exact List.nil_sublist _ | exact List.Sublist.refl _ | apply List.Sublist.cons_cons | apply List.Sublist.cons))⟩
          case measure => simp [intOf]; omega
        | cons q s =>
          obtain ⟨qn, qd⟩ := q
          obtain ⟨m, hm⟩ : ∃ m, s.length = m := ⟨_, rfl⟩
          obtain ⟨g, rfl⟩ := Ow.addr (HSj.own 2 rfl) (by simp)
          have hqd : qd.length = 32 := hall.tail.head
          have hpd : pd.length = 32 := hall.head
          have hcap : m + 1 ≤ c2 := by
            obtain ⟨A9, c9, h1, h2⟩ := (HSj.own 2 rfl).sl
            injection h1 with _ _ h3
            rw [h3, ← hm]; exact h2
          have htop := Lib.hid (fun j => pcs_top hall.tail j)
          rw [show ((qn, qd) :: s).length = m + 1 by rw [List.length_cons, hm]] at HSj hsl ⊢
          rw [hm] at htop
          have HM := Lib.hid hm
          have HALL := Lib.hid hall
          have HWT := Lib.hid hwt
          have HW1 := Lib.hid (show IntKind.i64.wrap ((m : Int) + 1 - 1) = (m : Int) by rw [IntKind.wrap_i64]; omega)
          have HW2 := Lib.hid (show IntKind.i64.wrap (m : Int) = (m : Int) by rw [IntKind.wrap_i64]; omega)
          have hm0 : (0 : Int) < (m : Int) + 1 := by omega
          have hm1 : (m : Int) < (m : Int) + 1 := by omega
          clear hall hwt hm
          by_cases hq : qn = pn
          · subst hq
            obtain ⟨D, hD⟩ : ∃ D, nd qd pd = D := ⟨_, rfl⟩
            have hDl : D.length = 32 := by rw [← hD]; exact HND.out _ _
            have HCN := Lib.hid (fun w' hb => CN.out w' qd pd hb hqd hpd)
            rw [hD] at HCN
            have HPU2 := Lib.hid (show pushPk nd s (2 * qn, D) = PKs (k + 1) by
              rw [← hpush, ← hD]
              conv => rhs; unfold pushPk
              rw [if_pos rfl])
            have hw2 := HWT.out
            simp only [wt] at hw2
            have HWS := Lib.hid (show wt s + 2 * qn = k + 1 by omega)
            have HW3 := Lib.hid (show IntKind.i64.wrap (2 * (qn : Int)) = 2 * (qn : Int) by rw [IntKind.wrap_i64]; omega)
            have HB2 := Lib.hid (show ∀ W, (Instr.build 108 #[(0, .int .i64 (2 * (qn : Int))), (1, .agg (bv D))]).run Tryd.prog W = .ok (.agg (ptv (2 * qn) D)) W from fun W => by
              have := run_part (2 * qn) hDl W
              rwa [show ((2 * qn : Nat) : Int) = 2 * (qn : Int) from by omega] at this)
            have htd := Lib.hid (show ∀ j u, (bv qd)[j]? = some u → (pcs ((qn, qd) :: s))[m * 33 + 1 + j]? = some u from fun j u hu => by
              rw [Nat.add_assoc, htop.out, ptv_mid]; exact hu)
            have HALS := Lib.hid (show AllP ((2 * qn, D) :: s) from fun x hx => by
              rcases List.mem_cons.1 hx with rfl | hx
              · exact hDl
              · exact HALL.out.tail.tail x hx)
            have HPL2 := Lib.hid (show (pcs s).length = m * 33 by rw [pcs_length HALL.out.tail.tail, HM.out])
            clear hD hpush hw2
            go_wp2
            refine Cop.region_ord (fun w' => Sep w.heap.size w w' [.row g6 (ptv qn pd) 108, .own (.slice (some ⟨g, 0, none⟩) (m + 1) c2) 108 33 (m + 1) (pcs ((qn, qd) :: s))]) 14 (.take 0 (.take 1 (.take 2 (.take 3 (.take 4 (.take 5 (.take 6 (.take 7 (.take 8 (.take 9 (.take 10 (.take 11 (.take 12 (.take 13 (.take 14 Cop.Ord.fin))))))))))))))) (by kernel_rfl) (by kernel_rfl) (fun _ _ d _ _ h => by cases d <;> exact h) ?_
            intro wa hda
            replace HSj := HSj.keep hda
            have HTa : Sep w.heap.size w wa [.row g6 (ptv qn pd) 108, .own (.slice (some ⟨g, 0, none⟩) (m + 1) c2) 108 33 (m + 1) (pcs ((qn, qd) :: s))] := HSj.sub (by repeat (first | exact List.nil_sublist _ | exact List.Sublist.refl _ | apply List.Sublist.cons_cons | apply List.Sublist.cons))
            (repeat (first | (refine Cop.og_skip rfl rfl HTa _ (by (simp only [Act.put, List.setIfInBounds_toArray, List.set_cons_succ, List.set_cons_zero]; rfl)) ?_) | (refine Cop.og_take rfl rfl HTa ?_; apply Exists.intro; refine ⟨fun w9 h9 => ?_, _, by (simp only [Act.put, List.setIfInBounds_toArray, List.set_cons_succ, List.set_cons_zero]; rfl), ?_⟩; (have c0 := (row_cell (h9.row 0 rfl) 0).trans (show (ptv qn pd)[0]? = some (.int .i64 (qn : Int)) from rfl); have c1 : w9.cell? ⟨g, m * 33, none⟩ = some (.int .i64 (qn : Int)) := own_cell (h9.own 1 rfl) _ ((htop.out 0).trans (show (ptv qn qd)[0]? = some (.int .i64 (qn : Int)) from rfl)); have q1 := HW1.out; have q2 := HW2.out; go_simp; with_reducible rfl))))
            refine og_fin ?_
            clear HTa
            go_wp2
            refine Cop.region_ord (fun w' => Sep w.heap.size w w' [.row g6 (ptv qn pd) 108, .own (.slice (some ⟨g, 0, none⟩) (m + 1) c2) 108 33 (m + 1) (pcs ((qn, qd) :: s))]) 14 (.take 0 (.take 1 (.take 2 (.take 3 (.take 4 (.take 5 (.take 6 (.take 7 (.take 8 (.take 9 (.take 10 (.take 11 (.run 12 (.take 13 (.run 14 Cop.Ord.fin))))))))))))))) (by kernel_rfl) (by kernel_rfl) (fun _ _ d _ _ h => by cases d <;> exact h) ?_
            intro wb hdb
            replace HSj := HSj.keep hdb
            have HTb : Sep w.heap.size w wb [.row g6 (ptv qn pd) 108, .own (.slice (some ⟨g, 0, none⟩) (m + 1) c2) 108 33 (m + 1) (pcs ((qn, qd) :: s))] := HSj.sub (by repeat (first | exact List.nil_sublist _ | exact List.Sublist.refl _ | apply List.Sublist.cons_cons | apply List.Sublist.cons))
            (repeat (first | (refine Cop.og_skip rfl rfl HTb _ (by (simp only [Act.put, List.setIfInBounds_toArray, List.set_cons_succ, List.set_cons_zero]; rfl)) ?_) | (refine Cop.og_ld rfl rfl HTb 33 _ rfl (.pointer (some ⟨g, m * 33 + 1, none⟩)) rfl (.agg (bv qd)) (fun w9 h9 => load_cells (bv qd) (fun j u hu => own_cell (h9.own 1 rfl) _ (htd.out j u hu)) 33 Tryd.underlying33 rfl (dgS hqd)) _ (by (simp only [Act.put, List.setIfInBounds_toArray, List.set_cons_succ, List.set_cons_zero]; rfl)) ?_) | (refine Cop.og_ld rfl rfl HTb 33 _ rfl (.pointer (some ⟨g6, 1, none⟩)) rfl (.agg (bv pd)) (fun w9 h9 => load_mid (h9.row 0 rfl) 1 (bv pd) (fun j _ => ptv_mid _ _ j) 33 Tryd.underlying33 rfl (dgS hpd)) _ (by (simp only [Act.put, List.setIfInBounds_toArray, List.set_cons_succ, List.set_cons_zero]; rfl)) ?_) | (refine Cop.og_take rfl rfl HTb ?_; apply Exists.intro; refine ⟨fun w9 h9 => ?_, _, by (simp only [Act.put, List.setIfInBounds_toArray, List.set_cons_succ, List.set_cons_zero]; rfl), ?_⟩; (have c0 := (row_cell (h9.row 0 rfl) 0).trans (show (ptv qn pd)[0]? = some (.int .i64 (qn : Int)) from rfl); have q1 := HW1.out; have q2 := HW2.out; have q3 := HW3.out; go_simp; with_reducible rfl))))
            refine Cop.og_run rfl rfl ?_
            refine ow_call 42 _ _ (fun w' => Below wb.heap.size wb w') (by go_simp) (HCN.out wb HSj.hb) ?_
            intro wc bc
            have HSk := HSj.keep bc
            have HTc := HTb.keep bc
            refine ⟨fun _ => HTc, ?_⟩
            refine Cop.og_take rfl rfl HTc ⟨.agg (ptv (2 * qn) D), fun w9 h9 => exec_bd 108 _ rfl #[(0, .int .i64 (2 * (qn : Int))), (1, .agg (bv D))] (by kernel_rfl) _ (HB2.out w9), _, by (simp only [Act.put, List.setIfInBounds_toArray, List.set_cons_succ, List.set_cons_zero]; rfl), ?_⟩
            refine Cop.og_run rfl rfl ?_
            refine ow_st HSk 0 rfl 108 _ _ rfl rfl rfl (ptS hDl) (ptE hpd hDl) (ptv_one _ _) ?_
            intro wd HSd
            refine ⟨fun h => absurd rfl h, ?_⟩
            refine og_fin ?_
            clear HSj HSk HTb HTc
            go_wp2_with (refine wl_sl1 rfl 106 _ _ rfl _ rfl _ rfl _ (run_upto g (m + 1) c2 m (by omega) Tryd.underlying106 (by kernel_rfl) _ _) ?_)
            go_roundw
            case rel => exact ⟨s, (2 * qn, D), some ⟨g, 0, none⟩, c2, by rw [HM.out], HPU2.out, HALS.out, HWS.out, by rw [HM.out]; omega, by rw [HM.out]; exact HSd.shrink 2 rfl (by omega) HPL2.out⟩
            case measure => simp [lenOf]
          · have hq2 : ¬ (qn : Int) = (pn : Int) := by omega
            go_wp2
            refine Cop.region_ord (fun w' => Sep w.heap.size w w' [.row g6 (ptv pn pd) 108, .own (.slice (some ⟨g, 0, none⟩) (m + 1) c2) 108 33 (m + 1) (pcs ((qn, qd) :: s))]) 14 (.take 0 (.take 1 (.take 2 (.take 3 (.take 4 (.take 5 (.take 6 (.take 7 (.take 8 (.take 9 (.take 10 (.take 11 (.take 12 (.take 13 (.take 14 Cop.Ord.fin))))))))))))))) (by kernel_rfl) (by kernel_rfl) (fun _ _ d _ _ h => by cases d <;> exact h) ?_
            intro wa hda
            replace HSj := HSj.keep hda
            have HTa : Sep w.heap.size w wa [.row g6 (ptv pn pd) 108, .own (.slice (some ⟨g, 0, none⟩) (m + 1) c2) 108 33 (m + 1) (pcs ((qn, qd) :: s))] := HSj.sub (by repeat (first | exact List.nil_sublist _ | exact List.Sublist.refl _ | apply List.Sublist.cons_cons | apply List.Sublist.cons))
            (repeat (first | (refine Cop.og_skip rfl rfl HTa _ (by (simp only [Act.put, List.setIfInBounds_toArray, List.set_cons_succ, List.set_cons_zero]; rfl)) ?_) | (refine Cop.og_take rfl rfl HTa ?_; apply Exists.intro; refine ⟨fun w9 h9 => ?_, _, by (simp only [Act.put, List.setIfInBounds_toArray, List.set_cons_succ, List.set_cons_zero]; rfl), ?_⟩; (have c0 := (row_cell (h9.row 0 rfl) 0).trans (show (ptv pn pd)[0]? = some (.int .i64 (pn : Int)) from rfl); have c1 : w9.cell? ⟨g, m * 33, none⟩ = some (.int .i64 (qn : Int)) := own_cell (h9.own 1 rfl) _ ((htop.out 0).trans (show (ptv qn qd)[0]? = some (.int .i64 (qn : Int)) from rfl)); have q1 := HW1.out; have q2 := HW2.out; go_simp; with_reducible rfl))))
            refine og_fin ?_
            have hall := HALL.out
            have hwt := HWT.out
            have hp2 : pd.length = 32 := hall.head
            have HT := Lib.hid (show (pn, pd) :: ((qn, qd) :: s) = PKs (k + 1) from by rw [← hpush]; (unfold pushPk; rw [if_neg hq]))
            clear hpush hall hwt
            go_wp2_with (first | refine wl_ld HSj 0 rfl rfl 108 _ rfl rfl Tryd.underlying108 rfl (ptS hp2) ?_ | refine wl_bs1 HSj rfl 106 108 33 _ rfl (.agg (ptv pn pd)) rfl (ptv pn pd).toList (.agg (ptv 0 (List.replicate 32 0))) Tryd.underlying106 (by kernel_rfl) (by decide) (by decide) (fill_part pn hp2) (by rw [Array.length_toList, ptv_size hp2]) ?_)
            intro gb wb HSb
            go_wp2_with (refine wl_apn HSb 3 rfl _ _ 106 (.agg (ptv 0 (List.replicate 32 0))) 40 rfl rfl Tryd.underlying106 (by kernel_rfl) rfl (by decide) (by decide) (HSb.own 0 rfl).rd (fun c hc => (Array.all_eq_true_iff_forall_mem.1 (ptv_one pn pd)) c (by simpa using hc)) rfl rfl (PKs (k + 1)).length (pcs (PKs (k + 1))) (by rw [← HT.out]; (rw [List.length_cons, List.length_cons, HM.out])) (by rw [← HT.out]; rfl) (by have := PL.out (k + 1) (by omega); omega) ?_)
            intro v9 wc HSc hgr
            obtain ⟨A9, c9, rfl, _⟩ := (HSc.own 3 rfl).sl
            clear HSb HSj
            go_wp2
            go_roundw
            case rel => exact ⟨k + 1, A9, c9, by omega, by go_num, rfl, HSc.sub (by repeat (first | exact List.nil_sublist _ | exact List.Sublist.refl _ | apply List.Sublist.cons_cons | apply List.Sublist.cons))⟩
            case measure => simp [intOf]; omega
    · have hkl : k = l.length := by omega
      subst hkl
      have hpp := PP.out l.length h0 (Nat.le_refl _)
      have hall := PA.out l.length (Nat.le_refl _)
      have hrr := RR.out
      have hs64 := PL.out l.length (Nat.le_refl _)
      generalize PKs l.length = st at *
      cases st with
      | nil => exact absurd hpp (by simp)
      | cons p s =>
        obtain ⟨pn, pd⟩ := p
        obtain ⟨g, rfl⟩ := Ow.addr (HSi.own 0 rfl) (by simp)
        obtain ⟨m, hm⟩ : ∃ m, s.length = m := ⟨_, rfl⟩
        have hpd : pd.length = 32 := hall.head
        have hcap : m + 1 ≤ c := by
          obtain ⟨A9, c9, h1, h2⟩ := (HSi.own 0 rfl).sl
          injection h1 with _ _ h3
          rw [h3, ← hm]; exact h2
        have hrr2 := hrr _ _ rfl
        have hAs : AllP s := hall.tail
        have HAS := Lib.hid hAs
        have HPL2 := Lib.hid (show (pcs s).length = m * 33 by rw [pcs_length hAs, hm])
        have HRR := Lib.hid hrr2
        have HLD := Lib.hid (fun (W : World) (h : Ow W w.heap.size 108 33 (.slice (some ⟨g, 0, none⟩) ((pn, pd) :: s).length c) ((pn, pd) :: s).length (pcs ((pn, pd) :: s))) =>
          load_cells (P := Tryd.prog) (w := W) (g := g) (off := m * 33 + 1) (bv pd) (fun j u hu => own_cell h _ (by
            rw [← hm, Nat.add_assoc, pcs_top hall, ptv_mid]; exact hu)) 33 Tryd.underlying33 rfl (dgS hpd))
        rw [show ((pn, pd) :: s).length = m + 1 by rw [List.length_cons, hm]] at HSi HLD hs64 ⊢
        have HM := Lib.hid hm
        have HW1 := Lib.hid (show IntKind.i64.wrap ((m : Int) + 1 - 1) = (m : Int) by rw [IntKind.wrap_i64]; omega)
        have hm0 : (0 : Int) < (m : Int) + 1 := by omega
        have hm1 : (m : Int) < (m : Int) + 1 := by omega
        have hld := HLD.out wr (HSi.own 0 rfl)
        have HLX := Lib.hid hld
        clear hrr hrr2 hAs hall hm hld hpp
        go_wp2_with (first | refine wl_ldx rfl 33 _ rfl _ rfl (.agg (bv pd)) HLX.out ?_ | refine wl_al HSi rfl 33 rfl (bv (List.replicate 32 0)) (by kernel_rfl) ?_)
        intro g7 w5 HS5
        go_wp2_with (first | refine wl_st HS5 0 rfl rfl 33 _ _ rfl rfl rfl (dgS hpd) (dgE rfl hpd) (bv_one _) ?_)
        intro w6 HS6
        go_wp2_with (refine wl_sl1 rfl 106 _ _ rfl _ rfl _ rfl _ (run_upto g (m + 1) c m (by omega) Tryd.underlying106 (by kernel_rfl) _ _) ?_)
        refine (backward_a (some ⟨g, 0, none⟩) m c w6).mono ?_
        rintro e wz ⟨rfl, rfl⟩
        go_wp2_with fail
        have hg7 : g7 < w6.heap.size := (Array.getElem?_eq_some_iff.1 (HS6.row 0 rfl)).1
        have hc0 : c ≠ 0 := by omega
        have hgo : g < w6.heap.size := (Ow.lt (HS6.own 1 rfl) g (by simp [vblk, hc0])).2
        have hne : g ≠ g7 := by
          have := (List.pairwise_cons.1 HS6.far).1 _ List.mem_cons_self
          rcases this with ⟨h1, _⟩ | h1
          · cases h1
          · intro e
            exact h1 g7 rfl (by simp [Pc.blk, vblk, hc0, e])
        have HSw := HS6.skip (.cells #[.slice (some ⟨g, 0, none⟩) m c] 106)
        have hBs : (w6.alloc (.cells #[.slice (some ⟨g, 0, none⟩) m c] 106)).cell? ⟨w6.heap.size, 0, none⟩ = some (.slice (some ⟨g, 0, none⟩) s.length c) := by
          rw [row_cell (heap_alloc_new w6 _) 0, HM.out]; rfl
        have hcs : ∀ j v, (pcs s)[j]? = some v → (w6.alloc (.cells #[.slice (some ⟨g, 0, none⟩) m c] 106)).cell? ⟨g, j, none⟩ = some v := fun j v hv => own_cell (HSw.own 1 rfl) j (by
          rw [pcs, List.getElem?_append_left (Array.getElem?_eq_some_iff.1 (by simpa using hv)).1]
          exact hv)
        have HACC := Lib.hid (fun (pre : List PK) => foldl_len nd HND.out (pre.map (fun x : PK => x.1.2)) pd hpd)
        have HSI : Sep w.heap.size w (w6.alloc (.cells #[.slice (some ⟨g, 0, none⟩) m c] 106)) [.row g7 (bv pd) 33, .row g2 (bv (List.replicate 32 0)) 33] := HSw.sub (by repeat (first | exact List.nil_sublist _ | exact List.Sublist.refl _ | apply List.Sublist.cons_cons | apply List.Sublist.cons))
        have hww : w.heap.size ≤ w6.heap.size := HS6.hB
        clear HS5 HS6 HSi HSw
        refine rf_intro ?_
        intro a0 ha0
        refine (wpIn_wide (n := 9)).1 ?_
        refine wpIn_rangeFunc_ownH (F := Fence.wide) rfl (by decide) (gf := 66) (lb := #[.pointer (some ⟨w6.heap.size, 0, none⟩)]) (by rw [ha0]; rfl) trivial (enters_of Tryd.func66 (by kernel_rfl) rfl)
          (backward_stops 8 (by decide) w6.heap.size (w6.heap.size + 1) g7 g c s HAS.out (by rw [HM.out]; omega) (by omega) hne (by omega) (by omega) _ (by simp) hBs hcs) KeepsBut.trans (keepsBut_b (by simp)) (Below.refl _ _) (fun _ => rfl)
          (fun pre W => Sep w.heap.size w W [.row g7 (bv ((pre.map (fun x : PK => x.1.2)).foldl (fun acc q => nd q.2 acc) pd)) 33, .row g2 (bv (List.replicate 32 0)) 33] ∧ w6.heap.size + 1 ≤ W.heap.size) (fun _ _ _ => False)
          (OwnFrom.and (ownFrom_sep (by simp; omega) _) (fun _ W W' row hs hg hr => Nat.le_trans hs hg.size)) (fun _ _ _ _ _ hs _ _ => hs) ⟨HSI, by simp⟩
          (fun x a' W => ∃ g9, w6.heap.size + 1 ≤ g9 ∧ W.heap[g9]? = some (.cells (ptv x.1.2.1 x.1.2.2) 108 (0, 0)) ∧ a' = { tmps := (((#[74, 75] : Array Tmp).zip (pkE x)).foldl (fun t (p, v) => t.setIfInBounds p v) a0.tmps).setIfInBounds 9 (.pointer (some ⟨g9, 0, none⟩)), defers := [] })
          (fun x a' _ W W' row hs hg hr => by
            obtain ⟨g9, h1, h2, h3⟩ := hs
            refine ⟨g9, h1, (hg.block g9 (Array.getElem?_eq_some_iff.1 h2).1 fun e => ?_).trans h2, h3⟩
            obtain ⟨_, o, ho, hco⟩ := hr g9 e.symm
            rw [h2] at ho
            injection ho with ho
            subst ho
            cases hco) ?assign ?body ?done ?stop
        case assign =>
          rintro li pre x W K ⟨HSq, hsz⟩ hK
          refine region_round (by rintro ⟨_, _, h⟩; exact h) (by kernel_rfl) ?_
          have hxl := x.2
          rw [pkA_eq, ha0]
          simp only [List.setIfInBounds_toArray, List.set_cons_succ, List.set_cons_zero]
          go_wp2_with (first | refine wl_alx rfl 108 rfl (ptv 0 (List.replicate 32 0)) (by kernel_rfl) ?_ | refine wl_store_row rfl 108 _ _ rfl W.heap.size rfl 108 (ptv 0 (List.replicate 32 0)) (ptv x.1.2.1 x.1.2.2) rfl (heap_alloc_new W _) (ptS hxl) (ptE rfl hxl) (ptv_one _ _) ?_)
          have hnew := heap_alloc_new W (.cells (ptv 0 (List.replicate 32 0)) 108)
          refine hK _ _ (((KeepsOthers.alloc W _).trans (keeps_setRow hnew)).from _) ((keepsBut_below ((Below.refl _ W).alloc (Nat.le_refl _) _) hsz).trans (keepsBut_new _ _ (by omega) _)) ⟨((HSq.alloc _ _).setRow 0 rfl _).tail, by simp; omega⟩ ⟨W.heap.size, hsz, setRow_heap _ _ _ _ _ _ hnew, ?_⟩
          rw [pkA_eq, ha0]
          simp only [List.setIfInBounds_toArray, List.set_cons_succ, List.set_cons_zero]
        case body =>
          rintro li pre x a' W hl hr ⟨HSq, hsz⟩ ⟨g9, h9, hrow, rfl⟩ hlen
          have hxl := x.2
          have hacl := HACC.out pre
          have hacs : (List.map (fun x : PK => x.1.2) (pre ++ [x])).foldl (fun acc q => nd q.2 acc) pd = nd x.1.2.2 ((pre.map (fun x : PK => x.1.2)).foldl (fun acc q => nd q.2 acc) pd) := by simp
          obtain ⟨ac, hac⟩ : ∃ y, (pre.map (fun x : PK => x.1.2)).foldl (fun acc q => nd q.2 acc) pd = y := ⟨_, rfl⟩
          rw [hac] at HSq hacl hacs
          have HACS := Lib.hid hacs
          have HDL := Lib.hid (HND.out x.1.2.2 ac)
          have HCN := Lib.hid (fun w' hb => CN.out w' x.1.2.2 ac hb hxl hacl)
          have HLDX := Lib.hid (load_mid (P := Tryd.prog) hrow 1 (bv x.1.2.2) (fun j _ => ptv_mid _ _ j) 33 Tryd.underlying33 rfl (dgS hxl))
          obtain ⟨D, hD⟩ : ∃ D, nd x.1.2.2 ac = D := ⟨_, rfl⟩
          rw [hD] at HACS HDL HCN
          refine wpIn_block ?_
          refine region_round (by rintro ⟨_, _, h⟩; exact h) (by kernel_rfl) ?_
          rw [pkA_eq, ha0]
          simp only [List.setIfInBounds_toArray, List.set_cons_succ, List.set_cons_zero]
          clear hac hacs hD
          go_wp2_with (first | refine wl_ldx rfl 33 _ rfl _ rfl (.agg (bv x.1.2.2)) HLDX.out ?_ | refine wl_ld HSq 0 rfl rfl 33 _ rfl rfl Tryd.underlying33 rfl (dgS hacl) ?_)
          (with_reducible refine Calls.mono (HCN.out W HSq.hb) ?_)
          rintro e wx ⟨rfl, bx⟩
          have HSx := HSq.keep bx
          go_wp2_with (first | refine wl_store_row rfl 33 _ _ rfl g7 rfl 33 _ (bv D) rfl (HSx.row 0 rfl) (dgS HDL.out) (dgE hacl HDL.out) (bv_one _) ?_)
          refine ⟨((keeps_below bx).trans (keeps_setRow (HSx.row 0 rfl))).from _, (keepsBut_below bx hsz).trans (keepsBut_setRow _ _ _ _), ?_, ?_⟩
          · rw [HACS.out]
            exact HSx.setRow 0 rfl _
          · have := bx.size
            simp; omega
        case done =>
          rintro D ys W hD hys ⟨HSq, _⟩ hK
          rw [hys, HRR.out] at HSq
          have hrl : r.length = 32 := by rw [← HRR.out]; exact foldl_len nd HND.out s pd hpd
          have hgD : D ≠ g2 := fun e => by
            have := HSq.row 1 rfl
            rw [← e, hK] at this
            cases this
          have hDw : w.heap.size ≤ D := by simp at hD; omega
          have HHD := Lib.hid hK
          rw [ha0]
          clear hK hys
          go_wp2_with (first | refine wl_ld HSq 0 rfl rfl 33 _ rfl rfl Tryd.underlying33 rfl (dgS hrl) ?_ | refine wl_store_row rfl 33 _ _ rfl g2 rfl 33 _ (bv r) rfl (HSq.row 1 rfl) (dgS hrl) (dgE rfl hrl) (bv_one _) ?_)
          have HS9 := HSq.setRow 1 rfl (bv r)
          exact ret_rowD rfl D rfl (set_other _ hgD HHD.out) g2 rfl 33 (bv r) (0, 0) _ (HS9.row 1 rfl) Tryd.underlying33 rfl (dgS hrl) ⟨rfl, HS9.hb.trans (belowK_b (n₀ := w.heap.size) (w := w) (Nat.le_refl _) _ D _ _ hDw (set_other _ hgD HHD.out) rfl rfl)⟩
        case stop =>
          rintro D cc pre W hD _ h _
          exact h.elim
theorem root_a (l : List (List UInt8)) (v : Value) (w : World) (hT : Tab w) (hl : AllD l) (hll : l.length ≤ 4398046511104) (hR : Rd w v l.length 32 (dcs l)) : Gives 13 #[v] w (.agg (bv (root nodeD (sha []) l))) := by
  refine root_gen nodeD (sha []) (root nodeD (sha []) l) l (fun k => peaks nodeD (l.take k)) v w nodeD_length (sha_length _) hl hll hR rfl (fun k hk => peaks_succ nodeD l k hk) (fun k hk => peaks_len nodeD _ (by rw [List.length_take]; omega)) (fun k hk => by rw [wt_peaks, List.length_take]; omega)
    (fun k hk => allP_peaks nodeD nodeD_length _ (hl.take k)) (fun k h0 hk => ?_) (fun h => by subst h; exact root_nil _ _) (fun p s hps => ?_) (fun w' hb => empty_a w' (hT.below hb)) (fun w' a b hb ha hb2 => node_a a b w' (hT.below hb) ha hb2)
  · obtain ⟨k', rfl⟩ : ∃ k', k = k' + 1 := ⟨k - 1, by omega⟩
    show 0 < (peaks nodeD (l.take (k' + 1))).length
    rw [peaks_succ nodeD l k' (by omega)]
    exact push_len nodeD _ _
  · have := foldPk_root nodeD (sha []) l
    simp only [List.take_length] at hps
    rw [hps] at this
    exact this
end Go.Proofs.YtlhebogbbkjahaaDoor
