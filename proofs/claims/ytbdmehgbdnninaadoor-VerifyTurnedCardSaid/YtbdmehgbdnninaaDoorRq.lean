/- The reference's Root; parts of digests' lists that are read; Sub of both. -/
import Derived.Test.YtbdmehgbdnninaaDoorRo
import Derived.Test.YtbdmehgbdnninaaDoorHl
namespace Go.Proofs.YtbdmehgbdnninaaDoor
open Go.RowKit Cop
set_option linter.unusedVariables false
set_option linter.unusedSimpArgs false
theorem info_dg32 : (Tryd.prog.info? 26).map (·.size) = some 32 := by kernel_rfl
section
variable {w : World} {v : Value} {l : List (List UInt8)}
/-- l[lo:hi]. -/
theorem rd_dsub (hR : Rd w v l.length 32 (dcs l)) (hl : AllD l) (lo hi : Nat) (h1 : lo ≤ hi) (h2 : hi ≤ l.length) : ∃ A c, Rd w (.slice A (hi - lo) c) (hi - lo) 32 (dcs ((l.take hi).drop lo)) ∧ hi - lo ≤ c ∧ c ≤ 9223372036854775807 ∧
    (∀ W kl kh, (Instr.sliceAt 22 v (some (.int kl (lo : Int))) (some (.int kh (hi : Int))) none).run Tryd.prog W = .ok (.slice A (hi - lo) c) W) ∧
    (lo = 0 → ∀ W kh, (Instr.sliceAt 22 v none (some (.int kh (hi : Int))) none).run Tryd.prog W = .ok (.slice A (hi - lo) c) W) ∧
    (hi = l.length → ∀ W kl, (Instr.sliceAt 22 v (some (.int kl (lo : Int))) none none).run Tryd.prog W = .ok (.slice A (hi - lo) c) W) := by
  obtain ⟨v', h3, h4, h5, h6⟩ := hR.slice Tryd.underlying22 info_dg32 lo hi h1 h2
  have e : ((dcs l).take (hi * 32)).drop (lo * 32) = dcs ((l.take hi).drop lo) := by
    rw [dcs_take hl hi h2, dcs_drop (hl.take hi) lo (by rw [List.length_take]; omega)]
  rw [e] at h3
  obtain ⟨A, c, rfl, h7, h8⟩ := h3.shape
  exact ⟨A, c, h3, h7, h8, h4, h5, h6⟩
theorem rd_dto (hR : Rd w v l.length 32 (dcs l)) (hl : AllD l) (k : Nat) (h2 : k ≤ l.length) : ∃ A c, Rd w (.slice A k c) k 32 (dcs (l.take k)) ∧ k ≤ c ∧ c ≤ 9223372036854775807 ∧
    ∀ W kh, (Instr.sliceAt 22 v none (some (.int kh (k : Int))) none).run Tryd.prog W = .ok (.slice A k c) W := by
  obtain ⟨A, c, h3, h4, h5, _, h6, _⟩ := rd_dsub hR hl 0 k (Nat.zero_le _) h2
  rw [Nat.sub_zero, List.drop_zero] at h3
  rw [Nat.sub_zero] at h4 h6
  exact ⟨A, c, h3, h4, h5, h6 rfl⟩
theorem rd_dfrom (hR : Rd w v l.length 32 (dcs l)) (hl : AllD l) (k : Nat) (h2 : k ≤ l.length) : ∃ A c, Rd w (.slice A (l.length - k) c) (l.length - k) 32 (dcs (l.drop k)) ∧ l.length - k ≤ c ∧ c ≤ 9223372036854775807 ∧
    ∀ W kl, (Instr.sliceAt 22 v (some (.int kl (k : Int))) none none).run Tryd.prog W = .ok (.slice A (l.length - k) c) W := by
  obtain ⟨A, c, h3, h4, h5, _, _, h6⟩ := rd_dsub hR hl k l.length h2 (Nat.le_refl _)
  rw [List.take_length] at h3
  exact ⟨A, c, h3, h4, h5, h6 rfl⟩
/-- One digest of a list is loaded. -/
theorem load_dg {b o n c : Nat} (hR : Rd w (.slice (some ⟨b, o, none⟩) n c) n 32 (dcs l)) (hn : n = l.length) (hl : AllD l) (k : Nat) (hk : k < l.length) (d : List UInt8) (hd : l.getD k [] = d) :
    (Instr.loadAt 26 (.pointer (some ⟨b, o + k * 32, none⟩))).run Tryd.prog w = .ok (.agg (bv d)) w := by
  have hdl : d.length = 32 := by
    rw [← hd]
    refine hl _ ?_
    simp only [List.getD, List.getElem?_eq_getElem hk, Option.getD_some]
    exact List.getElem_mem hk
  refine load_cells (bv d) (fun j u hu => ?_) 26 Tryd.underlying26 rfl (dgS hdl)
  have hj : j < 32 := by have := (Array.getElem?_eq_some_iff.1 hu).1; rw [bv_size, hdl] at this; exact this
  have := rd_cell hR (by omega) (k * 32 + j) (v := u) (by
    rw [dcs_at hl k hk j hj, hd]
    rw [← bv_toList]
    simpa using hu)
  rwa [← Nat.add_assoc] at this
theorem rd_some {A : Option Addr} {n c size : Nat} {cs : List Value} (hR : Rd w (.slice A n c) n size cs) (h0 : 0 < n) : ∃ b o, A = some ⟨b, o, none⟩ := by
  obtain ⟨_, A', c', he, _, _, _, h⟩ := hR
  obtain ⟨b, o, h1, _⟩ := h h0
  injection he with he _ _
  exact ⟨b, o, he.trans h1⟩
theorem dg_len (hl : AllD l) (k : Nat) (hk : k < l.length) : (l.getD k []).length = 32 := by
  refine hl _ ?_
  simp only [List.getD, List.getElem?_eq_getElem hk, Option.getD_some]
  exact List.getElem_mem hk
end
set_option maxRecDepth 100000 in
set_option maxHeartbeats 4000000 in
theorem rootB_gen (nd : List UInt8 → List UInt8 → List UInt8) (em : List UInt8) (Rt : List (List UInt8) → List UInt8) (hnd : ∀ a b, (nd a b).length = 32) (hem : em.length = 32)
    (h0 : Rt [] = em) (h1 : ∀ d, Rt [d] = d) (h2 : ∀ l, 2 ≤ l.length → Rt l = nd (Rt (l.take (hf l.length))) (Rt (l.drop (hf l.length))))
    (hCE : ∀ w', Gives 26 #[] w' (.agg (bv em)))
    (hCN : ∀ w' a b, a.length = 32 → b.length = 32 → Gives 24 #[.agg (bv a), .agg (bv b)] w' (.agg (bv (nd a b)))) :
    ∀ (n : Nat) (l : List (List UInt8)) (v : Value) (w : World), l.length = n → AllD l → l.length ≤ 4398046511104 → Rd w v l.length 32 (dcs l) → Gives 16 #[v] w (.agg (bv (Rt l))) ∧ (Rt l).length = 32 := by
  intro n
  induction n using Nat.strongRecOn with
  | ind n ih =>
  intro l v w hln hl hll hR
  have CE := Lib.hid hCE
  have CN := Lib.hid hCN
  have HEM := Lib.hid hem
  have HL := Lib.hid hl
  clear hCE hCN hem
  rcases Nat.eq_zero_or_pos l.length with hz | hz
  · have hl0 : l = [] := List.eq_nil_of_length_eq_zero hz
    subst hl0
    rw [h0]
    refine ⟨?_, HEM.out⟩
    have HS0 := (Sep.start w).arg0 hR
    obtain ⟨A0, c0, rfl, _, _⟩ := hR.shape
    clear hR hln ih h0 h1 h2 hz hll hl hnd
    go_enter Tryd.func16, Tryd.ntmps16
    go_wp2_with (first | refine wl_al HS0 rfl 26 rfl (bv (List.replicate 32 0)) (by kernel_rfl) ?_)
    intro g1 w1 HS1
    go_wp2_with fail
    (with_reducible refine Calls.mono (CE.out w1) ?_)
    rintro e w2 ⟨rfl, b2⟩
    have HS2 := HS1.keep b2
    clear HS1
    go_wp2_with (first | refine wl_st HS2 0 rfl rfl 26 _ _ rfl rfl rfl (dgS HEM.out) (dgE rfl HEM.out) (bv_one _) ?_)
    intro w3 HS3
    go_wp2_with fail
    exact ret_row rfl rfl g1 rfl 26 (bv em) (0, 0) _ (HS3.row 0 rfl) Tryd.underlying26 rfl (dgS HEM.out) ⟨rfl, HS3.hb⟩
  by_cases hone : l.length = 1
  · obtain ⟨d, hd⟩ : ∃ d, l = [d] := by
      match l, hone with
      | [d], _ => exact ⟨d, rfl⟩
    have hdl : d.length = 32 := hl d (by rw [hd]; simp)
    subst hd
    rw [h1]
    refine ⟨?_, hdl⟩
    have HS0 := (Sep.start w).arg0 hR
    obtain ⟨A0, c0, rfl, _, _⟩ := hR.shape
    obtain ⟨b, o, rfl⟩ := rd_some hR (by simp)
    have HLD := Lib.hid (fun (W : World) (h : Rd W (.slice (some ⟨b, o, none⟩) [d].length c0) [d].length 32 (dcs [d])) => load_dg h rfl hl 0 (by simp) d rfl)
    rw [show o + 0 * 32 = o from by omega] at HLD
    clear hR hln ih h0 h1 h2 hz hll hl hnd hone
    go_enter Tryd.func16, Tryd.ntmps16
    go_wp2_with (first | refine wl_al HS0 rfl 26 rfl (bv (List.replicate 32 0)) (by kernel_rfl) ?_)
    intro g1 w1 HS1
    have hld := Lib.hid (HLD.out w1 (HS1.rd 1 rfl))
    go_wp2_with (first | refine wl_ldx rfl 26 _ rfl _ rfl (.agg (bv d)) hld.out ?_ | refine wl_st HS1 0 rfl rfl 26 _ _ rfl rfl rfl (dgS hdl) (dgE rfl hdl) (bv_one _) ?_)
    intro w3 HS3
    go_wp2_with fail
    exact ret_row rfl rfl g1 rfl 26 (bv d) (0, 0) _ (HS3.row 0 rfl) Tryd.underlying26 rfl (dgS hdl) ⟨rfl, HS3.hb⟩
  have h2l : 2 ≤ l.length := by omega
  have hlt := hf_lt h2l
  have hps := hf_pos l.length
  have hr := h2 l h2l
  have CH := Lib.hid (fun w => half_b l.length w h2l (by omega))
  obtain ⟨k, hk⟩ : ∃ k, hf l.length = k := ⟨_, rfl⟩
  rw [hk] at CH hlt hps hr
  obtain ⟨A1, c1, HR1, hc1, hm1, hs1⟩ := rd_dto hR hl k (by omega)
  obtain ⟨A2, c2, HR2, hc2, hm2, hs2⟩ := rd_dfrom hR hl k (by omega)
  have e1 : (l.take k).length = k := by rw [List.length_take]; omega
  have e2 : (l.drop k).length = l.length - k := by rw [List.length_drop]
  have i1 := fun w' v' (hv : Rd w' v' k 32 (dcs (l.take k))) => ih k (by omega) (l.take k) v' w' e1 (hl.take k) (by omega) (by rw [e1]; exact hv)
  have i2 := fun w' v' (hv : Rd w' v' (l.length - k) 32 (dcs (l.drop k))) => ih (n - k) (by omega) (l.drop k) v' w' (by omega) (hl.drop k) (by omega) (by rw [e2]; exact hv)
  have hx1 := (i1 w _ HR1).2
  have hx2 := (i2 w _ HR2).2
  obtain ⟨X1, hX1⟩ : ∃ x, Rt (l.take k) = x := ⟨_, rfl⟩
  obtain ⟨X2, hX2⟩ : ∃ x, Rt (l.drop k) = x := ⟨_, rfl⟩
  rw [hX1] at hr hx1
  rw [hX2] at hr hx2
  have J1 := Lib.hid (fun w' v' hv => (i1 w' v' hv).1)
  have J2 := Lib.hid (fun w' v' hv => (i2 w' v' hv).1)
  rw [hX1] at J1
  rw [hX2] at J2
  have hDl := hnd X1 X2
  obtain ⟨D, hD⟩ : ∃ x, nd X1 X2 = x := ⟨_, rfl⟩
  have HCN := Lib.hid (fun w' => CN.out w' X1 X2 hx1 hx2)
  rw [hD] at HCN hDl hr
  rw [hr]
  refine ⟨?_, hDl⟩
  have HDL := Lib.hid hDl
  obtain ⟨T1, hT1⟩ : ∃ x, l.take k = x := ⟨_, rfl⟩
  obtain ⟨T2, hT2⟩ : ∃ x, l.drop k = x := ⟨_, rfl⟩
  obtain ⟨m, hm⟩ : ∃ x, l.length - k = x := ⟨_, rfl⟩
  rw [hT1] at HR1 J1
  rw [hT2, hm] at HR2 J2
  rw [hm] at hs2
  have HS0 := (((Sep.start w).arg0 hR).arg0 HR1).arg0 HR2
  obtain ⟨A0, c0, rfl, _, _⟩ := hR.shape
  have HSL1 := Lib.hid hs1
  have HSL2 := Lib.hid hs2
  have k1 : ¬ (l.length : Int) = 0 := by omega
  have k2 : ¬ (l.length : Int) = 1 := by omega
  have k1b : ((l.length : Int) == 0) = false := by rw [beq_eq_false_iff_ne]; exact k1
  have k2b : ((l.length : Int) == 1) = false := by rw [beq_eq_false_iff_ne]; exact k2
  have HA : True := trivial
  clear e1 e2 hT1 hT2 hm hR hln ih h0 h1 h2 hz hll hl hnd hone hk hr hX1 hX2 hD hDl hx1 hx2 i1 i2 hs1 hs2 HR1 HR2
  go_enter Tryd.func16, Tryd.ntmps16
  go_wp2_with (first | refine wl_al HS0 rfl 26 rfl (bv (List.replicate 32 0)) (by kernel_rfl) ?_)
  intro g1 w1 HS1
  go_wp2_with fail
  (with_reducible refine Calls.mono (CH.out w1) ?_)
  rintro e w2 ⟨rfl, rfl⟩
  go_wp2
  refine Cop.region_ord (fun w' => True) 9 (.take 0 (.take 1 (.take 2 (.take 4 (.take 5 (.take 6 (.run 3 (.run 7 (.run 8 (.run 9 Cop.Ord.fin)))))))))) (by kernel_rfl) (by kernel_rfl) (fun _ _ d _ _ h => by cases d <;> exact h) ?_
  intro wa hda
  have HSa := HS1.keep hda
  clear HS0 HS1
  (repeat (first | (refine Cop.og_skip rfl rfl HA _ (by (simp only [Act.put, List.setIfInBounds_toArray, List.set_cons_succ, List.set_cons_zero]; rfl)) ?_) | (refine Cop.og_take rfl rfl HA ?_; apply Exists.intro; refine ⟨fun w9 h9 => ?_, _, by (simp only [Act.put, List.setIfInBounds_toArray, List.set_cons_succ, List.set_cons_zero]; rfl), ?_⟩; (have e1 := HSL1.out w9; have e2 := HSL2.out w9; go_simp; with_reducible rfl))))
  refine Cop.og_run rfl rfl ?_
  refine ow_call 16 _ _ (fun w' => Below wa.heap.size wa w') (by go_simp) (J1.out wa _ (HSa.rd 2 rfl)) ?_
  intro wb bb
  have HSb := HSa.keep bb
  refine ⟨fun _ => HA, ?_⟩
  (repeat (first | (refine Cop.og_skip rfl rfl HA _ (by (simp only [Act.put, List.setIfInBounds_toArray, List.set_cons_succ, List.set_cons_zero]; rfl)) ?_) | (refine Cop.og_take rfl rfl HA ?_; apply Exists.intro; refine ⟨fun w9 h9 => ?_, _, by (simp only [Act.put, List.setIfInBounds_toArray, List.set_cons_succ, List.set_cons_zero]; rfl), ?_⟩; (have e1 := HSL1.out w9; have e2 := HSL2.out w9; go_simp; with_reducible rfl))))
  refine Cop.og_run rfl rfl ?_
  refine ow_call 16 _ _ (fun w' => Below wb.heap.size wb w') (by go_simp) (J2.out wb _ (HSb.rd 1 rfl)) ?_
  intro wc bc
  have HSc := HSb.keep bc
  refine ⟨fun _ => HA, ?_⟩
  (repeat (first | (refine Cop.og_skip rfl rfl HA _ (by (simp only [Act.put, List.setIfInBounds_toArray, List.set_cons_succ, List.set_cons_zero]; rfl)) ?_) | (refine Cop.og_take rfl rfl HA ?_; apply Exists.intro; refine ⟨fun w9 h9 => ?_, _, by (simp only [Act.put, List.setIfInBounds_toArray, List.set_cons_succ, List.set_cons_zero]; rfl), ?_⟩; (go_simp; with_reducible rfl))))
  refine Cop.og_run rfl rfl ?_
  refine ow_call 24 _ _ (fun w' => Below wc.heap.size wc w') (by go_simp) (HCN.out wc) ?_
  intro wd bd
  have HSd := HSc.keep bd
  refine ⟨fun _ => HA, ?_⟩
  (repeat (first | (refine Cop.og_skip rfl rfl HA _ (by (simp only [Act.put, List.setIfInBounds_toArray, List.set_cons_succ, List.set_cons_zero]; rfl)) ?_) | (refine Cop.og_take rfl rfl HA ?_; apply Exists.intro; refine ⟨fun w9 h9 => ?_, _, by (simp only [Act.put, List.setIfInBounds_toArray, List.set_cons_succ, List.set_cons_zero]; rfl), ?_⟩; (go_simp; with_reducible rfl))))
  refine Cop.og_run rfl rfl ?_
  refine ow_st HSd 0 rfl 26 _ _ rfl rfl rfl (dgS HDL.out) (dgE rfl HDL.out) (bv_one _) ?_
  intro we HSe
  refine ⟨fun h => absurd rfl h, ?_⟩
  refine og_fin ?_
  go_wp2_with fail
  exact ret_row rfl rfl g1 rfl 26 (bv D) (0, 0) _ (HSe.row 0 rfl) Tryd.underlying26 rfl (dgS HDL.out) ⟨rfl, HSe.hb⟩
theorem root_b (l : List (List UInt8)) (v : Value) (w : World) (hl : AllD l) (hll : l.length ≤ 4398046511104) (hR : Rd w v l.length 32 (dcs l)) : Gives 16 #[v] w (.agg (bv (root nodeD (sha []) l))) :=
  (rootB_gen nodeD (sha []) (root nodeD (sha [])) nodeD_length (sha_length _) (root_nil _ _) (root_one _ _) (fun l h => root_split _ _ h) (fun w' => empty_b w') (fun w' a b ha hb => node_b a b w' ha hb) l.length l v w rfl hl hll hR).1
theorem root_length : ∀ (l : List (List UInt8)), AllD l → (root nodeD (sha []) l).length = 32 := by
  intro l hl
  rcases Nat.lt_or_ge l.length 2 with h | h
  · match l, h with
    | [], _ => rw [root_nil]; exact sha_length _
    | [d], _ => rw [root_one]; exact hl d (by simp)
  · rw [root_split _ _ h]; exact nodeD_length _ _
end Go.Proofs.YtbdmehgbdnninaaDoor
