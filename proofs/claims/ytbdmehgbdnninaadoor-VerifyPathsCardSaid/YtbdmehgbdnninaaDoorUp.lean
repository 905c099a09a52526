/- The reference's way up from a leaf; lent and kept. -/
import Derived.Test.YtbdmehgbdnninaaDoorVr
import Derived.Test.YtbdmehgbdnninaaDoorTr
namespace Go.Proofs.YtbdmehgbdnninaaDoor
open Go.RowKit Cop
set_option linter.unusedVariables false
set_option linter.unusedSimpArgs false
theorem climb32 (nd : List UInt8 → List UInt8 → List UInt8) (hnd : ∀ a b, (nd a b).length = 32) (leaf : List UInt8) (hlf : leaf.length = 32) : ∀ (ts : List Bool) (p : List (List UInt8)), (climb nd leaf ts p).length = 32 := by
  intro ts
  induction ts with
  | nil => intro p; simpa [climb] using hlf
  | cons t ts ih =>
    intro p
    unfold climb
    split
    · exact hlf
    · split <;> exact hnd _ _
set_option maxRecDepth 100000 in
set_option maxHeartbeats 4000000 in
theorem up_gen (nd : List UInt8 → List UInt8 → List UInt8) (hnd : ∀ a b, (nd a b).length = 32)
    (hCN : ∀ w' a b, a.length = 32 → b.length = 32 → Gives 24 #[.agg (bv a), .agg (bv b)] w' (.agg (bv (nd a b)))) :
    ∀ (n i : Nat) (ii nn : Int) (path : List (List UInt8)) (leaf : List UInt8) (v : Value) (w : World), ii = (i : Int) → nn = (n : Int) → i < n → n ≤ 281474976710656 → leaf.length = 32 → AllD path → (way i n).length = path.length → path.length ≤ 4398046511104 → Rd w v path.length 32 (dcs path) →
      Gives 61 #[.agg (bv leaf), .int .i64 ii, .int .i64 nn, v] w (.agg (bv (climb nd leaf (way i n) path))) := by
  have HND := Lib.hid hnd
  have CN := Lib.hid hCN
  clear hnd hCN
  intro n
  induction n using Nat.strongRecOn with
  | ind n ih =>
  intro i ii nn path leaf v w hii hnn hin hn hlf hp hlen hpl hR
  have IH := Lib.hid ih
  have HP := Lib.hid hp
  have HLF := Lib.hid hlf
  clear ih hp
  by_cases hone : n = 1
  · have hc : climb nd leaf (way i n) path = leaf := by rw [way_one (by omega)]; rfl
    rw [hc]
    have HS0 := (Sep.start w).arg0 hR
    obtain rfl : nn = 1 := by omega
    obtain ⟨A, c, rfl, _, _⟩ := hR.shape
    clear IH hii hnn hlen hc hR hone hin hn hpl
    go_enter Tryd.func61, Tryd.ntmps61
    go_wp2_with (first | refine wl_bx HS0 rfl 26 _ rfl (bv leaf) rfl ?_)
    intro g1 w1 HS1
    go_wp2_with (first | refine wl_al HS1 rfl 26 rfl (bv (List.replicate 32 0)) (by kernel_rfl) ?_)
    intro g2 w2 HS2
    go_wp2_with (first | refine wl_ld HS2 1 rfl rfl 26 _ rfl rfl Tryd.underlying26 rfl (dgS hlf) ?_ | refine wl_st HS2 0 rfl rfl 26 _ _ rfl rfl rfl (dgS hlf) (dgE rfl hlf) (bv_one _) ?_)
    intro w3 HS3
    go_wp2_with fail
    exact ret_row rfl rfl g2 rfl 26 (bv leaf) (0, 0) _ (HS3.row 0 rfl) Tryd.underlying26 rfl (dgS hlf) ⟨rfl, HS3.hb⟩
  have h2 : 2 ≤ n := by omega
  have hlt := hf_lt h2
  have hps := hf_pos n
  have CH := Lib.hid (fun w => half64n n w h2 hn)
  have wl := way_lt (i := i) h2
  have wg := way_ge (i := i) h2
  obtain ⟨k, hk⟩ : ∃ k, hf n = k := ⟨_, rfl⟩
  rw [hk] at CH hlt hps wl wg
  rcases List.eq_nil_or_concat path with rfl | ⟨q, x, hqx⟩
  · exfalso
    by_cases hik : i < k
    · rw [wl hik] at hlen; simp at hlen
    · rw [wg hik] at hlen; simp at hlen
  rw [List.concat_eq_append] at hqx
  subst hqx
  have hxl : x.length = 32 := HP.out x (by simp)
  have hql : AllD q := fun y hy => HP.out y (by simp [hy])
  obtain ⟨m, hm⟩ : ∃ m, q.length = m := ⟨_, rfl⟩
  obtain ⟨L, hL⟩ : ∃ L, (q ++ [x]).length = L := ⟨_, rfl⟩
  have hLm : L = m + 1 := by rw [← hL]; simp [hm]
  obtain ⟨A1, c1, hR1, _, _, hs1⟩ := rd_dto hR HP.out m (by omega)
  have htk : (q ++ [x]).take m = q := List.take_left' hm
  rw [htk] at hR1
  have hgx : (q ++ [x]).getD m [] = x := by rw [← hm]; simp
  rw [hL] at hR hlen hpl
  obtain ⟨A, c, rfl, _, _⟩ := hR.shape
  obtain ⟨b0, o0, rfl⟩ := rd_some hR (by omega)
  have HLD := Lib.hid (fun W (h : Rd W (.slice (some ⟨b0, o0, none⟩) L c) L 32 (dcs (q ++ [x]))) => load_dg h hL.symm HP.out m (by omega) x hgx)
  have HSL := Lib.hid hs1
  have hmi : (L : Int) - 1 = (m : Int) := by omega
  have hmlt : (m : Int) < (L : Int) := by omega
  have hmb : (m : Int) ≤ 4398046511104 := by omega
  have hne : ¬ nn = 1 := by omega
  have hneb : (nn == 1) = false := by rw [beq_eq_false_iff_ne]; exact hne
  have hi0 : 0 ≤ ii := by omega
  have hi1 : ii ≤ 281474976710656 := by omega
  have hn0 : 0 ≤ nn := by omega
  have hn1 : nn ≤ 281474976710656 := by omega
  have hk0 : (k : Int) ≤ 281474976710656 := by omega
  rw [← hnn] at CH
  have HS0 := ((Sep.start w).arg0 hR).arg0 hR1
  obtain ⟨T, hT⟩ : ∃ T, q ++ [x] = T := ⟨_, rfl⟩
  rw [hT] at HS0 HLD
  have HTX := Lib.hid hT
  by_cases hik : i < k
  · rw [wl hik] at hlen ⊢
    rw [climb_snoc, if_pos rfl]
    have hlen2 : (way i k).length = q.length := by rw [List.length_cons] at hlen; omega
    have hE1 := climb32 nd HND.out leaf hlf (way i k) q
    have J := Lib.hid (fun w' v' (hv : Rd w' v' m 32 (dcs q)) => IH.out (k) (by omega) (i) (ii) ((k : Int)) q leaf v' w' (by omega) (by omega) (by omega) (by omega) hlf hql hlen2 (by omega) (by rw [hm]; exact hv))
    obtain ⟨E, hE⟩ : ∃ E, climb nd leaf (way i k) q = E := ⟨_, rfl⟩
    rw [hE] at hE1 J ⊢
    have CNX := Lib.hid (fun w' => CN.out w' E x hE1 hxl)
    have hD1 := HND.out E x
    obtain ⟨D, hD⟩ : ∃ D, nd E x = D := ⟨_, rfl⟩
    rw [hD] at CNX hD1 ⊢
    have hiki : ii < (k : Int) := by omega
    have HWI := Lib.hid (show IntKind.i64.wrap (ii - (k : Int)) = ii - (k : Int) by rw [IntKind.wrap_i64]; omega)
    have HWN := Lib.hid (show IntKind.i64.wrap (nn - (k : Int)) = nn - (k : Int) by rw [IntKind.wrap_i64]; omega)
    clear hD hE hlen hlen2 hT hgx htk hL hLm hm hql hs1 hk wl wg IH hR hR1 hii hnn hin hn hone h2 hlt hps
    go_enter Tryd.func61, Tryd.ntmps61
    go_wp2_with (first | refine wl_bx HS0 rfl 26 _ rfl (bv leaf) rfl ?_)
    intro g1 w1 HS1
    go_wp2_with (first | refine wl_al HS1 rfl 26 rfl (bv (List.replicate 32 0)) (by kernel_rfl) ?_)
    intro g2 w2 HS2
    go_wp2_with fail
    (with_reducible refine Calls.mono (CH.out w2) ?_)
    rintro e w3 ⟨rfl, rfl⟩
    have hld := Lib.hid (HLD.out w2 (HS2.rd 3 rfl))
    go_wp2_with (first | refine wl_ldx rfl 26 _ rfl _ rfl (.agg (bv x)) hld.out ?_ | refine wl_al HS2 rfl 26 rfl (bv (List.replicate 32 0)) (by kernel_rfl) ?_)
    intro g4 w4 HS4
    go_wp2_with (first | refine wl_st HS4 0 rfl rfl 26 _ _ rfl rfl rfl (dgS hxl) (dgE rfl hxl) (bv_one _) ?_)
    intro w5 HS5
    clear HS0 HS1 HS2 HS4
    go_wp2_with (refine wl_sl1 rfl 22 _ _ rfl _ rfl _ rfl _ (HSL.out _ _) ?_)
    refine Cop.region_ord (fun w' => Sep w.heap.size w w' [.row g4 (bv x) 26, .row g2 (bv (List.replicate 32 0)) 26, .row g1 (bv leaf) 26, .rd (.slice A1 m c1) m 32 (dcs q), .rd (.slice (some ⟨b0, o0, none⟩) L c) L 32 (dcs T)]) 7 (.take 0 (.take 1 (.take 2 (.take 3 (.take 5 (.run 4 (.run 6 (.run 7 Cop.Ord.fin)))))))) (by kernel_rfl) (by kernel_rfl) (fun _ _ d _ _ h => by cases d <;> exact h) ?_
    intro wa hda
    have HSa := HS5.keep hda
    clear HS5
    (repeat (first | (refine Cop.og_skip rfl rfl HSa _ (by (simp only [Act.put, List.setIfInBounds_toArray, List.set_cons_succ, List.set_cons_zero]; rfl)) ?_) | (refine Cop.og_ld rfl rfl HSa 26 _ rfl (.pointer (some ⟨g1, 0, none⟩)) rfl _ (fun w9 h9 => load_row (h9.row 2 rfl) 26 Tryd.underlying26 rfl (dgS HLF.out)) _ (by (simp only [Act.put, List.setIfInBounds_toArray, List.set_cons_succ, List.set_cons_zero]; rfl)) ?_) | (refine Cop.og_ld rfl rfl HSa 26 _ rfl (.pointer (some ⟨g4, 0, none⟩)) rfl _ (fun w9 h9 => load_row (h9.row 0 rfl) 26 Tryd.underlying26 rfl (dgS hxl)) _ (by (simp only [Act.put, List.setIfInBounds_toArray, List.set_cons_succ, List.set_cons_zero]; rfl)) ?_) | (refine Cop.og_take rfl rfl HSa ?_; apply Exists.intro; refine ⟨fun w9 h9 => ?_, _, by (simp only [Act.put, List.setIfInBounds_toArray, List.set_cons_succ, List.set_cons_zero]; rfl), ?_⟩; (have e1 := HWI.out; have e2 := HWN.out; go_simp; with_reducible rfl))))
    refine Cop.og_run rfl rfl ?_
    refine ow_call 61 _ _ (fun w' => Below wa.heap.size wa w') (by go_simp) (J.out wa _ (HSa.rd 3 rfl)) ?_
    intro wb bb
    have HSb := HSa.keep bb
    refine ⟨fun _ => HSb, ?_⟩
    (repeat (first | (refine Cop.og_skip rfl rfl HSb _ (by (simp only [Act.put, List.setIfInBounds_toArray, List.set_cons_succ, List.set_cons_zero]; rfl)) ?_) | (refine Cop.og_ld rfl rfl HSb 26 _ rfl (.pointer (some ⟨g1, 0, none⟩)) rfl _ (fun w9 h9 => load_row (h9.row 2 rfl) 26 Tryd.underlying26 rfl (dgS HLF.out)) _ (by (simp only [Act.put, List.setIfInBounds_toArray, List.set_cons_succ, List.set_cons_zero]; rfl)) ?_) | (refine Cop.og_ld rfl rfl HSb 26 _ rfl (.pointer (some ⟨g4, 0, none⟩)) rfl _ (fun w9 h9 => load_row (h9.row 0 rfl) 26 Tryd.underlying26 rfl (dgS hxl)) _ (by (simp only [Act.put, List.setIfInBounds_toArray, List.set_cons_succ, List.set_cons_zero]; rfl)) ?_) | (refine Cop.og_take rfl rfl HSb ?_; apply Exists.intro; refine ⟨fun w9 h9 => ?_, _, by (simp only [Act.put, List.setIfInBounds_toArray, List.set_cons_succ, List.set_cons_zero]; rfl), ?_⟩; (have e1 := HWI.out; have e2 := HWN.out; go_simp; with_reducible rfl))))
    refine Cop.og_run rfl rfl ?_
    refine ow_call 24 _ _ (fun w' => Below wb.heap.size wb w') (by go_simp) (CNX.out wb) ?_
    intro wc bc
    have HSc := HSb.keep bc
    refine ⟨fun _ => HSc, ?_⟩
    (repeat (first | (refine Cop.og_skip rfl rfl HSc _ (by (simp only [Act.put, List.setIfInBounds_toArray, List.set_cons_succ, List.set_cons_zero]; rfl)) ?_) | (refine Cop.og_take rfl rfl HSc ?_; apply Exists.intro; refine ⟨fun w9 h9 => ?_, _, by (simp only [Act.put, List.setIfInBounds_toArray, List.set_cons_succ, List.set_cons_zero]; rfl), ?_⟩; (go_simp; with_reducible rfl))))
    refine Cop.og_run rfl rfl ?_
    refine ow_st HSc 1 rfl 26 _ _ rfl rfl rfl (dgS hD1) (dgE rfl hD1) (bv_one _) ?_
    intro we HSe
    refine ⟨fun h => absurd rfl h, ?_⟩
    refine og_fin ?_
    go_wp2_with fail
    exact ret_row rfl rfl g2 rfl 26 (bv D) (0, 0) _ (HSe.row 1 rfl) Tryd.underlying26 rfl (dgS hD1) ⟨rfl, HSe.hb⟩
  · rw [wg hik] at hlen ⊢
    rw [climb_snoc, if_neg (by decide)]
    have hlen2 : (way (i - k) (n - k)).length = q.length := by rw [List.length_cons] at hlen; omega
    have hE1 := climb32 nd HND.out leaf hlf (way (i - k) (n - k)) q
    have J := Lib.hid (fun w' v' (hv : Rd w' v' m 32 (dcs q)) => IH.out (n - k) (by omega) (i - k) (ii - (k : Int)) (nn - (k : Int)) q leaf v' w' (by omega) (by omega) (by omega) (by omega) hlf hql hlen2 (by omega) (by rw [hm]; exact hv))
    obtain ⟨E, hE⟩ : ∃ E, climb nd leaf (way (i - k) (n - k)) q = E := ⟨_, rfl⟩
    rw [hE] at hE1 J ⊢
    have CNX := Lib.hid (fun w' => CN.out w' x E hxl hE1)
    have hD1 := HND.out x E
    obtain ⟨D, hD⟩ : ∃ D, nd x E = D := ⟨_, rfl⟩
    rw [hD] at CNX hD1 ⊢
    have hiki : ¬ ii < (k : Int) := by omega
    have HWI := Lib.hid (show IntKind.i64.wrap (ii - (k : Int)) = ii - (k : Int) by rw [IntKind.wrap_i64]; omega)
    have HWN := Lib.hid (show IntKind.i64.wrap (nn - (k : Int)) = nn - (k : Int) by rw [IntKind.wrap_i64]; omega)
    clear hD hE hlen hlen2 hT hgx htk hL hLm hm hql hs1 hk wl wg IH hR hR1 hii hnn hin hn hone h2 hlt hps
    go_enter Tryd.func61, Tryd.ntmps61
    go_wp2_with (first | refine wl_bx HS0 rfl 26 _ rfl (bv leaf) rfl ?_)
    intro g1 w1 HS1
    go_wp2_with (first | refine wl_al HS1 rfl 26 rfl (bv (List.replicate 32 0)) (by kernel_rfl) ?_)
    intro g2 w2 HS2
    go_wp2_with fail
    (with_reducible refine Calls.mono (CH.out w2) ?_)
    rintro e w3 ⟨rfl, rfl⟩
    have hld := Lib.hid (HLD.out w2 (HS2.rd 3 rfl))
    go_wp2_with (first | refine wl_ldx rfl 26 _ rfl _ rfl (.agg (bv x)) hld.out ?_ | refine wl_al HS2 rfl 26 rfl (bv (List.replicate 32 0)) (by kernel_rfl) ?_)
    intro g4 w4 HS4
    go_wp2_with (first | refine wl_st HS4 0 rfl rfl 26 _ _ rfl rfl rfl (dgS hxl) (dgE rfl hxl) (bv_one _) ?_)
    intro w5 HS5
    clear HS0 HS1 HS2 HS4
    go_wp2_with (refine wl_sl1 rfl 22 _ _ rfl _ rfl _ rfl _ (HSL.out _ _) ?_)
    refine Cop.region_ord (fun w' => Sep w.heap.size w w' [.row g4 (bv x) 26, .row g2 (bv (List.replicate 32 0)) 26, .row g1 (bv leaf) 26, .rd (.slice A1 m c1) m 32 (dcs q), .rd (.slice (some ⟨b0, o0, none⟩) L c) L 32 (dcs T)]) 11 (.take 0 (.take 1 (.take 2 (.take 3 (.take 4 (.take 5 (.take 6 (.take 7 (.take 8 (.run 9 (.run 10 (.run 11 Cop.Ord.fin)))))))))))) (by kernel_rfl) (by kernel_rfl) (fun _ _ d _ _ h => by cases d <;> exact h) ?_
    intro wa hda
    have HSa := HS5.keep hda
    clear HS5
    (repeat (first | (refine Cop.og_skip rfl rfl HSa _ (by (simp only [Act.put, List.setIfInBounds_toArray, List.set_cons_succ, List.set_cons_zero]; rfl)) ?_) | (refine Cop.og_ld rfl rfl HSa 26 _ rfl (.pointer (some ⟨g1, 0, none⟩)) rfl _ (fun w9 h9 => load_row (h9.row 2 rfl) 26 Tryd.underlying26 rfl (dgS HLF.out)) _ (by (simp only [Act.put, List.setIfInBounds_toArray, List.set_cons_succ, List.set_cons_zero]; rfl)) ?_) | (refine Cop.og_ld rfl rfl HSa 26 _ rfl (.pointer (some ⟨g4, 0, none⟩)) rfl _ (fun w9 h9 => load_row (h9.row 0 rfl) 26 Tryd.underlying26 rfl (dgS hxl)) _ (by (simp only [Act.put, List.setIfInBounds_toArray, List.set_cons_succ, List.set_cons_zero]; rfl)) ?_) | (refine Cop.og_take rfl rfl HSa ?_; apply Exists.intro; refine ⟨fun w9 h9 => ?_, _, by (simp only [Act.put, List.setIfInBounds_toArray, List.set_cons_succ, List.set_cons_zero]; rfl), ?_⟩; (have e1 := HWI.out; have e2 := HWN.out; go_simp; with_reducible rfl))))
    refine Cop.og_run rfl rfl ?_
    refine ow_call 61 _ _ (fun w' => Below wa.heap.size wa w') (by go_simp) (J.out wa _ (HSa.rd 3 rfl)) ?_
    intro wb bb
    have HSb := HSa.keep bb
    refine ⟨fun _ => HSb, ?_⟩
    (repeat (first | (refine Cop.og_skip rfl rfl HSb _ (by (simp only [Act.put, List.setIfInBounds_toArray, List.set_cons_succ, List.set_cons_zero]; rfl)) ?_) | (refine Cop.og_ld rfl rfl HSb 26 _ rfl (.pointer (some ⟨g1, 0, none⟩)) rfl _ (fun w9 h9 => load_row (h9.row 2 rfl) 26 Tryd.underlying26 rfl (dgS HLF.out)) _ (by (simp only [Act.put, List.setIfInBounds_toArray, List.set_cons_succ, List.set_cons_zero]; rfl)) ?_) | (refine Cop.og_ld rfl rfl HSb 26 _ rfl (.pointer (some ⟨g4, 0, none⟩)) rfl _ (fun w9 h9 => load_row (h9.row 0 rfl) 26 Tryd.underlying26 rfl (dgS hxl)) _ (by (simp only [Act.put, List.setIfInBounds_toArray, List.set_cons_succ, List.set_cons_zero]; rfl)) ?_) | (refine Cop.og_take rfl rfl HSb ?_; apply Exists.intro; refine ⟨fun w9 h9 => ?_, _, by (simp only [Act.put, List.setIfInBounds_toArray, List.set_cons_succ, List.set_cons_zero]; rfl), ?_⟩; (have e1 := HWI.out; have e2 := HWN.out; go_simp; with_reducible rfl))))
    refine Cop.og_run rfl rfl ?_
    refine ow_call 24 _ _ (fun w' => Below wb.heap.size wb w') (by go_simp) (CNX.out wb) ?_
    intro wc bc
    have HSc := HSb.keep bc
    refine ⟨fun _ => HSc, ?_⟩
    (repeat (first | (refine Cop.og_skip rfl rfl HSc _ (by (simp only [Act.put, List.setIfInBounds_toArray, List.set_cons_succ, List.set_cons_zero]; rfl)) ?_) | (refine Cop.og_take rfl rfl HSc ?_; apply Exists.intro; refine ⟨fun w9 h9 => ?_, _, by (simp only [Act.put, List.setIfInBounds_toArray, List.set_cons_succ, List.set_cons_zero]; rfl), ?_⟩; (go_simp; with_reducible rfl))))
    refine Cop.og_run rfl rfl ?_
    refine ow_st HSc 1 rfl 26 _ _ rfl rfl rfl (dgS hD1) (dgE rfl hD1) (bv_one _) ?_
    intro we HSe
    refine ⟨fun h => absurd rfl h, ?_⟩
    refine og_fin ?_
    go_wp2_with fail
    exact ret_row rfl rfl g2 rfl 26 (bv D) (0, 0) _ (HSe.row 1 rfl) Tryd.underlying26 rfl (dgS hD1) ⟨rfl, HSe.hb⟩
end Go.Proofs.YtbdmehgbdnninaaDoor
