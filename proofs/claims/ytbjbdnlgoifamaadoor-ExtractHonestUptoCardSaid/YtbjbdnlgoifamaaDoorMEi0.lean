/- The reference's way up from a leaf; lent and kept. A writer that is passed over in a drawn region. Both Roots of a path, both Inclusions. within: a number from lo to hi. -/
import Derived.Test.YtbjbdnlgoifamaaDoorVr
import Derived.Test.YtbjbdnlgoifamaaDoorTr
import Derived.Test.YtbjbdnlgoifamaaDoorOg
import Derived.Test.YtbjbdnlgoifamaaDoorDg
namespace Go.Proofs.YtbjbdnlgoifamaaDoor
open Go.RowKit Cop
set_option linter.unusedVariables false
set_option linter.unusedSimpArgs false
theorem climb32 (nd : List UInt8 → List UInt8 → List UInt8) (hnd : ∀ a b, (nd a b).length = 32) (leaf : List UInt8) (hlf : leaf.length = 32) : ∀ (ts : List Bool) (p : List (List UInt8)), (climb nd leaf ts p).length = 32 := by
  intro ts
  induction ts with
  | nil => intro p; simpa [climb] using hlf
  | cons t ts ih =>
    intro p
    unfold climb
    split
    · exact hlf
    · split <;> exact hnd _ _
set_option maxRecDepth 100000 in
set_option maxHeartbeats 4000000 in
theorem up_gen (nd : List UInt8 → List UInt8 → List UInt8) (hnd : ∀ a b, (nd a b).length = 32)
    (hCN : ∀ w' a b, a.length = 32 → b.length = 32 → Gives 99 #[.agg (bv a), .agg (bv b)] w' (.agg (bv (nd a b)))) :
    ∀ (n i : Nat) (ii nn : Int) (path : List (List UInt8)) (leaf : List UInt8) (v : Value) (w : World), ii = (i : Int) → nn = (n : Int) → i < n → n ≤ 281474976710656 → leaf.length = 32 → AllD path → (way i n).length = path.length → path.length ≤ 4398046511104 → Rd w v path.length 32 (dcs path) →
      Gives 89 #[.agg (bv leaf), .int .i64 ii, .int .i64 nn, v] w (.agg (bv (climb nd leaf (way i n) path))) := by
  have HND := Lib.hid hnd
  have CN := Lib.hid hCN
  clear hnd hCN
  intro n
  induction n using Nat.strongRecOn with
  | ind n ih =>
  intro i ii nn path leaf v w hii hnn hin hn hlf hp hlen hpl hR
  have IH := Lib.hid ih
  have HP := Lib.hid hp
  have HLF := Lib.hid hlf
  clear ih hp
  by_cases hone : n = 1
  · have hc : climb nd leaf (way i n) path = leaf := by rw [way_one (by omega)]; rfl
    rw [hc]
    have HS0 := (Sep.start w).arg0 hR
    obtain rfl : nn = 1 := by omega
    obtain ⟨A, c, rfl, _, _⟩ := hR.shape
    clear IH hii hnn hlen hc hR hone hin hn hpl
    go_enter Tryd.func89, Tryd.ntmps89
    go_wp2_with (first | refine wl_bx HS0 rfl 24 _ rfl (bv leaf) rfl ?_)
    intro g1 w1 HS1
    go_wp2_with (first | refine wl_al HS1 rfl 24 rfl (bv (List.replicate 32 0)) (by kernel_rfl) ?_)
    intro g2 w2 HS2
    go_wp2_with (first | refine wl_ld HS2 1 rfl rfl 24 _ rfl rfl Tryd.underlying24 rfl (dgS hlf) ?_ | refine wl_st HS2 0 rfl rfl 24 _ _ rfl rfl rfl (dgS hlf) (dgE rfl hlf) (bv_one _) ?_)
    intro w3 HS3
    go_wp2_with fail
    exact ret_row rfl rfl g2 rfl 24 (bv leaf) (0, 0) _ (HS3.row 0 rfl) Tryd.underlying24 rfl (dgS hlf) ⟨rfl, HS3.hb⟩
  have h2 : 2 ≤ n := by omega
  have hlt := hf_lt h2
  have hps := hf_pos n
  have CH := Lib.hid (fun w => half64n n w h2 hn)
  have wl := way_lt (i := i) h2
  have wg := way_ge (i := i) h2
  obtain ⟨k, hk⟩ : ∃ k, hf n = k := ⟨_, rfl⟩
  rw [hk] at CH hlt hps wl wg
  rcases List.eq_nil_or_concat path with rfl | ⟨q, x, hqx⟩
  · exfalso
    by_cases hik : i < k
    · rw [wl hik] at hlen; simp at hlen
    · rw [wg hik] at hlen; simp at hlen
  rw [List.concat_eq_append] at hqx
  subst hqx
  have hxl : x.length = 32 := HP.out x (by simp)
  have hql : AllD q := fun y hy => HP.out y (by simp [hy])
  obtain ⟨m, hm⟩ : ∃ m, q.length = m := ⟨_, rfl⟩
  obtain ⟨L, hL⟩ : ∃ L, (q ++ [x]).length = L := ⟨_, rfl⟩
  have hLm : L = m + 1 := by rw [← hL]; simp [hm]
  obtain ⟨A1, c1, hR1, _, _, hs1⟩ := rd_dto hR HP.out m (by omega)
  have htk : (q ++ [x]).take m = q := List.take_left' hm
  rw [htk] at hR1
  have hgx : (q ++ [x]).getD m [] = x := by rw [← hm]; simp
  rw [hL] at hR hlen hpl
  obtain ⟨A, c, rfl, _, _⟩ := hR.shape
  obtain ⟨b0, o0, rfl⟩ := rd_some hR (by omega)
  have HLD := Lib.hid (fun W (h : Rd W (.slice (some ⟨b0, o0, none⟩) L c) L 32 (dcs (q ++ [x]))) => load_dg h hL.symm HP.out m (by omega) x hgx)
  have HSL := Lib.hid hs1
  have hmi : (L : Int) - 1 = (m : Int) := by omega
  have hmlt : (m : Int) < (L : Int) := by omega
  have hmb : (m : Int) ≤ 4398046511104 := by omega
  have hne : ¬ nn = 1 := by omega
  have hneb : (nn == 1) = false := by rw [beq_eq_false_iff_ne]; exact hne
  have hi0 : 0 ≤ ii := by omega
  have hi1 : ii ≤ 281474976710656 := by omega
  have hn0 : 0 ≤ nn := by omega
  have hn1 : nn ≤ 281474976710656 := by omega
  have hk0 : (k : Int) ≤ 281474976710656 := by omega
  rw [← hnn] at CH
  have HS0 := ((Sep.start w).arg0 hR).arg0 hR1
  obtain ⟨T, hT⟩ : ∃ T, q ++ [x] = T := ⟨_, rfl⟩
  rw [hT] at HS0 HLD
  have HTX := Lib.hid hT
  by_cases hik : i < k
  · rw [wl hik] at hlen ⊢
    rw [climb_snoc, if_pos rfl]
    have hlen2 : (way i k).length = q.length := by rw [List.length_cons] at hlen; omega
    have hE1 := climb32 nd HND.out leaf hlf (way i k) q
    have J := Lib.hid (fun w' v' (hv : Rd w' v' m 32 (dcs q)) => IH.out (k) (by omega) (i) (ii) ((k : Int)) q leaf v' w' (by omega) (by omega) (by omega) (by omega) hlf hql hlen2 (by omega) (by rw [hm]; exact hv))
    obtain ⟨E, hE⟩ : ∃ E, climb nd leaf (way i k) q = E := ⟨_, rfl⟩
    rw [hE] at hE1 J ⊢
    have CNX := Lib.hid (fun w' => CN.out w' E x hE1 hxl)
    have hD1 := HND.out E x
    obtain ⟨D, hD⟩ : ∃ D, nd E x = D := ⟨_, rfl⟩
    rw [hD] at CNX hD1 ⊢
    have hiki : ii < (k : Int) := by omega
    have HWI := Lib.hid (show IntKind.i64.wrap (ii - (k : Int)) = ii - (k : Int) by rw [IntKind.wrap_i64]; omega)
    have HWN := Lib.hid (show IntKind.i64.wrap (nn - (k : Int)) = nn - (k : Int) by rw [IntKind.wrap_i64]; omega)
    clear hD hE hlen hlen2 hT hgx htk hL hLm hm hql hs1 hk wl wg IH hR hR1 hii hnn hin hn hone h2 hlt hps
    go_enter Tryd.func89, Tryd.ntmps89
    go_wp2_with (first | refine wl_bx HS0 rfl 24 _ rfl (bv leaf) rfl ?_)
    intro g1 w1 HS1
    go_wp2_with (first | refine wl_al HS1 rfl 24 rfl (bv (List.replicate 32 0)) (by kernel_rfl) ?_)
    intro g2 w2 HS2
    go_wp2_with fail
    (with_reducible refine Calls.mono (CH.out w2) ?_)
    rintro e w3 ⟨rfl, rfl⟩
    have hld := Lib.hid (HLD.out w2 (HS2.rd 3 rfl))
    go_wp2_with (first | refine wl_ldx rfl 24 _ rfl _ rfl (.agg (bv x)) hld.out ?_ | refine wl_al HS2 rfl 24 rfl (bv (List.replicate 32 0)) (by kernel_rfl) ?_)
    intro g4 w4 HS4
    go_wp2_with (first | refine wl_st HS4 0 rfl rfl 24 _ _ rfl rfl rfl (dgS hxl) (dgE rfl hxl) (bv_one _) ?_)
    intro w5 HS5
    clear HS0 HS1 HS2 HS4
    go_wp2_with (refine wl_sl1 rfl 28 _ _ rfl _ rfl _ rfl _ (HSL.out _ _) ?_)
    refine Cop.region_ord (fun w' => Sep w.heap.size w w' [.row g4 (bv x) 24, .row g2 (bv (List.replicate 32 0)) 24, .row g1 (bv leaf) 24, .rd (.slice A1 m c1) m 32 (dcs q), .rd (.slice (some ⟨b0, o0, none⟩) L c) L 32 (dcs T)]) 7 (.take 0 (.take 1 (.take 2 (.take 3 (.take 5 (.run 4 (.run 6 (.run 7 Cop.Ord.fin)))))))) (by kernel_rfl) (by kernel_rfl) (fun _ _ d _ _ h => by cases d <;> exact h) ?_
    intro wa hda
    have HSa := HS5.keep hda
    clear HS5
    (repeat (first | (refine Cop.og_skip rfl rfl HSa _ (by (simp only [Act.put, List.setIfInBounds_toArray, List.set_cons_succ, List.set_cons_zero]; rfl)) ?_) | (refine Cop.og_ld rfl rfl HSa 24 _ rfl (.pointer (some ⟨g1, 0, none⟩)) rfl _ (fun w9 h9 => load_row (h9.row 2 rfl) 24 Tryd.underlying24 rfl (dgS HLF.out)) _ (by (simp only [Act.put, List.setIfInBounds_toArray, List.set_cons_succ, List.set_cons_zero]; rfl)) ?_) | (refine Cop.og_ld rfl rfl HSa 24 _ rfl (.pointer (some ⟨g4, 0, none⟩)) rfl _ (fun w9 h9 => load_row (h9.row 0 rfl) 24 Tryd.underlying24 rfl (dgS hxl)) _ (by (simp only [Act.put, List.setIfInBounds_toArray, List.set_cons_succ, List.set_cons_zero]; rfl)) ?_) | (refine Cop.og_take rfl rfl HSa ?_; apply Exists.intro; refine ⟨fun w9 h9 => ?_, _, by (simp only [Act.put, List.setIfInBounds_toArray, List.set_cons_succ, List.set_cons_zero]; rfl), ?_⟩; (have e1 := HWI.out; have e2 := HWN.out; go_simp; with_reducible rfl))))
    refine Cop.og_run rfl rfl ?_
    refine ow_call 89 _ _ (fun w' => Below wa.heap.size wa w') (by go_simp) (J.out wa _ (HSa.rd 3 rfl)) ?_
    intro wb bb
    have HSb := HSa.keep bb
    refine ⟨fun _ => HSb, ?_⟩
    (repeat (first | (refine Cop.og_skip rfl rfl HSb _ (by (simp only [Act.put, List.setIfInBounds_toArray, List.set_cons_succ, List.set_cons_zero]; rfl)) ?_) | (refine Cop.og_ld rfl rfl HSb 24 _ rfl (.pointer (some ⟨g1, 0, none⟩)) rfl _ (fun w9 h9 => load_row (h9.row 2 rfl) 24 Tryd.underlying24 rfl (dgS HLF.out)) _ (by (simp only [Act.put, List.setIfInBounds_toArray, List.set_cons_succ, List.set_cons_zero]; rfl)) ?_) | (refine Cop.og_ld rfl rfl HSb 24 _ rfl (.pointer (some ⟨g4, 0, none⟩)) rfl _ (fun w9 h9 => load_row (h9.row 0 rfl) 24 Tryd.underlying24 rfl (dgS hxl)) _ (by (simp only [Act.put, List.setIfInBounds_toArray, List.set_cons_succ, List.set_cons_zero]; rfl)) ?_) | (refine Cop.og_take rfl rfl HSb ?_; apply Exists.intro; refine ⟨fun w9 h9 => ?_, _, by (simp only [Act.put, List.setIfInBounds_toArray, List.set_cons_succ, List.set_cons_zero]; rfl), ?_⟩; (have e1 := HWI.out; have e2 := HWN.out; go_simp; with_reducible rfl))))
    refine Cop.og_run rfl rfl ?_
    refine ow_call 99 _ _ (fun w' => Below wb.heap.size wb w') (by go_simp) (CNX.out wb) ?_
    intro wc bc
    have HSc := HSb.keep bc
    refine ⟨fun _ => HSc, ?_⟩
    (repeat (first | (refine Cop.og_skip rfl rfl HSc _ (by (simp only [Act.put, List.setIfInBounds_toArray, List.set_cons_succ, List.set_cons_zero]; rfl)) ?_) | (refine Cop.og_take rfl rfl HSc ?_; apply Exists.intro; refine ⟨fun w9 h9 => ?_, _, by (simp only [Act.put, List.setIfInBounds_toArray, List.set_cons_succ, List.set_cons_zero]; rfl), ?_⟩; (go_simp; with_reducible rfl))))
    refine Cop.og_run rfl rfl ?_
    refine ow_st HSc 1 rfl 24 _ _ rfl rfl rfl (dgS hD1) (dgE rfl hD1) (bv_one _) ?_
    intro we HSe
    refine ⟨fun h => absurd rfl h, ?_⟩
    refine og_fin ?_
    go_wp2_with fail
    exact ret_row rfl rfl g2 rfl 24 (bv D) (0, 0) _ (HSe.row 1 rfl) Tryd.underlying24 rfl (dgS hD1) ⟨rfl, HSe.hb⟩
  · rw [wg hik] at hlen ⊢
    rw [climb_snoc, if_neg (by decide)]
    have hlen2 : (way (i - k) (n - k)).length = q.length := by rw [List.length_cons] at hlen; omega
    have hE1 := climb32 nd HND.out leaf hlf (way (i - k) (n - k)) q
    have J := Lib.hid (fun w' v' (hv : Rd w' v' m 32 (dcs q)) => IH.out (n - k) (by omega) (i - k) (ii - (k : Int)) (nn - (k : Int)) q leaf v' w' (by omega) (by omega) (by omega) (by omega) hlf hql hlen2 (by omega) (by rw [hm]; exact hv))
    obtain ⟨E, hE⟩ : ∃ E, climb nd leaf (way (i - k) (n - k)) q = E := ⟨_, rfl⟩
    rw [hE] at hE1 J ⊢
    have CNX := Lib.hid (fun w' => CN.out w' x E hxl hE1)
    have hD1 := HND.out x E
    obtain ⟨D, hD⟩ : ∃ D, nd x E = D := ⟨_, rfl⟩
    rw [hD] at CNX hD1 ⊢
    have hiki : ¬ ii < (k : Int) := by omega
    have HWI := Lib.hid (show IntKind.i64.wrap (ii - (k : Int)) = ii - (k : Int) by rw [IntKind.wrap_i64]; omega)
    have HWN := Lib.hid (show IntKind.i64.wrap (nn - (k : Int)) = nn - (k : Int) by rw [IntKind.wrap_i64]; omega)
    clear hD hE hlen hlen2 hT hgx htk hL hLm hm hql hs1 hk wl wg IH hR hR1 hii hnn hin hn hone h2 hlt hps
    go_enter Tryd.func89, Tryd.ntmps89
    go_wp2_with (first | refine wl_bx HS0 rfl 24 _ rfl (bv leaf) rfl ?_)
    intro g1 w1 HS1
    go_wp2_with (first | refine wl_al HS1 rfl 24 rfl (bv (List.replicate 32 0)) (by kernel_rfl) ?_)
    intro g2 w2 HS2
    go_wp2_with fail
    (with_reducible refine Calls.mono (CH.out w2) ?_)
    rintro e w3 ⟨rfl, rfl⟩
    have hld := Lib.hid (HLD.out w2 (HS2.rd 3 rfl))
    go_wp2_with (first | refine wl_ldx rfl 24 _ rfl _ rfl (.agg (bv x)) hld.out ?_ | refine wl_al HS2 rfl 24 rfl (bv (List.replicate 32 0)) (by kernel_rfl) ?_)
    intro g4 w4 HS4
    go_wp2_with (first | refine wl_st HS4 0 rfl rfl 24 _ _ rfl rfl rfl (dgS hxl) (dgE rfl hxl) (bv_one _) ?_)
    intro w5 HS5
    clear HS0 HS1 HS2 HS4
    go_wp2_with (refine wl_sl1 rfl 28 _ _ rfl _ rfl _ rfl _ (HSL.out _ _) ?_)
    refine Cop.region_ord (fun w' => Sep w.heap.size w w' [.row g4 (bv x) 24, .row g2 (bv (List.replicate 32 0)) 24, .row g1 (bv leaf) 24, .rd (.slice A1 m c1) m 32 (dcs q), .rd (.slice (some ⟨b0, o0, none⟩) L c) L 32 (dcs T)]) 11 (.take 0 (.take 1 (.take 2 (.take 3 (.take 4 (.take 5 (.take 6 (.take 7 (.take 8 (.run 9 (.run 10 (.run 11 Cop.Ord.fin)))))))))))) (by kernel_rfl) (by kernel_rfl) (fun _ _ d _ _ h => by cases d <;> exact h) ?_
    intro wa hda
    have HSa := HS5.keep hda
    clear HS5
    (repeat (first | (refine Cop.og_skip rfl rfl HSa _ (by (simp only [Act.put, List.setIfInBounds_toArray, List.set_cons_succ, List.set_cons_zero]; rfl)) ?_) | (refine Cop.og_ld rfl rfl HSa 24 _ rfl (.pointer (some ⟨g1, 0, none⟩)) rfl _ (fun w9 h9 => load_row (h9.row 2 rfl) 24 Tryd.underlying24 rfl (dgS HLF.out)) _ (by (simp only [Act.put, List.setIfInBounds_toArray, List.set_cons_succ, List.set_cons_zero]; rfl)) ?_) | (refine Cop.og_ld rfl rfl HSa 24 _ rfl (.pointer (some ⟨g4, 0, none⟩)) rfl _ (fun w9 h9 => load_row (h9.row 0 rfl) 24 Tryd.underlying24 rfl (dgS hxl)) _ (by (simp only [Act.put, List.setIfInBounds_toArray, List.set_cons_succ, List.set_cons_zero]; rfl)) ?_) | (refine Cop.og_take rfl rfl HSa ?_; apply Exists.intro; refine ⟨fun w9 h9 => ?_, _, by (simp only [Act.put, List.setIfInBounds_toArray, List.set_cons_succ, List.set_cons_zero]; rfl), ?_⟩; (have e1 := HWI.out; have e2 := HWN.out; go_simp; with_reducible rfl))))
    refine Cop.og_run rfl rfl ?_
    refine ow_call 89 _ _ (fun w' => Below wa.heap.size wa w') (by go_simp) (J.out wa _ (HSa.rd 3 rfl)) ?_
    intro wb bb
    have HSb := HSa.keep bb
    refine ⟨fun _ => HSb, ?_⟩
    (repeat (first | (refine Cop.og_skip rfl rfl HSb _ (by (simp only [Act.put, List.setIfInBounds_toArray, List.set_cons_succ, List.set_cons_zero]; rfl)) ?_) | (refine Cop.og_ld rfl rfl HSb 24 _ rfl (.pointer (some ⟨g1, 0, none⟩)) rfl _ (fun w9 h9 => load_row (h9.row 2 rfl) 24 Tryd.underlying24 rfl (dgS HLF.out)) _ (by (simp only [Act.put, List.setIfInBounds_toArray, List.set_cons_succ, List.set_cons_zero]; rfl)) ?_) | (refine Cop.og_ld rfl rfl HSb 24 _ rfl (.pointer (some ⟨g4, 0, none⟩)) rfl _ (fun w9 h9 => load_row (h9.row 0 rfl) 24 Tryd.underlying24 rfl (dgS hxl)) _ (by (simp only [Act.put, List.setIfInBounds_toArray, List.set_cons_succ, List.set_cons_zero]; rfl)) ?_) | (refine Cop.og_take rfl rfl HSb ?_; apply Exists.intro; refine ⟨fun w9 h9 => ?_, _, by (simp only [Act.put, List.setIfInBounds_toArray, List.set_cons_succ, List.set_cons_zero]; rfl), ?_⟩; (have e1 := HWI.out; have e2 := HWN.out; go_simp; with_reducible rfl))))
    refine Cop.og_run rfl rfl ?_
    refine ow_call 99 _ _ (fun w' => Below wb.heap.size wb w') (by go_simp) (CNX.out wb) ?_
    intro wc bc
    have HSc := HSb.keep bc
    refine ⟨fun _ => HSc, ?_⟩
    (repeat (first | (refine Cop.og_skip rfl rfl HSc _ (by (simp only [Act.put, List.setIfInBounds_toArray, List.set_cons_succ, List.set_cons_zero]; rfl)) ?_) | (refine Cop.og_take rfl rfl HSc ?_; apply Exists.intro; refine ⟨fun w9 h9 => ?_, _, by (simp only [Act.put, List.setIfInBounds_toArray, List.set_cons_succ, List.set_cons_zero]; rfl), ?_⟩; (go_simp; with_reducible rfl))))
    refine Cop.og_run rfl rfl ?_
    refine ow_st HSc 1 rfl 24 _ _ rfl rfl rfl (dgS hD1) (dgE rfl hD1) (bv_one _) ?_
    intro we HSe
    refine ⟨fun h => absurd rfl h, ?_⟩
    refine og_fin ?_
    go_wp2_with fail
    exact ret_row rfl rfl g2 rfl 24 (bv D) (0, 0) _ (HSe.row 1 rfl) Tryd.underlying24 rfl (dgS hD1) ⟨rfl, HSe.hb⟩
end Go.Proofs.YtbjbdnlgoifamaaDoor
set_option linter.unusedVariables false
namespace Cop
open Go Go.RowKit
section
variable {P : Program} {Q : Exit → Act → World → Prop} {S : World → Prop} {z : Nat} {l : List Oper} {a : Act} {w : World} {i : Nat} {k : Ord} {o : Oper}
theorem og_rskip (ho : l[i]? = some o) (hw : Region.wanted o (yielded l.toArray a.tmps) = false) (hS : S w) (a' : Act) (ha : a.put o.dst undef = a') (h : Shut 0 (wpOrd P l.toArray Q S z k a' w)) :
    Shut 0 (wpOrd P l.toArray Q S z (.run i k) a w) := by
  subst ha
  refine ⟨?_⟩
  unfold wpOrd wpOp
  rw [show l.toArray[i]? = some o by simpa using ho]
  simp only [hw, Bool.false_eq_true, if_false]
  exact ⟨fun _ => hS, h.out⟩
end
end Cop
namespace Go.Proofs.YtbjbdnlgoifamaaDoor
open Go.RowKit Cop
set_option linter.unusedVariables false
set_option linter.unusedSimpArgs false
theorem fold32d (nd : List UInt8 → List UInt8 → List UInt8) (hnd : ∀ a b, (nd a b).length = 32) : ∀ (l : List (Bool × List UInt8)) (d : List UInt8), d.length = 32 → (l.foldl (fun d q => if q.1 then nd d q.2 else nd q.2 d) d).length = 32 := by
  intro l
  induction l with
  | nil => intro d hd; exact hd
  | cons q l ih =>
    intro d hd
    rw [List.foldl_cons]
    refine ih _ ?_
    split <;> exact hnd _ _
theorem climb_steps (nd : List UInt8 → List UInt8 → List UInt8) (hnd : ∀ a b, (nd a b).length = 32) (leaf : List UInt8) (hlf : leaf.length = 32) (ts : List Bool) (p : List (List UInt8)) (h : ts.length = p.length) :
    ∃ D : Nat → List UInt8, D 0 = leaf ∧ D p.length = climb nd leaf ts p ∧ (∀ k, (D k).length = 32) ∧ (∀ k, k < p.length → ts.getD (p.length - 1 - k) false = true → D (k + 1) = nd (D k) (p.getD k [])) ∧ (∀ k, k < p.length → ts.getD (p.length - 1 - k) false = false → D (k + 1) = nd (p.getD k []) (D k)) := by
  have key : ∀ k, k < p.length → (ts.reverse.zip p).take (k + 1) = (ts.reverse.zip p).take k ++ [(ts.getD (p.length - 1 - k) false, p.getD k [])] := by
    intro k hk
    have h1 : k < (ts.reverse.zip p).length := by simp [List.length_zip]; omega
    rw [List.take_add_one, List.getElem?_eq_getElem h1, List.getElem_zip, List.getElem_reverse]
    simp [List.getD, hk, h, show p.length - 1 - k < p.length from by omega]
  refine ⟨fun k => ((ts.reverse.zip p).take k).foldl (fun d q => if q.1 then nd d q.2 else nd q.2 d) leaf, by simp, ?_, fun k => fold32d nd hnd _ _ hlf, fun k hk ht => ?_, fun k hk ht => ?_⟩
  · show ((ts.reverse.zip p).take p.length).foldl _ leaf = _
    rw [List.take_of_length_le (by rw [List.length_zip]; omega), ← climb_fold nd leaf ts p h]
  · show ((ts.reverse.zip p).take (k + 1)).foldl _ leaf = _
    rw [key k hk, List.foldl_append, ht]
    rfl
  · show ((ts.reverse.zip p).take (k + 1)).foldl _ leaf = _
    rw [key k hk, List.foldl_append, ht]
    rfl
set_option maxHeartbeats 4000000 in
theorem rroot_bad (leaf : List UInt8) (i n : Int) (v : Value) (w : World) (h : ¬ okI i n) : Gives 72 #[.agg (bv leaf), .int .i64 i, .int .i64 n, v] w (.tuple #[.agg (bv (List.replicate 32 0)), .int .i64 40]) := by
  have CB := Lib.hid (fun w => rlength_bad i n w h)
  have HS0 := Sep.start w
  clear h
  go_enter Tryd.func72, Tryd.ntmps72
  go_wp2_with (first | refine wl_bx HS0 rfl 24 _ rfl (bv leaf) rfl ?_)
  intro g1 w1 HS1
  go_wp2_with (first | refine wl_al HS1 rfl 24 rfl (bv (List.replicate 32 0)) (by kernel_rfl) ?_)
  intro g2 w2 HS2
  go_wp2_with fail
  (with_reducible refine Calls.mono (CB.out w2) ?_)
  rintro e wx ⟨rfl, rfl⟩
  go_wp2_with (first | refine wl_st HS2 0 rfl rfl 24 _ _ rfl rfl (cs := bv (List.replicate 32 0)) rfl (dgS rfl) rfl (bv_one _) ?_)
  intro w3 HS3
  go_wp2_with fail
  exact ret_row_tmp rfl rfl g2 rfl 24 (bv (List.replicate 32 0)) (0, 0) _ (HS3.row 0 rfl) Tryd.underlying24 rfl (dgS rfl) (.int .i64 40) rfl ⟨rfl, HS3.hb⟩
set_option maxHeartbeats 4000000 in
theorem rroot_short (leaf : List UInt8) (i n : Nat) (A : Option Addr) (m c : Nat) (w : World) (hi : i < n) (hn : n ≤ 281474976710656) (hne : (way i n).length ≠ m) : Gives 72 #[.agg (bv leaf), .int .i64 i, .int .i64 n, .slice A m c] w (.tuple #[.agg (bv (List.replicate 32 0)), .int .i64 70]) := by
  have CB := Lib.hid (fun w => rlength_ok i n w hi hn)
  obtain ⟨L, hL⟩ : ∃ L, (way i n).length = L := ⟨_, rfl⟩
  rw [hL] at CB hne
  have HS0 := Sep.start w
  have hne2 : ¬ (m : Int) = (L : Int) := by omega
  clear hL hne
  go_enter Tryd.func72, Tryd.ntmps72
  go_wp2_with (first | refine wl_bx HS0 rfl 24 _ rfl (bv leaf) rfl ?_)
  intro g1 w1 HS1
  go_wp2_with (first | refine wl_al HS1 rfl 24 rfl (bv (List.replicate 32 0)) (by kernel_rfl) ?_)
  intro g2 w2 HS2
  go_wp2_with fail
  (with_reducible refine Calls.mono (CB.out w2) ?_)
  rintro e wx ⟨rfl, rfl⟩
  go_wp2_with (first | refine wl_st HS2 0 rfl rfl 24 _ _ rfl rfl (cs := bv (List.replicate 32 0)) rfl (dgS rfl) rfl (bv_one _) ?_)
  intro w3 HS3
  go_wp2_with fail
  exact ret_row_tmp rfl rfl g2 rfl 24 (bv (List.replicate 32 0)) (0, 0) _ (HS3.row 0 rfl) Tryd.underlying24 rfl (dgS rfl) (.int .i64 70) rfl ⟨rfl, HS3.hb⟩
set_option maxHeartbeats 4000000 in
theorem rroot_ok (leaf : List UInt8) (i n m : Nat) (A : Option Addr) (c : Nat) (X : List UInt8) (w : World) (hlf : leaf.length = 32) (hX : X.length = 32) (hi : i < n) (hn : n ≤ 281474976710656) (hm : (way i n).length = m)
    (hC : ∀ w', Below w.heap.size w w' → Gives 89 #[.agg (bv leaf), .int .i64 i, .int .i64 n, .slice A m c] w' (.agg (bv X))) :
    Gives 72 #[.agg (bv leaf), .int .i64 i, .int .i64 n, .slice A m c] w (.tuple #[.agg (bv X), .int .i64 0]) := by
  have CB := Lib.hid (fun w => rlength_ok i n w hi hn)
  have CU := Lib.hid hC
  rw [hm] at CB
  have HS0 := Sep.start w
  clear hm hC
  go_enter Tryd.func72, Tryd.ntmps72
  go_wp2_with (first | refine wl_bx HS0 rfl 24 _ rfl (bv leaf) rfl ?_)
  intro g1 w1 HS1
  go_wp2_with (first | refine wl_al HS1 rfl 24 rfl (bv (List.replicate 32 0)) (by kernel_rfl) ?_)
  intro g2 w2 HS2
  go_wp2_with fail
  (with_reducible refine Calls.mono (CB.out w2) ?_)
  rintro e wx ⟨rfl, rfl⟩
  go_wp2_with (first | refine wl_ld HS2 1 rfl rfl 24 _ rfl rfl Tryd.underlying24 rfl (dgS hlf) ?_)
  (with_reducible refine Calls.mono (CU.out w2 HS2.hb) ?_)
  rintro e w3 ⟨rfl, b3⟩
  have HS3 := HS2.keep b3
  clear HS2
  go_wp2_with (first | refine wl_st HS3 0 rfl rfl 24 _ _ rfl rfl rfl (dgS hX) (dgE rfl hX) (bv_one _) ?_)
  intro w4 HS4
  go_wp2_with fail
  exact ret_row_tmp rfl rfl g2 rfl 24 (bv X) (0, 0) _ (HS4.row 0 rfl) Tryd.underlying24 rfl (dgS hX) (.int .i64 0) rfl ⟨rfl, HS4.hb⟩
/-- Where a path leads, by both. -/
theorem root_ab7 (leaf : List UInt8) (path : List (List UInt8)) (i n : Int) (w : World) (hT : Tab w) (hlf : leaf.length = 32) (hp : AllD path) (hpl : path.length ≤ 4398046511104) : ∃ (X : List UInt8) (E : Int), X.length = 32 ∧
    (∀ w' v, Below w.heap.size w w' → Rd w' v path.length 32 (dcs path) → Gives 56 #[.agg (bv leaf), .int .i64 i, .int .i64 n, v] w' (.tuple #[.agg (bv X), .int .i64 E])) ∧
    (∀ w' v, Rd w' v path.length 32 (dcs path) → Gives 72 #[.agg (bv leaf), .int .i64 i, .int .i64 n, v] w' (.tuple #[.agg (bv X), .int .i64 E])) := by
  by_cases hok : okI i n
  · obtain ⟨h1, h2, h3, h4⟩ := hok
    obtain ⟨a, rfl⟩ : ∃ a : Nat, i = (a : Int) := ⟨i.toNat, by omega⟩
    obtain ⟨b, rfl⟩ : ∃ b : Nat, n = (b : Int) := ⟨n.toNat, by omega⟩
    have hab : a < b := by omega
    have hb : b ≤ 281474976710656 := by omega
    have hw48 := way_len 48 b a (by omega)
    by_cases hlen : (way a b).length = path.length
    · obtain ⟨D, hD0, hDL, hDl, hDt, hDf⟩ := climb_steps nodeD nodeD_length leaf hlf (way a b) path hlen
      refine ⟨climb nodeD leaf (way a b) path, 0, climb32 nodeD nodeD_length leaf hlf _ _, fun w' v hbl hR => ?_, fun w' v hR => ?_⟩
      · rw [← hDL]
        exact vroot_gen nodeD D (way a b) path leaf a b v w' hab hb hw48 hlen hp hlf hR hD0 hDl hDt hDf (fun w2 => way54 a b w2 hab hb) (fun w2 x y hb2 hx hy => node_a x y w2 ((hT.below hbl).below hb2) hx hy)
      · have hU := fun w2 (hb2 : Below w'.heap.size w' w2) => up_gen nodeD nodeD_length (fun w3 x y hx hy => node_b x y w3 hx hy) b a a b path leaf v w2 rfl rfl hab hb hlf hp hlen hpl (hR.below hb2)
        obtain ⟨A, c, rfl, _, _⟩ := hR.shape
        exact rroot_ok leaf a b _ A c _ w' hlf (climb32 nodeD nodeD_length leaf hlf _ _) hab hb hlen hU
    · refine ⟨List.replicate 32 0, 70, rfl, fun w' v hbl hR => ?_, fun w' v hR => ?_⟩
      · obtain ⟨A, c, rfl, _, _⟩ := hR.shape
        exact vroot_short leaf a b A _ c (way a b) w' hab hb hlen hpl hw48 (fun w2 => way54 a b w2 hab hb)
      · obtain ⟨A, c, rfl, _, _⟩ := hR.shape
        exact rroot_short leaf a b A _ c w' hab hb hlen
  · exact ⟨List.replicate 32 0, 40, rfl, fun w' v hbl hR => vroot_bad leaf i n v w' hok, fun w' v hR => rroot_bad leaf i n v w' hok⟩
set_option maxRecDepth 100000 in
set_option maxHeartbeats 4000000 in
theorem vincl (leaf root X : List UInt8) (E F i n : Int) (v : Value) (w : World) (hlf : leaf.length = 32) (hrt : root.length = 32) (hX : X.length = 32)
    (hF : (E ≠ 0 ∧ F = E) ∨ (E = 0 ∧ X = root ∧ F = 0) ∨ (E = 0 ∧ X ≠ root ∧ F = 71))
    (hC : ∀ w', Below w.heap.size w w' → Gives 56 #[.agg (bv leaf), .int .i64 i, .int .i64 n, v] w' (.tuple #[.agg (bv X), .int .i64 E])) :
    Gives 32 #[.agg (bv leaf), .int .i64 i, .int .i64 n, v, .agg (bv root)] w (.int .i64 F) := by
  have CR := Lib.hid hC
  have HEQ := Lib.hid (fun w' : World => run_equal_bv (P := Tryd.prog) w' (d := 9998) Tryd.underlying24 Tryd.underlying5 (by kernel_rfl) X root hX hrt)
  have HF := Lib.hid hF
  have HS0 := Sep.start w
  clear hC hF
  go_enter Tryd.func32, Tryd.ntmps32
  go_wp2_with (first | refine wl_bx HS0 rfl 24 _ rfl (bv leaf) rfl ?_)
  intro g1 w1 HS1
  go_wp2_with (first | refine wl_bx HS1 rfl 24 _ rfl (bv root) rfl ?_)
  intro g2 w2 HS2
  go_wp2_with (first | refine wl_ld HS2 1 rfl rfl 24 _ rfl rfl Tryd.underlying24 rfl (dgS hlf) ?_)
  (with_reducible refine Calls.mono (CR.out w2 HS2.hb) ?_)
  rintro e w3 ⟨rfl, b3⟩
  have HS3 := HS2.keep b3
  clear HS2
  go_wp2_with (first | refine wl_al HS3 rfl 24 rfl (bv (List.replicate 32 0)) (by kernel_rfl) ?_)
  intro g4 w4 HS4
  go_wp2_with (first | refine wl_st HS4 0 rfl rfl 24 _ _ rfl rfl rfl (dgS hX) (dgE rfl hX) (bv_one _) ?_)
  intro w5 HS5
  have q := HEQ.out w5
  rcases HF.out with ⟨h1, rfl⟩ | ⟨rfl, h2, rfl⟩ | ⟨rfl, h2, rfl⟩
  · go_wp2
    go_ret
    exact ⟨rfl, HS5.hb⟩
  · rw [decide_eq_true h2] at q
    clear h2
    go_wp2_with (first | refine wl_ld HS5 0 rfl rfl 24 _ rfl rfl Tryd.underlying24 rfl (dgS hX) ?_ | refine wl_ld HS5 1 rfl rfl 24 _ rfl rfl Tryd.underlying24 rfl (dgS hrt) ?_ | refine wl_ldg HS5 0 rfl 24 _ rfl rfl Tryd.underlying24 rfl (dgS hX) rfl ?_ | refine wl_ldg HS5 1 rfl 24 _ rfl rfl Tryd.underlying24 rfl (dgS hrt) rfl ?_)
    go_ret
    exact ⟨rfl, HS5.hb⟩
  · rw [decide_eq_false h2] at q
    clear h2
    go_wp2_with (first | refine wl_ld HS5 0 rfl rfl 24 _ rfl rfl Tryd.underlying24 rfl (dgS hX) ?_ | refine wl_ld HS5 1 rfl rfl 24 _ rfl rfl Tryd.underlying24 rfl (dgS hrt) ?_ | refine wl_ldg HS5 0 rfl 24 _ rfl rfl Tryd.underlying24 rfl (dgS hX) rfl ?_ | refine wl_ldg HS5 1 rfl 24 _ rfl rfl Tryd.underlying24 rfl (dgS hrt) rfl ?_)
    go_ret
    exact ⟨rfl, HS5.hb⟩
set_option maxRecDepth 100000 in
set_option maxHeartbeats 4000000 in
theorem rincl (leaf root X : List UInt8) (E F i n : Int) (v : Value) (w : World) (hlf : leaf.length = 32) (hrt : root.length = 32) (hX : X.length = 32)
    (hF : (E ≠ 0 ∧ F = E) ∨ (E = 0 ∧ X = root ∧ F = 0) ∨ (E = 0 ∧ X ≠ root ∧ F = 71))
    (hC : ∀ w', Below w.heap.size w w' → Gives 72 #[.agg (bv leaf), .int .i64 i, .int .i64 n, v] w' (.tuple #[.agg (bv X), .int .i64 E])) :
    Gives 43 #[.agg (bv leaf), .int .i64 i, .int .i64 n, v, .agg (bv root)] w (.int .i64 F) := by
  have CR := Lib.hid hC
  have HEQ := Lib.hid (fun w' : World => run_equal_bv (P := Tryd.prog) w' (d := 9998) Tryd.underlying24 Tryd.underlying5 (by kernel_rfl) X root hX hrt)
  have HF := Lib.hid hF
  have HS0 := Sep.start w
  clear hC hF
  go_enter Tryd.func43, Tryd.ntmps43
  go_wp2_with (first | refine wl_bx HS0 rfl 24 _ rfl (bv leaf) rfl ?_)
  intro g1 w1 HS1
  go_wp2_with (first | refine wl_bx HS1 rfl 24 _ rfl (bv root) rfl ?_)
  intro g2 w2 HS2
  go_wp2_with (first | refine wl_ld HS2 1 rfl rfl 24 _ rfl rfl Tryd.underlying24 rfl (dgS hlf) ?_)
  (with_reducible refine Calls.mono (CR.out w2 HS2.hb) ?_)
  rintro e w3 ⟨rfl, b3⟩
  have HS3 := HS2.keep b3
  clear HS2
  go_wp2_with (first | refine wl_al HS3 rfl 24 rfl (bv (List.replicate 32 0)) (by kernel_rfl) ?_)
  intro g4 w4 HS4
  go_wp2_with (first | refine wl_st HS4 0 rfl rfl 24 _ _ rfl rfl rfl (dgS hX) (dgE rfl hX) (bv_one _) ?_)
  intro w5 HS5
  have q := HEQ.out w5
  rcases HF.out with ⟨h1, rfl⟩ | ⟨rfl, h2, rfl⟩ | ⟨rfl, h2, rfl⟩
  · go_wp2
    go_ret
    exact ⟨rfl, HS5.hb⟩
  · rw [decide_eq_true h2] at q
    clear h2
    go_wp2_with (first | refine wl_ld HS5 0 rfl rfl 24 _ rfl rfl Tryd.underlying24 rfl (dgS hX) ?_ | refine wl_ld HS5 1 rfl rfl 24 _ rfl rfl Tryd.underlying24 rfl (dgS hrt) ?_ | refine wl_ldg HS5 0 rfl 24 _ rfl rfl Tryd.underlying24 rfl (dgS hX) rfl ?_ | refine wl_ldg HS5 1 rfl 24 _ rfl rfl Tryd.underlying24 rfl (dgS hrt) rfl ?_)
    go_ret
    exact ⟨rfl, HS5.hb⟩
  · rw [decide_eq_false h2] at q
    clear h2
    go_wp2_with (first | refine wl_ld HS5 0 rfl rfl 24 _ rfl rfl Tryd.underlying24 rfl (dgS hX) ?_ | refine wl_ld HS5 1 rfl rfl 24 _ rfl rfl Tryd.underlying24 rfl (dgS hrt) ?_ | refine wl_ldg HS5 0 rfl 24 _ rfl rfl Tryd.underlying24 rfl (dgS hX) rfl ?_ | refine wl_ldg HS5 1 rfl 24 _ rfl rfl Tryd.underlying24 rfl (dgS hrt) rfl ?_)
    go_ret
    exact ⟨rfl, HS5.hb⟩
end Go.Proofs.YtbjbdnlgoifamaaDoor
namespace Go.Proofs.YtbjbdnlgoifamaaDoor
open Go.RowKit Cop
set_option linter.unusedVariables false
set_option linter.unusedSimpArgs false
end Go.Proofs.YtbjbdnlgoifamaaDoor
