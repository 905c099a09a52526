/- The reference's two roots of a path between two sizes. Both Roots of a path between two sizes, both Consistencies. lent and kept. -/
import Derived.Test.YtbjbdnlgoifamaaDoorRz
import Derived.Test.YtbjbdnlgoifamaaDoorTr

import Derived.Test.YtbjbdnlgoifamaaDoorRs
namespace Go.Proofs.YtbjbdnlgoifamaaDoor
open Go.RowKit Cop
set_option linter.unusedVariables false
set_option linter.unusedSimpArgs false
theorem climb2_32 (nd : List UInt8 → List UInt8 → List UInt8) (hnd : ∀ a b, (nd a b).length = 32) (st : List UInt8) (hst : st.length = 32) : ∀ (ts : List Bool) (p : List (List UInt8)), (climb2 nd st ts p).1.length = 32 ∧ (climb2 nd st ts p).2.length = 32 := by
  intro ts
  induction ts with
  | nil => intro p; exact ⟨hst, hst⟩
  | cons t ts ih =>
    intro p
    unfold climb2
    split
    · exact ⟨hst, hst⟩
    · split
      · exact ⟨(ih _).1, hnd _ _⟩
      · exact ⟨hnd _ _, hnd _ _⟩
/-- What the reference's two tells. -/
def two2 (nd : List UInt8 → List UInt8 → List UInt8) (known : List UInt8) (m n : Nat) (path : List (List UInt8)) (f : Bool) : List UInt8 × List UInt8 :=
  if (f && (steps m n).2) = true then climb2 nd known (steps m n).1 path else match path with
    | [] => (known, known)
    | c :: r => climb2 nd c (steps m n).1 r
section
variable (nd : List UInt8 → List UInt8 → List UInt8) (known : List UInt8)
theorem two2_32 (hnd : ∀ a b, (nd a b).length = 32) (hk : known.length = 32) (m n : Nat) (path : List (List UInt8)) (hp : AllD path) (f : Bool) : (two2 nd known m n path f).1.length = 32 ∧ (two2 nd known m n path f).2.length = 32 := by
  unfold two2
  split
  · exact climb2_32 nd hnd known hk _ _
  · cases path with
    | nil => exact ⟨hk, hk⟩
    | cons c r => exact climb2_32 nd hnd c (hp c (by simp)) _ _
theorem two2_t (m : Nat) (path : List (List UInt8)) : two2 nd known m m path true = (known, known) := by
  unfold two2
  rw [steps_end (.inr rfl)]
  rfl
theorem two2_f (m : Nat) (c : List UInt8) : two2 nd known m m [c] false = (c, c) := by
  unfold two2
  rw [steps_end (.inr rfl)]
  rfl
theorem two2_le {m n : Nat} (h2 : 2 ≤ n) (hne : m ≠ n) (hi : m ≤ hf n) (q : List (List UInt8)) (x : List UInt8) (f : Bool) (hq : q.length = cnt (steps m (hf n)).1 (f && (steps m (hf n)).2)) :
    two2 nd known m n (q ++ [x]) f = ((two2 nd known m (hf n) q f).1, nd (two2 nd known m (hf n) q f).2 x) := by
  unfold two2
  rw [steps_le h2 hne hi]
  simp only
  cases hb : (f && (steps m (hf n)).2) with
  | true =>
    rw [if_pos rfl, if_pos rfl, climb2_snoc, if_pos rfl]
  | false =>
    rw [hb] at hq
    rw [if_neg (by decide), if_neg (by decide)]
    cases q with
    | nil => simp [cnt] at hq
    | cons c r =>
      show climb2 nd c (true :: (steps m (hf n)).1) (r ++ [x]) = _
      rw [climb2_snoc, if_pos rfl]
theorem two2_gt {m n : Nat} (h2 : 2 ≤ n) (hne : m ≠ n) (hi : ¬ m ≤ hf n) (q : List (List UInt8)) (x : List UInt8) (f : Bool) (hq : q.length = cnt (steps (m - hf n) (n - hf n)).1 (false && (steps (m - hf n) (n - hf n)).2)) :
    two2 nd known m n (q ++ [x]) f = (nd x (two2 nd known (m - hf n) (n - hf n) q false).1, nd x (two2 nd known (m - hf n) (n - hf n) q false).2) := by
  unfold two2
  rw [steps_gt h2 hne hi]
  simp only [Bool.and_false, Bool.false_and]
  rw [if_neg (by decide), if_neg (by decide)]
  rw [Bool.false_and] at hq
  cases q with
  | nil => simp [cnt] at hq
  | cons c r =>
    show climb2 nd c (false :: (steps (m - hf n) (n - hf n)).1) (r ++ [x]) = _
    rw [climb2_snoc, if_neg (by decide)]
end
theorem half64m (n : Nat) (w : World) (h2 : 2 ≤ n) (hn : n ≤ 281474976710656) :
    Calls Tryd.prog 98 #[.int .i64 n] w fun e w' => e = .returned (.int .i64 ((hf n : Nat) : Int)) ∧ w = w' := half64n n w h2 hn
set_option maxRecDepth 100000 in
set_option maxHeartbeats 8000000 in
theorem two_gen (nd : List UInt8 → List UInt8 → List UInt8) (hnd : ∀ a b, (nd a b).length = 32)
    (hCN : ∀ w' a b, a.length = 32 → b.length = 32 → Gives 99 #[.agg (bv a), .agg (bv b)] w' (.agg (bv (nd a b)))) :
    ∀ (n m : Nat) (mm nn : Int) (f : Bool) (path : List (List UInt8)) (known : List UInt8) (v : Value) (w : World), mm = (m : Int) → nn = (n : Int) → 1 ≤ m → m ≤ n → n ≤ 281474976710656 → known.length = 32 → AllD path → path.length = cnt (steps m n).1 (f && (steps m n).2) → path.length ≤ 4398046511104 → Rd w v path.length 32 (dcs path) →
      Gives 87 #[.agg (bv known), .int .i64 mm, .int .i64 nn, v, .bool f] w (.tuple #[.agg (bv (two2 nd known m n path f).1), .agg (bv (two2 nd known m n path f).2)]) := by
  have HND := Lib.hid hnd
  have CN := Lib.hid hCN
  clear hnd hCN
  intro n
  induction n using Nat.strongRecOn with
  | ind n ih =>
  intro m mm nn f path known v w hmm hnn h1 hmn hn hlf hp hlen hpl hR
  have IH := Lib.hid ih
  have HP := Lib.hid hp
  have HLF := Lib.hid hlf
  clear ih hp
  by_cases hone : m = n
  · subst hone
    obtain rfl : mm = nn := by omega
    cases f with
    | true =>
      rw [two2_t]
      have HS0 := (Sep.start w).arg0 hR
      obtain ⟨A, c, rfl, _, _⟩ := hR.shape
      clear IH hmm hnn hlen hR hmn hn hpl h1
      go_enter Tryd.func87, Tryd.ntmps87
      go_wp2_with (first | refine wl_bx HS0 rfl 24 _ rfl (bv known) rfl ?_)
      intro g1 w1 HS1
      go_wp2_with (first | refine wl_al HS1 rfl 24 rfl (bv (List.replicate 32 0)) (by kernel_rfl) ?_)
      intro g2 w2 HS2
      go_wp2_with (first | refine wl_al HS2 rfl 24 rfl (bv (List.replicate 32 0)) (by kernel_rfl) ?_)
      intro g3 w3 HS3
      go_wp2
      refine Cop.region_ord (fun w' => Sep w.heap.size w w' [.row g1 (bv known) 24]) 3 (.take 0 (.take 1 (.run 2 (.run 3 Cop.Ord.fin)))) (by kernel_rfl) (by kernel_rfl) (fun _ _ d _ _ h => by cases d <;> exact h) ?_
      intro wa hda
      have HSa := HS3.keep hda
      have HSz := HSa.sub (R' := [.row g1 (bv known) 24]) (by repeat (first | exact List.nil_sublist _ | exact List.Sublist.refl _ | apply List.Sublist.cons_cons | apply List.Sublist.cons))
      (repeat (first | (refine Cop.og_skip rfl rfl HSz _ (by (simp only [Act.put, List.setIfInBounds_toArray, List.set_cons_succ, List.set_cons_zero]; rfl)) ?_) | (refine Cop.og_ld rfl rfl HSz 24 _ rfl (.pointer (some ⟨g1, 0, none⟩)) rfl _ (fun w9 h9 => load_row (h9.row 0 rfl) 24 Tryd.underlying24 rfl (dgS HLF.out)) _ (by (simp only [Act.put, List.setIfInBounds_toArray, List.set_cons_succ, List.set_cons_zero]; rfl)) ?_) | (refine Cop.og_take rfl rfl HSz ?_; apply Exists.intro; refine ⟨fun w9 h9 => ?_, _, by (simp only [Act.put, List.setIfInBounds_toArray, List.set_cons_succ, List.set_cons_zero]; rfl), ?_⟩; (go_simp; with_reducible rfl))))
      refine Cop.og_run rfl rfl ?_
      refine ow_st HSa 1 rfl 24 _ _ rfl rfl rfl (dgS HLF.out) (dgE rfl HLF.out) (bv_one _) ?_
      intro wb HSb
      refine ⟨fun _ => HSb.sub (by repeat (first | exact List.nil_sublist _ | exact List.Sublist.refl _ | apply List.Sublist.cons_cons | apply List.Sublist.cons)), ?_⟩
      refine Cop.og_run rfl rfl ?_
      refine ow_st HSb 0 rfl 24 _ _ rfl rfl rfl (dgS HLF.out) (dgE rfl HLF.out) (bv_one _) ?_
      intro wc HSc
      refine ⟨fun h => absurd rfl h, ?_⟩
      refine og_fin ?_
      go_wp2_with fail
      exact ret_row2 rfl rfl g2 g3 rfl rfl 24 (bv known) (bv known) _ (HSc.row 1 rfl) (HSc.row 0 rfl) Tryd.underlying24 rfl (dgS HLF.out) (dgS HLF.out) ⟨rfl, HSc.hb⟩
    | false =>
      have hc1 : path.length = 1 := by rw [hlen, steps_end (.inr rfl)]; rfl
      obtain ⟨x, rfl⟩ : ∃ x, path = [x] := by
        match path, hc1 with
        | [x], _ => exact ⟨x, rfl⟩
      rw [two2_f]
      have hxl : x.length = 32 := HP.out x (by simp)
      have HS0 := (Sep.start w).arg0 hR
      obtain ⟨A, c, rfl, _, _⟩ := hR.shape
      obtain ⟨b0, o0, rfl⟩ := rd_some hR (by simp)
      have HLD := Lib.hid (fun (W : World) (h : Rd W (.slice (some ⟨b0, o0, none⟩) [x].length c) [x].length 32 (dcs [x])) => load_dg h rfl HP.out 0 (by simp) x rfl)
      rw [show o0 + 0 * 32 = o0 from by omega] at HLD
      obtain ⟨T, hT⟩ : ∃ T, [x] = T := ⟨_, rfl⟩
      rw [hT] at HS0 HLD hc1
      obtain ⟨L, hL⟩ : ∃ L, T.length = L := ⟨_, rfl⟩
      rw [hL] at HS0 HLD hc1
      clear IH hmm hnn hlen hR hmn hn hpl h1 HP
      rw [hT, hL]
      have hL0 : 0 < L := by omega
      have hL1 : (0 : Int) < (L : Int) := by omega
      clear hT hL hc1
      go_enter Tryd.func87, Tryd.ntmps87
      go_wp2_with (first | refine wl_bx HS0 rfl 24 _ rfl (bv known) rfl ?_)
      intro g1 w1 HS1
      go_wp2_with (first | refine wl_al HS1 rfl 24 rfl (bv (List.replicate 32 0)) (by kernel_rfl) ?_)
      intro g2 w2 HS2
      go_wp2_with (first | refine wl_al HS2 rfl 24 rfl (bv (List.replicate 32 0)) (by kernel_rfl) ?_)
      intro g3 w3 HS3
      go_wp2
      refine Cop.region_ord (fun w' => Sep w.heap.size w w' [.rd (.slice (some ⟨b0, o0, none⟩) L c) L 32 (dcs T)]) 7 (.take 0 (.take 1 (.take 2 (.take 3 (.take 4 (.take 5 (.run 6 (.run 7 Cop.Ord.fin)))))))) (by kernel_rfl) (by kernel_rfl) (fun _ _ d _ _ h => by cases d <;> exact h) ?_
      intro wa hda
      have HSa := HS3.keep hda
      have HSz := HSa.sub (R' := [.rd (.slice (some ⟨b0, o0, none⟩) L c) L 32 (dcs T)]) (by repeat (first | exact List.nil_sublist _ | exact List.Sublist.refl _ | apply List.Sublist.cons_cons | apply List.Sublist.cons))
      (repeat (first | (refine Cop.og_skip rfl rfl HSz _ (by (simp only [Act.put, List.setIfInBounds_toArray, List.set_cons_succ, List.set_cons_zero]; rfl)) ?_) | (refine Cop.og_ld rfl rfl HSz 24 _ rfl (.pointer (some ⟨b0, o0, none⟩)) rfl (.agg (bv x)) (fun w9 h9 => HLD.out w9 (h9.rd 0 rfl)) _ (by (simp only [Act.put, List.setIfInBounds_toArray, List.set_cons_succ, List.set_cons_zero]; rfl)) ?_) | (refine Cop.og_take rfl rfl HSz ?_; apply Exists.intro; refine ⟨fun w9 h9 => ?_, _, by (simp only [Act.put, List.setIfInBounds_toArray, List.set_cons_succ, List.set_cons_zero]; rfl), ?_⟩; (go_simp; with_reducible rfl))))
      refine Cop.og_run rfl rfl ?_
      refine ow_st HSa 1 rfl 24 _ _ rfl rfl rfl (dgS hxl) (dgE rfl hxl) (bv_one _) ?_
      intro wb HSb
      refine ⟨fun _ => HSb.sub (by repeat (first | exact List.nil_sublist _ | exact List.Sublist.refl _ | apply List.Sublist.cons_cons | apply List.Sublist.cons)), ?_⟩
      refine Cop.og_run rfl rfl ?_
      refine ow_st HSb 0 rfl 24 _ _ rfl rfl rfl (dgS hxl) (dgE rfl hxl) (bv_one _) ?_
      intro wc HSc
      refine ⟨fun h => absurd rfl h, ?_⟩
      refine og_fin ?_
      go_wp2_with fail
      exact ret_row2 rfl rfl g2 g3 rfl rfl 24 (bv x) (bv x) _ (HSc.row 1 rfl) (HSc.row 0 rfl) Tryd.underlying24 rfl (dgS hxl) (dgS hxl) ⟨rfl, HSc.hb⟩
  have h2 : 2 ≤ n := by omega
  have hlt := hf_lt h2
  have hps := hf_pos n
  have CH := Lib.hid (fun w => half64m n w h2 hn)
  have hw1 := steps_le (m := m) h2 hone
  have hw2 := steps_gt (m := m) h2 hone
  have ht1 := fun hi q x hq => two2_le nd known (m := m) h2 hone hi q x f hq
  have ht2 := fun hi q x hq => two2_gt nd known (m := m) h2 hone hi q x f hq
  obtain ⟨k, hk⟩ : ∃ k, hf n = k := ⟨_, rfl⟩
  rw [hk] at CH hlt hps hw1 hw2 ht1 ht2
  have hpos : 0 < path.length := by
    rw [hlen]
    by_cases hik : m ≤ k
    · rw [hw1 hik]; unfold cnt; split <;> simp
    · rw [hw2 hik]; unfold cnt; split <;> simp
  rcases List.eq_nil_or_concat path with rfl | ⟨q, x, hqx⟩
  · simp at hpos
  rw [List.concat_eq_append] at hqx
  subst hqx
  have hxl : x.length = 32 := HP.out x (by simp)
  have hql : AllD q := fun y hy => HP.out y (by simp [hy])
  obtain ⟨p, hm⟩ : ∃ p, q.length = p := ⟨_, rfl⟩
  obtain ⟨L, hL⟩ : ∃ L, (q ++ [x]).length = L := ⟨_, rfl⟩
  have hLm : L = p + 1 := by rw [← hL]; simp [hm]
  obtain ⟨A1, c1, hR1, _, _, hs1⟩ := rd_dto hR HP.out p (by omega)
  have htk : (q ++ [x]).take p = q := List.take_left' hm
  rw [htk] at hR1
  have hgx : (q ++ [x]).getD p [] = x := by rw [← hm]; simp
  rw [hL] at hR hlen hpl
  obtain ⟨A, c, rfl, _, _⟩ := hR.shape
  obtain ⟨b0, o0, rfl⟩ := rd_some hR (by omega)
  have HLD := Lib.hid (fun W (h : Rd W (.slice (some ⟨b0, o0, none⟩) L c) L 32 (dcs (q ++ [x]))) => load_dg h hL.symm HP.out p (by omega) x hgx)
  have HSL := Lib.hid hs1
  have hmi : (L : Int) - 1 = (p : Int) := by omega
  have hmlt : (p : Int) < (L : Int) := by omega
  have hmb : (p : Int) ≤ 4398046511104 := by omega
  have hne : ¬ mm = nn := by omega
  have hneb : (mm == nn) = false := by rw [beq_eq_false_iff_ne]; exact hne
  have hi0 : 0 ≤ mm := by omega
  have hi1 : mm ≤ 281474976710656 := by omega
  have hn0 : 0 ≤ nn := by omega
  have hn1 : nn ≤ 281474976710656 := by omega
  have hk0 : (k : Int) ≤ 281474976710656 := by omega
  rw [← hnn] at CH
  have HS0 := ((Sep.start w).arg0 hR).arg0 hR1
  obtain ⟨T, hT⟩ : ∃ T, q ++ [x] = T := ⟨_, rfl⟩
  have HTX := Lib.hid hT
  by_cases hik : m ≤ k
  · rw [hw1 hik] at hlen
    have hq1 : q.length = cnt (steps m (k)).1 (f && (steps m (k)).2) := by
      have e := hLm.symm.trans hlen
      have e2 : p + 1 = cnt (steps m k).1 (f && (steps m k).2) + 1 := by rw [e]; unfold cnt; simp only; split <;> rfl
      omega
    rw [ht1 hik q x hq1]
    rw [hT] at HS0 HLD
    have hE12 := two2_32 nd known HND.out hlf m (k) q hql f
    have J := Lib.hid (fun w' v' (hv : Rd w' v' p 32 (dcs q)) => IH.out (k) (by omega) m (mm) ((k : Int)) f q known v' w' (by omega) (by omega) (by omega) (by omega) (by omega) hlf hql hq1 (by omega) (by rw [hm]; exact hv))
    obtain ⟨⟨E1, E2⟩, hE⟩ : ∃ E, two2 nd known m (k) q f = E := ⟨_, rfl⟩
    rw [hE] at hE12 J ⊢
    obtain ⟨hE1, hE2⟩ := hE12
    simp only at hE1 hE2 J ⊢
    have CNX := Lib.hid (fun w' => CN.out w' E2 x hE2 hxl)
    have hD2 := HND.out E2 x
    obtain ⟨D2, hD⟩ : ∃ D, nd E2 x = D := ⟨_, rfl⟩
    rw [hD] at CNX hD2 ⊢
    clear hD
    have hiki : mm ≤ (k : Int) := by omega
    have HWI := Lib.hid (show IntKind.i64.wrap (mm - (k : Int)) = mm - (k : Int) by rw [IntKind.wrap_i64]; omega)
    have HWN := Lib.hid (show IntKind.i64.wrap (nn - (k : Int)) = nn - (k : Int) by rw [IntKind.wrap_i64]; omega)
    clear hE hlen hq1 hT hgx htk hL hLm hm hql hs1 hk hw1 hw2 ht1 ht2 IH hR hR1 hmm hnn hmn hn hone h2 hlt hps h1 hpos
    go_enter Tryd.func87, Tryd.ntmps87
    go_wp2_with (first | refine wl_bx HS0 rfl 24 _ rfl (bv known) rfl ?_)
    intro g1 w1 HS1
    go_wp2_with (first | refine wl_al HS1 rfl 24 rfl (bv (List.replicate 32 0)) (by kernel_rfl) ?_)
    intro g2 w2 HS2
    go_wp2_with (first | refine wl_al HS2 rfl 24 rfl (bv (List.replicate 32 0)) (by kernel_rfl) ?_)
    intro g3 w3 HS3
    go_wp2_with fail
    (with_reducible refine Calls.mono (CH.out w3) ?_)
    rintro e wx ⟨rfl, rfl⟩
    have hld := Lib.hid (HLD.out w3 (HS3.rd 4 rfl))
    go_wp2_with (first | refine wl_ldx rfl 24 _ rfl _ rfl (.agg (bv x)) hld.out ?_ | refine wl_al HS3 rfl 24 rfl (bv (List.replicate 32 0)) (by kernel_rfl) ?_)
    intro g4 w4 HS4
    go_wp2_with (first | refine wl_st HS4 0 rfl rfl 24 _ _ rfl rfl rfl (dgS hxl) (dgE rfl hxl) (bv_one _) ?_)
    intro w5 HS5
    clear HS0 HS1 HS2 HS3 HS4
    go_wp2_with (first | refine wl_sl1 rfl 28 _ _ rfl _ rfl _ rfl _ (HSL.out _ _) ?_ | refine wl_ld HS5 3 rfl rfl 24 _ rfl rfl Tryd.underlying24 rfl (dgS HLF.out) ?_)
    (with_reducible refine Calls.mono (J.out w5 _ (HS5.rd 4 rfl)) ?_)
    rintro e w6 ⟨rfl, b6⟩
    have HS6 := HS5.keep b6
    clear HS5
    go_wp2_with (first | refine wl_al HS6 rfl 24 rfl (bv (List.replicate 32 0)) (by kernel_rfl) ?_)
    intro g5 w7 HS7
    go_wp2_with (first | refine wl_al HS7 rfl 24 rfl (bv (List.replicate 32 0)) (by kernel_rfl) ?_)
    intro g6 w8 HS8
    go_wp2_with (first | refine wl_st HS8 1 rfl rfl 24 _ _ rfl rfl rfl (dgS hE1) (dgE rfl hE1) (bv_one _) ?_)
    intro wp HSp
    go_wp2_with (first | refine wl_st HSp 0 rfl rfl 24 _ _ rfl rfl rfl (dgS hE2) (dgE rfl hE2) (bv_one _) ?_)
    intro wq HSq
    clear HS6 HS7 HS8 HSp
    go_wp2
    refine Cop.region_ord (fun w' => Sep w.heap.size w w' [.row g6 (bv E2) 24, .row g5 (bv E1) 24, .row g4 (bv x) 24]) 5 (.take 0 (.take 1 (.take 2 (.run 3 (.run 4 (.run 5 Cop.Ord.fin)))))) (by kernel_rfl) (by kernel_rfl) (fun _ _ d _ _ h => by cases d <;> exact h) ?_
    intro wa hda
    have HSa := HSq.keep hda
    clear HSq
    have HSz := HSa.sub (R' := [.row g6 (bv E2) 24, .row g5 (bv E1) 24, .row g4 (bv x) 24]) (by repeat (first | exact List.nil_sublist _ | exact List.Sublist.refl _ | apply List.Sublist.cons_cons | apply List.Sublist.cons))
    (repeat (first | (refine Cop.og_skip rfl rfl HSz _ (by (simp only [Act.put, List.setIfInBounds_toArray, List.set_cons_succ, List.set_cons_zero]; rfl)) ?_) | (refine Cop.og_ld rfl rfl HSz 24 _ rfl (.pointer (some ⟨g6, 0, none⟩)) rfl _ (fun w9 h9 => load_row (h9.row 0 rfl) 24 Tryd.underlying24 rfl (dgS hE2)) _ (by (simp only [Act.put, List.setIfInBounds_toArray, List.set_cons_succ, List.set_cons_zero]; rfl)) ?_) | (refine Cop.og_ld rfl rfl HSz 24 _ rfl (.pointer (some ⟨g5, 0, none⟩)) rfl _ (fun w9 h9 => load_row (h9.row 1 rfl) 24 Tryd.underlying24 rfl (dgS hE1)) _ (by (simp only [Act.put, List.setIfInBounds_toArray, List.set_cons_succ, List.set_cons_zero]; rfl)) ?_) | (refine Cop.og_ld rfl rfl HSz 24 _ rfl (.pointer (some ⟨g4, 0, none⟩)) rfl _ (fun w9 h9 => load_row (h9.row 2 rfl) 24 Tryd.underlying24 rfl (dgS hxl)) _ (by (simp only [Act.put, List.setIfInBounds_toArray, List.set_cons_succ, List.set_cons_zero]; rfl)) ?_) | (refine Cop.og_take rfl rfl HSz ?_; apply Exists.intro; refine ⟨fun w9 h9 => ?_, _, by (simp only [Act.put, List.setIfInBounds_toArray, List.set_cons_succ, List.set_cons_zero]; rfl), ?_⟩; (go_simp; with_reducible rfl))))
    refine Cop.og_run rfl rfl ?_
    refine ow_call 99 _ _ (fun w' => Below wa.heap.size wa w') (by go_simp) (CNX.out wa) ?_
    intro wc bc
    have HSc := HSa.keep bc
    refine ⟨fun _ => HSc.sub (by repeat (first | exact List.nil_sublist _ | exact List.Sublist.refl _ | apply List.Sublist.cons_cons | apply List.Sublist.cons)), ?_⟩
    refine Cop.og_run rfl rfl ?_
    refine ow_st HSc 4 rfl 24 _ _ rfl rfl rfl (dgS hE1) (dgE rfl hE1) (bv_one _) ?_
    intro wd HSd
    refine ⟨fun _ => HSd.sub (by repeat (first | exact List.nil_sublist _ | exact List.Sublist.refl _ | apply List.Sublist.cons_cons | apply List.Sublist.cons)), ?_⟩
    refine Cop.og_run rfl rfl ?_
    refine ow_st HSd 3 rfl 24 _ _ rfl rfl rfl (dgS hD2) (dgE rfl hD2) (bv_one _) ?_
    intro we HSe
    refine ⟨fun h => absurd rfl h, ?_⟩
    refine og_fin ?_
    go_wp2_with fail
    exact ret_row2 rfl rfl g2 g3 rfl rfl 24 (bv E1) (bv D2) _ (HSe.row 4 rfl) (HSe.row 3 rfl) Tryd.underlying24 rfl (dgS hE1) (dgS hD2) ⟨rfl, HSe.hb⟩
  · rw [hw2 hik] at hlen
    have hq1 : q.length = cnt (steps (m - k) (n - k)).1 (false && (steps (m - k) (n - k)).2) := by
      have e := hLm.symm.trans hlen
      have e2 : p + 1 = cnt (steps (m - k) (n - k)).1 (false && (steps (m - k) (n - k)).2) + 1 := by rw [e]; simp [cnt]
      omega
    rw [ht2 hik q x hq1]
    rw [hT] at HS0 HLD
    have hE12 := two2_32 nd known HND.out hlf (m - k) (n - k) q hql false
    have J := Lib.hid (fun w' v' (hv : Rd w' v' p 32 (dcs q)) => IH.out (n - k) (by omega) (m - k) (mm - (k : Int)) (nn - (k : Int)) false q known v' w' (by omega) (by omega) (by omega) (by omega) (by omega) hlf hql hq1 (by omega) (by rw [hm]; exact hv))
    obtain ⟨⟨E1, E2⟩, hE⟩ : ∃ E, two2 nd known (m - k) (n - k) q false = E := ⟨_, rfl⟩
    rw [hE] at hE12 J ⊢
    obtain ⟨hE1, hE2⟩ := hE12
    simp only at hE1 hE2 J ⊢
    have CN1 := Lib.hid (fun w' => CN.out w' x E1 hxl hE1)
    have CN2 := Lib.hid (fun w' => CN.out w' x E2 hxl hE2)
    have hD1 := HND.out x E1
    have hD2 := HND.out x E2
    obtain ⟨D1, hDa⟩ : ∃ D, nd x E1 = D := ⟨_, rfl⟩
    obtain ⟨D2, hD⟩ : ∃ D, nd x E2 = D := ⟨_, rfl⟩
    rw [hDa] at CN1 hD1 ⊢
    rw [hD] at CN2 hD2 ⊢
    clear hD hDa
    have hiki : ¬ mm ≤ (k : Int) := by omega
    have HWI := Lib.hid (show IntKind.i64.wrap (mm - (k : Int)) = mm - (k : Int) by rw [IntKind.wrap_i64]; omega)
    have HWN := Lib.hid (show IntKind.i64.wrap (nn - (k : Int)) = nn - (k : Int) by rw [IntKind.wrap_i64]; omega)
    clear hE hlen hq1 hT hgx htk hL hLm hm hql hs1 hk hw1 hw2 ht1 ht2 IH hR hR1 hmm hnn hmn hn hone h2 hlt hps h1 hpos
    go_enter Tryd.func87, Tryd.ntmps87
    go_wp2_with (first | refine wl_bx HS0 rfl 24 _ rfl (bv known) rfl ?_)
    intro g1 w1 HS1
    go_wp2_with (first | refine wl_al HS1 rfl 24 rfl (bv (List.replicate 32 0)) (by kernel_rfl) ?_)
    intro g2 w2 HS2
    go_wp2_with (first | refine wl_al HS2 rfl 24 rfl (bv (List.replicate 32 0)) (by kernel_rfl) ?_)
    intro g3 w3 HS3
    go_wp2_with fail
    (with_reducible refine Calls.mono (CH.out w3) ?_)
    rintro e wx ⟨rfl, rfl⟩
    have hld := Lib.hid (HLD.out w3 (HS3.rd 4 rfl))
    go_wp2_with (first | refine wl_ldx rfl 24 _ rfl _ rfl (.agg (bv x)) hld.out ?_ | refine wl_al HS3 rfl 24 rfl (bv (List.replicate 32 0)) (by kernel_rfl) ?_)
    intro g4 w4 HS4
    go_wp2_with (first | refine wl_st HS4 0 rfl rfl 24 _ _ rfl rfl rfl (dgS hxl) (dgE rfl hxl) (bv_one _) ?_)
    intro w5 HS5
    clear HS0 HS1 HS2 HS3 HS4
    go_wp2_with (first | refine wl_sl1 rfl 28 _ _ rfl _ rfl _ rfl _ (HSL.out _ _) ?_ | refine wl_ld HS5 3 rfl rfl 24 _ rfl rfl Tryd.underlying24 rfl (dgS HLF.out) ?_)
    (with_reducible refine Calls.mono (J.out w5 _ (HS5.rd 4 rfl)) ?_)
    rintro e w6 ⟨rfl, b6⟩
    have HS6 := HS5.keep b6
    clear HS5
    go_wp2_with (first | refine wl_al HS6 rfl 24 rfl (bv (List.replicate 32 0)) (by kernel_rfl) ?_)
    intro g5 w7 HS7
    go_wp2_with (first | refine wl_al HS7 rfl 24 rfl (bv (List.replicate 32 0)) (by kernel_rfl) ?_)
    intro g6 w8 HS8
    go_wp2_with (first | refine wl_st HS8 1 rfl rfl 24 _ _ rfl rfl rfl (dgS hE1) (dgE rfl hE1) (bv_one _) ?_)
    intro wp HSp
    go_wp2_with (first | refine wl_st HSp 0 rfl rfl 24 _ _ rfl rfl rfl (dgS hE2) (dgE rfl hE2) (bv_one _) ?_)
    intro wq HSq
    clear HS6 HS7 HS8 HSp
    go_wp2
    refine Cop.region_ord (fun w' => Sep w.heap.size w w' [.row g6 (bv E2) 24, .row g5 (bv E1) 24, .row g4 (bv x) 24]) 7 (.take 0 (.take 1 (.take 3 (.take 4 (.run 2 (.run 5 (.run 6 (.run 7 Cop.Ord.fin)))))))) (by kernel_rfl) (by kernel_rfl) (fun _ _ d _ _ h => by cases d <;> exact h) ?_
    intro wa hda
    have HSa := HSq.keep hda
    clear HSq
    have HSz := HSa.sub (R' := [.row g6 (bv E2) 24, .row g5 (bv E1) 24, .row g4 (bv x) 24]) (by repeat (first | exact List.nil_sublist _ | exact List.Sublist.refl _ | apply List.Sublist.cons_cons | apply List.Sublist.cons))
    (repeat (first | (refine Cop.og_skip rfl rfl HSz _ (by (simp only [Act.put, List.setIfInBounds_toArray, List.set_cons_succ, List.set_cons_zero]; rfl)) ?_) | (refine Cop.og_ld rfl rfl HSz 24 _ rfl (.pointer (some ⟨g6, 0, none⟩)) rfl _ (fun w9 h9 => load_row (h9.row 0 rfl) 24 Tryd.underlying24 rfl (dgS hE2)) _ (by (simp only [Act.put, List.setIfInBounds_toArray, List.set_cons_succ, List.set_cons_zero]; rfl)) ?_) | (refine Cop.og_ld rfl rfl HSz 24 _ rfl (.pointer (some ⟨g5, 0, none⟩)) rfl _ (fun w9 h9 => load_row (h9.row 1 rfl) 24 Tryd.underlying24 rfl (dgS hE1)) _ (by (simp only [Act.put, List.setIfInBounds_toArray, List.set_cons_succ, List.set_cons_zero]; rfl)) ?_) | (refine Cop.og_ld rfl rfl HSz 24 _ rfl (.pointer (some ⟨g4, 0, none⟩)) rfl _ (fun w9 h9 => load_row (h9.row 2 rfl) 24 Tryd.underlying24 rfl (dgS hxl)) _ (by (simp only [Act.put, List.setIfInBounds_toArray, List.set_cons_succ, List.set_cons_zero]; rfl)) ?_) | (refine Cop.og_take rfl rfl HSz ?_; apply Exists.intro; refine ⟨fun w9 h9 => ?_, _, by (simp only [Act.put, List.setIfInBounds_toArray, List.set_cons_succ, List.set_cons_zero]; rfl), ?_⟩; (go_simp; with_reducible rfl))))
    refine Cop.og_run rfl rfl ?_
    refine ow_call 99 _ _ (fun w' => Below wa.heap.size wa w') (by go_simp) (CN1.out wa) ?_
    intro wb bb
    have HSb := HSa.keep bb
    refine ⟨fun _ => HSb.sub (by repeat (first | exact List.nil_sublist _ | exact List.Sublist.refl _ | apply List.Sublist.cons_cons | apply List.Sublist.cons)), ?_⟩
    refine Cop.og_run rfl rfl ?_
    refine ow_call 99 _ _ (fun w' => Below wb.heap.size wb w') (by go_simp) (CN2.out wb) ?_
    intro wc bc
    have HSc := HSb.keep bc
    refine ⟨fun _ => HSc.sub (by repeat (first | exact List.nil_sublist _ | exact List.Sublist.refl _ | apply List.Sublist.cons_cons | apply List.Sublist.cons)), ?_⟩
    refine Cop.og_run rfl rfl ?_
    refine ow_st HSc 4 rfl 24 _ _ rfl rfl rfl (dgS hD1) (dgE rfl hD1) (bv_one _) ?_
    intro wd HSd
    refine ⟨fun _ => HSd.sub (by repeat (first | exact List.nil_sublist _ | exact List.Sublist.refl _ | apply List.Sublist.cons_cons | apply List.Sublist.cons)), ?_⟩
    refine Cop.og_run rfl rfl ?_
    refine ow_st HSd 3 rfl 24 _ _ rfl rfl rfl (dgS hD2) (dgE rfl hD2) (bv_one _) ?_
    intro we HSe
    refine ⟨fun h => absurd rfl h, ?_⟩
    refine og_fin ?_
    go_wp2_with fail
    exact ret_row2 rfl rfl g2 g3 rfl rfl 24 (bv D1) (bv D2) _ (HSe.row 4 rfl) (HSe.row 3 rfl) Tryd.underlying24 rfl (dgS hD1) (dgS hD2) ⟨rfl, HSe.hb⟩
end Go.Proofs.YtbjbdnlgoifamaaDoor
namespace Go.Proofs.YtbjbdnlgoifamaaDoor
open Go.RowKit Cop
set_option linter.unusedVariables false
set_option linter.unusedSimpArgs false
theorem fold232 (nd : List UInt8 → List UInt8 → List UInt8) (hnd : ∀ a b, (nd a b).length = 32) : ∀ (l : List (Bool × List UInt8)) (d : List UInt8 × List UInt8), d.1.length = 32 → d.2.length = 32 →
    (l.foldl (fun (d : List UInt8 × List UInt8) q => if q.1 then (d.1, nd d.2 q.2) else (nd q.2 d.1, nd q.2 d.2)) d).1.length = 32 ∧ (l.foldl (fun (d : List UInt8 × List UInt8) q => if q.1 then (d.1, nd d.2 q.2) else (nd q.2 d.1, nd q.2 d.2)) d).2.length = 32 := by
  intro l
  induction l with
  | nil => intro d h1 h2; exact ⟨h1, h2⟩
  | cons q l ih =>
    intro d h1 h2
    rw [List.foldl_cons]
    refine ih _ ?_ ?_
    · split
      · exact h1
      · exact hnd _ _
    · split <;> exact hnd _ _
theorem climb2_steps (nd : List UInt8 → List UInt8 → List UInt8) (hnd : ∀ a b, (nd a b).length = 32) (st : List UInt8) (hst : st.length = 32) (ts : List Bool) (p : List (List UInt8)) (h : ts.length = p.length) :
    ∃ FA FB : Nat → List UInt8, FA 0 = st ∧ FB 0 = st ∧ FA p.length = (climb2 nd st ts p).1 ∧ FB p.length = (climb2 nd st ts p).2 ∧ (∀ k, (FA k).length = 32) ∧ (∀ k, (FB k).length = 32) ∧
      (∀ k, k < p.length → ts.getD (p.length - 1 - k) false = true → FA (k + 1) = FA k ∧ FB (k + 1) = nd (FB k) (p.getD k [])) ∧ (∀ k, k < p.length → ts.getD (p.length - 1 - k) false = false → FA (k + 1) = nd (p.getD k []) (FA k) ∧ FB (k + 1) = nd (p.getD k []) (FB k)) := by
  have key : ∀ k, k < p.length → (ts.reverse.zip p).take (k + 1) = (ts.reverse.zip p).take k ++ [(ts.getD (p.length - 1 - k) false, p.getD k [])] := by
    intro k hk
    have h1 : k < (ts.reverse.zip p).length := by simp [List.length_zip]; omega
    rw [List.take_add_one, List.getElem?_eq_getElem h1, List.getElem_zip, List.getElem_reverse]
    simp [List.getD, hk, h, show p.length - 1 - k < p.length from by omega]
  obtain ⟨G, hG⟩ : ∃ G : Nat → List UInt8 × List UInt8, ∀ k, G k = ((ts.reverse.zip p).take k).foldl (fun (d : List UInt8 × List UInt8) q => if q.1 then (d.1, nd d.2 q.2) else (nd q.2 d.1, nd q.2 d.2)) (st, st) := ⟨_, fun _ => rfl⟩
  have hS : ∀ k, k < p.length → G (k + 1) = if ts.getD (p.length - 1 - k) false = true then ((G k).1, nd (G k).2 (p.getD k [])) else (nd (p.getD k []) (G k).1, nd (p.getD k []) (G k).2) := by
    intro k hk
    rw [hG, hG, key k hk, List.foldl_append]
    rfl
  have hL : G p.length = climb2 nd st ts p := by
    rw [hG, List.take_of_length_le (by rw [List.length_zip]; omega), ← climb2_fold nd st ts p h]
  have h32 : ∀ k, (G k).1.length = 32 ∧ (G k).2.length = 32 := fun k => by
    rw [hG]; exact fold232 nd hnd _ _ hst hst
  have h0 : G 0 = (st, st) := by rw [hG]; rfl
  refine ⟨fun k => (G k).1, fun k => (G k).2, by simp only [h0], by simp only [h0], by simp only [hL], by simp only [hL], fun k => (h32 k).1, fun k => (h32 k).2, fun k hk ht => ?_, fun k hk ht => ?_⟩
  · have := hS k hk
    rw [ht, if_pos rfl] at this
    simp only [this, and_self]
  · have := hS k hk
    rw [ht, if_neg (by decide)] at this
    simp only [this, and_self]
set_option maxRecDepth 100000 in
set_option maxHeartbeats 4000000 in
theorem rroots_bad (leaf : List UInt8) (m n : Int) (v : Value) (w : World) (h : ¬ okS m n) : Gives 71 #[.agg (bv leaf), .int .i64 m, .int .i64 n, v] w (.tuple #[.agg (bv (List.replicate 32 0)), .agg (bv (List.replicate 32 0)), .int .i64 40]) := by
  have CB := Lib.hid (fun w => rsteps_bad m n w h)
  have HS0 := Sep.start w
  clear h
  go_enter Tryd.func71, Tryd.ntmps71
  go_wp2_with (first | refine wl_bx HS0 rfl 24 _ rfl (bv leaf) rfl ?_)
  intro g1 w1 HS1
  go_wp2_with (first | refine wl_al HS1 rfl 24 rfl (bv (List.replicate 32 0)) (by kernel_rfl) ?_)
  intro g2 w2 HS2
  go_wp2_with (first | refine wl_al HS2 rfl 24 rfl (bv (List.replicate 32 0)) (by kernel_rfl) ?_)
  intro g3 w3 HS3
  go_wp2_with fail
  (with_reducible refine Calls.mono (CB.out w3) ?_)
  rintro e wx ⟨rfl, rfl⟩
  go_wp2_with (first | refine wl_st HS3 1 rfl rfl 24 _ _ rfl rfl (cs := bv (List.replicate 32 0)) rfl (dgS rfl) rfl (bv_one _) ?_)
  intro w4 HS4
  go_wp2_with (first | refine wl_st HS4 0 rfl rfl 24 _ _ rfl rfl (cs := bv (List.replicate 32 0)) rfl (dgS rfl) rfl (bv_one _) ?_)
  intro w5 HS5
  go_wp2_with fail
  exact ret_row2t rfl rfl g2 g3 rfl rfl 24 (bv (List.replicate 32 0)) (bv (List.replicate 32 0)) _ (HS5.row 1 rfl) (HS5.row 0 rfl) Tryd.underlying24 rfl (dgS rfl) (dgS rfl) (.int .i64 40) rfl ⟨rfl, HS5.hb⟩
set_option maxRecDepth 100000 in
set_option maxHeartbeats 4000000 in
theorem rroots_short (leaf : List UInt8) (m n : Nat) (A : Option Addr) (p c : Nat) (w : World) (h1 : 1 ≤ m) (hi : m ≤ n) (hn : n ≤ 281474976710656) (hne : cnt (steps m n).1 (steps m n).2 ≠ p) : Gives 71 #[.agg (bv leaf), .int .i64 m, .int .i64 n, .slice A p c] w (.tuple #[.agg (bv (List.replicate 32 0)), .agg (bv (List.replicate 32 0)), .int .i64 70]) := by
  have CB := Lib.hid (fun w => rsteps_ok m n w h1 hi hn)
  obtain ⟨L, hL⟩ : ∃ L, cnt (steps m n).1 (steps m n).2 = L := ⟨_, rfl⟩
  rw [hL] at CB hne
  have HS0 := Sep.start w
  have hne2 : ¬ (p : Int) = (L : Int) := by omega
  clear hL hne
  go_enter Tryd.func71, Tryd.ntmps71
  go_wp2_with (first | refine wl_bx HS0 rfl 24 _ rfl (bv leaf) rfl ?_)
  intro g1 w1 HS1
  go_wp2_with (first | refine wl_al HS1 rfl 24 rfl (bv (List.replicate 32 0)) (by kernel_rfl) ?_)
  intro g2 w2 HS2
  go_wp2_with (first | refine wl_al HS2 rfl 24 rfl (bv (List.replicate 32 0)) (by kernel_rfl) ?_)
  intro g3 w3 HS3
  go_wp2_with fail
  (with_reducible refine Calls.mono (CB.out w3) ?_)
  rintro e wx ⟨rfl, rfl⟩
  go_wp2_with (first | refine wl_st HS3 1 rfl rfl 24 _ _ rfl rfl (cs := bv (List.replicate 32 0)) rfl (dgS rfl) rfl (bv_one _) ?_)
  intro w4 HS4
  go_wp2_with (first | refine wl_st HS4 0 rfl rfl 24 _ _ rfl rfl (cs := bv (List.replicate 32 0)) rfl (dgS rfl) rfl (bv_one _) ?_)
  intro w5 HS5
  go_wp2_with fail
  exact ret_row2t rfl rfl g2 g3 rfl rfl 24 (bv (List.replicate 32 0)) (bv (List.replicate 32 0)) _ (HS5.row 1 rfl) (HS5.row 0 rfl) Tryd.underlying24 rfl (dgS rfl) (dgS rfl) (.int .i64 70) rfl ⟨rfl, HS5.hb⟩
set_option maxRecDepth 100000 in
set_option maxHeartbeats 4000000 in
theorem rroots_ok (leaf : List UInt8) (m n p : Nat) (A : Option Addr) (c : Nat) (X Y : List UInt8) (w : World) (hlf : leaf.length = 32) (hX : X.length = 32) (hY : Y.length = 32) (h1 : 1 ≤ m) (hi : m ≤ n) (hn : n ≤ 281474976710656) (hm : cnt (steps m n).1 (steps m n).2 = p)
    (hC : ∀ w', Below w.heap.size w w' → Gives 87 #[.agg (bv leaf), .int .i64 m, .int .i64 n, .slice A p c, .bool true] w' (.tuple #[.agg (bv X), .agg (bv Y)])) :
    Gives 71 #[.agg (bv leaf), .int .i64 m, .int .i64 n, .slice A p c] w (.tuple #[.agg (bv X), .agg (bv Y), .int .i64 0]) := by
  have CB := Lib.hid (fun w => rsteps_ok m n w h1 hi hn)
  have CU := Lib.hid hC
  rw [hm] at CB
  have HS0 := Sep.start w
  clear hm hC
  go_enter Tryd.func71, Tryd.ntmps71
  go_wp2_with (first | refine wl_bx HS0 rfl 24 _ rfl (bv leaf) rfl ?_)
  intro g1 w1 HS1
  go_wp2_with (first | refine wl_al HS1 rfl 24 rfl (bv (List.replicate 32 0)) (by kernel_rfl) ?_)
  intro g2 w2 HS2
  go_wp2_with (first | refine wl_al HS2 rfl 24 rfl (bv (List.replicate 32 0)) (by kernel_rfl) ?_)
  intro g3 w3 HS3
  go_wp2_with fail
  (with_reducible refine Calls.mono (CB.out w3) ?_)
  rintro e wx ⟨rfl, rfl⟩
  go_wp2_with (first | refine wl_ld HS3 2 rfl rfl 24 _ rfl rfl Tryd.underlying24 rfl (dgS hlf) ?_)
  (with_reducible refine Calls.mono (CU.out w3 HS3.hb) ?_)
  rintro e w4 ⟨rfl, b4⟩
  have HS4 := HS3.keep b4
  clear HS3
  go_wp2_with (first | refine wl_al HS4 rfl 24 rfl (bv (List.replicate 32 0)) (by kernel_rfl) ?_)
  intro g5 w5 HS5
  go_wp2_with (first | refine wl_al HS5 rfl 24 rfl (bv (List.replicate 32 0)) (by kernel_rfl) ?_)
  intro g6 w6 HS6
  go_wp2_with (first | refine wl_st HS6 1 rfl rfl 24 _ _ rfl rfl rfl (dgS hX) (dgE rfl hX) (bv_one _) ?_)
  intro w7 HS7
  go_wp2_with (first | refine wl_st HS7 0 rfl rfl 24 _ _ rfl rfl rfl (dgS hY) (dgE rfl hY) (bv_one _) ?_)
  intro w8 HS8
  clear HS0 HS1 HS2 HS4 HS5 HS6 HS7
  go_wp2
  refine Cop.region_ord (fun w' => Sep w.heap.size w w' [.row g6 (bv Y) 24, .row g5 (bv X) 24]) 4 (.take 0 (.take 1 (.run 2 (.run 3 (.take 4 Cop.Ord.fin))))) (by kernel_rfl) (by kernel_rfl) (fun _ _ d _ _ h => by cases d <;> exact h) ?_
  intro wa hda
  have HSa := HS8.keep hda
  have HSz := HSa.sub (R' := [.row g6 (bv Y) 24, .row g5 (bv X) 24]) (by repeat (first | exact List.nil_sublist _ | exact List.Sublist.refl _ | apply List.Sublist.cons_cons | apply List.Sublist.cons))
  (repeat (first | (refine Cop.og_skip rfl rfl HSz _ (by (simp only [Act.put, List.setIfInBounds_toArray, List.set_cons_succ, List.set_cons_zero]; rfl)) ?_) | (refine Cop.og_ld rfl rfl HSz 24 _ rfl (.pointer (some ⟨g6, 0, none⟩)) rfl _ (fun w9 h9 => load_row (h9.row 0 rfl) 24 Tryd.underlying24 rfl (dgS hY)) _ (by (simp only [Act.put, List.setIfInBounds_toArray, List.set_cons_succ, List.set_cons_zero]; rfl)) ?_) | (refine Cop.og_ld rfl rfl HSz 24 _ rfl (.pointer (some ⟨g5, 0, none⟩)) rfl _ (fun w9 h9 => load_row (h9.row 1 rfl) 24 Tryd.underlying24 rfl (dgS hX)) _ (by (simp only [Act.put, List.setIfInBounds_toArray, List.set_cons_succ, List.set_cons_zero]; rfl)) ?_) | (refine Cop.og_take rfl rfl HSz ?_; apply Exists.intro; refine ⟨fun w9 h9 => ?_, _, by (simp only [Act.put, List.setIfInBounds_toArray, List.set_cons_succ, List.set_cons_zero]; rfl), ?_⟩; (go_simp; with_reducible rfl))))
  refine Cop.og_run rfl rfl ?_
  refine ow_st HSa 3 rfl 24 _ _ rfl rfl rfl (dgS hX) (dgE rfl hX) (bv_one _) ?_
  intro wb HSb
  refine ⟨fun _ => HSb.sub (by repeat (first | exact List.nil_sublist _ | exact List.Sublist.refl _ | apply List.Sublist.cons_cons | apply List.Sublist.cons)), ?_⟩
  refine Cop.og_run rfl rfl ?_
  refine ow_st HSb 2 rfl 24 _ _ rfl rfl rfl (dgS hY) (dgE rfl hY) (bv_one _) ?_
  intro wc HSc
  refine ⟨fun _ => HSc.sub (by repeat (first | exact List.nil_sublist _ | exact List.Sublist.refl _ | apply List.Sublist.cons_cons | apply List.Sublist.cons)), ?_⟩
  have HSy := HSc.sub (R' := [.row g6 (bv Y) 24, .row g5 (bv X) 24]) (by repeat (first | exact List.nil_sublist _ | exact List.Sublist.refl _ | apply List.Sublist.cons_cons | apply List.Sublist.cons))
  (repeat (first | (refine Cop.og_skip rfl rfl HSy _ (by (simp only [Act.put, List.setIfInBounds_toArray, List.set_cons_succ, List.set_cons_zero]; rfl)) ?_) | (refine Cop.og_take rfl rfl HSy ?_; apply Exists.intro; refine ⟨fun w9 h9 => ?_, _, by (simp only [Act.put, List.setIfInBounds_toArray, List.set_cons_succ, List.set_cons_zero]; rfl), ?_⟩; (go_simp; with_reducible rfl))))
  refine og_fin ?_
  go_wp2_with fail
  exact ret_row2t rfl rfl g2 g3 rfl rfl 24 (bv X) (bv Y) _ (HSc.row 3 rfl) (HSc.row 2 rfl) Tryd.underlying24 rfl (dgS hX) (dgS hY) (.int .i64 0) rfl ⟨rfl, HSc.hb⟩
/-- Where a path between two sizes leads, by both. -/
theorem roots_ab7 (known : List UInt8) (path : List (List UInt8)) (m n : Int) (w : World) (hT : Tab w) (hlf : known.length = 32) (hp : AllD path) (hpl : path.length ≤ 4398046511104) : ∃ (X Y : List UInt8) (E : Int), X.length = 32 ∧ Y.length = 32 ∧
    (∀ w' v, Below w.heap.size w w' → Rd w' v path.length 32 (dcs path) → Gives 55 #[.agg (bv known), .int .i64 m, .int .i64 n, v] w' (.tuple #[.agg (bv X), .agg (bv Y), .int .i64 E])) ∧
    (∀ w' v, Rd w' v path.length 32 (dcs path) → Gives 71 #[.agg (bv known), .int .i64 m, .int .i64 n, v] w' (.tuple #[.agg (bv X), .agg (bv Y), .int .i64 E])) := by
  by_cases hok : okS m n
  · obtain ⟨h1, h2, h3⟩ := hok
    obtain ⟨a, rfl⟩ : ∃ a : Nat, m = (a : Int) := ⟨m.toNat, by omega⟩
    obtain ⟨b, rfl⟩ : ∃ b : Nat, n = (b : Int) := ⟨n.toNat, by omega⟩
    have ha : 1 ≤ a := by omega
    have hab : a ≤ b := by omega
    have hb : b ≤ 281474976710656 := by omega
    have hw48 := steps_len 48 b a (by omega)
    have h57 := fun w2 => steps57 a b w2 ha hab hb
    by_cases hlen : cnt (steps a b).1 (steps a b).2 = path.length
    · have h32 := two2_32 nodeD known nodeD_length hlf a b path hp true
      have hU := fun (w' w2 : World) (v : Value) (hR : Rd w' v path.length 32 (dcs path)) (hb2 : Below w'.heap.size w' w2) => two_gen nodeD nodeD_length (fun w3 x y hx hy => node_b x y w3 hx hy) b a a b true path known v w2 rfl rfl ha hab hb hlf hp (by rw [Bool.true_and]; exact hlen.symm) hpl (hR.below hb2)
      refine ⟨(two2 nodeD known a b path true).1, (two2 nodeD known a b path true).2, 0, h32.1, h32.2, fun w' v hbl hR => ?_, fun w' v hR => ?_⟩
      · cases hbb : (steps a b).2 with
        | true =>
          rw [hbb] at hlen h57
          have e : two2 nodeD known a b path true = climb2 nodeD known (steps a b).1 path := by unfold two2; rw [hbb]; rfl
          have hl2 : (steps a b).1.length = path.length := hlen
          obtain ⟨FA, FB, q1, q2, q3, q4, q5, q6, q7, q8⟩ := climb2_steps nodeD nodeD_length known hlf (steps a b).1 path hl2
          rw [e, ← q3, ← q4]
          exact vroots_t nodeD FA FB (steps a b).1 path known a b v w' ha hab hb hw48 hl2 hp hlf hR q1 q2 q5 q6 q7 q8 h57 (fun w2 x y hb2 hx hy => node_a x y w2 ((hT.below hbl).below hb2) hx hy)
        | false =>
          rw [hbb] at hlen h57
          cases path with
          | nil => simp [cnt] at hlen
          | cons c r =>
            have e : two2 nodeD known a b (c :: r) true = climb2 nodeD c (steps a b).1 r := by unfold two2; rw [hbb]; rfl
            have hl2 : (steps a b).1.length = r.length := by simpa [cnt] using hlen
            obtain ⟨FA, FB, q1, q2, q3, q4, q5, q6, q7, q8⟩ := climb2_steps nodeD nodeD_length c (hp c (by simp)) (steps a b).1 r hl2
            rw [e, ← q3, ← q4]
            exact vroots_f nodeD FA FB (steps a b).1 r c known a b v w' ha hab hb hw48 hl2 hp hlf hR q1 q2 q5 q6 q7 q8 h57 (fun w2 x y hb2 hx hy => node_a x y w2 ((hT.below hbl).below hb2) hx hy)
      · have hU2 := fun w2 hb2 => hU w' w2 v hR hb2
        obtain ⟨A, c, rfl, _, _⟩ := hR.shape
        exact rroots_ok known a b _ A c _ _ w' hlf h32.1 h32.2 ha hab hb hlen hU2
    · refine ⟨List.replicate 32 0, List.replicate 32 0, 70, rfl, rfl, fun w' v hbl hR => ?_, fun w' v hR => ?_⟩
      · obtain ⟨A, c, rfl, _, _⟩ := hR.shape
        exact vroots_short known a b A _ c (steps a b).1 (steps a b).2 w' ha hab hb hlen hpl hw48 h57
      · obtain ⟨A, c, rfl, _, _⟩ := hR.shape
        exact rroots_short known a b A _ c w' ha hab hb hlen
  · exact ⟨List.replicate 32 0, List.replicate 32 0, 40, rfl, rfl, fun w' v hbl hR => vroots_bad known m n v w' hok, fun w' v hR => rroots_bad known m n v w' hok⟩
set_option maxRecDepth 100000 in
set_option maxHeartbeats 4000000 in
theorem vcons (older newer X Y : List UInt8) (E F m n : Int) (v : Value) (w : World) (hol : older.length = 32) (hnl : newer.length = 32) (hX : X.length = 32) (hY : Y.length = 32)
    (hF : (E ≠ 0 ∧ F = E) ∨ (E = 0 ∧ X = older ∧ Y = newer ∧ F = 0) ∨ (E = 0 ∧ X ≠ older ∧ F = 71) ∨ (E = 0 ∧ X = older ∧ Y ≠ newer ∧ F = 71))
    (hC : ∀ w', Below w.heap.size w w' → Gives 55 #[.agg (bv older), .int .i64 m, .int .i64 n, v] w' (.tuple #[.agg (bv X), .agg (bv Y), .int .i64 E])) :
    Gives 31 #[.int .i64 m, .int .i64 n, .agg (bv older), .agg (bv newer), v] w (.int .i64 F) := by
  have CR := Lib.hid hC
  have HE1 := Lib.hid (fun w' : World => run_equal_bv (P := Tryd.prog) w' (d := 9998) Tryd.underlying24 Tryd.underlying5 (by kernel_rfl) X older hX hol)
  have HE2 := Lib.hid (fun w' : World => run_equal_bv (P := Tryd.prog) w' (d := 9998) Tryd.underlying24 Tryd.underlying5 (by kernel_rfl) Y newer hY hnl)
  have HF := Lib.hid hF
  have HS0 := Sep.start w
  clear hC hF
  go_enter Tryd.func31, Tryd.ntmps31
  go_wp2_with (first | refine wl_bx HS0 rfl 24 _ rfl (bv older) rfl ?_)
  intro g1 w1 HS1
  go_wp2_with (first | refine wl_bx HS1 rfl 24 _ rfl (bv newer) rfl ?_)
  intro g2 w2 HS2
  go_wp2_with (first | refine wl_ld HS2 1 rfl rfl 24 _ rfl rfl Tryd.underlying24 rfl (dgS hol) ?_)
  (with_reducible refine Calls.mono (CR.out w2 HS2.hb) ?_)
  rintro e w3 ⟨rfl, b3⟩
  have HS3 := HS2.keep b3
  clear HS2
  go_wp2_with (first | refine wl_al HS3 rfl 24 rfl (bv (List.replicate 32 0)) (by kernel_rfl) ?_)
  intro g4 w4 HS4
  go_wp2_with (first | refine wl_al HS4 rfl 24 rfl (bv (List.replicate 32 0)) (by kernel_rfl) ?_)
  intro g5 w5 HS5
  go_wp2_with (first | refine wl_st HS5 1 rfl rfl 24 _ _ rfl rfl rfl (dgS hX) (dgE rfl hX) (bv_one _) ?_)
  intro w6 HS6
  go_wp2_with (first | refine wl_st HS6 0 rfl rfl 24 _ _ rfl rfl rfl (dgS hY) (dgE rfl hY) (bv_one _) ?_)
  intro w7 HS7
  clear HS0 HS1 HS3 HS4 HS5 HS6
  have q1 := HE1.out w7
  have q2 := HE2.out w7
  rcases HF.out with ⟨h1, rfl⟩ | ⟨rfl, h2, h3, rfl⟩ | ⟨rfl, h2, rfl⟩ | ⟨rfl, h2, h3, rfl⟩
  · go_wp2
    go_ret
    exact ⟨rfl, HS7.hb⟩
  · rw [decide_eq_true h2] at q1
    rw [decide_eq_true h3] at q2
    clear h2 h3
    go_wp2_with (first | refine wl_ld HS7 0 rfl rfl 24 _ rfl rfl Tryd.underlying24 rfl (dgS hY) ?_ | refine wl_ld HS7 1 rfl rfl 24 _ rfl rfl Tryd.underlying24 rfl (dgS hX) ?_ | refine wl_ld HS7 2 rfl rfl 24 _ rfl rfl Tryd.underlying24 rfl (dgS hnl) ?_ | refine wl_ld HS7 3 rfl rfl 24 _ rfl rfl Tryd.underlying24 rfl (dgS hol) ?_ | refine wl_ldg HS7 0 rfl 24 _ rfl rfl Tryd.underlying24 rfl (dgS hY) rfl ?_ | refine wl_ldg HS7 1 rfl 24 _ rfl rfl Tryd.underlying24 rfl (dgS hX) rfl ?_ | refine wl_ldg HS7 2 rfl 24 _ rfl rfl Tryd.underlying24 rfl (dgS hnl) rfl ?_ | refine wl_ldg HS7 3 rfl 24 _ rfl rfl Tryd.underlying24 rfl (dgS hol) rfl ?_)
    go_ret
    exact ⟨rfl, HS7.hb⟩
  · rw [decide_eq_false h2] at q1
    clear h2
    go_wp2_with (first | refine wl_ld HS7 0 rfl rfl 24 _ rfl rfl Tryd.underlying24 rfl (dgS hY) ?_ | refine wl_ld HS7 1 rfl rfl 24 _ rfl rfl Tryd.underlying24 rfl (dgS hX) ?_ | refine wl_ld HS7 2 rfl rfl 24 _ rfl rfl Tryd.underlying24 rfl (dgS hnl) ?_ | refine wl_ld HS7 3 rfl rfl 24 _ rfl rfl Tryd.underlying24 rfl (dgS hol) ?_ | refine wl_ldg HS7 0 rfl 24 _ rfl rfl Tryd.underlying24 rfl (dgS hY) rfl ?_ | refine wl_ldg HS7 1 rfl 24 _ rfl rfl Tryd.underlying24 rfl (dgS hX) rfl ?_ | refine wl_ldg HS7 2 rfl 24 _ rfl rfl Tryd.underlying24 rfl (dgS hnl) rfl ?_ | refine wl_ldg HS7 3 rfl 24 _ rfl rfl Tryd.underlying24 rfl (dgS hol) rfl ?_)
    go_ret
    exact ⟨rfl, HS7.hb⟩
  · rw [decide_eq_true h2] at q1
    rw [decide_eq_false h3] at q2
    clear h2 h3
    go_wp2_with (first | refine wl_ld HS7 0 rfl rfl 24 _ rfl rfl Tryd.underlying24 rfl (dgS hY) ?_ | refine wl_ld HS7 1 rfl rfl 24 _ rfl rfl Tryd.underlying24 rfl (dgS hX) ?_ | refine wl_ld HS7 2 rfl rfl 24 _ rfl rfl Tryd.underlying24 rfl (dgS hnl) ?_ | refine wl_ld HS7 3 rfl rfl 24 _ rfl rfl Tryd.underlying24 rfl (dgS hol) ?_ | refine wl_ldg HS7 0 rfl 24 _ rfl rfl Tryd.underlying24 rfl (dgS hY) rfl ?_ | refine wl_ldg HS7 1 rfl 24 _ rfl rfl Tryd.underlying24 rfl (dgS hX) rfl ?_ | refine wl_ldg HS7 2 rfl 24 _ rfl rfl Tryd.underlying24 rfl (dgS hnl) rfl ?_ | refine wl_ldg HS7 3 rfl 24 _ rfl rfl Tryd.underlying24 rfl (dgS hol) rfl ?_)
    go_ret
    exact ⟨rfl, HS7.hb⟩
set_option maxRecDepth 100000 in
set_option maxHeartbeats 4000000 in
theorem rcons (older newer X Y : List UInt8) (E F m n : Int) (v : Value) (w : World) (hol : older.length = 32) (hnl : newer.length = 32) (hX : X.length = 32) (hY : Y.length = 32)
    (hF : (E ≠ 0 ∧ F = E) ∨ (E = 0 ∧ X = older ∧ Y = newer ∧ F = 0) ∨ (E = 0 ∧ X ≠ older ∧ F = 71) ∨ (E = 0 ∧ X = older ∧ Y ≠ newer ∧ F = 71))
    (hC : ∀ w', Below w.heap.size w w' → Gives 71 #[.agg (bv older), .int .i64 m, .int .i64 n, v] w' (.tuple #[.agg (bv X), .agg (bv Y), .int .i64 E])) :
    Gives 42 #[.int .i64 m, .int .i64 n, .agg (bv older), .agg (bv newer), v] w (.int .i64 F) := by
  have CR := Lib.hid hC
  have HE1 := Lib.hid (fun w' : World => run_equal_bv (P := Tryd.prog) w' (d := 9998) Tryd.underlying24 Tryd.underlying5 (by kernel_rfl) X older hX hol)
  have HE2 := Lib.hid (fun w' : World => run_equal_bv (P := Tryd.prog) w' (d := 9998) Tryd.underlying24 Tryd.underlying5 (by kernel_rfl) Y newer hY hnl)
  have HF := Lib.hid hF
  have HS0 := Sep.start w
  clear hC hF
  go_enter Tryd.func42, Tryd.ntmps42
  go_wp2_with (first | refine wl_bx HS0 rfl 24 _ rfl (bv older) rfl ?_)
  intro g1 w1 HS1
  go_wp2_with (first | refine wl_bx HS1 rfl 24 _ rfl (bv newer) rfl ?_)
  intro g2 w2 HS2
  go_wp2_with (first | refine wl_ld HS2 1 rfl rfl 24 _ rfl rfl Tryd.underlying24 rfl (dgS hol) ?_)
  (with_reducible refine Calls.mono (CR.out w2 HS2.hb) ?_)
  rintro e w3 ⟨rfl, b3⟩
  have HS3 := HS2.keep b3
  clear HS2
  go_wp2_with (first | refine wl_al HS3 rfl 24 rfl (bv (List.replicate 32 0)) (by kernel_rfl) ?_)
  intro g4 w4 HS4
  go_wp2_with (first | refine wl_al HS4 rfl 24 rfl (bv (List.replicate 32 0)) (by kernel_rfl) ?_)
  intro g5 w5 HS5
  go_wp2_with (first | refine wl_st HS5 1 rfl rfl 24 _ _ rfl rfl rfl (dgS hX) (dgE rfl hX) (bv_one _) ?_)
  intro w6 HS6
  go_wp2_with (first | refine wl_st HS6 0 rfl rfl 24 _ _ rfl rfl rfl (dgS hY) (dgE rfl hY) (bv_one _) ?_)
  intro w7 HS7
  clear HS0 HS1 HS3 HS4 HS5 HS6
  have q1 := HE1.out w7
  have q2 := HE2.out w7
  rcases HF.out with ⟨h1, rfl⟩ | ⟨rfl, h2, h3, rfl⟩ | ⟨rfl, h2, rfl⟩ | ⟨rfl, h2, h3, rfl⟩
  · go_wp2
    go_ret
    exact ⟨rfl, HS7.hb⟩
  · rw [decide_eq_true h2] at q1
    rw [decide_eq_true h3] at q2
    clear h2 h3
    go_wp2_with (first | refine wl_ld HS7 0 rfl rfl 24 _ rfl rfl Tryd.underlying24 rfl (dgS hY) ?_ | refine wl_ld HS7 1 rfl rfl 24 _ rfl rfl Tryd.underlying24 rfl (dgS hX) ?_ | refine wl_ld HS7 2 rfl rfl 24 _ rfl rfl Tryd.underlying24 rfl (dgS hnl) ?_ | refine wl_ld HS7 3 rfl rfl 24 _ rfl rfl Tryd.underlying24 rfl (dgS hol) ?_ | refine wl_ldg HS7 0 rfl 24 _ rfl rfl Tryd.underlying24 rfl (dgS hY) rfl ?_ | refine wl_ldg HS7 1 rfl 24 _ rfl rfl Tryd.underlying24 rfl (dgS hX) rfl ?_ | refine wl_ldg HS7 2 rfl 24 _ rfl rfl Tryd.underlying24 rfl (dgS hnl) rfl ?_ | refine wl_ldg HS7 3 rfl 24 _ rfl rfl Tryd.underlying24 rfl (dgS hol) rfl ?_)
    go_ret
    exact ⟨rfl, HS7.hb⟩
  · rw [decide_eq_false h2] at q1
    clear h2
    go_wp2_with (first | refine wl_ld HS7 0 rfl rfl 24 _ rfl rfl Tryd.underlying24 rfl (dgS hY) ?_ | refine wl_ld HS7 1 rfl rfl 24 _ rfl rfl Tryd.underlying24 rfl (dgS hX) ?_ | refine wl_ld HS7 2 rfl rfl 24 _ rfl rfl Tryd.underlying24 rfl (dgS hnl) ?_ | refine wl_ld HS7 3 rfl rfl 24 _ rfl rfl Tryd.underlying24 rfl (dgS hol) ?_ | refine wl_ldg HS7 0 rfl 24 _ rfl rfl Tryd.underlying24 rfl (dgS hY) rfl ?_ | refine wl_ldg HS7 1 rfl 24 _ rfl rfl Tryd.underlying24 rfl (dgS hX) rfl ?_ | refine wl_ldg HS7 2 rfl 24 _ rfl rfl Tryd.underlying24 rfl (dgS hnl) rfl ?_ | refine wl_ldg HS7 3 rfl 24 _ rfl rfl Tryd.underlying24 rfl (dgS hol) rfl ?_)
    go_ret
    exact ⟨rfl, HS7.hb⟩
  · rw [decide_eq_true h2] at q1
    rw [decide_eq_false h3] at q2
    clear h2 h3
    go_wp2_with (first | refine wl_ld HS7 0 rfl rfl 24 _ rfl rfl Tryd.underlying24 rfl (dgS hY) ?_ | refine wl_ld HS7 1 rfl rfl 24 _ rfl rfl Tryd.underlying24 rfl (dgS hX) ?_ | refine wl_ld HS7 2 rfl rfl 24 _ rfl rfl Tryd.underlying24 rfl (dgS hnl) ?_ | refine wl_ld HS7 3 rfl rfl 24 _ rfl rfl Tryd.underlying24 rfl (dgS hol) ?_ | refine wl_ldg HS7 0 rfl 24 _ rfl rfl Tryd.underlying24 rfl (dgS hY) rfl ?_ | refine wl_ldg HS7 1 rfl 24 _ rfl rfl Tryd.underlying24 rfl (dgS hX) rfl ?_ | refine wl_ldg HS7 2 rfl 24 _ rfl rfl Tryd.underlying24 rfl (dgS hnl) rfl ?_ | refine wl_ldg HS7 3 rfl 24 _ rfl rfl Tryd.underlying24 rfl (dgS hol) rfl ?_)
    go_ret
    exact ⟨rfl, HS7.hb⟩
/-- A consistency, by both. -/
theorem cons_ab7 (older newer : List UInt8) (path : List (List UInt8)) (m n : Int) (w : World) (hT : Tab w) (hol : older.length = 32) (hnl : newer.length = 32) (hp : AllD path) (hpl : path.length ≤ 4398046511104) : ∃ (F : Int),
    (∀ w' v, Below w.heap.size w w' → Rd w' v path.length 32 (dcs path) → Gives 31 #[.int .i64 m, .int .i64 n, .agg (bv older), .agg (bv newer), v] w' (.int .i64 F)) ∧
    (∀ w' v, Rd w' v path.length 32 (dcs path) → Gives 42 #[.int .i64 m, .int .i64 n, .agg (bv older), .agg (bv newer), v] w' (.int .i64 F)) := by
  obtain ⟨X, Y, E, hX, hY, h1, h2⟩ := roots_ab7 older path m n w hT hol hp hpl
  obtain ⟨F, hF⟩ : ∃ F : Int, (E ≠ 0 ∧ F = E) ∨ (E = 0 ∧ X = older ∧ Y = newer ∧ F = 0) ∨ (E = 0 ∧ X ≠ older ∧ F = 71) ∨ (E = 0 ∧ X = older ∧ Y ≠ newer ∧ F = 71) := by
    by_cases hE : E = 0
    · by_cases hx : X = older
      · by_cases hy : Y = newer
        · exact ⟨0, .inr (.inl ⟨hE, hx, hy, rfl⟩)⟩
        · exact ⟨71, .inr (.inr (.inr ⟨hE, hx, hy, rfl⟩))⟩
      · exact ⟨71, .inr (.inr (.inl ⟨hE, hx, rfl⟩))⟩
    · exact ⟨E, .inl ⟨hE, rfl⟩⟩
  exact ⟨F, fun w' v hb hR => vcons older newer X Y E F m n v w' hol hnl hX hY hF (fun w2 hb2 => h1 w2 v (bcall hb hb2) (hR.below hb2)), fun w' v hR => rcons older newer X Y E F m n v w' hol hnl hX hY hF (fun w2 hb2 => h2 w2 v (hR.below hb2))⟩
end Go.Proofs.YtbjbdnlgoifamaaDoor
namespace Go.Proofs.YtbjbdnlgoifamaaDoor
open Go.RowKit Cop
set_option linter.unusedVariables false
set_option linter.unusedSimpArgs false
end Go.Proofs.YtbjbdnlgoifamaaDoor
