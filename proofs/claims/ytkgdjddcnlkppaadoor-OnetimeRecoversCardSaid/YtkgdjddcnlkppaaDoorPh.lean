/- A chain of one-time signatures. -/
import Derived.Test.YtkgdjddcnlkppaaDoorPg
namespace Go.Proofs.YtkgdjddcnlkppaaDoor
open Go.RowKit Cop
set_option linter.unusedVariables false
set_option linter.unusedSimpArgs false
/-- A chain's next value. -/
def stepD (s : List UInt8) (i j : Nat) (x : List UInt8) : List UInt8 := sha (([2] ++ s) ++ [UInt8.ofNat i, UInt8.ofNat j] ++ x)
theorem stepD_length (s : List UInt8) (i j : Nat) (x : List UInt8) : (stepD s i j x).length = 32 := sha_length _
/-- k steps from place j. -/
def chainD (s : List UInt8) (i j : Nat) : Nat → List UInt8 → List UInt8
  | 0, x => x
  | k + 1, x => chainD s i (j + 1) k (stepD s i j x)
theorem chainD_succ (s : List UInt8) (i j k : Nat) (x : List UInt8) : chainD s i j (k + 1) x = chainD s i (j + 1) k (stepD s i j x) := rfl
theorem chainD_length (s : List UInt8) (i : Nat) : ∀ (k j : Nat) (x : List UInt8), x.length = 32 → (chainD s i j k x).length = 32
  | 0, _, _, h => h
  | k + 1, j, x, _ => chainD_length s i k (j + 1) _ (stepD_length _ _ _ _)
theorem chainD_add (s : List UInt8) (i : Nat) : ∀ (k m j : Nat) (x : List UInt8), chainD s i j (k + m) x = chainD s i (j + k) m (chainD s i j k x)
  | 0, m, j, x => by rw [Nat.zero_add]; rfl
  | k + 1, m, j, x => by
    rw [show k + 1 + m = (k + m) + 1 from by omega, chainD, chainD, chainD_add s i k m (j + 1), show j + 1 + k = j + (k + 1) from by omega]
theorem byte_int (n : Nat) (h : n < 256) : ((UInt8.ofNat n).toNat : Int) = (n : Int) := by
  rw [UInt8.toNat_ofNat']
  omega
set_option maxRecDepth 100000 in
set_option maxHeartbeats 4000000 in
theorem step_a (s x : List UInt8) (i j : Nat) (w : World) (hT : Tab w) (hs : s.length = 32) (hx : x.length = 32) (hi : i < 256) (hj : j < 256) :
    Calls Tryd.prog 44 #[.agg (bv s), .int .i64 i, .int .i64 j, .agg (bv x)] w fun e w' => e = .returned (.agg (bv (stepD s i j x))) ∧ Below w.heap.size w w' := by
  have hDl := stepD_length s i j x
  obtain ⟨D, hD⟩ : ∃ y, stepD s i j x = y := ⟨_, rfl⟩
  obtain ⟨L, hL⟩ : ∃ y, [2] ++ s = y := ⟨_, rfl⟩
  obtain ⟨p, hp⟩ : ∃ y, UInt8.ofNat i = y := ⟨_, rfl⟩
  obtain ⟨q, hq⟩ : ∃ y, UInt8.ofNat j = y := ⟨_, rfl⟩
  have HWI := Lib.hid (show IntKind.u8.wrap (i : Int) = (p.toNat : Int) by rw [← hp, byte_int i hi, IntKind.wrap_u8]; omega)
  have HWJ := Lib.hid (show IntKind.u8.wrap (j : Int) = (q.toNat : Int) by rw [← hq, byte_int j hj, IntKind.wrap_u8]; omega)
  obtain ⟨M, hM⟩ : ∃ y, L ++ [p, q] = y := ⟨_, rfl⟩
  obtain ⟨N, hN⟩ : ∃ y, M ++ x = y := ⟨_, rfl⟩
  have hLl : 1 + 32 = L.length := by rw [← hL, List.length_append, hs]; rfl
  have hMl : L.length + 2 = M.length := by rw [← hM, List.length_append]; rfl
  have hNl : M.length + 32 = N.length := by rw [← hN, List.length_append, hx]
  have CS := Lib.hid (sum_a N)
  have CP := Lib.hid (fun v w hR => putDigest_a M x v w hR hx (by omega))
  rw [show sha N = D by rw [← hN, ← hM, ← hL, ← hp, ← hq]; exact hD] at CS
  rw [hN] at CP
  rw [hD] at hDl ⊢
  have HDL := Lib.hid hDl
  have HL := Lib.hid hL
  have HLL := Lib.hid hLl
  have HM := Lib.hid hM
  have HML := Lib.hid hMl
  have hL9 : L.length ≤ 33 := by omega
  have hM9 : M.length ≤ 35 := by omega
  have hN9 : N.length ≤ 67 := by omega
  have HTB := hT.base
  have HA : True := trivial
  have HS0 := Sep.start w
  have hi' : (i : Int) < 256 := by omega
  have hj' : (j : Int) < 256 := by omega
  clear hD hDl hL hM hN hLl hMl hNl hp hq
  go_enter Tryd.func44, Tryd.ntmps44
  go_wp2_with (first | refine wl_bx HS0 rfl 23 _ rfl (bv s) rfl ?_)
  intro g1 w1 HS1
  go_wp2_with (first | refine wl_bx HS1 rfl 23 _ rfl (bv x) rfl ?_)
  intro g2 w2 HS2
  go_wp2_with (first | refine wl_al HS2 rfl 23 rfl (bv (List.replicate 32 0)) (by kernel_rfl) ?_)
  intro g3 w3 HS3
  go_wp2_with (first | refine wl_bs HS3 rfl 33 5 1 1 _ rfl (bl [2]) (.int .u8 0) Tryd.underlying33 (by kernel_rfl) (by decide) (by decide) (by kernel_rfl) rfl ?_)
  intro g4 w4 HS4
  have HS5 := HS4.rowRd 3 rfl 32 hs (by decide)
  go_wp2_with (refine wl_apb (xs := [2]) HS5 0 rfl rfl rfl (HS5.rd 3 rfl) rfl rfl L.length L HLL.out HL.out (by omega) ?_)
  intro v6 w6 HS6 _
  obtain ⟨A6, c6, rfl, _⟩ := (HS6.own 0 rfl).sl
  clear HS0 HS1 HS2 HS3 HS4 HS5
  go_wp2
  refine Cop.region_ord (fun w' => Sep w.heap.size w w' [.row g2 (bv x) 23]) 10 (.take 0 (.take 1 (.take 2 (.take 3 (.take 4 (.take 7 (.run 5 (.run 6 (.run 8 (.run 9 (.run 10 Cop.Ord.fin))))))))))) (by kernel_rfl) (by kernel_rfl) (fun _ _ d _ _ h => by cases d <;> exact h) ?_
  intro wa hda
  have HSa := HS6.keep hda
  have HTa : Sep w.heap.size w wa [.row g2 (bv x) 23] := HSa.sub (by repeat (first | exact List.nil_sublist _ | exact List.Sublist.refl _ | apply List.Sublist.cons_cons | apply List.Sublist.cons))
  clear HS6
  (repeat (first | (refine Cop.og_skip rfl rfl HTa _ (by (simp only [Act.put, List.setIfInBounds_toArray, List.set_cons_succ, List.set_cons_zero]; rfl)) ?_) | (refine Cop.og_ld rfl rfl HTa 23 _ rfl (.pointer (some ⟨g2, 0, none⟩)) rfl _ (fun w9 h9 => load_row (h9.row 0 rfl) 23 Tryd.underlying23 rfl (by rw [bv_size, hx]; exact info_dg)) _ (by (simp only [Act.put, List.setIfInBounds_toArray, List.set_cons_succ, List.set_cons_zero]; rfl)) ?_) | (refine Cop.og_take rfl rfl HTa ?_; apply Exists.intro; refine ⟨fun w9 h9 => ?_, _, by (simp only [Act.put, List.setIfInBounds_toArray, List.set_cons_succ, List.set_cons_zero]; rfl), ?_⟩; (have q1 := HWI.out; have q2 := HWJ.out; go_simp; with_reducible rfl))))
  refine Cop.og_run rfl rfl ?_
  refine ow_bs HSa 33 5 2 1 _ rfl (bl [p, q]) (.int .u8 0) Tryd.underlying33 (by kernel_rfl) (by decide) (by decide) (by kernel_rfl) rfl ?_
  intro g7 wb HSb
  have HTb : Sep w.heap.size w wb [.row g2 (bv x) 23] := HSb.sub (by repeat (first | exact List.nil_sublist _ | exact List.Sublist.refl _ | apply List.Sublist.cons_cons | apply List.Sublist.cons))
  refine ⟨fun _ => HTb, ?_⟩
  (repeat (first | (refine Cop.og_skip rfl rfl HTb _ (by (simp only [Act.put, List.setIfInBounds_toArray, List.set_cons_succ, List.set_cons_zero]; rfl)) ?_) | (refine Cop.og_take rfl rfl HTb ?_; apply Exists.intro; refine ⟨fun w9 h9 => ?_, _, by (simp only [Act.put, List.setIfInBounds_toArray, List.set_cons_succ, List.set_cons_zero]; rfl), ?_⟩; (go_simp; with_reducible rfl))))
  refine Cop.og_run rfl rfl ?_
  refine ow_apb (xs := L) (cs := [p, q]) HSb 1 rfl rfl (HSb.own 0 rfl).rd rfl rfl M.length M HML.out HM.out (by omega) ?_
  intro v8 wc HSc _
  obtain ⟨A8, c8, rfl, _⟩ := (HSc.own 1 rfl).sl
  have HTc : Sep w.heap.size w wc [.row g2 (bv x) 23] := HSc.sub (by repeat (first | exact List.nil_sublist _ | exact List.Sublist.refl _ | apply List.Sublist.cons_cons | apply List.Sublist.cons))
  refine ⟨fun _ => HTc, ?_⟩
  (repeat (first | (refine Cop.og_skip rfl rfl HTc _ (by (simp only [Act.put, List.setIfInBounds_toArray, List.set_cons_succ, List.set_cons_zero]; rfl)) ?_) | (refine Cop.og_take rfl rfl HTc ?_; apply Exists.intro; refine ⟨fun w9 h9 => ?_, _, by (simp only [Act.put, List.setIfInBounds_toArray, List.set_cons_succ, List.set_cons_zero]; rfl), ?_⟩; (go_simp; with_reducible rfl))))
  refine Cop.og_run rfl rfl ?_
  refine ow_call_ex 31 _ (fun x w' => Below wc.heap.size wc w' ∧ Ow w' wc.heap.size 5 1 x N.length (bl N)) (by go_simp) (CP.out _ wc (HSc.own 1 rfl).rd) ?_
  rintro v9 wd ⟨bd, od⟩
  have HSd := HSc.made bd od
  obtain ⟨A9, c9, rfl, _⟩ := (HSd.own 0 rfl).sl
  have HTd : Sep w.heap.size w wd [.row g2 (bv x) 23] := HSd.sub (by repeat (first | exact List.nil_sublist _ | exact List.Sublist.refl _ | apply List.Sublist.cons_cons | apply List.Sublist.cons))
  refine ⟨fun _ => HTd, ?_⟩
  (repeat (first | (refine Cop.og_skip rfl rfl HTd _ (by (simp only [Act.put, List.setIfInBounds_toArray, List.set_cons_succ, List.set_cons_zero]; rfl)) ?_) | (refine Cop.og_take rfl rfl HTd ?_; apply Exists.intro; refine ⟨fun w9 h9 => ?_, _, by (simp only [Act.put, List.setIfInBounds_toArray, List.set_cons_succ, List.set_cons_zero]; rfl), ?_⟩; (go_simp; with_reducible rfl))))
  refine Cop.og_run rfl rfl ?_
  refine ow_call 32 _ _ (fun w' => Below wd.heap.size wd w') (by go_simp) (CS.out _ wd (HTB _ HSd.hb) (HSd.own 0 rfl).rd (by omega)) ?_
  intro we be
  have HSe := HSd.keep be
  have HTe : Sep w.heap.size w we [.row g2 (bv x) 23] := HSe.sub (by repeat (first | exact List.nil_sublist _ | exact List.Sublist.refl _ | apply List.Sublist.cons_cons | apply List.Sublist.cons))
  refine ⟨fun _ => HTe, ?_⟩
  (repeat (first | (refine Cop.og_skip rfl rfl HTe _ (by (simp only [Act.put, List.setIfInBounds_toArray, List.set_cons_succ, List.set_cons_zero]; rfl)) ?_) | (refine Cop.og_take rfl rfl HTe ?_; apply Exists.intro; refine ⟨fun w9 h9 => ?_, _, by (simp only [Act.put, List.setIfInBounds_toArray, List.set_cons_succ, List.set_cons_zero]; rfl), ?_⟩; (go_simp; with_reducible rfl))))
  refine Cop.og_run rfl rfl ?_
  refine ow_st HSe 3 rfl 23 _ _ rfl rfl rfl (by rw [bv_size, HDL.out]; exact info_dg) (by rw [bv_size, bv_size, HDL.out]; rfl) (bv_one _) ?_
  intro wf HSf
  refine ⟨fun h => absurd rfl h, ?_⟩
  refine og_fin ?_
  go_wp2_with fail
  exact ret_row rfl rfl g3 rfl 23 (bv D) (0, 0) _ (HSf.row 3 rfl) Tryd.underlying23 rfl (by rw [bv_size, HDL.out]; exact info_dg) ⟨rfl, HSf.hb⟩
set_option maxHeartbeats 4000000 in
theorem chain_a (s x : List UInt8) (i j k : Nat) (w : World) (hT : Tab w) (hs : s.length = 32) (hx : x.length = 32) (hi : i < 256) (hk : j + k < 256) :
    Calls Tryd.prog 27 #[.agg (bv s), .int .i64 i, .int .i64 j, .int .i64 ((j + k : Nat) : Int), .agg (bv x)] w fun e w' => e = .returned (.agg (bv (chainD s i j k x))) ∧ Below w.heap.size w w' := by
  obtain ⟨D, hD⟩ : ∃ y, chainD s i j k x = y := ⟨_, rfl⟩
  have hDl : D.length = 32 := by rw [← hD]; exact chainD_length s i k j x hx
  rw [hD]
  obtain ⟨m, hm⟩ : ∃ y, j + k = y := ⟨_, rfl⟩
  rw [hm] at hk ⊢
  have HDL := Lib.hid hDl
  have HS0 := Sep.start w
  have CS := Lib.hid (fun y j w hT hy hj => step_a s y i j w hT hs hy hi hj)
  have CL := Lib.hid (fun y j => stepD_length s i j y)
  have HTB := Lib.hid (fun w' (h : Below w.heap.size w w') => hT.base w' h)
  have hjm : j ≤ m := by omega
  have HD : Sep w.heap.size w w [] ∧ True := ⟨HS0, trivial⟩
  go_enter Tryd.func27, Tryd.ntmps27
  go_wp2_with (first | refine wl_bx HS0 rfl 23 _ rfl (bv s) rfl ?_)
  intro g1 w1 HS1
  go_wp2_with (first | refine wl_bx HS1 rfl 23 _ rfl (bv x) rfl ?_)
  intro g2 w2 HS2
  go_wp2_with (first | refine wl_al HS2 rfl 23 rfl (bv (List.replicate 32 0)) (by kernel_rfl) ?_)
  intro g3 w3 HS3
  clear HS0 HS1 HS2 HD
  go_wp2
  go_loopw [11] (fun s11 wr => ∃ (n : Nat) (y : List UInt8), n ≤ m ∧ s11 = .int .i64 n ∧ y.length = 32 ∧ chainD s i n (m - n) y = D ∧ Sep w.heap.size w wr [.row g3 (bv (List.replicate 32 0)) 23, .row g2 (bv y) 23, .row g1 (bv s) 23]) (fun s11 _ => m - (intOf s11).toNat)
  case atStart => exact ⟨j, x, hjm, rfl, hx, by rw [← hD, show m - j = k from by omega], HS3⟩
  case round =>
    clear HS3
    obtain ⟨n, y, hn, rfl, hy, hch, HSi⟩ := hrel
    have HY := Lib.hid hy
    have HCH := Lib.hid hch
    clear hy hch
    by_cases hlt : n < m
    · have hlt' : (n : Int) < (m : Int) := by omega
      obtain ⟨z, hz⟩ : ∃ z, stepD s i n y = z := ⟨_, rfl⟩
      have HCS := Lib.hid (fun w hT => CS.out y n w hT HY.out (by omega))
      rw [hz] at HCS
      have HZL := Lib.hid (show z.length = 32 by rw [← hz]; exact CL.out y n)
      have HCZ := Lib.hid (show chainD s i (n + 1) (m - (n + 1)) z = D by rw [← hz, ← chainD_succ, show m - (n + 1) + 1 = m - n from by omega]; exact HCH.out)
      clear hz
      go_wp2_with (first | refine wl_ld HSi 2 rfl rfl 23 _ rfl rfl Tryd.underlying23 rfl (by rw [bv_size, hs]; exact info_dg) ?_ | refine wl_ld HSi 1 rfl rfl 23 _ rfl rfl Tryd.underlying23 rfl (by rw [bv_size, HY.out]; exact info_dg) ?_)
      refine (HCS.out wr (HTB.out _ HSi.hb)).mono ?_
      rintro e w4 ⟨rfl, b4⟩
      have HS4 := HSi.keep b4
      clear HSi
      go_wp2_with (first | refine wl_st HS4 1 rfl rfl 23 _ _ rfl rfl rfl (by rw [bv_size, HZL.out]; exact info_dg) (by rw [bv_size, bv_size, HZL.out, HY.out]) (bv_one _) ?_)
      intro w5 HS5
      go_wp2
      go_roundw
      case rel => exact ⟨n + 1, z, by omega, by go_num, HZL.out, HCZ.out, HS5⟩
      case measure => simp [intOf]; omega
    · have hnm : n = m := by omega
      subst hnm
      have HYD := Lib.hid (show y = D by have := HCH.out; rw [Nat.sub_self] at this; exact this)
      rw [HYD.out] at HSi
      go_wp2_with (first | refine wl_ld HSi 1 rfl rfl 23 _ rfl rfl Tryd.underlying23 rfl (by rw [bv_size, HDL.out]; exact info_dg) ?_ | refine wl_st HSi 0 rfl rfl 23 _ _ rfl rfl rfl (by rw [bv_size, HDL.out]; exact info_dg) (by rw [bv_size, bv_size, HDL.out]; rfl) (bv_one _) ?_)
      intro w6 HS6
      go_wp2_with fail
      exact ret_row rfl rfl g3 rfl 23 (bv D) (0, 0) _ (HS6.row 0 rfl) Tryd.underlying23 rfl (by rw [bv_size, HDL.out]; exact info_dg) ⟨rfl, HS6.hb⟩
end Go.Proofs.YtkgdjddcnlkppaaDoor
