/- The reference's Expand. -/
import Derived.Test.YtkgdjddcnlkppaaDoorEx
import Derived.Test.YtkgdjddcnlkppaaDoorMr
namespace Go.Proofs.YtkgdjddcnlkppaaDoor
open Go.RowKit Cop
set_option linter.unusedVariables false
set_option linter.unusedSimpArgs false
set_option maxRecDepth 100000 in
set_option maxHeartbeats 8000000 in
theorem refExpand_gen (key info : List UInt8) (o t : Nat → List UInt8) (HR : Rounds key info o t) {B : Nat} {w0 w : World} {R : List Pc} (HS : Sep B w0 w R) (i0 : Nat) (vi : Value) (hi : R[i0]? = some (.rd vi info.length 1 (bl info))) (n : Nat) (X : List UInt8) (hX : (o ((n + 31) / 32)).take n = X) (hk : key.length = 32) (hn : n ≤ 8160) (hil : info.length ≤ 140737488351232) :
    Calls Tryd.prog 21 #[.agg (bv key), vi, .int .i64 n] w fun e w' => ∃ x, e = .returned (.tuple #[x, .int .i64 0]) ∧ Sep B w0 w' (.rd x n 1 (bl X) :: R) := by
  have CM := Lib.hid (fun m vk vm w => macref_b key m vk vm w)
  have HR := Lib.hid HR
  have HI := Lib.hid hi
  have HKL := Lib.hid hk
  have HX := Lib.hid hX
  obtain ⟨Ai, ci, rfl, hci, _⟩ := (HS.rd i0 hi).shape
  have n1 : ¬ (n : Int) < 0 := by omega
  have n2 : ¬ 8160 < (n : Int) := by omega
  have HA : True := trivial
  clear hi hk hX
  go_enter Tryd.func21, Tryd.ntmps21
  go_wp2_with (first | refine wl_bx HS rfl 23 _ rfl (bv key) rfl ?_)
  intro g3 w1 HS1
  have HS2 := Sep.ownNil (Sep.rdNil (HS1.rowRd 0 rfl 32 HKL.out (by decide)) 1) 5 1
  clear HS HS1
  go_wp2
  go_loopw [8, 9, 10] (fun s8 s9 s10 wr => ∃ k : Nat, s10 = .int .i64 ((k + 1 : Nat) : Int) ∧ 32 * k < n + 32 ∧ Sep B w0 wr (.own s8 5 1 (o k).length (bl (o k)) :: .rd s9 (t k).length 1 (bl (t k)) :: .rd (.slice (some ⟨g3, 0, none⟩) 32 32) 32 1 (bl key) :: R)) (fun s8 _ _ _ => 9000 - slen s8)
  case atStart => exact ⟨0, rfl, by omega, by rw [HR.out.o0, HR.out.t0]; exact HS2⟩
  case round =>
    clear HS2
    obtain ⟨k, rfl, hk32, HSi⟩ := hrel
    obtain ⟨A8, c8, rfl, hc8⟩ := (HSi.own 0 rfl).sl
    obtain ⟨A9, c9, rfl, hc9, _⟩ := (HSi.rd 1 rfl).shape
    have hol : (o k).length = 32 * k := HR.out.ol k
    by_cases hlt : 32 * k < n
    · have hlt' : ((o k).length : Int) < (n : Int) := by omega
      have HHO := HR.out.os k
      have HHL := HR.out.ol (k + 1)
      have HHT := HR.out.tl k
      have HHS := HR.out.ts k
      have htk : (t k).length ≤ 32 := by
        cases k with
        | zero => rw [HR.out.t0]; decide
        | succ m => rw [HR.out.tl]; exact Nat.le_refl _
      obtain ⟨T, hT⟩ : ∃ y, t (k + 1) = y := ⟨_, rfl⟩
      obtain ⟨y, hy⟩ : ∃ y, UInt8.ofNat (k + 1) = y := ⟨_, rfl⟩
      rw [hT] at HHO HHT HHS
      rw [hy] at HHS
      obtain ⟨L, hL⟩ : ∃ z, t k ++ info = z := ⟨_, rfl⟩
      obtain ⟨M, hM⟩ : ∃ z, L ++ [y] = z := ⟨_, rfl⟩
      rw [show t k ++ (info ++ [y]) = M by rw [← hM, ← hL, List.append_assoc]] at HHS
      have hLl : (t k).length + info.length = L.length := by rw [← hL, List.length_append]
      have hMl : L.length + 1 = M.length := by rw [← hM, List.length_append]; rfl
      obtain ⟨i, hie⟩ : ∃ i : Nat, k + 1 = i := ⟨_, rfl⟩
      have HB := Lib.hid (show [Value.int .u8 (IntKind.u8.wrap (i : Int))] = bl [y] by
        rw [show IntKind.u8.wrap (i : Int) = (y.toNat : Int) by rw [← hy, IntKind.wrap_u8, byte_of, ← hie]]; rfl)
      have CM := Lib.hid (fun vk vm w => CM.out M vk vm w)
      rw [HHS] at CM
      have HTL := Lib.hid HHT
      have HOS := Lib.hid HHO
      have HOL := Lib.hid (show (o k).length + T.length = (o (k + 1)).length by rw [HHT]; omega)
      have HTK := Lib.hid hT
      have HL := Lib.hid hL
      have HLL := Lib.hid hLl
      have HM := Lib.hid hM
      have HML := Lib.hid hMl
      have HIE := Lib.hid hie
      have ho9 : (o (k + 1)).length ≤ 9000 := by omega
      have hk9 : k ≤ 254 := by omega
      have hi9 : i ≤ 300 := by omega
      have hM9 : M.length ≤ 140737488352000 := by omega
      have hL9 : L.length ≤ 140737488352000 := by omega
      rw [hie]
      clear HHO HHT HHS HHL hT hy hL hM hLl hMl hk32 hol hie
      have HSb := HSi.built #[] 5 0 1 rfl (by decide)
      go_wp2_with (refine wl_apb (xs := []) HSb 0 rfl rfl rfl (HSb.rd 2 rfl) rfl rfl (t k).length (t k) (by simp) (List.nil_append _) (by omega) ?_)
      intro v5 w5 HS5 _
      go_wp2_with (refine wl_apb HS5 0 rfl rfl rfl (HS5.rd (i0 + 4) HI.out) rfl rfl L.length L HLL.out HL.out (by omega) ?_)
      intro v6 w6 HS6 _
      obtain ⟨A6, c6, rfl, _⟩ := (HS6.own 0 rfl).sl
      clear HSi HSb HS5
      go_wp2
      refine Cop.region_ord (fun w' => True) 8 (.take 0 (.take 1 (.take 2 (.take 3 (.run2 4 (.run2 5 (.run2 6 (.run 7 (.run 8 Cop.Ord.fin)) 7 (.run 6 (.run 8 Cop.Ord.fin))) 7 (.run 5 (.run 6 (.run 8 Cop.Ord.fin)))) 7 (.run 4 (.run 5 (.run 6 (.run 8 Cop.Ord.fin))))))))) (by kernel_rfl) (by kernel_rfl) (fun _ _ d _ _ h => by cases d <;> exact h) ?_
      intro wa hda
      have HSa := HS6.keep hda
      clear HS6
      (repeat (first | (refine Cop.og_skip rfl rfl HA _ (by (simp only [Act.put, List.setIfInBounds_toArray, List.set_cons_succ, List.set_cons_zero]; rfl)) ?_) | (refine Cop.og_take rfl rfl HA ?_; apply Exists.intro; refine ⟨fun w9 h9 => ?_, _, by (simp only [Act.put, List.setIfInBounds_toArray, List.set_cons_succ, List.set_cons_zero]; rfl), ?_⟩; (go_simp; with_reducible rfl))))
      refine og_run2 ?_ ?_
      · skip
        refine Cop.og_run rfl rfl ?_
        refine ow_bs HSa 33 5 1 1 _ rfl [Value.int .u8 (IntKind.u8.wrap (i : Int))] (.int .u8 0) Tryd.underlying33 (by kernel_rfl) (by decide) (by decide) (by kernel_rfl) rfl ?_
        intro gy wb Hb'
        have Hb := Hb'
        rw [HB.out] at Hb
        refine ⟨fun _ => HA, ?_⟩
        refine og_act (by (simp only [Act.put, List.setIfInBounds_toArray, List.set_cons_succ, List.set_cons_zero]; rfl)) ?_
        refine og_run2 ?_ ?_
        · skip
          refine Cop.og_run rfl rfl ?_
          refine ow_apb (cs := [y]) Hb 1 rfl rfl (Sep.own Hb 0 rfl).rd rfl rfl M.length M HML.out HM.out (by omega) ?_
          intro vm wc Hc _
          obtain ⟨Am, cm, rfl, _⟩ := (Hc.own 1 rfl).sl
          refine ⟨fun _ => HA, ?_⟩
          refine og_act (by (simp only [Act.put, List.setIfInBounds_toArray, List.set_cons_succ, List.set_cons_zero]; rfl)) ?_
          refine og_run2 ?_ ?_
          · skip
            refine Cop.og_run rfl rfl ?_
            refine ow_call 37 _ _ (fun w' => Below wc.heap.size wc w') (by go_simp) (CM.out (.slice (some ⟨g3, 0, none⟩) 32 32) _ wc (by rw [HKL.out]; exact Hc.rd 4 rfl) (Hc.own 1 rfl).rd (by rw [HKL.out]; decide) (by omega)) ?_
            intro wd bbd
            have Hd := Hc.keep bbd
            refine ⟨fun _ => HA, ?_⟩
            refine og_act (by (simp only [Act.put, List.setIfInBounds_toArray, List.set_cons_succ, List.set_cons_zero]; rfl)) ?_
            refine Cop.og_run rfl rfl ?_
            refine ow_al Hd 23 rfl (bv (List.replicate 32 0)) (by kernel_rfl) ?_
            intro gd we He
            refine ⟨fun _ => HA, ?_⟩
            refine og_act (by (simp only [Act.put, List.setIfInBounds_toArray, List.set_cons_succ, List.set_cons_zero]; rfl)) ?_
            refine Cop.og_run rfl rfl ?_
            refine ow_st He 0 rfl 23 _ _ rfl rfl rfl (by rw [bv_size, HTL.out]; exact info_dg) (by rw [bv_size, bv_size, HTL.out]; rfl) (bv_one _) ?_
            intro wq HSq'
            refine ⟨fun h => absurd rfl h, ?_⟩
            refine og_fin ?_
            have HSq : Sep B w0 wq (.row gd (bv T) 23 :: .own (.slice A8 (o k).length c8) 5 1 (o k).length (bl (o k)) :: .rd (.slice (some ⟨g3, 0, none⟩) 32 32) 32 1 (bl key) :: R) := HSq'.sub (by repeat (first | exact List.nil_sublist _ | exact List.Sublist.refl _ | apply List.Sublist.cons_cons | apply List.Sublist.cons))
            have HSr := HSq.built #[] 5 0 1 rfl (by decide)
            clear HSq'
            go_wp2_with (refine wl_apb (xs := []) HSr 0 rfl rfl rfl (Sep.rdRow HSr 1 rfl 32 HTL.out (by decide)) rfl rfl T.length T (by rw [HTL.out]) (List.nil_append T) (by rw [HTL.out]; decide) ?_)
            intro vs ws HSs _
            obtain ⟨As, cs, rfl, _⟩ := (HSs.own 0 rfl).sl
            clear HSq HSr
            go_wp2_with (refine wl_apb HSs 2 rfl rfl rfl (HSs.own 0 rfl).rd rfl rfl (o (k + 1)).length (o (k + 1)) HOL.out HOS.out (by omega) ?_)
            intro vr wr2 HSr _
            obtain ⟨Ar, cr, rfl, _⟩ := (HSr.own 2 rfl).sl
            have HSx := ((HSr.toRd 0 rfl).front 2)
            go_wp2
            go_roundw
            case rel => exact ⟨k + 1, by rw [show ((k + 1 + 1 : Nat) : Int) = (i : Int) + 1 from by have h9 := HIE.out; omega], by have h9 := HIE.out; omega, by rw [HTK.out]; exact HSx.sub (by repeat (first | exact List.nil_sublist _ | exact List.Sublist.refl _ | apply List.Sublist.cons_cons | apply List.Sublist.cons))⟩
            case measure =>
              have h8 := HOL.out
              have h9 := HTL.out
              simp [slen]
              omega
          · skip
            refine Cop.og_run rfl rfl ?_
            refine ow_al Hc 23 rfl (bv (List.replicate 32 0)) (by kernel_rfl) ?_
            intro gd wd Hd
            refine ⟨fun _ => HA, ?_⟩
            refine og_act (by (simp only [Act.put, List.setIfInBounds_toArray, List.set_cons_succ, List.set_cons_zero]; rfl)) ?_
            refine Cop.og_run rfl rfl ?_
            refine ow_call 37 _ _ (fun w' => Below wd.heap.size wd w') (by go_simp) (CM.out (.slice (some ⟨g3, 0, none⟩) 32 32) _ wd (by rw [HKL.out]; exact Hd.rd 5 rfl) (Hd.own 2 rfl).rd (by rw [HKL.out]; decide) (by omega)) ?_
            intro we bbe
            have He := Hd.keep bbe
            refine ⟨fun _ => HA, ?_⟩
            refine og_act (by (simp only [Act.put, List.setIfInBounds_toArray, List.set_cons_succ, List.set_cons_zero]; rfl)) ?_
            refine Cop.og_run rfl rfl ?_
            refine ow_st He 0 rfl 23 _ _ rfl rfl rfl (by rw [bv_size, HTL.out]; exact info_dg) (by rw [bv_size, bv_size, HTL.out]; rfl) (bv_one _) ?_
            intro wq HSq'
            refine ⟨fun h => absurd rfl h, ?_⟩
            refine og_fin ?_
            have HSq : Sep B w0 wq (.row gd (bv T) 23 :: .own (.slice A8 (o k).length c8) 5 1 (o k).length (bl (o k)) :: .rd (.slice (some ⟨g3, 0, none⟩) 32 32) 32 1 (bl key) :: R) := HSq'.sub (by repeat (first | exact List.nil_sublist _ | exact List.Sublist.refl _ | apply List.Sublist.cons_cons | apply List.Sublist.cons))
            have HSr := HSq.built #[] 5 0 1 rfl (by decide)
            clear HSq'
            go_wp2_with (refine wl_apb (xs := []) HSr 0 rfl rfl rfl (Sep.rdRow HSr 1 rfl 32 HTL.out (by decide)) rfl rfl T.length T (by rw [HTL.out]) (List.nil_append T) (by rw [HTL.out]; decide) ?_)
            intro vs ws HSs _
            obtain ⟨As, cs, rfl, _⟩ := (HSs.own 0 rfl).sl
            clear HSq HSr
            go_wp2_with (refine wl_apb HSs 2 rfl rfl rfl (HSs.own 0 rfl).rd rfl rfl (o (k + 1)).length (o (k + 1)) HOL.out HOS.out (by omega) ?_)
            intro vr wr2 HSr _
            obtain ⟨Ar, cr, rfl, _⟩ := (HSr.own 2 rfl).sl
            have HSx := ((HSr.toRd 0 rfl).front 2)
            go_wp2
            go_roundw
            case rel => exact ⟨k + 1, by rw [show ((k + 1 + 1 : Nat) : Int) = (i : Int) + 1 from by have h9 := HIE.out; omega], by have h9 := HIE.out; omega, by rw [HTK.out]; exact HSx.sub (by repeat (first | exact List.nil_sublist _ | exact List.Sublist.refl _ | apply List.Sublist.cons_cons | apply List.Sublist.cons))⟩
            case measure =>
              have h8 := HOL.out
              have h9 := HTL.out
              simp [slen]
              omega
        · skip
          refine Cop.og_run rfl rfl ?_
          refine ow_al Hb 23 rfl (bv (List.replicate 32 0)) (by kernel_rfl) ?_
          intro gd wc Hc
          refine ⟨fun _ => HA, ?_⟩
          refine og_act (by (simp only [Act.put, List.setIfInBounds_toArray, List.set_cons_succ, List.set_cons_zero]; rfl)) ?_
          refine Cop.og_run rfl rfl ?_
          refine ow_apb (cs := [y]) Hc 2 rfl rfl (Sep.own Hc 1 rfl).rd rfl rfl M.length M HML.out HM.out (by omega) ?_
          intro vm wd Hd _
          obtain ⟨Am, cm, rfl, _⟩ := (Hd.own 2 rfl).sl
          refine ⟨fun _ => HA, ?_⟩
          refine og_act (by (simp only [Act.put, List.setIfInBounds_toArray, List.set_cons_succ, List.set_cons_zero]; rfl)) ?_
          refine Cop.og_run rfl rfl ?_
          refine ow_call 37 _ _ (fun w' => Below wd.heap.size wd w') (by go_simp) (CM.out (.slice (some ⟨g3, 0, none⟩) 32 32) _ wd (by rw [HKL.out]; exact Hd.rd 5 rfl) (Hd.own 2 rfl).rd (by rw [HKL.out]; decide) (by omega)) ?_
          intro we bbe
          have He := Hd.keep bbe
          refine ⟨fun _ => HA, ?_⟩
          refine og_act (by (simp only [Act.put, List.setIfInBounds_toArray, List.set_cons_succ, List.set_cons_zero]; rfl)) ?_
          refine Cop.og_run rfl rfl ?_
          refine ow_st He 0 rfl 23 _ _ rfl rfl rfl (by rw [bv_size, HTL.out]; exact info_dg) (by rw [bv_size, bv_size, HTL.out]; rfl) (bv_one _) ?_
          intro wq HSq'
          refine ⟨fun h => absurd rfl h, ?_⟩
          refine og_fin ?_
          have HSq : Sep B w0 wq (.row gd (bv T) 23 :: .own (.slice A8 (o k).length c8) 5 1 (o k).length (bl (o k)) :: .rd (.slice (some ⟨g3, 0, none⟩) 32 32) 32 1 (bl key) :: R) := HSq'.sub (by repeat (first | exact List.nil_sublist _ | exact List.Sublist.refl _ | apply List.Sublist.cons_cons | apply List.Sublist.cons))
          have HSr := HSq.built #[] 5 0 1 rfl (by decide)
          clear HSq'
          go_wp2_with (refine wl_apb (xs := []) HSr 0 rfl rfl rfl (Sep.rdRow HSr 1 rfl 32 HTL.out (by decide)) rfl rfl T.length T (by rw [HTL.out]) (List.nil_append T) (by rw [HTL.out]; decide) ?_)
          intro vs ws HSs _
          obtain ⟨As, cs, rfl, _⟩ := (HSs.own 0 rfl).sl
          clear HSq HSr
          go_wp2_with (refine wl_apb HSs 2 rfl rfl rfl (HSs.own 0 rfl).rd rfl rfl (o (k + 1)).length (o (k + 1)) HOL.out HOS.out (by omega) ?_)
          intro vr wr2 HSr _
          obtain ⟨Ar, cr, rfl, _⟩ := (HSr.own 2 rfl).sl
          have HSx := ((HSr.toRd 0 rfl).front 2)
          go_wp2
          go_roundw
          case rel => exact ⟨k + 1, by rw [show ((k + 1 + 1 : Nat) : Int) = (i : Int) + 1 from by have h9 := HIE.out; omega], by have h9 := HIE.out; omega, by rw [HTK.out]; exact HSx.sub (by repeat (first | exact List.nil_sublist _ | exact List.Sublist.refl _ | apply List.Sublist.cons_cons | apply List.Sublist.cons))⟩
          case measure =>
            have h8 := HOL.out
            have h9 := HTL.out
            simp [slen]
            omega
      · skip
        refine Cop.og_run rfl rfl ?_
        refine ow_al HSa 23 rfl (bv (List.replicate 32 0)) (by kernel_rfl) ?_
        intro gd wb Hb
        refine ⟨fun _ => HA, ?_⟩
        refine og_act (by (simp only [Act.put, List.setIfInBounds_toArray, List.set_cons_succ, List.set_cons_zero]; rfl)) ?_
        refine Cop.og_run rfl rfl ?_
        refine ow_bs Hb 33 5 1 1 _ rfl [Value.int .u8 (IntKind.u8.wrap (i : Int))] (.int .u8 0) Tryd.underlying33 (by kernel_rfl) (by decide) (by decide) (by kernel_rfl) rfl ?_
        intro gy wc Hc'
        have Hc := Hc'
        rw [HB.out] at Hc
        refine ⟨fun _ => HA, ?_⟩
        refine og_act (by (simp only [Act.put, List.setIfInBounds_toArray, List.set_cons_succ, List.set_cons_zero]; rfl)) ?_
        refine Cop.og_run rfl rfl ?_
        refine ow_apb (cs := [y]) Hc 2 rfl rfl (Sep.own Hc 0 rfl).rd rfl rfl M.length M HML.out HM.out (by omega) ?_
        intro vm wd Hd _
        obtain ⟨Am, cm, rfl, _⟩ := (Hd.own 2 rfl).sl
        refine ⟨fun _ => HA, ?_⟩
        refine og_act (by (simp only [Act.put, List.setIfInBounds_toArray, List.set_cons_succ, List.set_cons_zero]; rfl)) ?_
        refine Cop.og_run rfl rfl ?_
        refine ow_call 37 _ _ (fun w' => Below wd.heap.size wd w') (by go_simp) (CM.out (.slice (some ⟨g3, 0, none⟩) 32 32) _ wd (by rw [HKL.out]; exact Hd.rd 5 rfl) (Hd.own 2 rfl).rd (by rw [HKL.out]; decide) (by omega)) ?_
        intro we bbe
        have He := Hd.keep bbe
        refine ⟨fun _ => HA, ?_⟩
        refine og_act (by (simp only [Act.put, List.setIfInBounds_toArray, List.set_cons_succ, List.set_cons_zero]; rfl)) ?_
        refine Cop.og_run rfl rfl ?_
        refine ow_st He 1 rfl 23 _ _ rfl rfl rfl (by rw [bv_size, HTL.out]; exact info_dg) (by rw [bv_size, bv_size, HTL.out]; rfl) (bv_one _) ?_
        intro wq HSq'
        refine ⟨fun h => absurd rfl h, ?_⟩
        refine og_fin ?_
        have HSq : Sep B w0 wq (.row gd (bv T) 23 :: .own (.slice A8 (o k).length c8) 5 1 (o k).length (bl (o k)) :: .rd (.slice (some ⟨g3, 0, none⟩) 32 32) 32 1 (bl key) :: R) := HSq'.sub (by repeat (first | exact List.nil_sublist _ | exact List.Sublist.refl _ | apply List.Sublist.cons_cons | apply List.Sublist.cons))
        have HSr := HSq.built #[] 5 0 1 rfl (by decide)
        clear HSq'
        go_wp2_with (refine wl_apb (xs := []) HSr 0 rfl rfl rfl (Sep.rdRow HSr 1 rfl 32 HTL.out (by decide)) rfl rfl T.length T (by rw [HTL.out]) (List.nil_append T) (by rw [HTL.out]; decide) ?_)
        intro vs ws HSs _
        obtain ⟨As, cs, rfl, _⟩ := (HSs.own 0 rfl).sl
        clear HSq HSr
        go_wp2_with (refine wl_apb HSs 2 rfl rfl rfl (HSs.own 0 rfl).rd rfl rfl (o (k + 1)).length (o (k + 1)) HOL.out HOS.out (by omega) ?_)
        intro vr wr2 HSr _
        obtain ⟨Ar, cr, rfl, _⟩ := (HSr.own 2 rfl).sl
        have HSx := ((HSr.toRd 0 rfl).front 2)
        go_wp2
        go_roundw
        case rel => exact ⟨k + 1, by rw [show ((k + 1 + 1 : Nat) : Int) = (i : Int) + 1 from by have h9 := HIE.out; omega], by have h9 := HIE.out; omega, by rw [HTK.out]; exact HSx.sub (by repeat (first | exact List.nil_sublist _ | exact List.Sublist.refl _ | apply List.Sublist.cons_cons | apply List.Sublist.cons))⟩
        case measure =>
          have h8 := HOL.out
          have h9 := HTL.out
          simp [slen]
          omega
    · have hke : (n + 31) / 32 = k := by omega
      have hge : ¬ ((o k).length : Int) < (n : Int) := by omega
      have hX := HX.out
      rw [hke] at hX
      have hXl : X.length = n := by rw [← hX, List.length_take]; omega
      have HS5 := HSi.toRd 0 rfl
      obtain ⟨A1, c1, _, _, HR1, hb1, hs1⟩ := rd_to (P := Tryd.prog) (HS5.rd 0 rfl) Tryd.underlying33 info_u8' n (by omega)
      have HS6 := HS5.part 0 rfl HR1 hb1
      rw [hX, hXl] at HS6
      clear hX hke hol hlt HR1 hb1
      go_wp2
      go_ret2
      exact ⟨_, rfl, HS6.sub (by repeat (first | exact List.nil_sublist _ | exact List.Sublist.refl _ | apply List.Sublist.cons_cons | apply List.Sublist.cons))⟩
end Go.Proofs.YtkgdjddcnlkppaaDoor
