/- mac.Expand. -/
import Derived.Test.YtkgdjddcnlkppaaDoorCc
import Derived.Test.YtkgdjddcnlkppaaDoorMa
import Derived.Test.YtkgdjddcnlkppaaDoorOt
namespace Go.Proofs.YtkgdjddcnlkppaaDoor
open Go.RowKit Cop
set_option linter.unusedVariables false
set_option linter.unusedSimpArgs false
/-- The bytes made so far, and the last digest. -/
def expo (key info : List UInt8) : Nat → List UInt8 × List UInt8
  | 0 => ([], [])
  | k + 1 => ((expo key info k).1 ++ hmac key ((expo key info k).2 ++ (info ++ [UInt8.ofNat (k + 1)])), hmac key ((expo key info k).2 ++ (info ++ [UInt8.ofNat (k + 1)])))
/-- What is made of a key and what it is for. -/
def expD (key info : List UInt8) (n : Nat) : List UInt8 := (expo key info ((n + 31) / 32)).1.take n
theorem expo_length (key info : List UInt8) : ∀ k, (expo key info k).1.length = 32 * k
  | 0 => rfl
  | k + 1 => by rw [expo, List.length_append, expo_length key info k, hmac_length]; omega
theorem expo_last (key info : List UInt8) (k : Nat) : (expo key info (k + 1)).2.length = 32 := hmac_length _ _
theorem expD_length (key info : List UInt8) (n : Nat) : (expD key info n).length = n := by rw [expD, List.length_take, expo_length]; omega
/-- A slice's length. -/
def slen : Value → Nat
  | .slice _ l _ => l
  | _ => 0
/-- Rounds: the one made so far, and the last. -/
structure Rounds (key info : List UInt8) (o t : Nat → List UInt8) : Prop where
  o0 : o 0 = []
  t0 : t 0 = []
  tl : ∀ k, (t (k + 1)).length = 32
  ol : ∀ k, (o k).length = 32 * k
  ts : ∀ k, hmac key (t k ++ (info ++ [UInt8.ofNat (k + 1)])) = t (k + 1)
  os : ∀ k, o k ++ t (k + 1) = o (k + 1)
theorem rounds (key info : List UInt8) : Rounds key info (fun k => (expo key info k).1) (fun k => (expo key info k).2) :=
  ⟨rfl, rfl, expo_last key info, expo_length key info, fun _ => rfl, fun _ => rfl⟩
set_option maxRecDepth 100000 in
set_option maxHeartbeats 8000000 in
theorem expand_gen (key info : List UInt8) (o t : Nat → List UInt8) (HR : Rounds key info o t) {B : Nat} {w0 w : World} {R : List Pc} (hTB : TabB B w0) (HS : Sep B w0 w R) (i0 : Nat) (vi : Value) (hi : R[i0]? = some (.rd vi info.length 1 (bl info))) (n : Nat) (X : List UInt8) (hX : (o ((n + 31) / 32)).take n = X) (hk : key.length = 32) (hn : n ≤ 8160) (hil : info.length ≤ 140737488351232) :
    Calls Tryd.prog 20 #[.agg (bv key), vi, .int .i64 n] w fun e w' => ∃ x, e = .returned (.tuple #[x, .int .i64 0]) ∧ Sep B w0 w' (.own x 5 1 n (bl X) :: R) := by
  have CM := Lib.hid (fun m vk vm w => mac_a key m vk vm w)
  have CB := Lib.hid (fun v l w => clone_bytes v l w)
  have HR := Lib.hid HR
  have HI := Lib.hid hi
  have HTB := Lib.hid hTB
  have HKL := Lib.hid hk
  have HX := Lib.hid hX
  obtain ⟨Ai, ci, rfl, hci, _⟩ := (HS.rd i0 hi).shape
  have n1 : ¬ (n : Int) < 0 := by omega
  have n2 : ¬ 8160 < (n : Int) := by omega
  have HA : True := trivial
  clear hi hTB hk hX
  go_enter Tryd.func20, Tryd.ntmps20
  go_wp2_with (first | refine wl_bx HS rfl 23 _ rfl (bv key) rfl ?_)
  intro g3 w1 HS1
  have HS2 := Sep.ownNil (Sep.rdNil (HS1.rowRd 0 rfl 32 HKL.out (by decide)) 1) 5 1
  clear HS HS1
  go_wp2
  go_loopw [8, 9, 10] (fun s8 s9 s10 wr => ∃ k i : Nat, s10 = .int .u8 i ∧ 32 * k < n + 32 ∧ (i : Nat) = (k + 1) % 256 ∧ Sep B w0 wr (.own s8 5 1 (o k).length (bl (o k)) :: .rd s9 (t k).length 1 (bl (t k)) :: .rd (.slice (some ⟨g3, 0, none⟩) 32 32) 32 1 (bl key) :: R)) (fun s8 _ _ _ => 9000 - slen s8)
  case atStart => exact ⟨0, 1, rfl, by omega, rfl, by rw [HR.out.o0, HR.out.t0]; exact HS2⟩
  case round =>
    clear HS2
    obtain ⟨k, i, rfl, hk32, hik, HSi⟩ := hrel
    obtain ⟨A8, c8, rfl, hc8⟩ := (HSi.own 0 rfl).sl
    obtain ⟨A9, c9, rfl, hc9, _⟩ := (HSi.rd 1 rfl).shape
    have hol : (o k).length = 32 * k := HR.out.ol k
    have HIK := Lib.hid hik
    have HOLK := Lib.hid hol
    by_cases hlt : 32 * k < n
    · have hlt' : ((o k).length : Int) < (n : Int) := by omega
      have HHO := HR.out.os k
      have HHL := HR.out.ol (k + 1)
      have HHT := HR.out.tl k
      have HHS := HR.out.ts k
      have htk : (t k).length ≤ 32 := by
        cases k with
        | zero => rw [HR.out.t0]; decide
        | succ m => rw [HR.out.tl]; exact Nat.le_refl _
      obtain ⟨T, hT⟩ : ∃ y, t (k + 1) = y := ⟨_, rfl⟩
      obtain ⟨y, hy⟩ : ∃ y, UInt8.ofNat (k + 1) = y := ⟨_, rfl⟩
      rw [hT] at HHO HHT HHS
      rw [hy] at HHS
      obtain ⟨M, hM⟩ : ∃ z, t k ++ (info ++ [y]) = z := ⟨_, rfl⟩
      rw [hM] at HHS
      have hMl : M.length ≤ 140737488351232 + 33 := by rw [← hM, List.length_append, List.length_append, List.length_singleton]; omega
      have HB := Lib.hid (show [Value.int .u8 (i : Int)] = bl [y] by
        rw [show (i : Int) = (y.toNat : Int) by rw [← hy, byte_of]; omega]; rfl)
      have CM := Lib.hid (fun vk vm w => CM.out M vk vm w)
      rw [HHS] at CM
      have CC := Lib.hid (fun (v1 v2 v3 vs : Value) (w : World) (hs : Rd w vs 3 1 [v1, v2, v3]) (r1 : Rd w v1 (t k).length 1 (bl (t k))) (r2 : Rd w v2 info.length 1 (bl info)) (r3 : Rd w v3 1 1 (bl [y])) => by
        have e1 : allB [(v1, t k), (v2, info), (v3, [y])] = M := by rw [← hM]; simp [allB]
        have := concat_bytes [(v1, t k), (v2, info), (v3, [y])] vs w hs (by simp; exact ⟨r1, r2, r3⟩) (by rw [e1]; omega)
        rw [e1] at this
        exact this)
      have HTL := Lib.hid HHT
      have HOS := Lib.hid HHO
      have HOL := Lib.hid (show (o k).length + 32 = (o (k + 1)).length by omega)
      have HTK := Lib.hid hT
      have ho9 : (o (k + 1)).length ≤ 9000 := by omega
      have hk9 : k ≤ 254 := by omega
      clear HHO HHT HHS HHL hT hy hM hk32 hik hol
      go_wp2
      refine Cop.region_ord (fun w' => True) 9 (.take 0 (.take 1 (.take 2 (.take 3 (.run2 4 (.run2 5 (.run2 6 (.run2 7 (.run 8 (.run 9 Cop.Ord.fin)) 8 (.run 7 (.run 9 Cop.Ord.fin))) 8 (.run 6 (.run 7 (.run 9 Cop.Ord.fin)))) 8 (.run 5 (.run 6 (.run 7 (.run 9 Cop.Ord.fin))))) 8 (.run 4 (.run 5 (.run 6 (.run 7 (.run 9 Cop.Ord.fin)))))))))) (by kernel_rfl) (by kernel_rfl) (fun _ _ d _ _ h => by cases d <;> exact h) ?_
      intro wa hda
      have HSa := HSi.keep hda
      clear HSi
      (repeat (first | (refine Cop.og_skip rfl rfl HA _ (by (simp only [Act.put, List.setIfInBounds_toArray, List.set_cons_succ, List.set_cons_zero]; rfl)) ?_) | (refine Cop.og_take rfl rfl HA ?_; apply Exists.intro; refine ⟨fun w9 h9 => ?_, _, by (simp only [Act.put, List.setIfInBounds_toArray, List.set_cons_succ, List.set_cons_zero]; rfl), ?_⟩; (go_simp; with_reducible rfl))))
      refine og_run2 ?_ ?_
      · skip
        refine Cop.og_run rfl rfl ?_
        refine ow_bs HSa 33 5 1 1 _ rfl [Value.int .u8 i] (.int .u8 0) Tryd.underlying33 (by kernel_rfl) (by decide) (by decide) (by kernel_rfl) rfl ?_
        intro gy wb Hb'
        have Hb := Hb'
        rw [HB.out] at Hb
        refine ⟨fun _ => HA, ?_⟩
        refine og_act (by (simp only [Act.put, List.setIfInBounds_toArray, List.set_cons_succ, List.set_cons_zero]; rfl)) ?_
        refine og_run2 ?_ ?_
        · skip
          refine Cop.og_run rfl rfl ?_
          refine ow_bs Hb 82 33 3 1 _ rfl [.slice A9 (t k).length c9, .slice Ai info.length ci, .slice (some ⟨gy, 0, none⟩) 1 1] (.slice none 0 0) Tryd.underlying82 (by kernel_rfl) (by decide) (by decide) (by kernel_rfl) rfl ?_
          intro gl wc Hc
          refine ⟨fun _ => HA, ?_⟩
          refine og_act (by (simp only [Act.put, List.setIfInBounds_toArray, List.set_cons_succ, List.set_cons_zero]; rfl)) ?_
          refine og_run2 ?_ ?_
          · skip
            refine Cop.og_run rfl rfl ?_
            refine ow_call_ex 39 _ (fun x w' => Below wc.heap.size wc w' ∧ Ow w' wc.heap.size 5 1 x M.length (bl M)) (by go_simp) (CC.out _ _ _ _ wc (Hc.own 0 rfl).rd (Hc.rd 3 rfl) (Hc.rd (i0 + 5) HI.out) (Hc.own 1 rfl).rd) ?_
            rintro vm wd ⟨bbd, obd⟩
            have Hd := Hc.made bbd obd
            obtain ⟨Am, cm, rfl, _⟩ := (Hd.own 0 rfl).sl
            refine ⟨fun _ => HA, ?_⟩
            refine og_act (by (simp only [Act.put, List.setIfInBounds_toArray, List.set_cons_succ, List.set_cons_zero]; rfl)) ?_
            refine og_run2 ?_ ?_
            · skip
              refine Cop.og_run rfl rfl ?_
              refine ow_call 35 _ _ (fun w' => Below wd.heap.size wd w') (by go_simp) (CM.out (.slice (some ⟨g3, 0, none⟩) 32 32) _ wd (HTB.out _ Hd.hb) (by rw [HKL.out]; exact Hd.rd 5 rfl) (Hd.own 0 rfl).rd (by rw [HKL.out]; decide) (by omega)) ?_
              intro we bbe
              have He := Hd.keep bbe
              refine ⟨fun _ => HA, ?_⟩
              refine og_act (by (simp only [Act.put, List.setIfInBounds_toArray, List.set_cons_succ, List.set_cons_zero]; rfl)) ?_
              refine Cop.og_run rfl rfl ?_
              refine ow_al He 23 rfl (bv (List.replicate 32 0)) (by kernel_rfl) ?_
              intro gd wf Hf
              refine ⟨fun _ => HA, ?_⟩
              refine og_act (by (simp only [Act.put, List.setIfInBounds_toArray, List.set_cons_succ, List.set_cons_zero]; rfl)) ?_
              refine Cop.og_run rfl rfl ?_
              refine ow_st Hf 0 rfl 23 _ _ rfl rfl rfl (by rw [bv_size, HTL.out]; exact info_dg) (by rw [bv_size, bv_size, HTL.out]; rfl) (bv_one _) ?_
              intro wq HSq'
              refine ⟨fun h => absurd rfl h, ?_⟩
              refine og_fin ?_
              have HSq : Sep B w0 wq (.row gd (bv T) 23 :: .own (.slice A8 (o k).length c8) 5 1 (o k).length (bl (o k)) :: .rd (.slice (some ⟨g3, 0, none⟩) 32 32) 32 1 (bl key) :: R) := HSq'.sub (by repeat (first | exact List.nil_sublist _ | exact List.Sublist.refl _ | apply List.Sublist.cons_cons | apply List.Sublist.cons))
              clear HSq'
              go_wp2_with (refine wl_apb HSq 1 rfl rfl rfl (Sep.rdRow HSq 0 rfl 32 HTL.out (by decide)) rfl rfl (o (k + 1)).length (o (k + 1)) HOL.out HOS.out (by omega) ?_)
              intro vr wr2 HSr _
              obtain ⟨Ar, cr, rfl, _⟩ := (HSr.own 1 rfl).sl
              have HSs := HSr.rowRdL 0 rfl 32 HTL.out (by decide)
              go_wp2
              go_roundw
              case rel => exact ⟨k + 1, (i + 1) % 256, by go_num, by omega, by have := HIK.out; omega, by have h := HSs.front 1; rw [HTK.out]; exact h⟩
              case measure =>
                have := HOL.out
                simp [slen]
                omega
            · skip
              refine Cop.og_run rfl rfl ?_
              refine ow_al Hd 23 rfl (bv (List.replicate 32 0)) (by kernel_rfl) ?_
              intro gd we He
              refine ⟨fun _ => HA, ?_⟩
              refine og_act (by (simp only [Act.put, List.setIfInBounds_toArray, List.set_cons_succ, List.set_cons_zero]; rfl)) ?_
              refine Cop.og_run rfl rfl ?_
              refine ow_call 35 _ _ (fun w' => Below we.heap.size we w') (by go_simp) (CM.out (.slice (some ⟨g3, 0, none⟩) 32 32) _ we (HTB.out _ He.hb) (by rw [HKL.out]; exact He.rd 6 rfl) (He.own 1 rfl).rd (by rw [HKL.out]; decide) (by omega)) ?_
              intro wf bbf
              have Hf := He.keep bbf
              refine ⟨fun _ => HA, ?_⟩
              refine og_act (by (simp only [Act.put, List.setIfInBounds_toArray, List.set_cons_succ, List.set_cons_zero]; rfl)) ?_
              refine Cop.og_run rfl rfl ?_
              refine ow_st Hf 0 rfl 23 _ _ rfl rfl rfl (by rw [bv_size, HTL.out]; exact info_dg) (by rw [bv_size, bv_size, HTL.out]; rfl) (bv_one _) ?_
              intro wq HSq'
              refine ⟨fun h => absurd rfl h, ?_⟩
              refine og_fin ?_
              have HSq : Sep B w0 wq (.row gd (bv T) 23 :: .own (.slice A8 (o k).length c8) 5 1 (o k).length (bl (o k)) :: .rd (.slice (some ⟨g3, 0, none⟩) 32 32) 32 1 (bl key) :: R) := HSq'.sub (by repeat (first | exact List.nil_sublist _ | exact List.Sublist.refl _ | apply List.Sublist.cons_cons | apply List.Sublist.cons))
              clear HSq'
              go_wp2_with (refine wl_apb HSq 1 rfl rfl rfl (Sep.rdRow HSq 0 rfl 32 HTL.out (by decide)) rfl rfl (o (k + 1)).length (o (k + 1)) HOL.out HOS.out (by omega) ?_)
              intro vr wr2 HSr _
              obtain ⟨Ar, cr, rfl, _⟩ := (HSr.own 1 rfl).sl
              have HSs := HSr.rowRdL 0 rfl 32 HTL.out (by decide)
              go_wp2
              go_roundw
              case rel => exact ⟨k + 1, (i + 1) % 256, by go_num, by omega, by have := HIK.out; omega, by have h := HSs.front 1; rw [HTK.out]; exact h⟩
              case measure =>
                have := HOL.out
                simp [slen]
                omega
          · skip
            refine Cop.og_run rfl rfl ?_
            refine ow_al Hc 23 rfl (bv (List.replicate 32 0)) (by kernel_rfl) ?_
            intro gd wd Hd
            refine ⟨fun _ => HA, ?_⟩
            refine og_act (by (simp only [Act.put, List.setIfInBounds_toArray, List.set_cons_succ, List.set_cons_zero]; rfl)) ?_
            refine Cop.og_run rfl rfl ?_
            refine ow_call_ex 39 _ (fun x w' => Below wd.heap.size wd w' ∧ Ow w' wd.heap.size 5 1 x M.length (bl M)) (by go_simp) (CC.out _ _ _ _ wd (Hd.own 1 rfl).rd (Hd.rd 4 rfl) (Hd.rd (i0 + 6) HI.out) (Hd.own 2 rfl).rd) ?_
            rintro vm we ⟨bbe, obe⟩
            have He := Hd.made bbe obe
            obtain ⟨Am, cm, rfl, _⟩ := (He.own 0 rfl).sl
            refine ⟨fun _ => HA, ?_⟩
            refine og_act (by (simp only [Act.put, List.setIfInBounds_toArray, List.set_cons_succ, List.set_cons_zero]; rfl)) ?_
            refine Cop.og_run rfl rfl ?_
            refine ow_call 35 _ _ (fun w' => Below we.heap.size we w') (by go_simp) (CM.out (.slice (some ⟨g3, 0, none⟩) 32 32) _ we (HTB.out _ He.hb) (by rw [HKL.out]; exact He.rd 6 rfl) (He.own 0 rfl).rd (by rw [HKL.out]; decide) (by omega)) ?_
            intro wf bbf
            have Hf := He.keep bbf
            refine ⟨fun _ => HA, ?_⟩
            refine og_act (by (simp only [Act.put, List.setIfInBounds_toArray, List.set_cons_succ, List.set_cons_zero]; rfl)) ?_
            refine Cop.og_run rfl rfl ?_
            refine ow_st Hf 1 rfl 23 _ _ rfl rfl rfl (by rw [bv_size, HTL.out]; exact info_dg) (by rw [bv_size, bv_size, HTL.out]; rfl) (bv_one _) ?_
            intro wq HSq'
            refine ⟨fun h => absurd rfl h, ?_⟩
            refine og_fin ?_
            have HSq : Sep B w0 wq (.row gd (bv T) 23 :: .own (.slice A8 (o k).length c8) 5 1 (o k).length (bl (o k)) :: .rd (.slice (some ⟨g3, 0, none⟩) 32 32) 32 1 (bl key) :: R) := HSq'.sub (by repeat (first | exact List.nil_sublist _ | exact List.Sublist.refl _ | apply List.Sublist.cons_cons | apply List.Sublist.cons))
            clear HSq'
            go_wp2_with (refine wl_apb HSq 1 rfl rfl rfl (Sep.rdRow HSq 0 rfl 32 HTL.out (by decide)) rfl rfl (o (k + 1)).length (o (k + 1)) HOL.out HOS.out (by omega) ?_)
            intro vr wr2 HSr _
            obtain ⟨Ar, cr, rfl, _⟩ := (HSr.own 1 rfl).sl
            have HSs := HSr.rowRdL 0 rfl 32 HTL.out (by decide)
            go_wp2
            go_roundw
            case rel => exact ⟨k + 1, (i + 1) % 256, by go_num, by omega, by have := HIK.out; omega, by have h := HSs.front 1; rw [HTK.out]; exact h⟩
            case measure =>
              have := HOL.out
              simp [slen]
              omega
        · skip
          refine Cop.og_run rfl rfl ?_
          refine ow_al Hb 23 rfl (bv (List.replicate 32 0)) (by kernel_rfl) ?_
          intro gd wc Hc
          refine ⟨fun _ => HA, ?_⟩
          refine og_act (by (simp only [Act.put, List.setIfInBounds_toArray, List.set_cons_succ, List.set_cons_zero]; rfl)) ?_
          refine Cop.og_run rfl rfl ?_
          refine ow_bs Hc 82 33 3 1 _ rfl [.slice A9 (t k).length c9, .slice Ai info.length ci, .slice (some ⟨gy, 0, none⟩) 1 1] (.slice none 0 0) Tryd.underlying82 (by kernel_rfl) (by decide) (by decide) (by kernel_rfl) rfl ?_
          intro gl wd Hd
          refine ⟨fun _ => HA, ?_⟩
          refine og_act (by (simp only [Act.put, List.setIfInBounds_toArray, List.set_cons_succ, List.set_cons_zero]; rfl)) ?_
          refine Cop.og_run rfl rfl ?_
          refine ow_call_ex 39 _ (fun x w' => Below wd.heap.size wd w' ∧ Ow w' wd.heap.size 5 1 x M.length (bl M)) (by go_simp) (CC.out _ _ _ _ wd (Hd.own 0 rfl).rd (Hd.rd 4 rfl) (Hd.rd (i0 + 6) HI.out) (Hd.own 2 rfl).rd) ?_
          rintro vm we ⟨bbe, obe⟩
          have He := Hd.made bbe obe
          obtain ⟨Am, cm, rfl, _⟩ := (He.own 0 rfl).sl
          refine ⟨fun _ => HA, ?_⟩
          refine og_act (by (simp only [Act.put, List.setIfInBounds_toArray, List.set_cons_succ, List.set_cons_zero]; rfl)) ?_
          refine Cop.og_run rfl rfl ?_
          refine ow_call 35 _ _ (fun w' => Below we.heap.size we w') (by go_simp) (CM.out (.slice (some ⟨g3, 0, none⟩) 32 32) _ we (HTB.out _ He.hb) (by rw [HKL.out]; exact He.rd 6 rfl) (He.own 0 rfl).rd (by rw [HKL.out]; decide) (by omega)) ?_
          intro wf bbf
          have Hf := He.keep bbf
          refine ⟨fun _ => HA, ?_⟩
          refine og_act (by (simp only [Act.put, List.setIfInBounds_toArray, List.set_cons_succ, List.set_cons_zero]; rfl)) ?_
          refine Cop.og_run rfl rfl ?_
          refine ow_st Hf 2 rfl 23 _ _ rfl rfl rfl (by rw [bv_size, HTL.out]; exact info_dg) (by rw [bv_size, bv_size, HTL.out]; rfl) (bv_one _) ?_
          intro wq HSq'
          refine ⟨fun h => absurd rfl h, ?_⟩
          refine og_fin ?_
          have HSq : Sep B w0 wq (.row gd (bv T) 23 :: .own (.slice A8 (o k).length c8) 5 1 (o k).length (bl (o k)) :: .rd (.slice (some ⟨g3, 0, none⟩) 32 32) 32 1 (bl key) :: R) := HSq'.sub (by repeat (first | exact List.nil_sublist _ | exact List.Sublist.refl _ | apply List.Sublist.cons_cons | apply List.Sublist.cons))
          clear HSq'
          go_wp2_with (refine wl_apb HSq 1 rfl rfl rfl (Sep.rdRow HSq 0 rfl 32 HTL.out (by decide)) rfl rfl (o (k + 1)).length (o (k + 1)) HOL.out HOS.out (by omega) ?_)
          intro vr wr2 HSr _
          obtain ⟨Ar, cr, rfl, _⟩ := (HSr.own 1 rfl).sl
          have HSs := HSr.rowRdL 0 rfl 32 HTL.out (by decide)
          go_wp2
          go_roundw
          case rel => exact ⟨k + 1, (i + 1) % 256, by go_num, by omega, by have := HIK.out; omega, by have h := HSs.front 1; rw [HTK.out]; exact h⟩
          case measure =>
            have := HOL.out
            simp [slen]
            omega
      · skip
        refine Cop.og_run rfl rfl ?_
        refine ow_al HSa 23 rfl (bv (List.replicate 32 0)) (by kernel_rfl) ?_
        intro gd wb Hb
        refine ⟨fun _ => HA, ?_⟩
        refine og_act (by (simp only [Act.put, List.setIfInBounds_toArray, List.set_cons_succ, List.set_cons_zero]; rfl)) ?_
        refine Cop.og_run rfl rfl ?_
        refine ow_bs Hb 33 5 1 1 _ rfl [Value.int .u8 i] (.int .u8 0) Tryd.underlying33 (by kernel_rfl) (by decide) (by decide) (by kernel_rfl) rfl ?_
        intro gy wc Hc'
        have Hc := Hc'
        rw [HB.out] at Hc
        refine ⟨fun _ => HA, ?_⟩
        refine og_act (by (simp only [Act.put, List.setIfInBounds_toArray, List.set_cons_succ, List.set_cons_zero]; rfl)) ?_
        refine Cop.og_run rfl rfl ?_
        refine ow_bs Hc 82 33 3 1 _ rfl [.slice A9 (t k).length c9, .slice Ai info.length ci, .slice (some ⟨gy, 0, none⟩) 1 1] (.slice none 0 0) Tryd.underlying82 (by kernel_rfl) (by decide) (by decide) (by kernel_rfl) rfl ?_
        intro gl wd Hd
        refine ⟨fun _ => HA, ?_⟩
        refine og_act (by (simp only [Act.put, List.setIfInBounds_toArray, List.set_cons_succ, List.set_cons_zero]; rfl)) ?_
        refine Cop.og_run rfl rfl ?_
        refine ow_call_ex 39 _ (fun x w' => Below wd.heap.size wd w' ∧ Ow w' wd.heap.size 5 1 x M.length (bl M)) (by go_simp) (CC.out _ _ _ _ wd (Hd.own 0 rfl).rd (Hd.rd 4 rfl) (Hd.rd (i0 + 6) HI.out) (Hd.own 1 rfl).rd) ?_
        rintro vm we ⟨bbe, obe⟩
        have He := Hd.made bbe obe
        obtain ⟨Am, cm, rfl, _⟩ := (He.own 0 rfl).sl
        refine ⟨fun _ => HA, ?_⟩
        refine og_act (by (simp only [Act.put, List.setIfInBounds_toArray, List.set_cons_succ, List.set_cons_zero]; rfl)) ?_
        refine Cop.og_run rfl rfl ?_
        refine ow_call 35 _ _ (fun w' => Below we.heap.size we w') (by go_simp) (CM.out (.slice (some ⟨g3, 0, none⟩) 32 32) _ we (HTB.out _ He.hb) (by rw [HKL.out]; exact He.rd 6 rfl) (He.own 0 rfl).rd (by rw [HKL.out]; decide) (by omega)) ?_
        intro wf bbf
        have Hf := He.keep bbf
        refine ⟨fun _ => HA, ?_⟩
        refine og_act (by (simp only [Act.put, List.setIfInBounds_toArray, List.set_cons_succ, List.set_cons_zero]; rfl)) ?_
        refine Cop.og_run rfl rfl ?_
        refine ow_st Hf 3 rfl 23 _ _ rfl rfl rfl (by rw [bv_size, HTL.out]; exact info_dg) (by rw [bv_size, bv_size, HTL.out]; rfl) (bv_one _) ?_
        intro wq HSq'
        refine ⟨fun h => absurd rfl h, ?_⟩
        refine og_fin ?_
        have HSq : Sep B w0 wq (.row gd (bv T) 23 :: .own (.slice A8 (o k).length c8) 5 1 (o k).length (bl (o k)) :: .rd (.slice (some ⟨g3, 0, none⟩) 32 32) 32 1 (bl key) :: R) := HSq'.sub (by repeat (first | exact List.nil_sublist _ | exact List.Sublist.refl _ | apply List.Sublist.cons_cons | apply List.Sublist.cons))
        clear HSq'
        go_wp2_with (refine wl_apb HSq 1 rfl rfl rfl (Sep.rdRow HSq 0 rfl 32 HTL.out (by decide)) rfl rfl (o (k + 1)).length (o (k + 1)) HOL.out HOS.out (by omega) ?_)
        intro vr wr2 HSr _
        obtain ⟨Ar, cr, rfl, _⟩ := (HSr.own 1 rfl).sl
        have HSs := HSr.rowRdL 0 rfl 32 HTL.out (by decide)
        go_wp2
        go_roundw
        case rel => exact ⟨k + 1, (i + 1) % 256, by go_num, by omega, by have := HIK.out; omega, by have h := HSs.front 1; rw [HTK.out]; exact h⟩
        case measure =>
          have := HOL.out
          simp [slen]
          omega
    · have hke : (n + 31) / 32 = k := by omega
      have hge : ¬ ((o k).length : Int) < (n : Int) := by omega
      have hX := HX.out
      rw [hke] at hX
      have hXl : X.length = n := by rw [← hX, List.length_take]; omega
      obtain ⟨A1, c1, _, _, HR1, _, hs1⟩ := rd_to (P := Tryd.prog) (HSi.own 0 rfl).rd Tryd.underlying33 info_u8' n (by omega)
      rw [hX] at HR1
      rw [hXl] at HR1
      have CB := Lib.hid (fun v w hR => CB.out v X w hR (by omega))
      rw [hXl] at CB
      clear hX hke hik hol hlt
      go_wp2_with fail
      refine (CB.out _ wr HR1).mono ?_
      rintro e w5 ⟨x, rfl, b5, o5⟩
      have HS5 := (HSi.made b5 o5)
      go_wp2
      go_ret2
      exact ⟨_, rfl, HS5.sub (by repeat (first | exact List.nil_sublist _ | exact List.Sublist.refl _ | apply List.Sublist.cons_cons | apply List.Sublist.cons))⟩
end Go.Proofs.YtkgdjddcnlkppaaDoor
