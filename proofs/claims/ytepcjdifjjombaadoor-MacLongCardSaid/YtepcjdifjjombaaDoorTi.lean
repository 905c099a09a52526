/- Proved here: a key of more than a block counts as its digest, one of fewer as with noughts behind it (mac.Mac); and the keyed digest of a known message begins as is known. The table of constants is tied to the program's text. No condition. -/
import Derived.Test.YtepcjdifjjombaaDoorTg
import Derived.Test.YtepcjdifjjombaaDoorFMacLong
import Derived.Lib.SlBytesConst
import Derived.Lib.SmallJoins
namespace Go.Proofs.YtepcjdifjjombaaDoor
open Go.RowKit Cop
set_option linter.unusedVariables false
set_option linter.unusedSimpArgs false
theorem sha_short (l : List UInt8) (h : (l ++ pad l.length).length = 64) : sha l = wb (compress hbegin (l ++ pad l.length)).l := by
  rw [sha, endOf, over_more _ _ (by omega), List.take_of_length_le (by omega), List.drop_of_length_le (by omega), over_small _ _ (by decide)]
theorem sha_two (l : List UInt8) (h : (l ++ pad l.length).length = 128) : sha l = wb (compress (compress hbegin ((l ++ pad l.length).take 64)) ((l ++ pad l.length).drop 64)).l := by
  rw [sha, endOf]
  generalize l ++ pad l.length = x at *
  have h2 : (x.drop 64).length = 64 := by rw [List.length_drop, h]
  rw [over_more hbegin x (by omega), over_more _ (x.drop 64) (by omega), List.take_of_length_le (l := x.drop 64) (by omega), List.drop_of_length_le (l := x.drop 64) (by omega), over_small _ _ (by decide)]
def key3 : List UInt8 := [107, 101, 121]
def fox : List UInt8 := [84, 104, 101, 32, 113, 117, 105, 99, 107, 32, 98, 114, 111, 119, 110, 32, 102, 111, 120, 32, 106, 117, 109, 112, 115, 32, 111, 118, 101, 114, 32, 116, 104, 101, 32, 108, 97, 122, 121, 32, 100, 111, 103]
set_option maxRecDepth 100000 in
theorem fox_known : ∃ t, hmac key3 fox = 0xf7 :: t := by
  have h1 : key64 key3 = key3 := by rw [key64, if_pos (by decide)]
  have h2 : sha (kpad key3 0x36 ++ fox) = _ := sha_two _ (by decide +kernel)
  have h3 : sha (kpad key3 0x5c ++ sha (kpad key3 0x36 ++ fox)) = _ := sha_two _ (by rw [List.length_append, List.length_append, sha_length, kpad_length key3 _ (by decide), pad_length])
  have h4 : (hmac key3 fox).getD 0 0 = 0xf7 := by
    rw [hmac, h1, h3, h2]
    decide +kernel
  have h5 := hmac_length key3 fox
  cases hh : hmac key3 fox with
  | nil => rw [hh] at h5; simp at h5
  | cons x t => rw [hh] at h4; simp only [List.getD_cons_zero] at h4; rw [h4]; exact ⟨t, rfl⟩
theorem hmac_long (k m : List UInt8) (h : ¬ k.length ≤ 64) : hmac (sha k) m = hmac k m := by
  have e1 : key64 k = sha k := by rw [key64, if_neg h]
  have e2 : key64 (sha k) = sha k := by rw [key64, if_pos (by rw [sha_length]; decide)]
  rw [hmac, hmac, e1, e2]
theorem hmac_wide (k m : List UInt8) (h : k.length ≤ 64) : hmac (k ++ (List.replicate 64 0).drop k.length) m = hmac k m := by
  have hl : (k ++ (List.replicate 64 0).drop k.length).length = 64 := by simp; omega
  have e1 : key64 k = k := by rw [key64, if_pos h]
  have e2 : key64 (k ++ (List.replicate 64 0).drop k.length) = k ++ (List.replicate 64 0).drop k.length := by rw [key64, if_pos (by omega)]
  have e3 : ∀ b, kpad (k ++ (List.replicate 64 0).drop k.length) b = kpad k b := fun b => by
    rw [kpad, hl, kpad]
    rw [show (List.replicate 64 (0 : UInt8)).drop 64 = [] from rfl, List.append_nil]
  rw [hmac, hmac, e1, e2, e3, e3]
theorem Sep_two {w0 w : World} {B : Nat} {p q : Pc} {R : List Pc} (h : Sep B w0 w (p :: q :: R)) : Sep B w0 w [p, q] := h.sub ((List.nil_sublist R).cons_cons q |>.cons_cons p)
/-- Bytes of a constant, which are read. -/
theorem Sep_litB {w0 w : World} {B : Nat} {R : List Pc} (HS : Sep B w0 w R) (t : TypeId) (fr : Nat × Nat) (l : List UInt8) (hm : l.length ≤ 9223372036854775807) : Sep B w0 (w.alloc (.cells (bv l) t fr)) (.rd (.slice (some ⟨w.heap.size, 0, none⟩) l.length l.length) l.length 1 (bl l) :: R) := by
  refine HS.fresh ((Below.refl _ _).alloc (Nat.le_refl _) _) ⟨by rw [bl_length, Nat.mul_one], _, l.length, rfl, Nat.le_refl _, hm, by simp, fun _ => ⟨w.heap.size, 0, rfl, fun j u hu => ?_⟩⟩ (fun k hk => ?_)
  · rw [Nat.zero_add, cell_of_row _ _ _ _ _ _ (heap_alloc_new w (.cells (bv l) t fr))]
    rw [← bv_toList] at hu
    simpa using hu
  · cases l with
    | nil => simp [Pc.blk, bl, rblk] at hk
    | cons x xs => simp [Pc.blk, bl, rblk] at hk; omega
set_option maxHeartbeats 4000000 in
theorem macLong_walk (k m : List UInt8) (vk vm : Value) (w : World) (hT : Tab w) (hRk : Rd w vk k.length 1 (bl k)) (hRm : Rd w vm m.length 1 (bl m)) (hk : k.length ≤ 140737488351232) (hm : m.length ≤ 140737488351232) :
    Calls Tryd.prog 12 #[vk, vm] w fun e w' => e = .returned (.bool true) ∧ Below w.heap.size w w' := by
  have CA := Lib.hid mac_a
  have hDl := hmac_length k m
  obtain ⟨D, hD⟩ : ∃ x, hmac k m = x := ⟨_, rfl⟩
  rw [hD] at hDl
  have HD := Lib.hid hD
  have heq := fun w' : World => run_equal_bv (P := Tryd.prog) w' (d := 9998) Tryd.underlying32 Tryd.underlying5 (by kernel_rfl) D D hDl hDl
  have HTB := hT.base
  have HS0 := ((Sep.start w).arg0 hRk).arg0 hRm
  obtain ⟨A, c, rfl, hc, hcm⟩ := hRk.shape
  obtain ⟨Am, cm, rfl, hc2, hcm2⟩ := hRm.shape
  clear hRk hRm hD hDl
  by_cases hle : k.length ≤ 64
  · have hle' : ¬ (64 : Int) < (k.length : Int) := by omega
    obtain ⟨K, hK⟩ : ∃ x, k ++ (List.replicate 64 0).drop k.length = x := ⟨_, rfl⟩
    have HK := Lib.hid hK
    have HKL := Lib.hid (show K.length = 64 by rw [← hK]; simp; omega)
    have HD2 := Lib.hid (show hmac K m = D by rw [← hK, hmac_wide k m hle]; exact HD.out)
    obtain ⟨t, ht⟩ := fox_known
    obtain ⟨E, hE⟩ : ∃ x, hmac key3 fox = x := ⟨_, rfl⟩
    have HE := Lib.hid hE
    have hEl := hmac_length key3 fox
    rw [hE] at ht hEl
    have hidx : ∀ w' : World, (Instr.index 32 (.agg (bv E)) (.int .i64 0)).run Tryd.prog w' = .ok (.int .u8 247) w' := fun w' : World => run_index_int (P := Tryd.prog) (kk := .i64) w' Tryd.underlying32 Tryd.underlying5 (by kernel_rfl) (bv E) 0 (.int .u8 247) (by decide) (by rw [ht]; rfl)
    clear hK hE ht hEl
    have kc := fun (w : World) (C : Array Value) (n c : Nat) => Lib.run_convert_bytes_const (P := Tryd.prog) w 30 5 C n c Tryd.underlying30 Tryd.underlying5
    go_enter Tryd.func12, Tryd.ntmps12
    go_wp2_with (refine wl_mkb HS0 rfl rfl rfl rfl 64 rfl rfl (by decide) ?_)
    intro g1 w1 HS1
    go_wp2_with (refine wl_cpb (z := List.replicate 64 0) HS1 0 rfl rfl rfl (HS1.rd 2 rfl) rfl rfl rfl hle K HK.out ?_)
    intro w2 HS2
    have HS3 := HS2.rowRdL 0 rfl 64 HKL.out (by decide)
    clear HS0 HS1 HS2
    go_wp2_with fail
    refine (CA.out k m _ _ w2 (HTB _ HS3.hb) (HS3.rd 2 rfl) (HS3.rd 1 rfl) (by omega) (by omega)).mono ?_
    rintro e w4 ⟨rfl, b4⟩
    rw [HD.out]
    have HS4 := HS3.keep b4
    go_wp2_with fail
    refine (CA.out K m _ _ w4 (HTB _ HS4.hb) (HS4.rd 0 rfl) (HS4.rd 1 rfl) (by rw [HKL.out]; decide) (by omega)).mono ?_
    rintro e w5 ⟨rfl, b5⟩
    rw [HD2.out]
    have HS5 := Sep_litB (HS4.keep b5) 5 (3, 4) key3 (by decide)
    have HS6 := Sep_litB HS5 5 (43, 44) fox (by decide)
    have kc2 := fun (C : Array Value) (n c : Nat) => _root_.Go.Joins.run_convert_bytes_const_at (P := Tryd.prog) (w5.alloc (.cells #[.int .u8 107, .int .u8 101, .int .u8 121] 5 (3, 4))) 30 5 C n c (w5.heap.size + 1) (by simp) Tryd.underlying30 Tryd.underlying5
    clear HS3 HS4
    go_wp2_with fail
    first | refine Cop.wl_world fun wz hwz => ?_ | refine Cop.calls_world fun wz hwz => ?_ | refine Cop.exit_world fun wz hwz => ?_ | refine Cop.code_world fun wz hwz => ?_
    have HSz : Sep w.heap.size w wz (.rd (.slice (some ⟨w5.heap.size + 1, 0, none⟩) 43 43) fox.length 1 (bl fox) :: .rd (.slice (some ⟨w5.heap.size, 0, none⟩) 3 3) key3.length 1 (bl key3) :: []) := by
      rw [← hwz, show w5.heap.size + 1 = (w5.alloc (.cells (bv key3) 5 (3, 4))).heap.size from by simp]
      exact Sep_two HS6
    clear hwz HS6 HS5
    refine (CA.out key3 fox _ _ wz (HTB _ HSz.hb) (HSz.rd 1 rfl) (HSz.rd 0 rfl) (by decide) (by decide)).mono ?_
    rintro e w7 ⟨rfl, b7⟩
    rw [HE.out]
    have HS7 := HSz.keep b7
    go_wp2
    go_ret
    exact ⟨rfl, HS7.hb⟩
  · have hgt : (64 : Int) < (k.length : Int) := by omega
    obtain ⟨K, hK⟩ : ∃ x, sha k = x := ⟨_, rfl⟩
    have HK := Lib.hid hK
    have HKL := Lib.hid (show K.length = 32 by rw [← hK]; exact sha_length k)
    have HD2 := Lib.hid (show hmac K m = D by rw [← hK, hmac_long k m hle]; exact HD.out)
    clear hK
    go_enter Tryd.func12, Tryd.ntmps12
    go_wp2_with fail
    refine (sum_a k _ w (HTB _ HS0.hb) (HS0.rd 1 rfl) (by omega)).mono ?_
    rintro e w1 ⟨rfl, b1⟩
    rw [HK.out]
    have HS1 := HS0.keep b1
    go_wp2_with (first | refine wl_al HS1 rfl 32 rfl (bv (List.replicate 32 0)) (by kernel_rfl) ?_)
    intro g3 w3 HS3
    go_wp2_with (first | refine wl_st HS3 0 rfl rfl 32 _ _ rfl rfl rfl (by rw [bv_size, HKL.out]; exact info_dg) (by rw [bv_size, bv_size, HKL.out]; rfl) (bv_one _) ?_)
    intro w4 HS4
    have HS5 := HS4.rowRdL 0 rfl 32 HKL.out (by decide)
    clear HS0 HS1 HS3 HS4
    go_wp2_with fail
    refine Cop.region_ord (fun w' => True) 7 (.take 0 (.take 1 (.take 3 (.take 4 (.run 2 (.run 5 (.take 6 (.take 7 Cop.Ord.fin)))))))) (by kernel_rfl) (by kernel_rfl) (fun _ _ d _ _ h => by cases d <;> exact h) ?_
    intro wb hd
    have HSb := HS5.keep hd
    have HT1 : True := trivial
    (repeat (first | (refine Cop.og_skip rfl rfl HT1 _ (by (simp only [Act.put, List.setIfInBounds_toArray, List.set_cons_succ, List.set_cons_zero]; rfl)) ?_) | (refine Cop.og_take rfl rfl HT1 ?_; apply Exists.intro; refine ⟨fun w9 h9 => ?_, _, by (simp only [Act.put, List.setIfInBounds_toArray, List.set_cons_succ, List.set_cons_zero]; rfl), ?_⟩; (go_simp; with_reducible rfl))))
    refine Cop.og_run rfl rfl ?_
    refine ow_call 42 _ _ (fun w' => Below wb.heap.size wb w') (by go_simp) (CA.out k m _ _ wb (HTB _ HSb.hb) (HSb.rd 2 rfl) (HSb.rd 1 rfl) (by omega) (by omega)) ?_
    intro wc bc
    have HSc := HSb.keep bc
    refine ⟨fun _ => HT1, ?_⟩
    rw [HD.out]
    (repeat (first | (refine Cop.og_skip rfl rfl HT1 _ (by (simp only [Act.put, List.setIfInBounds_toArray, List.set_cons_succ, List.set_cons_zero]; rfl)) ?_) | (refine Cop.og_take rfl rfl HT1 ?_; apply Exists.intro; refine ⟨fun w9 h9 => ?_, _, by (simp only [Act.put, List.setIfInBounds_toArray, List.set_cons_succ, List.set_cons_zero]; rfl), ?_⟩; (go_simp; with_reducible rfl))))
    refine Cop.og_run rfl rfl ?_
    refine ow_call 42 _ _ (fun w' => Below wc.heap.size wc w') (by go_simp) (CA.out K m _ _ wc (HTB _ HSc.hb) (HSc.rd 0 rfl) (HSc.rd 1 rfl) (by rw [HKL.out]; decide) (by omega)) ?_
    intro wd bd
    have HSd := HSc.keep bd
    refine ⟨fun _ => HT1, ?_⟩
    rw [HD2.out]
    (repeat (first | (refine Cop.og_skip rfl rfl HT1 _ (by (simp only [Act.put, List.setIfInBounds_toArray, List.set_cons_succ, List.set_cons_zero]; rfl)) ?_) | (refine Cop.og_take rfl rfl HT1 ?_; apply Exists.intro; refine ⟨fun w9 h9 => ?_, _, by (simp only [Act.put, List.setIfInBounds_toArray, List.set_cons_succ, List.set_cons_zero]; rfl), ?_⟩; (have q := heq w9; go_simp; with_reducible rfl))))
    refine og_fin ?_
    go_wp2
    go_ret
    exact ⟨rfl, HSd.hb⟩
theorem macLong_holds : Rows.MacLongCardSaid := macLong.card_of_walk fun H enc W base v0 v1 d0 d1 p0 p1 h0 k0 h1 k1 hsz hL => by
  obtain ⟨l, hR, hl⟩ := open_bslice Tryd.underlying30 Tryd.underlying5 (by kernel_rfl) (by kernel_rfl) h0 k0 hsz 0 rfl rfl
  obtain ⟨l1, hR1, hl1⟩ := open_bslice Tryd.underlying30 Tryd.underlying5 (by kernel_rfl) (by kernel_rfl) h1 k1 hsz 1 rfl rfl
  exact macLong_walk l l1 v0 v1 W (table_of hL) hR hR1 hl hl1
#print axioms macLong_holds
end Go.Proofs.YtepcjdifjjombaaDoor
