/- hash.Load. -/
import Derived.Test.YtepcjdifjjombaaDoorTc
import Derived.Test.YtepcjdifjjombaaDoorDg
import Derived.Test.YtepcjdifjjombaaDoorOh
namespace Go.Proofs.YtepcjdifjjombaaDoor
open Go.RowKit Cop
set_option linter.unusedVariables false
set_option linter.unusedSimpArgs false
/-- One word is put in place. -/
def _root_.Cop.H8.put (s : H8) : Nat → UInt32 → H8
  | 0, w => { s with a := w }
  | 1, w => { s with b := w }
  | 2, w => { s with c := w }
  | 3, w => { s with d := w }
  | 4, w => { s with e := w }
  | 5, w => { s with f := w }
  | 6, w => { s with g := w }
  | 7, w => { s with h := w }
  | _, _ => s
theorem stv_put (m : Bool) (h : H8) (n : Int) (v : Value) (w : UInt32) : ∀ k, k < 8 → (stv m h n v).setIfInBounds (1 + k) (.int .u32 (w.toNat : Int)) = stv m (h.put k w) n v
  | 0, _ => rfl
  | 1, _ => rfl
  | 2, _ => rfl
  | 3, _ => rfl
  | 4, _ => rfl
  | 5, _ => rfl
  | 6, _ => rfl
  | 7, _ => rfl
  | k + 8, h => by omega
/-- The first k words of a saved state, put over h. -/
def wput (h : H8) (b : List UInt8) : Nat → H8
  | 0 => h
  | k + 1 => (wput h b k).put k (word b k)
/-- A saved state's words. -/
def lwd (b : List UInt8) : H8 := ⟨word b 0, word b 1, word b 2, word b 3, word b 4, word b 5, word b 6, word b 7⟩
theorem wput8 (h : H8) (b : List UInt8) : wput h b 8 = lwd b := rfl
/-- Its length. -/
def lnum (b : List UInt8) : Nat := num ((b.drop 32).take 8)
/-- Is it one? -/
def lok (b : List UInt8) : Prop := lnum b ≤ 2305843009213693951 ∧ b.length - 40 = lnum b % 64 ∧ (lnum b < 64 → (lwd b).l = hbegin.l)
theorem eq_hv (w : World) {d : Nat} {t e : TypeId} (ht : Tryd.prog.underlying t = some (.array 8 e)) (he : Tryd.prog.underlying e = some (.int .u32)) (hs : (Tryd.prog.info? e).map (·.size) = some 1) (x y : H8) :
    (Op.equalIn (d + 2) t (.agg (hv x)) (.agg (hv y))).run Tryd.prog w = .ok (decide (x.l = y.l)) w := by
  have h : ∀ l : List UInt32, wv l = nmv .u32 (l.map fun b => (b.toNat : Int)) := fun l => by simp [wv, nmv]
  rw [hv_wv, hv_wv, h, h, run_equal_nmv w ht he hs _ _ (by simp [H8.l]) (by simp [H8.l])]
  congr 1
  refine decide_eq_decide.2 ⟨fun hh => ?_, fun hh => by rw [hh]⟩
  exact (List.map_inj_right (fun a b hab => UInt32.toNat_inj.1 (by omega))).1 hh
theorem word_at9 (b : List UInt8) (k : Nat) : word b k = (((b.drop (4 * k)).getD 0 0).toUInt32 <<< UInt32.ofNat 24) ||| (((b.drop (4 * k)).getD 1 0).toUInt32 <<< UInt32.ofNat 16) ||| (((b.drop (4 * k)).getD 2 0).toUInt32 <<< UInt32.ofNat 8) ||| ((b.drop (4 * k)).getD 3 0).toUInt32 := by
  simp [word, List.getD, List.getElem?_drop]
theorem rd_ix {w : World} {b o n c : Nat} {K : List UInt8} (h : Rd w (.slice (some ⟨b, o, none⟩) n c) n 1 (bl K)) (i : Nat) (hi : i < n) : w.cell? ⟨b, o + i, none⟩ = some (.int .u8 ((K.getD i 0).toNat : Int)) := by
  obtain ⟨b', o', he, hc⟩ := rd_at h i hi
  injection he with he
  injection he with h1 h2
  subst h1 h2
  exact hc
theorem or_byte (a : Nat) (y : UInt8) (h : a < 72057594037927936) : bits BinOp.or .u64 ((a : Int) * 256 % 18446744073709551616) ((y.toNat : Int) % 18446744073709551616) = ((a * 256 + y.toNat : Nat) : Int) := by
  have hy := u8_lt y
  rw [show (a : Int) * 256 % 18446744073709551616 = ((a * 256 : Nat) : Int) from by omega, show (y.toNat : Int) % 18446744073709551616 = (y.toNat : Int) from by omega, u64_or_nat _ _ (by omega) (by omega)]
  have := Nat.shiftLeft_add_eq_or_of_lt (i := 8) (b := y.toNat) (by omega) a
  rw [Nat.shiftLeft_eq] at this
  rw [show a * 256 = a * 2 ^ 8 from rfl, this]
set_option maxRecDepth 100000 in
set_option maxHeartbeats 8000000 in
theorem load_short {B : Nat} {w0 w : World} {R : List Pc} (b : List UInt8) (v : Value) (i : Nat) (hi : R[i]? = some (.rd v b.length 1 (bl b))) (HS : Sep B w0 w R) (h : b.length < 40) :
    Calls Tryd.prog 32 #[v] w fun e w' => e = .returned (.tuple #[.pointer none, .int .i64 20]) ∧ w' = w := by
  obtain ⟨A, c, rfl, hc, hm⟩ := (HS.rd i hi).shape
  have h1 : (b.length : Int) < 40 := by omega
  go_enter Tryd.func32, Tryd.ntmps32
  go_wp2
  go_ret2
  exact ⟨rfl, rfl⟩
set_option maxRecDepth 100000 in
set_option maxHeartbeats 8000000 in
theorem load_a {B : Nat} {w0 w : World} {R : List Pc} (b : List UInt8) (v : Value) (i : Nat) (hi : R[i]? = some (.rd v b.length 1 (bl b))) (HS : Sep B w0 w R) (h40 : 40 ≤ b.length) (hbl : b.length ≤ 140737488355000) :
    Calls Tryd.prog 32 #[v] w fun e w' => ∃ x E, e = .returned (.tuple #[x, .int .i64 E]) ∧
      ((lok b ∧ E = 0 ∧ ∃ g v', x = .pointer (some ⟨g, 0, none⟩) ∧ Sep B w0 w' (.row g (stv true (lwd b) (lnum b : Int) v') 50 :: .own v' 5 1 (b.drop 40).length (bl (b.drop 40)) :: R)) ∨
       (¬ lok b ∧ E = 20 ∧ x = .pointer none ∧ Sep B w0 w' R)) := by
  have HI := Lib.hid hi
  have CN := Lib.hid (fun (w' : World) (R : List Pc) (h : Sep B w0 w' R) => new_S h)
  have CC := Lib.hid (fun w' v hR => clone_bytes v (b.drop 40) w' hR (by rw [List.length_drop]; omega))
  obtain ⟨A, c, rfl, hc, hm⟩ := (HS.rd i hi).shape
  obtain ⟨gb, o, rfl⟩ : ∃ gb o, A = some ⟨gb, o, none⟩ := by
    obtain ⟨gb, o, h, _⟩ := rd_at (HS.rd i hi) 0 (by omega)
    exact ⟨gb, o, h⟩
  have h1 : ¬ (b.length : Int) < 40 := by omega
  have HW := Lib.hid (fun k => show (wput hbegin b k).put k (word b k) = wput hbegin b (k + 1) from rfl)
  have HW0 := Lib.hid (show hbegin = wput hbegin b 0 from rfl)
  have HWA := Lib.hid (fun k => word_at9 b k)
  have HNT := Lib.hid (fun k (hk : k < 8) => num_take ((b.drop 32).take 8) k (by simp; omega))
  have HNS := Lib.hid (fun k (hk : k < 8) => num_small ((b.drop 32).take 8) k hk)
  have HN0 := Lib.hid (show num (((b.drop 32).take 8).take 0) = 0 from rfl)
  have HN8 := Lib.hid (show num (((b.drop 32).take 8).take 8) = lnum b by rw [List.take_of_length_le (by simp; omega)]; rfl)
  have HW8 := Lib.hid (wput8 hbegin b)
  have HOK := Lib.hid (show lok b ↔ (lnum b ≤ 2305843009213693951 ∧ b.length - 40 = lnum b % 64 ∧ (lnum b < 64 → (lwd b).l = hbegin.l)) from Iff.rfl)
  obtain ⟨OK, hOK⟩ : ∃ p, lok b = p := ⟨_, rfl⟩
  rw [hOK] at HOK ⊢
  obtain ⟨LW, hLW⟩ : ∃ p, lwd b = p := ⟨_, rfl⟩
  rw [hLW] at HOK HW8 ⊢
  obtain ⟨LN, hLN⟩ : ∃ p, lnum b = p := ⟨_, rfl⟩
  rw [hLN] at HOK HN8 ⊢
  obtain ⟨RS, hRS⟩ : ∃ l, b.drop 40 = l := ⟨_, rfl⟩
  have HRS := Lib.hid hRS
  rw [hRS] at CC ⊢
  clear hOK hLW hLN hi hRS
  generalize wput hbegin b = W at *
  generalize word b = WD at *
  go_enter Tryd.func32, Tryd.ntmps32
  go_wp2_with fail
  refine (CN.out _ _ HS).mono ?_
  rintro e w1 ⟨g, rfl, HS1⟩
  rw [HW0.out] at HS1
  clear HS
  go_wp2
  go_loopw [14] (fun s14 wr => ∃ k : Nat, k ≤ 8 ∧ s14 = .int .i64 (k : Int) ∧ Sep B w0 wr (.row g (stv true (W k) ((0 : Nat) : Int) (.slice none 0 0)) 50 :: .own (.slice none 0 0) 5 1 ([] : List UInt8).length (bl []) :: R)) (fun s14 _ => 8 - (intOf s14).toNat)
  case atStart => exact ⟨0, by omega, rfl, HS1⟩
  case round =>
    clear HS1
    obtain ⟨k, hk, rfl, HSi⟩ := hrel
    by_cases hlt : k < 8
    · have hlti : (k : Int) < 8 := by omega
      obtain ⟨A4, c4, hc4, hm4, HR4, hb4, hs4⟩ := rd_from (HSi.rd (i + 2) HI.out) Tryd.underlying30 info_u8' (4 * k) (by omega)
      have hm0 : 4 ≤ (b.drop (4 * k)).length := by rw [List.length_drop]; omega
      obtain ⟨g4, o4, rfl⟩ : ∃ gb o, A4 = some ⟨gb, o, none⟩ := by
        obtain ⟨gb, o, h, _⟩ := rd_at HR4 0 (by omega)
        exact ⟨gb, o, h⟩
      have HSj := HSi.part (i + 2) HI.out HR4 hb4
      have hwa := HWA.out k
      have hw := HW.out k
      rw [show ((4 * k : Nat) : Int) = 4 * (k : Int) from by omega] at hs4
      generalize b.drop (4 * k) = bk at *
      have ha := word_walk (bk.getD 0 0) (bk.getD 1 0) (bk.getD 2 0) (bk.getD 3 0)
      rw [← hwa] at ha
      have HA := Lib.hid ha
      have HWK := Lib.hid hw
      have HST := Lib.hid (fun m h n v w => stv_put m h n v w k hlt)
      clear ha hwa hw hb4 HR4
      obtain ⟨m, hmm⟩ : ∃ m, bk.length = m := ⟨_, rfl⟩
      rw [hmm] at hm0 hc4 hs4 HSj
      clear hmm
      have p0 : 0 < m := by omega
      have p0' : (0 : Int) < (m : Int) := by omega
      have p1 : (1 : Int) < (m : Int) := by omega
      have p2 : (2 : Int) < (m : Int) := by omega
      have p3 : (3 : Int) < (m : Int) := by omega
      have q := hs4 wr
      go_wp2
      refine Cop.region_ord (fun w' => Sep B w0 w' (.rd (.slice (some ⟨g4, o4, none⟩) m c4) m 1 (bl bk) :: .row g (stv true (W k) ((0 : Nat) : Int) (.slice none 0 0)) 50 :: .own (.slice none 0 0) 5 1 ([] : List UInt8).length (bl []) :: R)) 27 (.take 0 (.take 1 (.take 2 (.take 3 (.take 4 (.take 5 (.take 6 (.take 7 (.take 8 (.take 9 (.take 10 (.take 11 (.take 12 (.take 13 (.take 14 (.take 15 (.take 16 (.take 17 (.take 18 (.take 19 (.take 20 (.take 21 (.take 22 (.take 23 (.take 24 (.take 25 (.take 26 (.run 27 Cop.Ord.fin)))))))))))))))))))))))))))) (by kernel_rfl) (by kernel_rfl) (fun _ _ d _ _ h => by cases d <;> exact h) ?_
      intro wa hda
      have HSa := HSj.keep hda
      clear HSi HSj
      (repeat (first | (refine Cop.og_skip rfl rfl HSa _ (by (simp only [Act.put, List.setIfInBounds_toArray, List.set_cons_succ, List.set_cons_zero]; rfl)) ?_) | (refine Cop.og_take rfl rfl HSa ?_; apply Exists.intro; refine ⟨fun w9 h9 => ?_, _, by (simp only [Act.put, List.setIfInBounds_toArray, List.set_cons_succ, List.set_cons_zero]; rfl), ?_⟩; (have d0 := rd_ix (h9.rd 0 rfl) 0 (by omega); have d1 := rd_ix (h9.rd 0 rfl) 1 (by omega); have d2 := rd_ix (h9.rd 0 rfl) 2 (by omega); have d3 := rd_ix (h9.rd 0 rfl) 3 (by omega); rw [Nat.add_zero] at d0; go_simp; with_reducible rfl))))
      refine Cop.og_run rfl rfl ?_
      refine ow_stc HSa 1 rfl 22 _ _ rfl (by kernel_rfl) (1 + k) (by show 1 + k < 11; omega) rfl (congrArg (Value.int .u32) HA.out) rfl rfl ?_
      intro wb HSb
      rw [HST.out, HWK.out] at HSb
      refine ⟨fun h => absurd rfl h, ?_⟩
      refine og_fin ?_
      go_wp2
      go_roundw
      case rel => exact ⟨k + 1, by omega, by go_num, HSb.tail⟩
      case measure => simp [intOf]; omega
    · have hk8 : k = 8 := by omega
      subst hk8
      rw [HW8.out] at HSi
      clear hlt hk
      obtain ⟨g5, o5, c5, HR5, hc5, hm5, hs5⟩ := rd_sub (HSi.rd (i + 2) HI.out) Tryd.underlying30 info_u8' 32 8 (by decide) (by omega)
      have hs6 : ∀ W kl kh, (Instr.sliceAt 30 (.slice (some ⟨gb, o, none⟩) b.length c) (some (.int kl 32)) (some (.int kh 40)) none).run Tryd.prog W = .ok (.slice (some ⟨g5, o5, none⟩) 8 c5) W := hs5
      have q := hs6 wr .i64 .i64
      clear hs5
      have HQ := Lib.hid HR5
      clear HR5
      go_wp2
      go_loop [7, 52] (fun x s => ∃ k : Nat, k ≤ 8 ∧ s = .int .i64 (k : Int) ∧ x = .int .u64 (num (((b.drop 32).take 8).take k) : Int)) (fun _ s => 8 - (intOf s).toNat)
      case atStart => exact ⟨0, by omega, rfl, by rw [HN0.out]; rfl⟩
      case round =>
        obtain ⟨k, hk, rfl, rfl⟩ := hrel
        by_cases hlt : k < 8
        · have d0 := rd_ix HQ.out k hlt
          have hX := HNT.out k hlt
          have hSm := HNS.out k hlt
          generalize num (((b.drop 32).take 8).take k) = x at *
          generalize ((b.drop 32).take 8).getD k 0 = y at *
          have HOB := Lib.hid ((or_byte x y hSm).trans (congrArg Nat.cast hX.symm))
          have hki : (k : Int) < 8 := by omega
          clear hX hSm
          go_wp2
          exact ⟨⟨k + 1, by omega, by go_num, congrArg (Value.int .u64) HOB.out⟩, by simp [intOf]; omega⟩
        · have hk8 : k = 8 := by omega
          subst hk8
          rw [HN8.out]
          clear hlt hk
          go_wp2
          by_cases a1 : LN ≤ 2305843009213693951
          · have f1 : (LN : Int) ≤ 2305843009213693951 := by omega
            have f1' : decide ((2305843009213693951 : Int) < (LN : Int)) = false := by rw [decide_eq_false_iff_not]; omega
            obtain ⟨r, hr⟩ : ∃ r, LN % 64 = r := ⟨_, rfl⟩
            have hr64 : (r : Int) < 64 := by omega
            have e1 : Int.tmod (LN : Int) 64 = (r : Int) := by rw [Int.tmod_eq_emod_of_nonneg (by omega)]; omega
            have e2 : (LN : Int) % 64 = (r : Int) := by omega
            rw [hr] at HOK
            clear hr
            have wr1 : IntKind.i64.wrap ((b.length : Int) - 40) = (b.length : Int) - 40 := by rw [IntKind.wrap_i64]; omega
            have wr2 : IntKind.i64.wrap (r : Int) = (r : Int) := by rw [IntKind.wrap_i64]; omega
            by_cases a2 : b.length - 40 = r
            · have f2 : ((b.length : Int) - 40 == (r : Int)) = true := by rw [beq_iff_eq]; omega
              have f2' : ((b.length : Int) - 40 != (r : Int)) = false := by simp [bne, f2]
              by_cases a3 : LN < 64
              · have f3 : decide ((LN : Int) < 64) = true := by rw [decide_eq_true_iff]; omega
                have HQE := Lib.hid (fun w' : World => eq_hv w' (d := 9998) Tryd.underlying23 Tryd.underlying22 (by kernel_rfl) LW hbegin)
                by_cases a4 : LW.l = hbegin.l
                · rw [decide_eq_true a4] at HQE
                  have HP := Lib.hid (HOK.out.2 ⟨a1, a2, fun _ => a4⟩)
                  clear a4
                  refine Cop.region_ord (fun w' => Sep B w0 w' (.row g (stv true LW ((0 : Nat) : Int) (.slice none 0 0)) 50 :: .own (.slice none 0 0) 5 1 ([] : List UInt8).length (bl []) :: R)) 22 (.take 0 (.take 1 (.take 2 (.take 3 (.take 4 (.take 5 (.take 6 (.take 7 (.take 8 (.take 9 (.take 10 (.take 11 (.take 12 (.take 13 (.take 14 (.take 15 (.take 16 (.take 17 (.take 18 (.run 19 (.take 20 (.take 21 (.take 22 Cop.Ord.fin))))))))))))))))))))))) (by kernel_rfl) (by kernel_rfl) (fun _ _ d _ _ h => by cases d <;> exact h) ?_
                  intro wa hda
                  have HSa := HSi.keep hda
                  clear HSi
                  (repeat (first | (refine Cop.og_skip rfl rfl HSa _ (by (simp only [Act.put, List.setIfInBounds_toArray, List.set_cons_succ, List.set_cons_zero]; rfl)) ?_) | (refine Cop.og_ld rfl rfl HSa 23 _ rfl (.pointer (some ⟨g, 1, none⟩)) rfl _ (fun w9 h9 => load_mid (h9.row 0 rfl) 1 (hv LW) (stv_h true LW _ _) 23 Tryd.underlying23 rfl info_h8) _ (by (simp only [Act.put, List.setIfInBounds_toArray, List.set_cons_succ, List.set_cons_zero]; rfl)) ?_) | (refine Cop.og_take rfl rfl HSa ?_; apply Exists.intro; refine ⟨fun w9 h9 => ?_, _, by (simp only [Act.put, List.setIfInBounds_toArray, List.set_cons_succ, List.set_cons_zero]; rfl), ?_⟩; (have qq := HQE.out w9; go_simp; with_reducible rfl))))
                  refine Cop.og_run rfl rfl ?_
                  refine ow_call 14 _ _ (fun w' => Below wa.heap.size wa w') (by go_simp) (begin_a wa) ?_
                  intro wb0 bb
                  have HSb0 := HSa.keep bb
                  refine ⟨fun _ => HSb0, ?_⟩
                  (repeat (first | (refine Cop.og_skip rfl rfl HSb0 _ (by (simp only [Act.put, List.setIfInBounds_toArray, List.set_cons_succ, List.set_cons_zero]; rfl)) ?_) | (refine Cop.og_ld rfl rfl HSb0 23 _ rfl (.pointer (some ⟨g, 1, none⟩)) rfl _ (fun w9 h9 => load_mid (h9.row 0 rfl) 1 (hv LW) (stv_h true LW _ _) 23 Tryd.underlying23 rfl info_h8) _ (by (simp only [Act.put, List.setIfInBounds_toArray, List.set_cons_succ, List.set_cons_zero]; rfl)) ?_) | (refine Cop.og_take rfl rfl HSb0 ?_; apply Exists.intro; refine ⟨fun w9 h9 => ?_, _, by (simp only [Act.put, List.setIfInBounds_toArray, List.set_cons_succ, List.set_cons_zero]; rfl), ?_⟩; (have qq := HQE.out w9; go_simp; with_reducible rfl))))
                  refine og_fin ?_
                  have hLNi : (LN : Int) < 9223372036854775808 := by omega
                  go_wp2_with (first | refine wl_stc HSb0 0 rfl rfl 3 _ _ rfl (by kernel_rfl) 9 (by (show 9 < 11); decide) rfl rfl rfl rfl ?_)
                  intro wb HSb
                  rw [show ∀ z y, (stv true LW z (.slice none 0 0)).setIfInBounds 9 (.int .i64 y) = stv true LW y (.slice none 0 0) from fun _ _ => rfl] at HSb
                  obtain ⟨A6, c6, hc6, hm6, HR6, hb6, hs7⟩ := rd_from (HSb.rd (i + 2) HI.out) Tryd.underlying30 info_u8' 40 h40
                  have HSc := HSb.part (i + 2) HI.out HR6 hb6
                  clear HSb HR6 hb6
                  rw [HRS.out] at hs7 HSc hc6
                  have hs8 : ∀ W kk, (Instr.sliceAt 30 (.slice (some ⟨gb, o, none⟩) b.length c) (some (.int kk 40)) none none).run Tryd.prog W = .ok (.slice A6 RS.length c6) W := hs7
                  have q := hs8 wb .i64
                  clear hs7
                  go_wp2_with fail
                  refine (CC.out _ _ (HSc.rd 0 rfl)).mono ?_
                  rintro e w3 ⟨x, rfl, b3, o3⟩
                  have HSd := HSc.made b3 o3
                  obtain ⟨A7, c7, rfl, _⟩ := (HSd.own 0 rfl).sl
                  clear HSc o3
                  go_wp2_with (first | refine wl_stc HSd 2 rfl rfl 30 _ _ rfl (by kernel_rfl) 10 (by (show 10 < 11); decide) rfl rfl rfl rfl ?_)
                  intro wd HSe
                  rw [show ∀ y, (stv true LW (LN : Int) (.slice none 0 0)).setIfInBounds 10 y = stv true LW (LN : Int) y from fun _ => rfl] at HSe
                  go_wp2
                  go_ret2
                  exact ⟨_, _, rfl, .inl ⟨HP.out, rfl, g, _, rfl, (HSe.front 2).sub (List.Sublist.cons_cons _ (List.Sublist.cons_cons _ (List.Sublist.cons _ (List.Sublist.cons _ (List.Sublist.refl _)))))⟩⟩
                · rw [decide_eq_false a4] at HQE
                  have HP := Lib.hid (fun h => a4 ((HOK.out.1 h).2.2 a3))
                  clear a4
                  refine Cop.region_ord (fun w' => Sep B w0 w' (.row g (stv true LW ((0 : Nat) : Int) (.slice none 0 0)) 50 :: .own (.slice none 0 0) 5 1 ([] : List UInt8).length (bl []) :: R)) 22 (.take 0 (.take 1 (.take 2 (.take 3 (.take 4 (.take 5 (.take 6 (.take 7 (.take 8 (.take 9 (.take 10 (.take 11 (.take 12 (.take 13 (.take 14 (.take 15 (.take 16 (.take 17 (.take 18 (.run 19 (.take 20 (.take 21 (.take 22 Cop.Ord.fin))))))))))))))))))))))) (by kernel_rfl) (by kernel_rfl) (fun _ _ d _ _ h => by cases d <;> exact h) ?_
                  intro wa hda
                  have HSa := HSi.keep hda
                  clear HSi
                  (repeat (first | (refine Cop.og_skip rfl rfl HSa _ (by (simp only [Act.put, List.setIfInBounds_toArray, List.set_cons_succ, List.set_cons_zero]; rfl)) ?_) | (refine Cop.og_ld rfl rfl HSa 23 _ rfl (.pointer (some ⟨g, 1, none⟩)) rfl _ (fun w9 h9 => load_mid (h9.row 0 rfl) 1 (hv LW) (stv_h true LW _ _) 23 Tryd.underlying23 rfl info_h8) _ (by (simp only [Act.put, List.setIfInBounds_toArray, List.set_cons_succ, List.set_cons_zero]; rfl)) ?_) | (refine Cop.og_take rfl rfl HSa ?_; apply Exists.intro; refine ⟨fun w9 h9 => ?_, _, by (simp only [Act.put, List.setIfInBounds_toArray, List.set_cons_succ, List.set_cons_zero]; rfl), ?_⟩; (have qq := HQE.out w9; go_simp; with_reducible rfl))))
                  refine Cop.og_run rfl rfl ?_
                  refine ow_call 14 _ _ (fun w' => Below wa.heap.size wa w') (by go_simp) (begin_a wa) ?_
                  intro wb0 bb
                  have HSb0 := HSa.keep bb
                  refine ⟨fun _ => HSb0, ?_⟩
                  (repeat (first | (refine Cop.og_skip rfl rfl HSb0 _ (by (simp only [Act.put, List.setIfInBounds_toArray, List.set_cons_succ, List.set_cons_zero]; rfl)) ?_) | (refine Cop.og_ld rfl rfl HSb0 23 _ rfl (.pointer (some ⟨g, 1, none⟩)) rfl _ (fun w9 h9 => load_mid (h9.row 0 rfl) 1 (hv LW) (stv_h true LW _ _) 23 Tryd.underlying23 rfl info_h8) _ (by (simp only [Act.put, List.setIfInBounds_toArray, List.set_cons_succ, List.set_cons_zero]; rfl)) ?_) | (refine Cop.og_take rfl rfl HSb0 ?_; apply Exists.intro; refine ⟨fun w9 h9 => ?_, _, by (simp only [Act.put, List.setIfInBounds_toArray, List.set_cons_succ, List.set_cons_zero]; rfl), ?_⟩; (have qq := HQE.out w9; go_simp; with_reducible rfl))))
                  refine og_fin ?_
                  go_wp2
                  go_ret2
                  exact ⟨_, _, rfl, .inr ⟨HP.out, rfl, rfl, (HSb0.tail).tail⟩⟩
              · have f3 : decide ((LN : Int) < 64) = false := by rw [decide_eq_false_iff_not]; omega
                have HP := Lib.hid (HOK.out.2 ⟨a1, a2, fun h => absurd h a3⟩)
                refine Cop.region_ord (fun w' => Sep B w0 w' (.row g (stv true LW ((0 : Nat) : Int) (.slice none 0 0)) 50 :: .own (.slice none 0 0) 5 1 ([] : List UInt8).length (bl []) :: R)) 22 (.take 0 (.take 1 (.take 2 (.take 3 (.take 4 (.take 5 (.take 6 (.take 7 (.take 8 (.take 9 (.take 10 (.take 11 (.take 12 (.take 13 (.take 14 (.take 15 (.take 16 (.take 17 (.take 18 (.run 19 (.take 20 (.take 21 (.take 22 Cop.Ord.fin))))))))))))))))))))))) (by kernel_rfl) (by kernel_rfl) (fun _ _ d _ _ h => by cases d <;> exact h) ?_
                intro wa hda
                have HSa := HSi.keep hda
                clear HSi
                (repeat (first | (refine Cop.og_skip rfl rfl HSa _ (by (simp only [Act.put, List.setIfInBounds_toArray, List.set_cons_succ, List.set_cons_zero]; rfl)) ?_) | (refine Cop.og_take rfl rfl HSa ?_; apply Exists.intro; refine ⟨fun w9 h9 => ?_, _, by (simp only [Act.put, List.setIfInBounds_toArray, List.set_cons_succ, List.set_cons_zero]; rfl), ?_⟩; (go_simp; with_reducible rfl))))
                refine Cop.og_rskip rfl rfl HSa _ (by (simp only [Act.put, List.setIfInBounds_toArray, List.set_cons_succ, List.set_cons_zero]; rfl)) ?_
                (repeat (first | (refine Cop.og_skip rfl rfl HSa _ (by (simp only [Act.put, List.setIfInBounds_toArray, List.set_cons_succ, List.set_cons_zero]; rfl)) ?_) | (refine Cop.og_take rfl rfl HSa ?_; apply Exists.intro; refine ⟨fun w9 h9 => ?_, _, by (simp only [Act.put, List.setIfInBounds_toArray, List.set_cons_succ, List.set_cons_zero]; rfl), ?_⟩; (go_simp; with_reducible rfl))))
                refine og_fin ?_
                have hLNi : (LN : Int) < 9223372036854775808 := by omega
                go_wp2_with (first | refine wl_stc HSa 0 rfl rfl 3 _ _ rfl (by kernel_rfl) 9 (by (show 9 < 11); decide) rfl rfl rfl rfl ?_)
                intro wb HSb
                rw [show ∀ z y, (stv true LW z (.slice none 0 0)).setIfInBounds 9 (.int .i64 y) = stv true LW y (.slice none 0 0) from fun _ _ => rfl] at HSb
                obtain ⟨A6, c6, hc6, hm6, HR6, hb6, hs7⟩ := rd_from (HSb.rd (i + 2) HI.out) Tryd.underlying30 info_u8' 40 h40
                have HSc := HSb.part (i + 2) HI.out HR6 hb6
                clear HSb HR6 hb6
                rw [HRS.out] at hs7 HSc hc6
                have hs8 : ∀ W kk, (Instr.sliceAt 30 (.slice (some ⟨gb, o, none⟩) b.length c) (some (.int kk 40)) none none).run Tryd.prog W = .ok (.slice A6 RS.length c6) W := hs7
                have q := hs8 wb .i64
                clear hs7
                go_wp2_with fail
                refine (CC.out _ _ (HSc.rd 0 rfl)).mono ?_
                rintro e w3 ⟨x, rfl, b3, o3⟩
                have HSd := HSc.made b3 o3
                obtain ⟨A7, c7, rfl, _⟩ := (HSd.own 0 rfl).sl
                clear HSc o3
                go_wp2_with (first | refine wl_stc HSd 2 rfl rfl 30 _ _ rfl (by kernel_rfl) 10 (by (show 10 < 11); decide) rfl rfl rfl rfl ?_)
                intro wd HSe
                rw [show ∀ y, (stv true LW (LN : Int) (.slice none 0 0)).setIfInBounds 10 y = stv true LW (LN : Int) y from fun _ => rfl] at HSe
                go_wp2
                go_ret2
                exact ⟨_, _, rfl, .inl ⟨HP.out, rfl, g, _, rfl, (HSe.front 2).sub (List.Sublist.cons_cons _ (List.Sublist.cons_cons _ (List.Sublist.cons _ (List.Sublist.cons _ (List.Sublist.refl _)))))⟩⟩
            · have f2 : ((b.length : Int) - 40 == (r : Int)) = false := by rw [beq_eq_false_iff_ne]; omega
              have f2' : ((b.length : Int) - 40 != (r : Int)) = true := by simp [bne, f2]
              have HP := Lib.hid (fun h => a2 (HOK.out.1 h).2.1)
              refine Cop.region_ord (fun w' => Sep B w0 w' (.row g (stv true LW ((0 : Nat) : Int) (.slice none 0 0)) 50 :: .own (.slice none 0 0) 5 1 ([] : List UInt8).length (bl []) :: R)) 22 (.take 0 (.take 1 (.take 2 (.take 3 (.take 4 (.take 5 (.take 6 (.take 7 (.take 8 (.take 9 (.take 10 (.take 11 (.take 12 (.take 13 (.take 14 (.take 15 (.take 16 (.take 17 (.take 18 (.run 19 (.take 20 (.take 21 (.take 22 Cop.Ord.fin))))))))))))))))))))))) (by kernel_rfl) (by kernel_rfl) (fun _ _ d _ _ h => by cases d <;> exact h) ?_
              intro wa hda
              have HSa := HSi.keep hda
              clear HSi
              (repeat (first | (refine Cop.og_skip rfl rfl HSa _ (by (simp only [Act.put, List.setIfInBounds_toArray, List.set_cons_succ, List.set_cons_zero]; rfl)) ?_) | (refine Cop.og_take rfl rfl HSa ?_; apply Exists.intro; refine ⟨fun w9 h9 => ?_, _, by (simp only [Act.put, List.setIfInBounds_toArray, List.set_cons_succ, List.set_cons_zero]; rfl), ?_⟩; (go_simp; with_reducible rfl))))
              refine Cop.og_rskip rfl rfl HSa _ (by (simp only [Act.put, List.setIfInBounds_toArray, List.set_cons_succ, List.set_cons_zero]; rfl)) ?_
              (repeat (first | (refine Cop.og_skip rfl rfl HSa _ (by (simp only [Act.put, List.setIfInBounds_toArray, List.set_cons_succ, List.set_cons_zero]; rfl)) ?_) | (refine Cop.og_take rfl rfl HSa ?_; apply Exists.intro; refine ⟨fun w9 h9 => ?_, _, by (simp only [Act.put, List.setIfInBounds_toArray, List.set_cons_succ, List.set_cons_zero]; rfl), ?_⟩; (go_simp; with_reducible rfl))))
              refine og_fin ?_
              go_wp2
              go_ret2
              exact ⟨_, _, rfl, .inr ⟨HP.out, rfl, rfl, (HSa.tail).tail⟩⟩
          · have f1' : decide ((2305843009213693951 : Int) < (LN : Int)) = true := by rw [decide_eq_true_iff]; omega
            have HP := Lib.hid (fun h => a1 (HOK.out.1 h).1)
            refine Cop.region_ord (fun w' => Sep B w0 w' (.row g (stv true LW ((0 : Nat) : Int) (.slice none 0 0)) 50 :: .own (.slice none 0 0) 5 1 ([] : List UInt8).length (bl []) :: R)) 22 (.take 0 (.take 1 (.take 2 (.take 3 (.take 4 (.take 5 (.take 6 (.take 7 (.take 8 (.take 9 (.take 10 (.take 11 (.take 12 (.take 13 (.take 14 (.take 15 (.take 16 (.take 17 (.take 18 (.run 19 (.take 20 (.take 21 (.take 22 Cop.Ord.fin))))))))))))))))))))))) (by kernel_rfl) (by kernel_rfl) (fun _ _ d _ _ h => by cases d <;> exact h) ?_
            intro wa hda
            have HSa := HSi.keep hda
            clear HSi
            (repeat (first | (refine Cop.og_skip rfl rfl HSa _ (by (simp only [Act.put, List.setIfInBounds_toArray, List.set_cons_succ, List.set_cons_zero]; rfl)) ?_) | (refine Cop.og_take rfl rfl HSa ?_; apply Exists.intro; refine ⟨fun w9 h9 => ?_, _, by (simp only [Act.put, List.setIfInBounds_toArray, List.set_cons_succ, List.set_cons_zero]; rfl), ?_⟩; (go_simp; with_reducible rfl))))
            refine Cop.og_rskip rfl rfl HSa _ (by (simp only [Act.put, List.setIfInBounds_toArray, List.set_cons_succ, List.set_cons_zero]; rfl)) ?_
            (repeat (first | (refine Cop.og_skip rfl rfl HSa _ (by (simp only [Act.put, List.setIfInBounds_toArray, List.set_cons_succ, List.set_cons_zero]; rfl)) ?_) | (refine Cop.og_take rfl rfl HSa ?_; apply Exists.intro; refine ⟨fun w9 h9 => ?_, _, by (simp only [Act.put, List.setIfInBounds_toArray, List.set_cons_succ, List.set_cons_zero]; rfl), ?_⟩; (go_simp; with_reducible rfl))))
            refine og_fin ?_
            go_wp2
            go_ret2
            exact ⟨_, _, rfl, .inr ⟨HP.out, rfl, rfl, (HSa.tail).tail⟩⟩
end Go.Proofs.YtepcjdifjjombaaDoor
