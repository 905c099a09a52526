/- The reference's Load. -/
import Derived.Test.YtepcjdifjjombaaDoorLo
import Derived.Laws.Tables
namespace Go.Proofs.YtepcjdifjjombaaDoor
open Go.RowKit Cop
set_option linter.unusedVariables false
set_option linter.unusedSimpArgs false
section
variable {P : Program} {w : World} {o : Oper} {a : Act}
theorem wl_bd9 {ops : Array Oper} {rest : List Oper} {Q : Exit → Act → World → Prop} (hgd : o.guard = none) (t : TypeId) (parts : Array (Nat × Operand)) (hop : o.op = .build t parts) (vs : Array (Nat × Value)) (hvs : (parts.map fun (i, x) => (i, a.eval x)) = vs) (v : Value) (hr : (Instr.build t vs).run P w = .ok v w)
    (h : wpList P ops Q rest (a.put o.dst v) w) : wpList P ops Q (o :: rest) a w := by
  refine wl_val hgd v ?_ h
  simp only [execOp, hop, hvs, Sem.run_bind, hr, Result.andThen_ok, Sem.run_pure]
end
section
variable {P : Program} {w0 w : World} {B : Nat} {R : List Pc} {o : Oper} {a : Act}
/-- An empty slice literal. -/
theorem ow_bz {K : Act → World → Prop} {Q : Exit → Act → World → Prop} (HS : Sep B w0 w R) (t e : TypeId) (size : Nat) (ho : o.op = .buildSlice t 0 #[]) (hu : P.underlying t = some (.slice e)) (hie : (P.info? e).map (·.size) = some size)
    (h : ∀ g w1, Sep B w0 w1 (.own (.slice (some ⟨g, 0, none⟩) 0 0) e size 0 [] :: R) → K (a.put o.dst (.slice (some ⟨g, 0, none⟩) 0 0)) w1) : o.wp P a w K Q := by
  obtain ⟨ie, hi, rfl⟩ := Option.map_eq_some_iff.1 hie
  have hr : (Instr.buildSlice t 0 #[]).run P w = .ok (.slice (some ⟨w.heap.size, 0, none⟩) 0 0) (w.alloc (.cells #[] e)) := by
    simp [Instr.buildSlice, run_underlying hu, sizeOf, typeInfo, hi, newRow, Instr.fill, show Array.range 0 = #[] from rfl]
  unfold Oper.wp execOp
  simp only [ho, Sem.run_bind, List.map_toArray, List.map_nil, hr, Result.andThen_ok]
  exact h _ _ (HS.built #[] e 0 ie.size (by simp) (by decide))
theorem wl_bz {ops : Array Oper} {rest : List Oper} {Q : Exit → Act → World → Prop} (HS : Sep B w0 w R) (hgd : o.guard = none) (t e : TypeId) (size : Nat) (ho : o.op = .buildSlice t 0 #[]) (hu : P.underlying t = some (.slice e)) (hie : (P.info? e).map (·.size) = some size)
    (h : ∀ g w1, Sep B w0 w1 (.own (.slice (some ⟨g, 0, none⟩) 0 0) e size 0 [] :: R) → wpList P ops Q rest (a.put o.dst (.slice (some ⟨g, 0, none⟩) 0 0)) w1) : wpList P ops Q (o :: rest) a w :=
  wpList_plain hgd fun _ hK => ow_bz HS t e size ho hu hie fun g w1 h2 => hK _ _ (h g w1 h2)
end
/-- The cells of the reference's state. -/
def rsv (h : H8) (n : Int) (r : Value) : Array Value := #[.int .u32 h.a.toNat, .int .u32 h.b.toNat, .int .u32 h.c.toNat, .int .u32 h.d.toNat, .int .u32 h.e.toNat, .int .u32 h.f.toNat, .int .u32 h.g.toNat, .int .u32 h.h.toNat, .int .i64 n, r]
def hzero : H8 := ⟨0, 0, 0, 0, 0, 0, 0, 0⟩
theorem rsv_put (h : H8) (n : Int) (v : Value) (w : UInt32) : ∀ k, k < 8 → (rsv h n v).setIfInBounds k (.int .u32 (w.toNat : Int)) = rsv (h.put k w) n v
  | 0, _ => rfl
  | 1, _ => rfl
  | 2, _ => rfl
  | 3, _ => rfl
  | 4, _ => rfl
  | 5, _ => rfl
  | 6, _ => rfl
  | 7, _ => rfl
  | k + 8, h => by omega
theorem rsv_h (h : H8) (n : Int) (v : Value) (j : Nat) (hj : j < (hv h).size) : (rsv h n v)[0 + j]? = (hv h)[j]? := by
  match j, hj with
  | 0, _ | 1, _ | 2, _ | 3, _ | 4, _ | 5, _ | 6, _ | 7, _ => rfl
  | j + 8, hj => exact absurd hj (by show ¬ j + 8 < 8; omega)
theorem rsv_b0 : Tryd.prog.built 62 [] = some (rsv hzero 0 (.slice none 0 0)) := by kernel_rfl
theorem rsv_b1 (n : Int) (A : Option Addr) (k c : Nat) : Tryd.prog.built 62 [(1, .int .i64 n), (2, .slice A k c)] = some (rsv hzero n (.slice A k c)) := by kernel_rfl
theorem rsv_info (h : H8) (n : Int) (v : Value) : (Tryd.prog.info? 62).map (·.size) = some (rsv h n v).size := by kernel_rfl
theorem rsv_one (h : H8) (n : Int) (A : Option Addr) (k c : Nat) : (rsv h n (.slice A k c)).all (·.oneCell') = true := by
  simp only [rsv, List.all_toArray]
  rfl
theorem word_num4 (b : List UInt8) (k : Nat) (h : 4 * k + 4 ≤ b.length) : ((num ((b.drop (4 * k)).take 4) : Nat) : Int) % 4294967296 = ((word b k).toNat : Int) := by
  have e : (b.drop (4 * k)).take 4 = [(b.drop (4 * k)).getD 0 0, (b.drop (4 * k)).getD 1 0, (b.drop (4 * k)).getD 2 0, (b.drop (4 * k)).getD 3 0] := by
    have hl : 4 ≤ (b.drop (4 * k)).length := by simp; omega
    match hd : b.drop (4 * k), hl with
    | x0 :: x1 :: x2 :: x3 :: t, _ => rfl
  rw [e, ← word_num, ← word_at9]
  have := u32_lt (word b k)
  omega
set_option maxRecDepth 100000 in
set_option maxHeartbeats 8000000 in
theorem rload_short {B : Nat} {w0 w : World} {R : List Pc} (b : List UInt8) (v : Value) (i : Nat) (hi : R[i]? = some (.rd v b.length 1 (bl b))) (HS : Sep B w0 w R) (h : b.length < 40) :
    Calls Tryd.prog 38 #[v] w fun e w' => e = .returned (.tuple #[.agg (rsv hzero 0 (.slice none 0 0)), .int .i64 20]) ∧ Sep B w0 w' R := by
  obtain ⟨A, c, rfl, hc, hm⟩ := (HS.rd i hi).shape
  have h1 : (b.length : Int) < 40 := by omega
  go_enter Tryd.func38, Tryd.ntmps38
  go_wp2_with (first | refine wl_al HS rfl 62 rfl (rsv hzero 0 (.slice none 0 0)) (by kernel_rfl) ?_)
  intro g w1 HS1
  go_wp2_with (first | refine wl_bd9 rfl 62 #[] rfl #[] rfl (.agg (rsv hzero 0 (.slice none 0 0))) (run_build _ _ _ _ rsv_b0) ?_ | refine wl_st HS1 0 rfl rfl 62 _ _ rfl rfl (cs := rsv hzero 0 (.slice none 0 0)) rfl (rsv_info _ _ _) rfl (rsv_one _ _ _ _ _) ?_)
  intro w2 HS2
  go_wp2
  exact ret_row_tmp rfl rfl g rfl 62 (rsv hzero 0 (.slice none 0 0)) (0, 0) _ (HS2.row 0 rfl) Tryd.underlying62 rfl (rsv_info _ _ _) (.int .i64 20) rfl ⟨rfl, HS2.tail⟩
set_option maxRecDepth 100000 in
set_option maxHeartbeats 8000000 in
theorem rload_a {B : Nat} {w0 w : World} {R : List Pc} (b : List UInt8) (v : Value) (i : Nat) (hi : R[i]? = some (.rd v b.length 1 (bl b))) (HS : Sep B w0 w R) (h40 : 40 ≤ b.length) (hbl : b.length ≤ 140737488355000) :
    Calls Tryd.prog 38 #[v] w fun e w' =>
      (lok b ∧ ∃ v', e = .returned (.tuple #[.agg (rsv (lwd b) (lnum b : Int) v'), .int .i64 0]) ∧ Sep B w0 w' (.own v' 5 1 (b.drop 40).length (bl (b.drop 40)) :: R)) ∨
      (¬ lok b ∧ e = .returned (.tuple #[.agg (rsv hzero 0 (.slice none 0 0)), .int .i64 20]) ∧ Sep B w0 w' R) := by
  have HI := Lib.hid hi
  have CR32 := Lib.hid (fun (w' : World) (hR : Rd w' v b.length 1 (bl b)) => (show Calls Tryd.prog 45 #[v, .int .i64 32, .int .i64 8] w' fun e w2 => e = .returned (.tuple #[.int .u64 (lnum b : Int), .int .i64 40, .int .i64 0]) ∧ w' = w2 from read_b w' v b 32 8 hR (by decide) (by omega)))
  have CR4 := Lib.hid (fun (k : Nat) (hk : k < 8) (w' : World) (hR : Rd w' v b.length 1 (bl b)) => (show Calls Tryd.prog 45 #[v, .int .i64 (4 * (k : Int)), .int .i64 4] w' fun e w2 => ∃ y, e = .returned (.tuple #[.int .u64 (num ((b.drop (4 * k)).take 4) : Int), .int .i64 y, .int .i64 0]) ∧ w' = w2 by
    have h := read_b w' v b (4 * k) 4 hR (by decide) (by omega)
    rw [show ((4 * k : Nat) : Int) = 4 * (k : Int) from by omega] at h
    exact h.mono fun e w2 ⟨h1, h2⟩ => ⟨_, h1, h2⟩))
  have HWN := Lib.hid (fun (k : Nat) (hk : k < 8) => word_num4 b k (by omega))
  obtain ⟨A, c, rfl, hc, hm⟩ := (HS.rd i hi).shape
  obtain ⟨gb, o, rfl⟩ : ∃ gb o, A = some ⟨gb, o, none⟩ := by
    obtain ⟨gb, o, h, _⟩ := rd_at (HS.rd i hi) 0 (by omega)
    exact ⟨gb, o, h⟩
  have h1 : ¬ (b.length : Int) < 40 := by omega
  have HW := Lib.hid (fun k => show (wput hzero b k).put k (word b k) = wput hzero b (k + 1) from rfl)
  have HW0 := Lib.hid (show hzero = wput hzero b 0 from rfl)
  have HW8 := Lib.hid (wput8 hzero b)
  have HOK := Lib.hid (show lok b ↔ (lnum b ≤ 2305843009213693951 ∧ b.length - 40 = lnum b % 64 ∧ (lnum b < 64 → (lwd b).l = hbegin.l)) from Iff.rfl)
  obtain ⟨OK, hOK⟩ : ∃ p, lok b = p := ⟨_, rfl⟩
  rw [hOK] at HOK ⊢
  obtain ⟨LW, hLW⟩ : ∃ p, lwd b = p := ⟨_, rfl⟩
  rw [hLW] at HOK HW8 ⊢
  obtain ⟨LN, hLN⟩ : ∃ p, lnum b = p := ⟨_, rfl⟩
  rw [hLN] at HOK CR32 ⊢
  obtain ⟨RS, hRS⟩ : ∃ l, b.drop 40 = l := ⟨_, rfl⟩
  have HRS := Lib.hid hRS
  have HRL := Lib.hid (show RS.length ≤ 140737488355000 by rw [← hRS, List.length_drop]; omega)
  rw [hRS] at ⊢
  clear hOK hLW hLN hi hRS
  generalize wput hzero b = W at *
  generalize word b = WD at *
  go_enter Tryd.func38, Tryd.ntmps38
  go_wp2_with (first | refine wl_al HS rfl 62 rfl (rsv hzero 0 (.slice none 0 0)) (by kernel_rfl) ?_)
  intro g w1 HS1
  clear HS
  go_wp2_with fail
  have hrd := HS1.rd (i + 1) HI.out
  (with_reducible refine Calls.mono (CR32.out w1 hrd) ?_)
  rintro e w2 ⟨rfl, rfl⟩
  by_cases a1 : LN ≤ 2305843009213693951
  · have f1 : (LN : Int) ≤ 2305843009213693951 := by omega
    have f1' : decide ((2305843009213693951 : Int) < (LN : Int)) = false := by rw [decide_eq_false_iff_not]; omega
    obtain ⟨r, hr⟩ : ∃ r, LN % 64 = r := ⟨_, rfl⟩
    have hr64 : (r : Int) < 64 := by omega
    have e1 : Int.tmod (LN : Int) 64 = (r : Int) := by rw [Int.tmod_eq_emod_of_nonneg (by omega)]; omega
    have e2 : (LN : Int) % 64 = (r : Int) := by omega
    rw [hr] at HOK
    clear hr
    by_cases a2 : b.length - 40 = r
    · have f2 : ((b.length : Int) - 40 == (r : Int)) = true := by rw [beq_iff_eq]; omega
      have f2' : ((b.length : Int) - 40 != (r : Int)) = false := by simp [bne, f2]
      obtain ⟨A6, c6, hc6, hm6, HR6, hb6, hs7⟩ := rd_from (HS1.rd (i + 1) HI.out) Tryd.underlying30 info_u8' 40 h40
      have HSp := HS1.part (i + 1) HI.out HR6 hb6
      clear HS1 HR6 hb6
      rw [HRS.out] at hs7 HSp hc6
      have hs8 : ∀ W kk, (Instr.sliceAt 30 (.slice (some ⟨gb, o, none⟩) b.length c) (some (.int kk 40)) none none).run Tryd.prog W = .ok (.slice A6 RS.length c6) W := hs7
      clear hs7
      have HA2 := Lib.hid a2
      clear a2
      go_wp2_with (first | refine wl_bz HSp rfl 30 5 1 rfl Tryd.underlying30 (by kernel_rfl) ?_)
      intro gz w3 HS3
      have q := hs8 w3 .i64
      go_wp2_with (first | refine wl_apb (xs := []) HS3 0 rfl rfl rfl (HS3.rd 1 rfl) rfl rfl RS.length RS (by omega) rfl (by have := HRL.out; omega) ?_)
      intro v4 w4 HS4 _
      obtain ⟨A1, c1, rfl, _⟩ := (HS4.own 0 rfl).sl
      clear HS3 HSp
      go_wp2_with (first | refine wl_al HS4 rfl 62 rfl (rsv hzero 0 (.slice none 0 0)) (by kernel_rfl) ?_)
      intro g2 w5 HS5
      go_wp2_with (first | refine wl_st HS5 0 rfl rfl 62 _ _ rfl rfl (cs := rsv hzero (LN : Int) (.slice A1 RS.length c1)) rfl (rsv_info _ _ _) rfl (rsv_one _ _ _ _ _) ?_)
      intro w6 HS6
      have HS7 : Sep B w0 w6 (.row g2 (rsv (W 0) (LN : Int) (.slice A1 RS.length c1)) 62 :: .row g (rsv hzero 0 (.slice none 0 0)) 62 :: .own (.slice A1 RS.length c1) 5 1 RS.length (bl RS) :: R) := by
        rw [← HW0.out]
        exact ((HS6.front 3).front 1).sub (List.Sublist.cons_cons _ (List.Sublist.cons_cons _ (List.Sublist.cons_cons _ (List.Sublist.cons _ (List.Sublist.refl _)))))
      clear HS4 HS5 HS6
      go_wp2
      go_loopw [8] (fun s8 wr => ∃ k : Nat, k ≤ 8 ∧ s8 = .int .i64 (k : Int) ∧ Sep B w0 wr (.row g2 (rsv (W k) (LN : Int) (.slice A1 RS.length c1)) 62 :: .row g (rsv hzero 0 (.slice none 0 0)) 62 :: .own (.slice A1 RS.length c1) 5 1 RS.length (bl RS) :: R)) (fun s8 _ => 8 - (intOf s8).toNat)
      case atStart => exact ⟨0, by omega, rfl, HS7⟩
      case round =>
        clear HS7
        obtain ⟨k, hk, rfl, HSi⟩ := hrel
        by_cases hlt : k < 8
        · have hlti : (k : Int) < 8 := by omega
          have hw := HWN.out k hlt
          have CK := Lib.hid (CR4.out k hlt)
          generalize num ((b.drop (4 * k)).take 4) = X at *
          have HWX := Lib.hid hw
          clear hw
          have HST := Lib.hid (fun h n v w => rsv_put h n v w k hlt)
          go_wp2_with fail
          have hrd := HSi.rd (i + 3) HI.out
          (with_reducible refine Calls.mono (CK.out wr hrd) ?_)
          rintro e w7 ⟨y, rfl, rfl⟩
          go_wp2_with (first | refine wl_stc HSi 0 rfl rfl 22 _ _ rfl (by kernel_rfl) k (by show k < 10; omega) rfl (congrArg (Value.int .u32) HWX.out) rfl rfl ?_)
          intro w8 HS8
          rw [HST.out, HW.out k] at HS8
          go_wp2
          go_roundw
          case rel => exact ⟨k + 1, by omega, by go_num, HS8⟩
          case measure => simp [intOf]; omega
        · have hk8 : k = 8 := by omega
          subst hk8
          rw [HW8.out] at HSi
          clear hlt hk
          go_wp2
          by_cases a3 : LN < 64
          · have f3 : decide ((LN : Int) < 64) = true := by rw [decide_eq_true_iff]; omega
            have HQE := Lib.hid (fun w' : World => eq_hv w' (d := 9998) Tryd.underlying23 Tryd.underlying22 (by kernel_rfl) LW hbegin)
            by_cases a4 : LW.l = hbegin.l
            · rw [decide_eq_true a4] at HQE
              have HP := Lib.hid (HOK.out.2 ⟨a1, HA2.out, fun _ => a4⟩)
              clear a4
              refine Cop.region_ord (fun w' => Sep B w0 w' (.row g2 (rsv LW (LN : Int) (.slice A1 RS.length c1)) 62 :: .row g (rsv hzero 0 (.slice none 0 0)) 62 :: .own (.slice A1 RS.length c1) 5 1 RS.length (bl RS) :: R)) 7 (.take 0 (.take 1 (.take 2 (.take 3 (.take 4 (.run 5 (.take 6 (.take 7 Cop.Ord.fin)))))))) (by kernel_rfl) (by kernel_rfl) (fun _ _ d _ _ h => by cases d <;> exact h) ?_
              intro wa hda
              have HSa := HSi.keep hda
              clear HSi
              (repeat (first | (refine Cop.og_skip rfl rfl HSa _ (by (simp only [Act.put, List.setIfInBounds_toArray, List.set_cons_succ, List.set_cons_zero]; rfl)) ?_) | (refine Cop.og_ld rfl rfl HSa 23 _ rfl (.pointer (some ⟨g2, 0, none⟩)) rfl _ (fun w9 h9 => load_mid (h9.row 0 rfl) 0 (hv LW) (rsv_h LW _ _) 23 Tryd.underlying23 rfl info_h8) _ (by (simp only [Act.put, List.setIfInBounds_toArray, List.set_cons_succ, List.set_cons_zero]; rfl)) ?_) | (refine Cop.og_take rfl rfl HSa ?_; apply Exists.intro; refine ⟨fun w9 h9 => ?_, _, by (simp only [Act.put, List.setIfInBounds_toArray, List.set_cons_succ, List.set_cons_zero]; rfl), ?_⟩; (have qq := HQE.out w9; go_simp; with_reducible rfl))))
              refine Cop.og_run rfl rfl ?_
              refine ow_call 15 _ _ (fun w' => Below wa.heap.size wa w') (by go_simp) (begin_b wa) ?_
              intro wb0 bb
              have HSb0 := HSa.keep bb
              refine ⟨fun _ => HSb0, ?_⟩
              (repeat (first | (refine Cop.og_skip rfl rfl HSb0 _ (by (simp only [Act.put, List.setIfInBounds_toArray, List.set_cons_succ, List.set_cons_zero]; rfl)) ?_) | (refine Cop.og_ld rfl rfl HSb0 23 _ rfl (.pointer (some ⟨g2, 0, none⟩)) rfl _ (fun w9 h9 => load_mid (h9.row 0 rfl) 0 (hv LW) (rsv_h LW _ _) 23 Tryd.underlying23 rfl info_h8) _ (by (simp only [Act.put, List.setIfInBounds_toArray, List.set_cons_succ, List.set_cons_zero]; rfl)) ?_) | (refine Cop.og_take rfl rfl HSb0 ?_; apply Exists.intro; refine ⟨fun w9 h9 => ?_, _, by (simp only [Act.put, List.setIfInBounds_toArray, List.set_cons_succ, List.set_cons_zero]; rfl), ?_⟩; (have qq := HQE.out w9; go_simp; with_reducible rfl))))
              refine og_fin ?_
              go_wp2_with (first | refine wl_ld HSb0 0 rfl rfl 62 _ rfl rfl Tryd.underlying62 rfl (rsv_info _ _ _) ?_ | refine wl_st HSb0 1 rfl rfl 62 _ _ rfl rfl (cs := rsv LW (LN : Int) (.slice A1 RS.length c1)) rfl (rsv_info _ _ _) rfl (rsv_one _ _ _ _ _) ?_)
              intro w2 HS2
              go_wp2
              exact ret_row_tmp rfl rfl g rfl 62 (rsv LW (LN : Int) (.slice A1 RS.length c1)) (0, 0) _ (HS2.row 1 rfl) Tryd.underlying62 rfl (rsv_info _ _ _) (.int .i64 0) rfl (.inl ⟨HP.out, _, rfl, HS2.tail.tail⟩)
            · rw [decide_eq_false a4] at HQE
              have HP := Lib.hid (fun h => a4 ((HOK.out.1 h).2.2 a3))
              clear a4
              refine Cop.region_ord (fun w' => Sep B w0 w' (.row g2 (rsv LW (LN : Int) (.slice A1 RS.length c1)) 62 :: .row g (rsv hzero 0 (.slice none 0 0)) 62 :: .own (.slice A1 RS.length c1) 5 1 RS.length (bl RS) :: R)) 7 (.take 0 (.take 1 (.take 2 (.take 3 (.take 4 (.run 5 (.take 6 (.take 7 Cop.Ord.fin)))))))) (by kernel_rfl) (by kernel_rfl) (fun _ _ d _ _ h => by cases d <;> exact h) ?_
              intro wa hda
              have HSa := HSi.keep hda
              clear HSi
              (repeat (first | (refine Cop.og_skip rfl rfl HSa _ (by (simp only [Act.put, List.setIfInBounds_toArray, List.set_cons_succ, List.set_cons_zero]; rfl)) ?_) | (refine Cop.og_ld rfl rfl HSa 23 _ rfl (.pointer (some ⟨g2, 0, none⟩)) rfl _ (fun w9 h9 => load_mid (h9.row 0 rfl) 0 (hv LW) (rsv_h LW _ _) 23 Tryd.underlying23 rfl info_h8) _ (by (simp only [Act.put, List.setIfInBounds_toArray, List.set_cons_succ, List.set_cons_zero]; rfl)) ?_) | (refine Cop.og_take rfl rfl HSa ?_; apply Exists.intro; refine ⟨fun w9 h9 => ?_, _, by (simp only [Act.put, List.setIfInBounds_toArray, List.set_cons_succ, List.set_cons_zero]; rfl), ?_⟩; (have qq := HQE.out w9; go_simp; with_reducible rfl))))
              refine Cop.og_run rfl rfl ?_
              refine ow_call 15 _ _ (fun w' => Below wa.heap.size wa w') (by go_simp) (begin_b wa) ?_
              intro wb0 bb
              have HSb0 := HSa.keep bb
              refine ⟨fun _ => HSb0, ?_⟩
              (repeat (first | (refine Cop.og_skip rfl rfl HSb0 _ (by (simp only [Act.put, List.setIfInBounds_toArray, List.set_cons_succ, List.set_cons_zero]; rfl)) ?_) | (refine Cop.og_ld rfl rfl HSb0 23 _ rfl (.pointer (some ⟨g2, 0, none⟩)) rfl _ (fun w9 h9 => load_mid (h9.row 0 rfl) 0 (hv LW) (rsv_h LW _ _) 23 Tryd.underlying23 rfl info_h8) _ (by (simp only [Act.put, List.setIfInBounds_toArray, List.set_cons_succ, List.set_cons_zero]; rfl)) ?_) | (refine Cop.og_take rfl rfl HSb0 ?_; apply Exists.intro; refine ⟨fun w9 h9 => ?_, _, by (simp only [Act.put, List.setIfInBounds_toArray, List.set_cons_succ, List.set_cons_zero]; rfl), ?_⟩; (have qq := HQE.out w9; go_simp; with_reducible rfl))))
              refine og_fin ?_
              go_wp2_with (first | refine wl_st HSb0 1 rfl rfl 62 _ _ rfl rfl (cs := (rsv hzero 0 (.slice none 0 0))) rfl (rsv_info _ _ _) rfl (rsv_one _ _ _ _ _) ?_)
              intro w2 HS2
              go_wp2
              exact ret_row_tmp rfl rfl g rfl 62 (rsv hzero 0 (.slice none 0 0)) (0, 0) _ (HS2.row 1 rfl) Tryd.underlying62 rfl (rsv_info _ _ _) (.int .i64 20) rfl (.inr ⟨HP.out, rfl, HS2.tail.tail.tail⟩)
          · have f3 : decide ((LN : Int) < 64) = false := by rw [decide_eq_false_iff_not]; omega
            have HP := Lib.hid (HOK.out.2 ⟨a1, HA2.out, fun h => absurd h a3⟩)
            refine Cop.region_ord (fun w' => Sep B w0 w' (.row g2 (rsv LW (LN : Int) (.slice A1 RS.length c1)) 62 :: .row g (rsv hzero 0 (.slice none 0 0)) 62 :: .own (.slice A1 RS.length c1) 5 1 RS.length (bl RS) :: R)) 7 (.take 0 (.take 1 (.take 2 (.take 3 (.take 4 (.run 5 (.take 6 (.take 7 Cop.Ord.fin)))))))) (by kernel_rfl) (by kernel_rfl) (fun _ _ d _ _ h => by cases d <;> exact h) ?_
            intro wa hda
            have HSa := HSi.keep hda
            clear HSi
            (repeat (first | (refine Cop.og_skip rfl rfl HSa _ (by (simp only [Act.put, List.setIfInBounds_toArray, List.set_cons_succ, List.set_cons_zero]; rfl)) ?_) | (refine Cop.og_take rfl rfl HSa ?_; apply Exists.intro; refine ⟨fun w9 h9 => ?_, _, by (simp only [Act.put, List.setIfInBounds_toArray, List.set_cons_succ, List.set_cons_zero]; rfl), ?_⟩; (go_simp; with_reducible rfl))))
            refine Cop.og_rskip rfl rfl HSa _ (by (simp only [Act.put, List.setIfInBounds_toArray, List.set_cons_succ, List.set_cons_zero]; rfl)) ?_
            (repeat (first | (refine Cop.og_skip rfl rfl HSa _ (by (simp only [Act.put, List.setIfInBounds_toArray, List.set_cons_succ, List.set_cons_zero]; rfl)) ?_) | (refine Cop.og_take rfl rfl HSa ?_; apply Exists.intro; refine ⟨fun w9 h9 => ?_, _, by (simp only [Act.put, List.setIfInBounds_toArray, List.set_cons_succ, List.set_cons_zero]; rfl), ?_⟩; (go_simp; with_reducible rfl))))
            refine og_fin ?_
            go_wp2_with (first | refine wl_ld HSa 0 rfl rfl 62 _ rfl rfl Tryd.underlying62 rfl (rsv_info _ _ _) ?_ | refine wl_st HSa 1 rfl rfl 62 _ _ rfl rfl (cs := rsv LW (LN : Int) (.slice A1 RS.length c1)) rfl (rsv_info _ _ _) rfl (rsv_one _ _ _ _ _) ?_)
            intro w2 HS2
            go_wp2
            exact ret_row_tmp rfl rfl g rfl 62 (rsv LW (LN : Int) (.slice A1 RS.length c1)) (0, 0) _ (HS2.row 1 rfl) Tryd.underlying62 rfl (rsv_info _ _ _) (.int .i64 0) rfl (.inl ⟨HP.out, _, rfl, HS2.tail.tail⟩)
    · have f2 : ((b.length : Int) - 40 == (r : Int)) = false := by rw [beq_eq_false_iff_ne]; omega
      have f2' : ((b.length : Int) - 40 != (r : Int)) = true := by simp [bne, f2]
      have HP := Lib.hid (fun h => a2 (HOK.out.1 h).2.1)
      go_wp2_with (first | refine wl_st HS1 0 rfl rfl 62 _ _ rfl rfl (cs := (rsv hzero 0 (.slice none 0 0))) rfl (rsv_info _ _ _) rfl (rsv_one _ _ _ _ _) ?_)
      intro w2 HS2
      go_wp2
      exact ret_row_tmp rfl rfl g rfl 62 (rsv hzero 0 (.slice none 0 0)) (0, 0) _ (HS2.row 0 rfl) Tryd.underlying62 rfl (rsv_info _ _ _) (.int .i64 20) rfl (.inr ⟨HP.out, rfl, HS2.tail⟩)
  · have f1' : decide ((2305843009213693951 : Int) < (LN : Int)) = true := by rw [decide_eq_true_iff]; omega
    have HP := Lib.hid (fun h => a1 (HOK.out.1 h).1)
    go_wp2_with (first | refine wl_st HS1 0 rfl rfl 62 _ _ rfl rfl (cs := (rsv hzero 0 (.slice none 0 0))) rfl (rsv_info _ _ _) rfl (rsv_one _ _ _ _ _) ?_)
    intro w2 HS2
    go_wp2
    exact ret_row_tmp rfl rfl g rfl 62 (rsv hzero 0 (.slice none 0 0)) (0, 0) _ (HS2.row 0 rfl) Tryd.underlying62 rfl (rsv_info _ _ _) (.int .i64 20) rfl (.inr ⟨HP.out, rfl, HS2.tail⟩)
end Go.Proofs.YtepcjdifjjombaaDoor
