import Derived.Test.YtlhebogbbkjahaaDoorPd
import Derived.Test.YtlhebogbbkjahaaDoorHi
namespace Go.Proofs.YtlhebogbbkjahaaDoor
open Go.RowKit Cop
set_option linter.unusedVariables false
set_option linter.unusedSimpArgs false
/-- The words behind all whole blocks. -/
def over (s : H8) (l : List UInt8) : H8 := if h : 64 ≤ l.length then over (compress s (l.take 64)) (l.drop 64) else s
termination_by l.length
decreasing_by simp; omega
theorem over_small (s : H8) (l : List UInt8) (h : l.length < 64) : over s l = s := by rw [over, dif_neg (by omega)]
theorem over_more (s : H8) (l : List UInt8) (h : 64 ≤ l.length) : over s l = over (compress s (l.take 64)) (l.drop 64) := by rw [over, dif_pos h]
theorem fill_set (l : List UInt8) (i : Nat) (hi : i < 64) (hl : 64 ≤ l.length) : (l.take i ++ List.replicate (64 - i) 0).set i (l.getD i 0) = l.take (i + 1) ++ List.replicate (64 - (i + 1)) 0 := by
  rw [List.set_append_right _ _ (by simp; omega), List.length_take, Nat.min_eq_left (by omega), Nat.sub_self, show 64 - i = (64 - (i + 1)) + 1 from by omega, List.replicate_succ, List.set_cons_zero, List.take_succ_eq_append_getElem (show i < l.length from by omega), List.append_assoc]
  congr 1
  simp [List.getD, show i < l.length from by omega]
set_option maxRecDepth 100000 in
set_option maxHeartbeats 4000000 in
theorem over_gen (over compress : H8 → List UInt8 → H8) (over_small : ∀ s l, l.length < 64 → over s l = s) (over_more : ∀ (s : H8) (l : List UInt8), 64 ≤ l.length → over s l = over (compress s (l.take 64)) (l.drop 64))
    (compress_b : ∀ (h : H8) (b : List UInt8) (w : World), b.length = 64 → Calls Tryd.prog 98 #[.agg (hv h), .agg (bv b)] w fun e w' => e = .returned (.agg (hv (compress h b))) ∧ Below w.heap.size w w')
    (h : H8) (l : List UInt8) (v : Value) (w : World) (hR : Rd w v l.length 1 (bl l)) :
    Calls Tryd.prog 95 #[.agg (hv h), v] w fun e w' => e = .returned (.agg (hv (over h l))) ∧ Below w.heap.size w w' := by
  have OS := Lib.hid over_small
  have OM := Lib.hid over_more
  have CB := Lib.hid compress_b
  obtain ⟨res, hres⟩ : ∃ res, over h l = res := ⟨_, rfl⟩
  rw [hres]
  have HRES := Lib.hid hres
  have HR0 := Lib.hid hR
  clear over_small over_more compress_b hres hR
  go_enter Tryd.func95, Tryd.ntmps95
  go_wp2_with fail
  first | refine Cop.wl_world fun w1 hw1 => ?_ | refine Cop.calls_world fun w1 hw1 => ?_ | refine Cop.exit_world fun w1 hw1 => ?_ | refine Cop.code_world fun w1 hw1 => ?_
  have r0 : w1.heap[w.heap.size]? = some (.cells (hv h) 157 (0, 0)) := by rw [← hw1]; (repeat (first | refine Cop.at_new _ _ _ (by simp) | refine Cop.at_old _ _ _ (by simp <;> omega) ?_ | refine Cop.at_old _ _ _ (by simp) ?_))
  have r4 : w1.heap[w.heap.size + 1]? = some (.cells (wv (List.replicate 8 0)) 157 (0, 0)) := by rw [← hw1]; exact at_new _ _ _ (by simp)
  have bb : Below w.heap.size w w1 := by rw [← hw1]; exact ((Below.refl _ _).alloc (Nat.le_refl _) _).alloc (by simp) _
  have zz : w.heap.size + 2 ≤ w1.heap.size := by rw [← hw1]; simp
  clear hw1
  go_loopw [1] (fun s1 wr => ∃ (l' : List UInt8) (h' : H8), Rd w s1 l'.length 1 (bl l') ∧ over h' l' = res ∧ Below w.heap.size w wr ∧ w.heap.size + 2 ≤ wr.heap.size ∧
      wr.heap[w.heap.size]? = some (.cells (hv h') 157 (0, 0)) ∧ wr.heap[w.heap.size + 1]? = some (.cells (wv (List.replicate 8 0)) 157 (0, 0))) (fun s1 _ => match s1 with | .slice _ n _ => n | _ => 0)
  case atStart => exact ⟨l, h, HR0.out, HRES.out, bb, zz, r0, r4⟩
  case round =>
    clear r0 r4 bb zz
    obtain ⟨l', h', hR', ho, bb, zz, r0, r4⟩ := hrel
    obtain ⟨A, c, rfl, hc, hm⟩ := hR'.shape
    have HR := Lib.hid hR'
    have HO := Lib.hid ho
    have R0 := Lib.hid r0
    have R4 := Lib.hid r4
    clear hR' ho r0 r4
    by_cases hlt : 64 ≤ l'.length
    · have hlt' : (64 : Int) ≤ (l'.length : Int) := by omega
      go_wp2_with fail
      first | refine Cop.wl_world fun w2 hw2 => ?_ | refine Cop.calls_world fun w2 hw2 => ?_ | refine Cop.exit_world fun w2 hw2 => ?_ | refine Cop.code_world fun w2 hw2 => ?_
      have k0 : w2.heap[w.heap.size]? = some (.cells (hv h') 157 (0, 0)) := by rw [← hw2]; exact at_old _ _ _ (by omega) R0.out
      have k4 : w2.heap[w.heap.size + 1]? = some (.cells (wv (List.replicate 8 0)) 157 (0, 0)) := by rw [← hw2]; exact at_old _ _ _ (by omega) R4.out
      have k5 : w2.heap[wr.heap.size]? = some (.cells (bv (l'.take 0 ++ List.replicate (64 - 0) 0)) 175 (0, 0)) := by rw [List.take_zero, List.nil_append, ← hw2]; exact at_new _ _ _ rfl
      have b2 : Below w.heap.size w w2 := by rw [← hw2]; exact bb.alloc (by omega) _
      clear hw2 R0 R4
      generalize wr.heap.size = K at zz k5 ⊢
      go_loopw [6] (fun s6 wi => ∃ i : Nat, i ≤ 64 ∧ s6 = .int .i64 i ∧ Below w.heap.size w wi ∧ wi.heap[w.heap.size]? = some (.cells (hv h') 157 (0, 0)) ∧ wi.heap[w.heap.size + 1]? = some (.cells (wv (List.replicate 8 0)) 157 (0, 0)) ∧
        wi.heap[K]? = some (.cells (bv (l'.take i ++ List.replicate (64 - i) 0)) 175 (0, 0))) (fun s6 _ => 64 - (intOf s6).toNat)
      case atStart => exact ⟨0, by omega, rfl, b2, k0, k4, k5⟩
      case round =>
        clear k0 k4 k5 b2
        obtain ⟨i, hi, rfl, b2, k0, k4, k5⟩ := hrel
        by_cases hlt2 : i < 64
        · obtain ⟨_, A', c', he, _, _, _, hcell⟩ := (HR.out.below b2)
          obtain ⟨bk, o, rfl, hcl⟩ := hcell (by omega)
          simp only [Value.slice.injEq, true_and] at he
          obtain ⟨rfl, rfl⟩ := he
          have c1 := hcl i _ (bl_get l' i (by omega))
          obtain ⟨y, c5⟩ : ∃ y, wr.cell? ⟨K, i, none⟩ = some y := ⟨_, row_bv k5 i (by simp; omega)⟩
          have f5 := row_thaw k5 i
          have HS := Lib.hid (fill_set l' i hlt2 hlt)
          clear hcell hcl
          generalize l'.getD i 0 = x at c1 HS
          have K0 := Lib.hid k0
          have K4 := Lib.hid k4
          have K5 := Lib.hid k5
          clear k0 k4 k5
          have hi1 : (i : Int) < 64 := by omega
          have hi2 : (i : Int) < (l'.length : Int) := by omega
          go_wp2
          go_roundw
          case rel =>
            refine ⟨i + 1, by omega, by go_num, b2.setCell (by simp; omega) _, row_skip (by omega) _ _ K0.out, row_skip (by omega) _ _ K4.out, ?_⟩
            rw [row_set K5.out, bv_set, HS.out]
          case measure => simp [intOf]; omega
        · have hi64 : i = 64 := by omega
          subst hi64
          clear hlt2
          rw [show l'.take 64 ++ List.replicate (64 - 64) 0 = l'.take 64 from by simp] at k5
          have hb64 : (l'.take 64).length = 64 := by simp; omega
          have hsb : (Tryd.prog.info? 175).map (·.size) = some (bv (l'.take 64)).size := by rw [bv_size, hb64]; exact info_b64
          have HO' := Lib.hid (show over (compress h' (l'.take 64)) (l'.drop 64) = res by rw [← HO.out]; exact (OM.out h' l' hlt).symm)
          have HX := Lib.hid (fun w => CB.out h' (l'.take 64) w hb64)
          generalize compress h' (l'.take 64) = h2 at HO' HX
          generalize bv (l'.take 64) = vb at k5 hsb HX
          have HSB := Lib.hid hsb
          have HLT := Lib.hid hlt
          clear hsb hb64 hlt hi
          go_wp2_with (first | refine wl_load_row rfl 157 _ rfl w.heap.size rfl 157 (hv h') (0, 0) _ k0 Tryd.underlying157 rfl info_h8 ?_ | refine wl_load_row rfl 175 _ rfl K rfl 175 vb (0, 0) _ k5 Tryd.underlying175 rfl HSB.out ?_)
          refine (HX.out _).mono ?_
          rintro e w3 ⟨rfl, b3⟩
          have q0 := kept_row b3 k0
          have q4 := kept_row b3 k4
          go_wp2_with (refine wl_store_row rfl 157 _ _ rfl w.heap.size rfl 157 (hv h') (hv h2) rfl q0 info_h8 rfl (hv_one _) ?_; refine Cop.wl_unstop ?_)
          refine Cop.restop ?_
          first | refine Cop.wl_world fun w4 hw4 => ?_ | refine Cop.calls_world fun w4 hw4 => ?_ | refine Cop.exit_world fun w4 hw4 => ?_ | refine Cop.code_world fun w4 hw4 => ?_
          have n0 : w4.heap[w.heap.size]? = some (.cells (hv h2) 157 (0, 0)) := by rw [← hw4]; exact setRow_heap _ _ _ _ _ _ q0
          have n4 : w4.heap[w.heap.size + 1]? = some (.cells (wv (List.replicate 8 0)) 157 (0, 0)) := by rw [← hw4]; exact set_other _ (by omega) q4
          have b4 : Below w.heap.size w w4 := by rw [← hw4]; exact below_setRow (b2.trans (b3.mono b2.size)) (Nat.le_refl _) _
          have z4 : w.heap.size + 2 ≤ w4.heap.size := by have := (Array.getElem?_eq_some_iff.1 n4).1; omega
          obtain ⟨v', hR2, _, _, hsl⟩ := HR.out.slice (P := Tryd.prog) Tryd.underlying65 (by kernel_rfl : (Tryd.prog.info? 5).map (·.size) = some 1) 64 l'.length HLT.out (Nat.le_refl _)
          have hsl2 := hsl rfl w4 .i64
          obtain ⟨A2, c2, rfl, hc2, hm2⟩ := hR2.shape
          rw [Nat.mul_one, Nat.mul_one, show ((bl l').take l'.length).drop 64 = bl (l'.drop 64) by rw [List.take_of_length_le (by rw [bl_length]; omega), bl_drop]] at hR2
          have HR2 := Lib.hid hR2
          have HSL := Lib.hid hsl2
          clear hw4 q0 q4 hsl hsl2 hR2 b3
          go_wp2_with (refine wl_slice_from rfl 65 _ _ rfl _ _ _ rfl rfl HSL.out ?_)
          go_roundw
          case rel =>
            refine ⟨l'.drop 64, h2, ?_, HO'.out, b4, z4, n0, n4⟩
            have := HR2.out
            rw [List.length_drop]
            exact this
          case measure => show l'.length - 64 < l'.length; have := HLT.out; omega
    · have hlt' : ¬ (64 : Int) ≤ (l'.length : Int) := by omega
      have r0 := R0.out
      have r4 := R4.out
      have hfin : h' = res := by rw [← HO.out, OS.out h' l' (by omega)]
      subst hfin
      clear hlt
      go_wp2_with (first | refine wl_load_row rfl 157 _ rfl w.heap.size rfl 157 (hv h') (0, 0) _ r0 Tryd.underlying157 rfl info_h8 ?_ | refine wl_store_row rfl 157 _ _ rfl (w.heap.size + 1) rfl 157 (wv (List.replicate 8 0)) (hv h') rfl r4 info_h8 (by rw [wv_size]; rfl) (hv_one _) ?_)
      exact ret_row rfl rfl (w.heap.size + 1) rfl 157 (hv h') (0, 0) _ (setRow_heap _ _ _ _ _ _ r4) Tryd.underlying157 rfl info_h8 ⟨rfl, below_setRow bb (by omega) _⟩
/-- The reference's Over. -/
theorem over_b (h : H8) (l : List UInt8) (v : Value) (w : World) (hR : Rd w v l.length 1 (bl l)) :
    Calls Tryd.prog 95 #[.agg (hv h), v] w fun e w' => e = .returned (.agg (hv (over h l))) ∧ Below w.heap.size w w' :=
  over_gen over compress over_small over_more compress_b h l v w hR
end Go.Proofs.YtlhebogbbkjahaaDoor
