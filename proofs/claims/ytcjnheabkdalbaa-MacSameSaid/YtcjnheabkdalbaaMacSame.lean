/- Proved here: two digests are the same just if all their bytes are (mac.Same), for any two digests, without condition. -/
import Derived.Test.YtcjnheabkdalbaaFMacSame
import Derived.Test.YtcjnheabkdalbaaLib
namespace Go.Proofs.Ytcjnheabkdalbaa
open Go.RowKit Cop
/-! The plain law: the or of all xors is nought just if the bytes are the same. -/
def sacc (xs ys : List UInt8) : Nat → UInt8
  | 0 => 0
  | k + 1 => sacc xs ys k ||| (xs.getD k 0 ^^^ ys.getD k 0)
theorem or_zero (a b : UInt8) : a ||| b = 0 ↔ a = 0 ∧ b = 0 := by
  constructor
  · intro h
    have h' : (a ||| b).toBitVec = 0#8 := by rw [h]; rfl
    rw [UInt8.toBitVec_or] at h'
    have := BitVec.or_eq_zero_iff.1 h'
    exact ⟨UInt8.toBitVec_inj.1 this.1, UInt8.toBitVec_inj.1 this.2⟩
  · rintro ⟨rfl, rfl⟩; rfl
theorem xor_zero (a b : UInt8) : a ^^^ b = 0 ↔ a = b := by
  constructor
  · intro h
    have h' : (a ^^^ b).toBitVec = 0#8 := by rw [h]; rfl
    rw [UInt8.toBitVec_xor] at h'
    exact UInt8.toBitVec_inj.1 (BitVec.xor_eq_zero_iff.1 h')
  · rintro rfl; exact UInt8.xor_self
theorem sacc_zero (xs ys : List UInt8) (n : Nat) : sacc xs ys n = 0 ↔ ∀ k, k < n → xs.getD k 0 = ys.getD k 0 := by
  induction n with
  | zero => simp [sacc]
  | succ n ih =>
    rw [sacc, or_zero, xor_zero, ih]
    constructor
    · rintro ⟨h, h2⟩ k hk
      rcases Nat.lt_or_ge k n with h3 | h3
      · exact h k h3
      · rw [show k = n from by omega]; exact h2
    · exact fun h => ⟨fun k hk => h k (by omega), h n (by omega)⟩
theorem sacc_eq (xs ys : List UInt8) (hA : xs.length = 32) (hB : ys.length = 32) : (((sacc xs ys 32).toNat : Int) == 0) = decide (xs = ys) := by
  have h1 : (((sacc xs ys 32).toNat : Int) == 0) = decide (sacc xs ys 32 = 0) := by
    rw [Bool.eq_iff_iff]; simp [UInt8.toNat_inj.symm]
  rw [h1]
  congr 1
  rw [sacc_zero]
  apply propext
  constructor
  · intro h
    apply List.ext_getElem (by omega)
    intro i h2 h3
    have := h i (by omega)
    simpa [List.getD, h2, h3] using this
  · rintro rfl _ _; rfl

set_option maxRecDepth 100000 in
set_option maxHeartbeats 400000 in
/-- mac.Same. -/
theorem same_any (xs ys : List UInt8) (w : World) (hA : xs.length = 32) (hB : ys.length = 32) :
    Calls Try.prog 13 #[.agg (bv xs), .agg (bv ys)] w fun e w' => e = .returned (.bool (decide (xs = ys))) ∧ Below w.heap.size w w' := by
  have hfin := Lib.hid (sacc_eq xs ys hA hB)
  have ca : ∀ i, i < 32 → ((w.alloc (Obj.cells (bv xs) 23)).alloc (Obj.cells (bv ys) 23)).cell? ⟨w.heap.size, i, none⟩ = some (.int .u8 ((xs.getD i 0).toNat : Int)) := fun i hi => by
    rw [cell_of_row _ _ _ _ _ _ (heap_alloc2_old w _ _), bv_get _ _ (by omega)]
  have cb : ∀ i, i < 32 → ((w.alloc (Obj.cells (bv xs) 23)).alloc (Obj.cells (bv ys) 23)).cell? ⟨w.heap.size + 1, i, none⟩ = some (.int .u8 ((ys.getD i 0).toNat : Int)) := fun i hi => by
    rw [cell_of_row _ _ _ _ _ _ (heap_alloc2_new w _ _), bv_get _ _ (by omega)]
  have hb : Below w.heap.size w ((w.alloc (Obj.cells (bv xs) 23)).alloc (Obj.cells (bv ys) 23)) := ((Below.refl _ _).alloc (Nat.le_refl _) _).alloc (by simp) _
  clear hA hB
  go_enter Try.func13, Try.ntmps13
  go_wp2
  generalize ((w.alloc (Obj.cells (bv xs) 23)).alloc (Obj.cells (bv ys) 23)) = w1 at *
  go_loopw [5, 7] (fun x i wr => ∃ k : Nat, k ≤ 32 ∧ i = .int .i64 k ∧ x = .int .u8 ((sacc xs ys k).toNat : Int) ∧ ∃ n, wr = w1.drewN n) (fun _ i _ => 32 - (intOf i).toNat)
  case atStart => exact ⟨0, by omega, rfl, rfl, 0, rfl⟩
  case round =>
    obtain ⟨k, hk, rfl, rfl, n, rfl⟩ := hrel
    by_cases hlt : k < 32
    · have ck := ca k hlt
      have dk := cb k hlt
      go_wp2
      go_quiet (fail)
      go_wp2
      exact ⟨⟨k + 1, by omega, by go_num, by rw [sacc, ← bor8, ← bxor8]; simp, _, rfl⟩, by simp [intOf]; omega⟩
    · have hk32 : k = 32 := by omega
      subst hk32
      go_wp2
      go_ret
      exact ⟨congrArg (fun b => Ending.returned (Value.bool b)) hfin.out, hb.trans ⟨rfl, rfl, rfl, Nat.le_refl _, fun _ _ => rfl⟩⟩

set_option maxRecDepth 100000 in
set_option maxHeartbeats 400000 in
theorem macSame_walk (xs ys : List UInt8) (w : World) (hA : xs.length = 32) (hB : ys.length = 32) :
    Calls Try.prog 3 #[.agg (bv xs), .agg (bv ys)] w fun e w' => e = .returned (.bool true) ∧ Below w.heap.size w w' := by
  have ca : ((w.alloc (Obj.cells (bv xs) 23)).alloc (Obj.cells (bv ys) 23)).heap[w.heap.size]? = some (.cells (bv xs) 23 (0, 0)) := heap_alloc2_old w _ _
  have cb : ((w.alloc (Obj.cells (bv xs) 23)).alloc (Obj.cells (bv ys) 23)).heap[w.heap.size + 1]? = some (.cells (bv ys) 23 (0, 0)) := heap_alloc2_new w _ _
  have hb : Below w.heap.size w ((w.alloc (Obj.cells (bv xs) 23)).alloc (Obj.cells (bv ys) 23)) := ((Below.refl _ _).alloc (Nat.le_refl _) _).alloc (by simp) _
  have hsx : (bv xs).size = 32 := by rw [bv_size, hA]
  have hsy : (bv ys).size = 32 := by rw [bv_size, hB]
  have HA := Lib.hid hA
  have HB := Lib.hid hB
  clear hA hB
  go_enter Try.func3, Try.ntmps3
  go_wp2
  generalize ((w.alloc (Obj.cells (bv xs) 23)).alloc (Obj.cells (bv ys) 23)) = w1 at *
  have heq := fun w' : World => run_equal_bv (P := Try.prog) w' (d := 9998) Try.underlying23 Try.underlying5 (by kernel_rfl) xs ys HA.out HB.out
  refine wp_region_grow (by kernel_rfl) (by kernel_rfl) ?_
  refine wq_load_row 23 _ rfl _ rfl _ _ _ _ ca Try.underlying23 rfl (by rw [hsx]; kernel_rfl) _ rfl (by simp only [Act.put, List.setIfInBounds_toArray, List.set_cons_succ, List.set_cons_zero]; rfl) ?_
  refine wq_load_row 23 _ rfl _ rfl _ _ _ _ cb Try.underlying23 rfl (by rw [hsy]; kernel_rfl) _ rfl (by simp only [Act.put, List.setIfInBounds_toArray, List.set_cons_succ, List.set_cons_zero]; rfl) ?_
  refine wq_call (.bool (decide (xs = ys))) _ 13 #[.agg (bv xs), .agg (bv ys)] rfl (fun w' => by go_simp) (fun w' hw' => same_any xs ys w' HA.out HB.out) (by simp only [Act.put, List.setIfInBounds_toArray, List.set_cons_succ, List.set_cons_zero]; rfl) ?_
  refine wq_load_row 23 _ rfl _ rfl _ _ _ _ ca Try.underlying23 rfl (by rw [hsx]; kernel_rfl) _ rfl (by simp only [Act.put, List.setIfInBounds_toArray, List.set_cons_succ, List.set_cons_zero]; rfl) ?_
  refine wq_load_row 23 _ rfl _ rfl _ _ _ _ cb Try.underlying23 rfl (by rw [hsy]; kernel_rfl) _ rfl (by simp only [Act.put, List.setIfInBounds_toArray, List.set_cons_succ, List.set_cons_zero]; rfl) ?_
  refine wq_val (.bool (decide (xs = ys))) _ rfl (fun w' _ => by go_simp) (by simp only [Act.put, List.setIfInBounds_toArray, List.set_cons_succ, List.set_cons_zero]; rfl) ?_
  refine wq_val (.bool true) _ rfl (fun w' _ => by go_simp) (by simp only [Act.put, List.setIfInBounds_toArray, List.set_cons_succ, List.set_cons_zero]; rfl) ?_
  refine wq_val (.bool true) _ rfl (fun w' _ => by go_simp) (by simp only [Act.put, List.setIfInBounds_toArray, List.set_cons_succ, List.set_cons_zero]; rfl) ?_
  refine wq_load_row 23 _ rfl _ rfl _ _ _ _ ca Try.underlying23 rfl (by rw [hsx]; kernel_rfl) _ rfl (by simp only [Act.put, List.setIfInBounds_toArray, List.set_cons_succ, List.set_cons_zero]; rfl) ?_
  refine wq_load_row 23 _ rfl _ rfl _ _ _ _ ca Try.underlying23 rfl (by rw [hsx]; kernel_rfl) _ rfl (by simp only [Act.put, List.setIfInBounds_toArray, List.set_cons_succ, List.set_cons_zero]; rfl) ?_
  refine wq_call (.bool (decide (xs = xs))) _ 13 #[.agg (bv xs), .agg (bv xs)] rfl (fun w' => by go_simp) (fun w' hw' => same_any xs xs w' HA.out HA.out) (by simp only [Act.put, List.setIfInBounds_toArray, List.set_cons_succ, List.set_cons_zero]; rfl) ?_
  refine wq_val (.bool true) _ rfl (fun w' _ => by go_simp) (by simp only [Act.put, List.setIfInBounds_toArray, List.set_cons_succ, List.set_cons_zero]; rfl) ?_
  refine wq_val (.bool true) _ rfl (fun w' _ => by go_simp) (by simp only [Act.put, List.setIfInBounds_toArray, List.set_cons_succ, List.set_cons_zero]; rfl) ?_
  refine wq_done (fun w2 hb2 => ?_)
  go_wp2
  go_ret
  exact ⟨rfl, hb.trans (hb2.mono hb.size)⟩

theorem macSame_holds : Rows.MacSameSaid := macSame.row_of_walk fun H enc W base v0 v1 d0 d1 p0 p1 h0 k0 h1 k1 _ => by
  obtain ⟨xs, hx, rfl⟩ := open_bytes Try.underlying23 Try.underlying5 (by kernel_rfl) (by kernel_rfl) h0 k0
  obtain ⟨ys, hy, rfl⟩ := open_bytes Try.underlying23 Try.underlying5 (by kernel_rfl) (by kernel_rfl) h1 k1
  exact macSame_walk xs ys W hx hy
#print axioms macSame_holds
end Go.Proofs.Ytcjnheabkdalbaa
