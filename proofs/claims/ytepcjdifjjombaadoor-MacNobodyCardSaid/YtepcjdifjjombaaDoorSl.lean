/- Proved here: keyed digests that no call made (none, or one of noughts) tell nothing (mac.Keyed's Write and Sum); the table of constants is tied to the program's text. No condition. -/
import Derived.Test.YtepcjdifjjombaaDoorSj
import Derived.Test.YtepcjdifjjombaaDoorFMacNobody
namespace Go.Proofs.YtepcjdifjjombaaDoor
open Go.RowKit Cop
set_option linter.unusedVariables false
set_option linter.unusedSimpArgs false
/-- A keyed digest that no call made. -/
def Nokey (w : World) (p : Option Addr) : Prop := p = none ∨ ∃ g, p = some ⟨g, 0, none⟩ ∧ w.cell? ⟨g, 0, none⟩ = some (.pointer none)
theorem kwrite_none (p : Option Addr) (A : Option Addr) (n c : Nat) (w : World) (hp : Nokey w p) : Calls Tryd.prog 27 #[.pointer p, .slice A n c] w fun e w' => e = .returned (.int .i64 1) ∧ w' = w := by
  rcases hp with rfl | ⟨g, rfl, hc⟩
  · go_enter Tryd.func27, Tryd.ntmps27
    go_wp2
    go_ret
    exact ⟨rfl, rfl⟩
  · go_enter Tryd.func27, Tryd.ntmps27
    go_wp2
    go_ret
    exact ⟨rfl, rfl⟩
theorem ksum_none (p : Option Addr) (w : World) (hp : Nokey w p) : Calls Tryd.prog 28 #[.pointer p] w fun e w' => e = .returned (.agg (bv (List.replicate 32 0))) ∧ Below w.heap.size w w' := by
  have b1 : Below w.heap.size w (w.alloc (.cells (bv (List.replicate 32 0)) 32)) := (Below.refl _ _).alloc (Nat.le_refl _) _
  rcases hp with rfl | ⟨g, rfl, hc⟩
  · go_enter Tryd.func28, Tryd.ntmps28
    go_wp2_with (refine wl_store_row rfl 32 _ _ rfl w.heap.size rfl 32 (bv (List.replicate 32 0)) (bv (List.replicate 32 0)) rfl (at_new _ _ _ rfl) (by kernel_rfl) rfl (bv_one _) ?_)
    exact ret_row rfl rfl w.heap.size rfl 32 (bv (List.replicate 32 0)) (0, 0) _ (setRow_heap _ _ _ _ _ _ (at_new _ _ _ rfl)) Tryd.underlying32 rfl (by kernel_rfl) ⟨rfl, below_setRow b1 (Nat.le_refl _) _⟩
  · have hg := World.block_lt_of_cell? w _ hc
    have hc2 : (w.alloc (.cells (bv (List.replicate 32 0)) 32)).cell? ⟨g, 0, none⟩ = some (.pointer none) := bcell b1 hc
    go_enter Tryd.func28, Tryd.ntmps28
    go_wp2_with (refine wl_store_row rfl 32 _ _ rfl w.heap.size rfl 32 (bv (List.replicate 32 0)) (bv (List.replicate 32 0)) rfl (at_new _ _ _ rfl) (by kernel_rfl) rfl (bv_one _) ?_)
    exact ret_row rfl rfl w.heap.size rfl 32 (bv (List.replicate 32 0)) (0, 0) _ (setRow_heap _ _ _ _ _ _ (at_new _ _ _ rfl)) Tryd.underlying32 rfl (by kernel_rfl) ⟨rfl, below_setRow b1 (Nat.le_refl _) _⟩
set_option maxRecDepth 100000 in
set_option maxHeartbeats 4000000 in
theorem macNobody_walk (A : Option Addr) (n c : Nat) (w : World) :
    Calls Tryd.prog 6 #[.slice A n c] w fun e w' => e = .returned (.bool true) ∧ Below w.heap.size w w' := by
  have HS := Lib.hid ksum_none
  have heq := fun w' : World => run_equal_bv (P := Tryd.prog) w' (d := 9998) Tryd.underlying32 Tryd.underlying5 (by kernel_rfl) (List.replicate 32 0) (List.replicate 32 0) rfl rfl
  rw [show bv (List.replicate 32 0) = #[.int .u8 0, .int .u8 0, .int .u8 0, .int .u8 0, .int .u8 0, .int .u8 0, .int .u8 0, .int .u8 0, .int .u8 0, .int .u8 0, .int .u8 0, .int .u8 0, .int .u8 0, .int .u8 0, .int .u8 0, .int .u8 0, .int .u8 0, .int .u8 0, .int .u8 0, .int .u8 0, .int .u8 0, .int .u8 0, .int .u8 0, .int .u8 0, .int .u8 0, .int .u8 0, .int .u8 0, .int .u8 0, .int .u8 0, .int .u8 0, .int .u8 0, .int .u8 0] from rfl] at heq HS
  simp only [decide_true] at heq
  go_enter Tryd.func6, Tryd.ntmps6
  go_wp2
  first | refine Cop.wl_world fun w1 hw1 => ?_ | refine Cop.calls_world fun w1 hw1 => ?_ | refine Cop.exit_world fun w1 hw1 => ?_ | refine Cop.code_world fun w1 hw1 => ?_
  have r0 : w1.heap[w.heap.size]? = some (.cells #[.pointer none, .pointer none] 47 (0, 0)) := by rw [← hw1]; exact at_old _ _ _ (by simp) (at_new _ _ _ rfl)
  have r1 : w1.heap[w.heap.size + 1]? = some (.cells #[.pointer none, .pointer (some ⟨w.heap.size, 0, none⟩)] 45 (0, 0)) := by rw [← hw1]; exact at_new _ _ _ (by simp)
  have bb : Below w.heap.size w w1 := by rw [← hw1]; exact ((Below.refl _ _).alloc (Nat.le_refl _) _).alloc (by simp) _
  clear hw1
  go_loopw [9] (fun s9 wr => ∃ i : Nat, i ≤ 2 ∧ s9 = .int .i64 i ∧ Below w.heap.size w wr ∧ wr.heap[w.heap.size]? = some (.cells #[.pointer none, .pointer none] 47 (0, 0)) ∧
    wr.heap[w.heap.size + 1]? = some (.cells #[.pointer none, .pointer (some ⟨w.heap.size, 0, none⟩)] 45 (0, 0))) (fun s9 _ => 2 - (intOf s9).toNat)
  case atStart => exact ⟨0, by omega, rfl, bb, r0, r1⟩
  case round =>
    clear r0 r1 bb
    obtain ⟨i, hi, rfl, bb, r0, r1⟩ := hrel
    by_cases hlt : i < 2
    · obtain ⟨p, hc, hp⟩ : ∃ p, wr.cell? ⟨w.heap.size + 1, i, none⟩ = some (.pointer p) ∧ Nokey wr p := by
        match i, hlt with
        | 0, _ => exact ⟨none, row_cell r1 0, .inl rfl⟩
        | 1, _ => exact ⟨_, row_cell r1 1, .inr ⟨_, rfl, row_cell r0 0⟩⟩
      have HP := Lib.hid hp
      have R0 := Lib.hid r0
      have R1 := Lib.hid r1
      have hi2 : (i : Int) < 2 := by omega
      clear hp r0 r1
      go_wp2_with (first
        | (go_at_call 27; refine (kwrite_none p A n c _ HP.out).mono ?_; rintro e w3 ⟨rfl, rfl⟩)
        | (go_at_call 28; refine (HS.out p _ HP.out).mono ?_; rintro e w4 ⟨rfl, b4⟩))
      exact ⟨⟨i + 1, by omega, by go_num, bb.trans (b4.mono bb.size), kept_row b4 R0.out, kept_row b4 R1.out⟩, by simp [intOf]; omega⟩
    · have hi2 : i = 2 := by omega
      subst hi2
      clear hlt hi
      go_wp2
      go_ret
      exact ⟨rfl, bb⟩
theorem macNobody_holds : Rows.MacNobodyCardSaid := macNobody.card_of_walk fun H enc W base v0 d0 p0 h0 k0 _ hL => by
  obtain ⟨A, n, c, rfl⟩ := Go.WideShapes.okWide_slice Tryd.underlying30 k0
  exact macNobody_walk A n c W
#print axioms macNobody_holds
end Go.Proofs.YtepcjdifjjombaaDoor
