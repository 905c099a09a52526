import Derived.Test.YtepcjdifjjombaaDoorPd
namespace Go.Proofs.YtepcjdifjjombaaDoor
open Go.RowKit Cop
set_option linter.unusedVariables false
set_option maxHeartbeats 400000 in
/-- spoil: it writes its own row, nothing else. -/
theorem spoil_a (v : Value) (l : List UInt8) (base n : Nat) (w : World) (hn : n ≤ 9223372036854775807) (ho : w.ownsRow base 5 1 v n (bl l)) :
    Calls Tryd.prog 35 #[v] w fun e w' => e = .returned (.tuple #[]) ∧ w.grownBy w' v.ownBlock := by
  obtain ⟨A, c, rfl⟩ := own_slice ho
  have hg0 := World.grownBy.refl w (Value.slice A n c).ownBlock
  have ho0 := ho
  generalize hrow : (Value.slice A n c).ownBlock = row at *
  have Hrow := Lib.hid hrow
  clear hrow
  go_enter Tryd.func35, Tryd.ntmps35
  go_wp2
  go_loopw [2] (fun s2 wr => ∃ (k : Nat) (l' : List UInt8), k ≤ n ∧ s2 = .int .i64 k ∧ wr.ownsRow base 5 1 (.slice A n c) n (bl l') ∧ w.grownBy wr row) (fun s2 _ => n - (intOf s2).toNat)
  case atStart => exact ⟨0, l, by omega, rfl, ho0, hg0⟩
  case round =>
    clear ho ho0 hg0
    obtain ⟨k, l', hk, rfl, ho1, hg1⟩ := hrel
    by_cases hlt : k < n
    · obtain ⟨g, cap, he, hbg, _⟩ := own_form ho1 (by omega)
      simp only [Value.slice.injEq, true_and] at he
      obtain ⟨rfl, rfl⟩ := he
      have hl' : l'.length = n := by have := ho1.1; simpa [bl_length] using this
      have hc := ho1.cells (g := g) rfl k _ (bl_get l' k (by omega))
      rw [add_plain, Nat.zero_add] at hc
      clear hl'
      generalize hq : l'.getD k 0 = q at *
      have Hq := Lib.hid hq
      clear hq
      go_wp2_with (refine wl_store_own base rfl _ _ 5 5 rfl (by kernel_rfl) g n c _ ho1 (Below.refl _ _) ?_ k _ hlt rfl rfl rfl rfl ?_)
      · exact Nat.le_trans hbg (by have := (ho1.lt g rfl).2; omega)
      intro w2 ho2 _ hg2 _
      go_wp2
      go_roundw
      case rel => exact ⟨k + 1, l'.set k (UInt8.ofNat (q.toNat + 1)), by omega, by go_num, by
        have e : (((UInt8.ofNat (q.toNat + 1)).toNat : Nat) : Int) = ((q.toNat : Int) + 1) % 256 := by rw [byte_of]; simp
        rw [bl_set, e]; exact ho2, hg1.trans (by rw [← Hrow.out]; exact hg2)⟩
      case measure => simp [intOf]; omega
    · go_wp2
      go_end0
      exact ⟨rfl, hg1⟩

end Go.Proofs.YtepcjdifjjombaaDoor
