import Derived.Test.YtepcjdifjjombaaDoorSi
namespace Go.Proofs.YtepcjdifjjombaaDoor
open Go.RowKit Cop
set_option linter.unusedVariables false
set_option linter.unusedSimpArgs false
/-- A state that no call made: none, or one of noughts. -/
def Nobody (w : World) (p : Option Addr) : Prop := p = none ∨ ∃ g, p = some ⟨g, 0, none⟩ ∧ w.cell? ⟨g, 0, none⟩ = some (.bool false)
theorem Nobody.none {w : World} {p : Option Addr} (hp : Nobody w p) : Calls Tryd.prog 49 #[.pointer p] w fun e w' => e = .returned (.bool true) ∧ w' = w := by
  rcases hp with rfl | ⟨g, rfl, hc⟩
  · exact none_nil w
  · exact none_st false g w hc
theorem Nobody.below {w w' : World} {p : Option Addr} (hp : Nobody w p) (hb : Below w.heap.size w w') : Nobody w' p := by
  rcases hp with rfl | ⟨g, rfl, hc⟩
  · exact .inl rfl
  · exact .inr ⟨g, rfl, bcell hb hc⟩
theorem len_none (p : Option Addr) (w : World) (hp : Nobody w p) : Calls Tryd.prog 25 #[.pointer p] w fun e w' => e = .returned (.int .i64 0) ∧ w' = w := by
  have HN := Lib.hid hp.none
  clear hp
  go_enter Tryd.func25, Tryd.ntmps25
  go_wp2_with fail
  refine HN.out.mono ?_
  rintro e w2 ⟨rfl, rfl⟩
  go_wp2
  go_ret
  exact ⟨rfl, rfl⟩
theorem clone_none (p : Option Addr) (w : World) (hp : Nobody w p) : Calls Tryd.prog 29 #[.pointer p] w fun e w' => e = .returned (.pointer none) ∧ w' = w := by
  have HN := Lib.hid hp.none
  clear hp
  go_enter Tryd.func29, Tryd.ntmps29
  go_wp2_with fail
  refine HN.out.mono ?_
  rintro e w2 ⟨rfl, rfl⟩
  go_wp2
  go_ret
  exact ⟨rfl, rfl⟩
theorem save_none (p : Option Addr) (w : World) (hp : Nobody w p) : Calls Tryd.prog 30 #[.pointer p] w fun e w' => e = .returned (.slice none 0 0) ∧ w' = w := by
  have HN := Lib.hid hp.none
  clear hp
  go_enter Tryd.func30, Tryd.ntmps30
  go_wp2_with fail
  refine HN.out.mono ?_
  rintro e w2 ⟨rfl, rfl⟩
  go_wp2
  go_ret
  exact ⟨rfl, rfl⟩
theorem sum_none (p : Option Addr) (w : World) (hp : Nobody w p) : Calls Tryd.prog 24 #[.pointer p] w fun e w' => e = .returned (.agg (bv (List.replicate 32 0))) ∧ Below w.heap.size w w' := by
  have HN := Lib.hid (fun w' hb => (hp.below (w' := w') hb).none)
  clear hp
  go_enter Tryd.func24, Tryd.ntmps24
  go_wp2_with fail
  have b1 : Below w.heap.size w (w.alloc (.cells (bv (List.replicate 32 0)) 32)) := (Below.refl _ _).alloc (Nat.le_refl _) _
  refine (HN.out _ b1).mono ?_
  rintro e w2 ⟨rfl, rfl⟩
  go_wp2_with (refine wl_store_row rfl 32 _ _ rfl w.heap.size rfl 32 (bv (List.replicate 32 0)) (bv (List.replicate 32 0)) rfl (at_new _ _ _ rfl) (by kernel_rfl) rfl (bv_one _) ?_)
  exact ret_row rfl rfl w.heap.size rfl 32 (bv (List.replicate 32 0)) (0, 0) _ (setRow_heap _ _ _ _ _ _ (at_new _ _ _ rfl)) Tryd.underlying32 rfl (by kernel_rfl) ⟨rfl, below_setRow b1 (Nat.le_refl _) _⟩
end Go.Proofs.YtepcjdifjjombaaDoor
