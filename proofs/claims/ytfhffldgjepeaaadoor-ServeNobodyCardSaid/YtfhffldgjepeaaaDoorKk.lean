/- Tiles as keys; place. -/
import Derived.Test.YtfhffldgjepeaaaDoorGz
import Derived.Test.YtfhffldgjepeaaaDoorRows
import Derived.Maps.Keyed
import Derived.Maps.OwnSet
import Derived.DeepKeys4
namespace Go.Proofs.YtfhffldgjepeaaaDoor
open Go.RowKit Cop
set_option linter.unusedVariables false
set_option linter.unusedSimpArgs false
def tlv (h L I W : Int) : Array Value := #[.int .i64 h, .int .i64 L, .int .i64 I, .int .i64 W]
theorem tl_info (h L I W : Int) : (Tryd.prog.info? 35).map (·.size) = some (tlv h L I W).size := by
  rw [show (tlv h L I W).size = 4 from rfl]; kernel_rfl
theorem tl_one (h L I W : Int) : (tlv h L I W).all (·.oneCell') = true := by simp [tlv, Value.oneCell']
set_option maxRecDepth 100000 in
theorem tileLaid : laidOutB Tryd.prog = true := by kernel_rfl
set_option maxRecDepth 100000 in
theorem tileKeyed : Go.Maps.Keyed Tryd.prog 35 := Go.Maps.Keyed.of_law (deep_law_laid tileLaid (m := 2) (by decide) (of_decide_eq_true (by kernel_rfl)) (by kernel_rfl) (by kernel_rfl))
def inI (n : Int) : Prop := (Lit.int .i64 n).wf = true
theorem tileLits (h L I W : Int) (h0 : (Lit.int .i64 h).wf = true) (h1 : (Lit.int .i64 L).wf = true) (h2 : (Lit.int .i64 I).wf = true) (h3 : (Lit.int .i64 W).wf = true) (hc : Tryd.prog.cellsOf 35 = 4) (hci : Tryd.prog.cellsOf 3 = 1) (n : Nat) :
    Tryd.prog.keyLits (n + 1 + 1) 35 (tlv h L I W).toList = some [.int .i64 h, .int .i64 L, .int .i64 I, .int .i64 W] := by
  have hint : ∀ z : Int, (Lit.int .i64 z).wf = true → Tryd.prog.keyLits (n + 1) 3 [.int .i64 z] = some [.int .i64 z] := fun z hz => by
    unfold Program.keyLits
    simp only [Tryd.underlying3]
    rw [if_pos ⟨trivial, hz⟩]
  unfold Program.keyLits
  simp only [Tryd.underlying35]
  rw [if_pos ⟨by rw [hc]; rfl, by kernel_rfl⟩]
  simp only [List.mapM_cons, List.mapM_nil, hci, tlv, List.drop_zero, List.drop_succ_cons, List.take_succ_cons, List.take_zero, hint h h0, hint L h1, hint I h2, hint W h3]
  rfl
theorem tileKey (h L I W : Int) (h0 : inI h) (h1 : inI L) (h2 : inI I) (h3 : inI W) : ∃ l, keyOf Tryd.prog 35 (.agg (tlv h L I W)) = some l := by
  have hk : Tryd.prog.keyType 35 = true := by kernel_rfl
  have hc : Tryd.prog.cellsOf 35 = 4 := by kernel_rfl
  have hci : Tryd.prog.cellsOf 3 = 1 := by kernel_rfl
  obtain ⟨n, hn⟩ : ∃ n, Tryd.prog.types.size = n + 1 := ⟨Tryd.prog.types.size - 1, by kernel_rfl⟩
  have hf : Value.formed Tryd.prog 35 (.agg (tlv h L I W)) = true := by
    unfold Value.formed
    simp only [Tryd.underlying35, hc]
    rfl
  have key := tileLits h L I W h0 h1 h2 h3 hc hci n
  rw [← hn] at key
  refine ⟨.string (keyBytes [.int .i64 h, .int .i64 L, .int .i64 I, .int .i64 W]), ?_⟩
  unfold keyOf
  simp only [Tryd.underlying35, hk, hf, Bool.and_self, if_true]
  rw [show (Value.agg (tlv h L I W)).cells.toList = (tlv h L I W).toList from rfl, key]
  rfl
theorem place_a (h L I W : Int) (w : World) : Calls Tryd.prog 27 #[.agg (tlv h L I W)] w fun e w' => e = .returned (.agg (tlv h L I 0)) ∧ Below w.heap.size w w' := by
  have HS0 := Sep.start w
  go_enter Tryd.func27, Tryd.ntmps27
  go_wp2_with (first | refine wl_bx HS0 rfl 35 _ rfl (tlv h L I W) rfl ?_)
  intro g1 w1 HS1
  go_wp2_with (first | refine wl_al HS1 rfl 35 rfl (tlv 0 0 0 0) (by kernel_rfl) ?_)
  intro g2 w2 HS2
  go_wp2_with (first | refine wl_stc HS2 1 rfl rfl 3 _ _ rfl (by kernel_rfl) 3 (by (show 3 < 4); decide) rfl rfl rfl rfl ?_)
  intro w3 HS3
  have HS4 : Sep w.heap.size w w3 [.row g2 (tlv 0 0 0 0) 35, .row g1 (tlv h L I 0) 35] := HS3
  clear HS0 HS1 HS2 HS3
  go_wp2_with (first | refine wl_ld HS4 1 rfl rfl 35 _ rfl rfl Tryd.underlying35 rfl (tl_info _ _ _ _) ?_ | refine wl_st HS4 0 rfl rfl 35 _ _ rfl rfl (cs := tlv h L I 0) rfl (tl_info _ _ _ _) rfl (tl_one _ _ _ _) ?_)
  intro w5 HS5
  go_wp2
  exact ret_row rfl rfl g2 rfl 35 (tlv h L I 0) (0, 0) _ (HS5.row 0 rfl) Tryd.underlying35 rfl (tl_info _ _ _ _) ⟨rfl, HS5.hb⟩
theorem inI_zero : inI 0 := (by decide : (Lit.int .i64 0).wf = true)
end Go.Proofs.YtfhffldgjepeaaaDoor
