/- math/bits.TrailingZeros; its table. -/
import Derived.Test.YtcjnheabkdalbaaDoorGz
import Derived.Test.YtcjnheabkdalbaaDoorNf
import Derived.Test.YtcjnheabkdalbaaDoorShelf
import Derived.Shelf.Spec.TrailingZeros
import Derived.MakeChecks
namespace Go.Proofs.YtcjnheabkdalbaaDoor
open Go.RowKit Cop
set_option linter.unusedVariables false
set_option linter.unusedSimpArgs false
theorem laid_tab {H : Type} : (Rows.laid_math_bits_deBruijn64tab : DataW H) = .agg (Lib.deBruijn64tab.map fun (x : Nat) => .lit (.int .u8 (x : Int))) := rfl
/-- An array of bytes that reads as given. -/
theorem bytes_of_trod {H : Type} {enc : TypeId × Value → H} {P : Program} {w : World} {base : Nat} {spare : Nat → Bool} {held : Bool} {t e : TypeId} {n fuel : Nat} {cs : Array Value} {l : List Nat} {p : List MemPlace} (ht : P.underlying t = some (.array n e)) (he : P.underlying e = some (.int .u8)) (hce : P.cellsOf e = 1) (hc : P.cellsOf t = n)
    (h : DataW.trod enc P w base spare held fuel t cs.toList = some (.agg (l.map fun (x : Nat) => .lit (.int .u8 (x : Int))), p)) : cs = (l.map fun (x : Nat) => Value.int .u8 (x : Int)).toArray := by
  obtain ⟨xs, m, _, hx, hl, hxs, hget⟩ := DataW.trod_array ht h
  simp only [Prod.mk.injEq, DataW.agg.injEq] at hx
  have hln : l.length = n := by have := congrArg List.length hx.1; simpa [hxs] using this
  have hlen : cs.toList.length = n := hl.trans hc
  obtain ⟨cl⟩ := cs
  simp only at hlen hget
  have : cl = l.map fun (x : Nat) => Value.int .u8 (x : Int) := by
    refine List.ext_getElem (by simp [hlen, hln]) fun i h1 h2 => ?_
    have hi : i < n := by omega
    have hg := hget i hi
    rw [hce, Nat.mul_one, List.getElem?_eq_getElem (by omega)] at hg
    obtain ⟨k, hk, hx2, _⟩ := DataW.trod_int he hg
    have hk0 := congrArg (fun l : List Value => l[0]?) hk
    simp [List.getElem?_take, List.getElem?_drop, h1] at hk0
    have h3 := congrArg (fun l : List (DataW H) => l[i]?) hx.1
    simp [show i < l.length from by omega, show i < xs.length from by omega, hx2] at h3
    simp [hk0, h3]
  rw [this]
/-- The table of trailing zeros stands at block 1. -/
def TabZ (w : World) : Prop := TabAt 1 Lib.deBruijn64tab w ∧ 1 < w.heap.size
theorem tabz_of {W : World} (h : laidMetH Tryd.prog [("math/bits.deBruijn32tab", Rows.laid_math_bits_deBruijn32tab), ("math/bits.deBruijn64tab", Rows.laid_math_bits_deBruijn64tab)] W) : TabZ W := by
  have g0 : Tryd.prog.globalNamed "math/bits.deBruijn64tab" = some 1 := by kernel_rfl
  have t0 : (Tryd.prog.globals[1]?).map (·.type) = some 46 := by kernel_rfl
  rw [MakeChecks.laidMetH_plain _ _ _ (by kernel_rfl)] at h
  obtain ⟨ps, ⟨_, _, _, _, _, _, _, _, _, _, ⟨g, t, cs, f, p, q, hg, ht, hv, hd, _, _⟩, _⟩, _, _⟩ := h
  obtain rfl := Option.some.inj (g0.symm.trans hg)
  obtain rfl := Option.some.inj (t0.symm.trans ht)
  have hcs : cs = (Lib.deBruijn64tab.map fun (x : Nat) => Value.int .u8 (x : Int)).toArray := by
    rw [laid_tab] at hd
    exact bytes_of_trod Tryd.underlying46 Tryd.underlying5 (by kernel_rfl) (by kernel_rfl) hd
  have hheap : ∃ tt fr, W.heap[1]? = some (.cells cs tt fr) := by
    unfold World.var? at hv
    rw [g0] at hv
    simp only [Option.bind_some] at hv
    split at hv
    · rename_i c t f hh
      have : c = cs := by simpa using hv
      subst this
      exact ⟨_, _, hh⟩
    · simp at hv
  obtain ⟨tt, fr, hh⟩ := hheap
  refine ⟨fun j hj => ?_, (Array.getElem?_eq_some_iff.1 hh).1⟩
  rw [cell_of_row _ _ _ _ _ _ hh, hcs]
  have h2 : j < Lib.deBruijn64tab.length := hj
  simp [List.getD, h2]
theorem TabZ.below {w w' : World} (h : TabZ w) (hb : Below w.heap.size w w') : TabZ w' := by
  refine ⟨fun j hj => ?_, Nat.lt_of_lt_of_le h.2 hb.size⟩
  exact (World.cell?_of_block (w := w) (a := ⟨1, j, none⟩) (hb.block 1 h.2)).trans (h.1 j hj)
set_option maxHeartbeats 1000000 in
theorem tz64_core (x k idx : Nat) (w : World) (hx0 : ((x : Int) == 0) = false)
    (key : IntKind.u64.wrap (bits BinOp.and IntKind.u64 (x : Int) (IntKind.u64.wrap (-(x : Int))) * 285870213051353865) / 288230376151711744 = (idx : Int))
    (hi : idx < 64) (hk : k < 64) (hcell : w.cell? ⟨1, idx, none⟩ = some (.int .u8 k)) :
    Calls Tryd.prog 17 #[.int .u64 x] w fun e w' => e = .returned (.int .i64 k) ∧ w' = w := by
  go_enter Tryd.func17, Tryd.ntmps17
  go_wp2_with (simp only [key])
  go_ret
  exact ⟨rfl, rfl⟩
theorem tz64 (x : Nat) (hx : x < 18446744073709551616) (hx0 : x ≠ 0) (w : World) (hT : TabZ w) :
    Calls Tryd.prog 17 #[.int .u64 x] w fun e w' => e = .returned (.int .i64 (Lib.ctz 64 x)) ∧ w' = w := by
  obtain ⟨hlow, hk⟩ := Lib.lowest_bit 64 x hx0 hx
  obtain ⟨hi, htab⟩ := Lib.deBruijn64_at _ hk
  have hcell := hT.1 _ hi
  rw [htab] at hcell
  exact tz64_core x _ _ w (by simp; omega) (tz64_key x _ hx hx0 hlow) hi hk hcell
theorem tz (x : Nat) (hx : x < 18446744073709551616) (hx0 : x ≠ 0) (w : World) (hT : TabZ w) :
    Calls Tryd.prog 11 #[.int .u64 x] w fun e w' => e = .returned (.int .i64 (Lib.ctz 64 x)) ∧ w' = w := by
  have HC := Lib.hid (tz64 x hx hx0 w hT)
  have hw : IntKind.u64.wrap (x : Int) = (x : Int) := by rw [IntKind.wrap_u64]; omega
  go_enter Tryd.func11, Tryd.ntmps11
  go_wp2_with fail
  (with_reducible refine Calls.mono HC.out ?_)
  rintro e w' ⟨rfl, rfl⟩
  go_wp2
  go_ret
  exact ⟨rfl, rfl⟩
/-- The level as the code reckons it. -/
theorem lv_code {b n : Nat} (hb : b < 2 ^ 48) (hn : 1 ≤ n) (hn2 : n ≤ 2 ^ 48) : lv b n = if b = 0 then min (Lib.bitLen n - 1) 48 else min (min (Lib.bitLen n - 1) 48) (Lib.ctz 64 b) := by
  have e1 := bitLen_eq (x := n) hn (by omega)
  have h1 : 2 ^ Nat.log2 n ≤ n := Nat.log2_self_le (by omega)
  have h2 : n < 2 ^ (Nat.log2 n + 1) := Nat.lt_log2_self
  have hl : Nat.log2 n ≤ 48 := by
    rcases Nat.lt_or_ge 48 (Nat.log2 n) with h | h
    · have : 2 ^ 49 ≤ 2 ^ Nat.log2 n := Nat.pow_le_pow_right (by decide) h
      omega
    · exact h
  rw [e1, Nat.add_sub_cancel]
  obtain ⟨L, hL⟩ : ∃ L, Nat.log2 n = L := ⟨_, rfl⟩
  rw [hL] at h1 h2 hl ⊢
  split
  · rename_i h0
    subst h0
    rw [Nat.min_eq_left hl]
    exact lv_eq hn hl (Nat.zero_mod _) h1 (fun _ h => by omega)
  · rename_i h0
    have hz : Lib.ctz 64 b = Lib.ctzFrom 64 b := by unfold Lib.ctz; rw [if_neg h0]
    obtain ⟨m, hm, hf⟩ := Lib.ctzFrom_spec 64 b (by omega) (by omega)
    rw [hz, Nat.min_eq_left hl]
    obtain ⟨z, hz⟩ : ∃ z, Lib.ctzFrom 64 b = z := ⟨_, rfl⟩
    rw [hz] at hm ⊢
    have hdz : ∀ j, j ≤ z → b % 2 ^ j = 0 := fun j hj => by
      rw [hm]
      exact Nat.mod_eq_zero_of_dvd (Nat.dvd_trans (Nat.pow_dvd_pow 2 hj) (Nat.dvd_mul_right _ _))
    have hnz : b % 2 ^ (z + 1) ≠ 0 := fun h => by
      have hd := Nat.dvd_of_mod_eq_zero h
      rw [hm, Nat.pow_succ] at hd
      have := Nat.dvd_of_mul_dvd_mul_left (Nat.pow_pos (by decide)) hd
      omega
    have hpz : 2 ^ z ≤ b := by rw [hm]; exact Nat.le_mul_of_pos_right _ (by omega)
    by_cases hc : L ≤ z
    · rw [Nat.min_eq_left hc]
      exact lv_eq hn hl (hdz L hc) h1 (fun _ h => by omega)
    · rw [Nat.min_eq_right (by omega)]
      have hpl : 2 ^ z ≤ 2 ^ L := Nat.pow_le_pow_right (by decide) (by omega)
      exact lv_eq hn (by omega) (hdz z (Nat.le_refl _)) (by omega) (fun _ h => hnz h.1)
end Go.Proofs.YtcjnheabkdalbaaDoor
