/- slices.Grow of nothing, slices.Concat of bytes. -/
import Derived.Test.YtlhebogbbkjahaaDoorTc
import Derived.Lib.AppendZerosOnto
namespace Go.Proofs.YtlhebogbbkjahaaDoor
open Go.RowKit Cop
set_option linter.unusedVariables false
set_option linter.unusedSimpArgs false
set_option maxRecDepth 100000 in
set_option maxHeartbeats 4000000 in
theorem grow_nil (n : Nat) (w : World) (hn : n ≤ 140737488355328) :
    Calls Tryd.prog 92 #[.slice none 0 0, .int .i64 n] w fun e w' => ∃ v, e = .returned v ∧ Below w.heap.size w w' ∧ Ow w' w.heap.size 5 1 v 0 [] := by
  have h1 : ¬ ((n : Int) < 0) := by omega
  rcases Nat.eq_zero_or_pos n with h0 | h0
  · subst h0
    go_enter Tryd.func92, Tryd.ntmps92
    go_wp2
    go_ret
    exact ⟨_, rfl, Below.refl _ _, Ow.nil _ _ _ _ _⟩
  · obtain ⟨i0, hi0, hz0, hz1, hz2⟩ := info_parts info_u8
    have hrz : ∀ ty, (Builtin.append_ #[65, 3] ty #[.slice none 0 0, .int .i64 (n : Int)]).run Tryd.prog w = _ := fun ty =>
      Lib.run_append_grow_zeros w 65 3 ty 5 i0 (.int .u8 0) .i64 .i64 Tryd.underlying65 Tryd.underlying3 hi0 hz0 none 0 0 [] (by rw [hz1]; exact run_firstCells_none w.drew 1 0 0 0) n (by omega) (by rw [hz1]; decide) (by omega) (by omega)
        (by rw [hz2]; omega) (by rw [hz2, Nat.zero_add, nextslicecap_zero h0]; omega)
    have hGn : n ≤ grownCap w (0 + n) 0 5 := by have := grownCap_ge w (0 + n) 0 5; omega
    have hG63 := grownCap_le_maxLen w (0 + n) 0 5 (by unfold maxLen; omega)
    obtain ⟨G, hG⟩ : ∃ G, grownCap w (0 + n) 0 5 = G := ⟨_, rfl⟩
    rw [hG] at hrz hGn hG63
    have hG63' : G ≤ 9223372036854775807 := by unfold maxLen at hG63; omega
    have h2 : (n : Int) > 0 := by omega
    clear hG hG63
    go_enter Tryd.func92, Tryd.ntmps92
    go_wp2_with (at_builtin; refine Lib.wpList_append_run _ rfl _ _ _ _ rfl _ _ rfl rfl _ _ (hrz _) ?_)
    all_goals
      go_ret
      refine ⟨_, rfl, ((Below.refl _ _).drew).alloc (Nat.le_refl _) _, by simp, .inr ⟨w.heap.size, G, _, by omega, rfl, Nat.le_refl _, heap_alloc_new w.drew _, Nat.zero_le _, by unfold maxLen; omega, ?_, by simp⟩⟩
      simp [size_zeroCells, Value.cells]
      omega
theorem rdv_at {w : World} {A : Option Addr} {n c : Nat} {cs : List Value} (h : Rd w (.slice A n c) n 1 cs) (i : Nat) (hi : i < n) : ∃ b o u, A = some ⟨b, o, none⟩ ∧ cs[i]? = some u ∧ w.cell? ⟨b, o + i, none⟩ = some u := by
  obtain ⟨hl, A9, c9, he, _, _, _, hcell⟩ := h
  obtain ⟨b, o, h1, hcl⟩ := hcell (by omega)
  injection he with he1 _ _
  have hi2 : i < cs.length := by omega
  exact ⟨b, o, cs[i], he1.trans h1, List.getElem?_eq_getElem hi2, hcl i _ (List.getElem?_eq_getElem hi2)⟩
/-- All of some bytes' bytes. -/
def allB (L : List (Value × List UInt8)) : List UInt8 := L.flatMap Prod.snd
theorem allB_take (L : List (Value × List UInt8)) (i : Nat) (p : Value × List UInt8) (h : L[i]? = some p) : allB (L.take (i + 1)) = allB (L.take i) ++ p.2 := by
  obtain ⟨hi, rfl⟩ := List.getElem?_eq_some_iff.1 h
  rw [List.take_succ_eq_append_getElem hi]
  simp only [allB, List.flatMap_append, List.flatMap_cons, List.flatMap_nil, List.append_nil]
theorem allB_le (L : List (Value × List UInt8)) (i : Nat) : (allB (L.take i)).length ≤ (allB L).length := by
  have : allB L = allB (L.take i) ++ allB (L.drop i) := by
    unfold allB
    rw [← List.flatMap_append, List.take_append_drop]
  rw [this, List.length_append]
  omega
set_option maxRecDepth 100000 in
set_option maxHeartbeats 4000000 in
theorem concat_bytes (L : List (Value × List UInt8)) (vs : Value) (w : World) (hR : Rd w vs L.length 1 (L.map Prod.fst)) (hL : ∀ p ∈ L, Rd w p.1 p.2.length 1 (bl p.2)) (hsum : (allB L).length ≤ 140737488355328) :
    Calls Tryd.prog 79 #[vs] w fun e w' => ∃ v, e = .returned v ∧ Below w.heap.size w w' ∧ Ow w' w.heap.size 5 1 v (allB L).length (bl (allB L)) := by
  obtain ⟨A, c, rfl, hc, hcm⟩ := hR.shape
  have HR := Lib.hid hR
  have HL := Lib.hid hL
  have HA := Lib.hid (allB_take L)
  have HLE := Lib.hid (allB_le L)
  obtain ⟨f, hf⟩ : ∃ f : Nat → List UInt8, f = fun i => allB (L.take i) := ⟨_, rfl⟩
  have HF0 := Lib.hid (show f 0 = [] by rw [hf]; rfl)
  have HFn := Lib.hid (show f L.length = allB L by rw [hf]; simp only []; rw [List.take_of_length_le (Nat.le_refl _)])
  have HFS := Lib.hid (show ∀ i p, L[i]? = some p → f (i + 1) = f i ++ p.2 by intro i p h; rw [hf]; exact allB_take L i p h)
  have HFL := Lib.hid (show ∀ i, (f i).length ≤ (allB L).length by intro i; rw [hf]; exact allB_le L i)
  have hn63 : L.length ≤ 9223372036854775807 := by omega
  clear hR hL hf
  go_enter Tryd.func79, Tryd.ntmps79
  go_wp2
  go_loop [3, 11] (fun s3 s11 => ∃ i : Nat, i ≤ L.length ∧ s11 = .int .i64 i ∧ s3 = .int .i64 ((f i).length : Nat)) (fun _ s11 => L.length - (intOf s11).toNat)
  case atStart => exact ⟨0, by omega, rfl, by rw [HF0.out]; rfl⟩
  case round =>
    obtain ⟨i, hi, rfl, rfl⟩ := hrel
    have hfi := HFL.out i
    by_cases hlt : i < L.length
    · obtain ⟨b, o, u, hA, hu, hcell⟩ := rdv_at HR.out i hlt
      cases hA
      rw [List.getElem?_map] at hu
      obtain ⟨p, hp, rfl⟩ := Option.map_eq_some_iff.1 hu
      have hpr := HL.out p (List.mem_of_getElem? hp)
      obtain ⟨pv, pl⟩ := p
      obtain ⟨Ap, cp, hpe, hcp, hcp2⟩ := hpr.shape
      simp only at hpe hpr hcell
      subst hpe
      have hfs := HFS.out i _ hp
      have hfl := HFL.out (i + 1)
      have HFE := Lib.hid (show (f (i + 1)).length = (f i).length + pl.length by rw [hfs, List.length_append])
      have hb : (f i).length + pl.length ≤ 140737488355328 := by have := HFE.out; omega
      have hlt' : (i : Int) < (L.length : Int) := by omega
      clear hfs hu hp hpr
      go_wp2
      go_round
      case rel => exact ⟨i + 1, by omega, by go_num, by rw [HFE.out]; go_num⟩
      case measure => simp [intOf]; omega
    · have hin : i = L.length := by omega
      subst hin
      have hs2 : (f L.length).length ≤ 140737488355328 := by omega
      clear hlt hi
      go_wp2_with fail
      refine (grow_nil (f L.length).length w hs2).mono ?_
      rintro e w1 ⟨v1, rfl, b1, ho1⟩
      have HS1 := (Sep.start w).made b1 ho1
      clear b1 ho1
      go_wp2
      go_loopw [6, 27] (fun s6 s27 wr => ∃ i : Nat, i ≤ L.length ∧ s27 = .int .i64 i ∧ Sep w.heap.size w wr [.own s6 5 1 (f i).length (bl (f i))]) (fun _ s27 _ => L.length - (intOf s27).toNat)
      case atStart => exact ⟨0, by omega, rfl, by rw [HF0.out]; exact HS1⟩
      case round =>
        clear HS1
        obtain ⟨i, hi, rfl, HSi⟩ := hrel
        obtain ⟨A6, c6, rfl, _⟩ := (HSi.own 0 rfl).sl
        by_cases hlt : i < L.length
        · obtain ⟨b, o, u, hA, hu, hcell⟩ := rdv_at (HR.out.below HSi.hb) i hlt
          cases hA
          rw [List.getElem?_map] at hu
          obtain ⟨p, hp, rfl⟩ := Option.map_eq_some_iff.1 hu
          have hpr := (HL.out p (List.mem_of_getElem? hp)).below HSi.hb
          obtain ⟨pv, pl⟩ := p
          obtain ⟨Ap, cp, hpe, hcp, hcp2⟩ := hpr.shape
          simp only at hpe hpr hcell
          subst hpe
          have HFE := Lib.hid (HFS.out i _ hp)
          have HFE2 := Lib.hid (show (f i).length + pl.length = (f (i + 1)).length by rw [HFE.out, List.length_append])
          have hfl := HFL.out (i + 1)
          have hlt' : (i : Int) < (L.length : Int) := by omega
          clear hu hp
          go_wp2_with (refine wl_apb HSi 0 rfl rfl rfl hpr rfl rfl (f (i + 1)).length (f (i + 1)) HFE2.out HFE.out.symm (by omega) ?_)
          intro v2 w2 HS2 _
          clear HSi hpr
          go_wp2
          go_roundw
          case rel => exact ⟨i + 1, by omega, by go_num, HS2⟩
          case measure => simp [intOf]; omega
        · have hin : i = L.length := by omega
          subst hin
          rw [HFn.out] at HSi ⊢
          go_wp2
          go_ret
          exact ⟨_, rfl, HSi.hb, HSi.own 0 rfl⟩
theorem rd_list2 (w : World) (t : TypeId) (vs : List Value) (hm : vs.length ≤ 9223372036854775807) : Rd (w.alloc (.cells vs.toArray t)) (.slice (some ⟨w.heap.size, 0, none⟩) vs.length vs.length) vs.length 1 vs := by
  have := rd_row (n := vs.length) (size := 1) (heap_alloc_new w (.cells vs.toArray t)) (by simp) hm
  simpa using this
end Go.Proofs.YtlhebogbbkjahaaDoor
