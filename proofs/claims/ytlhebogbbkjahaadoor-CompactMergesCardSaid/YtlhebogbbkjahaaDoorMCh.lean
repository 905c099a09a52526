/- Proved here: neighbouring ranges of leaves, merged in either order of merging, make one range. No condition. The table of constants is tied to the program's text. -/
import Derived.Test.YtlhebogbbkjahaaDoorMCh1
import Derived.Test.YtlhebogbbkjahaaDoorMCh2
import Derived.Test.YtlhebogbbkjahaaDoorMCh0
import Derived.Test.YtlhebogbbkjahaaDoorOg
import Derived.Test.YtlhebogbbkjahaaDoorFCompactMerges
namespace Go.Proofs.YtlhebogbbkjahaaDoor
open Go.RowKit Go.Shelf Cop
set_option linter.unusedVariables false
set_option linter.unusedSimpArgs false
section
variable {w0 w w' W : World} {B : Nat} {R : List Pc}
theorem append_n (nd : List UInt8 → List UInt8 → List UInt8) (hnd : ∀ a b, (nd a b).length = 32) (g b e : Nat) (d : List UInt8) (v : Value) (s : List Prt) (hd : d.length = 32) (hgd : GoodR b e s)
    (hCN : ∀ w' a b, Below B w0 w' → a.length = 32 → b.length = 32 → Gives 42 #[.agg (bv a), .agg (bv b)] w' (.agg (bv (nd a b))))
    (HS : Sep B w0 w (.row g (rgv b e v) 61 :: .own v 99 34 s.length (rcs s) :: R)) :
    Calls Tryd.prog 21 #[.pointer (some ⟨g, 0, none⟩), .agg (bv d)] w fun r w' => (∃ er : Int, r = .returned (.int .i64 er) ∧ (er = 0 ↔ Fits e 0)) ∧ RgAt B w0 g b (appN nd (e, s) 0 d).1 (appN nd (e, s) 0 d).2 R w' := by
  have CA := Lib.hid (fun (w' : World) (R' : List Pc) (H : Sep B w0 w' (.row g (rgv b e v) 61 :: .own v 99 34 s.length (rcs s) :: R')) => appendNode_n nd hnd g b e 0 d v s hd hgd hCN H)
  clear hnd hgd hCN
  go_enter Tryd.func21, Tryd.ntmps21
  go_wp2_with (first | refine wl_bx HS rfl 33 _ rfl (bv d) rfl ?_)
  intro g3 w1 HS1
  clear HS
  go_wp2_with (first | refine wl_ld HS1 0 rfl rfl 33 _ rfl rfl Tryd.underlying33 rfl (dgS hd) ?_)
  refine (CA.out w1 _ ((HS1.front 2).front 2)).mono ?_
  rintro r w2 ⟨⟨er, rfl, he⟩, v2, HS2⟩
  have HE := Lib.hid he
  clear he HS1
  go_wp2
  go_ret
  exact ⟨⟨er, rfl, HE.out⟩, v2, HS2.sub (((List.Sublist.refl _).cons _).cons_cons _ |>.cons_cons _)⟩
set_option maxRecDepth 100000 in
set_option maxHeartbeats 4000000 in
theorem ranged_a (nd : List UInt8 → List UInt8 → List UInt8) (hnd : ∀ a b, (nd a b).length = 32) (l : List (List UInt8)) (hl : AllD l) (hll : l.length ≤ 4398046511104) (b e : Nat) (hbe : b ≤ e) (he : e ≤ l.length) (v0 : Value) (S : Nat → List Prt) (hS0 : S 0 = [])
    (hSs : ∀ k, b + k < e → appN nd (b + k, S k) 0 (l.getD (b + k) []) = (b + (k + 1), S (k + 1))) (hgood : ∀ k, b + k ≤ e → GoodR b (b + k) (S k))
    (hCN : ∀ w' a b, Below B w0 w' → a.length = 32 → b.length = 32 → Gives 42 #[.agg (bv a), .agg (bv b)] w' (.agg (bv (nd a b))))
    (HS : Sep B w0 w (.rd v0 l.length 32 (dcs l) :: R)) :
    Calls Tryd.prog 9 #[v0, .agg #[.int .i64 (b : Int), .int .i64 (e : Int)]] w fun r w' => ∃ g, r = .returned (.pointer (some ⟨g, 0, none⟩)) ∧ RgAt B w0 g b e (S (e - b)) (.rd v0 l.length 32 (dcs l) :: R) w' := by
  have CA := Lib.hid (fun (k : Nat) (hk : b + k < e) (g : Nat) (v : Value) (w' : World) (R' : List Pc) (H : Sep B w0 w' (.row g (rgv b (b + k : Nat) v) 61 :: .own v 99 34 (S k).length (rcs (S k)) :: R')) => by
    have := append_n nd hnd g b (b + k) (l.getD (b + k) []) v (S k) (by
      refine hl _ ?_
      simp only [List.getD, List.getElem?_eq_getElem (show b + k < l.length by omega), Option.getD_some]
      exact List.getElem_mem _) (hgood k (by omega)) hCN H
    rw [hSs k hk] at this
    exact this)
  have HF := Lib.hid (fun k (hk : b + k < e) => (show Fits (b + k) 0 from ⟨by omega, by omega, by omega⟩))
  have HL := Lib.hid hl
  have HS0' := Lib.hid hS0
  obtain ⟨A0, c0, rfl, hc0, hcm0⟩ := (HS.rd 0 rfl).shape
  clear hnd hl hS0 hSs hgood hCN
  go_enter Tryd.func9, Tryd.ntmps9
  go_wp2_with (first | refine wl_bx HS rfl 26 _ rfl #[.int .i64 (b : Int), .int .i64 (e : Int)] rfl ?_)
  intro g3 w1 HS1
  have cb := (row_cell (HS1.row 0 rfl) 0).trans (show (#[Value.int .i64 (b : Int), .int .i64 (e : Int)] : Array Value)[0]? = some (.int .i64 (b : Int)) from rfl)
  clear HS
  go_wp2_with fail
  refine (new_r (b : Int) (by omega) (by omega) HS1).mono ?_
  rintro r w2 ⟨g, rfl, HS2⟩
  have cb := (row_cell (HS2.row 2 rfl) 0).trans (show (#[Value.int .i64 (b : Int), .int .i64 (e : Int)] : Array Value)[0]? = some (.int .i64 (b : Int)) from rfl)
  clear HS1
  go_wp2
  clear cb
  go_loopw [7] (fun s7 wr => ∃ (k : Nat) (vk : Value), b + k ≤ e ∧ s7 = .int .i64 ((b + k : Nat) : Int) ∧ Sep B w0 wr (.row g (rgv b (b + k : Nat) vk) 61 :: .own vk 99 34 (S k).length (rcs (S k)) :: .row g3 #[.int .i64 (b : Int), .int .i64 (e : Int)] 26 :: .rd (.slice A0 l.length c0) l.length 32 (dcs l) :: R)) (fun s7 _ => e - (intOf s7).toNat)
  case atStart => exact ⟨0, _, by omega, rfl, by rw [HS0'.out]; exact HS2⟩
  case round =>
    clear HS2
    obtain ⟨k, vk, hk, rfl, HSi⟩ := hrel
    have ce := (row_cell (HSi.row 2 rfl) 1).trans (show (#[Value.int .i64 (b : Int), .int .i64 (e : Int)] : Array Value)[1]? = some (.int .i64 (e : Int)) from rfl)
    obtain ⟨i, hi⟩ : ∃ i, b + k = i := ⟨_, rfl⟩
    by_cases hlt : b + k < e
    · have hA := CA.out k hlt g vk
      have hF := HF.out k hlt
      obtain ⟨d, hdd⟩ : ∃ d, l.getD (b + k) [] = d := ⟨_, rfl⟩
      rw [hdd] at hA
      have hd : d.length = 32 := by
        rw [← hdd]
        refine HL.out _ ?_
        simp only [List.getD, List.getElem?_eq_getElem (show b + k < l.length by omega), Option.getD_some]
        exact List.getElem_mem _
      have h0 : 0 < l.length := by omega
      obtain ⟨b0, o0, rfl⟩ := rd_some (HSi.rd 3 rfl) h0
      have HLD := Lib.hid (show (Instr.loadAt 33 (.pointer (some ⟨b0, o0 + (b + k) * 32, none⟩))).run Tryd.prog wr = .ok (.agg (bv d)) wr from
        load_cells (bv d) (fun j u hu => by
          have hj : j < 32 := by have := (Array.getElem?_eq_some_iff.1 hu).1; rw [bv_size, hd] at this; exact this
          have := rd_cell (HSi.rd 3 rfl) (by omega) ((b + k) * 32 + j) (v := u) (by
            rw [dcs_at HL.out (b + k) (by omega) j hj, hdd]
            rw [← bv_toList]
            simpa using hu)
          rwa [← Nat.add_assoc] at this) 33 Tryd.underlying33 rfl (dgS hd))
      rw [hi] at HSi HLD hlt ⊢
      have hlti : (i : Int) < (e : Int) := by omega
      have hil : (i : Int) < (l.length : Int) := by omega
      have hi1 : (b + (k + 1) : Nat) = i + 1 := by omega
      rw [hi, hi1] at hA
      rw [hi] at hF
      have HA := Lib.hid hA
      have HFF := Lib.hid hF
      have HI1 := Lib.hid hi1
      clear hdd hA hF hi1 hk
      go_wp2_with (first | refine wl_ldx rfl 33 _ rfl _ rfl (.agg (bv d)) HLD.out ?_)
      refine (HA.out wr _ HSi).mono ?_
      rintro r w3 ⟨⟨er, rfl, hez⟩, v3, HS3⟩
      have her : er = 0 := hez.2 HFF.out
      subst her
      have HS3' := Lib.hid HS3
      clear HS3 hez ce HSi
      go_wp2
      go_roundw
      case rel => exact ⟨k + 1, v3, by rw [HI1.out]; omega, by rw [HI1.out]; go_num, by rw [HI1.out]; exact HS3'.out⟩
      case measure => simp [intOf]; omega
    · have hke : b + k = e := by omega
      have hii : i = e := by omega
      rw [hke] at HSi ⊢
      have hk2 : e - b = k := by omega
      have HK := Lib.hid hk2
      clear hi hke hk hk2
      go_wp2
      go_ret
      refine ⟨g, rfl, vk, ?_⟩
      rw [HK.out]
      exact HSi.sub (((List.Sublist.refl _).cons _).cons_cons _ |>.cons_cons _)
end
end Go.Proofs.YtlhebogbbkjahaaDoor
namespace Go.Proofs.YtlhebogbbkjahaaDoor
open Go.RowKit Go.Shelf Cop
set_option linter.unusedVariables false
set_option linter.unusedSimpArgs false
section
variable {P : Program} {w0 w : World} {B : Nat} {R : List Pc} {o : Oper} {a : Act} {K : Act → World → Prop} {Q : Exit → Act → World → Prop}
/-- One cell of a row is stored. -/
theorem ow_stx (HS : Sep B w0 w R) (i : Nat) {g : Nat} {old : Array Value} {t : TypeId} (hi : R[i]? = some (.row g old t)) (ty : TypeId) (ad x : Operand) (hop : o.op = .store ty ad x) (hs1 : (P.info? ty).map (·.size) = some 1) (off : Nat) (hoff : off < old.size) {y : Value} (had : a.eval ad = .pointer (some ⟨g, off, none⟩)) (hx : a.eval x = y)
    (h1 : y.oneCell' = true) (hyc : y.cells = #[y]) (h : Sep B w0 (w.setCell ⟨g, off, none⟩ y) (R.set i (.row g (old.setIfInBounds off y) t)) → K (a.put o.dst undef) (w.setCell ⟨g, off, none⟩ y)) : o.wp P a w K Q := by
  have hg := HS.row i hi
  have hcellj : w.cell? ⟨g, off, none⟩ = some old[off] := by rw [cell_of_row _ _ _ _ _ _ hg]; simp [hoff]
  have hfr : w.frozen? ⟨g, off, none⟩ = false := frozen_of_row _ _ _ _ _ hg
  have hrun : (storeVar ty ⟨g, off, none⟩ y).run P w = .ok () (w.setCell ⟨g, off, none⟩ y) := by
    unfold storeVar
    rw [Sem.run_bind, run_sizeOf_gen (P := P) w hs1]
    simp only [Result.andThen, hyc]
    cases y <;> simp [storeCells, store, Sem.run, add_plain, hcellj, hfr, Value.oneCell'] at h1 ⊢ <;> simp [Sem.run_bind', Sem.run, hcellj, hfr]
  unfold Oper.wp
  simp only [execOp, hop, had, hx, Instr.storeAt, Instr.sureAddr, Sem.run_bind, Sem.run_pure, Result.andThen_ok, hrun]
  exact h (HS.setCell i hi off y)
theorem wl_stx {ops : Array Oper} {rest : List Oper} {Q : Exit → Act → World → Prop} (HS : Sep B w0 w R) (i : Nat) {g : Nat} {old : Array Value} {t : TypeId} (hi : R[i]? = some (.row g old t)) (hgd : o.guard = none) (ty : TypeId) (ad x : Operand) (hop : o.op = .store ty ad x) (hs1 : (P.info? ty).map (·.size) = some 1) (off : Nat) (hoff : off < old.size) {y : Value} (had : a.eval ad = .pointer (some ⟨g, off, none⟩)) (hx : a.eval x = y)
    (h1 : y.oneCell' = true) (hyc : y.cells = #[y]) (h : Sep B w0 (w.setCell ⟨g, off, none⟩ y) (R.set i (.row g (old.setIfInBounds off y) t)) → wpList P ops Q rest (a.put o.dst undef) (w.setCell ⟨g, off, none⟩ y)) : wpList P ops Q (o :: rest) a w :=
  wpList_plain hgd fun _ hK => ow_stx HS i hi ty ad x hop hs1 off hoff had hx h1 hyc fun h2 => hK _ _ (h h2)
theorem run_results_cell {fn : Func} {a : Act} {w : World} {p : Tmp} {ty : TypeId} (h : fn.results = #[.cell p ty]) (g : Nat) (hp : a.tmps.getD p undef = .pointer (some ⟨g, 0, none⟩)) (v : Value) (hc : w.cell? ⟨g, 0, none⟩ = some v) (hagg : ∀ w, (isAgg ty).run P w = .ok false w) :
    (results fn a.tmps).run P w = .ok v w := by
  have hp2 : a.tmps[p]?.getD undef = .pointer (some ⟨g, 0, none⟩) := by rw [← hp]; simp
  simp only [results, h]
  simp [hp2, asAddr, loadVar, hagg, load, hc, Sem.run, Result.andThen]
/-- A way out behind the loop. -/
theorem ret_cellD {F : Fence} {n : Nat} {fn : Func} {R : Ending → World → Prop} {a : Act} {w : World} {p : Tmp} {ty : TypeId} (h : fn.results = #[.cell p ty]) (D : Nat) (hd0 : a.defers = [{ target := .collected D, args := #[] }]) (hD : w.heap[D]? = some (.deferred (some []))) (g : Nat) (hp : a.tmps.getD p undef = .pointer (some ⟨g, 0, none⟩))
    (cs : Array Value) (t : TypeId) (hg : w.heap[g]? = some (.cells cs t (0, 0))) (v : Value) (hv : cs[0]? = some v) (hagg : ∀ w, (isAgg ty).run P w = .ok false w)
    (hR : R (.returned v) (w.putObj D (.deferred none))) : bodyPostM F n P fn R .ret a w := by
  show LeavesInM F n P fn a.tmps R a.defers .returning w
  rw [hd0]
  refine ⟨by simp, .inl ⟨_, _, rfl, run_takeDeferred hD, ?_⟩⟩
  have hne : g ≠ D := fun e => by rw [e, hD] at hg; cases hg
  have hg2 : (w.putObj D (.deferred none)).heap[g]? = some (.cells cs t (0, 0)) := (World.putObj_heap_other hne).trans hg
  exact ⟨_, run_results_cell h g hp v (by rw [row_cell hg2]; exact hv) hagg, hR⟩
theorem keeps_setCell {W : World} {g off : Nat} {v : Value} {old : Array Value} {t : TypeId} {fr : Nat × Nat} (h : W.heap[g]? = some (.cells old t fr)) : KeepsOthers W (W.setCell ⟨g, off, none⟩ v) := by
  refine ⟨by simp [World.setCell], fun k o hk ho => ?_⟩
  by_cases e : k = g
  · subst e; rw [h] at hk; injection hk with hk; subst hk; cases ho
  · rw [Below.heap_setCell W _ v k (fun e2 => e e2)]; exact hk
end
end Go.Proofs.YtlhebogbbkjahaaDoor
namespace Cop
set_option linter.unusedVariables false
section
variable (nd : List UInt8 → List UInt8 → List UInt8) (em : List UInt8)
/-- The stack behind k leaves from b on. -/
def stk (l : List (List UInt8)) (b : Nat) : Nat → List Prt
  | 0 => []
  | k + 1 => (appN nd (b + k, stk l b k) 0 (l.getD (b + k) [])).2
theorem fits0 {e : Nat} (h : e + 1 ≤ 281474976710656) : Fits e 0 := ⟨by omega, by omega, by omega⟩
theorem stk_step (l : List (List UInt8)) (b k : Nat) (h : b + k + 1 ≤ 281474976710656) : appN nd (b + k, stk nd l b k) 0 (l.getD (b + k) []) = (b + (k + 1), stk nd l b (k + 1)) := by
  show _ = (b + (k + 1), (appN nd (b + k, stk nd l b k) 0 (l.getD (b + k) [])).2)
  unfold appN
  rw [if_pos (show Fits (b + k, stk nd l b k).1 0 from fits0 h)]
  rfl
theorem stk_carry (l : List (List UInt8)) (b k : Nat) (h : b + k + 1 ≤ 281474976710656) : stk nd l b (k + 1) = carry nd (stk nd l b k) (0, b + k, l.getD (b + k) []) := by
  show (appN nd (b + k, stk nd l b k) 0 (l.getD (b + k) [])).2 = _
  unfold appN
  rw [if_pos (show Fits (b + k, stk nd l b k).1 0 from fits0 h)]
  simp
theorem getD_32 {l : List (List UInt8)} (hl : ∀ x ∈ l, x.length = 32) {k : Nat} (hk : k < l.length) : (l.getD k []).length = 32 := by
  refine hl _ ?_
  simp only [List.getD, List.getElem?_eq_getElem hk, Option.getD_some]
  exact List.getElem_mem _
theorem good_stk (hnd : ∀ a b, (nd a b).length = 32) {l : List (List UInt8)} (hl : ∀ x ∈ l, x.length = 32) (hll : l.length ≤ 281474976710656) (b : Nat) : ∀ k, b + k ≤ l.length → GoodR b (b + k) (stk nd l b k)
  | 0, h => good_nil (by omega)
  | k + 1, h => by
    have ih := good_stk hnd hl hll b k (by omega)
    have := good_appN nd hnd (x := (b + k, stk nd l b k)) 0 ih (getD_32 hl (k := b + k) (by omega))
    rw [stk_step nd l b k (by omega)] at this
    exact this
theorem tells_stk {l : List (List UInt8)} (hll : l.length ≤ 281474976710656) (b : Nat) : ∀ k, b + k ≤ l.length → Tells nd em l (stk nd l b k)
  | 0, h => fun _ hx => by cases hx
  | k + 1, h => by
    rw [stk_carry nd l b k (by omega)]
    refine tells_carry nd em l _ _ (tells_stk hll b k (by omega)) (by show (b + k + 1) * 2 ^ 0 ≤ l.length; omega) ?_
    show l.getD (b + k) [] = root nd em ((l.drop ((b + k) * 2 ^ 0)).take (2 ^ 0))
    rw [Nat.pow_zero, Nat.mul_one, List.drop_eq_getElem_cons (show b + k < l.length by omega)]
    simp only [List.take_succ_cons, List.take_zero, root_one]
    simp [List.getD, List.getElem?_eq_getElem (show b + k < l.length by omega)]
/-- Where the part behind some others begins. -/
def atN (b : Nat) (ps : List Prt) : Nat := b + (ps.map fun p => 2 ^ p.1).sum
theorem atN_snoc (b : Nat) (ps : List Prt) (p : Prt) : atN b (ps ++ [p]) = atN b ps + 2 ^ p.1 := by simp [atN]; omega
theorem fw_at {e : Nat} : ∀ (ps : List Prt) (p : Prt) (rest : List Prt) (b : Nat), Fw b (nds (ps ++ p :: rest)) e → p.2.1 * 2 ^ p.1 = atN b ps ∧ atN b ps + 2 ^ p.1 ≤ e
  | [], p, rest, b, h => by
    have h1 : b = p.2.1 * 2 ^ p.1 := h.1
    have h2 := fw_le _ _ _ h.2
    dsimp only at h2
    rw [Nat.add_mul, Nat.one_mul] at h2
    simp only [atN, List.map_nil, List.sum_nil, Nat.add_zero]
    omega
  | q :: ps, p, rest, b, h => by
    have h1 : b = q.2.1 * 2 ^ q.1 := h.1
    have h2 : Fw ((q.2.1 + 1) * 2 ^ q.1) (nds (ps ++ p :: rest)) e := h.2
    have := fw_at ps p rest _ h2
    have e1 : (q.2.1 + 1) * 2 ^ q.1 = b + 2 ^ q.1 := by rw [Nat.add_mul, Nat.one_mul, ← h1]
    rw [e1] at this
    have e2 : atN b (q :: ps) = atN (b + 2 ^ q.1) ps := by simp [atN]; omega
    rw [e2]
    exact this
theorem fw_end {e : Nat} : ∀ (ps : List Prt) (b : Nat), Fw b (nds ps) e → atN b ps = e
  | [], b, h => by
    have h' : b = e := h
    simpa [atN] using h'
  | q :: ps, b, h => by
    have h1 : b = q.2.1 * 2 ^ q.1 := h.1
    have h2 : Fw ((q.2.1 + 1) * 2 ^ q.1) (nds ps) e := h.2
    have := fw_end ps _ h2
    have e1 : (q.2.1 + 1) * 2 ^ q.1 = b + 2 ^ q.1 := by rw [Nat.add_mul, Nat.one_mul, ← h1]
    rw [e1] at this
    rw [← this]
    simp [atN]; omega
/-- Each part of a range of leaves is the tree's. -/
theorem part_tree (hnd : ∀ a b, (nd a b).length = 32) {l : List (List UInt8)} (hl : ∀ x ∈ l, x.length = 32) (hll : l.length ≤ 1048576) {b : Nat} (hb : b ≤ l.length) (ps : List Prt) (p : Prt) (rest : List Prt) (h : ps ++ [p] ++ rest = (stk nd l b (l.length - b)).reverse) :
    p.1 ≤ 40 ∧ p.2.1 * 2 ^ p.1 = atN b ps ∧ atN b ps + 2 ^ p.1 ≤ l.length ∧ p.2.2 = root nd em ((l.take (atN b ps + 2 ^ p.1)).drop (atN b ps)) := by
  have hg := good_stk nd hnd hl (by omega) b (l.length - b) (by omega)
  have ht := tells_stk nd em (l := l) (by omega) b (l.length - b) (by omega)
  have hf := good_fw hg
  have h' : ps ++ p :: rest = (stk nd l b (l.length - b)).reverse := by rw [← h]; simp
  rw [← h'] at hf
  obtain ⟨h1, h2⟩ := fw_at ps p rest b hf
  have hp : p ∈ stk nd l b (l.length - b) := by
    rw [← List.mem_reverse, ← h']
    simp
  have h3 := ht p hp
  have h4 : atN b ps + 2 ^ p.1 ≤ l.length := by omega
  refine ⟨?_, h1, h4, ?_⟩
  · rcases Nat.lt_or_ge 40 p.1 with h5 | h5
    · have : 2 ^ 41 ≤ 2 ^ p.1 := Nat.pow_le_pow_right (by decide) h5
      omega
    · exact h5
  · rw [h3, h1, List.drop_take, Nat.add_sub_cancel_left]
theorem root_stk (hnd : ∀ a b, (nd a b).length = 32) {l : List (List UInt8)} (hl : ∀ x ∈ l, x.length = 32) (hll : l.length ≤ 281474976710656) : foldS nd (stk nd l 0 l.length) em = root nd em l := by
  rcases Nat.eq_zero_or_pos l.length with h0 | h0
  · have : l = [] := List.eq_nil_of_length_eq_zero h0
    subst this
    rw [root_nil]
    rfl
  · have hg := good_stk nd hnd hl hll 0 l.length (by omega)
    rw [Nat.zero_add] at hg
    exact foldS_root nd em l hll hg.2.2.1 (tells_stk nd em hll 0 l.length (by omega)) h0
end
end Cop
namespace Go.Proofs.YtlhebogbbkjahaaDoor
open Go.RowKit Go.Shelf Cop
set_option linter.unusedVariables false
set_option linter.unusedSimpArgs false
/-- A number, put between 0 and n - 1. -/
theorem into (a : Int) (n : Nat) (h : 0 < n) : ∃ r : Nat, r < n ∧ Int.tmod (Int.tmod a n + n) n = r ∧ (Int.tmod a n + n) % n = (r : Int) ∧ Int.tmod a n % n = (r : Int) ∧ -(n : Int) < Int.tmod a n ∧ Int.tmod a n < n := by
  have h1 : (Int.tmod a n).natAbs < n := by
    rw [Int.natAbs_tmod]
    exact Nat.mod_lt _ h
  have h2 : 0 ≤ Int.tmod a n % n := Int.emod_nonneg _ (by omega)
  have h3 : Int.tmod a n % n < n := Int.emod_lt_of_pos _ (by omega)
  have h4 : (Int.tmod a n + n) % n = Int.tmod a n % n := Int.add_emod_right _ _
  refine ⟨(Int.tmod a n % n).toNat, by omega, ?_, by omega, by omega, by omega, by omega⟩
  rw [Int.tmod_eq_emod_of_nonneg (by omega), h4]
  omega
theorem fn2_nil9 (f : FuncId) (bs : Array Value) (w : World) : (binOp .eql 28 (.func (.func f) #[] bs) .nilFunc).run Tryd.prog w = .ok (.bool false) w := by
  simp only [binOp, Op.equal]
  rw [show Op.maxDepth = 9999 + 1 from rfl]
  unfold Op.equalIn
  simp only [Sem.run_bind, run_underlying Tryd.underlying28, Result.andThen_ok, Sem.run_pure]
theorem w64 {x : Int} (h0 : -4611686018427387904 ≤ x) (h1 : x ≤ 4611686018427387904) : wrap64 x = x := by unfold wrap64; omega
theorem pow40 {n : Nat} (h : n ≤ 40) : 2 ^ n ≤ 1099511627776 := Nat.le_trans (Nat.pow_le_pow_right (by decide) h) (by decide)
/-- The first parts. -/
def Pre (T : List Prt) (pre : List QK) : Prop := ∃ rest, pre.map (fun x => x.1) ++ rest = T
section
variable {w0 w w' W : World} {B : Nat} {R : List Pc}
/-- What stays through the rounds of CompactTree. -/
def TreeI (B : Nat) (w0 : World) (gat b : Nat) (T : List Prt) (R : List Pc) (pre : List QK) (W : World) : Prop := ∃ z : Int, Sep B w0 W (.row gat #[.int .i64 z] 3 :: R) ∧ (Pre T pre → z = (atN b (pre.map fun x => x.1) : Nat))
theorem own_treeI {gat b n : Nat} {T : List Prt} (hn : B ≤ n) (hpl : plainL R = true) : OwnFrom n (TreeI B w0 gat b T R) := fun pre W W' row h hg hr => by
  obtain ⟨z, hS, hz⟩ := h
  exact ⟨z, hS.other hpl hg fun r e => ⟨Nat.le_trans hn (hr r e).1, (hr r e).2⟩, hz⟩
set_option maxRecDepth 100000 in
set_option maxHeartbeats 8000000 in
theorem tree_walk (nd : List UInt8 → List UInt8 → List UInt8) (em : List UInt8) (hnd : ∀ a b, (nd a b).length = 32) (hem : em.length = 32) (l : List (List UInt8)) (hl : AllD l) (hll : l.length ≤ 1048576) (v0 : Value) (beg : Int) (hR : Rd w v0 l.length 32 (dcs l))
    (hCN : ∀ w' a b, Below w.heap.size w w' → a.length = 32 → b.length = 32 → Gives 42 #[.agg (bv a), .agg (bv b)] w' (.agg (bv (nd a b))))
    (hCE : ∀ w', Below w.heap.size w w' → Gives 40 #[] w' (.agg (bv em)))
    (hCR : ∀ w' v, Below w.heap.size w w' → Rd w' v l.length 32 (dcs l) → Gives 13 #[v] w' (.agg (bv (root nd em l))))
    (hRL : (root nd em l).length = 32)
    (hCS : ∀ (i j : Nat), i < j → j ≤ l.length → (root nd em ((l.take j).drop i)).length = 32 ∧ ∀ w' v, Below w.heap.size w w' → Rd w' v l.length 32 (dcs l) → Gives 11 #[v, .agg #[.int .i64 (i : Int), .int .i64 (j : Int)]] w' (.tuple #[.agg (bv (root nd em ((l.take j).drop i))), .int .i64 0]))
    (hCB : ∀ (b e : Int), ∃ (X : List UInt8) (E : Int), X.length = 32 ∧ ∀ w' v, Below w.heap.size w w' → Rd w' v l.length 32 (dcs l) → Gives 11 #[v, .agg #[.int .i64 b, .int .i64 e]] w' (.tuple #[.agg (bv X), .int .i64 E])) :
    Gives 3 #[v0, .int .i64 beg] w (.bool true) := by
  obtain ⟨b, hb, e1, e2, e3, e4, e5⟩ := into beg (l.length + 1) (by omega)
  have HS0 := (Sep.start w).arg0 hR
  obtain ⟨A0, c0, rfl, hc0, hcm0⟩ := hR.shape
  -- the ranges
  obtain ⟨SA, hSA⟩ : ∃ S : Nat → List Prt, stk nd l b = S := ⟨_, rfl⟩
  obtain ⟨SB, hSB⟩ : ∃ S : Nat → List Prt, stk nd l 0 = S := ⟨_, rfl⟩
  have RA := Lib.hid (fun (w' : World) (R' : List Pc) (v : Value) (H : Sep w.heap.size w w' (.rd v l.length 32 (dcs l) :: R')) => by
    have := ranged_a nd hnd l hl (by omega) b l.length (by omega) (Nat.le_refl _) v (stk nd l b) rfl (fun k hk => stk_step nd l b k (by omega)) (fun k hk => good_stk nd hnd hl (by omega) b k hk) hCN H
    rw [hSA] at this
    exact this)
  have RB := Lib.hid (fun (w' : World) (R' : List Pc) (v : Value) (H : Sep w.heap.size w w' (.rd v l.length 32 (dcs l) :: R')) => by
    have := ranged_a nd hnd l hl (by omega) 0 l.length (by omega) (Nat.le_refl _) v (stk nd l 0) rfl (fun k hk => stk_step nd l 0 k (by omega)) (fun k hk => by have := good_stk nd hnd hl (by omega) 0 k (by omega); exact this) hCN H
    rw [hSB] at this
    exact this)
  have hGA := good_stk nd hnd hl (by omega) b (l.length - b) (by omega)
  have hGB := good_stk nd hnd hl (by omega) 0 l.length (by omega)
  have hPT := fun ps p rest h => part_tree nd em hnd hl hll (b := b) (by omega) ps p rest h
  have hRS := root_stk nd em hnd (l := l) hl (by omega)
  have hFE := fw_end _ _ (good_fw hGA)
  rw [hSA] at hGA hPT hFE
  rw [hSB] at hGB hRS
  rw [show b + (l.length - b) = l.length by omega] at hGA hFE
  have HGA := Lib.hid hGA
  have HGB := Lib.hid hGB
  have HPT := Lib.hid hPT
  have HRS := Lib.hid hRS
  have HFE := Lib.hid hFE
  have CN := Lib.hid hCN
  have CE := Lib.hid hCE
  have CR := Lib.hid hCR
  have CS := Lib.hid hCS
  have CB := Lib.hid hCB
  have HND := Lib.hid hnd
  have HEM := Lib.hid hem
  have HRL := Lib.hid hRL
  have hbl : b ≤ l.length := by omega
  have hbi : (b : Int) ≤ 1048576 := by omega
  have hli : (l.length : Int) ≤ 1048576 := by omega
  have hn0 : ¬ (l.length : Int) + 1 = 0 := by omega
  have hn0b : ((l.length : Int) + 1 == 0) = false := by rw [beq_eq_false_iff_ne]; exact hn0
  have e1' : Int.tmod (Int.tmod beg ((l.length : Int) + 1) + ((l.length : Int) + 1)) ((l.length : Int) + 1) = (b : Int) := by have := e1; push_cast at this; exact this
  have e4' : -((l.length : Int) + 1) < Int.tmod beg ((l.length : Int) + 1) := by have := e4; push_cast at this; exact this
  have e5' : Int.tmod beg ((l.length : Int) + 1) < (l.length : Int) + 1 := by have := e5; push_cast at this; exact this
  clear hSA hSB hGA hGB hPT hRS hFE hCN hCE hCR hCS hCB hnd hem hRL e1 e2 e3 e4 e5 hR
  refine calls_marks Tryd.func3 rfl ?_
  simp only [Tryd.ntmps3, List.size_toArray, List.length_cons, List.length_nil, Nat.reduceAdd, Nat.reduceSub, Array.replicate_succ, Array.replicate_zero, List.push_toArray, List.append_toArray, List.nil_append, List.cons_append]
  go_wp2_with (first | refine wlc_bx HS0 rfl 22 _ rfl (.slice A0 l.length c0) rfl rfl ?_)
  intro g2 w1 HS1
  clear HS0
  go_wp2_with (first | refine wlc_al HS1 rfl 4 rfl (.bool false) rfl (by kernel_rfl) ?_)
  intro g4 w2 HS2
  have c2 := (row_cell (HS2.row 1 rfl) 0).trans (show (#[Value.slice A0 l.length c0] : Array Value)[0]? = some (.slice A0 l.length c0) from rfl)
  clear HS1
  go_wp2_with fail
  refine (RA.out w2 _ _ (HS2.front 2)).mono ?_
  rintro r w3 ⟨gr, rfl, vr, HS3⟩
  have c2 := (row_cell (HS3.row 4 rfl) 0).trans (show (#[Value.slice A0 l.length c0] : Array Value)[0]? = some (.slice A0 l.length c0) from rfl)
  clear HS2
  go_wp2_with fail
  refine (RB.out w3 _ _ (HS3.front 2)).mono ?_
  rintro r w4 ⟨ga, rfl, va, HS4⟩
  clear HS3 c2
  go_wp2_with (first | refine wlc_al HS4 rfl 3 rfl (.int .i64 0) rfl (by kernel_rfl) ?_)
  intro gat w5 HS5
  clear HS4
  go_wp2_with (first | refine wl_stc HS5 0 rfl rfl 3 _ _ rfl (by kernel_rfl) 0 (by simp) (y := .int .i64 (b : Int)) rfl rfl rfl rfl ?_)
  intro w6 HS6
  clear HS5
  go_wp2_with fail
  refine (all_c _ w6).mono ?_
  rintro r w7 ⟨rfl, rfl⟩
  have hfn := fun W => fn2_nil9 36 #[.pointer (some ⟨w6.heap.size, 0, none⟩)] W
  have HS7 := HS6.skip (.cells #[.pointer (some ⟨gr, 0, none⟩)] 23)
  generalize w6.alloc (.cells #[.pointer (some ⟨gr, 0, none⟩)] 23) = w7 at HS7 ⊢
  clear HS6
  go_wp2_with fail
  refine (all_c _ w7).mono ?_
  rintro r w8 ⟨rfl, rfl⟩
  have HS8 := HS7.skip (.cells #[.pointer (some ⟨gr, 0, none⟩)] 23)
  have hcb : (w7.alloc (.cells #[.pointer (some ⟨gr, 0, none⟩)] 23)).cell? ⟨w7.heap.size, 0, none⟩ = some (.pointer (some ⟨gr, 0, none⟩)) := by
    rw [row_cell (heap_alloc_new w7 _) 0]; rfl
  obtain ⟨Bs, hBs⟩ : ∃ k, w7.heap.size = k := ⟨_, rfl⟩
  rw [hBs] at hcb ⊢
  generalize w7.alloc (.cells #[.pointer (some ⟨gr, 0, none⟩)] 23) = wb at HS8 hcb ⊢
  clear HS7 hBs hfn
  go_wp2_with fail
  have hgl : gat < wb.heap.size := (Array.getElem?_eq_some_iff.1 (HS8.row 0 rfl)).1
  have hown : ∀ k, Owns gat 0 wb k → k < wb.heap.size := fun k hk => by
    rcases hk with rfl | ⟨u, hu, hv⟩
    · exact hgl
    · rw [row_cell (HS8.row 0 rfl)] at hu
      have hu2 : Value.int .i64 (b : Int) = u := by simpa using hu
      subst hu2
      cases hv
  have hst := all1_stopsR 8 (by decide) Bs gat 0 gr b l.length vr (SA (l.length - b)) HGA.out.2.2.2 (by have := HGA.out.len; omega) wb hgl hcb (HS8.row 4 rfl) (HS8.own 5 rfl).rd hown
  have hBw : w.heap.size ≤ wb.heap.size := HS8.hB
  obtain ⟨T, hT⟩ : ∃ T, (SA (l.length - b)).reverse = T := ⟨_, rfl⟩
  have hst2 : SeqStopsK Fence.wide 8 Tryd.prog 36 #[.pointer (some ⟨Bs, 0, none⟩)] qkE (Stays wb.heap.size gat 0) (fun ys => ys.map (fun x => x.1) = T) (Pre T) (SA (l.length - b)).length wb := by
    rw [hT] at hst
    exact hst
  clear hcb hown hst
  refine rf_intro ?_
  intro a0 ha0
  refine (wpIn_wide (n := 9)).1 ?_
  refine wpIn_rangeFunc_ownH (F := Fence.wide) rfl (by decide) (gf := 36) (lb := #[.pointer (some ⟨Bs, 0, none⟩)]) (by rw [ha0]; rfl) trivial (enters_of Tryd.func36 (by kernel_rfl) rfl)
    hst2 Stays.trans (stays_b hgl) (Below.refl _ _) (fun _ => rfl)
    (fun pre W => TreeI w.heap.size w gat b T [.row ga (rgv (0 : Nat) l.length va) 61, .own va 99 34 (SB l.length).length (rcs (SB l.length)), .rd (.slice A0 l.length c0) l.length 32 (dcs l), .row gr (rgv b l.length vr) 61, .own vr 99 34 (SA (l.length - b)).length (rcs (SA (l.length - b))), .row g4 #[.bool false] 4, .row g2 #[.slice A0 l.length c0] 22] pre W ∧ wb.heap.size ≤ W.heap.size) (fun _ pre _ => ¬ Pre T pre)
    (OwnFrom.and (own_treeI hBw rfl) (fun _ W W' row hs hg hr => Nat.le_trans hs hg.size)) (fun _ _ _ _ _ hs _ _ => hs) ⟨⟨b, HS8, fun _ => rfl⟩, Nat.le_refl _⟩
    (fun x a' W => ∃ g5 g6, PairAt wb.heap.size x g5 g6 W ∧ a' = { tmps := ((((#[48, 49] : Array Tmp).zip (qkE x)).foldl (fun t (p, v) => t.setIfInBounds p v) a0.tmps).setIfInBounds 9 (.pointer (some ⟨g5, 0, none⟩))).setIfInBounds 10 (.pointer (some ⟨g6, 0, none⟩)), defers := [] })
    (fun x a' _ W W' row hs hg hr => by
      obtain ⟨g5, g6, h1, h2⟩ := hs
      exact ⟨g5, g6, own_pair () W W' row h1 hg hr, h2⟩) ?assign ?body ?done ?stop
  case assign =>
    rintro li pre x W K ⟨⟨z, HSq, hz⟩, hsz⟩ hK
    rw [qkA_eq, ha0]
    simp only [List.setIfInBounds_toArray, List.set_cons_succ, List.set_cons_zero]
    have hxl := x.2
    refine wpIn_seq_k fun K1 hK1 => ?_
    refine region_round (by rintro ⟨_, _, h⟩; exact h) (by kernel_rfl) ?_
    go_wp2_with (first | refine wl_alx rfl 31 rfl #[.int .i64 0, .int .i64 0] (by kernel_rfl) ?_ | refine wl_store_row rfl 31 _ _ rfl W.heap.size rfl 31 #[.int .i64 0, .int .i64 0] #[.int .i64 (x.1.1 : Int), .int .i64 (x.1.2.1 : Int)] rfl (heap_alloc_new W _) (by kernel_rfl) rfl (by simp [Value.oneCell']) ?_)
    obtain ⟨hb1, hr1⟩ := new_row W #[.int .i64 0, .int .i64 0] #[.int .i64 (x.1.1 : Int), .int .i64 (x.1.2.1 : Int)] 31
    obtain ⟨g5, hg5⟩ : ∃ k, W.heap.size = k := ⟨_, rfl⟩
    rw [hg5] at hr1
    simp only [hg5] at hb1 ⊢
    generalize (W.alloc (.cells #[.int .i64 0, .int .i64 0] 31)).setRow g5 #[.int .i64 (x.1.1 : Int), .int .i64 (x.1.2.1 : Int)] = W1 at hb1 hr1 ⊢
    refine region_round (by rintro ⟨_, _, h⟩; exact h) (by kernel_rfl) ?_
    go_wp2_with (first | refine wl_alx rfl 33 rfl (bv (List.replicate 32 0)) (by kernel_rfl) ?_ | refine wl_store_row rfl 33 _ _ rfl W1.heap.size rfl 33 (bv (List.replicate 32 0)) (bv x.1.2.2) rfl (heap_alloc_new W1 _) (dgS hxl) (dgE rfl hxl) (bv_one _) ?_)
    obtain ⟨hb2, hr2⟩ := new_row W1 (bv (List.replicate 32 0)) (bv x.1.2.2) 33
    obtain ⟨g6, hg6⟩ : ∃ k, W1.heap.size = k := ⟨_, rfl⟩
    have hs1 := hb1.size
    rw [hg6] at hr2
    simp only [hg6] at hb2 ⊢
    have h56 : g5 < g6 := by rw [← hg6]; exact (Array.getElem?_eq_some_iff.1 hr1).1
    generalize (W1.alloc (.cells (bv (List.replicate 32 0)) 33)).setRow g6 (bv x.1.2.2) = W2 at hb2 hr2 ⊢
    have hb3 : Below g5 W W2 := hb1.trans (hb2.mono (by omega))
    have hb4 : Below W.heap.size W W2 := by rw [hg5]; exact hb3
    refine hK _ _ ((keeps_below hb4).from _) (stays_below (Nat.lt_of_lt_of_le hgl hsz) hb4) ⟨⟨z, HSq.keep hb4, hz⟩, Nat.le_trans hsz hb4.size⟩ ⟨g5, g6, ⟨by omega, by omega, (hb2.block g5 h56).trans hr1, hr2⟩, ?_⟩
    rw [qkA_eq, ha0]
    simp only [Act.put, List.setIfInBounds_toArray, List.set_cons_succ, List.set_cons_zero]
  case body =>
    rintro li pre x a' W hl9 hr ⟨⟨z, HSq, hz⟩, hsz⟩ ⟨g5, g6, ⟨h5, h6, r5, r6⟩, rfl⟩ hlen
    have hxl := x.2
    have hP : Pre T (pre ++ [x]) → ∃ A : Nat, z = (A : Int) ∧ x.1.1 ≤ 40 ∧ x.1.2.1 * 2 ^ x.1.1 = A ∧ A + 2 ^ x.1.1 ≤ l.length ∧ x.1.2.2 = root nd em ((l.take (A + 2 ^ x.1.1)).drop A) ∧ atN b ((pre ++ [x]).map fun x => x.1) = A + 2 ^ x.1.1 := fun ⟨rest, hrest⟩ => by
      rw [List.map_append] at hrest
      have h1 : Pre T pre := ⟨x.1 :: rest, by rw [← hrest]; simp⟩
      have h2 := HPT.out (pre.map fun x => x.1) x.1 rest (by rw [hT, ← hrest]; rfl)
      refine ⟨atN b (pre.map fun x => x.1), hz h1, h2.1, h2.2.1, h2.2.2.1, h2.2.2.2, ?_⟩
      rw [List.map_append]
      exact atN_snoc _ _ _
    have HP := Lib.hid hP
    have cz := (row_cell (HSq.row 0 rfl) 0).trans (show (#[Value.int .i64 z] : Array Value)[0]? = some (.int .i64 z) from rfl)
    have c50 := (row_cell r5 0).trans (show (#[Value.int .i64 (x.1.1 : Int), .int .i64 (x.1.2.1 : Int)] : Array Value)[0]? = some (.int .i64 (x.1.1 : Int)) from rfl)
    have c51 := (row_cell r5 1).trans (show (#[Value.int .i64 (x.1.1 : Int), .int .i64 (x.1.2.1 : Int)] : Array Value)[1]? = some (.int .i64 (x.1.2.1 : Int)) from rfl)
    have d0 : decide ((x.1.1 : Int) < 0) = false := decide_eq_false (by omega)
    clear hP hz
    refine wpIn_block ?_
    refine wpIn_seq ?_
    refine wpIn_seq ?_
    refine region_round (by rintro ⟨_, _, h⟩; exact h) (by kernel_rfl) ?_
    rw [qkA_eq, ha0]
    simp only [List.setIfInBounds_toArray, List.set_cons_succ, List.set_cons_zero]
    by_cases h40 : x.1.1 ≤ 40
    · have d1 : decide ((40 : Int) < (x.1.1 : Int)) = false := decide_eq_false (by omega)
      obtain ⟨P2, hp40, hp1, HPI, HPP⟩ : ∃ P2 : Nat, P2 ≤ 1099511627776 ∧ 0 < P2 ∧ Hid (((2 : Int) ^ x.1.1) = (P2 : Int)) ∧ Hid (Pre T (pre ++ [x]) → ∃ A : Nat, z = (A : Int) ∧ x.1.2.1 * P2 = A ∧ A + P2 ≤ l.length ∧ x.1.2.2 = root nd em ((l.take (A + P2)).drop A) ∧ atN b ((pre ++ [x]).map fun x => x.1) = A + P2) :=
        ⟨2 ^ x.1.1, pow40 h40, Nat.two_pow_pos _, Lib.hid (by simp), Lib.hid fun h => by
          obtain ⟨A, q1, _, q3, q4, q5, q6⟩ := HP.out h
          exact ⟨A, q1, q3, q4, q5, q6⟩⟩
      obtain ⟨y, hy⟩ : ∃ y, wrap64 ((x.1.2.1 : Int) * (P2 : Int)) = y := ⟨_, rfl⟩
      obtain ⟨z2, hz2⟩ : ∃ y, wrap64 (z + (P2 : Int)) = y := ⟨_, rfl⟩
      have hfac : Pre T (pre ++ [x]) → ∃ A : Nat, y = (A : Int) ∧ z = (A : Int) ∧ z2 = ((A + P2 : Nat) : Int) ∧ 0 < P2 ∧ A + P2 ≤ l.length ∧ x.1.2.2 = root nd em ((l.take (A + P2)).drop A) ∧ atN b ((pre ++ [x]).map fun x => x.1) = A + P2 := fun h => by
        obtain ⟨A, q1, q3, q4, q5, q6⟩ := HPP.out h
        have q7 : (x.1.2.1 : Int) * (P2 : Int) = (A : Int) := by rw [← q3]; simp
        rw [q7] at hy
        exact ⟨A, by rw [← hy]; exact w64 (by omega) (by omega), q1, by rw [← hz2, q1]; exact w64 (by omega) (by omega), hp1, q4, q5, q6⟩
      have HF := Lib.hid hfac
      have hu64 : IntKind.u64.wrap (x.1.1 : Int) = (x.1.1 : Int) := by rw [IntKind.wrap_u64]; omega
      have HY := Lib.hid hy
      have HZ2 := Lib.hid hz2
      clear hfac hy hz2
      by_cases hyz : y = z
      · have dn : (y != z) = false := by simp [hyz]
        have HYZ := Lib.hid hyz
        have hpi := HPI.out
        have hy := HY.out
        clear hyz
        go_wp2
        clear hpi hy
        refine wpIn_cond_false rfl ?_
        refine wpIn_skip ?_
        refine wpIn_seq ?_
        refine region_round (by rintro ⟨_, _, h⟩; exact h) (by kernel_rfl) ?_
        have hpi := HPI.out
        go_wp2_with (first | refine wl_stx HSq 0 rfl rfl 3 _ _ rfl (by kernel_rfl) 0 (by simp) (y := .int .i64 (wrap64 (z + (P2 : Int)))) rfl rfl rfl rfl ?_)
        intro HS1
        rw [HZ2.out] at HS1 ⊢
        clear hpi
        have hne5 : g5 ≠ gat := by omega
        have hne6 : g6 ≠ gat := by omega
        have k1 : KeepsFrom wb.heap.size W (W.setCell ⟨gat, 0, none⟩ (.int .i64 z2)) := (keeps_setCell (HSq.row 0 rfl)).from _
        have s1 : Stays wb.heap.size gat 0 W (W.setCell ⟨gat, 0, none⟩ (.int .i64 z2)) := stays_cell (HSq.row 0 rfl) _ rfl
        have r5' := (Below.heap_setCell W ⟨gat, 0, none⟩ (.int .i64 z2) g5 (fun e => hne5 e)).trans r5
        have r6' := (Below.heap_setCell W ⟨gat, 0, none⟩ (.int .i64 z2) g6 (fun e => hne6 e)).trans r6
        generalize W.setCell ⟨gat, 0, none⟩ (.int .i64 z2) = W1 at HS1 k1 s1 r5' r6' ⊢
        clear cz c50 c51
        have cz := (row_cell (HS1.row 0 rfl) 0).trans (show (#[Value.int .i64 z2] : Array Value)[0]? = some (.int .i64 z2) from rfl)
        have c50 := (row_cell r5' 0).trans (show (#[Value.int .i64 (x.1.1 : Int), .int .i64 (x.1.2.1 : Int)] : Array Value)[0]? = some (.int .i64 (x.1.1 : Int)) from rfl)
        have c51 := (row_cell r5' 1).trans (show (#[Value.int .i64 (x.1.1 : Int), .int .i64 (x.1.2.1 : Int)] : Array Value)[1]? = some (.int .i64 (x.1.2.1 : Int)) from rfl)
        have c2 := (row_cell (HS1.row 7 rfl) 0).trans (show (#[Value.slice A0 l.length c0] : Array Value)[0]? = some (.slice A0 l.length c0) from rfl)
        obtain ⟨X, E, hX, hSub, hgood⟩ : ∃ (X : List UInt8) (E : Int), X.length = 32 ∧ (∀ w' v, Below w.heap.size w w' → Rd w' v l.length 32 (dcs l) → Gives 11 #[v, .agg #[.int .i64 y, .int .i64 z2]] w' (.tuple #[.agg (bv X), .int .i64 E])) ∧ (Pre T (pre ++ [x]) → E = 0 ∧ X = x.1.2.2 ∧ z2 = (atN b ((pre ++ [x]).map fun x => x.1) : Nat)) := by
          by_cases hpre : Pre T (pre ++ [x])
          · obtain ⟨A, f1, f2, f3, f4, f5, f6, f7⟩ := HF.out hpre
            obtain ⟨g1, g2'⟩ := CS.out A (A + P2) (by omega) f5
            rw [f1, f3]
            exact ⟨_, 0, g1, g2', fun _ => ⟨rfl, f6.symm, by rw [f7]⟩⟩
          · obtain ⟨X, E, q1, q2⟩ := CB.out y z2
            exact ⟨X, E, q1, q2, fun h => absurd h hpre⟩
        have HSUB := Lib.hid hSub
        have HGO := Lib.hid hgood
        clear hSub hgood
        refine wpIn_seq ?_
        refine region_round (by rintro ⟨_, _, h⟩; exact h) (by kernel_rfl) ?_
        have hpi := HPI.out
        have hy := HY.out
        go_wp2_with fail
        (with_reducible refine Calls.mono (HSUB.out W1 _ HS1.hb (HS1.rd 3 rfl)) ?_)
        rintro r W2 ⟨rfl, b2⟩
        have HS2 := HS1.keep b2
        have r6'' := (b2.block g6 (Array.getElem?_eq_some_iff.1 r6').1).trans r6'
        clear hpi hy cz c50 c51 c2 r5' r5 r6 r6' HS1
        go_wp2_with (first | refine wl_alx rfl 33 rfl (bv (List.replicate 32 0)) (by kernel_rfl) ?_ | refine wl_store_row rfl 33 _ _ rfl W2.heap.size rfl 33 (bv (List.replicate 32 0)) (bv X) rfl (heap_alloc_new W2 _) (dgS hX) (dgE rfl hX) (bv_one _) ?_)
        obtain ⟨hb3, hr3⟩ := new_row W2 (bv (List.replicate 32 0)) (bv X) 33
        have r63 := (hb3.block g6 (Array.getElem?_eq_some_iff.1 r6'').1).trans r6''
        have HS3 := HS2.keep hb3
        have k3 := k1.trans ((keeps_below (b2.trans (hb3.mono b2.size))).from wb.heap.size)
        have hgl1 : gat < W1.heap.size := Nat.lt_of_lt_of_le hgl (Nat.le_trans hsz s1.1)
        have s3 := s1.trans (stays_below (n₀ := wb.heap.size) (off := 0) hgl1 (b2.trans (hb3.mono b2.size)))
        have HK3 := Lib.hid k3
        have HS3' := Lib.hid s3
        have HLX := Lib.hid (load_row (P := Tryd.prog) hr3 33 Tryd.underlying33 rfl (dgS hX))
        have HLY := Lib.hid (load_row (P := Tryd.prog) r63 33 Tryd.underlying33 rfl (dgS hxl))
        clear k1 s1 k3 s3 hr3 r63 r6'' HS2 b2 hb3
        refine wpIn_seq ?_
        refine region_round (by rintro ⟨_, _, h⟩; exact h) (by kernel_rfl) ?_
        by_cases hE : E = 0
        · subst hE
          by_cases hXd : X = x.1.2.2
          · have heq := fun w' : World => run_equal_bv (P := Tryd.prog) w' (d := 9998) Tryd.underlying33 Tryd.underlying5 (by kernel_rfl) X x.1.2.2 hX hxl
            rw [decide_eq_true hXd] at heq
            clear hXd
            go_wp2_with (first | refine wl_ldxg 33 _ rfl _ rfl (.agg (bv X)) HLX.out rfl ?_ | refine wl_ldxg 33 _ rfl _ rfl (.agg (bv x.1.2.2)) HLY.out rfl ?_)
            refine wpIn_cond_false rfl ?_
            refine wpIn_skip ?_
            exact ⟨HK3.out, HS3'.out, ⟨z2, HS3, fun h => (HGO.out h).2.2⟩, Nat.le_trans hsz HS3'.out.1⟩
          · have heq := fun w' : World => run_equal_bv (P := Tryd.prog) w' (d := 9998) Tryd.underlying33 Tryd.underlying5 (by kernel_rfl) X x.1.2.2 hX hxl
            rw [decide_eq_false hXd] at heq
            have HNE := Lib.hid hXd
            clear hXd
            go_wp2_with (first | refine wl_ldxg 33 _ rfl _ rfl (.agg (bv X)) HLX.out rfl ?_ | refine wl_ldxg 33 _ rfl _ rfl (.agg (bv x.1.2.2)) HLY.out rfl ?_)
            refine wpIn_cond_true rfl ?_
            refine wpIn_seq ?_
            refine region_round (by rintro ⟨_, _, h⟩; exact h) (by kernel_rfl) ?_
            go_wp2_with (first | refine wl_stx HS3 6 rfl rfl 4 _ _ rfl (by kernel_rfl) 0 (by simp) (y := .bool false) rfl rfl rfl rfl ?_)
            intro HSb
            go_wp2_with fail
            refine wpIn_ret ?_
            exact ⟨HK3.out.trans ((keeps_setCell (HS3.row 6 rfl)).from _), fun h => HNE.out (HGO.out h).2.1⟩
        · have dE : (E != 0) = true := by simpa using hE
          have HNE := Lib.hid hE
          clear hE
          go_wp2
          refine wpIn_cond_true rfl ?_
          refine wpIn_seq ?_
          refine region_round (by rintro ⟨_, _, h⟩; exact h) (by kernel_rfl) ?_
          go_wp2_with (first | refine wl_stx HS3 6 rfl rfl 4 _ _ rfl (by kernel_rfl) 0 (by simp) (y := .bool false) rfl rfl rfl rfl ?_)
          intro HSb
          go_wp2_with fail
          refine wpIn_ret ?_
          exact ⟨HK3.out.trans ((keeps_setCell (HS3.row 6 rfl)).from _), fun h => HNE.out (HGO.out h).1⟩
      · have dn : (y != z) = true := by simp [hyz]
        have HYZ := Lib.hid hyz
        have hpi := HPI.out
        have hy := HY.out
        clear hyz
        go_wp2
        clear hpi hy
        refine wpIn_cond_true rfl ?_
        refine wpIn_seq ?_
        refine region_round (by rintro ⟨_, _, h⟩; exact h) (by kernel_rfl) ?_
        go_wp2_with (first | refine wl_stx HSq 6 rfl rfl 4 _ _ rfl (by kernel_rfl) 0 (by simp) (y := .bool false) rfl rfl rfl rfl ?_)
        intro HSb
        go_wp2_with fail
        refine wpIn_ret ?_
        exact ⟨(keeps_setCell (HSq.row 6 rfl)).from _, fun h => by
          obtain ⟨A, q1, q2, _⟩ := HF.out h
          exact HYZ.out (q1.trans q2.symm)⟩
    · have d1 : decide ((40 : Int) < (x.1.1 : Int)) = true := decide_eq_true (by omega)
      have H40 := Lib.hid h40
      clear h40
      go_wp2
      refine wpIn_cond_true rfl ?_
      refine wpIn_seq ?_
      refine region_round (by rintro ⟨_, _, h⟩; exact h) (by kernel_rfl) ?_
      go_wp2_with (first | refine wl_stx HSq 6 rfl rfl 4 _ _ rfl (by kernel_rfl) 0 (by simp) (y := .bool false) rfl rfl rfl rfl ?_)
      intro HSb
      go_wp2_with fail
      refine wpIn_ret ?_
      exact ⟨(keeps_setCell (HSq.row 6 rfl)).from _, fun h => by
        obtain ⟨A, _, h1, _⟩ := HP.out h
        exact H40.out h1⟩
  case done =>
    rintro D ys W hD hys ⟨⟨z, HSq, hz⟩, hsz⟩ hK
    have hzl : z = (l.length : Int) := by
      rw [hz ⟨[], by rw [hys]; simp⟩, hys, ← hT, HFE.out]
    subst hzl
    have HSo := HSq.addObj rfl hK rfl
    have hrr := root_r (w := W) nd em HND.out HEM.out 2 3 ga l.length va (SB l.length) HGB.out.2.2.2 HGB.out.len (fun w' hb => CE.out w' (HSq.hb.trans (hb.mono HSq.hB))) (fun w' a b hb ha hb2 => CN.out w' a b (HSq.hb.trans (hb.mono HSq.hB)) ha hb2) rfl rfl HSo
    rw [HRS.out] at hrr
    have HRR := Lib.hid hrr
    have hDB : w.heap.size ≤ D := Nat.le_trans hBw hD
    have HQ := Lib.hid (fun w' : World => run_equal_bv (P := Tryd.prog) w' (d := 9998) Tryd.underlying33 Tryd.underlying5 (by kernel_rfl) (root nd em l) (root nd em l) HRL.out HRL.out)
    rw [decide_eq_true rfl] at HQ
    obtain ⟨DG, hDG⟩ : ∃ y, root nd em l = y := ⟨_, rfl⟩
    rw [hDG] at HRR HQ CR HRL
    rw [ha0]
    clear hK hys hrr hDG HSq hz hT
    go_wp2_with fail
    (with_reducible refine Calls.mono HRR.out ?_)
    rintro r W2 ⟨rfl, b2⟩
    have HS2 := HSo.keep b2
    clear HSo b2
    go_wp2_with (first | refine wl_al HS2 rfl 33 rfl (bv (List.replicate 32 0)) (by kernel_rfl) ?_)
    intro g13 w3 HS3
    go_wp2_with (first | refine wl_st HS3 0 rfl rfl 33 _ _ rfl rfl rfl (dgS HRL.out) (dgE rfl HRL.out) (bv_one _) ?_)
    intro w4 HS4
    clear HS2 HS3
    go_wp2
    refine Cop.region_ord (fun w' => Sep w.heap.size w w' [.row g13 (bv DG) 33, .obj D (.deferred (some [])), .row gat #[.int .i64 (l.length : Int)] 3, .row ga (rgv (0 : Nat) l.length va) 61, .own va 99 34 (SB l.length).length (rcs (SB l.length)), .rd (.slice A0 l.length c0) l.length 32 (dcs l), .row gr (rgv b l.length vr) 61, .own vr 99 34 (SA (l.length - b)).length (rcs (SA (l.length - b))), .row g4 #[.bool false] 4, .row g2 #[.slice A0 l.length c0] 22]) 14 (.take 0 (.take 1 (.take 2 (.take 3 (.take 4 (.take 5 (.take 6 (.take 7 (.take 8 (.take 9 (.take 10 (.run 11 (.take 12 (.take 13 (.run 14 Cop.Ord.fin))))))))))))))) (by kernel_rfl) (by kernel_rfl) (fun _ _ d _ _ h => by cases d <;> exact h) ?_
    intro wa hda
    have HSa := HS4.keep hda
    clear HS4
    (repeat (first | (refine Cop.og_skip rfl rfl HSa _ (by (simp only [Act.put, List.setIfInBounds_toArray, List.set_cons_succ, List.set_cons_zero]; rfl)) ?_) | (refine Cop.og_ld rfl rfl HSa 33 _ rfl (.pointer (some ⟨g13, 0, none⟩)) rfl _ (fun w9 h9 => load_row (h9.row 0 rfl) 33 Tryd.underlying33 rfl (dgS HRL.out)) _ (by (simp only [Act.put, List.setIfInBounds_toArray, List.set_cons_succ, List.set_cons_zero]; rfl)) ?_) | (refine Cop.og_take rfl rfl HSa ?_; apply Exists.intro; refine ⟨fun w9 h9 => ?_, _, by (simp only [Act.put, List.setIfInBounds_toArray, List.set_cons_succ, List.set_cons_zero]; rfl), ?_⟩; (have c8 := (row_cell (h9.row 2 rfl) 0).trans (show (#[Value.int .i64 (l.length : Int)] : Array Value)[0]? = some (.int .i64 (l.length : Int)) from rfl); have c2 := (row_cell (h9.row 9 rfl) 0).trans (show (#[Value.slice A0 l.length c0] : Array Value)[0]? = some (.slice A0 l.length c0) from rfl); go_simp; with_reducible rfl))))
    refine Cop.og_run rfl rfl ?_
    refine ow_call 13 _ _ (fun w' => Below wa.heap.size wa w') (by go_simp) (CR.out wa _ HSa.hb (HSa.rd 5 rfl)) ?_
    intro wb2 bb
    have HSb := HSa.keep bb
    refine ⟨fun _ => HSb, ?_⟩
    (repeat (first | (refine Cop.og_skip rfl rfl HSb _ (by (simp only [Act.put, List.setIfInBounds_toArray, List.set_cons_succ, List.set_cons_zero]; rfl)) ?_) | (refine Cop.og_take rfl rfl HSb ?_; apply Exists.intro; refine ⟨fun w9 h9 => ?_, _, by (simp only [Act.put, List.setIfInBounds_toArray, List.set_cons_succ, List.set_cons_zero]; rfl), ?_⟩; (have heq := HQ.out w9; go_simp; with_reducible rfl))))
    refine Cop.og_run rfl rfl ?_
    refine ow_stc HSb 8 rfl 4 _ _ rfl (by kernel_rfl) 0 (by simp) (y := .bool true) rfl rfl rfl rfl ?_
    intro wz HSz
    refine ⟨fun h => absurd rfl h, ?_⟩
    refine og_fin ?_
    have hDz : wz.heap[D]? = some (.deferred (some [])) := HSz.at 1 rfl
    go_wp2_with fail
    exact ret_cellD rfl D rfl hDz g4 rfl _ 4 (HSz.row 8 rfl) (.bool true) rfl Tryd.isAgg4 ⟨rfl, HSz.hb.trans (belowK_b (n₀ := w.heap.size) (w := w) (Nat.le_refl _) _ D _ _ hDB hDz rfl rfl)⟩
  case stop =>
    rintro D cc pre W hD hpre h _
    exact absurd hpre h
end
end Go.Proofs.YtlhebogbbkjahaaDoor
namespace Cop
set_option linter.unusedVariables false
section
variable (nd : List UInt8 → List UInt8 → List UInt8) (em : List UInt8)
theorem tells_uniq {l : List (List UInt8)} : ∀ (s t : List Prt), nds s = nds t → Tells nd em l s → Tells nd em l t → s = t
  | [], t, h, _, _ => (nds_nil h.symm).symm
  | p :: s, [], h, _, _ => by cases h
  | p :: s, q :: t, h, hs, ht => by
    have h1 : (p.1, p.2.1) = (q.1, q.2.1) := (List.cons.inj h).1
    have h2 : nds s = nds t := (List.cons.inj h).2
    have e1 : (p.1, p.2.1).1 = (q.1, q.2.1).1 := congrArg Prod.fst h1
    have e2 : (p.1, p.2.1).2 = (q.1, q.2.1).2 := congrArg Prod.snd h1
    dsimp only at e1 e2
    have e3 : p.2.2 = q.2.2 := by rw [hs p List.mem_cons_self, ht q List.mem_cons_self, e1, e2]
    rw [tells_uniq s t h2 hs.tail ht.tail]
    congr 1
    obtain ⟨a, b, c⟩ := p
    obtain ⟨a', b', c'⟩ := q
    dsimp only at e1 e2 e3
    rw [e1, e2, e3]
theorem tells_putAll {l : List (List UInt8)} (hll : l.length ≤ 281474976710656) {f : Nat} (hf : f ≤ l.length) : ∀ (ps : List Prt) (x : Nat × List Prt), Fw x.1 (nds ps) f → Tells nd em l x.2 → Tells nd em l ps → Tells nd em l (putAll nd x ps).2
  | [], x, _, h, _ => h
  | p :: ps, x, h, hx, hp => by
    have h1 : x.1 = p.2.1 * 2 ^ p.1 := h.1
    have h2 : Fw ((p.2.1 + 1) * 2 ^ p.1) (nds ps) f := h.2
    have hle := fw_le _ _ _ h2
    have hs : (p.2.1 + 1) * 2 ^ p.1 = x.1 + 2 ^ p.1 := by rw [h1, Nat.add_mul, Nat.one_mul]
    have hfit : Fits x.1 p.1 := by
      refine ⟨?_, by rw [h1]; exact Nat.mul_mod_left _ _, by omega⟩
      rcases Nat.lt_or_ge 48 p.1 with h3 | h3
      · have : 2 ^ 49 ≤ 2 ^ p.1 := Nat.pow_le_pow_right (by decide) h3
        omega
      · exact h3
    show Tells nd em l (putAll nd (appN nd x p.1 p.2.2) ps).2
    have ea : appN nd x p.1 p.2.2 = (x.1 + 2 ^ p.1, carry nd x.2 (p.1, x.1 / 2 ^ p.1, p.2.2)) := by unfold appN; rw [if_pos hfit]
    have ei : x.1 / 2 ^ p.1 = p.2.1 := by rw [h1]; exact Nat.mul_div_cancel _ (Nat.two_pow_pos _)
    refine tells_putAll hll hf ps _ ?_ ?_ hp.tail
    · rw [ea]
      show Fw (x.1 + 2 ^ p.1) (nds ps) f
      rw [← hs]; exact h2
    · rw [ea, ei]
      exact tells_carry nd em l x.2 (p.1, p.2.1, p.2.2) hx (by show (p.2.1 + 1) * 2 ^ p.1 ≤ l.length; omega) (hp p List.mem_cons_self)
theorem tells_rev {l : List (List UInt8)} {s : List Prt} (h : Tells nd em l s) : Tells nd em l s.reverse := fun x hx => h x (List.mem_reverse.1 hx)
theorem good_putRev (hnd : ∀ a b, (nd a b).length = 32) {b e f : Nat} {s t : List Prt} (h : GoodR b e s) (h2 : GoodR e f t) : GoodR b f (putAll nd (e, s) t.reverse).2 := by
  have h3 := good_putAll nd hnd (b := b) t.reverse (e, s) (fun x hx => h2.2.2.2 x (List.mem_reverse.1 hx)) h
  rwa [putAll_good nd h h2] at h3
/-- Merged ranges of leaves are the range of all. -/
theorem merge_stk (hnd : ∀ a b, (nd a b).length = 32) {l : List (List UInt8)} (hl : ∀ x ∈ l, x.length = 32) (hll : l.length ≤ 281474976710656) {b m e : Nat} (h1 : b ≤ m) (h2 : m ≤ e) (h3 : e ≤ l.length) :
    (putAll nd (m, stk nd l b (m - b)) (stk nd l m (e - m)).reverse).2 = stk nd l b (e - b) := by
  have g1 := good_stk nd hnd hl hll b (m - b) (by omega)
  have g2 := good_stk nd hnd hl hll m (e - m) (by omega)
  have g3 := good_stk nd hnd hl hll b (e - b) (by omega)
  rw [show b + (m - b) = m by omega] at g1
  rw [show m + (e - m) = e by omega] at g2
  rw [show b + (e - b) = e by omega] at g3
  have g4 := good_putRev nd hnd g1 g2
  refine tells_uniq nd ([] : List UInt8) _ _ (by rw [g4.2.2.1, g3.2.2.1]) ?_ (tells_stk nd ([] : List UInt8) hll b (e - b) (by omega))
  exact tells_putAll nd ([] : List UInt8) hll h3 _ _ (good_fw g2) (tells_stk nd ([] : List UInt8) hll b (m - b) (by omega)) (tells_rev nd ([] : List UInt8) (tells_stk nd ([] : List UInt8) hll m (e - m) (by omega)))
end
end Cop
set_option linter.unusedVariables false
namespace Cop
open Go Go.RowKit
section
variable {P : Program} {ops : Array Oper} {Q : Exit → Act → World → Prop} {md : Region.Mode} {z : Nat}
theorem yields_sub {S S' : World → Prop} {o : Oper} {v : Value} {a : Act} (hs : ∀ W, S' W → S W) (h : YieldsIf P ops S o v a) : YieldsIf P ops S' o v a := by
  rcases h with ⟨h1, h2⟩ | h
  · exact .inl ⟨h1, fun w' h' => h2 w' (hs w' h')⟩
  · exact .inr h
/-- Whatever order is picked, S holding behind each operation but z. -/
def wpAnyW (P : Program) (md : Region.Mode) (ops : Array Oper) (Q : Exit → Act → World → Prop) (z : Nat) : Nat → (World → Prop) → Array Bool → Act → World → Prop
  | 0, S, listed, a, w => Region.ready md ops listed = [] ∧ Q .normal a w
  | fuel + 1, S, listed, a, w =>
    (Region.ready md ops listed = [] → Q .normal a w) ∧
    ∀ i ∈ Region.ready md ops listed, wpOp P ops Q i (fun a' w' => ∃ S' : World → Prop, (∀ W, S' W → S W) ∧ (i ≠ z → S' w') ∧ wpAnyW P md ops Q z fuel S' (listed.setIfInBounds i true) a' w') a w
theorem wpAny_of_W : ∀ (fuel : Nat) (S : World → Prop) (listed : Array Bool) (a : Act) (w : World), wpAnyW P md ops Q z fuel S listed a w → wpAny P md ops Q fuel listed a w
  | 0, _, _, _, _, h => h
  | fuel + 1, _, _, _, _, h => ⟨h.1, fun i hi => wpOp_mono (fun a' w' ⟨S', _, _, h'⟩ => wpAny_of_W fuel S' _ a' w' h') (h.2 i hi)⟩
theorem wpAnyW_first {i : Nat} {oi : Oper} {v : Value} (hi : ops[i]? = some oi) (hsel : ∀ (j : Nat) (o : Oper) cs b, ops[j]? = some o → o.op ≠ .select cs b)
    (hQ : ∀ c a w, Q (.panic c) (a.put oi.dst v) w → Q (.panic c) a w) (hz : coverB md ops z = true ∨ z = ops.size) :
    ∀ (fuel : Nat) (S : World → Prop) (listed : Array Bool) (a : Act) (w : World), Closed md ops listed →
      (∀ j oj, ops[j]? = some oj → j ≠ i → listed.getD j true = false → (∀ e ∈ oj.after, Region.binds md e = true → e.on ≠ i) → oi.apart ops oj = true) →
      i ∈ Region.ready md ops listed → YieldsIf P ops S oi v a → S w →
      wpAnyW P md ops Q z fuel S (listed.setIfInBounds i true) (a.put oi.dst v) w → wpAnyW P md ops Q z (fuel + 1) S listed a w := by
  intro fuel
  induction fuel with
  | zero =>
    intro S listed a w _ _ hr hy hS H
    refine ⟨fun h => (by rw [h] at hr; cases hr), fun j hj => ?_⟩
    by_cases hji : j = i
    · subst hji; exact hy.wpOp hi hS ⟨S, fun _ h => h, fun _ => hS, H⟩
    · have := ready_mono hj hji
      rw [H.1] at this
      cases this
  | succ fuel ih =>
    intro S listed a w hcl hfree hr hy hS H
    refine ⟨fun h => (by rw [h] at hr; cases hr), fun j hj => ?_⟩
    by_cases hji : j = i
    · subst hji; exact hy.wpOp hi hS ⟨S, fun _ h => h, fun _ => hS, H⟩
    · have h1 := H.2 j (ready_mono hj hji)
      obtain ⟨hjun, oj, hoj, hall⟩ := mem_ready.1 hj
      have hun := (mem_ready.1 hr).1
      have hisz : i < listed.size := by
        rcases Nat.lt_or_ge i listed.size with h' | h'
        · exact h'
        · simp [Array.getElem?_eq_none h'] at hun
      have hif : listed.getD i false = false := by
        simp [hisz] at hun ⊢
        exact hun
      have hnot : ∀ e ∈ oj.after, Region.binds md e = true → e.on ≠ i := fun e he hb heq => by
        have h1 := hall e he hb
        rw [heq, hif] at h1
        cases h1
      have hjz : j ≠ z := fun e => by
        rcases hz with hz | hz
        · have := cover_spec hz hcl (e ▸ hj) i (Array.getElem?_eq_some_iff.1 hi).1 (fun e2 => hji (e.trans e2.symm))
          rw [hif] at this
          cases this
        · have := (Array.getElem?_eq_some_iff.1 hoj).1
          omega
      have h2 := wpOp_putIf hoj (hfree j oj hoj hji hjun hnot) (fun cs b => hsel i oi cs b hi) (fun cs b => hsel j oj cs b hoj) hQ hy h1
      have hfree' : ∀ k ok, ops[k]? = some ok → k ≠ i → (listed.setIfInBounds j true).getD k true = false →
          (∀ e ∈ ok.after, Region.binds md e = true → e.on ≠ i) → oi.apart ops ok = true := fun k ok hk hki hun hno => by
        refine hfree k ok hk hki ?_ hno
        by_cases hjk : j = k
        · subst hjk; exact hjun
        · rw [getD_set_ne true hjk] at hun; exact hun
      refine wpOp_mono (fun a' w' h3 => ?_) h2
      obtain ⟨S', hs1, hs2, h4⟩ := h3.2
      refine ⟨S', hs1, fun _ => hs2 hjz, ih S' (listed.setIfInBounds j true) a' w' (closed_set hcl hj) hfree' (ready_mono hr (Ne.symm hji)) (yields_sub hs1 h3.1) (hs2 hjz) ?_⟩
      rw [Array.setIfInBounds_comm _ _ hji]
      exact h4
/-- What is to be shown along an order. -/
def wpOrdW (P : Program) (ops : Array Oper) (Q : Exit → Act → World → Prop) (z : Nat) : Ord → (World → Prop) → Act → World → Prop
  | .fin, S, a, w => Q .normal a w
  | .take i k, S, a, w => S w ∧ ∃ v o, ops[i]? = some o ∧ YieldsIf P ops S o v a ∧ wpOrdW P ops Q z k S (a.put o.dst v) w
  | .run i k, S, a, w => wpOp P ops Q i (fun a' w' => ∃ S' : World → Prop, (∀ W, S' W → S W) ∧ (i ≠ z → S' w') ∧ wpOrdW P ops Q z k S' a' w') a w
  | .run2 i k i2 k2, S, a, w => wpOp P ops Q i (fun a' w' => ∃ S' : World → Prop, (∀ W, S' W → S W) ∧ (i ≠ z → S' w') ∧ wpOrdW P ops Q z k S' a' w') a w ∧ wpOp P ops Q i2 (fun a' w' => ∃ S' : World → Prop, (∀ W, S' W → S W) ∧ (i2 ≠ z → S' w') ∧ wpOrdW P ops Q z k2 S' a' w') a w
  | .run3 i k i2 k2 i3 k3, S, a, w => wpOp P ops Q i (fun a' w' => ∃ S' : World → Prop, (∀ W, S' W → S W) ∧ (i ≠ z → S' w') ∧ wpOrdW P ops Q z k S' a' w') a w ∧ wpOp P ops Q i2 (fun a' w' => ∃ S' : World → Prop, (∀ W, S' W → S W) ∧ (i2 ≠ z → S' w') ∧ wpOrdW P ops Q z k2 S' a' w') a w ∧ wpOp P ops Q i3 (fun a' w' => ∃ S' : World → Prop, (∀ W, S' W → S W) ∧ (i3 ≠ z → S' w') ∧ wpOrdW P ops Q z k3 S' a' w') a w
theorem wpAnyW_ord (hs : Region.noSelect ops = true) (hQ : ∀ c a d v w, Q (.panic c) (a.put d v) w → Q (.panic c) a w) (hz : coverB md ops z = true ∨ z = ops.size) :
    ∀ (ord : Ord) (fuel : Nat) (S : World → Prop) (l : Array Bool) (a : Act) (w : World), Closed md ops l → ord.chk md ops fuel l = true → wpOrdW P ops Q z ord S a w → wpAnyW P md ops Q z fuel S l a w := by
  intro ord
  induction ord with
  | fin =>
    intro fuel S l a w _ hc h
    have hr : Region.ready md ops l = [] := by
      unfold Ord.chk at hc
      simpa using hc
    cases fuel with
    | zero => exact ⟨hr, h⟩
    | succ f => exact ⟨fun _ => h, by rw [hr]; simp⟩
  | take i k ih =>
    intro fuel S l a w hcl hc h
    cases fuel with
    | zero => simp [Ord.chk] at hc
    | succ f =>
      simp only [Ord.chk, Bool.and_eq_true] at hc
      obtain ⟨hS, v, o, ho, hy, h⟩ := h
      have hr : i ∈ Region.ready md ops l := by simpa using hc.1.1
      exact wpAnyW_first ho (Region.noSelect_spec hs) (fun c a w => hQ c a o.dst v w) hz f S l a w hcl (Region.free_spec ho hc.1.2) hr hy hS (ih f S _ _ w (closed_set hcl hr) hc.2 h)
  | run i k ih =>
    intro fuel S l a w hcl hc h
    cases fuel with
    | zero => simp [Ord.chk] at hc
    | succ f =>
      simp only [Ord.chk, Bool.and_eq_true] at hc
      have hr : i ∈ Region.ready md ops l := by simpa using hc.1.2
      refine ⟨fun h0 => (by rw [h0] at hr; cases hr), fun j hj => ?_⟩
      have hji : j = i := by simpa using List.all_eq_true.1 hc.1.1 j hj
      subst hji
      exact wpOp_mono (fun a' w' ⟨S', h1, h2, h'⟩ => ⟨S', h1, h2, ih f S' _ a' w' (closed_set hcl hr) hc.2 h'⟩) h
  | run2 i k i2 k2 ih ih2 =>
    intro fuel S l a w hcl hc h
    cases fuel with
    | zero => simp [Ord.chk] at hc
    | succ f =>
      simp only [Ord.chk, Bool.and_eq_true] at hc
      have hr : i ∈ Region.ready md ops l := by simpa using hc.1.1.1.2
      have hr2 : i2 ∈ Region.ready md ops l := by simpa using hc.1.1.2
      refine ⟨fun h0 => (by rw [h0] at hr; cases hr), fun j hj => ?_⟩
      have hji : j = i ∨ j = i2 := by simpa using List.all_eq_true.1 hc.1.1.1.1 j hj
      rcases hji with rfl | rfl
      · exact wpOp_mono (fun a' w' ⟨S', h1, h2, h'⟩ => ⟨S', h1, h2, ih f S' _ a' w' (closed_set hcl hr) hc.1.2 h'⟩) h.1
      · exact wpOp_mono (fun a' w' ⟨S', h1, h2, h'⟩ => ⟨S', h1, h2, ih2 f S' _ a' w' (closed_set hcl hr2) hc.2 h'⟩) h.2
  | run3 i k i2 k2 i3 k3 ih ih2 ih3 =>
    intro fuel S l a w hcl hc h
    cases fuel with
    | zero => simp [Ord.chk] at hc
    | succ f =>
      simp only [Ord.chk, Bool.and_eq_true] at hc
      have hr : i ∈ Region.ready md ops l := by simpa using hc.1.1.1.1.1.2
      have hr2 : i2 ∈ Region.ready md ops l := by simpa using hc.1.1.1.1.2
      have hr3 : i3 ∈ Region.ready md ops l := by simpa using hc.1.1.1.2
      refine ⟨fun h0 => (by rw [h0] at hr; cases hr), fun j hj => ?_⟩
      have hji : j = i ∨ j = i2 ∨ j = i3 := by simpa [or_assoc] using List.all_eq_true.1 hc.1.1.1.1.1.1 j hj
      rcases hji with rfl | rfl | rfl
      · exact wpOp_mono (fun a' w' ⟨S', h1, h2, h'⟩ => ⟨S', h1, h2, ih f S' _ a' w' (closed_set hcl hr) hc.1.1.2 h'⟩) h.1
      · exact wpOp_mono (fun a' w' ⟨S', h1, h2, h'⟩ => ⟨S', h1, h2, ih2 f S' _ a' w' (closed_set hcl hr2) hc.1.2 h'⟩) h.2.1
      · exact wpOp_mono (fun a' w' ⟨S', h1, h2, h'⟩ => ⟨S', h1, h2, ih3 f S' _ a' w' (closed_set hcl hr3) hc.2 h'⟩) h.2.2
/-- The region by an order. z: its last number, if all others come ahead of it; else how many there are. -/
theorem region_ordw {id : Nat} {a : Act} {w : World} {l : List Oper} (S : World → Prop) (z : Nat) (ord : Ord) (hm : P.follows .mixedOrders = true)
    (hc : (Region.noSelect l.toArray && (coverB .any l.toArray z || z == l.length) && ord.chk .any l.toArray l.length (Array.replicate l.length false)) = true)
    (hQ : ∀ c a d v w, Q (.panic c) (a.put d v) w → Q (.panic c) a w)
    (h : ∀ w1, Below w.heap.size w w1 → Shut 0 (wpOrdW P l.toArray Q z ord S a w1)) : (Code.region id l.toArray true).wp P Q a w := by
  simp only [Bool.and_eq_true, Bool.or_eq_true, beq_iff_eq] at hc
  refine wp_region_any hm (wpAny_of_W _ S _ _ _ (wpAnyW_ord hc.1.1 hQ ?_ ord _ S _ a _ (closed_none _) (by simpa using hc.2) (h _ (bdraw w)).out))
  rcases hc.1.2 with h | h
  · exact .inl h
  · exact .inr (by simpa using h)
section
variable {S : World → Prop} {l : List Oper} {a : Act} {w : World} {i : Nat} {k : Ord} {o : Oper}
theorem ogw_take (ho : l[i]? = some o) (hw : Region.wanted o (yielded l.toArray a.tmps) = true) (hS : S w) (h : ∃ v, (∀ w', S w' → (execOp a.eval o).run P w' = .ok (.value v) w') ∧ ∃ a', a.put o.dst v = a' ∧ Shut 0 (wpOrdW P l.toArray Q z k S a' w)) :
    Shut 0 (wpOrdW P l.toArray Q z (.take i k) S a w) := by
  obtain ⟨v, h1, _, rfl, h2⟩ := h
  exact ⟨hS, v, o, by simpa using ho, .inl ⟨hw, h1⟩, h2.out⟩
theorem ogw_skip (ho : l[i]? = some o) (hw : Region.wanted o (yielded l.toArray a.tmps) = false) (hS : S w) (a' : Act) (ha : a.put o.dst undef = a') (h : Shut 0 (wpOrdW P l.toArray Q z k S a' w)) :
    Shut 0 (wpOrdW P l.toArray Q z (.take i k) S a w) := by
  subst ha
  exact ⟨hS, undef, o, by simpa using ho, .inr ⟨hw, rfl⟩, h.out⟩
theorem ogw_run (ho : l[i]? = some o) (hw : Region.wanted o (yielded l.toArray a.tmps) = true) (h : o.wp P a w (fun a' w' => ∃ S' : World → Prop, (∀ W, S' W → S W) ∧ (i ≠ z → S' w') ∧ Shut 0 (wpOrdW P l.toArray Q z k S' a' w')) Q) :
    Shut 0 (wpOrdW P l.toArray Q z (.run i k) S a w) := by
  refine ⟨?_⟩
  unfold wpOrdW wpOp
  rw [show l.toArray[i]? = some o by simpa using ho]
  simp only [hw, if_true]
  exact .inl (Oper.wp_mono (fun a' w' ⟨S', h1, h2, h3⟩ => ⟨S', h1, h2, h3.out⟩) h)
theorem ogw_run2 {i2 : Nat} {k2 : Ord} (h : Shut 0 (wpOrdW P l.toArray Q z (.run i k) S a w)) (h2 : Shut 0 (wpOrdW P l.toArray Q z (.run i2 k2) S a w)) : Shut 0 (wpOrdW P l.toArray Q z (.run2 i k i2 k2) S a w) := ⟨h.out, h2.out⟩
theorem ogw_run3 {i2 i3 : Nat} {k2 k3 : Ord} (h : Shut 0 (wpOrdW P l.toArray Q z (.run i k) S a w)) (h2 : Shut 0 (wpOrdW P l.toArray Q z (.run i2 k2) S a w)) (h3 : Shut 0 (wpOrdW P l.toArray Q z (.run i3 k3) S a w)) : Shut 0 (wpOrdW P l.toArray Q z (.run3 i k i2 k2 i3 k3) S a w) := ⟨h.out, h2.out, h3.out⟩
theorem ogw_fin (h : Q .normal a w) : Shut 0 (wpOrdW P l.toArray Q z .fin S a w) := ⟨h⟩
theorem ogw_ld (ho : l[i]? = some o) (hw : Region.wanted o (yielded l.toArray a.tmps) = true) (hS : S w) (ty : TypeId) (x : Operand) (hop : o.op = .load ty x) (p : Value) (hx : a.eval x = p) (v : Value) (hl : ∀ w', S w' → (Instr.loadAt ty p).run P w' = .ok v w')
    (a' : Act) (ha : a.put o.dst v = a') (h : Shut 0 (wpOrdW P l.toArray Q z k S a' w)) : Shut 0 (wpOrdW P l.toArray Q z (.take i k) S a w) := by
  subst ha
  refine ⟨hS, v, o, by simpa using ho, .inl ⟨hw, fun w' h' => ?_⟩, h.out⟩
  simp only [execOp, hop, hx, Sem.run_bind, hl w' h', Result.andThen_ok, Sem.run_pure]
end
section
variable {w0 : World} {B : Nat} {R : List Pc} {o : Oper} {a : Act} {w : World} {K : Act → World → Prop}
end
end
end Cop
namespace Go.Proofs.YtlhebogbbkjahaaDoor
open Go.RowKit Go.Shelf Cop
set_option linter.unusedVariables false
set_option linter.unusedSimpArgs false
section
variable {w0 w w' W : World} {B : Nat} {R : List Pc}
set_option maxRecDepth 100000 in
set_option maxHeartbeats 16000000 in
theorem merges_walk (nd : List UInt8 → List UInt8 → List UInt8) (hnd : ∀ a b, (nd a b).length = 32) (l : List (List UInt8)) (hl : AllD l) (hll : l.length ≤ 4398046511104) (v0 : Value) (ai aj : Int) (hR : Rd w v0 l.length 32 (dcs l))
    (hCN : ∀ w' a b, Below w.heap.size w w' → a.length = 32 → b.length = 32 → Gives 42 #[.agg (bv a), .agg (bv b)] w' (.agg (bv (nd a b)))) :
    Gives 6 #[v0, .int .i64 ai, .int .i64 aj] w (.bool true) := by
  obtain ⟨ri, hri, e1, e2, e3, e4, e5⟩ := into ai (l.length + 1) (by omega)
  obtain ⟨rj, hrj, f1, f2, f3, f4, f5⟩ := into aj (l.length + 1) (by omega)
  have HS0 := (Sep.start w).arg0 hR
  obtain ⟨A0, c0, rfl, hc0, hcm0⟩ := hR.shape
  -- the two places in order
  obtain ⟨p, q, hpq, hql, hord⟩ : ∃ p q : Nat, p ≤ q ∧ q ≤ l.length ∧ ((rj < ri ∧ p = rj ∧ q = ri) ∨ (¬ rj < ri ∧ p = ri ∧ q = rj)) := by
    by_cases h : rj < ri
    · exact ⟨rj, ri, by omega, by omega, .inl ⟨h, rfl, rfl⟩⟩
    · exact ⟨ri, rj, by omega, by omega, .inr ⟨h, rfl, rfl⟩⟩
  have hrg : ∀ (b e : Nat), b ≤ e → e ≤ l.length → ∀ (w' : World) (R' : List Pc) (H : Sep w.heap.size w w' (.rd (.slice A0 l.length c0) l.length 32 (dcs l) :: R')), Calls Tryd.prog 9 #[.slice A0 l.length c0, .agg #[.int .i64 (b : Int), .int .i64 (e : Int)]] w' fun r w' => ∃ g, r = .returned (.pointer (some ⟨g, 0, none⟩)) ∧ RgAt w.heap.size w g b e (stk nd l b (e - b)) (.rd (.slice A0 l.length c0) l.length 32 (dcs l) :: R') w' :=
    fun b e hbe he w' R' H => ranged_a nd hnd l hl (by omega) b e hbe he _ (stk nd l b) rfl (fun k hk => stk_step nd l b k (by omega)) (fun k hk => good_stk nd hnd hl (by omega) b k (by omega)) hCN H
  have hgs : ∀ (b e : Nat), b ≤ e → e ≤ l.length → GoodR b e (stk nd l b (e - b)) := fun b e h1 h2 => by
    have := good_stk nd hnd hl (by omega) b (e - b) (by omega)
    rwa [show b + (e - b) = e by omega] at this
  have hmg : ∀ (b m e : Nat), b ≤ m → m ≤ e → e ≤ l.length → ∀ (w' : World) (R' : List Pc) (g go : Nat) (v v' : Value), plainL R' = true → Sep w.heap.size w w' (.row g (rgv b m v) 61 :: .own v 99 34 (stk nd l b (m - b)).length (rcs (stk nd l b (m - b))) :: .row go (rgv m e v') 61 :: .own v' 99 34 (stk nd l m (e - m)).length (rcs (stk nd l m (e - m))) :: R') →
      Calls Tryd.prog 22 #[.pointer (some ⟨g, 0, none⟩), .pointer (some ⟨go, 0, none⟩)] w' fun r w' => r = .returned (.int .i64 0) ∧ RgAt w.heap.size w g b e (stk nd l b (e - b)) (.row go (rgv m e v') 61 :: .own v' 99 34 (stk nd l m (e - m)).length (rcs (stk nd l m (e - m))) :: R') w' :=
    fun b m e h1 h2 h3 w' R' g go v v' hpl H => by
      have := merge_a nd hnd g go b m e v v' _ _ hpl (hgs b m h1 (by omega)) (hgs m e h2 h3) hCN H
      rwa [merge_stk nd hnd hl (by omega) h1 h2 h3] at this
  have RA := Lib.hid (hrg 0 p (by omega) (by omega))
  have RB := Lib.hid (hrg p q hpq hql)
  have RC := Lib.hid (hrg q l.length hql (Nat.le_refl _))
  have RZ := Lib.hid (hrg 0 l.length (by omega) (Nat.le_refl _))
  have MAB := Lib.hid (hmg 0 p q (by omega) hpq hql)
  have MAC := Lib.hid (hmg 0 q l.length (by omega) hql (Nat.le_refl _))
  have MYC := Lib.hid (hmg p q l.length hpq hql (Nat.le_refl _))
  have MXY := Lib.hid (hmg 0 p l.length (by omega) (by omega) (Nat.le_refl _))
  have GA := Lib.hid (hgs 0 p (by omega) (by omega))
  have GB := Lib.hid (hgs p q hpq hql)
  have GZ := Lib.hid (hgs 0 l.length (by omega) (Nat.le_refl _))
  obtain ⟨ZB, hZB⟩ : ∃ Z, (be 8 0 ++ be 8 l.length) ++ digs (stk nd l 0 (l.length - 0)).reverse = Z := ⟨_, rfl⟩
  have CB := Lib.hid (fun (w' : World) (R' : List Pc) (i j g : Nat) (v : Value) (hi : R'[i]? = some (.row g (rgv (0 : Nat) l.length v) 61)) (hj : R'[j]? = some (.own v 99 34 (stk nd l 0 (l.length - 0)).length (rcs (stk nd l 0 (l.length - 0))))) (H : Sep w.heap.size w w' R') => by
    have := bytes_r i j g 0 l.length v (stk nd l 0 (l.length - 0)) GZ.out.2.2.2 GZ.out.len (by omega) (by omega) hi hj H
    rw [hZB] at this
    exact this)
  have CLD := Lib.hid (fun (w' : World) (R' : List Pc) (v : Value) (H : Sep w.heap.size w w' (.rd v ZB.length 1 (bl ZB) :: R')) => load_ok 0 l.length (stk nd l 0 (l.length - 0)) v ZB GZ.out hZB.symm H)
  obtain ⟨SA, hSA⟩ : ∃ S, stk nd l 0 (p - 0) = S := ⟨_, rfl⟩
  obtain ⟨SB, hSB⟩ : ∃ S, stk nd l p (q - p) = S := ⟨_, rfl⟩
  obtain ⟨SC, hSC⟩ : ∃ S, stk nd l q (l.length - q) = S := ⟨_, rfl⟩
  obtain ⟨SQ, hSQ⟩ : ∃ S, stk nd l 0 (q - 0) = S := ⟨_, rfl⟩
  obtain ⟨SY, hSY⟩ : ∃ S, stk nd l p (l.length - p) = S := ⟨_, rfl⟩
  obtain ⟨SZ, hSZ⟩ : ∃ S, stk nd l 0 (l.length - 0) = S := ⟨_, rfl⟩
  rw [hSA] at RA MAB MXY GA
  rw [hSB] at RB MAB MYC GB
  rw [hSC] at RC MAC MYC
  rw [hSQ] at MAB MAC
  rw [hSY] at MYC MXY
  rw [hSZ] at RZ MAC MXY GZ CB CLD
  have hbi : (p : Int) ≤ 4398046511104 := by omega
  have hqi : (q : Int) ≤ 4398046511104 := by omega
  have hli : (l.length : Int) ≤ 4398046511104 := by omega
  have hn0 : ¬ (l.length : Int) + 1 = 0 := by omega
  have hn0b : ((l.length : Int) + 1 == 0) = false := by rw [beq_eq_false_iff_ne]; exact hn0
  have e1' : Int.tmod (Int.tmod ai ((l.length : Int) + 1) + ((l.length : Int) + 1)) ((l.length : Int) + 1) = (ri : Int) := by have := e1; push_cast at this; exact this
  have e4' : -((l.length : Int) + 1) < Int.tmod ai ((l.length : Int) + 1) := by have := e4; push_cast at this; exact this
  have e5' : Int.tmod ai ((l.length : Int) + 1) < (l.length : Int) + 1 := by have := e5; push_cast at this; exact this
  have f1' : Int.tmod (Int.tmod aj ((l.length : Int) + 1) + ((l.length : Int) + 1)) ((l.length : Int) + 1) = (rj : Int) := by have := f1; push_cast at this; exact this
  have f4' : -((l.length : Int) + 1) < Int.tmod aj ((l.length : Int) + 1) := by have := f4; push_cast at this; exact this
  have f5' : Int.tmod aj ((l.length : Int) + 1) < (l.length : Int) + 1 := by have := f5; push_cast at this; exact this
  clear hZB hrg hgs hmg hSA hSB hSC hSQ hSY hSZ e1 e2 e3 e4 e5 f1 f2 f3 f4 f5 hR hnd hCN
  rcases hord with ⟨hlt, hp, hq⟩ | ⟨hlt, hp, hq⟩
  · subst hp hq
    have hd : decide ((p : Int) < (q : Int)) = true := decide_eq_true (by omega)
    have hd2 : (p : Int) < (q : Int) := by omega
    clear hlt
    go_enter Tryd.func6, Tryd.ntmps6
    go_wp2_with fail
    refine (RA.out w _ HS0).mono ?_
    rintro r w1 ⟨ga, rfl, va, HS1⟩
    clear HS0
    go_wp2_with fail
    refine (RB.out w1 _ (HS1.front 2)).mono ?_
    rintro r w2 ⟨gb, rfl, vb, HS2⟩
    clear HS1
    go_wp2_with fail
    refine (RC.out w2 _ (HS2.front 2)).mono ?_
    rintro r w3 ⟨gc, rfl, vc, HS3⟩
    clear HS2
    go_wp2_with fail
    refine (clone_r SA GA.out.2.2.2 (by have := GA.out.len; omega) 5 6 rfl rfl HS3).mono ?_
    rintro r w4 ⟨gx, vx, rfl, HS4⟩
    clear HS3
    go_wp2_with fail
    refine (clone_r SB GB.out.2.2.2 (by have := GB.out.len; omega) 5 6 rfl rfl HS4).mono ?_
    rintro r w5 ⟨gy, vy, rfl, HS5⟩
    clear HS4
    go_wp2_with fail
    refine (RZ.out w5 _ (HS5.front 6)).mono ?_
    rintro r w6 ⟨gz, rfl, vz, HS6⟩
    clear HS5
    go_wp2_with fail
    have HM := MAB.out w6 _ ga gb va vb (by rfl) ((((HS6.front 10).front 10).front 12).front 12)
    (with_reducible refine Calls.mono HM ?_)
    rintro r w7 ⟨rfl, va2, HS7⟩
    clear HS6 HM
    go_wp2_with fail
    have HM := MAC.out w7 _ ga gc va2 vc (by rfl) ((((HS7.front 12).front 12).front 3).front 3)
    (with_reducible refine Calls.mono HM ?_)
    rintro r w8 ⟨rfl, va3, HS8⟩
    clear HS7 HM
    go_wp2_with fail
    have HM := MYC.out w8 _ gy gc vy vc (by rfl) ((((HS8.front 3).front 3).front 10).front 10)
    (with_reducible refine Calls.mono HM ?_)
    rintro r w9 ⟨rfl, vy2, HS9⟩
    clear HS8 HM
    go_wp2_with fail
    have HM := MXY.out w9 _ gx gy vx vy2 (by rfl) ((HS9.front 12).front 12)
    (with_reducible refine Calls.mono HM ?_)
    rintro r w10 ⟨rfl, vx2, HS10⟩
    clear HS9 HM
    have HSP := Lib.hid trivial
    go_wp2_with fail
    refine (CB.out w10 _ 10 11 gz vz rfl rfl HS10).mono ?_
    rintro r w11 ⟨zb, rfl, b11, o11⟩
    have HS11 := (HS10.made b11 o11).toRd 0 rfl
    obtain ⟨Az, cz, rfl, _⟩ := o11.sl
    clear HS10 b11 o11
    go_wp2_with fail
    refine (CLD.out w11 _ _ HS11).mono ?_
    rintro r w12 ⟨go, rfl, vo, HS12⟩
    clear HS11
    obtain ⟨RL, HSR, hx0, hx1, ha0, ha1, hz0, hz1, ho0, ho1⟩ : ∃ RL, Sep w.heap.size w w12 RL ∧ RL[3]? = some (.row gx (rgv (0 : Nat) l.length vx2) 61) ∧ RL[4]? = some (.own vx2 99 34 SZ.length (rcs SZ)) ∧ RL[9]? = some (.row ga (rgv (0 : Nat) l.length va3) 61) ∧ RL[10]? = some (.own va3 99 34 SZ.length (rcs SZ)) ∧ RL[13]? = some (.row gz (rgv (0 : Nat) l.length vz) 61) ∧ RL[14]? = some (.own vz 99 34 SZ.length (rcs SZ)) ∧ RL[0]? = some (.row go (rgv (0 : Nat) l.length vo) 61) ∧ RL[1]? = some (.own vo 99 34 SZ.length (rcs SZ)) :=
      ⟨_, HS12, rfl, rfl, rfl, rfl, rfl, rfl, rfl, rfl⟩
    have HX0 := Lib.hid hx0
    have HX1 := Lib.hid hx1
    have HA0 := Lib.hid ha0
    have HA1 := Lib.hid ha1
    have HZ0 := Lib.hid hz0
    have HZ1 := Lib.hid hz1
    have HO0 := Lib.hid ho0
    have HO1 := Lib.hid ho1
    clear HS12 hx0 hx1 ha0 ha1 hz0 hz1 ho0 ho1
    go_wp2
    refine Cop.region_ordw (fun w' => Sep w.heap.size w w' RL) 37 (.take 0 (.take 1 (.take 2 (.take 3 (.take 6 (.run 4 (.take 5 (.run 7 (.take 8 (.take 9 (.take 10 (.take 11 (.take 12 (.take 15 (.run 13 (.take 14 (.run 16 (.take 17 (.take 18 (.take 19 (.take 20 (.take 21 (.take 24 (.run 22 (.take 23 (.run 25 (.take 26 (.take 27 (.take 28 (.take 29 (.take 30 (.take 32 (.take 33 (.take 34 (.run 31 (.take 35 (.take 36 (.take 37 Cop.Ord.fin)))))))))))))))))))))))))))))))))))))) (by kernel_rfl) (by kernel_rfl) (fun _ _ d _ _ h => by cases d <;> exact h) ?_
    intro x0 hd0
    have K0 := HSR.keep hd0
    clear HSR
    (repeat (first | (refine Cop.ogw_skip rfl rfl K0 _ (by (simp only [Act.put, List.setIfInBounds_toArray, List.set_cons_succ, List.set_cons_zero]; rfl)) ?_) | (refine Cop.ogw_take rfl rfl K0 ?_; apply Exists.intro; refine ⟨fun w9 h9 => ?_, _, by (simp only [Act.put, List.setIfInBounds_toArray, List.set_cons_succ, List.set_cons_zero]; rfl), ?_⟩; (go_simp; with_reducible rfl))))
    refine Cop.ogw_run rfl rfl ?_
    refine ow_call_ex 26 _ (fun x w' => Below x0.heap.size x0 w' ∧ Ow w' x0.heap.size 5 1 x ZB.length (bl ZB)) (by go_simp) ((CB.out x0 _ 9 10 ga va3 HA0.out HA1.out K0).mono fun e w' ⟨x, h1, h2, h3⟩ => ⟨x, h1, h2, h3⟩) ?_
    rintro z1 x1 ⟨be, oe⟩
    have K1 := K0.made be oe
    obtain ⟨B1, d1, rfl, _⟩ := (K1.own 0 rfl).sl
    clear oe be
    refine ⟨_, fun _ (h : Sep w.heap.size w _ (.own (.slice B1 ZB.length d1) 5 1 ZB.length (bl ZB) :: _)) => h.tail, fun _ => K1, ?_⟩
    (repeat (first | (refine Cop.ogw_skip rfl rfl K1 _ (by (simp only [Act.put, List.setIfInBounds_toArray, List.set_cons_succ, List.set_cons_zero]; rfl)) ?_) | (refine Cop.ogw_take rfl rfl K1 ?_; apply Exists.intro; refine ⟨fun w9 h9 => ?_, _, by (simp only [Act.put, List.setIfInBounds_toArray, List.set_cons_succ, List.set_cons_zero]; rfl), ?_⟩; (have s1 : (convert 65 9 (.slice B1 ZB.length d1)).run Tryd.prog w9 = .ok (.string ⟨ZB.toArray⟩) w9 := Rd.string (P := Tryd.prog) (h9.own 0 rfl).rd Tryd.underlying65 Tryd.underlying5 Tryd.underlying9; go_simp; with_reducible rfl))))
    refine Cop.ogw_run rfl rfl ?_
    refine ow_call_ex 26 _ (fun x w' => Below x1.heap.size x1 w' ∧ Ow w' x1.heap.size 5 1 x ZB.length (bl ZB)) (by go_simp) ((CB.out x1 _ 14 15 gz vz HZ0.out HZ1.out K1).mono fun e w' ⟨x, h1, h2, h3⟩ => ⟨x, h1, h2, h3⟩) ?_
    rintro z2 x2 ⟨be, oe⟩
    have K2 := K1.made be oe
    obtain ⟨B2, d2, rfl, _⟩ := (K2.own 0 rfl).sl
    clear oe be
    refine ⟨_, fun _ (h : Sep w.heap.size w _ (.own (.slice B2 ZB.length d2) 5 1 ZB.length (bl ZB) :: _)) => h.tail, fun _ => K2, ?_⟩
    (repeat (first | (refine Cop.ogw_skip rfl rfl K2 _ (by (simp only [Act.put, List.setIfInBounds_toArray, List.set_cons_succ, List.set_cons_zero]; rfl)) ?_) | (refine Cop.ogw_take rfl rfl K2 ?_; apply Exists.intro; refine ⟨fun w9 h9 => ?_, _, by (simp only [Act.put, List.setIfInBounds_toArray, List.set_cons_succ, List.set_cons_zero]; rfl), ?_⟩; (have s1 : (convert 65 9 (.slice B2 ZB.length d2)).run Tryd.prog w9 = .ok (.string ⟨ZB.toArray⟩) w9 := Rd.string (P := Tryd.prog) (h9.own 0 rfl).rd Tryd.underlying65 Tryd.underlying5 Tryd.underlying9; go_simp; with_reducible rfl))))
    refine Cop.ogw_run rfl rfl ?_
    refine ow_call_ex 26 _ (fun x w' => Below x2.heap.size x2 w' ∧ Ow w' x2.heap.size 5 1 x ZB.length (bl ZB)) (by go_simp) ((CB.out x2 _ 5 6 gx vx2 HX0.out HX1.out K2).mono fun e w' ⟨x, h1, h2, h3⟩ => ⟨x, h1, h2, h3⟩) ?_
    rintro z3 x3 ⟨be, oe⟩
    have K3 := K2.made be oe
    obtain ⟨B3, d3, rfl, _⟩ := (K3.own 0 rfl).sl
    clear oe be
    refine ⟨_, fun _ (h : Sep w.heap.size w _ (.own (.slice B3 ZB.length d3) 5 1 ZB.length (bl ZB) :: _)) => h.tail, fun _ => K3, ?_⟩
    (repeat (first | (refine Cop.ogw_skip rfl rfl K3 _ (by (simp only [Act.put, List.setIfInBounds_toArray, List.set_cons_succ, List.set_cons_zero]; rfl)) ?_) | (refine Cop.ogw_take rfl rfl K3 ?_; apply Exists.intro; refine ⟨fun w9 h9 => ?_, _, by (simp only [Act.put, List.setIfInBounds_toArray, List.set_cons_succ, List.set_cons_zero]; rfl), ?_⟩; (have s1 : (convert 65 9 (.slice B3 ZB.length d3)).run Tryd.prog w9 = .ok (.string ⟨ZB.toArray⟩) w9 := Rd.string (P := Tryd.prog) (h9.own 0 rfl).rd Tryd.underlying65 Tryd.underlying5 Tryd.underlying9; go_simp; with_reducible rfl))))
    refine Cop.ogw_run rfl rfl ?_
    refine ow_call_ex 26 _ (fun x w' => Below x3.heap.size x3 w' ∧ Ow w' x3.heap.size 5 1 x ZB.length (bl ZB)) (by go_simp) ((CB.out x3 _ 16 17 gz vz HZ0.out HZ1.out K3).mono fun e w' ⟨x, h1, h2, h3⟩ => ⟨x, h1, h2, h3⟩) ?_
    rintro z4 x4 ⟨be, oe⟩
    have K4 := K3.made be oe
    obtain ⟨B4, d4, rfl, _⟩ := (K4.own 0 rfl).sl
    clear oe be
    refine ⟨_, fun _ (h : Sep w.heap.size w _ (.own (.slice B4 ZB.length d4) 5 1 ZB.length (bl ZB) :: _)) => h.tail, fun _ => K4, ?_⟩
    (repeat (first | (refine Cop.ogw_skip rfl rfl K4 _ (by (simp only [Act.put, List.setIfInBounds_toArray, List.set_cons_succ, List.set_cons_zero]; rfl)) ?_) | (refine Cop.ogw_take rfl rfl K4 ?_; apply Exists.intro; refine ⟨fun w9 h9 => ?_, _, by (simp only [Act.put, List.setIfInBounds_toArray, List.set_cons_succ, List.set_cons_zero]; rfl), ?_⟩; (have s1 : (convert 65 9 (.slice B4 ZB.length d4)).run Tryd.prog w9 = .ok (.string ⟨ZB.toArray⟩) w9 := Rd.string (P := Tryd.prog) (h9.own 0 rfl).rd Tryd.underlying65 Tryd.underlying5 Tryd.underlying9; go_simp; with_reducible rfl))))
    refine Cop.ogw_run rfl rfl ?_
    refine ow_call_ex 26 _ (fun x w' => Below x4.heap.size x4 w' ∧ Ow w' x4.heap.size 5 1 x ZB.length (bl ZB)) (by go_simp) ((CB.out x4 _ 4 5 go vo HO0.out HO1.out K4).mono fun e w' ⟨x, h1, h2, h3⟩ => ⟨x, h1, h2, h3⟩) ?_
    rintro z5 x5 ⟨be, oe⟩
    have K5 := K4.made be oe
    obtain ⟨B5, d5, rfl, _⟩ := (K5.own 0 rfl).sl
    clear oe be
    refine ⟨_, fun _ (h : Sep w.heap.size w _ (.own (.slice B5 ZB.length d5) 5 1 ZB.length (bl ZB) :: _)) => h.tail, fun _ => K5, ?_⟩
    (repeat (first | (refine Cop.ogw_skip rfl rfl K5 _ (by (simp only [Act.put, List.setIfInBounds_toArray, List.set_cons_succ, List.set_cons_zero]; rfl)) ?_) | (refine Cop.ogw_take rfl rfl K5 ?_; apply Exists.intro; refine ⟨fun w9 h9 => ?_, _, by (simp only [Act.put, List.setIfInBounds_toArray, List.set_cons_succ, List.set_cons_zero]; rfl), ?_⟩; (have s1 : (convert 65 9 (.slice B5 ZB.length d5)).run Tryd.prog w9 = .ok (.string ⟨ZB.toArray⟩) w9 := Rd.string (P := Tryd.prog) (h9.own 0 rfl).rd Tryd.underlying65 Tryd.underlying5 Tryd.underlying9; go_simp; with_reducible rfl))))
    refine Cop.ogw_run rfl rfl ?_
    refine ow_call_ex 26 _ (fun x w' => Below x5.heap.size x5 w' ∧ Ow w' x5.heap.size 5 1 x ZB.length (bl ZB)) (by go_simp) ((CB.out x5 _ 18 19 gz vz HZ0.out HZ1.out K5).mono fun e w' ⟨x, h1, h2, h3⟩ => ⟨x, h1, h2, h3⟩) ?_
    rintro z6 x6 ⟨be, oe⟩
    have K6 := K5.made be oe
    obtain ⟨B6, d6, rfl, _⟩ := (K6.own 0 rfl).sl
    clear oe be
    refine ⟨_, fun _ (h : Sep w.heap.size w _ (.own (.slice B6 ZB.length d6) 5 1 ZB.length (bl ZB) :: _)) => h.tail, fun _ => K6, ?_⟩
    (repeat (first | (refine Cop.ogw_skip rfl rfl K6 _ (by (simp only [Act.put, List.setIfInBounds_toArray, List.set_cons_succ, List.set_cons_zero]; rfl)) ?_) | (refine Cop.ogw_take rfl rfl K6 ?_; apply Exists.intro; refine ⟨fun w9 h9 => ?_, _, by (simp only [Act.put, List.setIfInBounds_toArray, List.set_cons_succ, List.set_cons_zero]; rfl), ?_⟩; (have s1 : (convert 65 9 (.slice B6 ZB.length d6)).run Tryd.prog w9 = .ok (.string ⟨ZB.toArray⟩) w9 := Rd.string (P := Tryd.prog) (h9.own 0 rfl).rd Tryd.underlying65 Tryd.underlying5 Tryd.underlying9; go_simp; with_reducible rfl))))
    refine Cop.ogw_run rfl rfl ?_
    refine ow_call 24 _ _ (fun w' => Below x6.heap.size x6 w') (by go_simp) (span_r 19 HZ0.out K6) ?_
    intro x7 b7
    have K7 := K6.keep b7
    refine ⟨_, fun _ h => h, fun _ => K7, ?_⟩
    (repeat (first | (refine Cop.ogw_skip rfl rfl K7 _ (by (simp only [Act.put, List.setIfInBounds_toArray, List.set_cons_succ, List.set_cons_zero]; rfl)) ?_) | (refine Cop.ogw_take rfl rfl K7 ?_; apply Exists.intro; refine ⟨fun w9 h9 => ?_, _, by (simp only [Act.put, List.setIfInBounds_toArray, List.set_cons_succ, List.set_cons_zero]; rfl), ?_⟩; (go_simp; with_reducible rfl))))
    refine ogw_fin ?_
    go_wp2
    go_ret
    exact ⟨rfl, K7.hb⟩
  · subst hp hq
    have hd : decide ((q : Int) < (p : Int)) = false := decide_eq_false (by omega)
    have hd2 : ¬ (q : Int) < (p : Int) := by omega
    clear hlt
    go_enter Tryd.func6, Tryd.ntmps6
    go_wp2_with fail
    refine (RA.out w _ HS0).mono ?_
    rintro r w1 ⟨ga, rfl, va, HS1⟩
    clear HS0
    go_wp2_with fail
    refine (RB.out w1 _ (HS1.front 2)).mono ?_
    rintro r w2 ⟨gb, rfl, vb, HS2⟩
    clear HS1
    go_wp2_with fail
    refine (RC.out w2 _ (HS2.front 2)).mono ?_
    rintro r w3 ⟨gc, rfl, vc, HS3⟩
    clear HS2
    go_wp2_with fail
    refine (clone_r SA GA.out.2.2.2 (by have := GA.out.len; omega) 5 6 rfl rfl HS3).mono ?_
    rintro r w4 ⟨gx, vx, rfl, HS4⟩
    clear HS3
    go_wp2_with fail
    refine (clone_r SB GB.out.2.2.2 (by have := GB.out.len; omega) 5 6 rfl rfl HS4).mono ?_
    rintro r w5 ⟨gy, vy, rfl, HS5⟩
    clear HS4
    go_wp2_with fail
    refine (RZ.out w5 _ (HS5.front 6)).mono ?_
    rintro r w6 ⟨gz, rfl, vz, HS6⟩
    clear HS5
    go_wp2_with fail
    have HM := MAB.out w6 _ ga gb va vb (by rfl) ((((HS6.front 10).front 10).front 12).front 12)
    (with_reducible refine Calls.mono HM ?_)
    rintro r w7 ⟨rfl, va2, HS7⟩
    clear HS6 HM
    go_wp2_with fail
    have HM := MAC.out w7 _ ga gc va2 vc (by rfl) ((((HS7.front 12).front 12).front 3).front 3)
    (with_reducible refine Calls.mono HM ?_)
    rintro r w8 ⟨rfl, va3, HS8⟩
    clear HS7 HM
    go_wp2_with fail
    have HM := MYC.out w8 _ gy gc vy vc (by rfl) ((((HS8.front 3).front 3).front 10).front 10)
    (with_reducible refine Calls.mono HM ?_)
    rintro r w9 ⟨rfl, vy2, HS9⟩
    clear HS8 HM
    go_wp2_with fail
    have HM := MXY.out w9 _ gx gy vx vy2 (by rfl) ((HS9.front 12).front 12)
    (with_reducible refine Calls.mono HM ?_)
    rintro r w10 ⟨rfl, vx2, HS10⟩
    clear HS9 HM
    have HSP := Lib.hid trivial
    go_wp2_with fail
    refine (CB.out w10 _ 10 11 gz vz rfl rfl HS10).mono ?_
    rintro r w11 ⟨zb, rfl, b11, o11⟩
    have HS11 := (HS10.made b11 o11).toRd 0 rfl
    obtain ⟨Az, cz, rfl, _⟩ := o11.sl
    clear HS10 b11 o11
    go_wp2_with fail
    refine (CLD.out w11 _ _ HS11).mono ?_
    rintro r w12 ⟨go, rfl, vo, HS12⟩
    clear HS11
    obtain ⟨RL, HSR, hx0, hx1, ha0, ha1, hz0, hz1, ho0, ho1⟩ : ∃ RL, Sep w.heap.size w w12 RL ∧ RL[3]? = some (.row gx (rgv (0 : Nat) l.length vx2) 61) ∧ RL[4]? = some (.own vx2 99 34 SZ.length (rcs SZ)) ∧ RL[9]? = some (.row ga (rgv (0 : Nat) l.length va3) 61) ∧ RL[10]? = some (.own va3 99 34 SZ.length (rcs SZ)) ∧ RL[13]? = some (.row gz (rgv (0 : Nat) l.length vz) 61) ∧ RL[14]? = some (.own vz 99 34 SZ.length (rcs SZ)) ∧ RL[0]? = some (.row go (rgv (0 : Nat) l.length vo) 61) ∧ RL[1]? = some (.own vo 99 34 SZ.length (rcs SZ)) :=
      ⟨_, HS12, rfl, rfl, rfl, rfl, rfl, rfl, rfl, rfl⟩
    have HX0 := Lib.hid hx0
    have HX1 := Lib.hid hx1
    have HA0 := Lib.hid ha0
    have HA1 := Lib.hid ha1
    have HZ0 := Lib.hid hz0
    have HZ1 := Lib.hid hz1
    have HO0 := Lib.hid ho0
    have HO1 := Lib.hid ho1
    clear HS12 hx0 hx1 ha0 ha1 hz0 hz1 ho0 ho1
    go_wp2
    refine Cop.region_ordw (fun w' => Sep w.heap.size w w' RL) 37 (.take 0 (.take 1 (.take 2 (.take 3 (.take 6 (.run 4 (.take 5 (.run 7 (.take 8 (.take 9 (.take 10 (.take 11 (.take 12 (.take 15 (.run 13 (.take 14 (.run 16 (.take 17 (.take 18 (.take 19 (.take 20 (.take 21 (.take 24 (.run 22 (.take 23 (.run 25 (.take 26 (.take 27 (.take 28 (.take 29 (.take 30 (.take 32 (.take 33 (.take 34 (.run 31 (.take 35 (.take 36 (.take 37 Cop.Ord.fin)))))))))))))))))))))))))))))))))))))) (by kernel_rfl) (by kernel_rfl) (fun _ _ d _ _ h => by cases d <;> exact h) ?_
    intro x0 hd0
    have K0 := HSR.keep hd0
    clear HSR
    (repeat (first | (refine Cop.ogw_skip rfl rfl K0 _ (by (simp only [Act.put, List.setIfInBounds_toArray, List.set_cons_succ, List.set_cons_zero]; rfl)) ?_) | (refine Cop.ogw_take rfl rfl K0 ?_; apply Exists.intro; refine ⟨fun w9 h9 => ?_, _, by (simp only [Act.put, List.setIfInBounds_toArray, List.set_cons_succ, List.set_cons_zero]; rfl), ?_⟩; (go_simp; with_reducible rfl))))
    refine Cop.ogw_run rfl rfl ?_
    refine ow_call_ex 26 _ (fun x w' => Below x0.heap.size x0 w' ∧ Ow w' x0.heap.size 5 1 x ZB.length (bl ZB)) (by go_simp) ((CB.out x0 _ 9 10 ga va3 HA0.out HA1.out K0).mono fun e w' ⟨x, h1, h2, h3⟩ => ⟨x, h1, h2, h3⟩) ?_
    rintro z1 x1 ⟨be, oe⟩
    have K1 := K0.made be oe
    obtain ⟨B1, d1, rfl, _⟩ := (K1.own 0 rfl).sl
    clear oe be
    refine ⟨_, fun _ (h : Sep w.heap.size w _ (.own (.slice B1 ZB.length d1) 5 1 ZB.length (bl ZB) :: _)) => h.tail, fun _ => K1, ?_⟩
    (repeat (first | (refine Cop.ogw_skip rfl rfl K1 _ (by (simp only [Act.put, List.setIfInBounds_toArray, List.set_cons_succ, List.set_cons_zero]; rfl)) ?_) | (refine Cop.ogw_take rfl rfl K1 ?_; apply Exists.intro; refine ⟨fun w9 h9 => ?_, _, by (simp only [Act.put, List.setIfInBounds_toArray, List.set_cons_succ, List.set_cons_zero]; rfl), ?_⟩; (have s1 : (convert 65 9 (.slice B1 ZB.length d1)).run Tryd.prog w9 = .ok (.string ⟨ZB.toArray⟩) w9 := Rd.string (P := Tryd.prog) (h9.own 0 rfl).rd Tryd.underlying65 Tryd.underlying5 Tryd.underlying9; go_simp; with_reducible rfl))))
    refine Cop.ogw_run rfl rfl ?_
    refine ow_call_ex 26 _ (fun x w' => Below x1.heap.size x1 w' ∧ Ow w' x1.heap.size 5 1 x ZB.length (bl ZB)) (by go_simp) ((CB.out x1 _ 14 15 gz vz HZ0.out HZ1.out K1).mono fun e w' ⟨x, h1, h2, h3⟩ => ⟨x, h1, h2, h3⟩) ?_
    rintro z2 x2 ⟨be, oe⟩
    have K2 := K1.made be oe
    obtain ⟨B2, d2, rfl, _⟩ := (K2.own 0 rfl).sl
    clear oe be
    refine ⟨_, fun _ (h : Sep w.heap.size w _ (.own (.slice B2 ZB.length d2) 5 1 ZB.length (bl ZB) :: _)) => h.tail, fun _ => K2, ?_⟩
    (repeat (first | (refine Cop.ogw_skip rfl rfl K2 _ (by (simp only [Act.put, List.setIfInBounds_toArray, List.set_cons_succ, List.set_cons_zero]; rfl)) ?_) | (refine Cop.ogw_take rfl rfl K2 ?_; apply Exists.intro; refine ⟨fun w9 h9 => ?_, _, by (simp only [Act.put, List.setIfInBounds_toArray, List.set_cons_succ, List.set_cons_zero]; rfl), ?_⟩; (have s1 : (convert 65 9 (.slice B2 ZB.length d2)).run Tryd.prog w9 = .ok (.string ⟨ZB.toArray⟩) w9 := Rd.string (P := Tryd.prog) (h9.own 0 rfl).rd Tryd.underlying65 Tryd.underlying5 Tryd.underlying9; go_simp; with_reducible rfl))))
    refine Cop.ogw_run rfl rfl ?_
    refine ow_call_ex 26 _ (fun x w' => Below x2.heap.size x2 w' ∧ Ow w' x2.heap.size 5 1 x ZB.length (bl ZB)) (by go_simp) ((CB.out x2 _ 5 6 gx vx2 HX0.out HX1.out K2).mono fun e w' ⟨x, h1, h2, h3⟩ => ⟨x, h1, h2, h3⟩) ?_
    rintro z3 x3 ⟨be, oe⟩
    have K3 := K2.made be oe
    obtain ⟨B3, d3, rfl, _⟩ := (K3.own 0 rfl).sl
    clear oe be
    refine ⟨_, fun _ (h : Sep w.heap.size w _ (.own (.slice B3 ZB.length d3) 5 1 ZB.length (bl ZB) :: _)) => h.tail, fun _ => K3, ?_⟩
    (repeat (first | (refine Cop.ogw_skip rfl rfl K3 _ (by (simp only [Act.put, List.setIfInBounds_toArray, List.set_cons_succ, List.set_cons_zero]; rfl)) ?_) | (refine Cop.ogw_take rfl rfl K3 ?_; apply Exists.intro; refine ⟨fun w9 h9 => ?_, _, by (simp only [Act.put, List.setIfInBounds_toArray, List.set_cons_succ, List.set_cons_zero]; rfl), ?_⟩; (have s1 : (convert 65 9 (.slice B3 ZB.length d3)).run Tryd.prog w9 = .ok (.string ⟨ZB.toArray⟩) w9 := Rd.string (P := Tryd.prog) (h9.own 0 rfl).rd Tryd.underlying65 Tryd.underlying5 Tryd.underlying9; go_simp; with_reducible rfl))))
    refine Cop.ogw_run rfl rfl ?_
    refine ow_call_ex 26 _ (fun x w' => Below x3.heap.size x3 w' ∧ Ow w' x3.heap.size 5 1 x ZB.length (bl ZB)) (by go_simp) ((CB.out x3 _ 16 17 gz vz HZ0.out HZ1.out K3).mono fun e w' ⟨x, h1, h2, h3⟩ => ⟨x, h1, h2, h3⟩) ?_
    rintro z4 x4 ⟨be, oe⟩
    have K4 := K3.made be oe
    obtain ⟨B4, d4, rfl, _⟩ := (K4.own 0 rfl).sl
    clear oe be
    refine ⟨_, fun _ (h : Sep w.heap.size w _ (.own (.slice B4 ZB.length d4) 5 1 ZB.length (bl ZB) :: _)) => h.tail, fun _ => K4, ?_⟩
    (repeat (first | (refine Cop.ogw_skip rfl rfl K4 _ (by (simp only [Act.put, List.setIfInBounds_toArray, List.set_cons_succ, List.set_cons_zero]; rfl)) ?_) | (refine Cop.ogw_take rfl rfl K4 ?_; apply Exists.intro; refine ⟨fun w9 h9 => ?_, _, by (simp only [Act.put, List.setIfInBounds_toArray, List.set_cons_succ, List.set_cons_zero]; rfl), ?_⟩; (have s1 : (convert 65 9 (.slice B4 ZB.length d4)).run Tryd.prog w9 = .ok (.string ⟨ZB.toArray⟩) w9 := Rd.string (P := Tryd.prog) (h9.own 0 rfl).rd Tryd.underlying65 Tryd.underlying5 Tryd.underlying9; go_simp; with_reducible rfl))))
    refine Cop.ogw_run rfl rfl ?_
    refine ow_call_ex 26 _ (fun x w' => Below x4.heap.size x4 w' ∧ Ow w' x4.heap.size 5 1 x ZB.length (bl ZB)) (by go_simp) ((CB.out x4 _ 4 5 go vo HO0.out HO1.out K4).mono fun e w' ⟨x, h1, h2, h3⟩ => ⟨x, h1, h2, h3⟩) ?_
    rintro z5 x5 ⟨be, oe⟩
    have K5 := K4.made be oe
    obtain ⟨B5, d5, rfl, _⟩ := (K5.own 0 rfl).sl
    clear oe be
    refine ⟨_, fun _ (h : Sep w.heap.size w _ (.own (.slice B5 ZB.length d5) 5 1 ZB.length (bl ZB) :: _)) => h.tail, fun _ => K5, ?_⟩
    (repeat (first | (refine Cop.ogw_skip rfl rfl K5 _ (by (simp only [Act.put, List.setIfInBounds_toArray, List.set_cons_succ, List.set_cons_zero]; rfl)) ?_) | (refine Cop.ogw_take rfl rfl K5 ?_; apply Exists.intro; refine ⟨fun w9 h9 => ?_, _, by (simp only [Act.put, List.setIfInBounds_toArray, List.set_cons_succ, List.set_cons_zero]; rfl), ?_⟩; (have s1 : (convert 65 9 (.slice B5 ZB.length d5)).run Tryd.prog w9 = .ok (.string ⟨ZB.toArray⟩) w9 := Rd.string (P := Tryd.prog) (h9.own 0 rfl).rd Tryd.underlying65 Tryd.underlying5 Tryd.underlying9; go_simp; with_reducible rfl))))
    refine Cop.ogw_run rfl rfl ?_
    refine ow_call_ex 26 _ (fun x w' => Below x5.heap.size x5 w' ∧ Ow w' x5.heap.size 5 1 x ZB.length (bl ZB)) (by go_simp) ((CB.out x5 _ 18 19 gz vz HZ0.out HZ1.out K5).mono fun e w' ⟨x, h1, h2, h3⟩ => ⟨x, h1, h2, h3⟩) ?_
    rintro z6 x6 ⟨be, oe⟩
    have K6 := K5.made be oe
    obtain ⟨B6, d6, rfl, _⟩ := (K6.own 0 rfl).sl
    clear oe be
    refine ⟨_, fun _ (h : Sep w.heap.size w _ (.own (.slice B6 ZB.length d6) 5 1 ZB.length (bl ZB) :: _)) => h.tail, fun _ => K6, ?_⟩
    (repeat (first | (refine Cop.ogw_skip rfl rfl K6 _ (by (simp only [Act.put, List.setIfInBounds_toArray, List.set_cons_succ, List.set_cons_zero]; rfl)) ?_) | (refine Cop.ogw_take rfl rfl K6 ?_; apply Exists.intro; refine ⟨fun w9 h9 => ?_, _, by (simp only [Act.put, List.setIfInBounds_toArray, List.set_cons_succ, List.set_cons_zero]; rfl), ?_⟩; (have s1 : (convert 65 9 (.slice B6 ZB.length d6)).run Tryd.prog w9 = .ok (.string ⟨ZB.toArray⟩) w9 := Rd.string (P := Tryd.prog) (h9.own 0 rfl).rd Tryd.underlying65 Tryd.underlying5 Tryd.underlying9; go_simp; with_reducible rfl))))
    refine Cop.ogw_run rfl rfl ?_
    refine ow_call 24 _ _ (fun w' => Below x6.heap.size x6 w') (by go_simp) (span_r 19 HZ0.out K6) ?_
    intro x7 b7
    have K7 := K6.keep b7
    refine ⟨_, fun _ h => h, fun _ => K7, ?_⟩
    (repeat (first | (refine Cop.ogw_skip rfl rfl K7 _ (by (simp only [Act.put, List.setIfInBounds_toArray, List.set_cons_succ, List.set_cons_zero]; rfl)) ?_) | (refine Cop.ogw_take rfl rfl K7 ?_; apply Exists.intro; refine ⟨fun w9 h9 => ?_, _, by (simp only [Act.put, List.setIfInBounds_toArray, List.set_cons_succ, List.set_cons_zero]; rfl), ?_⟩; (go_simp; with_reducible rfl))))
    refine ogw_fin ?_
    go_wp2
    go_ret
    exact ⟨rfl, K7.hb⟩
end
end Go.Proofs.YtlhebogbbkjahaaDoor
namespace Go.Proofs.YtlhebogbbkjahaaDoor
open Go.RowKit Cop
set_option linter.unusedVariables false
set_option linter.unusedSimpArgs false
set_option maxRecDepth 100000 in
theorem compactMerges_holds : Rows.CompactMergesCardSaid := compactMerges.card_of_walk fun H enc W base v0 v1 v2 d0 d1 d2 p0 p1 p2 h0 k0 h1 k1 h2 k2 hsz hL => by
  obtain ⟨a, rfl, _, _, _⟩ := Go.ChangeShapes.open_int Tryd.underlying3 k1 h1
  obtain ⟨b, rfl, _, _, _⟩ := Go.ChangeShapes.open_int Tryd.underlying3 k2 h2
  obtain ⟨l, hR, hl, hll⟩ := open_dslice Tryd.underlying22 Tryd.underlying33 Tryd.underlying5 (by kernel_rfl) (by kernel_rfl) (by kernel_rfl) h0 k0 hsz 0 rfl rfl
  have hT : Tab W := table_of hL
  exact merges_walk nodeD nodeD_length l hl (by omega) v0 a b hR (fun w' a b hb ha hb2 => node_a a b w' (hT.below hb) ha hb2)
#print axioms compactMerges_holds
end Go.Proofs.YtlhebogbbkjahaaDoor
