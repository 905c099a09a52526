/- Proved here: a range of leaves has for each part the tree's root of it, and its own root is the tree's; of arguments of a bulk of at most 1048576 values. The table of constants is tied to the program's text. -/
import Derived.Test.YtlhebogbbkjahaaDoorMTm1
import Derived.Test.YtlhebogbbkjahaaDoorMTm2
import Derived.Test.YtlhebogbbkjahaaDoorRf
import Derived.Test.YtlhebogbbkjahaaDoorOg
import Derived.OrdersIn
import Derived.Test.YtlhebogbbkjahaaDoorSs
import Derived.OpenShut
import Derived.Test.YtlhebogbbkjahaaDoorRows
import Derived.Test.YtlhebogbbkjahaaDoorFCompactTreeUpto
namespace Go.Proofs.YtlhebogbbkjahaaDoor
open Go.RowKit Go.Shelf Cop
set_option linter.unusedVariables false
set_option linter.unusedSimpArgs false
section
variable {w0 w w' W : World} {B : Nat} {R : List Pc}
theorem append_n (nd : List UInt8 → List UInt8 → List UInt8) (hnd : ∀ a b, (nd a b).length = 32) (g b e : Nat) (d : List UInt8) (v : Value) (s : List Prt) (hd : d.length = 32) (hgd : GoodR b e s)
    (hCN : ∀ w' a b, Below B w0 w' → a.length = 32 → b.length = 32 → Gives 42 #[.agg (bv a), .agg (bv b)] w' (.agg (bv (nd a b))))
    (HS : Sep B w0 w (.row g (rgv b e v) 61 :: .own v 99 34 s.length (rcs s) :: R)) :
    Calls Tryd.prog 21 #[.pointer (some ⟨g, 0, none⟩), .agg (bv d)] w fun r w' => (∃ er : Int, r = .returned (.int .i64 er) ∧ (er = 0 ↔ Fits e 0)) ∧ RgAt B w0 g b (appN nd (e, s) 0 d).1 (appN nd (e, s) 0 d).2 R w' := by
  have CA := Lib.hid (fun (w' : World) (R' : List Pc) (H : Sep B w0 w' (.row g (rgv b e v) 61 :: .own v 99 34 s.length (rcs s) :: R')) => appendNode_n nd hnd g b e 0 d v s hd hgd hCN H)
  clear hnd hgd hCN
  go_enter Tryd.func21, Tryd.ntmps21
  go_wp2_with (first | refine wl_bx HS rfl 33 _ rfl (bv d) rfl ?_)
  intro g3 w1 HS1
  clear HS
  go_wp2_with (first | refine wl_ld HS1 0 rfl rfl 33 _ rfl rfl Tryd.underlying33 rfl (dgS hd) ?_)
  refine (CA.out w1 _ ((HS1.front 2).front 2)).mono ?_
  rintro r w2 ⟨⟨er, rfl, he⟩, v2, HS2⟩
  have HE := Lib.hid he
  clear he HS1
  go_wp2
  go_ret
  exact ⟨⟨er, rfl, HE.out⟩, v2, HS2.sub (((List.Sublist.refl _).cons _).cons_cons _ |>.cons_cons _)⟩
set_option maxRecDepth 100000 in
set_option maxHeartbeats 4000000 in
theorem ranged_a (nd : List UInt8 → List UInt8 → List UInt8) (hnd : ∀ a b, (nd a b).length = 32) (l : List (List UInt8)) (hl : AllD l) (hll : l.length ≤ 4398046511104) (b e : Nat) (hbe : b ≤ e) (he : e ≤ l.length) (v0 : Value) (S : Nat → List Prt) (hS0 : S 0 = [])
    (hSs : ∀ k, b + k < e → appN nd (b + k, S k) 0 (l.getD (b + k) []) = (b + (k + 1), S (k + 1))) (hgood : ∀ k, b + k ≤ e → GoodR b (b + k) (S k))
    (hCN : ∀ w' a b, Below B w0 w' → a.length = 32 → b.length = 32 → Gives 42 #[.agg (bv a), .agg (bv b)] w' (.agg (bv (nd a b))))
    (HS : Sep B w0 w (.rd v0 l.length 32 (dcs l) :: R)) :
    Calls Tryd.prog 9 #[v0, .agg #[.int .i64 (b : Int), .int .i64 (e : Int)]] w fun r w' => ∃ g, r = .returned (.pointer (some ⟨g, 0, none⟩)) ∧ RgAt B w0 g b e (S (e - b)) (.rd v0 l.length 32 (dcs l) :: R) w' := by
  have CA := Lib.hid (fun (k : Nat) (hk : b + k < e) (g : Nat) (v : Value) (w' : World) (R' : List Pc) (H : Sep B w0 w' (.row g (rgv b (b + k : Nat) v) 61 :: .own v 99 34 (S k).length (rcs (S k)) :: R')) => by
    have := append_n nd hnd g b (b + k) (l.getD (b + k) []) v (S k) (by
      refine hl _ ?_
      simp only [List.getD, List.getElem?_eq_getElem (show b + k < l.length by omega), Option.getD_some]
      exact List.getElem_mem _) (hgood k (by omega)) hCN H
    rw [hSs k hk] at this
    exact this)
  have HF := Lib.hid (fun k (hk : b + k < e) => (show Fits (b + k) 0 from ⟨by omega, by omega, by omega⟩))
  have HL := Lib.hid hl
  have HS0' := Lib.hid hS0
  obtain ⟨A0, c0, rfl, hc0, hcm0⟩ := (HS.rd 0 rfl).shape
  clear hnd hl hS0 hSs hgood hCN
  go_enter Tryd.func9, Tryd.ntmps9
  go_wp2_with (first | refine wl_bx HS rfl 26 _ rfl #[.int .i64 (b : Int), .int .i64 (e : Int)] rfl ?_)
  intro g3 w1 HS1
  have cb := (row_cell (HS1.row 0 rfl) 0).trans (show (#[Value.int .i64 (b : Int), .int .i64 (e : Int)] : Array Value)[0]? = some (.int .i64 (b : Int)) from rfl)
  clear HS
  go_wp2_with fail
  refine (new_r (b : Int) (by omega) (by omega) HS1).mono ?_
  rintro r w2 ⟨g, rfl, HS2⟩
  have cb := (row_cell (HS2.row 2 rfl) 0).trans (show (#[Value.int .i64 (b : Int), .int .i64 (e : Int)] : Array Value)[0]? = some (.int .i64 (b : Int)) from rfl)
  clear HS1
  go_wp2
  clear cb
  go_loopw [7] (fun s7 wr => ∃ (k : Nat) (vk : Value), b + k ≤ e ∧ s7 = .int .i64 ((b + k : Nat) : Int) ∧ Sep B w0 wr (.row g (rgv b (b + k : Nat) vk) 61 :: .own vk 99 34 (S k).length (rcs (S k)) :: .row g3 #[.int .i64 (b : Int), .int .i64 (e : Int)] 26 :: .rd (.slice A0 l.length c0) l.length 32 (dcs l) :: R)) (fun s7 _ => e - (intOf s7).toNat)
  case atStart => exact ⟨0, _, by omega, rfl, by rw [HS0'.out]; exact HS2⟩
  case round =>
    clear HS2
    obtain ⟨k, vk, hk, rfl, HSi⟩ := hrel
    have ce := (row_cell (HSi.row 2 rfl) 1).trans (show (#[Value.int .i64 (b : Int), .int .i64 (e : Int)] : Array Value)[1]? = some (.int .i64 (e : Int)) from rfl)
    obtain ⟨i, hi⟩ : ∃ i, b + k = i := ⟨_, rfl⟩
    by_cases hlt : b + k < e
    · have hA := CA.out k hlt g vk
      have hF := HF.out k hlt
      obtain ⟨d, hdd⟩ : ∃ d, l.getD (b + k) [] = d := ⟨_, rfl⟩
      rw [hdd] at hA
      have hd : d.length = 32 := by
        rw [← hdd]
        refine HL.out _ ?_
        simp only [List.getD, List.getElem?_eq_getElem (show b + k < l.length by omega), Option.getD_some]
        exact List.getElem_mem _
      have h0 : 0 < l.length := by omega
      obtain ⟨b0, o0, rfl⟩ := rd_some (HSi.rd 3 rfl) h0
      have HLD := Lib.hid (show (Instr.loadAt 33 (.pointer (some ⟨b0, o0 + (b + k) * 32, none⟩))).run Tryd.prog wr = .ok (.agg (bv d)) wr from
        load_cells (bv d) (fun j u hu => by
          have hj : j < 32 := by have := (Array.getElem?_eq_some_iff.1 hu).1; rw [bv_size, hd] at this; exact this
          have := rd_cell (HSi.rd 3 rfl) (by omega) ((b + k) * 32 + j) (v := u) (by
            rw [dcs_at HL.out (b + k) (by omega) j hj, hdd]
            rw [← bv_toList]
            simpa using hu)
          rwa [← Nat.add_assoc] at this) 33 Tryd.underlying33 rfl (dgS hd))
      rw [hi] at HSi HLD hlt ⊢
      have hlti : (i : Int) < (e : Int) := by omega
      have hil : (i : Int) < (l.length : Int) := by omega
      have hi1 : (b + (k + 1) : Nat) = i + 1 := by omega
      rw [hi, hi1] at hA
      rw [hi] at hF
      have HA := Lib.hid hA
      have HFF := Lib.hid hF
      have HI1 := Lib.hid hi1
      clear hdd hA hF hi1 hk
      go_wp2_with (first | refine wl_ldx rfl 33 _ rfl _ rfl (.agg (bv d)) HLD.out ?_)
      refine (HA.out wr _ HSi).mono ?_
      rintro r w3 ⟨⟨er, rfl, hez⟩, v3, HS3⟩
      have her : er = 0 := hez.2 HFF.out
      subst her
      have HS3' := Lib.hid HS3
      clear HS3 hez ce HSi
      go_wp2
      go_roundw
      case rel => exact ⟨k + 1, v3, by rw [HI1.out]; omega, by rw [HI1.out]; go_num, by rw [HI1.out]; exact HS3'.out⟩
      case measure => simp [intOf]; omega
    · have hke : b + k = e := by omega
      have hii : i = e := by omega
      rw [hke] at HSi ⊢
      have hk2 : e - b = k := by omega
      have HK := Lib.hid hk2
      clear hi hke hk hk2
      go_wp2
      go_ret
      refine ⟨g, rfl, vk, ?_⟩
      rw [HK.out]
      exact HSi.sub (((List.Sublist.refl _).cons _).cons_cons _ |>.cons_cons _)
end
end Go.Proofs.YtlhebogbbkjahaaDoor
set_option linter.unusedVariables false
namespace Cop
open Go Go.RowKit
section
variable {P : Program}
theorem anyIn_of_any {md : Region.Mode} {r n : Nat} {ops : Array Oper} {Q : Exit → Act → World → Prop} (hL : ¬ LetsOut Q) (hd : ∀ o ∈ ops.toList, ∀ c, o.op ≠ .defer c) : ∀ (fuel : Nat) (listed : Array Bool) (a : Act) (w : World), wpAny P md ops Q fuel listed a w → wpAnyIn (Fence.wide.inRound r) n P md ops Q fuel listed a w
  | 0, _, _, _, h => h
  | fuel + 1, listed, a, w, h => ⟨h.1, fun i hi => by
    have h2 := h.2 i hi
    have ih := fun a w => anyIn_of_any (md := md) (r := r) (n := n) hL hd fuel (listed.setIfInBounds i true) a w
    unfold wpOp at h2
    unfold wpOpIn
    cases ho : ops[i]? with
    | none => rw [ho] at h2; exact ih _ _ h2
    | some o =>
      rw [ho] at h2
      have hm : o ∈ ops.toList := by rw [← Array.getElem?_toList] at ho; exact List.mem_of_getElem? ho
      simp only at h2 ⊢
      split at h2
      · rename_i hw
        rw [if_pos hw]
        rcases h2 with h2 | h2
        · exact operIn_of_oper (hd o hm) ih h2
        · exact absurd h2.2 hL
      · rename_i hw
        rw [if_neg hw]
        exact ⟨fun _ _ => trivial, ih _ _ h2⟩⟩
/-- A region that draws its order, within a round. -/
theorem region_ordR {r n id : Nat} {Q : Exit → Act → World → Prop} {a : Act} {w : World} {l : List Oper} (hL : ¬ LetsOut Q) (hd : noDefer l = true) (S : World → Prop) (z : Nat) (ord : Ord) (hm : P.follows .mixedOrders = true)
    (hc : (Region.noSelect l.toArray && (coverB .any l.toArray z || z == l.length) && ord.chk .any l.toArray l.length (Array.replicate l.length false)) = true)
    (hQ : ∀ c a d v w, Q (.panic c) (a.put d v) w → Q (.panic c) a w)
    (h : ∀ w1, Below w.heap.size w w1 → Shut 0 (wpOrd P l.toArray Q S z ord a w1)) : (Code.region id l.toArray true).wpIn (Fence.wide.inRound r) n P Q a w := by
  simp only [Bool.and_eq_true, Bool.or_eq_true, beq_iff_eq] at hc
  refine wpIn_region_any hm (anyIn_of_any hL (by simpa using noDefer_spec hd) _ _ _ _ (wpAny_of_G _ _ _ _ (wpAnyG_ord hc.1.1 hQ ?_ ord _ _ a _ (closed_none _) (by simpa using hc.2) (h _ (bdraw w)).out)))
  rcases hc.1.2 with h | h
  · exact .inl h
  · exact .inr (by simpa using h)
end
end Cop
namespace Go.Proofs.YtlhebogbbkjahaaDoor
open Go.RowKit Go.Shelf Cop
set_option linter.unusedVariables false
set_option linter.unusedSimpArgs false
section
variable {P : Program} {w0 w : World} {B : Nat} {R : List Pc} {o : Oper} {a : Act} {K : Act → World → Prop} {Q : Exit → Act → World → Prop}
/-- One cell of a row is stored. -/
theorem ow_stx (HS : Sep B w0 w R) (i : Nat) {g : Nat} {old : Array Value} {t : TypeId} (hi : R[i]? = some (.row g old t)) (ty : TypeId) (ad x : Operand) (hop : o.op = .store ty ad x) (hs1 : (P.info? ty).map (·.size) = some 1) (off : Nat) (hoff : off < old.size) {y : Value} (had : a.eval ad = .pointer (some ⟨g, off, none⟩)) (hx : a.eval x = y)
    (h1 : y.oneCell' = true) (hyc : y.cells = #[y]) (h : Sep B w0 (w.setCell ⟨g, off, none⟩ y) (R.set i (.row g (old.setIfInBounds off y) t)) → K (a.put o.dst undef) (w.setCell ⟨g, off, none⟩ y)) : o.wp P a w K Q := by
  have hg := HS.row i hi
  have hcellj : w.cell? ⟨g, off, none⟩ = some old[off] := by rw [cell_of_row _ _ _ _ _ _ hg]; simp [hoff]
  have hfr : w.frozen? ⟨g, off, none⟩ = false := frozen_of_row _ _ _ _ _ hg
  have hrun : (storeVar ty ⟨g, off, none⟩ y).run P w = .ok () (w.setCell ⟨g, off, none⟩ y) := by
    unfold storeVar
    rw [Sem.run_bind, run_sizeOf_gen (P := P) w hs1]
    simp only [Result.andThen, hyc]
    cases y <;> simp [storeCells, store, Sem.run, add_plain, hcellj, hfr, Value.oneCell'] at h1 ⊢ <;> simp [Sem.run_bind', Sem.run, hcellj, hfr]
  unfold Oper.wp
  simp only [execOp, hop, had, hx, Instr.storeAt, Instr.sureAddr, Sem.run_bind, Sem.run_pure, Result.andThen_ok, hrun]
  exact h (HS.setCell i hi off y)
theorem wl_stx {ops : Array Oper} {rest : List Oper} {Q : Exit → Act → World → Prop} (HS : Sep B w0 w R) (i : Nat) {g : Nat} {old : Array Value} {t : TypeId} (hi : R[i]? = some (.row g old t)) (hgd : o.guard = none) (ty : TypeId) (ad x : Operand) (hop : o.op = .store ty ad x) (hs1 : (P.info? ty).map (·.size) = some 1) (off : Nat) (hoff : off < old.size) {y : Value} (had : a.eval ad = .pointer (some ⟨g, off, none⟩)) (hx : a.eval x = y)
    (h1 : y.oneCell' = true) (hyc : y.cells = #[y]) (h : Sep B w0 (w.setCell ⟨g, off, none⟩ y) (R.set i (.row g (old.setIfInBounds off y) t)) → wpList P ops Q rest (a.put o.dst undef) (w.setCell ⟨g, off, none⟩ y)) : wpList P ops Q (o :: rest) a w :=
  wpList_plain hgd fun _ hK => ow_stx HS i hi ty ad x hop hs1 off hoff had hx h1 hyc fun h2 => hK _ _ (h h2)
theorem run_results_cell {fn : Func} {a : Act} {w : World} {p : Tmp} {ty : TypeId} (h : fn.results = #[.cell p ty]) (g : Nat) (hp : a.tmps.getD p undef = .pointer (some ⟨g, 0, none⟩)) (v : Value) (hc : w.cell? ⟨g, 0, none⟩ = some v) (hagg : ∀ w, (isAgg ty).run P w = .ok false w) :
    (results fn a.tmps).run P w = .ok v w := by
  have hp2 : a.tmps[p]?.getD undef = .pointer (some ⟨g, 0, none⟩) := by rw [← hp]; simp
  simp only [results, h]
  simp [hp2, asAddr, loadVar, hagg, load, hc, Sem.run, Result.andThen]
/-- A way out behind the loop. -/
theorem ret_cellD {F : Fence} {n : Nat} {fn : Func} {R : Ending → World → Prop} {a : Act} {w : World} {p : Tmp} {ty : TypeId} (h : fn.results = #[.cell p ty]) (D : Nat) (hd0 : a.defers = [{ target := .collected D, args := #[] }]) (hD : w.heap[D]? = some (.deferred (some []))) (g : Nat) (hp : a.tmps.getD p undef = .pointer (some ⟨g, 0, none⟩))
    (cs : Array Value) (t : TypeId) (hg : w.heap[g]? = some (.cells cs t (0, 0))) (v : Value) (hv : cs[0]? = some v) (hagg : ∀ w, (isAgg ty).run P w = .ok false w)
    (hR : R (.returned v) (w.putObj D (.deferred none))) : bodyPostM F n P fn R .ret a w := by
  show LeavesInM F n P fn a.tmps R a.defers .returning w
  rw [hd0]
  refine ⟨by simp, .inl ⟨_, _, rfl, run_takeDeferred hD, ?_⟩⟩
  have hne : g ≠ D := fun e => by rw [e, hD] at hg; cases hg
  have hg2 : (w.putObj D (.deferred none)).heap[g]? = some (.cells cs t (0, 0)) := (World.putObj_heap_other hne).trans hg
  exact ⟨_, run_results_cell h g hp v (by rw [row_cell hg2]; exact hv) hagg, hR⟩
theorem keeps_setCell {W : World} {g off : Nat} {v : Value} {old : Array Value} {t : TypeId} {fr : Nat × Nat} (h : W.heap[g]? = some (.cells old t fr)) : KeepsOthers W (W.setCell ⟨g, off, none⟩ v) := by
  refine ⟨by simp [World.setCell], fun k o hk ho => ?_⟩
  by_cases e : k = g
  · subst e; rw [h] at hk; injection hk with hk; subst hk; cases ho
  · rw [Below.heap_setCell W _ v k (fun e2 => e e2)]; exact hk
end
end Go.Proofs.YtlhebogbbkjahaaDoor
namespace Cop
set_option linter.unusedVariables false
section
variable (nd : List UInt8 → List UInt8 → List UInt8) (em : List UInt8)
/-- The stack behind k leaves from b on. -/
def stk (l : List (List UInt8)) (b : Nat) : Nat → List Prt
  | 0 => []
  | k + 1 => (appN nd (b + k, stk l b k) 0 (l.getD (b + k) [])).2
theorem fits0 {e : Nat} (h : e + 1 ≤ 281474976710656) : Fits e 0 := ⟨by omega, by omega, by omega⟩
theorem stk_step (l : List (List UInt8)) (b k : Nat) (h : b + k + 1 ≤ 281474976710656) : appN nd (b + k, stk nd l b k) 0 (l.getD (b + k) []) = (b + (k + 1), stk nd l b (k + 1)) := by
  show _ = (b + (k + 1), (appN nd (b + k, stk nd l b k) 0 (l.getD (b + k) [])).2)
  unfold appN
  rw [if_pos (show Fits (b + k, stk nd l b k).1 0 from fits0 h)]
  rfl
theorem stk_carry (l : List (List UInt8)) (b k : Nat) (h : b + k + 1 ≤ 281474976710656) : stk nd l b (k + 1) = carry nd (stk nd l b k) (0, b + k, l.getD (b + k) []) := by
  show (appN nd (b + k, stk nd l b k) 0 (l.getD (b + k) [])).2 = _
  unfold appN
  rw [if_pos (show Fits (b + k, stk nd l b k).1 0 from fits0 h)]
  simp
theorem getD_32 {l : List (List UInt8)} (hl : ∀ x ∈ l, x.length = 32) {k : Nat} (hk : k < l.length) : (l.getD k []).length = 32 := by
  refine hl _ ?_
  simp only [List.getD, List.getElem?_eq_getElem hk, Option.getD_some]
  exact List.getElem_mem _
theorem good_stk (hnd : ∀ a b, (nd a b).length = 32) {l : List (List UInt8)} (hl : ∀ x ∈ l, x.length = 32) (hll : l.length ≤ 281474976710656) (b : Nat) : ∀ k, b + k ≤ l.length → GoodR b (b + k) (stk nd l b k)
  | 0, h => good_nil (by omega)
  | k + 1, h => by
    have ih := good_stk hnd hl hll b k (by omega)
    have := good_appN nd hnd (x := (b + k, stk nd l b k)) 0 ih (getD_32 hl (k := b + k) (by omega))
    rw [stk_step nd l b k (by omega)] at this
    exact this
theorem tells_stk {l : List (List UInt8)} (hll : l.length ≤ 281474976710656) (b : Nat) : ∀ k, b + k ≤ l.length → Tells nd em l (stk nd l b k)
  | 0, h => fun _ hx => by cases hx
  | k + 1, h => by
    rw [stk_carry nd l b k (by omega)]
    refine tells_carry nd em l _ _ (tells_stk hll b k (by omega)) (by show (b + k + 1) * 2 ^ 0 ≤ l.length; omega) ?_
    show l.getD (b + k) [] = root nd em ((l.drop ((b + k) * 2 ^ 0)).take (2 ^ 0))
    rw [Nat.pow_zero, Nat.mul_one, List.drop_eq_getElem_cons (show b + k < l.length by omega)]
    simp only [List.take_succ_cons, List.take_zero, root_one]
    simp [List.getD, List.getElem?_eq_getElem (show b + k < l.length by omega)]
/-- Where the part behind some others begins. -/
def atN (b : Nat) (ps : List Prt) : Nat := b + (ps.map fun p => 2 ^ p.1).sum
theorem atN_snoc (b : Nat) (ps : List Prt) (p : Prt) : atN b (ps ++ [p]) = atN b ps + 2 ^ p.1 := by simp [atN]; omega
theorem fw_at {e : Nat} : ∀ (ps : List Prt) (p : Prt) (rest : List Prt) (b : Nat), Fw b (nds (ps ++ p :: rest)) e → p.2.1 * 2 ^ p.1 = atN b ps ∧ atN b ps + 2 ^ p.1 ≤ e
  | [], p, rest, b, h => by
    have h1 : b = p.2.1 * 2 ^ p.1 := h.1
    have h2 := fw_le _ _ _ h.2
    dsimp only at h2
    rw [Nat.add_mul, Nat.one_mul] at h2
    simp only [atN, List.map_nil, List.sum_nil, Nat.add_zero]
    omega
  | q :: ps, p, rest, b, h => by
    have h1 : b = q.2.1 * 2 ^ q.1 := h.1
    have h2 : Fw ((q.2.1 + 1) * 2 ^ q.1) (nds (ps ++ p :: rest)) e := h.2
    have := fw_at ps p rest _ h2
    have e1 : (q.2.1 + 1) * 2 ^ q.1 = b + 2 ^ q.1 := by rw [Nat.add_mul, Nat.one_mul, ← h1]
    rw [e1] at this
    have e2 : atN b (q :: ps) = atN (b + 2 ^ q.1) ps := by simp [atN]; omega
    rw [e2]
    exact this
theorem fw_end {e : Nat} : ∀ (ps : List Prt) (b : Nat), Fw b (nds ps) e → atN b ps = e
  | [], b, h => by
    have h' : b = e := h
    simpa [atN] using h'
  | q :: ps, b, h => by
    have h1 : b = q.2.1 * 2 ^ q.1 := h.1
    have h2 : Fw ((q.2.1 + 1) * 2 ^ q.1) (nds ps) e := h.2
    have := fw_end ps _ h2
    have e1 : (q.2.1 + 1) * 2 ^ q.1 = b + 2 ^ q.1 := by rw [Nat.add_mul, Nat.one_mul, ← h1]
    rw [e1] at this
    rw [← this]
    simp [atN]; omega
/-- Each part of a range of leaves is the tree's. -/
theorem part_tree (hnd : ∀ a b, (nd a b).length = 32) {l : List (List UInt8)} (hl : ∀ x ∈ l, x.length = 32) (hll : l.length ≤ 1048576) {b : Nat} (hb : b ≤ l.length) (ps : List Prt) (p : Prt) (rest : List Prt) (h : ps ++ [p] ++ rest = (stk nd l b (l.length - b)).reverse) :
    p.1 ≤ 40 ∧ p.2.1 * 2 ^ p.1 = atN b ps ∧ atN b ps + 2 ^ p.1 ≤ l.length ∧ p.2.2 = root nd em ((l.take (atN b ps + 2 ^ p.1)).drop (atN b ps)) := by
  have hg := good_stk nd hnd hl (by omega) b (l.length - b) (by omega)
  have ht := tells_stk nd em (l := l) (by omega) b (l.length - b) (by omega)
  have hf := good_fw hg
  have h' : ps ++ p :: rest = (stk nd l b (l.length - b)).reverse := by rw [← h]; simp
  rw [← h'] at hf
  obtain ⟨h1, h2⟩ := fw_at ps p rest b hf
  have hp : p ∈ stk nd l b (l.length - b) := by
    rw [← List.mem_reverse, ← h']
    simp
  have h3 := ht p hp
  have h4 : atN b ps + 2 ^ p.1 ≤ l.length := by omega
  refine ⟨?_, h1, h4, ?_⟩
  · rcases Nat.lt_or_ge 40 p.1 with h5 | h5
    · have : 2 ^ 41 ≤ 2 ^ p.1 := Nat.pow_le_pow_right (by decide) h5
      omega
    · exact h5
  · rw [h3, h1, List.drop_take, Nat.add_sub_cancel_left]
theorem root_stk (hnd : ∀ a b, (nd a b).length = 32) {l : List (List UInt8)} (hl : ∀ x ∈ l, x.length = 32) (hll : l.length ≤ 281474976710656) : foldS nd (stk nd l 0 l.length) em = root nd em l := by
  rcases Nat.eq_zero_or_pos l.length with h0 | h0
  · have : l = [] := List.eq_nil_of_length_eq_zero h0
    subst this
    rw [root_nil]
    rfl
  · have hg := good_stk nd hnd hl hll 0 l.length (by omega)
    rw [Nat.zero_add] at hg
    exact foldS_root nd em l hll hg.2.2.1 (tells_stk nd em hll 0 l.length (by omega)) h0
end
end Cop
namespace Go.Proofs.YtlhebogbbkjahaaDoor
open Go.RowKit Go.Shelf Cop
set_option linter.unusedVariables false
set_option linter.unusedSimpArgs false
/-- A number, put between 0 and n - 1. -/
theorem into (a : Int) (n : Nat) (h : 0 < n) : ∃ r : Nat, r < n ∧ Int.tmod (Int.tmod a n + n) n = r ∧ (Int.tmod a n + n) % n = (r : Int) ∧ Int.tmod a n % n = (r : Int) ∧ -(n : Int) < Int.tmod a n ∧ Int.tmod a n < n := by
  have h1 : (Int.tmod a n).natAbs < n := by
    rw [Int.natAbs_tmod]
    exact Nat.mod_lt _ h
  have h2 : 0 ≤ Int.tmod a n % n := Int.emod_nonneg _ (by omega)
  have h3 : Int.tmod a n % n < n := Int.emod_lt_of_pos _ (by omega)
  have h4 : (Int.tmod a n + n) % n = Int.tmod a n % n := Int.add_emod_right _ _
  refine ⟨(Int.tmod a n % n).toNat, by omega, ?_, by omega, by omega, by omega, by omega⟩
  rw [Int.tmod_eq_emod_of_nonneg (by omega), h4]
  omega
theorem fn2_nil9 (f : FuncId) (bs : Array Value) (w : World) : (binOp .eql 28 (.func (.func f) #[] bs) .nilFunc).run Tryd.prog w = .ok (.bool false) w := by
  simp only [binOp, Op.equal]
  rw [show Op.maxDepth = 9999 + 1 from rfl]
  unfold Op.equalIn
  simp only [Sem.run_bind, run_underlying Tryd.underlying28, Result.andThen_ok, Sem.run_pure]
theorem w64 {x : Int} (h0 : -4611686018427387904 ≤ x) (h1 : x ≤ 4611686018427387904) : wrap64 x = x := by unfold wrap64; omega
theorem pow40 {n : Nat} (h : n ≤ 40) : 2 ^ n ≤ 1099511627776 := Nat.le_trans (Nat.pow_le_pow_right (by decide) h) (by decide)
/-- The first parts. -/
def Pre (T : List Prt) (pre : List QK) : Prop := ∃ rest, pre.map (fun x => x.1) ++ rest = T
section
variable {w0 w w' W : World} {B : Nat} {R : List Pc}
/-- What stays through the rounds of CompactTree. -/
def TreeI (B : Nat) (w0 : World) (gat b : Nat) (T : List Prt) (R : List Pc) (pre : List QK) (W : World) : Prop := ∃ z : Int, Sep B w0 W (.row gat #[.int .i64 z] 3 :: R) ∧ (Pre T pre → z = (atN b (pre.map fun x => x.1) : Nat))
theorem own_treeI {gat b n : Nat} {T : List Prt} (hn : B ≤ n) (hpl : plainL R = true) : OwnFrom n (TreeI B w0 gat b T R) := fun pre W W' row h hg hr => by
  obtain ⟨z, hS, hz⟩ := h
  exact ⟨z, hS.other hpl hg fun r e => ⟨Nat.le_trans hn (hr r e).1, (hr r e).2⟩, hz⟩
set_option maxRecDepth 100000 in
set_option maxHeartbeats 8000000 in
theorem tree_walk (nd : List UInt8 → List UInt8 → List UInt8) (em : List UInt8) (hnd : ∀ a b, (nd a b).length = 32) (hem : em.length = 32) (l : List (List UInt8)) (hl : AllD l) (hll : l.length ≤ 1048576) (v0 : Value) (beg : Int) (hR : Rd w v0 l.length 32 (dcs l))
    (hCN : ∀ w' a b, Below w.heap.size w w' → a.length = 32 → b.length = 32 → Gives 42 #[.agg (bv a), .agg (bv b)] w' (.agg (bv (nd a b))))
    (hCE : ∀ w', Below w.heap.size w w' → Gives 40 #[] w' (.agg (bv em)))
    (hCR : ∀ w' v, Below w.heap.size w w' → Rd w' v l.length 32 (dcs l) → Gives 13 #[v] w' (.agg (bv (root nd em l))))
    (hRL : (root nd em l).length = 32)
    (hCS : ∀ (i j : Nat), i < j → j ≤ l.length → (root nd em ((l.take j).drop i)).length = 32 ∧ ∀ w' v, Below w.heap.size w w' → Rd w' v l.length 32 (dcs l) → Gives 11 #[v, .agg #[.int .i64 (i : Int), .int .i64 (j : Int)]] w' (.tuple #[.agg (bv (root nd em ((l.take j).drop i))), .int .i64 0]))
    (hCB : ∀ (b e : Int), ∃ (X : List UInt8) (E : Int), X.length = 32 ∧ ∀ w' v, Below w.heap.size w w' → Rd w' v l.length 32 (dcs l) → Gives 11 #[v, .agg #[.int .i64 b, .int .i64 e]] w' (.tuple #[.agg (bv X), .int .i64 E])) :
    Gives 3 #[v0, .int .i64 beg] w (.bool true) := by
  obtain ⟨b, hb, e1, e2, e3, e4, e5⟩ := into beg (l.length + 1) (by omega)
  have HS0 := (Sep.start w).arg0 hR
  obtain ⟨A0, c0, rfl, hc0, hcm0⟩ := hR.shape
  -- the ranges
  obtain ⟨SA, hSA⟩ : ∃ S : Nat → List Prt, stk nd l b = S := ⟨_, rfl⟩
  obtain ⟨SB, hSB⟩ : ∃ S : Nat → List Prt, stk nd l 0 = S := ⟨_, rfl⟩
  have RA := Lib.hid (fun (w' : World) (R' : List Pc) (v : Value) (H : Sep w.heap.size w w' (.rd v l.length 32 (dcs l) :: R')) => by
    have := ranged_a nd hnd l hl (by omega) b l.length (by omega) (Nat.le_refl _) v (stk nd l b) rfl (fun k hk => stk_step nd l b k (by omega)) (fun k hk => good_stk nd hnd hl (by omega) b k hk) hCN H
    rw [hSA] at this
    exact this)
  have RB := Lib.hid (fun (w' : World) (R' : List Pc) (v : Value) (H : Sep w.heap.size w w' (.rd v l.length 32 (dcs l) :: R')) => by
    have := ranged_a nd hnd l hl (by omega) 0 l.length (by omega) (Nat.le_refl _) v (stk nd l 0) rfl (fun k hk => stk_step nd l 0 k (by omega)) (fun k hk => by have := good_stk nd hnd hl (by omega) 0 k (by omega); exact this) hCN H
    rw [hSB] at this
    exact this)
  have hGA := good_stk nd hnd hl (by omega) b (l.length - b) (by omega)
  have hGB := good_stk nd hnd hl (by omega) 0 l.length (by omega)
  have hPT := fun ps p rest h => part_tree nd em hnd hl hll (b := b) (by omega) ps p rest h
  have hRS := root_stk nd em hnd (l := l) hl (by omega)
  have hFE := fw_end _ _ (good_fw hGA)
  rw [hSA] at hGA hPT hFE
  rw [hSB] at hGB hRS
  rw [show b + (l.length - b) = l.length by omega] at hGA hFE
  have HGA := Lib.hid hGA
  have HGB := Lib.hid hGB
  have HPT := Lib.hid hPT
  have HRS := Lib.hid hRS
  have HFE := Lib.hid hFE
  have CN := Lib.hid hCN
  have CE := Lib.hid hCE
  have CR := Lib.hid hCR
  have CS := Lib.hid hCS
  have CB := Lib.hid hCB
  have HND := Lib.hid hnd
  have HEM := Lib.hid hem
  have HRL := Lib.hid hRL
  have hbl : b ≤ l.length := by omega
  have hbi : (b : Int) ≤ 1048576 := by omega
  have hli : (l.length : Int) ≤ 1048576 := by omega
  have hn0 : ¬ (l.length : Int) + 1 = 0 := by omega
  have hn0b : ((l.length : Int) + 1 == 0) = false := by rw [beq_eq_false_iff_ne]; exact hn0
  have e1' : Int.tmod (Int.tmod beg ((l.length : Int) + 1) + ((l.length : Int) + 1)) ((l.length : Int) + 1) = (b : Int) := by have := e1; push_cast at this; exact this
  have e4' : -((l.length : Int) + 1) < Int.tmod beg ((l.length : Int) + 1) := by have := e4; push_cast at this; exact this
  have e5' : Int.tmod beg ((l.length : Int) + 1) < (l.length : Int) + 1 := by have := e5; push_cast at this; exact this
  clear hSA hSB hGA hGB hPT hRS hFE hCN hCE hCR hCS hCB hnd hem hRL e1 e2 e3 e4 e5 hR
  refine calls_marks Tryd.func3 rfl ?_
  simp only [Tryd.ntmps3, List.size_toArray, List.length_cons, List.length_nil, Nat.reduceAdd, Nat.reduceSub, Array.replicate_succ, Array.replicate_zero, List.push_toArray, List.append_toArray, List.nil_append, List.cons_append]
  go_wp2_with (first | refine wlc_bx HS0 rfl 22 _ rfl (.slice A0 l.length c0) rfl rfl ?_)
  intro g2 w1 HS1
  clear HS0
  go_wp2_with (first | refine wlc_al HS1 rfl 4 rfl (.bool false) rfl (by kernel_rfl) ?_)
  intro g4 w2 HS2
  have c2 := (row_cell (HS2.row 1 rfl) 0).trans (show (#[Value.slice A0 l.length c0] : Array Value)[0]? = some (.slice A0 l.length c0) from rfl)
  clear HS1
  go_wp2_with fail
  refine (RA.out w2 _ _ (HS2.front 2)).mono ?_
  rintro r w3 ⟨gr, rfl, vr, HS3⟩
  have c2 := (row_cell (HS3.row 4 rfl) 0).trans (show (#[Value.slice A0 l.length c0] : Array Value)[0]? = some (.slice A0 l.length c0) from rfl)
  clear HS2
  go_wp2_with fail
  refine (RB.out w3 _ _ (HS3.front 2)).mono ?_
  rintro r w4 ⟨ga, rfl, va, HS4⟩
  clear HS3 c2
  go_wp2_with (first | refine wlc_al HS4 rfl 3 rfl (.int .i64 0) rfl (by kernel_rfl) ?_)
  intro gat w5 HS5
  clear HS4
  go_wp2_with (first | refine wl_stc HS5 0 rfl rfl 3 _ _ rfl (by kernel_rfl) 0 (by simp) (y := .int .i64 (b : Int)) rfl rfl rfl rfl ?_)
  intro w6 HS6
  clear HS5
  go_wp2_with fail
  refine (all_c _ w6).mono ?_
  rintro r w7 ⟨rfl, rfl⟩
  have hfn := fun W => fn2_nil9 36 #[.pointer (some ⟨w6.heap.size, 0, none⟩)] W
  have HS7 := HS6.skip (.cells #[.pointer (some ⟨gr, 0, none⟩)] 23)
  generalize w6.alloc (.cells #[.pointer (some ⟨gr, 0, none⟩)] 23) = w7 at HS7 ⊢
  clear HS6
  go_wp2_with fail
  refine (all_c _ w7).mono ?_
  rintro r w8 ⟨rfl, rfl⟩
  have HS8 := HS7.skip (.cells #[.pointer (some ⟨gr, 0, none⟩)] 23)
  have hcb : (w7.alloc (.cells #[.pointer (some ⟨gr, 0, none⟩)] 23)).cell? ⟨w7.heap.size, 0, none⟩ = some (.pointer (some ⟨gr, 0, none⟩)) := by
    rw [row_cell (heap_alloc_new w7 _) 0]; rfl
  obtain ⟨Bs, hBs⟩ : ∃ k, w7.heap.size = k := ⟨_, rfl⟩
  rw [hBs] at hcb ⊢
  generalize w7.alloc (.cells #[.pointer (some ⟨gr, 0, none⟩)] 23) = wb at HS8 hcb ⊢
  clear HS7 hBs hfn
  go_wp2_with fail
  have hgl : gat < wb.heap.size := (Array.getElem?_eq_some_iff.1 (HS8.row 0 rfl)).1
  have hown : ∀ k, Owns gat 0 wb k → k < wb.heap.size := fun k hk => by
    rcases hk with rfl | ⟨u, hu, hv⟩
    · exact hgl
    · rw [row_cell (HS8.row 0 rfl)] at hu
      have hu2 : Value.int .i64 (b : Int) = u := by simpa using hu
      subst hu2
      cases hv
  have hst := all1_stopsR 8 (by decide) Bs gat 0 gr b l.length vr (SA (l.length - b)) HGA.out.2.2.2 (by have := HGA.out.len; omega) wb hgl hcb (HS8.row 4 rfl) (HS8.own 5 rfl).rd hown
  have hBw : w.heap.size ≤ wb.heap.size := HS8.hB
  obtain ⟨T, hT⟩ : ∃ T, (SA (l.length - b)).reverse = T := ⟨_, rfl⟩
  have hst2 : SeqStopsK Fence.wide 8 Tryd.prog 36 #[.pointer (some ⟨Bs, 0, none⟩)] qkE (Stays wb.heap.size gat 0) (fun ys => ys.map (fun x => x.1) = T) (Pre T) (SA (l.length - b)).length wb := by
    rw [hT] at hst
    exact hst
  clear hcb hown hst
  refine rf_intro ?_
  intro a0 ha0
  refine (wpIn_wide (n := 9)).1 ?_
  refine wpIn_rangeFunc_ownH (F := Fence.wide) rfl (by decide) (gf := 36) (lb := #[.pointer (some ⟨Bs, 0, none⟩)]) (by rw [ha0]; rfl) trivial (enters_of Tryd.func36 (by kernel_rfl) rfl)
    hst2 Stays.trans (stays_b hgl) (Below.refl _ _) (fun _ => rfl)
    (fun pre W => TreeI w.heap.size w gat b T [.row ga (rgv (0 : Nat) l.length va) 61, .own va 99 34 (SB l.length).length (rcs (SB l.length)), .rd (.slice A0 l.length c0) l.length 32 (dcs l), .row gr (rgv b l.length vr) 61, .own vr 99 34 (SA (l.length - b)).length (rcs (SA (l.length - b))), .row g4 #[.bool false] 4, .row g2 #[.slice A0 l.length c0] 22] pre W ∧ wb.heap.size ≤ W.heap.size) (fun _ pre _ => ¬ Pre T pre)
    (OwnFrom.and (own_treeI hBw rfl) (fun _ W W' row hs hg hr => Nat.le_trans hs hg.size)) (fun _ _ _ _ _ hs _ _ => hs) ⟨⟨b, HS8, fun _ => rfl⟩, Nat.le_refl _⟩
    (fun x a' W => ∃ g5 g6, PairAt wb.heap.size x g5 g6 W ∧ a' = { tmps := ((((#[48, 49] : Array Tmp).zip (qkE x)).foldl (fun t (p, v) => t.setIfInBounds p v) a0.tmps).setIfInBounds 9 (.pointer (some ⟨g5, 0, none⟩))).setIfInBounds 10 (.pointer (some ⟨g6, 0, none⟩)), defers := [] })
    (fun x a' _ W W' row hs hg hr => by
      obtain ⟨g5, g6, h1, h2⟩ := hs
      exact ⟨g5, g6, own_pair () W W' row h1 hg hr, h2⟩) ?assign ?body ?done ?stop
  case assign =>
    rintro li pre x W K ⟨⟨z, HSq, hz⟩, hsz⟩ hK
    rw [qkA_eq, ha0]
    simp only [List.setIfInBounds_toArray, List.set_cons_succ, List.set_cons_zero]
    have hxl := x.2
    refine wpIn_seq_k fun K1 hK1 => ?_
    refine region_round (by rintro ⟨_, _, h⟩; exact h) (by kernel_rfl) ?_
    go_wp2_with (first | refine wl_alx rfl 31 rfl #[.int .i64 0, .int .i64 0] (by kernel_rfl) ?_ | refine wl_store_row rfl 31 _ _ rfl W.heap.size rfl 31 #[.int .i64 0, .int .i64 0] #[.int .i64 (x.1.1 : Int), .int .i64 (x.1.2.1 : Int)] rfl (heap_alloc_new W _) (by kernel_rfl) rfl (by simp [Value.oneCell']) ?_)
    obtain ⟨hb1, hr1⟩ := new_row W #[.int .i64 0, .int .i64 0] #[.int .i64 (x.1.1 : Int), .int .i64 (x.1.2.1 : Int)] 31
    obtain ⟨g5, hg5⟩ : ∃ k, W.heap.size = k := ⟨_, rfl⟩
    rw [hg5] at hr1
    simp only [hg5] at hb1 ⊢
    generalize (W.alloc (.cells #[.int .i64 0, .int .i64 0] 31)).setRow g5 #[.int .i64 (x.1.1 : Int), .int .i64 (x.1.2.1 : Int)] = W1 at hb1 hr1 ⊢
    refine region_round (by rintro ⟨_, _, h⟩; exact h) (by kernel_rfl) ?_
    go_wp2_with (first | refine wl_alx rfl 33 rfl (bv (List.replicate 32 0)) (by kernel_rfl) ?_ | refine wl_store_row rfl 33 _ _ rfl W1.heap.size rfl 33 (bv (List.replicate 32 0)) (bv x.1.2.2) rfl (heap_alloc_new W1 _) (dgS hxl) (dgE rfl hxl) (bv_one _) ?_)
    obtain ⟨hb2, hr2⟩ := new_row W1 (bv (List.replicate 32 0)) (bv x.1.2.2) 33
    obtain ⟨g6, hg6⟩ : ∃ k, W1.heap.size = k := ⟨_, rfl⟩
    have hs1 := hb1.size
    rw [hg6] at hr2
    simp only [hg6] at hb2 ⊢
    have h56 : g5 < g6 := by rw [← hg6]; exact (Array.getElem?_eq_some_iff.1 hr1).1
    generalize (W1.alloc (.cells (bv (List.replicate 32 0)) 33)).setRow g6 (bv x.1.2.2) = W2 at hb2 hr2 ⊢
    have hb3 : Below g5 W W2 := hb1.trans (hb2.mono (by omega))
    have hb4 : Below W.heap.size W W2 := by rw [hg5]; exact hb3
    refine hK _ _ ((keeps_below hb4).from _) (stays_below (Nat.lt_of_lt_of_le hgl hsz) hb4) ⟨⟨z, HSq.keep hb4, hz⟩, Nat.le_trans hsz hb4.size⟩ ⟨g5, g6, ⟨by omega, by omega, (hb2.block g5 h56).trans hr1, hr2⟩, ?_⟩
    rw [qkA_eq, ha0]
    simp only [Act.put, List.setIfInBounds_toArray, List.set_cons_succ, List.set_cons_zero]
  case body =>
    rintro li pre x a' W hl9 hr ⟨⟨z, HSq, hz⟩, hsz⟩ ⟨g5, g6, ⟨h5, h6, r5, r6⟩, rfl⟩ hlen
    have hxl := x.2
    have hP : Pre T (pre ++ [x]) → ∃ A : Nat, z = (A : Int) ∧ x.1.1 ≤ 40 ∧ x.1.2.1 * 2 ^ x.1.1 = A ∧ A + 2 ^ x.1.1 ≤ l.length ∧ x.1.2.2 = root nd em ((l.take (A + 2 ^ x.1.1)).drop A) ∧ atN b ((pre ++ [x]).map fun x => x.1) = A + 2 ^ x.1.1 := fun ⟨rest, hrest⟩ => by
      rw [List.map_append] at hrest
      have h1 : Pre T pre := ⟨x.1 :: rest, by rw [← hrest]; simp⟩
      have h2 := HPT.out (pre.map fun x => x.1) x.1 rest (by rw [hT, ← hrest]; rfl)
      refine ⟨atN b (pre.map fun x => x.1), hz h1, h2.1, h2.2.1, h2.2.2.1, h2.2.2.2, ?_⟩
      rw [List.map_append]
      exact atN_snoc _ _ _
    have HP := Lib.hid hP
    have cz := (row_cell (HSq.row 0 rfl) 0).trans (show (#[Value.int .i64 z] : Array Value)[0]? = some (.int .i64 z) from rfl)
    have c50 := (row_cell r5 0).trans (show (#[Value.int .i64 (x.1.1 : Int), .int .i64 (x.1.2.1 : Int)] : Array Value)[0]? = some (.int .i64 (x.1.1 : Int)) from rfl)
    have c51 := (row_cell r5 1).trans (show (#[Value.int .i64 (x.1.1 : Int), .int .i64 (x.1.2.1 : Int)] : Array Value)[1]? = some (.int .i64 (x.1.2.1 : Int)) from rfl)
    have d0 : decide ((x.1.1 : Int) < 0) = false := decide_eq_false (by omega)
    clear hP hz
    refine wpIn_block ?_
    refine wpIn_seq ?_
    refine wpIn_seq ?_
    refine region_round (by rintro ⟨_, _, h⟩; exact h) (by kernel_rfl) ?_
    rw [qkA_eq, ha0]
    simp only [List.setIfInBounds_toArray, List.set_cons_succ, List.set_cons_zero]
    by_cases h40 : x.1.1 ≤ 40
    · have d1 : decide ((40 : Int) < (x.1.1 : Int)) = false := decide_eq_false (by omega)
      obtain ⟨P2, hp40, hp1, HPI, HPP⟩ : ∃ P2 : Nat, P2 ≤ 1099511627776 ∧ 0 < P2 ∧ Hid (((2 : Int) ^ x.1.1) = (P2 : Int)) ∧ Hid (Pre T (pre ++ [x]) → ∃ A : Nat, z = (A : Int) ∧ x.1.2.1 * P2 = A ∧ A + P2 ≤ l.length ∧ x.1.2.2 = root nd em ((l.take (A + P2)).drop A) ∧ atN b ((pre ++ [x]).map fun x => x.1) = A + P2) :=
        ⟨2 ^ x.1.1, pow40 h40, Nat.two_pow_pos _, Lib.hid (by simp), Lib.hid fun h => by
          obtain ⟨A, q1, _, q3, q4, q5, q6⟩ := HP.out h
          exact ⟨A, q1, q3, q4, q5, q6⟩⟩
      obtain ⟨y, hy⟩ : ∃ y, wrap64 ((x.1.2.1 : Int) * (P2 : Int)) = y := ⟨_, rfl⟩
      obtain ⟨z2, hz2⟩ : ∃ y, wrap64 (z + (P2 : Int)) = y := ⟨_, rfl⟩
      have hfac : Pre T (pre ++ [x]) → ∃ A : Nat, y = (A : Int) ∧ z = (A : Int) ∧ z2 = ((A + P2 : Nat) : Int) ∧ 0 < P2 ∧ A + P2 ≤ l.length ∧ x.1.2.2 = root nd em ((l.take (A + P2)).drop A) ∧ atN b ((pre ++ [x]).map fun x => x.1) = A + P2 := fun h => by
        obtain ⟨A, q1, q3, q4, q5, q6⟩ := HPP.out h
        have q7 : (x.1.2.1 : Int) * (P2 : Int) = (A : Int) := by rw [← q3]; simp
        rw [q7] at hy
        exact ⟨A, by rw [← hy]; exact w64 (by omega) (by omega), q1, by rw [← hz2, q1]; exact w64 (by omega) (by omega), hp1, q4, q5, q6⟩
      have HF := Lib.hid hfac
      have hu64 : IntKind.u64.wrap (x.1.1 : Int) = (x.1.1 : Int) := by rw [IntKind.wrap_u64]; omega
      have HY := Lib.hid hy
      have HZ2 := Lib.hid hz2
      clear hfac hy hz2
      by_cases hyz : y = z
      · have dn : (y != z) = false := by simp [hyz]
        have HYZ := Lib.hid hyz
        have hpi := HPI.out
        have hy := HY.out
        clear hyz
        go_wp2
        clear hpi hy
        refine wpIn_cond_false rfl ?_
        refine wpIn_skip ?_
        refine wpIn_seq ?_
        refine region_round (by rintro ⟨_, _, h⟩; exact h) (by kernel_rfl) ?_
        have hpi := HPI.out
        go_wp2_with (first | refine wl_stx HSq 0 rfl rfl 3 _ _ rfl (by kernel_rfl) 0 (by simp) (y := .int .i64 (wrap64 (z + (P2 : Int)))) rfl rfl rfl rfl ?_)
        intro HS1
        rw [HZ2.out] at HS1 ⊢
        clear hpi
        have hne5 : g5 ≠ gat := by omega
        have hne6 : g6 ≠ gat := by omega
        have k1 : KeepsFrom wb.heap.size W (W.setCell ⟨gat, 0, none⟩ (.int .i64 z2)) := (keeps_setCell (HSq.row 0 rfl)).from _
        have s1 : Stays wb.heap.size gat 0 W (W.setCell ⟨gat, 0, none⟩ (.int .i64 z2)) := stays_cell (HSq.row 0 rfl) _ rfl
        have r5' := (Below.heap_setCell W ⟨gat, 0, none⟩ (.int .i64 z2) g5 (fun e => hne5 e)).trans r5
        have r6' := (Below.heap_setCell W ⟨gat, 0, none⟩ (.int .i64 z2) g6 (fun e => hne6 e)).trans r6
        generalize W.setCell ⟨gat, 0, none⟩ (.int .i64 z2) = W1 at HS1 k1 s1 r5' r6' ⊢
        clear cz c50 c51
        have cz := (row_cell (HS1.row 0 rfl) 0).trans (show (#[Value.int .i64 z2] : Array Value)[0]? = some (.int .i64 z2) from rfl)
        have c50 := (row_cell r5' 0).trans (show (#[Value.int .i64 (x.1.1 : Int), .int .i64 (x.1.2.1 : Int)] : Array Value)[0]? = some (.int .i64 (x.1.1 : Int)) from rfl)
        have c51 := (row_cell r5' 1).trans (show (#[Value.int .i64 (x.1.1 : Int), .int .i64 (x.1.2.1 : Int)] : Array Value)[1]? = some (.int .i64 (x.1.2.1 : Int)) from rfl)
        have c2 := (row_cell (HS1.row 7 rfl) 0).trans (show (#[Value.slice A0 l.length c0] : Array Value)[0]? = some (.slice A0 l.length c0) from rfl)
        obtain ⟨X, E, hX, hSub, hgood⟩ : ∃ (X : List UInt8) (E : Int), X.length = 32 ∧ (∀ w' v, Below w.heap.size w w' → Rd w' v l.length 32 (dcs l) → Gives 11 #[v, .agg #[.int .i64 y, .int .i64 z2]] w' (.tuple #[.agg (bv X), .int .i64 E])) ∧ (Pre T (pre ++ [x]) → E = 0 ∧ X = x.1.2.2 ∧ z2 = (atN b ((pre ++ [x]).map fun x => x.1) : Nat)) := by
          by_cases hpre : Pre T (pre ++ [x])
          · obtain ⟨A, f1, f2, f3, f4, f5, f6, f7⟩ := HF.out hpre
            obtain ⟨g1, g2'⟩ := CS.out A (A + P2) (by omega) f5
            rw [f1, f3]
            exact ⟨_, 0, g1, g2', fun _ => ⟨rfl, f6.symm, by rw [f7]⟩⟩
          · obtain ⟨X, E, q1, q2⟩ := CB.out y z2
            exact ⟨X, E, q1, q2, fun h => absurd h hpre⟩
        have HSUB := Lib.hid hSub
        have HGO := Lib.hid hgood
        clear hSub hgood
        refine wpIn_seq ?_
        refine region_round (by rintro ⟨_, _, h⟩; exact h) (by kernel_rfl) ?_
        have hpi := HPI.out
        have hy := HY.out
        go_wp2_with fail
        (with_reducible refine Calls.mono (HSUB.out W1 _ HS1.hb (HS1.rd 3 rfl)) ?_)
        rintro r W2 ⟨rfl, b2⟩
        have HS2 := HS1.keep b2
        have r6'' := (b2.block g6 (Array.getElem?_eq_some_iff.1 r6').1).trans r6'
        clear hpi hy cz c50 c51 c2 r5' r5 r6 r6' HS1
        go_wp2_with (first | refine wl_alx rfl 33 rfl (bv (List.replicate 32 0)) (by kernel_rfl) ?_ | refine wl_store_row rfl 33 _ _ rfl W2.heap.size rfl 33 (bv (List.replicate 32 0)) (bv X) rfl (heap_alloc_new W2 _) (dgS hX) (dgE rfl hX) (bv_one _) ?_)
        obtain ⟨hb3, hr3⟩ := new_row W2 (bv (List.replicate 32 0)) (bv X) 33
        have r63 := (hb3.block g6 (Array.getElem?_eq_some_iff.1 r6'').1).trans r6''
        have HS3 := HS2.keep hb3
        have k3 := k1.trans ((keeps_below (b2.trans (hb3.mono b2.size))).from wb.heap.size)
        have hgl1 : gat < W1.heap.size := Nat.lt_of_lt_of_le hgl (Nat.le_trans hsz s1.1)
        have s3 := s1.trans (stays_below (n₀ := wb.heap.size) (off := 0) hgl1 (b2.trans (hb3.mono b2.size)))
        have HK3 := Lib.hid k3
        have HS3' := Lib.hid s3
        have HLX := Lib.hid (load_row (P := Tryd.prog) hr3 33 Tryd.underlying33 rfl (dgS hX))
        have HLY := Lib.hid (load_row (P := Tryd.prog) r63 33 Tryd.underlying33 rfl (dgS hxl))
        clear k1 s1 k3 s3 hr3 r63 r6'' HS2 b2 hb3
        refine wpIn_seq ?_
        refine region_round (by rintro ⟨_, _, h⟩; exact h) (by kernel_rfl) ?_
        by_cases hE : E = 0
        · subst hE
          by_cases hXd : X = x.1.2.2
          · have heq := fun w' : World => run_equal_bv (P := Tryd.prog) w' (d := 9998) Tryd.underlying33 Tryd.underlying5 (by kernel_rfl) X x.1.2.2 hX hxl
            rw [decide_eq_true hXd] at heq
            clear hXd
            go_wp2_with (first | refine wl_ldxg 33 _ rfl _ rfl (.agg (bv X)) HLX.out rfl ?_ | refine wl_ldxg 33 _ rfl _ rfl (.agg (bv x.1.2.2)) HLY.out rfl ?_)
            refine wpIn_cond_false rfl ?_
            refine wpIn_skip ?_
            exact ⟨HK3.out, HS3'.out, ⟨z2, HS3, fun h => (HGO.out h).2.2⟩, Nat.le_trans hsz HS3'.out.1⟩
          · have heq := fun w' : World => run_equal_bv (P := Tryd.prog) w' (d := 9998) Tryd.underlying33 Tryd.underlying5 (by kernel_rfl) X x.1.2.2 hX hxl
            rw [decide_eq_false hXd] at heq
            have HNE := Lib.hid hXd
            clear hXd
            go_wp2_with (first | refine wl_ldxg 33 _ rfl _ rfl (.agg (bv X)) HLX.out rfl ?_ | refine wl_ldxg 33 _ rfl _ rfl (.agg (bv x.1.2.2)) HLY.out rfl ?_)
            refine wpIn_cond_true rfl ?_
            refine wpIn_seq ?_
            refine region_round (by rintro ⟨_, _, h⟩; exact h) (by kernel_rfl) ?_
            go_wp2_with (first | refine wl_stx HS3 6 rfl rfl 4 _ _ rfl (by kernel_rfl) 0 (by simp) (y := .bool false) rfl rfl rfl rfl ?_)
            intro HSb
            go_wp2_with fail
            refine wpIn_ret ?_
            exact ⟨HK3.out.trans ((keeps_setCell (HS3.row 6 rfl)).from _), fun h => HNE.out (HGO.out h).2.1⟩
        · have dE : (E != 0) = true := by simpa using hE
          have HNE := Lib.hid hE
          clear hE
          go_wp2
          refine wpIn_cond_true rfl ?_
          refine wpIn_seq ?_
          refine region_round (by rintro ⟨_, _, h⟩; exact h) (by kernel_rfl) ?_
          go_wp2_with (first | refine wl_stx HS3 6 rfl rfl 4 _ _ rfl (by kernel_rfl) 0 (by simp) (y := .bool false) rfl rfl rfl rfl ?_)
          intro HSb
          go_wp2_with fail
          refine wpIn_ret ?_
          exact ⟨HK3.out.trans ((keeps_setCell (HS3.row 6 rfl)).from _), fun h => HNE.out (HGO.out h).1⟩
      · have dn : (y != z) = true := by simp [hyz]
        have HYZ := Lib.hid hyz
        have hpi := HPI.out
        have hy := HY.out
        clear hyz
        go_wp2
        clear hpi hy
        refine wpIn_cond_true rfl ?_
        refine wpIn_seq ?_
        refine region_round (by rintro ⟨_, _, h⟩; exact h) (by kernel_rfl) ?_
        go_wp2_with (first | refine wl_stx HSq 6 rfl rfl 4 _ _ rfl (by kernel_rfl) 0 (by simp) (y := .bool false) rfl rfl rfl rfl ?_)
        intro HSb
        go_wp2_with fail
        refine wpIn_ret ?_
        exact ⟨(keeps_setCell (HSq.row 6 rfl)).from _, fun h => by
          obtain ⟨A, q1, q2, _⟩ := HF.out h
          exact HYZ.out (q1.trans q2.symm)⟩
    · have d1 : decide ((40 : Int) < (x.1.1 : Int)) = true := decide_eq_true (by omega)
      have H40 := Lib.hid h40
      clear h40
      go_wp2
      refine wpIn_cond_true rfl ?_
      refine wpIn_seq ?_
      refine region_round (by rintro ⟨_, _, h⟩; exact h) (by kernel_rfl) ?_
      go_wp2_with (first | refine wl_stx HSq 6 rfl rfl 4 _ _ rfl (by kernel_rfl) 0 (by simp) (y := .bool false) rfl rfl rfl rfl ?_)
      intro HSb
      go_wp2_with fail
      refine wpIn_ret ?_
      exact ⟨(keeps_setCell (HSq.row 6 rfl)).from _, fun h => by
        obtain ⟨A, _, h1, _⟩ := HP.out h
        exact H40.out h1⟩
  case done =>
    rintro D ys W hD hys ⟨⟨z, HSq, hz⟩, hsz⟩ hK
    have hzl : z = (l.length : Int) := by
      rw [hz ⟨[], by rw [hys]; simp⟩, hys, ← hT, HFE.out]
    subst hzl
    have HSo := HSq.addObj rfl hK rfl
    have hrr := root_r (w := W) nd em HND.out HEM.out 2 3 ga l.length va (SB l.length) HGB.out.2.2.2 HGB.out.len (fun w' hb => CE.out w' (HSq.hb.trans (hb.mono HSq.hB))) (fun w' a b hb ha hb2 => CN.out w' a b (HSq.hb.trans (hb.mono HSq.hB)) ha hb2) rfl rfl HSo
    rw [HRS.out] at hrr
    have HRR := Lib.hid hrr
    have hDB : w.heap.size ≤ D := Nat.le_trans hBw hD
    have HQ := Lib.hid (fun w' : World => run_equal_bv (P := Tryd.prog) w' (d := 9998) Tryd.underlying33 Tryd.underlying5 (by kernel_rfl) (root nd em l) (root nd em l) HRL.out HRL.out)
    rw [decide_eq_true rfl] at HQ
    obtain ⟨DG, hDG⟩ : ∃ y, root nd em l = y := ⟨_, rfl⟩
    rw [hDG] at HRR HQ CR HRL
    rw [ha0]
    clear hK hys hrr hDG HSq hz hT
    go_wp2_with fail
    (with_reducible refine Calls.mono HRR.out ?_)
    rintro r W2 ⟨rfl, b2⟩
    have HS2 := HSo.keep b2
    clear HSo b2
    go_wp2_with (first | refine wl_al HS2 rfl 33 rfl (bv (List.replicate 32 0)) (by kernel_rfl) ?_)
    intro g13 w3 HS3
    go_wp2_with (first | refine wl_st HS3 0 rfl rfl 33 _ _ rfl rfl rfl (dgS HRL.out) (dgE rfl HRL.out) (bv_one _) ?_)
    intro w4 HS4
    clear HS2 HS3
    go_wp2
    refine Cop.region_ord (fun w' => Sep w.heap.size w w' [.row g13 (bv DG) 33, .obj D (.deferred (some [])), .row gat #[.int .i64 (l.length : Int)] 3, .row ga (rgv (0 : Nat) l.length va) 61, .own va 99 34 (SB l.length).length (rcs (SB l.length)), .rd (.slice A0 l.length c0) l.length 32 (dcs l), .row gr (rgv b l.length vr) 61, .own vr 99 34 (SA (l.length - b)).length (rcs (SA (l.length - b))), .row g4 #[.bool false] 4, .row g2 #[.slice A0 l.length c0] 22]) 14 (.take 0 (.take 1 (.take 2 (.take 3 (.take 4 (.take 5 (.take 6 (.take 7 (.take 8 (.take 9 (.take 10 (.run 11 (.take 12 (.take 13 (.run 14 Cop.Ord.fin))))))))))))))) (by kernel_rfl) (by kernel_rfl) (fun _ _ d _ _ h => by cases d <;> exact h) ?_
    intro wa hda
    have HSa := HS4.keep hda
    clear HS4
    (repeat (first | (refine Cop.og_skip rfl rfl HSa _ (by (simp only [Act.put, List.setIfInBounds_toArray, List.set_cons_succ, List.set_cons_zero]; rfl)) ?_) | (refine Cop.og_ld rfl rfl HSa 33 _ rfl (.pointer (some ⟨g13, 0, none⟩)) rfl _ (fun w9 h9 => load_row (h9.row 0 rfl) 33 Tryd.underlying33 rfl (dgS HRL.out)) _ (by (simp only [Act.put, List.setIfInBounds_toArray, List.set_cons_succ, List.set_cons_zero]; rfl)) ?_) | (refine Cop.og_take rfl rfl HSa ?_; apply Exists.intro; refine ⟨fun w9 h9 => ?_, _, by (simp only [Act.put, List.setIfInBounds_toArray, List.set_cons_succ, List.set_cons_zero]; rfl), ?_⟩; (have c8 := (row_cell (h9.row 2 rfl) 0).trans (show (#[Value.int .i64 (l.length : Int)] : Array Value)[0]? = some (.int .i64 (l.length : Int)) from rfl); have c2 := (row_cell (h9.row 9 rfl) 0).trans (show (#[Value.slice A0 l.length c0] : Array Value)[0]? = some (.slice A0 l.length c0) from rfl); go_simp; with_reducible rfl))))
    refine Cop.og_run rfl rfl ?_
    refine ow_call 13 _ _ (fun w' => Below wa.heap.size wa w') (by go_simp) (CR.out wa _ HSa.hb (HSa.rd 5 rfl)) ?_
    intro wb2 bb
    have HSb := HSa.keep bb
    refine ⟨fun _ => HSb, ?_⟩
    (repeat (first | (refine Cop.og_skip rfl rfl HSb _ (by (simp only [Act.put, List.setIfInBounds_toArray, List.set_cons_succ, List.set_cons_zero]; rfl)) ?_) | (refine Cop.og_take rfl rfl HSb ?_; apply Exists.intro; refine ⟨fun w9 h9 => ?_, _, by (simp only [Act.put, List.setIfInBounds_toArray, List.set_cons_succ, List.set_cons_zero]; rfl), ?_⟩; (have heq := HQ.out w9; go_simp; with_reducible rfl))))
    refine Cop.og_run rfl rfl ?_
    refine ow_stc HSb 8 rfl 4 _ _ rfl (by kernel_rfl) 0 (by simp) (y := .bool true) rfl rfl rfl rfl ?_
    intro wz HSz
    refine ⟨fun h => absurd rfl h, ?_⟩
    refine og_fin ?_
    have hDz : wz.heap[D]? = some (.deferred (some [])) := HSz.at 1 rfl
    go_wp2_with fail
    exact ret_cellD rfl D rfl hDz g4 rfl _ 4 (HSz.row 8 rfl) (.bool true) rfl Tryd.isAgg4 ⟨rfl, HSz.hb.trans (belowK_b (n₀ := w.heap.size) (w := w) (Nat.le_refl _) _ D _ _ hDB hDz rfl rfl)⟩
  case stop =>
    rintro D cc pre W hD hpre h _
    exact absurd hpre h
end
end Go.Proofs.YtlhebogbbkjahaaDoor
namespace Go.Proofs.YtlhebogbbkjahaaDoor
open Go.ChangeShapes Go.RowKit Cop
set_option linter.unusedVariables false
theorem flat_len {α : Type} (f : α → List Value) (c : Nat) (hf : ∀ y, (f y).length = c) : ∀ l : List α, (l.flatMap f).length = l.length * c
  | [] => by simp
  | a :: l => by rw [List.flatMap_cons, List.length_append, hf, flat_len f c hf l, List.length_cons, Nat.succ_mul]; omega
theorem flat_at {α : Type} (f : α → List Value) (c : Nat) (hf : ∀ y, (f y).length = c) : ∀ (l : List α) (i : Nat) (y : α), l[i]? = some y → ∀ k, k < c → (l.flatMap f)[i * c + k]? = (f y)[k]?
  | [], i, y, h, k, hk => by simp at h
  | a :: l, 0, y, h, k, hk => by
    simp at h
    subst h
    rw [List.flatMap_cons, Nat.zero_mul, Nat.zero_add, List.getElem?_append_left (by rw [hf]; exact hk)]
  | a :: l, i + 1, y, h, k, hk => by
    simp at h
    rw [List.flatMap_cons, List.getElem?_append_right (by rw [hf, Nat.succ_mul]; omega), hf, show (i + 1) * c + k - c = i * c + k from by rw [Nat.succ_mul]; omega]
    exact flat_at f c hf l i y h k hk
theorem each_list {α : Type} {Q : Nat → α → Prop} : ∀ (n : Nat), (∀ i, i < n → ∃ x, Q i x) → ∃ l : List α, l.length = n ∧ ∀ i x, l[i]? = some x → Q i x
  | 0, _ => ⟨[], rfl, fun i x h => by simp at h⟩
  | n + 1, h => by
    obtain ⟨l, hl, hp⟩ := each_list n (fun i hi => h i (by omega))
    obtain ⟨x, hx⟩ := h n (by omega)
    refine ⟨l ++ [x], by simp [hl], fun i y hy => ?_⟩
    rw [List.getElem?_append] at hy
    split at hy
    · exact hp i y hy
    · rename_i hlt
      have : i = n := by
        have := (List.getElem?_eq_some_iff.1 hy).1
        simp at this
        omega
      subst this
      simp [hl] at hy
      subst hy
      exact hx
theorem bl_flat : ∀ l : List UInt8, l.flatMap (fun b => [Value.int .u8 (b.toNat : Int)]) = bl l
  | [] => rfl
  | a :: l => by rw [List.flatMap_cons, bl_flat l]; rfl
section
variable {H : Type} {enc : TypeId × Value → H} {P : Program} {w : World} {t e : TypeId} {v : Value} {d : DataW H} {ps : List MemPlace}
/-- A slice that came in, element by element. -/
theorem open_list {α : Type} (f : α → List Value) (OK : α → DataW H → Prop) {c : Nat} {fuel : Nat} (ht : P.underlying t = some (.slice e)) (hce : P.cellsOf e = c) (hc0 : 0 < c) (hcl : ∀ y, (f y).length = c)
    (each : ∀ (fuel : Nat) (cs : List Value) (x : DataW H × List MemPlace), cs.length = c → DataW.trod enc P w 0 (fun _ => true) true fuel e cs = some x → ∃ y, cs = f y ∧ OK y x.1)
    (hf : DataW.trod enc P w 0 (fun _ => true) true fuel t [v] = some (d, ps)) :
    ∃ (l : List α) (ds rest : List (DataW H)), Rd w v l.length c (l.flatMap f) ∧ ds.length = l.length ∧ (∀ (i : Nat) (y : α) (z : DataW H), l[i]? = some y → ds[i]? = some z → OK y z) ∧ ((d = .nil ∧ ds = []) ∨ d = .slice ds rest) := by
  rcases DataW.trod_slice ht hf with ⟨hcs, hx⟩ | ⟨a, len, cap, elems, rest, n, _, hcs, hx, _, hlc, hm, hel, hget, hsp, _⟩
  · simp at hcs
    subst hcs
    simp only [Prod.mk.injEq] at hx
    exact ⟨[], [], [], Rd.nil w c, rfl, fun i y z h => by simp at h, .inl ⟨hx.1, rfl⟩⟩
  · simp at hcs
    subst hcs
    simp only [Prod.mk.injEq] at hx
    have each2 : ∀ i, i < len → ∃ y : α, (∀ k, k < c → w.cell? (a.add (i * c + k)) = (f y)[k]?) ∧ ∀ z, elems[i]? = some z → OK y z.1 := by
      intro i hi
      have hg := hget i hi
      rw [hce, List.getElem?_eq_getElem (by omega)] at hg
      obtain ⟨cs, h1, h2⟩ := Option.bind_eq_some_iff.1 hg
      obtain ⟨h3, h4, h5⟩ := World.cells?_some h1
      obtain ⟨y, hy, ho⟩ := each n cs _ h4 h2
      refine ⟨y, fun k hk => ?_, fun z hz => ?_⟩
      · rw [← hy, ← h5 k hk]
        show w.cell? (a.add (i * c + k)) = w.cell? ((a.add (i * c)).add k)
        congr 1
        obtain ⟨b, o, s⟩ := a
        generalize i * c = p
        rcases Nat.eq_zero_or_pos p with rfl | hp
        · simp [Addr.add]
        · rcases Nat.eq_zero_or_pos k with rfl | hq
          · simp [Addr.add]
          · simp [Addr.add, Nat.add_assoc, show p ≠ 0 from by omega, show k ≠ 0 from by omega]
      · rw [List.getElem?_eq_getElem (by omega)] at hz
        simp at hz
        rw [← hz]
        exact ho
    obtain ⟨l, hll, hp⟩ := each_list len each2
    refine ⟨l, elems.map (·.1), rest.map (·.1), ⟨flat_len f c hcl l, some a, cap, by rw [hll], by omega, hm, by simp, fun h0 => ?_⟩, by simp [hel, hll], fun i y z hy hz => ?_, .inr hx.1⟩
    · have hcell : ∀ q, q < l.length * c → w.cell? (a.add q) = (l.flatMap f)[q]? := by
        intro q hq
        have h1 : q / c < l.length := by
          rw [Nat.div_lt_iff_lt_mul hc0]; exact hq
        have h2 := (hp (q / c) l[q / c] (by simp [h1])).1 (q % c) (Nat.mod_lt _ hc0)
        rw [show q / c * c + q % c = q from by rw [Nat.mul_comm]; exact Nat.div_add_mod q c] at h2
        have h3 := flat_at f c hcl l (q / c) l[q / c] (by simp [h1]) (q % c) (Nat.mod_lt _ hc0)
        rw [show q / c * c + q % c = q from by rw [Nat.mul_comm]; exact Nat.div_add_mod q c] at h3
        rw [h2, h3]
      obtain ⟨b, o, s⟩ := a
      have hpos : 0 < l.length * c := Nat.mul_pos h0 hc0
      have hs : s = none := by
        have h1 := hcell 0 hpos
        rw [List.getElem?_eq_getElem (by rw [flat_len f c hcl]; exact hpos)] at h1
        have h2 : (⟨b, o, s⟩ : Addr).add 0 = ⟨b, o, s⟩ := by cases s <;> rfl
        rw [h2] at h1
        simpa using World.cell?_spot h1
      subst hs
      refine ⟨b, o, rfl, fun i u hu => ?_⟩
      have hi := (List.getElem?_eq_some_iff.1 hu).1
      rw [flat_len f c hcl] at hi
      have := hcell i hi
      rw [add_plain] at this
      rw [this, hu]
    · rw [List.getElem?_map] at hz
      cases he : elems[i]? with
      | none => rw [he] at hz; simp at hz
      | some z' =>
        rw [he] at hz
        simp at hz
        rw [← hz]
        exact (hp i y hy).2 z' he
/-- Bytes that came in. -/
theorem open_bytes3 {u : TypeId} {fuel : Nat} {x : DataW H × List MemPlace} {cs : List Value} (ht : P.underlying t = some (.slice u)) (hu : P.underlying u = some (.int .u8)) (hcu : P.cellsOf u = 1) (hl : cs.length = 1)
    (hf : DataW.trod enc P w 0 (fun _ => true) true fuel t cs = some x) : ∃ (v : Value) (l : List UInt8), cs = [v] ∧ Rd w v l.length 1 (bl l) ∧ ((x.1 = .nil ∧ l = []) ∨ ∃ ds rest, x.1 = .slice ds rest ∧ ds.length = l.length) := by
  match cs, hl with
  | [v], _ =>
  obtain ⟨d, ps⟩ := x
  obtain ⟨l, ds, rest, hR, hd, _, hx⟩ := open_list (α := UInt8) (fun b => [.int .u8 (b.toNat : Int)]) (fun _ _ => True) ht hcu (by decide) (fun _ => rfl)
    (fun fuel cs x hl h => by
      obtain ⟨z, hz, _, hwf⟩ := DataW.trod_int hu h
      obtain ⟨b, rfl⟩ := u8_of_wf hwf
      exact ⟨b, hz, trivial⟩) hf
  have e := bl_flat l
  rw [e] at hR
  refine ⟨v, l, rfl, hR, ?_⟩
  rcases hx with ⟨h1, h2⟩ | h1
  · subst h2
    exact .inl ⟨h1, List.eq_nil_of_length_eq_zero hd.symm⟩
  · exact .inr ⟨ds, rest, h1, hd⟩
end
section
variable {B : Nat} {w0 w w' : World} {R : List Pc} {p q : Pc}
/-- What is owned is lent out to be read; what only reads it gives it back. -/
theorem _root_.Cop.Sep.lendTo {v : Value} {e : TypeId} {size n : Nat} {xs : List Value} (h : Sep B w0 w (.own v e size n xs :: R)) :
    ∃ q : Pc, Sep B w0 w (.rd v n size xs :: q :: R) ∧ ∀ (w1 : World) (R2 R1 : List Pc), (∀ r ∈ R2, r.reads = false) → R1.Sublist R → Sep B w0 w1 (.rd v n size xs :: q :: (R2 ++ R1)) → Sep B w0 w1 (.own v e size n xs :: (R2 ++ R1)) := by
  have ho : Ow w B e size v n xs := h.head
  have hrd : Sep B w0 w (.rd v n size xs :: R) := h.toRd 0 rfl
  have hfar := (List.pairwise_cons.1 h.far).1
  have rb : ∀ k, rblk v xs = some k → vblk v = some k := fun k hk => by
    obtain ⟨A, c, rfl, hc⟩ := ho.sl
    cases A with
    | none => simp [rblk] at hk
    | some a =>
      have hl : xs.length = n * size := ho.rd.1
      cases xs with
      | nil => simp [rblk] at hk
      | cons y ys =>
        have hn : n ≠ 0 := fun h0 => by subst h0; simp at hl
        simp only [rblk] at hk
        simp only [vblk, if_neg (show ¬ c = 0 from by omega)]
        exact hk
  cases hv : vblk v with
  | none =>
    refine ⟨.rd (.slice none 0 0) 0 1 [], (hrd.fresh (Below.refl _ _) (p := .rd (.slice none 0 0) 0 1 []) (Rd.nil w 1) (fun k hk => by simp [Pc.blk, rblk] at hk)).perm (List.Perm.swap _ _ _), fun w1 R2 R1 hR2 hsub h1 => ?_⟩
    have h2 := h1.tail.tail
    exact ⟨h2.hb, h2.hB, fun p hp => by
      rcases List.mem_cons.1 hp with rfl | hp
      · exact Ow.same ho fun k hk => by rw [hv] at hk; cases hk
      · exact h2.all p hp, List.pairwise_cons.2 ⟨fun r _ => .inr (fun k hk => by rw [show (Pc.own v e size n xs).blk = vblk v from rfl, hv] at hk; cases hk), h2.far⟩⟩
  | some k =>
    obtain ⟨cur, hcur⟩ : ∃ cur, w.heap[k]? = some (.cells cur e (0, 0)) := by
      rcases ho.2 with ⟨A, rfl, _⟩ | ⟨g, cap, cur, hc, rfl, _, h2, _⟩
      · cases A <;> simp [vblk] at hv
      · simp [vblk, show cap ≠ 0 from by omega] at hv
        subst hv
        exact ⟨cur, h2⟩
    refine ⟨.held k cur e, ⟨h.hb, h.hB, fun p hp => ?_, ?_⟩, fun w1 R2 R1 hR2 hsub h1 => ?_⟩
    · rcases List.mem_cons.1 hp with rfl | hp
      · exact ho.rd
      · rcases List.mem_cons.1 hp with rfl | hp
        · exact hcur
        · exact h.tail.all p hp
    · refine List.pairwise_cons.2 ⟨fun r hr => ?_, List.pairwise_cons.2 ⟨fun r hr => ?_, h.tail.far⟩⟩
      · rcases List.mem_cons.1 hr with rfl | hr
        · exact .inl ⟨rfl, rfl⟩
        · exact (List.pairwise_cons.1 hrd.far).1 r hr
      · rcases hfar r hr with ⟨h1, _⟩ | h1
        · cases h1
        · exact .inr fun j hj => by cases hj; exact h1 k hv
    · have h2 := h1.tail.tail
      have hh : w1.heap[k]? = some (.cells cur e (0, 0)) := h1.tail.head
      refine ⟨h2.hb, h2.hB, fun p hp => ?_, List.pairwise_cons.2 ⟨fun r hr => ?_, h2.far⟩⟩
      · rcases List.mem_cons.1 hp with rfl | hp
        · exact Ow.same ho fun j hj => by rw [hv] at hj; cases hj; rw [hh, hcur]
        · exact h2.all p hp
      · refine .inr fun j hj => ?_
        rw [show (Pc.own v e size n xs).blk = vblk v from rfl, hv] at hj
        cases hj
        rcases List.mem_append.1 hr with hr | hr
        · rcases (List.pairwise_cons.1 h1.tail.far).1 r (List.mem_append.2 (.inl hr)) with ⟨_, h3⟩ | h3
          · rw [hR2 r hr] at h3; cases h3
          · exact h3 k rfl
        · rcases hfar r (hsub.subset hr) with ⟨h3, _⟩ | h3
          · cases h3
          · exact h3 k hv
end
section
variable {w0 w : World} {R : List Pc}
/-- What came in is read, later. -/
theorem _root_.Cop.Sep.argL (h : Sep w0.heap.size w0 w R) {v : Value} {n size : Nat} {cs : List Value} (hr : Rd w0 v n size cs) : Sep w0.heap.size w0 w (.rd v n size cs :: R) :=
  h.arg (hr.below h.hb) fun k hk => (Rd.cells_rblk hr k hk).1
end
end Go.Proofs.YtlhebogbbkjahaaDoor
namespace Go.Proofs.YtlhebogbbkjahaaDoor
open Go.RowKit Cop
set_option linter.unusedVariables false
set_option linter.unusedSimpArgs false
theorem rd_get {w : World} {b o n c size : Nat} {cs : List Value} (h : Rd w (.slice (some ⟨b, o, none⟩) n c) n size cs) (h0 : 0 < n) (j : Nat) (u : Value) (hj : cs[j]? = some u) : w.cell? ⟨b, o + j, none⟩ = some u := by
  obtain ⟨_, A', c', he, _, _, _, hc⟩ := h
  injection he with e1 _ e3
  subst e1 e3
  obtain ⟨b', o', e4, h5⟩ := hc h0
  injection e4 with e4
  injection e4 with e5 e6
  subst e5 e6
  exact h5 j u hj
theorem sum_bulk {H : Type} {α : Type} (f : α → Nat) : ∀ (l : List α) (ds : List (DataW H)), ds.length = l.length → (∀ (i : Nat) (y : α) (z : DataW H), l[i]? = some y → ds[i]? = some z → f y ≤ Rows.uptoBulk z) → (l.map f).sum ≤ Rows.uptoBulkAll ds
  | [], ds, _, _ => by simp
  | a :: l, [], h, _ => by simp at h
  | a :: l, d :: ds, h, hb => by
    have h1 := hb 0 a d rfl rfl
    have h2 := sum_bulk f l ds (by simpa using h) (fun i y z hy hz => hb (i + 1) y z (by simpa using hy) (by simpa using hz))
    simp only [List.map_cons, List.sum_cons, Rows.uptoBulkAll]
    omega
theorem bulk_one {H : Type} (d : DataW H) : 1 ≤ Rows.uptoBulk d := by
  cases d with
  | lit l => cases l <;> simp [Rows.uptoBulk]
  | _ => simp [Rows.uptoBulk]
theorem bulk_len {H : Type} (l : List (DataW H)) : l.length ≤ Rows.uptoBulkAll l := by
  induction l with
  | nil => simp [Rows.uptoBulkAll]
  | cons x r ih => have := bulk_one x; simp only [Rows.uptoBulkAll, List.length_cons]; omega
theorem bulk_bytes {H : Type} {x : DataW H} {l : List UInt8} (h : (x = .nil ∧ l = []) ∨ ∃ ds rest, x = .slice ds rest ∧ ds.length = l.length) : l.length ≤ Rows.uptoBulk x := by
  rcases h with ⟨_, rfl⟩ | ⟨ds, rest, rfl, hl⟩
  · simp
  · have := bulk_len ds
    simp only [Rows.uptoBulk]
    omega
end Go.Proofs.YtlhebogbbkjahaaDoor
namespace Go.Proofs.YtlhebogbbkjahaaDoor
open Go.RowKit Cop
set_option linter.unusedVariables false
set_option linter.unusedSimpArgs false
section
variable {H : Type} {enc : TypeId × Value → H} {P : Program} {w : World}
theorem open_arr3 {t u : TypeId} {cl : List Value} {x : DataW H × List MemPlace} {base : Nat} {spare : Nat → Bool} {held : Bool} (he : P.underlying t = some (.array 32 u)) (hu : P.underlying u = some (.int .u8)) (hcu : P.cellsOf u = 1) (hct : P.cellsOf t = 32)
    {fuel : Nat} (hf : DataW.trod enc P w base spare held fuel t cl = some x) : ∃ l : List UInt8, l.length = 32 ∧ cl = bl l := by
  obtain ⟨xs, m, _, _, hl, hxs, hget⟩ := DataW.trod_array he hf
  have hlen : cl.length = 32 := hl.trans hct
  obtain ⟨l, hl2, hc2⟩ := bytes_of_list cl 32 hlen (fun i hi => by
    have := hget i hi
    rw [hcu, Nat.mul_one, List.getElem?_eq_getElem (by omega)] at this
    obtain ⟨k, hk, _, hwf⟩ := DataW.trod_int hu this
    obtain ⟨b, rfl⟩ := u8_of_wf hwf
    refine ⟨b, ?_⟩
    have := congrArg (fun l : List Value => l[0]?) hk
    simpa [List.getElem?_take, List.getElem?_drop] using this)
  refine ⟨l, hl2, ?_⟩
  have := congrArg Array.toList hc2
  rw [bv_toList] at this
  exact this
theorem dcs_map (l : List { d : List UInt8 // d.length = 32 }) : l.flatMap (fun d => bl d.1) = dcs (l.map (·.1)) := by
  induction l with
  | nil => rfl
  | cons x l ih => simp only [List.flatMap_cons, List.map_cons, dcs_cons, ih]
theorem open_dgs {t e u : TypeId} {v : Value} {d : DataW H} {ps : List MemPlace} {fuel : Nat} (ht : P.underlying t = some (.slice e)) (he : P.underlying e = some (.array 32 u)) (hu : P.underlying u = some (.int .u8)) (hcu : P.cellsOf u = 1) (hce : P.cellsOf e = 32)
    (hf : DataW.trod enc P w 0 (fun _ => true) true fuel t [v] = some (d, ps)) : ∃ l : List (List UInt8), AllD l ∧ Rd w v l.length 32 (dcs l) ∧ l.length ≤ Rows.uptoBulk d := by
  obtain ⟨l, ds, rest, hR, hd, _, hx⟩ := open_list (α := { d : List UInt8 // d.length = 32 }) (fun d => bl d.1) (fun _ _ => True) ht hce (by decide) (fun y => by rw [bl_length, y.2])
    (fun fuel cs x hl h => by
      obtain ⟨l, h1, h2⟩ := open_arr3 he hu hcu hce h
      exact ⟨⟨l, h1⟩, h2, trivial⟩) hf
  refine ⟨l.map (·.1), fun x hx => ?_, ?_, ?_⟩
  · obtain ⟨y, _, rfl⟩ := List.mem_map.1 hx
    exact y.2
  · rw [dcs_map] at hR
    simpa using hR
  · rw [List.length_map, ← hd]
    rcases hx with ⟨rfl, rfl⟩ | rfl
    · simp
    · have := bulk_len ds
      simp only [Rows.uptoBulk]
      omega
end
end Go.Proofs.YtlhebogbbkjahaaDoor
namespace Go.Proofs.YtlhebogbbkjahaaDoor
open Go.RowKit Cop
set_option linter.unusedVariables false
set_option linter.unusedSimpArgs false
theorem drop_lenD {l : List (List UInt8)} (hl : AllD l) (i j : Nat) : AllD ((l.take j).drop i) := (hl.take j).drop i
set_option maxRecDepth 100000 in
theorem compactTree_holds : Rows.CompactTreeUptoCardSaid := compactTree.card_of_walk fun H enc W base v0 v1 d0 d1 p0 p1 h0 k0 h1 k1 hsz hL hbulk => by
  obtain ⟨a, rfl, _, _, _⟩ := Go.ChangeShapes.open_int Tryd.underlying3 k1 h1
  obtain ⟨a0, len0, cap0, rfl⟩ := Go.WideShapes.okWide_slice Tryd.underlying22 k0
  obtain ⟨f0, hf0⟩ := h0
  obtain ⟨l, hl, hR, hb⟩ := open_dgs Tryd.underlying22 Tryd.underlying33 Tryd.underlying5 (by kernel_rfl) (by kernel_rfl) hf0
  simp only [Rows.uptoBulkAll] at hbulk
  have hll : l.length ≤ 1048576 := by omega
  have hT : Tab W := table_of hL
  refine tree_walk nodeD (sha []) nodeD_length (sha_length _) l hl hll _ a hR (fun w' a b hb ha hb2 => node_a a b w' (hT.below hb) ha hb2) (fun w' hb => empty_a w' (hT.below hb)) (fun w' v hb hR => root_a l v w' (hT.below hb) hl (by omega) hR) (root_length _ hl) (fun i j hij hj => ?_) (fun b e => ?_)
  · have hla := drop_lenD hl i j
    have hlen : ((l.take j).drop i).length = j - i := by rw [List.length_drop, List.length_take]; omega
    refine ⟨root_length _ hla, fun w' v hb hR => ?_⟩
    exact subA_gen l v i j _ w' hl (by omega) hR hij hj (root_length _ hla) fun w2 v' hb2 hv => root_a _ v' w2 ((hT.below hb).below hb2) hla (by omega) (by rw [hlen]; exact hv)
  · by_cases h : 0 ≤ b ∧ b < e ∧ e ≤ (l.length : Int)
    · obtain ⟨h1, h2, h3⟩ := h
      obtain ⟨i, rfl⟩ : ∃ i : Nat, b = (i : Int) := ⟨b.toNat, by omega⟩
      obtain ⟨j, rfl⟩ : ∃ j : Nat, e = (j : Int) := ⟨e.toNat, by omega⟩
      have hla := drop_lenD hl i j
      have hlen : ((l.take j).drop i).length = j - i := by rw [List.length_drop, List.length_take]; omega
      refine ⟨root nodeD (sha []) ((l.take j).drop i), 0, root_length _ hla, fun w' v hb hR => ?_⟩
      exact subA_gen l v i j _ w' hl (by omega) hR (by omega) (by omega) (root_length _ hla) fun w2 v' hb2 hv => root_a _ v' w2 ((hT.below hb).below hb2) hla (by omega) (by rw [hlen]; exact hv)
    · refine ⟨List.replicate 32 0, 40, rfl, fun w' v hb hR => ?_⟩
      obtain ⟨A, c, rfl, _, _⟩ := hR.shape
      exact subNo_a A _ c b e w' (by omega) h
#print axioms compactTree_holds
end Go.Proofs.YtlhebogbbkjahaaDoor
