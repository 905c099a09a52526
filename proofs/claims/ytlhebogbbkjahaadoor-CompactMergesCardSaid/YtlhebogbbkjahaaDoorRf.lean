/- Ranges over a function: out of the wide fence and back, within a round; what stands beside the loop's own blocks. -/
import Derived.Test.YtlhebogbbkjahaaDoorDg
import Derived.RangeFuncNested
import Derived.RangeFuncBound
import Derived.RangeFuncCalls
import Derived.RangeFuncLeaves
import Derived.RangeFuncWrites
import Derived.Shelf.Abstract
import Derived.Shelf.RegionOpen
import Derived.OwnWalkIn
import Derived.TacticsInMore
import Derived.LoopNIn
import Derived.LoopIn
set_option linter.unusedVariables false
namespace Cop
open Go Go.RowKit
section
variable {P : Program}
theorem rowsIn_round {r n : Nat} {row : String} {args : Array Value} {w : World} {R : Value → World → Prop} (h : Rows P row args w R) : RowsIn (Fence.wide.inRound r) n P row args w R :=
  fun c cs _ => let ⟨v, w', h1, h2⟩ := h c cs; ⟨v, w', h1, stepsIn_wide.2 h2⟩
theorem operIn_of_oper {r n : Nat} {o : Oper} {a : Act} {w : World} {next next' : Act → World → Prop} {Q : Exit → Act → World → Prop} (hd : ∀ c, o.op ≠ .defer c) (hn : ∀ a w, next a w → next' a w) (h : o.wp P a w next Q) : o.wpIn (Fence.wide.inRound r) n P a w next' Q := by
  refine ⟨fun _ _ => trivial, ?_⟩
  rw [Oper.semAt_plain _ _ _ hd]
  unfold Oper.wp at h
  generalize (execOp a.eval o).run P w = q at h
  match q, h with
  | .ok (.value v) w', h => exact hn _ _ h
  | .ok .skip w', h => exact hn _ _ h
  | .ok (.defer d) w', h => exact hn _ _ h
  | .ok (.enter f args) w', h =>
    refine ⟨fun h0 => by simp [Fence.wide] at h0, CallsIn.inRound r (callsIn_wide.2 (Calls.mono h fun e w'' h2 => ?_))⟩
    cases e with
    | returned v => exact hn _ _ h2
    | panicked c => exact h2
    | outgrown => exact h2
  | .ok (.row row args) w', h =>
    refine ⟨fun h0 => by simp [Fence.wide] at h0, rowsIn_round (Rows.mono h fun v w'' h2 => hn _ _ h2)⟩
  | .halt (.panic v) w', h => exact h
theorem listIn_of_list {r n : Nat} {ops : Array Oper} {Q : Exit → Act → World → Prop} (hL : ¬ LetsOut Q) : ∀ (l : List Oper) (a : Act) (w : World), (∀ o ∈ l, ∀ c, o.op ≠ .defer c) → wpList P ops Q l a w → wpListIn (Fence.wide.inRound r) n P ops Q l a w
  | [], _, _, _, h => h
  | o :: l, a, w, hd, h => by
    unfold wpList at h
    unfold wpListIn
    have ih := fun a w => listIn_of_list (r := r) (n := n) (ops := ops) hL l a w (fun o ho => hd o (List.mem_cons_of_mem _ ho))
    split at h
    · rename_i hw
      rw [if_pos hw]
      rcases h with h | h
      · exact operIn_of_oper (hd o List.mem_cons_self) ih h
      · exact absurd h.2 hL
    · rename_i hw
      rw [if_neg hw]
      exact ⟨fun _ _ => trivial, ih _ _ h⟩
def noDefer (l : List Oper) : Bool := l.all fun o => match o.op with | .defer _ => false | _ => true
theorem noDefer_spec {l : List Oper} (h : noDefer l = true) : ∀ o ∈ l, ∀ c, o.op ≠ .defer c := fun o ho c e => by
  have := List.all_eq_true.1 h o ho
  rw [e] at this
  cases this
/-- A region within a round. -/
theorem region_round {r n id : Nat} {Q : Exit → Act → World → Prop} {l : List Oper} {a : Act} {w : World} (hL : ¬ LetsOut Q) (hd : noDefer l = true) (h : wpList P l.toArray Q l a w) : (Code.region id l.toArray false).wpIn (Fence.wide.inRound r) n P Q a w :=
  wpIn_region_lit (listIn_of_list hL l a w (noDefer_spec hd) h)
/-- No way out by a panic. -/
def noPanic (Q : Exit → Act → World → Prop) : Exit → Act → World → Prop
  | .panic _, _, _ => False
  | e, a, w => Q e a w
/-- A function that holds a range over a function. -/
theorem calls_marks {f : FuncId} {fn : Func} {c : Code} {args : Array Value} {w : World} {R : Ending → World → Prop} (hf : P.funcs[f]? = some fn) (hb : fn.body = some c)
    (h : c.wp P (noPanic (bodyPostM Fence.wide 9 P fn R)) { tmps := args ++ Array.replicate (fn.ntmps - args.size) undef, defers := [] } w) : Calls P f args w R :=
  callsIn_wide.1 (callsIn_of_wp_marks (F := Fence.wide) (n := 9) hf hb trivial (wpIn_wide.2 (wp_mono h fun e a w h => by cases e <;> first | exact h | exact False.elim h)) rfl)
theorem run_results_row {fn : Func} {a : Act} {w : World} {p : Tmp} {ty : TypeId} (h : fn.results = #[.cell p ty]) (g : Nat) (hp : a.tmps.getD p undef = .pointer (some ⟨g, 0, none⟩))
    (t : TypeId) (cs : Array Value) (fr : Nat × Nat) (d : TypeDesc) (hg : w.heap[g]? = some (.cells cs t fr)) (hu : P.underlying ty = some d) (hd : (match d with | .struct _ | .array _ _ => true | _ => false) = true) (hi : (P.info? ty).map (·.size) = some cs.size) :
    (results fn a.tmps).run P w = .ok (.agg cs) w := by
  have hld := run_loadVar_row (P := P) w g t ty cs fr d hg hu (by revert hd; cases d <;> simp) hi
  have hp2 : a.tmps[p]?.getD undef = .pointer (some ⟨g, 0, none⟩) := by rw [← hp]; simp
  simp only [results, h]
  simp [hp2, asAddr, hld]
/-- A way out ahead of the loop. -/
theorem ret_rowM {F : Fence} {n : Nat} {fn : Func} {R : Ending → World → Prop} {a : Act} {w : World} {p : Tmp} {ty : TypeId} (h : fn.results = #[.cell p ty]) (hd0 : a.defers = []) (g : Nat) (hp : a.tmps.getD p undef = .pointer (some ⟨g, 0, none⟩))
    (t : TypeId) (cs : Array Value) (fr : Nat × Nat) (d : TypeDesc) (hg : w.heap[g]? = some (.cells cs t fr)) (hu : P.underlying ty = some d) (hd : (match d with | .struct _ | .array _ _ => true | _ => false) = true) (hi : (P.info? ty).map (·.size) = some cs.size)
    (hR : R (.returned (.agg cs)) w) : bodyPostM F n P fn R .ret a w := by
  show LeavesInM F n P fn a.tmps R a.defers .returning w
  rw [hd0]
  exact ⟨_, run_results_row h g hp t cs fr d hg hu hd hi, hR⟩
/-- A way out behind the loop. -/
theorem ret_rowD {F : Fence} {n : Nat} {fn : Func} {R : Ending → World → Prop} {a : Act} {w : World} {p : Tmp} {ty : TypeId} (h : fn.results = #[.cell p ty]) (D : Nat) (hd0 : a.defers = [{ target := .collected D, args := #[] }]) (hD : w.heap[D]? = some (.deferred (some []))) (g : Nat) (hp : a.tmps.getD p undef = .pointer (some ⟨g, 0, none⟩))
    (t : TypeId) (cs : Array Value) (fr : Nat × Nat) (d : TypeDesc) (hg : w.heap[g]? = some (.cells cs t fr)) (hu : P.underlying ty = some d) (hd : (match d with | .struct _ | .array _ _ => true | _ => false) = true) (hi : (P.info? ty).map (·.size) = some cs.size)
    (hR : R (.returned (.agg cs)) (w.putObj D (.deferred none))) : bodyPostM F n P fn R .ret a w := by
  show LeavesInM F n P fn a.tmps R a.defers .returning w
  rw [hd0]
  refine ⟨by simp, .inl ⟨_, _, rfl, run_takeDeferred hD, ?_⟩⟩
  have hne : g ≠ D := fun e => by rw [e, hD] at hg; cases hg
  exact ⟨_, run_results_row h g hp t cs fr d ((World.putObj_heap_other hne).trans hg) hu hd hi, hR⟩
theorem calls_marks_tmp {F : Fence} {n : Nat} {fn : Func} {R : Ending → World → Prop} {a : Act} {w : World} {p : Tmp} (h : fn.results = #[.tmp p]) (hd0 : a.defers = []) (hR : R (.returned (a.tmps.getD p undef)) w) : bodyPostM F n P fn R .ret a w := by
  show LeavesInM F n P fn a.tmps R a.defers .returning w
  rw [hd0]
  exact ⟨_, results_tmp h _ _ _, hR⟩
theorem ret_tmpD {F : Fence} {n : Nat} {fn : Func} {R : Ending → World → Prop} {a : Act} {w : World} {p : Tmp} (h : fn.results = #[.tmp p]) (D : Nat) (hd0 : a.defers = [{ target := .collected D, args := #[] }]) (hD : w.heap[D]? = some (.deferred (some []))) (hR : R (.returned (a.tmps.getD p undef)) (w.putObj D (.deferred none))) : bodyPostM F n P fn R .ret a w := by
  show LeavesInM F n P fn a.tmps R a.defers .returning w
  rw [hd0]
  refine ⟨by simp, .inl ⟨_, _, rfl, run_takeDeferred hD, ?_⟩⟩
  exact ⟨_, results_tmp h _ _ _, hR⟩
end
section
variable {w0 w w' : World} {B : Nat} {R : List Pc}
theorem Pc.cells {p : Pc} (hno : p.isObj = false) (h : p.holds B w) (k : Nat) (hk : p.blk = some k) : ∃ cs t fr, w.heap[k]? = some (.cells cs t fr) := by
  cases p with
  | row g cs t => cases hk; exact ⟨cs, t, _, h.2⟩
  | own v e size n xs =>
    rcases h.2 with ⟨A, rfl, _⟩ | ⟨g, cap, cur, hc, rfl, _, h2, _⟩
    · cases A <;> simp [Pc.blk, vblk] at hk
    · simp [Pc.blk, vblk, show cap ≠ 0 from by omega] at hk
      subst hk
      exact ⟨cur, e, _, h2⟩
  | rd v n size cs =>
    obtain ⟨_, o, ho⟩ := Rd.cells_rblk h k hk
    cases cs with
    | nil => cases v <;> simp [Pc.blk, rblk] at hk
    | cons x xs =>
      have := ho 0 x rfl
      cases hh : w.heap[k]? with
      | none => simp [World.cell?, hh] at this
      | some ob =>
        cases ob with
        | cells cs t fr => exact ⟨cs, t, fr, rfl⟩
        | _ => simp [World.cell?, hh] at this
  | held k' cs t => cases hk; exact ⟨cs, t, _, h⟩
  | obj k' o => cases hno
/-- A block that is no cells turns, or a new one comes: what is known stays. -/
theorem Sep.other (h : Sep B w0 w R) (hpl : plainL R = true) {row : Option Nat} (hg : w.grownBy w' row) (hr : ∀ r, row = some r → B ≤ r ∧ ∃ o : Obj, w.heap[r]? = some o ∧ o.isCells = false) : Sep B w0 w' R := by
  refine ⟨h.hb.trans ⟨hg.os, hg.tape, hg.output, hg.size, fun k hk => hg.block k (Nat.lt_of_lt_of_le hk h.hB) fun e => ?_⟩, Nat.le_trans h.hB hg.size, fun p hp => Pc.same (h.all p hp) fun k hk => hg.block k (h.lt hp k hk) fun e => ?_, h.far⟩
  · have := (hr k e.symm).1
    omega
  · obtain ⟨_, o, ho, hc⟩ := hr k e.symm
    obtain ⟨cs, t, fr, h2⟩ := Pc.cells (by simpa using List.all_eq_true.1 hpl p hp) (h.all p hp) k hk
    rw [ho] at h2
    injection h2 with h2
    subst h2
    cases hc
theorem ownFrom_sep {β : Type} {n : Nat} (hn : B ≤ n) (Rf : β → List Pc) (hpl : ∀ s, plainL (Rf s) = true := by intros; rfl) : OwnFrom n (fun s W => Sep B w0 W (Rf s)) :=
  fun s W W' row hs hg hr => hs.other (hpl s) hg fun r e => ⟨Nat.le_trans hn (hr r e).1, (hr r e).2⟩
theorem keeps_below {W W' : World} (h : Below W.heap.size W W') : KeepsOthers W W' := ⟨h.size, fun k o hk _ => (h.block k (Array.getElem?_eq_some_iff.1 hk).1).trans hk⟩
theorem keeps_setRow {W : World} {g : Nat} {cs old : Array Value} {t : TypeId} {fr : Nat × Nat} (h : W.heap[g]? = some (.cells old t fr)) : KeepsOthers W (W.setRow g cs) := by
  refine ⟨by simp, fun k o hk ho => ?_⟩
  by_cases e : k = g
  · subst e; rw [h] at hk; injection hk with hk; subst hk; cases ho
  · rw [setRow_other W g k cs e]; exact hk
end
end Cop
