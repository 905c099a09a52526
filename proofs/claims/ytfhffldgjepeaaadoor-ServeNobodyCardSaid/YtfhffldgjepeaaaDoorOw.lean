/- A region that draws its order, told as one order, under a condition on the world that may grow with what a writer gave. -/
import Derived.Test.YtfhffldgjepeaaaDoorOg
set_option linter.unusedVariables false
namespace Cop
open Go Go.RowKit
section
variable {P : Program} {ops : Array Oper} {Q : Exit → Act → World → Prop} {md : Region.Mode} {z : Nat}
theorem yields_sub {S S' : World → Prop} {o : Oper} {v : Value} {a : Act} (hs : ∀ W, S' W → S W) (h : YieldsIf P ops S o v a) : YieldsIf P ops S' o v a := by
  rcases h with ⟨h1, h2⟩ | h
  · exact .inl ⟨h1, fun w' h' => h2 w' (hs w' h')⟩
  · exact .inr h
/-- Whatever order is picked, S holding behind each operation but z. -/
def wpAnyW (P : Program) (md : Region.Mode) (ops : Array Oper) (Q : Exit → Act → World → Prop) (z : Nat) : Nat → (World → Prop) → Array Bool → Act → World → Prop
  | 0, S, listed, a, w => Region.ready md ops listed = [] ∧ Q .normal a w
  | fuel + 1, S, listed, a, w =>
    (Region.ready md ops listed = [] → Q .normal a w) ∧
    ∀ i ∈ Region.ready md ops listed, wpOp P ops Q i (fun a' w' => ∃ S' : World → Prop, (∀ W, S' W → S W) ∧ (i ≠ z → S' w') ∧ wpAnyW P md ops Q z fuel S' (listed.setIfInBounds i true) a' w') a w
theorem wpAny_of_W : ∀ (fuel : Nat) (S : World → Prop) (listed : Array Bool) (a : Act) (w : World), wpAnyW P md ops Q z fuel S listed a w → wpAny P md ops Q fuel listed a w
  | 0, _, _, _, _, h => h
  | fuel + 1, _, _, _, _, h => ⟨h.1, fun i hi => wpOp_mono (fun a' w' ⟨S', _, _, h'⟩ => wpAny_of_W fuel S' _ a' w' h') (h.2 i hi)⟩
theorem wpAnyW_first {i : Nat} {oi : Oper} {v : Value} (hi : ops[i]? = some oi) (hsel : ∀ (j : Nat) (o : Oper) cs b, ops[j]? = some o → o.op ≠ .select cs b)
    (hQ : ∀ c a w, Q (.panic c) (a.put oi.dst v) w → Q (.panic c) a w) (hz : coverB md ops z = true ∨ z = ops.size) :
    ∀ (fuel : Nat) (S : World → Prop) (listed : Array Bool) (a : Act) (w : World), Closed md ops listed →
      (∀ j oj, ops[j]? = some oj → j ≠ i → listed.getD j true = false → (∀ e ∈ oj.after, Region.binds md e = true → e.on ≠ i) → oi.apart ops oj = true) →
      i ∈ Region.ready md ops listed → YieldsIf P ops S oi v a → S w →
      wpAnyW P md ops Q z fuel S (listed.setIfInBounds i true) (a.put oi.dst v) w → wpAnyW P md ops Q z (fuel + 1) S listed a w := by
  intro fuel
  induction fuel with
  | zero =>
    intro S listed a w _ _ hr hy hS H
    refine ⟨fun h => (by rw [h] at hr; cases hr), fun j hj => ?_⟩
    by_cases hji : j = i
    · subst hji; exact hy.wpOp hi hS ⟨S, fun _ h => h, fun _ => hS, H⟩
    · have := ready_mono hj hji
      rw [H.1] at this
      cases this
  | succ fuel ih =>
    intro S listed a w hcl hfree hr hy hS H
    refine ⟨fun h => (by rw [h] at hr; cases hr), fun j hj => ?_⟩
    by_cases hji : j = i
    · subst hji; exact hy.wpOp hi hS ⟨S, fun _ h => h, fun _ => hS, H⟩
    · have h1 := H.2 j (ready_mono hj hji)
      obtain ⟨hjun, oj, hoj, hall⟩ := mem_ready.1 hj
      have hun := (mem_ready.1 hr).1
      have hisz : i < listed.size := by
        rcases Nat.lt_or_ge i listed.size with h' | h'
        · exact h'
        · simp [Array.getElem?_eq_none h'] at hun
      have hif : listed.getD i false = false := by
        simp [hisz] at hun ⊢
        exact hun
      have hnot : ∀ e ∈ oj.after, Region.binds md e = true → e.on ≠ i := fun e he hb heq => by
        have h1 := hall e he hb
        rw [heq, hif] at h1
        cases h1
      have hjz : j ≠ z := fun e => by
        rcases hz with hz | hz
        · have := cover_spec hz hcl (e ▸ hj) i (Array.getElem?_eq_some_iff.1 hi).1 (fun e2 => hji (e.trans e2.symm))
          rw [hif] at this
          cases this
        · have := (Array.getElem?_eq_some_iff.1 hoj).1
          omega
      have h2 := wpOp_putIf hoj (hfree j oj hoj hji hjun hnot) (fun cs b => hsel i oi cs b hi) (fun cs b => hsel j oj cs b hoj) hQ hy h1
      have hfree' : ∀ k ok, ops[k]? = some ok → k ≠ i → (listed.setIfInBounds j true).getD k true = false →
          (∀ e ∈ ok.after, Region.binds md e = true → e.on ≠ i) → oi.apart ops ok = true := fun k ok hk hki hun hno => by
        refine hfree k ok hk hki ?_ hno
        by_cases hjk : j = k
        · subst hjk; exact hjun
        · rw [getD_set_ne true hjk] at hun; exact hun
      refine wpOp_mono (fun a' w' h3 => ?_) h2
      obtain ⟨S', hs1, hs2, h4⟩ := h3.2
      refine ⟨S', hs1, fun _ => hs2 hjz, ih S' (listed.setIfInBounds j true) a' w' (closed_set hcl hj) hfree' (ready_mono hr (Ne.symm hji)) (yields_sub hs1 h3.1) (hs2 hjz) ?_⟩
      rw [Array.setIfInBounds_comm _ _ hji]
      exact h4
/-- What is to be shown along an order. -/
def wpOrdW (P : Program) (ops : Array Oper) (Q : Exit → Act → World → Prop) (z : Nat) : Ord → (World → Prop) → Act → World → Prop
  | .fin, S, a, w => Q .normal a w
  | .take i k, S, a, w => S w ∧ ∃ v o, ops[i]? = some o ∧ YieldsIf P ops S o v a ∧ wpOrdW P ops Q z k S (a.put o.dst v) w
  | .run i k, S, a, w => wpOp P ops Q i (fun a' w' => ∃ S' : World → Prop, (∀ W, S' W → S W) ∧ (i ≠ z → S' w') ∧ wpOrdW P ops Q z k S' a' w') a w
  | .run2 i k i2 k2, S, a, w => wpOp P ops Q i (fun a' w' => ∃ S' : World → Prop, (∀ W, S' W → S W) ∧ (i ≠ z → S' w') ∧ wpOrdW P ops Q z k S' a' w') a w ∧ wpOp P ops Q i2 (fun a' w' => ∃ S' : World → Prop, (∀ W, S' W → S W) ∧ (i2 ≠ z → S' w') ∧ wpOrdW P ops Q z k2 S' a' w') a w
  | .run3 i k i2 k2 i3 k3, S, a, w => wpOp P ops Q i (fun a' w' => ∃ S' : World → Prop, (∀ W, S' W → S W) ∧ (i ≠ z → S' w') ∧ wpOrdW P ops Q z k S' a' w') a w ∧ wpOp P ops Q i2 (fun a' w' => ∃ S' : World → Prop, (∀ W, S' W → S W) ∧ (i2 ≠ z → S' w') ∧ wpOrdW P ops Q z k2 S' a' w') a w ∧ wpOp P ops Q i3 (fun a' w' => ∃ S' : World → Prop, (∀ W, S' W → S W) ∧ (i3 ≠ z → S' w') ∧ wpOrdW P ops Q z k3 S' a' w') a w
theorem wpAnyW_ord (hs : Region.noSelect ops = true) (hQ : ∀ c a d v w, Q (.panic c) (a.put d v) w → Q (.panic c) a w) (hz : coverB md ops z = true ∨ z = ops.size) :
    ∀ (ord : Ord) (fuel : Nat) (S : World → Prop) (l : Array Bool) (a : Act) (w : World), Closed md ops l → ord.chk md ops fuel l = true → wpOrdW P ops Q z ord S a w → wpAnyW P md ops Q z fuel S l a w := by
  intro ord
  induction ord with
  | fin =>
    intro fuel S l a w _ hc h
    have hr : Region.ready md ops l = [] := by
      unfold Ord.chk at hc
      simpa using hc
    cases fuel with
    | zero => exact ⟨hr, h⟩
    | succ f => exact ⟨fun _ => h, by rw [hr]; simp⟩
  | take i k ih =>
    intro fuel S l a w hcl hc h
    cases fuel with
    | zero => simp [Ord.chk] at hc
    | succ f =>
      simp only [Ord.chk, Bool.and_eq_true] at hc
      obtain ⟨hS, v, o, ho, hy, h⟩ := h
      have hr : i ∈ Region.ready md ops l := by simpa using hc.1.1
      exact wpAnyW_first ho (Region.noSelect_spec hs) (fun c a w => hQ c a o.dst v w) hz f S l a w hcl (Region.free_spec ho hc.1.2) hr hy hS (ih f S _ _ w (closed_set hcl hr) hc.2 h)
  | run i k ih =>
    intro fuel S l a w hcl hc h
    cases fuel with
    | zero => simp [Ord.chk] at hc
    | succ f =>
      simp only [Ord.chk, Bool.and_eq_true] at hc
      have hr : i ∈ Region.ready md ops l := by simpa using hc.1.2
      refine ⟨fun h0 => (by rw [h0] at hr; cases hr), fun j hj => ?_⟩
      have hji : j = i := by simpa using List.all_eq_true.1 hc.1.1 j hj
      subst hji
      exact wpOp_mono (fun a' w' ⟨S', h1, h2, h'⟩ => ⟨S', h1, h2, ih f S' _ a' w' (closed_set hcl hr) hc.2 h'⟩) h
  | run2 i k i2 k2 ih ih2 =>
    intro fuel S l a w hcl hc h
    cases fuel with
    | zero => simp [Ord.chk] at hc
    | succ f =>
      simp only [Ord.chk, Bool.and_eq_true] at hc
      have hr : i ∈ Region.ready md ops l := by simpa using hc.1.1.1.2
      have hr2 : i2 ∈ Region.ready md ops l := by simpa using hc.1.1.2
      refine ⟨fun h0 => (by rw [h0] at hr; cases hr), fun j hj => ?_⟩
      have hji : j = i ∨ j = i2 := by simpa using List.all_eq_true.1 hc.1.1.1.1 j hj
      rcases hji with rfl | rfl
      · exact wpOp_mono (fun a' w' ⟨S', h1, h2, h'⟩ => ⟨S', h1, h2, ih f S' _ a' w' (closed_set hcl hr) hc.1.2 h'⟩) h.1
      · exact wpOp_mono (fun a' w' ⟨S', h1, h2, h'⟩ => ⟨S', h1, h2, ih2 f S' _ a' w' (closed_set hcl hr2) hc.2 h'⟩) h.2
  | run3 i k i2 k2 i3 k3 ih ih2 ih3 =>
    intro fuel S l a w hcl hc h
    cases fuel with
    | zero => simp [Ord.chk] at hc
    | succ f =>
      simp only [Ord.chk, Bool.and_eq_true] at hc
      have hr : i ∈ Region.ready md ops l := by simpa using hc.1.1.1.1.1.2
      have hr2 : i2 ∈ Region.ready md ops l := by simpa using hc.1.1.1.1.2
      have hr3 : i3 ∈ Region.ready md ops l := by simpa using hc.1.1.1.2
      refine ⟨fun h0 => (by rw [h0] at hr; cases hr), fun j hj => ?_⟩
      have hji : j = i ∨ j = i2 ∨ j = i3 := by simpa [or_assoc] using List.all_eq_true.1 hc.1.1.1.1.1.1 j hj
      rcases hji with rfl | rfl | rfl
      · exact wpOp_mono (fun a' w' ⟨S', h1, h2, h'⟩ => ⟨S', h1, h2, ih f S' _ a' w' (closed_set hcl hr) hc.1.1.2 h'⟩) h.1
      · exact wpOp_mono (fun a' w' ⟨S', h1, h2, h'⟩ => ⟨S', h1, h2, ih2 f S' _ a' w' (closed_set hcl hr2) hc.1.2 h'⟩) h.2.1
      · exact wpOp_mono (fun a' w' ⟨S', h1, h2, h'⟩ => ⟨S', h1, h2, ih3 f S' _ a' w' (closed_set hcl hr3) hc.2 h'⟩) h.2.2
/-- The region by an order. z: its last number, if all others come ahead of it; else how many there are. -/
theorem region_ordw {id : Nat} {a : Act} {w : World} {l : List Oper} (S : World → Prop) (z : Nat) (ord : Ord) (hm : P.follows .mixedOrders = true)
    (hc : (Region.noSelect l.toArray && (coverB .any l.toArray z || z == l.length) && ord.chk .any l.toArray l.length (Array.replicate l.length false)) = true)
    (hQ : ∀ c a d v w, Q (.panic c) (a.put d v) w → Q (.panic c) a w)
    (h : ∀ w1, Below w.heap.size w w1 → Shut 0 (wpOrdW P l.toArray Q z ord S a w1)) : (Code.region id l.toArray true).wp P Q a w := by
  simp only [Bool.and_eq_true, Bool.or_eq_true, beq_iff_eq] at hc
  refine wp_region_any hm (wpAny_of_W _ S _ _ _ (wpAnyW_ord hc.1.1 hQ ?_ ord _ S _ a _ (closed_none _) (by simpa using hc.2) (h _ (bdraw w)).out))
  rcases hc.1.2 with h | h
  · exact .inl h
  · exact .inr (by simpa using h)
section
variable {S : World → Prop} {l : List Oper} {a : Act} {w : World} {i : Nat} {k : Ord} {o : Oper}
theorem ogw_take (ho : l[i]? = some o) (hw : Region.wanted o (yielded l.toArray a.tmps) = true) (hS : S w) (h : ∃ v, (∀ w', S w' → (execOp a.eval o).run P w' = .ok (.value v) w') ∧ ∃ a', a.put o.dst v = a' ∧ Shut 0 (wpOrdW P l.toArray Q z k S a' w)) :
    Shut 0 (wpOrdW P l.toArray Q z (.take i k) S a w) := by
  obtain ⟨v, h1, _, rfl, h2⟩ := h
  exact ⟨hS, v, o, by simpa using ho, .inl ⟨hw, h1⟩, h2.out⟩
theorem ogw_skip (ho : l[i]? = some o) (hw : Region.wanted o (yielded l.toArray a.tmps) = false) (hS : S w) (a' : Act) (ha : a.put o.dst undef = a') (h : Shut 0 (wpOrdW P l.toArray Q z k S a' w)) :
    Shut 0 (wpOrdW P l.toArray Q z (.take i k) S a w) := by
  subst ha
  exact ⟨hS, undef, o, by simpa using ho, .inr ⟨hw, rfl⟩, h.out⟩
theorem ogw_run (ho : l[i]? = some o) (hw : Region.wanted o (yielded l.toArray a.tmps) = true) (h : o.wp P a w (fun a' w' => ∃ S' : World → Prop, (∀ W, S' W → S W) ∧ (i ≠ z → S' w') ∧ Shut 0 (wpOrdW P l.toArray Q z k S' a' w')) Q) :
    Shut 0 (wpOrdW P l.toArray Q z (.run i k) S a w) := by
  refine ⟨?_⟩
  unfold wpOrdW wpOp
  rw [show l.toArray[i]? = some o by simpa using ho]
  simp only [hw, if_true]
  exact .inl (Oper.wp_mono (fun a' w' ⟨S', h1, h2, h3⟩ => ⟨S', h1, h2, h3.out⟩) h)
theorem ogw_run2 {i2 : Nat} {k2 : Ord} (h : Shut 0 (wpOrdW P l.toArray Q z (.run i k) S a w)) (h2 : Shut 0 (wpOrdW P l.toArray Q z (.run i2 k2) S a w)) : Shut 0 (wpOrdW P l.toArray Q z (.run2 i k i2 k2) S a w) := ⟨h.out, h2.out⟩
theorem ogw_run3 {i2 i3 : Nat} {k2 k3 : Ord} (h : Shut 0 (wpOrdW P l.toArray Q z (.run i k) S a w)) (h2 : Shut 0 (wpOrdW P l.toArray Q z (.run i2 k2) S a w)) (h3 : Shut 0 (wpOrdW P l.toArray Q z (.run i3 k3) S a w)) : Shut 0 (wpOrdW P l.toArray Q z (.run3 i k i2 k2 i3 k3) S a w) := ⟨h.out, h2.out, h3.out⟩
theorem ogw_fin (h : Q .normal a w) : Shut 0 (wpOrdW P l.toArray Q z .fin S a w) := ⟨h⟩
theorem ogw_ld (ho : l[i]? = some o) (hw : Region.wanted o (yielded l.toArray a.tmps) = true) (hS : S w) (ty : TypeId) (x : Operand) (hop : o.op = .load ty x) (p : Value) (hx : a.eval x = p) (v : Value) (hl : ∀ w', S w' → (Instr.loadAt ty p).run P w' = .ok v w')
    (a' : Act) (ha : a.put o.dst v = a') (h : Shut 0 (wpOrdW P l.toArray Q z k S a' w)) : Shut 0 (wpOrdW P l.toArray Q z (.take i k) S a w) := by
  subst ha
  refine ⟨hS, v, o, by simpa using ho, .inl ⟨hw, fun w' h' => ?_⟩, h.out⟩
  simp only [execOp, hop, hx, Sem.run_bind, hl w' h', Result.andThen_ok, Sem.run_pure]
end
section
variable {w0 : World} {B : Nat} {R : List Pc} {o : Oper} {a : Act} {w : World} {K : Act → World → Prop}
end
end
end Cop
