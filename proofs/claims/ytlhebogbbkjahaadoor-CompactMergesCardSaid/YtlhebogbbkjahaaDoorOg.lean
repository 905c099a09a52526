/- A region that draws its order, told as one order (a tree where more than one writer may come up): what reads or reckons is taken first, under a condition S on the world that each writer but the last one keeps. -/
import Derived.Test.YtlhebogbbkjahaaDoorSq
import Derived.OrdersHeld
import Derived.Deep.MidRow
set_option linter.unusedVariables false
namespace Cop
open Go Go.RowKit
section
variable {P : Program} {ops : Array Oper} {Q : Exit → Act → World → Prop} {md : Region.Mode} {S : World → Prop} {z : Nat}
def Closed (md : Region.Mode) (ops : Array Oper) (listed : Array Bool) : Prop := ∀ j oj, ops[j]? = some oj → listed.getD j false = true → ∀ e ∈ oj.after, Region.binds md e = true → listed.getD e.on false = true
theorem closed_none (n : Nat) : Closed md ops (Array.replicate n false) := fun j oj _ h => by
  rw [Array.getD_eq_getD_getElem?, Array.getElem?_replicate] at h
  split at h <;> simp at h
theorem closed_set {listed : Array Bool} {i : Nat} (hc : Closed md ops listed) (hi : i ∈ Region.ready md ops listed) : Closed md ops (listed.setIfInBounds i true) := fun j oj hj h e he hb => by
  by_cases hij : i = j
  · subst hij
    obtain ⟨_, o, ho, hall⟩ := mem_ready.1 hi
    rw [hj] at ho
    injection ho with ho
    subst ho
    exact getD_set_true (hall e he hb)
  · rw [getD_set_ne false hij] at h
    exact getD_set_true (hc j oj hj h e he hb)
/-- All others come ahead of number z. -/
def coverB (md : Region.Mode) (ops : Array Oper) (z : Nat) : Bool :=
  (z + 1 == ops.size) && (List.range z).all fun i => (List.range' (i + 1) (z - i)).any fun k => match ops[k]? with
    | some o => o.after.any fun e => Region.binds md e && e.on == i
    | none => false
theorem cover_spec (h : coverB md ops z = true) {listed : Array Bool} (hc : Closed md ops listed) (hz : z ∈ Region.ready md ops listed) : ∀ i, i < ops.size → i ≠ z → listed.getD i false = true := by
  simp only [coverB, Bool.and_eq_true, beq_iff_eq] at h
  obtain ⟨h0, h1⟩ := h
  have key : ∀ m i, z - i ≤ m → i < z → listed.getD i false = true := by
    intro m
    induction m with
    | zero => intro i hi hlt; omega
    | succ m ih =>
      intro i hi hlt
      obtain ⟨k, hk, hk2⟩ := List.any_eq_true.1 (List.all_eq_true.1 h1 i (List.mem_range.2 hlt))
      have hkr := List.mem_range'.1 hk
      obtain ⟨t, ht, rfl⟩ := hkr
      cases ho : ops[i + 1 + 1 * t]? with
      | none => rw [ho] at hk2; simp at hk2
      | some o =>
        rw [ho] at hk2
        obtain ⟨e, he, hb⟩ := Array.any_eq_true'.1 hk2
        simp only [Bool.and_eq_true, beq_iff_eq] at hb
        rw [← hb.2]
        by_cases hkz : i + 1 + 1 * t = z
        · obtain ⟨_, o', ho', hall⟩ := mem_ready.1 hz
          rw [← hkz, ho] at ho'
          injection ho' with ho'
          subst ho'
          exact hall e he hb.1
        · exact hc _ o ho (ih (i + 1 + 1 * t) (by omega) (by omega)) e he hb.1
  intro i hi hne
  exact key (z - i) i (Nat.le_refl _) (by omega)
/-- Whatever order is picked, S holding behind each operation but z. -/
def wpAnyG (P : Program) (md : Region.Mode) (ops : Array Oper) (Q : Exit → Act → World → Prop) (S : World → Prop) (z : Nat) : Nat → Array Bool → Act → World → Prop
  | 0, listed, a, w => Region.ready md ops listed = [] ∧ Q .normal a w
  | fuel + 1, listed, a, w =>
    (Region.ready md ops listed = [] → Q .normal a w) ∧
    ∀ i ∈ Region.ready md ops listed, wpOp P ops Q i (fun a' w' => (i ≠ z → S w') ∧ wpAnyG P md ops Q S z fuel (listed.setIfInBounds i true) a' w') a w
theorem wpAny_of_G : ∀ (fuel : Nat) (listed : Array Bool) (a : Act) (w : World), wpAnyG P md ops Q S z fuel listed a w → wpAny P md ops Q fuel listed a w
  | 0, _, _, _, h => h
  | fuel + 1, _, _, _, h => ⟨h.1, fun i hi => wpOp_mono (fun a' w' h' => wpAny_of_G fuel _ a' w' h'.2) (h.2 i hi)⟩
theorem wpAnyG_first {i : Nat} {oi : Oper} {v : Value} (hi : ops[i]? = some oi) (hsel : ∀ (j : Nat) (o : Oper) cs b, ops[j]? = some o → o.op ≠ .select cs b)
    (hQ : ∀ c a w, Q (.panic c) (a.put oi.dst v) w → Q (.panic c) a w) (hz : coverB md ops z = true ∨ z = ops.size) :
    ∀ (fuel : Nat) (listed : Array Bool) (a : Act) (w : World), Closed md ops listed →
      (∀ j oj, ops[j]? = some oj → j ≠ i → listed.getD j true = false → (∀ e ∈ oj.after, Region.binds md e = true → e.on ≠ i) → oi.apart ops oj = true) →
      i ∈ Region.ready md ops listed → YieldsIf P ops S oi v a → S w →
      wpAnyG P md ops Q S z fuel (listed.setIfInBounds i true) (a.put oi.dst v) w → wpAnyG P md ops Q S z (fuel + 1) listed a w := by
  intro fuel
  induction fuel with
  | zero =>
    intro listed a w _ _ hr hy hS H
    refine ⟨fun h => (by rw [h] at hr; cases hr), fun j hj => ?_⟩
    by_cases hji : j = i
    · subst hji; exact hy.wpOp hi hS ⟨fun _ => hS, H⟩
    · have := ready_mono hj hji
      rw [H.1] at this
      cases this
  | succ fuel ih =>
    intro listed a w hcl hfree hr hy hS H
    refine ⟨fun h => (by rw [h] at hr; cases hr), fun j hj => ?_⟩
    by_cases hji : j = i
    · subst hji; exact hy.wpOp hi hS ⟨fun _ => hS, H⟩
    · have h1 := H.2 j (ready_mono hj hji)
      obtain ⟨hjun, oj, hoj, hall⟩ := mem_ready.1 hj
      have hun := (mem_ready.1 hr).1
      have hisz : i < listed.size := by
        rcases Nat.lt_or_ge i listed.size with h' | h'
        · exact h'
        · simp [Array.getElem?_eq_none h'] at hun
      have hif : listed.getD i false = false := by
        simp [hisz] at hun ⊢
        exact hun
      have hnot : ∀ e ∈ oj.after, Region.binds md e = true → e.on ≠ i := fun e he hb heq => by
        have h1 := hall e he hb
        rw [heq, hif] at h1
        cases h1
      have hjz : j ≠ z := fun e => by
        rcases hz with hz | hz
        · have := cover_spec hz hcl (e ▸ hj) i (Array.getElem?_eq_some_iff.1 hi).1 (fun e2 => hji (e.trans e2.symm))
          rw [hif] at this
          cases this
        · have := (Array.getElem?_eq_some_iff.1 hoj).1
          omega
      have h2 := wpOp_putIf hoj (hfree j oj hoj hji hjun hnot) (fun cs b => hsel i oi cs b hi) (fun cs b => hsel j oj cs b hoj) hQ hy h1
      have hfree' : ∀ k ok, ops[k]? = some ok → k ≠ i → (listed.setIfInBounds j true).getD k true = false →
          (∀ e ∈ ok.after, Region.binds md e = true → e.on ≠ i) → oi.apart ops ok = true := fun k ok hk hki hun hno => by
        refine hfree k ok hk hki ?_ hno
        by_cases hjk : j = k
        · subst hjk; exact hjun
        · rw [getD_set_ne true hjk] at hun; exact hun
      refine wpOp_mono (fun a' w' h3 => ⟨fun _ => h3.2.1 hjz, ih (listed.setIfInBounds j true) a' w' (closed_set hcl hj) hfree' (ready_mono hr (Ne.symm hji)) h3.1 (h3.2.1 hjz) ?_⟩) h2
      rw [Array.setIfInBounds_comm _ _ hji]
      exact h3.2.2
/-- An order: numbers that are taken first, writers that come up (one, or whichever of two, of three). -/
inductive Ord where
  | fin
  | take (i : Nat) (k : Ord)
  | run (i : Nat) (k : Ord)
  | run2 (i : Nat) (k : Ord) (i2 : Nat) (k2 : Ord)
  | run3 (i : Nat) (k : Ord) (i2 : Nat) (k2 : Ord) (i3 : Nat) (k3 : Ord)
def Ord.chk (md : Region.Mode) (ops : Array Oper) : Ord → Nat → Array Bool → Bool
  | .fin, _, l => (Region.ready md ops l).isEmpty
  | .take i k, f + 1, l => (Region.ready md ops l).contains i && Region.free md ops l i && k.chk md ops f (l.setIfInBounds i true)
  | .run i k, f + 1, l => ((Region.ready md ops l).all fun j => j == i) && (Region.ready md ops l).contains i && k.chk md ops f (l.setIfInBounds i true)
  | .run2 i k i2 k2, f + 1, l => ((Region.ready md ops l).all fun j => j == i || j == i2) && (Region.ready md ops l).contains i && (Region.ready md ops l).contains i2 && k.chk md ops f (l.setIfInBounds i true) && k2.chk md ops f (l.setIfInBounds i2 true)
  | .run3 i k i2 k2 i3 k3, f + 1, l => ((Region.ready md ops l).all fun j => j == i || j == i2 || j == i3) && (Region.ready md ops l).contains i && (Region.ready md ops l).contains i2 && (Region.ready md ops l).contains i3 && k.chk md ops f (l.setIfInBounds i true) && k2.chk md ops f (l.setIfInBounds i2 true) && k3.chk md ops f (l.setIfInBounds i3 true)
  | _, 0, _ => false
/-- What is to be shown along an order. -/
def wpOrd (P : Program) (ops : Array Oper) (Q : Exit → Act → World → Prop) (S : World → Prop) (z : Nat) : Ord → Act → World → Prop
  | .fin, a, w => Q .normal a w
  | .take i k, a, w => S w ∧ ∃ v o, ops[i]? = some o ∧ YieldsIf P ops S o v a ∧ wpOrd P ops Q S z k (a.put o.dst v) w
  | .run i k, a, w => wpOp P ops Q i (fun a' w' => (i ≠ z → S w') ∧ wpOrd P ops Q S z k a' w') a w
  | .run2 i k i2 k2, a, w => wpOp P ops Q i (fun a' w' => (i ≠ z → S w') ∧ wpOrd P ops Q S z k a' w') a w ∧ wpOp P ops Q i2 (fun a' w' => (i2 ≠ z → S w') ∧ wpOrd P ops Q S z k2 a' w') a w
  | .run3 i k i2 k2 i3 k3, a, w => wpOp P ops Q i (fun a' w' => (i ≠ z → S w') ∧ wpOrd P ops Q S z k a' w') a w ∧ wpOp P ops Q i2 (fun a' w' => (i2 ≠ z → S w') ∧ wpOrd P ops Q S z k2 a' w') a w ∧ wpOp P ops Q i3 (fun a' w' => (i3 ≠ z → S w') ∧ wpOrd P ops Q S z k3 a' w') a w
theorem wpAnyG_ord (hs : Region.noSelect ops = true) (hQ : ∀ c a d v w, Q (.panic c) (a.put d v) w → Q (.panic c) a w) (hz : coverB md ops z = true ∨ z = ops.size) :
    ∀ (ord : Ord) (fuel : Nat) (l : Array Bool) (a : Act) (w : World), Closed md ops l → ord.chk md ops fuel l = true → wpOrd P ops Q S z ord a w → wpAnyG P md ops Q S z fuel l a w := by
  intro ord
  induction ord with
  | fin =>
    intro fuel l a w _ hc h
    have hr : Region.ready md ops l = [] := by
      unfold Ord.chk at hc
      simpa using hc
    cases fuel with
    | zero => exact ⟨hr, h⟩
    | succ f => exact ⟨fun _ => h, by rw [hr]; simp⟩
  | take i k ih =>
    intro fuel l a w hcl hc h
    cases fuel with
    | zero => simp [Ord.chk] at hc
    | succ f =>
      simp only [Ord.chk, Bool.and_eq_true] at hc
      obtain ⟨hS, v, o, ho, hy, h⟩ := h
      have hr : i ∈ Region.ready md ops l := by simpa using hc.1.1
      exact wpAnyG_first ho (Region.noSelect_spec hs) (fun c a w => hQ c a o.dst v w) hz f l a w hcl (Region.free_spec ho hc.1.2) hr hy hS (ih f _ _ w (closed_set hcl hr) hc.2 h)
  | run i k ih =>
    intro fuel l a w hcl hc h
    cases fuel with
    | zero => simp [Ord.chk] at hc
    | succ f =>
      simp only [Ord.chk, Bool.and_eq_true] at hc
      have hr : i ∈ Region.ready md ops l := by simpa using hc.1.2
      refine ⟨fun h0 => (by rw [h0] at hr; cases hr), fun j hj => ?_⟩
      have hji : j = i := by simpa using List.all_eq_true.1 hc.1.1 j hj
      subst hji
      exact wpOp_mono (fun a' w' h' => ⟨h'.1, ih f _ a' w' (closed_set hcl hr) hc.2 h'.2⟩) h
  | run2 i k i2 k2 ih ih2 =>
    intro fuel l a w hcl hc h
    cases fuel with
    | zero => simp [Ord.chk] at hc
    | succ f =>
      simp only [Ord.chk, Bool.and_eq_true] at hc
      have hr : i ∈ Region.ready md ops l := by simpa using hc.1.1.1.2
      have hr2 : i2 ∈ Region.ready md ops l := by simpa using hc.1.1.2
      refine ⟨fun h0 => (by rw [h0] at hr; cases hr), fun j hj => ?_⟩
      have hji : j = i ∨ j = i2 := by simpa using List.all_eq_true.1 hc.1.1.1.1 j hj
      rcases hji with rfl | rfl
      · exact wpOp_mono (fun a' w' h' => ⟨h'.1, ih f _ a' w' (closed_set hcl hr) hc.1.2 h'.2⟩) h.1
      · exact wpOp_mono (fun a' w' h' => ⟨h'.1, ih2 f _ a' w' (closed_set hcl hr2) hc.2 h'.2⟩) h.2
  | run3 i k i2 k2 i3 k3 ih ih2 ih3 =>
    intro fuel l a w hcl hc h
    cases fuel with
    | zero => simp [Ord.chk] at hc
    | succ f =>
      simp only [Ord.chk, Bool.and_eq_true] at hc
      have hr : i ∈ Region.ready md ops l := by simpa using hc.1.1.1.1.1.2
      have hr2 : i2 ∈ Region.ready md ops l := by simpa using hc.1.1.1.1.2
      have hr3 : i3 ∈ Region.ready md ops l := by simpa using hc.1.1.1.2
      refine ⟨fun h0 => (by rw [h0] at hr; cases hr), fun j hj => ?_⟩
      have hji : j = i ∨ j = i2 ∨ j = i3 := by simpa [or_assoc] using List.all_eq_true.1 hc.1.1.1.1.1.1 j hj
      rcases hji with rfl | rfl | rfl
      · exact wpOp_mono (fun a' w' h' => ⟨h'.1, ih f _ a' w' (closed_set hcl hr) hc.1.1.2 h'.2⟩) h.1
      · exact wpOp_mono (fun a' w' h' => ⟨h'.1, ih2 f _ a' w' (closed_set hcl hr2) hc.1.2 h'.2⟩) h.2.1
      · exact wpOp_mono (fun a' w' h' => ⟨h'.1, ih3 f _ a' w' (closed_set hcl hr3) hc.2 h'.2⟩) h.2.2
/-- The region by an order. z: its last number, if all others come ahead of it; else how many there are. -/
theorem region_ord {id : Nat} {a : Act} {w : World} {l : List Oper} (S : World → Prop) (z : Nat) (ord : Ord) (hm : P.follows .mixedOrders = true)
    (hc : (Region.noSelect l.toArray && (coverB .any l.toArray z || z == l.length) && ord.chk .any l.toArray l.length (Array.replicate l.length false)) = true)
    (hQ : ∀ c a d v w, Q (.panic c) (a.put d v) w → Q (.panic c) a w)
    (h : ∀ w1, Below w.heap.size w w1 → Shut 0 (wpOrd P l.toArray Q S z ord a w1)) : (Code.region id l.toArray true).wp P Q a w := by
  simp only [Bool.and_eq_true, Bool.or_eq_true, beq_iff_eq] at hc
  refine wp_region_any hm (wpAny_of_G _ _ _ _ (wpAnyG_ord hc.1.1 hQ ?_ ord _ _ a _ (closed_none _) (by simpa using hc.2) (h _ (bdraw w)).out))
  rcases hc.1.2 with h | h
  · exact .inl h
  · exact .inr (by simpa using h)
section
variable {l : List Oper} {a : Act} {w : World} {i : Nat} {k : Ord} {o : Oper}
theorem og_take (ho : l[i]? = some o) (hw : Region.wanted o (yielded l.toArray a.tmps) = true) (hS : S w) (h : ∃ v, (∀ w', S w' → (execOp a.eval o).run P w' = .ok (.value v) w') ∧ ∃ a', a.put o.dst v = a' ∧ Shut 0 (wpOrd P l.toArray Q S z k a' w)) :
    Shut 0 (wpOrd P l.toArray Q S z (.take i k) a w) := by
  obtain ⟨v, h1, _, rfl, h2⟩ := h
  exact ⟨hS, v, o, by simpa using ho, .inl ⟨hw, h1⟩, h2.out⟩
theorem og_skip (ho : l[i]? = some o) (hw : Region.wanted o (yielded l.toArray a.tmps) = false) (hS : S w) (a' : Act) (ha : a.put o.dst undef = a') (h : Shut 0 (wpOrd P l.toArray Q S z k a' w)) :
    Shut 0 (wpOrd P l.toArray Q S z (.take i k) a w) := by
  subst ha
  exact ⟨hS, undef, o, by simpa using ho, .inr ⟨hw, rfl⟩, h.out⟩
theorem og_run (ho : l[i]? = some o) (hw : Region.wanted o (yielded l.toArray a.tmps) = true) (h : o.wp P a w (fun a' w' => (i ≠ z → S w') ∧ Shut 0 (wpOrd P l.toArray Q S z k a' w')) Q) :
    Shut 0 (wpOrd P l.toArray Q S z (.run i k) a w) := by
  refine ⟨?_⟩
  unfold wpOrd wpOp
  rw [show l.toArray[i]? = some o by simpa using ho]
  simp only [hw, if_true]
  exact .inl (Oper.wp_mono (fun a' w' h => ⟨h.1, h.2.out⟩) h)
theorem og_run2 {i2 : Nat} {k2 : Ord} (h : Shut 0 (wpOrd P l.toArray Q S z (.run i k) a w)) (h2 : Shut 0 (wpOrd P l.toArray Q S z (.run i2 k2) a w)) : Shut 0 (wpOrd P l.toArray Q S z (.run2 i k i2 k2) a w) := ⟨h.out, h2.out⟩
theorem og_run3 {i2 i3 : Nat} {k2 k3 : Ord} (h : Shut 0 (wpOrd P l.toArray Q S z (.run i k) a w)) (h2 : Shut 0 (wpOrd P l.toArray Q S z (.run i2 k2) a w)) (h3 : Shut 0 (wpOrd P l.toArray Q S z (.run i3 k3) a w)) : Shut 0 (wpOrd P l.toArray Q S z (.run3 i k i2 k2 i3 k3) a w) := ⟨h.out, h2.out, h3.out⟩
theorem og_fin (h : Q .normal a w) : Shut 0 (wpOrd P l.toArray Q S z .fin a w) := ⟨h⟩
theorem og_ld (ho : l[i]? = some o) (hw : Region.wanted o (yielded l.toArray a.tmps) = true) (hS : S w) (ty : TypeId) (x : Operand) (hop : o.op = .load ty x) (p : Value) (hx : a.eval x = p) (v : Value) (hl : ∀ w', S w' → (Instr.loadAt ty p).run P w' = .ok v w')
    (a' : Act) (ha : a.put o.dst v = a') (h : Shut 0 (wpOrd P l.toArray Q S z k a' w)) : Shut 0 (wpOrd P l.toArray Q S z (.take i k) a w) := by
  subst ha
  refine ⟨hS, v, o, by simpa using ho, .inl ⟨hw, fun w' h' => ?_⟩, h.out⟩
  simp only [execOp, hop, hx, Sem.run_bind, hl w' h', Result.andThen_ok, Sem.run_pure]
end
section
variable {w0 : World} {B : Nat} {R : List Pc} {o : Oper} {a : Act} {w : World} {K : Act → World → Prop}
theorem load_row {g : Nat} {cs : Array Value} {t : TypeId} (h : w.heap[g]? = some (.cells cs t (0, 0))) (ty : TypeId) {d : TypeDesc} (hu : P.underlying ty = some d) (hd : (match d with | .struct _ | .array _ _ => true | _ => false) = true) (hi : (P.info? ty).map (·.size) = some cs.size) :
    (Instr.loadAt ty (.pointer (some ⟨g, 0, none⟩))).run P w = .ok (.agg cs) w := by
  simp only [Instr.loadAt, Instr.sureAddr, Sem.run_bind, Sem.run_pure, Result.andThen_ok, run_loadVar_row w g t ty cs (0, 0) d h hu (by revert hd; cases d <;> simp) hi]
/-- n cells of a row from off on. -/
theorem load_mid {g : Nat} {cs : Array Value} {t : TypeId} (h : w.heap[g]? = some (.cells cs t (0, 0))) (off : Nat) (sub : Array Value) (hsub : ∀ j, j < sub.size → cs[off + j]? = sub[j]?) (ty : TypeId) {d : TypeDesc} (hu : P.underlying ty = some d) (hd : d.isRow = true) (hi : (P.info? ty).map (·.size) = some sub.size) :
    (Instr.loadAt ty (.pointer (some ⟨g, off, none⟩))).run P w = .ok (.agg sub) w := by
  have := run_loadAt_mid (P := P) w g off ty sub.toList d (fun j v hv => by
    rw [cell_of_row _ _ _ _ _ _ h, hsub j (by have := (List.getElem?_eq_some_iff.1 hv).1; simpa using this)]
    simpa using hv) hu hd (by simpa using hi)
  simpa using this
/-- The first cells of what is read. -/
theorem load_rd {v : Value} {n : Nat} {cs : List Value} {b off : Nat} {c : Nat} (h : Rd w v n 1 cs) (hv : v = .slice (some ⟨b, off, none⟩) n c) (m : Nat) (hm : m ≤ n) (h0 : 0 < n) (sub : Array Value) (hsub : sub.toList = cs.take m) (ty : TypeId) {d : TypeDesc} (hu : P.underlying ty = some d) (hd : d.isRow = true) (hi : (P.info? ty).map (·.size) = some sub.size) :
    (Instr.loadAt ty (.pointer (some ⟨b, off, none⟩))).run P w = .ok (.agg sub) w := by
  obtain ⟨hl, A, c', he, _, _, _, hcell⟩ := h
  obtain ⟨b', o', he2, hc⟩ := hcell h0
  rw [hv] at he
  simp only [Value.slice.injEq] at he
  obtain ⟨e1, _, _⟩ := he
  rw [← e1] at he2
  simp only [Option.some.injEq, Addr.mk.injEq, and_true] at he2
  obtain ⟨rfl, rfl⟩ := he2
  have := run_loadAt_mid (P := P) w b off ty sub.toList d (fun j v hv => hc j v (by
    rw [hsub, List.getElem?_take] at hv
    split at hv
    · exact hv
    · cases hv)) hu hd (by simpa using hi)
  simpa using this
/-- A new variable of a row's type. -/
theorem wl_al {ops : Array Oper} {rest : List Oper} {Q : Exit → Act → World → Prop} (HS : Sep B w0 w R) (hgd : o.guard = none) (ty : TypeId) (hop : o.op = .alloc ty) (cs : Array Value) (hz : (P.info? ty).map (·.zero) = some (some (.agg cs)))
    (h : ∀ g w1, Sep B w0 w1 (.row g cs ty :: R) → wpList P ops Q rest (a.put o.dst (.pointer (some ⟨g, 0, none⟩))) w1) : wpList P ops Q (o :: rest) a w := by
  refine wpList_plain hgd fun K hK => ?_
  obtain ⟨i, hi, hz⟩ := Option.map_eq_some_iff.1 hz
  have hzz : (zeroValue ty).run P w = .ok (.agg cs) w := by simp [zeroValue, typeInfo, hi, hz]
  refine ow_val (.pointer (some ⟨w.heap.size, 0, none⟩)) (w.alloc (.cells cs ty)) ?_ (hK _ _ (h _ _ (HS.alloc cs ty)))
  simp only [execOp, hop]
  simp [Instr.alloc, Sem.run_bind, hzz, Result.andThen, newVar, newRow, Value.cells]
/-- A load whose run is known. -/
theorem wl_ldx {ops : Array Oper} {rest : List Oper} {Q : Exit → Act → World → Prop} (hgd : o.guard = none) (ty : TypeId) (x : Operand) (hop : o.op = .load ty x) (p : Value) (hx : a.eval x = p) (v : Value) (hl : (Instr.loadAt ty p).run P w = .ok v w) (h : wpList P ops Q rest (a.put o.dst v) w) : wpList P ops Q (o :: rest) a w := by
  refine wl_val hgd v ?_ h
  simp only [execOp, hop, hx, Sem.run_bind, hl, Result.andThen_ok, Sem.run_pure]
/-- An array's slice whose run is known. -/
theorem wl_slx {ops : Array Oper} {rest : List Oper} {Q : Exit → Act → World → Prop} (hgd : o.guard = none) (ty : TypeId) (x : Operand) (hop : o.op = .slice ty x none none none) (p : Value) (hx : a.eval x = p) (v : Value) (hl : (Instr.sliceAt ty p none none none).run P w = .ok v w) (h : wpList P ops Q rest (a.put o.dst v) w) : wpList P ops Q (o :: rest) a w := by
  refine wl_val hgd v ?_ h
  simp only [execOp, hop, hx, Option.map_none, Sem.run_bind, hl, Result.andThen_ok, Sem.run_pure]
/-- One cell of a row is stored. -/
theorem ow_stc (HS : Sep B w0 w R) (i : Nat) {g : Nat} {old : Array Value} {t : TypeId} (hi : R[i]? = some (.row g old t)) (ty : TypeId) (ad x : Operand) (hop : o.op = .store ty ad x) (hs1 : (P.info? ty).map (·.size) = some 1) (off : Nat) (hoff : off < old.size) {y : Value} (had : a.eval ad = .pointer (some ⟨g, off, none⟩)) (hx : a.eval x = y)
    (h1 : y.oneCell' = true) (hyc : y.cells = #[y]) (h : ∀ w1, Sep B w0 w1 (R.set i (.row g (old.setIfInBounds off y) t)) → K (a.put o.dst undef) w1) : o.wp P a w K Q := by
  have hg := HS.row i hi
  have hcellj : w.cell? ⟨g, off, none⟩ = some old[off] := by rw [cell_of_row _ _ _ _ _ _ hg]; simp [hoff]
  have hfr : w.frozen? ⟨g, off, none⟩ = false := frozen_of_row _ _ _ _ _ hg
  have hrun : (storeVar ty ⟨g, off, none⟩ y).run P w = .ok () (w.setCell ⟨g, off, none⟩ y) := by
    unfold storeVar
    rw [Sem.run_bind, run_sizeOf_gen (P := P) w hs1]
    simp only [Result.andThen, hyc]
    cases y <;> simp [storeCells, store, Sem.run, add_plain, hcellj, hfr, Value.oneCell'] at h1 ⊢ <;> simp [Sem.run_bind', Sem.run, hcellj, hfr]
  unfold Oper.wp
  simp only [execOp, hop, had, hx, Instr.storeAt, Instr.sureAddr, Sem.run_bind, Sem.run_pure, Result.andThen_ok, hrun]
  exact h _ (HS.setCell i hi off y)
theorem wl_stc {ops : Array Oper} {rest : List Oper} {Q : Exit → Act → World → Prop} (HS : Sep B w0 w R) (i : Nat) {g : Nat} {old : Array Value} {t : TypeId} (hi : R[i]? = some (.row g old t)) (hgd : o.guard = none) (ty : TypeId) (ad x : Operand) (hop : o.op = .store ty ad x) (hs1 : (P.info? ty).map (·.size) = some 1) (off : Nat) (hoff : off < old.size) {y : Value} (had : a.eval ad = .pointer (some ⟨g, off, none⟩)) (hx : a.eval x = y)
    (h1 : y.oneCell' = true) (hyc : y.cells = #[y]) (h : ∀ w1, Sep B w0 w1 (R.set i (.row g (old.setIfInBounds off y) t)) → wpList P ops Q rest (a.put o.dst undef) w1) : wpList P ops Q (o :: rest) a w :=
  wpList_plain hgd fun _ hK => ow_stc HS i hi ty ad x hop hs1 off hoff had hx h1 hyc fun w1 h2 => hK _ _ (h w1 h2)
/-- Some cells of a row are stored. -/
theorem ow_stm (HS : Sep B w0 w R) (i : Nat) {g : Nat} {old : Array Value} {t : TypeId} (hi : R[i]? = some (.row g old t)) (ty : TypeId) (ad x : Operand) (hop : o.op = .store ty ad x) (off : Nat) {cs : Array Value} (hs1 : (P.info? ty).map (·.size) = some cs.size) (hoff : off + cs.size ≤ old.size) (had : a.eval ad = .pointer (some ⟨g, off, none⟩)) (hx : a.eval x = .agg cs)
    (h1 : cs.all (·.oneCell') = true) (new : Array Value) (hnew : new = (old.toList.take off ++ cs.toList ++ old.toList.drop (off + cs.size)).toArray) (h : ∀ w1, Sep B w0 w1 (R.set i (.row g new t)) → K (a.put o.dst undef) w1) : o.wp P a w K Q := by
  have hg := HS.row i hi
  have hst := run_storeCells_at P g off t cs.toList 0 old w hg (by simpa using hoff) (fun v hv => (Array.all_eq_true_iff_forall_mem.1 h1) v (by simpa using hv))
  simp only [Nat.add_zero, Array.length_toList] at hst
  rw [← hnew] at hst
  have hrun : (storeVar ty ⟨g, off, none⟩ (.agg cs)).run P w = .ok () (w.setRow g new) := by
    unfold storeVar
    rw [Sem.run_bind, run_sizeOf_gen (P := P) w hs1]
    simp [Result.andThen, Value.cells, hst]
  unfold Oper.wp
  simp only [execOp, hop, had, hx, Instr.storeAt, Instr.sureAddr, Sem.run_bind, Sem.run_pure, Result.andThen_ok, hrun]
  exact h _ (HS.setRow i hi new)
end
end
end Cop
