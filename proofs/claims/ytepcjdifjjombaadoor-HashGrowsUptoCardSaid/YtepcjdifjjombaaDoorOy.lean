/- A region that draws its order and ends in several writers: the condition S need hold only as long as what reads may come up. -/
import Derived.Test.YtepcjdifjjombaaDoorOg
import Derived.Test.YtepcjdifjjombaaDoorOz
set_option linter.unusedVariables false
namespace Cop
open Go Go.RowKit
section
variable {P : Program} {ops : Array Oper} {Q : Exit → Act → World → Prop} {md : Region.Mode} {S : World → Prop} {z : Nat}
/-- Number i comes ahead of z. -/
def reachB (md : Region.Mode) (ops : Array Oper) (i : Nat) : Nat → Nat → Bool
  | 0, _ => false
  | f + 1, z => match ops[z]? with
    | some o => o.after.any fun e => Region.binds md e && (e.on == i || reachB md ops i f e.on)
    | none => false
/-- Number z comes ahead of those above. -/
def upB (md : Region.Mode) (ops : Array Oper) (z : Nat) : Bool :=
  (List.range' (z + 1) (ops.size - (z + 1))).all fun j => (List.range' z (j - z)).any fun k => match ops[j]? with
    | some o => o.after.any fun e => Region.binds md e && e.on == k
    | none => false
theorem reach_spec {listed : Array Bool} (hc : Closed md ops listed) {i : Nat} : ∀ (f z : Nat), reachB md ops i f z = true → Ahead md ops listed z → listed.getD i false = true
  | 0, _, h, _ => by cases h
  | f + 1, z, h, ⟨o, ho, hall⟩ => by
    unfold reachB at h
    rw [ho] at h
    obtain ⟨e, he, hb⟩ := Array.any_eq_true'.1 h
    simp only [Bool.and_eq_true, Bool.or_eq_true, beq_iff_eq] at hb
    have hl := hall e he hb.1
    rcases hb.2 with hb2 | hb2
    · rw [← hb2]; exact hl
    · have hs : e.on < ops.size := by
        rcases Nat.lt_or_ge e.on ops.size with h' | h'
        · exact h'
        · cases f with
          | zero => cases hb2
          | succ f => unfold reachB at hb2; rw [Array.getElem?_eq_none h'] at hb2; cases hb2
      exact reach_spec hc f e.on hb2 (ahead_listed hc hs hl)
theorem up_spec (h : upB md ops z = true) {listed : Array Bool} (hc : Closed md ops listed) : ∀ (n j : Nat), j ≤ n → z < j → Ahead md ops listed j → listed.getD z false = true := by
  intro n
  induction n with
  | zero => intro j h1 h2; omega
  | succ n ih =>
    rintro j h1 h2 ⟨o, ho, hall⟩
    have hj := (Array.getElem?_eq_some_iff.1 ho).1
    obtain ⟨k, hk, hk2⟩ := List.any_eq_true.1 (List.all_eq_true.1 h j (List.mem_range'.2 ⟨j - (z + 1), by omega, by omega⟩))
    obtain ⟨t, ht, rfl⟩ := List.mem_range'.1 hk
    rw [ho] at hk2
    obtain ⟨e, he, hb⟩ := Array.any_eq_true'.1 hk2
    simp only [Bool.and_eq_true, beq_iff_eq] at hb
    have hl := hall e he hb.1
    rw [hb.2] at hl
    by_cases h0 : t = 0
    · subst h0; simpa using hl
    · exact ih (z + 1 * t) (by omega) (by omega) (ahead_listed hc (by omega) hl)
theorem reach_all (h : upB md ops z = true) (hzs : z < ops.size) {listed : Array Bool} (hc : Closed md ops listed) {i j f : Nat} (hi : reachB md ops i f z = true) (hj : j ∈ Region.ready md ops listed) (hzj : z ≤ j) : listed.getD i false = true := by
  by_cases e : j = z
  · subst e; exact reach_spec hc f j hi (ahead_ready hj)
  · exact reach_spec hc f z hi (ahead_listed hc hzs (up_spec h hc j j (Nat.le_refl _) (by omega) (ahead_ready hj)))
/-- Whatever order is picked, S holding behind each operation but z. -/
def wpAnyY (P : Program) (md : Region.Mode) (ops : Array Oper) (Q : Exit → Act → World → Prop) (S : World → Prop) (z : Nat) : Nat → Array Bool → Act → World → Prop
  | 0, listed, a, w => Region.ready md ops listed = [] ∧ Q .normal a w
  | fuel + 1, listed, a, w =>
    (Region.ready md ops listed = [] → Q .normal a w) ∧
    ∀ i ∈ Region.ready md ops listed, wpOp P ops Q i (fun a' w' => (S w → i < z → S w') ∧ wpAnyY P md ops Q S z fuel (listed.setIfInBounds i true) a' w') a w
theorem wpAny_of_Y : ∀ (fuel : Nat) (listed : Array Bool) (a : Act) (w : World), wpAnyY P md ops Q S z fuel listed a w → wpAny P md ops Q fuel listed a w
  | 0, _, _, _, h => h
  | fuel + 1, _, _, _, h => ⟨h.1, fun i hi => wpOp_mono (fun a' w' h' => wpAny_of_Y fuel _ a' w' h'.2) (h.2 i hi)⟩
theorem wpAnyY_first {i : Nat} {oi : Oper} {v : Value} (hi : ops[i]? = some oi) (hsel : ∀ (j : Nat) (o : Oper) cs b, ops[j]? = some o → o.op ≠ .select cs b)
    (hQ : ∀ c a w, Q (.panic c) (a.put oi.dst v) w → Q (.panic c) a w) (hz : upB md ops z = true) (hzs : z < ops.size) {f0 : Nat} (hiz : reachB md ops i f0 z = true) :
    ∀ (fuel : Nat) (listed : Array Bool) (a : Act) (w : World), Closed md ops listed →
      (∀ j oj, ops[j]? = some oj → j ≠ i → listed.getD j true = false → (∀ e ∈ oj.after, Region.binds md e = true → e.on ≠ i) → oi.apart ops oj = true) →
      i ∈ Region.ready md ops listed → YieldsIf P ops S oi v a → S w →
      wpAnyY P md ops Q S z fuel (listed.setIfInBounds i true) (a.put oi.dst v) w → wpAnyY P md ops Q S z (fuel + 1) listed a w := by
  intro fuel
  induction fuel with
  | zero =>
    intro listed a w _ _ hr hy hS H
    refine ⟨fun h => (by rw [h] at hr; cases hr), fun j hj => ?_⟩
    by_cases hji : j = i
    · subst hji; exact hy.wpOp hi hS ⟨fun _ _ => hS, H⟩
    · have := ready_mono hj hji
      rw [H.1] at this
      cases this
  | succ fuel ih =>
    intro listed a w hcl hfree hr hy hS H
    refine ⟨fun h => (by rw [h] at hr; cases hr), fun j hj => ?_⟩
    by_cases hji : j = i
    · subst hji; exact hy.wpOp hi hS ⟨fun _ _ => hS, H⟩
    · have h1 := H.2 j (ready_mono hj hji)
      obtain ⟨hjun, oj, hoj, hall⟩ := mem_ready.1 hj
      have hun := (mem_ready.1 hr).1
      have hisz : i < listed.size := by
        rcases Nat.lt_or_ge i listed.size with h' | h'
        · exact h'
        · simp [Array.getElem?_eq_none h'] at hun
      have hif : listed.getD i false = false := by
        simp [hisz] at hun ⊢
        exact hun
      have hnot : ∀ e ∈ oj.after, Region.binds md e = true → e.on ≠ i := fun e he hb heq => by
        have h1 := hall e he hb
        rw [heq, hif] at h1
        cases h1
      have hjz : j < z := by
        rcases Nat.lt_or_ge j z with h' | h'
        · exact h'
        · have := reach_all hz hzs hcl hiz hj h'
          rw [hif] at this
          cases this
      have h2 := wpOp_putIf hoj (hfree j oj hoj hji hjun hnot) (fun cs b => hsel i oi cs b hi) (fun cs b => hsel j oj cs b hoj) hQ hy h1
      have hfree' : ∀ k ok, ops[k]? = some ok → k ≠ i → (listed.setIfInBounds j true).getD k true = false →
          (∀ e ∈ ok.after, Region.binds md e = true → e.on ≠ i) → oi.apart ops ok = true := fun k ok hk hki hun hno => by
        refine hfree k ok hk hki ?_ hno
        by_cases hjk : j = k
        · subst hjk; exact hjun
        · rw [getD_set_ne true hjk] at hun; exact hun
      refine wpOp_mono (fun a' w' h3 => ⟨fun _ _ => h3.2.1 hS hjz, ih (listed.setIfInBounds j true) a' w' (closed_set hcl hj) hfree' (ready_mono hr (Ne.symm hji)) h3.1 (h3.2.1 hS hjz) ?_⟩) h2
      rw [Array.setIfInBounds_comm _ _ hji]
      exact h3.2.2
theorem wpAnyY_pure {i : Nat} {oi : Oper} {v : Value} (hi : ops[i]? = some oi) (hsel : ∀ (j : Nat) (o : Oper) cs b, ops[j]? = some o → o.op ≠ .select cs b)
    (hQ : ∀ c a w, Q (.panic c) (a.put oi.dst v) w → Q (.panic c) a w)  :
    ∀ (fuel : Nat) (listed : Array Bool) (a : Act) (w : World), Closed md ops listed →
      (∀ j oj, ops[j]? = some oj → j ≠ i → listed.getD j true = false → (∀ e ∈ oj.after, Region.binds md e = true → e.on ≠ i) → oi.apart ops oj = true) →
      i ∈ Region.ready md ops listed → YieldsIf P ops (fun _ => True) oi v a →
      wpAnyY P md ops Q S z fuel (listed.setIfInBounds i true) (a.put oi.dst v) w → wpAnyY P md ops Q S z (fuel + 1) listed a w := by
  intro fuel
  induction fuel with
  | zero =>
    intro listed a w _ _ hr hy H
    refine ⟨fun h => (by rw [h] at hr; cases hr), fun j hj => ?_⟩
    by_cases hji : j = i
    · subst hji; exact hy.wpOp hi trivial ⟨fun h _ => h, H⟩
    · have := ready_mono hj hji
      rw [H.1] at this
      cases this
  | succ fuel ih =>
    intro listed a w hcl hfree hr hy H
    refine ⟨fun h => (by rw [h] at hr; cases hr), fun j hj => ?_⟩
    by_cases hji : j = i
    · subst hji; exact hy.wpOp hi trivial ⟨fun h _ => h, H⟩
    · have h1 := H.2 j (ready_mono hj hji)
      obtain ⟨hjun, oj, hoj, hall⟩ := mem_ready.1 hj
      have hun := (mem_ready.1 hr).1
      have hisz : i < listed.size := by
        rcases Nat.lt_or_ge i listed.size with h' | h'
        · exact h'
        · simp [Array.getElem?_eq_none h'] at hun
      have hif : listed.getD i false = false := by
        simp [hisz] at hun ⊢
        exact hun
      have hnot : ∀ e ∈ oj.after, Region.binds md e = true → e.on ≠ i := fun e he hb heq => by
        have h1 := hall e he hb
        rw [heq, hif] at h1
        cases h1
      have h2 := wpOp_putIf hoj (hfree j oj hoj hji hjun hnot) (fun cs b => hsel i oi cs b hi) (fun cs b => hsel j oj cs b hoj) hQ hy h1
      have hfree' : ∀ k ok, ops[k]? = some ok → k ≠ i → (listed.setIfInBounds j true).getD k true = false →
          (∀ e ∈ ok.after, Region.binds md e = true → e.on ≠ i) → oi.apart ops ok = true := fun k ok hk hki hun hno => by
        refine hfree k ok hk hki ?_ hno
        by_cases hjk : j = k
        · subst hjk; exact hjun
        · rw [getD_set_ne true hjk] at hun; exact hun
      refine wpOp_mono (fun a' w' h3 => ⟨h3.2.1, ih (listed.setIfInBounds j true) a' w' (closed_set hcl hj) hfree' (ready_mono hr (Ne.symm hji)) h3.1 ?_⟩) h2
      rw [Array.setIfInBounds_comm _ _ hji]
      exact h3.2.2
/-- What is to be shown along an order. -/
def wpOrdY (P : Program) (md : Region.Mode) (ops : Array Oper) (Q : Exit → Act → World → Prop) (S : World → Prop) (z : Nat) : Ord → Act → World → Prop
  | .fin, a, w => Q .normal a w
  | .take i k, a, w => ∃ v o, ops[i]? = some o ∧ (YieldsIf P ops (fun _ => True) o v a ∨ reachB md ops i ops.size z = true ∧ S w ∧ YieldsIf P ops S o v a) ∧ wpOrdY P md ops Q S z k (a.put o.dst v) w
  | .run i k, a, w => wpOp P ops Q i (fun a' w' => (i < z → S w') ∧ wpOrdY P md ops Q S z k a' w') a w
  | .run2 i k i2 k2, a, w => wpOp P ops Q i (fun a' w' => (i < z → S w') ∧ wpOrdY P md ops Q S z k a' w') a w ∧ wpOp P ops Q i2 (fun a' w' => (i2 < z → S w') ∧ wpOrdY P md ops Q S z k2 a' w') a w
  | .run3 i k i2 k2 i3 k3, a, w => wpOp P ops Q i (fun a' w' => (i < z → S w') ∧ wpOrdY P md ops Q S z k a' w') a w ∧ wpOp P ops Q i2 (fun a' w' => (i2 < z → S w') ∧ wpOrdY P md ops Q S z k2 a' w') a w ∧ wpOp P ops Q i3 (fun a' w' => (i3 < z → S w') ∧ wpOrdY P md ops Q S z k3 a' w') a w
theorem wpAnyY_ord (hs : Region.noSelect ops = true) (hQ : ∀ c a d v w, Q (.panic c) (a.put d v) w → Q (.panic c) a w) (hz : upB md ops z = true) (hzs : z < ops.size) :
    ∀ (ord : Ord) (fuel : Nat) (l : Array Bool) (a : Act) (w : World), Closed md ops l → ord.chk md ops fuel l = true → wpOrdY P md ops Q S z ord a w → wpAnyY P md ops Q S z fuel l a w := by
  intro ord
  induction ord with
  | fin =>
    intro fuel l a w _ hc h
    have hr : Region.ready md ops l = [] := by
      unfold Ord.chk at hc
      simpa using hc
    cases fuel with
    | zero => exact ⟨hr, h⟩
    | succ f => exact ⟨fun _ => h, by rw [hr]; simp⟩
  | take i k ih =>
    intro fuel l a w hcl hc h
    cases fuel with
    | zero => simp [Ord.chk] at hc
    | succ f =>
      simp only [Ord.chk, Bool.and_eq_true] at hc
      obtain ⟨v, o, ho, hy, h⟩ := h
      have hr : i ∈ Region.ready md ops l := by simpa using hc.1.1
      rcases hy with hy | ⟨hiz, hS, hy⟩
      · exact wpAnyY_pure ho (Region.noSelect_spec hs) (fun c a w => hQ c a o.dst v w) f l a w hcl (Region.free_spec ho hc.1.2) hr hy (ih f _ _ w (closed_set hcl hr) hc.2 h)
      exact wpAnyY_first ho (Region.noSelect_spec hs) (fun c a w => hQ c a o.dst v w) hz hzs hiz f l a w hcl (Region.free_spec ho hc.1.2) hr hy hS (ih f _ _ w (closed_set hcl hr) hc.2 h)
  | run i k ih =>
    intro fuel l a w hcl hc h
    cases fuel with
    | zero => simp [Ord.chk] at hc
    | succ f =>
      simp only [Ord.chk, Bool.and_eq_true] at hc
      have hr : i ∈ Region.ready md ops l := by simpa using hc.1.2
      refine ⟨fun h0 => (by rw [h0] at hr; cases hr), fun j hj => ?_⟩
      have hji : j = i := by simpa using List.all_eq_true.1 hc.1.1 j hj
      subst hji
      exact wpOp_mono (fun a' w' h' => ⟨fun _ => h'.1, ih f _ a' w' (closed_set hcl hr) hc.2 h'.2⟩) h
  | run2 i k i2 k2 ih ih2 =>
    intro fuel l a w hcl hc h
    cases fuel with
    | zero => simp [Ord.chk] at hc
    | succ f =>
      simp only [Ord.chk, Bool.and_eq_true] at hc
      have hr : i ∈ Region.ready md ops l := by simpa using hc.1.1.1.2
      have hr2 : i2 ∈ Region.ready md ops l := by simpa using hc.1.1.2
      refine ⟨fun h0 => (by rw [h0] at hr; cases hr), fun j hj => ?_⟩
      have hji : j = i ∨ j = i2 := by simpa using List.all_eq_true.1 hc.1.1.1.1 j hj
      rcases hji with rfl | rfl
      · exact wpOp_mono (fun a' w' h' => ⟨fun _ => h'.1, ih f _ a' w' (closed_set hcl hr) hc.1.2 h'.2⟩) h.1
      · exact wpOp_mono (fun a' w' h' => ⟨fun _ => h'.1, ih2 f _ a' w' (closed_set hcl hr2) hc.2 h'.2⟩) h.2
  | run3 i k i2 k2 i3 k3 ih ih2 ih3 =>
    intro fuel l a w hcl hc h
    cases fuel with
    | zero => simp [Ord.chk] at hc
    | succ f =>
      simp only [Ord.chk, Bool.and_eq_true] at hc
      have hr : i ∈ Region.ready md ops l := by simpa using hc.1.1.1.1.1.2
      have hr2 : i2 ∈ Region.ready md ops l := by simpa using hc.1.1.1.1.2
      have hr3 : i3 ∈ Region.ready md ops l := by simpa using hc.1.1.1.2
      refine ⟨fun h0 => (by rw [h0] at hr; cases hr), fun j hj => ?_⟩
      have hji : j = i ∨ j = i2 ∨ j = i3 := by simpa [or_assoc] using List.all_eq_true.1 hc.1.1.1.1.1.1 j hj
      rcases hji with rfl | rfl | rfl
      · exact wpOp_mono (fun a' w' h' => ⟨fun _ => h'.1, ih f _ a' w' (closed_set hcl hr) hc.1.1.2 h'.2⟩) h.1
      · exact wpOp_mono (fun a' w' h' => ⟨fun _ => h'.1, ih2 f _ a' w' (closed_set hcl hr2) hc.1.2 h'.2⟩) h.2.1
      · exact wpOp_mono (fun a' w' h' => ⟨fun _ => h'.1, ih3 f _ a' w' (closed_set hcl hr3) hc.2 h'.2⟩) h.2.2
/-- The region by an order; S holds behind each number under z. -/
theorem region_ordy {id : Nat} {a : Act} {w : World} {l : List Oper} (S : World → Prop) (z : Nat) (ord : Ord) (hm : P.follows .mixedOrders = true)
    (hc : (Region.noSelect l.toArray && upB .any l.toArray z && decide (z < l.length) && ord.chk .any l.toArray l.length (Array.replicate l.length false)) = true)
    (hQ : ∀ c a d v w, Q (.panic c) (a.put d v) w → Q (.panic c) a w)
    (h : ∀ w1, Below w.heap.size w w1 → Shut 0 (wpOrdY P .any l.toArray Q S z ord a w1)) : (Code.region id l.toArray true).wp P Q a w := by
  simp only [Bool.and_eq_true, decide_eq_true_eq] at hc
  exact wp_region_any hm (wpAny_of_Y _ _ _ _ (wpAnyY_ord hc.1.1.1 hQ hc.1.1.2 (by simpa using hc.1.2) ord _ _ a _ (closed_none _) (by simpa using hc.2) (h _ (bdraw w)).out))
section
variable {l : List Oper} {a : Act} {w : World} {i : Nat} {k : Ord} {o : Oper}
theorem ogy_take (ho : l[i]? = some o) (hw : Region.wanted o (yielded l.toArray a.tmps) = true) (hS : S w) (hiz : reachB .any l.toArray i l.toArray.size z = true) (h : ∃ v, (∀ w', S w' → (execOp a.eval o).run P w' = .ok (.value v) w') ∧ ∃ a', a.put o.dst v = a' ∧ Shut 0 (wpOrdY P .any l.toArray Q S z k a' w)) :
    Shut 0 (wpOrdY P .any l.toArray Q S z (.take i k) a w) := by
  obtain ⟨v, h1, _, rfl, h2⟩ := h
  exact ⟨v, o, by simpa using ho, .inr ⟨hiz, hS, .inl ⟨hw, h1⟩⟩, h2.out⟩
theorem ogy_pure (ho : l[i]? = some o) (hw : Region.wanted o (yielded l.toArray a.tmps) = true) (h : ∃ v, (∀ w', (execOp a.eval o).run P w' = .ok (.value v) w') ∧ ∃ a', a.put o.dst v = a' ∧ Shut 0 (wpOrdY P .any l.toArray Q S z k a' w)) :
    Shut 0 (wpOrdY P .any l.toArray Q S z (.take i k) a w) := by
  obtain ⟨v, h1, _, rfl, h2⟩ := h
  exact ⟨v, o, by simpa using ho, .inl (.inl ⟨hw, fun w' _ => h1 w'⟩), h2.out⟩
theorem ogy_skip (ho : l[i]? = some o) (hw : Region.wanted o (yielded l.toArray a.tmps) = false) (a' : Act) (ha : a.put o.dst undef = a') (h : Shut 0 (wpOrdY P .any l.toArray Q S z k a' w)) :
    Shut 0 (wpOrdY P .any l.toArray Q S z (.take i k) a w) := by
  subst ha
  exact ⟨undef, o, by simpa using ho, .inl (.inr ⟨hw, rfl⟩), h.out⟩
theorem ogy_run (ho : l[i]? = some o) (hw : Region.wanted o (yielded l.toArray a.tmps) = true) (h : o.wp P a w (fun a' w' => (i < z → S w') ∧ Shut 0 (wpOrdY P .any l.toArray Q S z k a' w')) Q) :
    Shut 0 (wpOrdY P .any l.toArray Q S z (.run i k) a w) := by
  refine ⟨?_⟩
  unfold wpOrdY wpOp
  rw [show l.toArray[i]? = some o by simpa using ho]
  simp only [hw, if_true]
  exact .inl (Oper.wp_mono (fun a' w' h => ⟨h.1, h.2.out⟩) h)
theorem ogy_run2 {i2 : Nat} {k2 : Ord} (h : Shut 0 (wpOrdY P .any l.toArray Q S z (.run i k) a w)) (h2 : Shut 0 (wpOrdY P .any l.toArray Q S z (.run i2 k2) a w)) : Shut 0 (wpOrdY P .any l.toArray Q S z (.run2 i k i2 k2) a w) := ⟨h.out, h2.out⟩
theorem ogy_run3 {i2 i3 : Nat} {k2 k3 : Ord} (h : Shut 0 (wpOrdY P .any l.toArray Q S z (.run i k) a w)) (h2 : Shut 0 (wpOrdY P .any l.toArray Q S z (.run i2 k2) a w)) (h3 : Shut 0 (wpOrdY P .any l.toArray Q S z (.run i3 k3) a w)) : Shut 0 (wpOrdY P .any l.toArray Q S z (.run3 i k i2 k2 i3 k3) a w) := ⟨h.out, h2.out, h3.out⟩
theorem ogy_fin (h : Q .normal a w) : Shut 0 (wpOrdY P .any l.toArray Q S z .fin a w) := ⟨h⟩
theorem ogy_ld (ho : l[i]? = some o) (hw : Region.wanted o (yielded l.toArray a.tmps) = true) (hS : S w) (hiz : reachB .any l.toArray i l.toArray.size z = true) (ty : TypeId) (x : Operand) (hop : o.op = .load ty x) (p : Value) (hx : a.eval x = p) (v : Value) (hl : ∀ w', S w' → (Instr.loadAt ty p).run P w' = .ok v w')
    (a' : Act) (ha : a.put o.dst v = a') (h : Shut 0 (wpOrdY P .any l.toArray Q S z k a' w)) : Shut 0 (wpOrdY P .any l.toArray Q S z (.take i k) a w) := by
  subst ha
  refine ⟨v, o, by simpa using ho, .inr ⟨hiz, hS, .inl ⟨hw, fun w' h' => ?_⟩⟩, h.out⟩
  simp only [execOp, hop, hx, Sem.run_bind, hl w' h', Result.andThen_ok, Sem.run_pure]
end
end
end Cop
