/- A region that draws its order and ends in several writers behind all else: the condition S need not hold behind these. -/
import Derived.Test.YtepcjdifjjombaaDoorOg
set_option linter.unusedVariables false
namespace Cop
open Go Go.RowKit
section
variable {P : Program} {ops : Array Oper} {Q : Exit → Act → World → Prop} {md : Region.Mode} {S : World → Prop} {z : Nat}
/-- All numbers under z come ahead of z, and z ahead of those above. -/
def coverZ (md : Region.Mode) (ops : Array Oper) (z : Nat) : Bool :=
  ((List.range z).all fun i => (List.range' (i + 1) (z - i)).any fun k => match ops[k]? with
    | some o => o.after.any fun e => Region.binds md e && e.on == i
    | none => false) &&
  ((List.range' (z + 1) (ops.size - (z + 1))).all fun j => (List.range' z (j - z)).any fun k => match ops[j]? with
    | some o => o.after.any fun e => Region.binds md e && e.on == k
    | none => false)
/-- What number k waits for has come up. -/
def Ahead (md : Region.Mode) (ops : Array Oper) (listed : Array Bool) (k : Nat) : Prop := ∃ o, ops[k]? = some o ∧ ∀ e ∈ o.after, Region.binds md e = true → listed.getD e.on false = true
theorem ahead_ready {listed : Array Bool} {k : Nat} (h : k ∈ Region.ready md ops listed) : Ahead md ops listed k := by
  obtain ⟨_, o, ho, hall⟩ := mem_ready.1 h
  exact ⟨o, ho, hall⟩
theorem ahead_listed {listed : Array Bool} (hc : Closed md ops listed) {k : Nat} (hk : k < ops.size) (h : listed.getD k false = true) : Ahead md ops listed k :=
  ⟨ops[k], Array.getElem?_eq_getElem hk, fun e he hb => hc k _ (Array.getElem?_eq_getElem hk) h e he hb⟩
theorem cover_z (h : coverZ md ops z = true) {listed : Array Bool} (hc : Closed md ops listed) (hz : Ahead md ops listed z) : ∀ i, i < z → listed.getD i false = true := by
  simp only [coverZ, Bool.and_eq_true] at h
  have h1 := h.1
  have key : ∀ m i, z - i ≤ m → i < z → listed.getD i false = true := by
    intro m
    induction m with
    | zero => intro i hi hlt; omega
    | succ m ih =>
      intro i hi hlt
      obtain ⟨k, hk, hk2⟩ := List.any_eq_true.1 (List.all_eq_true.1 h1 i (List.mem_range.2 hlt))
      obtain ⟨t, ht, rfl⟩ := List.mem_range'.1 hk
      cases ho : ops[i + 1 + 1 * t]? with
      | none => rw [ho] at hk2; simp at hk2
      | some o =>
        rw [ho] at hk2
        obtain ⟨e, he, hb⟩ := Array.any_eq_true'.1 hk2
        simp only [Bool.and_eq_true, beq_iff_eq] at hb
        rw [← hb.2]
        by_cases hkz : i + 1 + 1 * t = z
        · obtain ⟨o', ho', hall⟩ := hz
          rw [← hkz, ho] at ho'
          injection ho' with ho'
          subst ho'
          exact hall e he hb.1
        · exact hc _ o ho (ih (i + 1 + 1 * t) (by omega) (by omega)) e he hb.1
  intro i hi
  exact key (z - i) i (Nat.le_refl _) hi
theorem cover_up (h : coverZ md ops z = true) {listed : Array Bool} (hc : Closed md ops listed) : ∀ (n j : Nat), j ≤ n → z < j → Ahead md ops listed j → listed.getD z false = true := by
  intro n
  simp only [coverZ, Bool.and_eq_true] at h
  induction n with
  | zero => intro j h1 h2; omega
  | succ n ih =>
    rintro j h1 h2 ⟨o, ho, hall⟩
    have hj := (Array.getElem?_eq_some_iff.1 ho).1
    obtain ⟨k, hk, hk2⟩ := List.any_eq_true.1 (List.all_eq_true.1 h.2 j (List.mem_range'.2 ⟨j - (z + 1), by omega, by omega⟩))
    obtain ⟨t, ht, rfl⟩ := List.mem_range'.1 hk
    rw [ho] at hk2
    obtain ⟨e, he, hb⟩ := Array.any_eq_true'.1 hk2
    simp only [Bool.and_eq_true, beq_iff_eq] at hb
    have hl := hall e he hb.1
    rw [hb.2] at hl
    by_cases h0 : t = 0
    · subst h0; simpa using hl
    · exact ih (z + 1 * t) (by omega) (by omega) (ahead_listed hc (by omega) hl)
theorem cover_all (h : coverZ md ops z = true) (hzs : z < ops.size) {listed : Array Bool} (hc : Closed md ops listed) {j : Nat} (hj : j ∈ Region.ready md ops listed) (hzj : z ≤ j) : ∀ i, i < z → listed.getD i false = true := by
  by_cases e : j = z
  · subst e; exact cover_z h hc (ahead_ready hj)
  · exact cover_z h hc (ahead_listed hc hzs (cover_up h hc j j (Nat.le_refl _) (by omega) (ahead_ready hj)))
/-- Whatever order is picked, S holding behind each operation but z. -/
def wpAnyZ (P : Program) (md : Region.Mode) (ops : Array Oper) (Q : Exit → Act → World → Prop) (S : World → Prop) (z : Nat) : Nat → Array Bool → Act → World → Prop
  | 0, listed, a, w => Region.ready md ops listed = [] ∧ Q .normal a w
  | fuel + 1, listed, a, w =>
    (Region.ready md ops listed = [] → Q .normal a w) ∧
    ∀ i ∈ Region.ready md ops listed, wpOp P ops Q i (fun a' w' => (i < z → S w') ∧ wpAnyZ P md ops Q S z fuel (listed.setIfInBounds i true) a' w') a w
theorem wpAny_of_Z : ∀ (fuel : Nat) (listed : Array Bool) (a : Act) (w : World), wpAnyZ P md ops Q S z fuel listed a w → wpAny P md ops Q fuel listed a w
  | 0, _, _, _, h => h
  | fuel + 1, _, _, _, h => ⟨h.1, fun i hi => wpOp_mono (fun a' w' h' => wpAny_of_Z fuel _ a' w' h'.2) (h.2 i hi)⟩
theorem wpAnyZ_first {i : Nat} {oi : Oper} {v : Value} (hi : ops[i]? = some oi) (hsel : ∀ (j : Nat) (o : Oper) cs b, ops[j]? = some o → o.op ≠ .select cs b)
    (hQ : ∀ c a w, Q (.panic c) (a.put oi.dst v) w → Q (.panic c) a w) (hz : coverZ md ops z = true) (hzs : z < ops.size) (hiz : i < z) :
    ∀ (fuel : Nat) (listed : Array Bool) (a : Act) (w : World), Closed md ops listed →
      (∀ j oj, ops[j]? = some oj → j ≠ i → listed.getD j true = false → (∀ e ∈ oj.after, Region.binds md e = true → e.on ≠ i) → oi.apart ops oj = true) →
      i ∈ Region.ready md ops listed → YieldsIf P ops S oi v a → S w →
      wpAnyZ P md ops Q S z fuel (listed.setIfInBounds i true) (a.put oi.dst v) w → wpAnyZ P md ops Q S z (fuel + 1) listed a w := by
  intro fuel
  induction fuel with
  | zero =>
    intro listed a w _ _ hr hy hS H
    refine ⟨fun h => (by rw [h] at hr; cases hr), fun j hj => ?_⟩
    by_cases hji : j = i
    · subst hji; exact hy.wpOp hi hS ⟨fun _ => hS, H⟩
    · have := ready_mono hj hji
      rw [H.1] at this
      cases this
  | succ fuel ih =>
    intro listed a w hcl hfree hr hy hS H
    refine ⟨fun h => (by rw [h] at hr; cases hr), fun j hj => ?_⟩
    by_cases hji : j = i
    · subst hji; exact hy.wpOp hi hS ⟨fun _ => hS, H⟩
    · have h1 := H.2 j (ready_mono hj hji)
      obtain ⟨hjun, oj, hoj, hall⟩ := mem_ready.1 hj
      have hun := (mem_ready.1 hr).1
      have hisz : i < listed.size := by
        rcases Nat.lt_or_ge i listed.size with h' | h'
        · exact h'
        · simp [Array.getElem?_eq_none h'] at hun
      have hif : listed.getD i false = false := by
        simp [hisz] at hun ⊢
        exact hun
      have hnot : ∀ e ∈ oj.after, Region.binds md e = true → e.on ≠ i := fun e he hb heq => by
        have h1 := hall e he hb
        rw [heq, hif] at h1
        cases h1
      have hjz : j < z := by
        rcases Nat.lt_or_ge j z with h' | h'
        · exact h'
        · have := cover_all hz hzs hcl hj h' i hiz
          rw [hif] at this
          cases this
      have h2 := wpOp_putIf hoj (hfree j oj hoj hji hjun hnot) (fun cs b => hsel i oi cs b hi) (fun cs b => hsel j oj cs b hoj) hQ hy h1
      have hfree' : ∀ k ok, ops[k]? = some ok → k ≠ i → (listed.setIfInBounds j true).getD k true = false →
          (∀ e ∈ ok.after, Region.binds md e = true → e.on ≠ i) → oi.apart ops ok = true := fun k ok hk hki hun hno => by
        refine hfree k ok hk hki ?_ hno
        by_cases hjk : j = k
        · subst hjk; exact hjun
        · rw [getD_set_ne true hjk] at hun; exact hun
      refine wpOp_mono (fun a' w' h3 => ⟨fun _ => h3.2.1 hjz, ih (listed.setIfInBounds j true) a' w' (closed_set hcl hj) hfree' (ready_mono hr (Ne.symm hji)) h3.1 (h3.2.1 hjz) ?_⟩) h2
      rw [Array.setIfInBounds_comm _ _ hji]
      exact h3.2.2
/-- What is to be shown along an order. -/
def wpOrdZ (P : Program) (ops : Array Oper) (Q : Exit → Act → World → Prop) (S : World → Prop) (z : Nat) : Ord → Act → World → Prop
  | .fin, a, w => Q .normal a w
  | .take i k, a, w => i < z ∧ S w ∧ ∃ v o, ops[i]? = some o ∧ YieldsIf P ops S o v a ∧ wpOrdZ P ops Q S z k (a.put o.dst v) w
  | .run i k, a, w => wpOp P ops Q i (fun a' w' => (i < z → S w') ∧ wpOrdZ P ops Q S z k a' w') a w
  | .run2 i k i2 k2, a, w => wpOp P ops Q i (fun a' w' => (i < z → S w') ∧ wpOrdZ P ops Q S z k a' w') a w ∧ wpOp P ops Q i2 (fun a' w' => (i2 < z → S w') ∧ wpOrdZ P ops Q S z k2 a' w') a w
  | .run3 i k i2 k2 i3 k3, a, w => wpOp P ops Q i (fun a' w' => (i < z → S w') ∧ wpOrdZ P ops Q S z k a' w') a w ∧ wpOp P ops Q i2 (fun a' w' => (i2 < z → S w') ∧ wpOrdZ P ops Q S z k2 a' w') a w ∧ wpOp P ops Q i3 (fun a' w' => (i3 < z → S w') ∧ wpOrdZ P ops Q S z k3 a' w') a w
theorem wpAnyZ_ord (hs : Region.noSelect ops = true) (hQ : ∀ c a d v w, Q (.panic c) (a.put d v) w → Q (.panic c) a w) (hz : coverZ md ops z = true) (hzs : z < ops.size) :
    ∀ (ord : Ord) (fuel : Nat) (l : Array Bool) (a : Act) (w : World), Closed md ops l → ord.chk md ops fuel l = true → wpOrdZ P ops Q S z ord a w → wpAnyZ P md ops Q S z fuel l a w := by
  intro ord
  induction ord with
  | fin =>
    intro fuel l a w _ hc h
    have hr : Region.ready md ops l = [] := by
      unfold Ord.chk at hc
      simpa using hc
    cases fuel with
    | zero => exact ⟨hr, h⟩
    | succ f => exact ⟨fun _ => h, by rw [hr]; simp⟩
  | take i k ih =>
    intro fuel l a w hcl hc h
    cases fuel with
    | zero => simp [Ord.chk] at hc
    | succ f =>
      simp only [Ord.chk, Bool.and_eq_true] at hc
      obtain ⟨hiz, hS, v, o, ho, hy, h⟩ := h
      have hr : i ∈ Region.ready md ops l := by simpa using hc.1.1
      exact wpAnyZ_first ho (Region.noSelect_spec hs) (fun c a w => hQ c a o.dst v w) hz hzs hiz f l a w hcl (Region.free_spec ho hc.1.2) hr hy hS (ih f _ _ w (closed_set hcl hr) hc.2 h)
  | run i k ih =>
    intro fuel l a w hcl hc h
    cases fuel with
    | zero => simp [Ord.chk] at hc
    | succ f =>
      simp only [Ord.chk, Bool.and_eq_true] at hc
      have hr : i ∈ Region.ready md ops l := by simpa using hc.1.2
      refine ⟨fun h0 => (by rw [h0] at hr; cases hr), fun j hj => ?_⟩
      have hji : j = i := by simpa using List.all_eq_true.1 hc.1.1 j hj
      subst hji
      exact wpOp_mono (fun a' w' h' => ⟨h'.1, ih f _ a' w' (closed_set hcl hr) hc.2 h'.2⟩) h
  | run2 i k i2 k2 ih ih2 =>
    intro fuel l a w hcl hc h
    cases fuel with
    | zero => simp [Ord.chk] at hc
    | succ f =>
      simp only [Ord.chk, Bool.and_eq_true] at hc
      have hr : i ∈ Region.ready md ops l := by simpa using hc.1.1.1.2
      have hr2 : i2 ∈ Region.ready md ops l := by simpa using hc.1.1.2
      refine ⟨fun h0 => (by rw [h0] at hr; cases hr), fun j hj => ?_⟩
      have hji : j = i ∨ j = i2 := by simpa using List.all_eq_true.1 hc.1.1.1.1 j hj
      rcases hji with rfl | rfl
      · exact wpOp_mono (fun a' w' h' => ⟨h'.1, ih f _ a' w' (closed_set hcl hr) hc.1.2 h'.2⟩) h.1
      · exact wpOp_mono (fun a' w' h' => ⟨h'.1, ih2 f _ a' w' (closed_set hcl hr2) hc.2 h'.2⟩) h.2
  | run3 i k i2 k2 i3 k3 ih ih2 ih3 =>
    intro fuel l a w hcl hc h
    cases fuel with
    | zero => simp [Ord.chk] at hc
    | succ f =>
      simp only [Ord.chk, Bool.and_eq_true] at hc
      have hr : i ∈ Region.ready md ops l := by simpa using hc.1.1.1.1.1.2
      have hr2 : i2 ∈ Region.ready md ops l := by simpa using hc.1.1.1.1.2
      have hr3 : i3 ∈ Region.ready md ops l := by simpa using hc.1.1.1.2
      refine ⟨fun h0 => (by rw [h0] at hr; cases hr), fun j hj => ?_⟩
      have hji : j = i ∨ j = i2 ∨ j = i3 := by simpa [or_assoc] using List.all_eq_true.1 hc.1.1.1.1.1.1 j hj
      rcases hji with rfl | rfl | rfl
      · exact wpOp_mono (fun a' w' h' => ⟨h'.1, ih f _ a' w' (closed_set hcl hr) hc.1.1.2 h'.2⟩) h.1
      · exact wpOp_mono (fun a' w' h' => ⟨h'.1, ih2 f _ a' w' (closed_set hcl hr2) hc.1.2 h'.2⟩) h.2.1
      · exact wpOp_mono (fun a' w' h' => ⟨h'.1, ih3 f _ a' w' (closed_set hcl hr3) hc.2 h'.2⟩) h.2.2
/-- The region by an order; S holds behind each number under z. -/
theorem region_ordz {id : Nat} {a : Act} {w : World} {l : List Oper} (S : World → Prop) (z : Nat) (ord : Ord) (hm : P.follows .mixedOrders = true)
    (hc : (Region.noSelect l.toArray && coverZ .any l.toArray z && decide (z < l.length) && ord.chk .any l.toArray l.length (Array.replicate l.length false)) = true)
    (hQ : ∀ c a d v w, Q (.panic c) (a.put d v) w → Q (.panic c) a w)
    (h : ∀ w1, Below w.heap.size w w1 → Shut 0 (wpOrdZ P l.toArray Q S z ord a w1)) : (Code.region id l.toArray true).wp P Q a w := by
  simp only [Bool.and_eq_true, decide_eq_true_eq] at hc
  exact wp_region_any hm (wpAny_of_Z _ _ _ _ (wpAnyZ_ord hc.1.1.1 hQ hc.1.1.2 (by simpa using hc.1.2) ord _ _ a _ (closed_none _) (by simpa using hc.2) (h _ (bdraw w)).out))
section
variable {l : List Oper} {a : Act} {w : World} {i : Nat} {k : Ord} {o : Oper}
theorem ogz_take (ho : l[i]? = some o) (hw : Region.wanted o (yielded l.toArray a.tmps) = true) (hiz : i < z) (hS : S w) (h : ∃ v, (∀ w', S w' → (execOp a.eval o).run P w' = .ok (.value v) w') ∧ ∃ a', a.put o.dst v = a' ∧ Shut 0 (wpOrdZ P l.toArray Q S z k a' w)) :
    Shut 0 (wpOrdZ P l.toArray Q S z (.take i k) a w) := by
  obtain ⟨v, h1, _, rfl, h2⟩ := h
  exact ⟨hiz, hS, v, o, by simpa using ho, .inl ⟨hw, h1⟩, h2.out⟩
theorem ogz_skip (ho : l[i]? = some o) (hw : Region.wanted o (yielded l.toArray a.tmps) = false) (hiz : i < z) (hS : S w) (a' : Act) (ha : a.put o.dst undef = a') (h : Shut 0 (wpOrdZ P l.toArray Q S z k a' w)) :
    Shut 0 (wpOrdZ P l.toArray Q S z (.take i k) a w) := by
  subst ha
  exact ⟨hiz, hS, undef, o, by simpa using ho, .inr ⟨hw, rfl⟩, h.out⟩
theorem ogz_run (ho : l[i]? = some o) (hw : Region.wanted o (yielded l.toArray a.tmps) = true) (h : o.wp P a w (fun a' w' => (i < z → S w') ∧ Shut 0 (wpOrdZ P l.toArray Q S z k a' w')) Q) :
    Shut 0 (wpOrdZ P l.toArray Q S z (.run i k) a w) := by
  refine ⟨?_⟩
  unfold wpOrdZ wpOp
  rw [show l.toArray[i]? = some o by simpa using ho]
  simp only [hw, if_true]
  exact .inl (Oper.wp_mono (fun a' w' h => ⟨h.1, h.2.out⟩) h)
theorem ogz_run2 {i2 : Nat} {k2 : Ord} (h : Shut 0 (wpOrdZ P l.toArray Q S z (.run i k) a w)) (h2 : Shut 0 (wpOrdZ P l.toArray Q S z (.run i2 k2) a w)) : Shut 0 (wpOrdZ P l.toArray Q S z (.run2 i k i2 k2) a w) := ⟨h.out, h2.out⟩
theorem ogz_run3 {i2 i3 : Nat} {k2 k3 : Ord} (h : Shut 0 (wpOrdZ P l.toArray Q S z (.run i k) a w)) (h2 : Shut 0 (wpOrdZ P l.toArray Q S z (.run i2 k2) a w)) (h3 : Shut 0 (wpOrdZ P l.toArray Q S z (.run i3 k3) a w)) : Shut 0 (wpOrdZ P l.toArray Q S z (.run3 i k i2 k2 i3 k3) a w) := ⟨h.out, h2.out, h3.out⟩
theorem ogz_fin (h : Q .normal a w) : Shut 0 (wpOrdZ P l.toArray Q S z .fin a w) := ⟨h⟩
theorem ogz_ld (ho : l[i]? = some o) (hw : Region.wanted o (yielded l.toArray a.tmps) = true) (hiz : i < z) (hS : S w) (ty : TypeId) (x : Operand) (hop : o.op = .load ty x) (p : Value) (hx : a.eval x = p) (v : Value) (hl : ∀ w', S w' → (Instr.loadAt ty p).run P w' = .ok v w')
    (a' : Act) (ha : a.put o.dst v = a') (h : Shut 0 (wpOrdZ P l.toArray Q S z k a' w)) : Shut 0 (wpOrdZ P l.toArray Q S z (.take i k) a w) := by
  subst ha
  refine ⟨hiz, hS, v, o, by simpa using ho, .inl ⟨hw, fun w' h' => ?_⟩, h.out⟩
  simp only [execOp, hop, hx, Sem.run_bind, hl w' h', Result.andThen_ok, Sem.run_pure]
end
end
end Cop
