/- A region that draws its order and ends in several writers behind all else: the condition S need not hold behind these. verify.Roots: what a path between two sizes leads to. verify.Roots where the path has the right length. -/
import Derived.Test.YtbjbdnlgoifamaaDoorOg
import Derived.Test.YtbjbdnlgoifamaaDoorVr
set_option linter.unusedVariables false
namespace Cop
open Go Go.RowKit
section
variable {P : Program} {ops : Array Oper} {Q : Exit → Act → World → Prop} {md : Region.Mode} {S : World → Prop} {z : Nat}
/-- All numbers under z come ahead of z, and z ahead of those above. -/
def coverZ (md : Region.Mode) (ops : Array Oper) (z : Nat) : Bool :=
  ((List.range z).all fun i => (List.range' (i + 1) (z - i)).any fun k => match ops[k]? with
    | some o => o.after.any fun e => Region.binds md e && e.on == i
    | none => false) &&
  ((List.range' (z + 1) (ops.size - (z + 1))).all fun j => (List.range' z (j - z)).any fun k => match ops[j]? with
    | some o => o.after.any fun e => Region.binds md e && e.on == k
    | none => false)
/-- What number k waits for has come up. -/
def Ahead (md : Region.Mode) (ops : Array Oper) (listed : Array Bool) (k : Nat) : Prop := ∃ o, ops[k]? = some o ∧ ∀ e ∈ o.after, Region.binds md e = true → listed.getD e.on false = true
theorem ahead_ready {listed : Array Bool} {k : Nat} (h : k ∈ Region.ready md ops listed) : Ahead md ops listed k := by
  obtain ⟨_, o, ho, hall⟩ := mem_ready.1 h
  exact ⟨o, ho, hall⟩
theorem ahead_listed {listed : Array Bool} (hc : Closed md ops listed) {k : Nat} (hk : k < ops.size) (h : listed.getD k false = true) : Ahead md ops listed k :=
  ⟨ops[k], Array.getElem?_eq_getElem hk, fun e he hb => hc k _ (Array.getElem?_eq_getElem hk) h e he hb⟩
theorem cover_z (h : coverZ md ops z = true) {listed : Array Bool} (hc : Closed md ops listed) (hz : Ahead md ops listed z) : ∀ i, i < z → listed.getD i false = true := by
  simp only [coverZ, Bool.and_eq_true] at h
  have h1 := h.1
  have key : ∀ m i, z - i ≤ m → i < z → listed.getD i false = true := by
    intro m
    induction m with
    | zero => intro i hi hlt; omega
    | succ m ih =>
      intro i hi hlt
      obtain ⟨k, hk, hk2⟩ := List.any_eq_true.1 (List.all_eq_true.1 h1 i (List.mem_range.2 hlt))
      obtain ⟨t, ht, rfl⟩ := List.mem_range'.1 hk
      cases ho : ops[i + 1 + 1 * t]? with
      | none => rw [ho] at hk2; simp at hk2
      | some o =>
        rw [ho] at hk2
        obtain ⟨e, he, hb⟩ := Array.any_eq_true'.1 hk2
        simp only [Bool.and_eq_true, beq_iff_eq] at hb
        rw [← hb.2]
        by_cases hkz : i + 1 + 1 * t = z
        · obtain ⟨o', ho', hall⟩ := hz
          rw [← hkz, ho] at ho'
          injection ho' with ho'
          subst ho'
          exact hall e he hb.1
        · exact hc _ o ho (ih (i + 1 + 1 * t) (by omega) (by omega)) e he hb.1
  intro i hi
  exact key (z - i) i (Nat.le_refl _) hi
theorem cover_up (h : coverZ md ops z = true) {listed : Array Bool} (hc : Closed md ops listed) : ∀ (n j : Nat), j ≤ n → z < j → Ahead md ops listed j → listed.getD z false = true := by
  intro n
  simp only [coverZ, Bool.and_eq_true] at h
  induction n with
  | zero => intro j h1 h2; omega
  | succ n ih =>
    rintro j h1 h2 ⟨o, ho, hall⟩
    have hj := (Array.getElem?_eq_some_iff.1 ho).1
    obtain ⟨k, hk, hk2⟩ := List.any_eq_true.1 (List.all_eq_true.1 h.2 j (List.mem_range'.2 ⟨j - (z + 1), by omega, by omega⟩))
    obtain ⟨t, ht, rfl⟩ := List.mem_range'.1 hk
    rw [ho] at hk2
    obtain ⟨e, he, hb⟩ := Array.any_eq_true'.1 hk2
    simp only [Bool.and_eq_true, beq_iff_eq] at hb
    have hl := hall e he hb.1
    rw [hb.2] at hl
    by_cases h0 : t = 0
    · subst h0; simpa using hl
    · exact ih (z + 1 * t) (by omega) (by omega) (ahead_listed hc (by omega) hl)
theorem cover_all (h : coverZ md ops z = true) (hzs : z < ops.size) {listed : Array Bool} (hc : Closed md ops listed) {j : Nat} (hj : j ∈ Region.ready md ops listed) (hzj : z ≤ j) : ∀ i, i < z → listed.getD i false = true := by
  by_cases e : j = z
  · subst e; exact cover_z h hc (ahead_ready hj)
  · exact cover_z h hc (ahead_listed hc hzs (cover_up h hc j j (Nat.le_refl _) (by omega) (ahead_ready hj)))
/-- Whatever order is picked, S holding behind each operation but z. -/
def wpAnyZ (P : Program) (md : Region.Mode) (ops : Array Oper) (Q : Exit → Act → World → Prop) (S : World → Prop) (z : Nat) : Nat → Array Bool → Act → World → Prop
  | 0, listed, a, w => Region.ready md ops listed = [] ∧ Q .normal a w
  | fuel + 1, listed, a, w =>
    (Region.ready md ops listed = [] → Q .normal a w) ∧
    ∀ i ∈ Region.ready md ops listed, wpOp P ops Q i (fun a' w' => (i < z → S w') ∧ wpAnyZ P md ops Q S z fuel (listed.setIfInBounds i true) a' w') a w
theorem wpAny_of_Z : ∀ (fuel : Nat) (listed : Array Bool) (a : Act) (w : World), wpAnyZ P md ops Q S z fuel listed a w → wpAny P md ops Q fuel listed a w
  | 0, _, _, _, h => h
  | fuel + 1, _, _, _, h => ⟨h.1, fun i hi => wpOp_mono (fun a' w' h' => wpAny_of_Z fuel _ a' w' h'.2) (h.2 i hi)⟩
theorem wpAnyZ_first {i : Nat} {oi : Oper} {v : Value} (hi : ops[i]? = some oi) (hsel : ∀ (j : Nat) (o : Oper) cs b, ops[j]? = some o → o.op ≠ .select cs b)
    (hQ : ∀ c a w, Q (.panic c) (a.put oi.dst v) w → Q (.panic c) a w) (hz : coverZ md ops z = true) (hzs : z < ops.size) (hiz : i < z) :
    ∀ (fuel : Nat) (listed : Array Bool) (a : Act) (w : World), Closed md ops listed →
      (∀ j oj, ops[j]? = some oj → j ≠ i → listed.getD j true = false → (∀ e ∈ oj.after, Region.binds md e = true → e.on ≠ i) → oi.apart ops oj = true) →
      i ∈ Region.ready md ops listed → YieldsIf P ops S oi v a → S w →
      wpAnyZ P md ops Q S z fuel (listed.setIfInBounds i true) (a.put oi.dst v) w → wpAnyZ P md ops Q S z (fuel + 1) listed a w := by
  intro fuel
  induction fuel with
  | zero =>
    intro listed a w _ _ hr hy hS H
    refine ⟨fun h => (by rw [h] at hr; cases hr), fun j hj => ?_⟩
    by_cases hji : j = i
    · subst hji; exact hy.wpOp hi hS ⟨fun _ => hS, H⟩
    · have := ready_mono hj hji
      rw [H.1] at this
      cases this
  | succ fuel ih =>
    intro listed a w hcl hfree hr hy hS H
    refine ⟨fun h => (by rw [h] at hr; cases hr), fun j hj => ?_⟩
    by_cases hji : j = i
    · subst hji; exact hy.wpOp hi hS ⟨fun _ => hS, H⟩
    · have h1 := H.2 j (ready_mono hj hji)
      obtain ⟨hjun, oj, hoj, hall⟩ := mem_ready.1 hj
      have hun := (mem_ready.1 hr).1
      have hisz : i < listed.size := by
        rcases Nat.lt_or_ge i listed.size with h' | h'
        · exact h'
        · simp [Array.getElem?_eq_none h'] at hun
      have hif : listed.getD i false = false := by
        simp [hisz] at hun ⊢
        exact hun
      have hnot : ∀ e ∈ oj.after, Region.binds md e = true → e.on ≠ i := fun e he hb heq => by
        have h1 := hall e he hb
        rw [heq, hif] at h1
        cases h1
      have hjz : j < z := by
        rcases Nat.lt_or_ge j z with h' | h'
        · exact h'
        · have := cover_all hz hzs hcl hj h' i hiz
          rw [hif] at this
          cases this
      have h2 := wpOp_putIf hoj (hfree j oj hoj hji hjun hnot) (fun cs b => hsel i oi cs b hi) (fun cs b => hsel j oj cs b hoj) hQ hy h1
      have hfree' : ∀ k ok, ops[k]? = some ok → k ≠ i → (listed.setIfInBounds j true).getD k true = false →
          (∀ e ∈ ok.after, Region.binds md e = true → e.on ≠ i) → oi.apart ops ok = true := fun k ok hk hki hun hno => by
        refine hfree k ok hk hki ?_ hno
        by_cases hjk : j = k
        · subst hjk; exact hjun
        · rw [getD_set_ne true hjk] at hun; exact hun
      refine wpOp_mono (fun a' w' h3 => ⟨fun _ => h3.2.1 hjz, ih (listed.setIfInBounds j true) a' w' (closed_set hcl hj) hfree' (ready_mono hr (Ne.symm hji)) h3.1 (h3.2.1 hjz) ?_⟩) h2
      rw [Array.setIfInBounds_comm _ _ hji]
      exact h3.2.2
/-- What is to be shown along an order. -/
def wpOrdZ (P : Program) (ops : Array Oper) (Q : Exit → Act → World → Prop) (S : World → Prop) (z : Nat) : Ord → Act → World → Prop
  | .fin, a, w => Q .normal a w
  | .take i k, a, w => i < z ∧ S w ∧ ∃ v o, ops[i]? = some o ∧ YieldsIf P ops S o v a ∧ wpOrdZ P ops Q S z k (a.put o.dst v) w
  | .run i k, a, w => wpOp P ops Q i (fun a' w' => (i < z → S w') ∧ wpOrdZ P ops Q S z k a' w') a w
  | .run2 i k i2 k2, a, w => wpOp P ops Q i (fun a' w' => (i < z → S w') ∧ wpOrdZ P ops Q S z k a' w') a w ∧ wpOp P ops Q i2 (fun a' w' => (i2 < z → S w') ∧ wpOrdZ P ops Q S z k2 a' w') a w
  | .run3 i k i2 k2 i3 k3, a, w => wpOp P ops Q i (fun a' w' => (i < z → S w') ∧ wpOrdZ P ops Q S z k a' w') a w ∧ wpOp P ops Q i2 (fun a' w' => (i2 < z → S w') ∧ wpOrdZ P ops Q S z k2 a' w') a w ∧ wpOp P ops Q i3 (fun a' w' => (i3 < z → S w') ∧ wpOrdZ P ops Q S z k3 a' w') a w
theorem wpAnyZ_ord (hs : Region.noSelect ops = true) (hQ : ∀ c a d v w, Q (.panic c) (a.put d v) w → Q (.panic c) a w) (hz : coverZ md ops z = true) (hzs : z < ops.size) :
    ∀ (ord : Ord) (fuel : Nat) (l : Array Bool) (a : Act) (w : World), Closed md ops l → ord.chk md ops fuel l = true → wpOrdZ P ops Q S z ord a w → wpAnyZ P md ops Q S z fuel l a w := by
  intro ord
  induction ord with
  | fin =>
    intro fuel l a w _ hc h
    have hr : Region.ready md ops l = [] := by
      unfold Ord.chk at hc
      simpa using hc
    cases fuel with
    | zero => exact ⟨hr, h⟩
    | succ f => exact ⟨fun _ => h, by rw [hr]; simp⟩
  | take i k ih =>
    intro fuel l a w hcl hc h
    cases fuel with
    | zero => simp [Ord.chk] at hc
    | succ f =>
      simp only [Ord.chk, Bool.and_eq_true] at hc
      obtain ⟨hiz, hS, v, o, ho, hy, h⟩ := h
      have hr : i ∈ Region.ready md ops l := by simpa using hc.1.1
      exact wpAnyZ_first ho (Region.noSelect_spec hs) (fun c a w => hQ c a o.dst v w) hz hzs hiz f l a w hcl (Region.free_spec ho hc.1.2) hr hy hS (ih f _ _ w (closed_set hcl hr) hc.2 h)
  | run i k ih =>
    intro fuel l a w hcl hc h
    cases fuel with
    | zero => simp [Ord.chk] at hc
    | succ f =>
      simp only [Ord.chk, Bool.and_eq_true] at hc
      have hr : i ∈ Region.ready md ops l := by simpa using hc.1.2
      refine ⟨fun h0 => (by rw [h0] at hr; cases hr), fun j hj => ?_⟩
      have hji : j = i := by simpa using List.all_eq_true.1 hc.1.1 j hj
      subst hji
      exact wpOp_mono (fun a' w' h' => ⟨h'.1, ih f _ a' w' (closed_set hcl hr) hc.2 h'.2⟩) h
  | run2 i k i2 k2 ih ih2 =>
    intro fuel l a w hcl hc h
    cases fuel with
    | zero => simp [Ord.chk] at hc
    | succ f =>
      simp only [Ord.chk, Bool.and_eq_true] at hc
      have hr : i ∈ Region.ready md ops l := by simpa using hc.1.1.1.2
      have hr2 : i2 ∈ Region.ready md ops l := by simpa using hc.1.1.2
      refine ⟨fun h0 => (by rw [h0] at hr; cases hr), fun j hj => ?_⟩
      have hji : j = i ∨ j = i2 := by simpa using List.all_eq_true.1 hc.1.1.1.1 j hj
      rcases hji with rfl | rfl
      · exact wpOp_mono (fun a' w' h' => ⟨h'.1, ih f _ a' w' (closed_set hcl hr) hc.1.2 h'.2⟩) h.1
      · exact wpOp_mono (fun a' w' h' => ⟨h'.1, ih2 f _ a' w' (closed_set hcl hr2) hc.2 h'.2⟩) h.2
  | run3 i k i2 k2 i3 k3 ih ih2 ih3 =>
    intro fuel l a w hcl hc h
    cases fuel with
    | zero => simp [Ord.chk] at hc
    | succ f =>
      simp only [Ord.chk, Bool.and_eq_true] at hc
      have hr : i ∈ Region.ready md ops l := by simpa using hc.1.1.1.1.1.2
      have hr2 : i2 ∈ Region.ready md ops l := by simpa using hc.1.1.1.1.2
      have hr3 : i3 ∈ Region.ready md ops l := by simpa using hc.1.1.1.2
      refine ⟨fun h0 => (by rw [h0] at hr; cases hr), fun j hj => ?_⟩
      have hji : j = i ∨ j = i2 ∨ j = i3 := by simpa [or_assoc] using List.all_eq_true.1 hc.1.1.1.1.1.1 j hj
      rcases hji with rfl | rfl | rfl
      · exact wpOp_mono (fun a' w' h' => ⟨h'.1, ih f _ a' w' (closed_set hcl hr) hc.1.1.2 h'.2⟩) h.1
      · exact wpOp_mono (fun a' w' h' => ⟨h'.1, ih2 f _ a' w' (closed_set hcl hr2) hc.1.2 h'.2⟩) h.2.1
      · exact wpOp_mono (fun a' w' h' => ⟨h'.1, ih3 f _ a' w' (closed_set hcl hr3) hc.2 h'.2⟩) h.2.2
/-- The region by an order; S holds behind each number under z. -/
theorem region_ordz {id : Nat} {a : Act} {w : World} {l : List Oper} (S : World → Prop) (z : Nat) (ord : Ord) (hm : P.follows .mixedOrders = true)
    (hc : (Region.noSelect l.toArray && coverZ .any l.toArray z && decide (z < l.length) && ord.chk .any l.toArray l.length (Array.replicate l.length false)) = true)
    (hQ : ∀ c a d v w, Q (.panic c) (a.put d v) w → Q (.panic c) a w)
    (h : ∀ w1, Below w.heap.size w w1 → Shut 0 (wpOrdZ P l.toArray Q S z ord a w1)) : (Code.region id l.toArray true).wp P Q a w := by
  simp only [Bool.and_eq_true, decide_eq_true_eq] at hc
  exact wp_region_any hm (wpAny_of_Z _ _ _ _ (wpAnyZ_ord hc.1.1.1 hQ hc.1.1.2 (by simpa using hc.1.2) ord _ _ a _ (closed_none _) (by simpa using hc.2) (h _ (bdraw w)).out))
section
variable {l : List Oper} {a : Act} {w : World} {i : Nat} {k : Ord} {o : Oper}
theorem ogz_take (ho : l[i]? = some o) (hw : Region.wanted o (yielded l.toArray a.tmps) = true) (hiz : i < z) (hS : S w) (h : ∃ v, (∀ w', S w' → (execOp a.eval o).run P w' = .ok (.value v) w') ∧ ∃ a', a.put o.dst v = a' ∧ Shut 0 (wpOrdZ P l.toArray Q S z k a' w)) :
    Shut 0 (wpOrdZ P l.toArray Q S z (.take i k) a w) := by
  obtain ⟨v, h1, _, rfl, h2⟩ := h
  exact ⟨hiz, hS, v, o, by simpa using ho, .inl ⟨hw, h1⟩, h2.out⟩
theorem ogz_skip (ho : l[i]? = some o) (hw : Region.wanted o (yielded l.toArray a.tmps) = false) (hiz : i < z) (hS : S w) (a' : Act) (ha : a.put o.dst undef = a') (h : Shut 0 (wpOrdZ P l.toArray Q S z k a' w)) :
    Shut 0 (wpOrdZ P l.toArray Q S z (.take i k) a w) := by
  subst ha
  exact ⟨hiz, hS, undef, o, by simpa using ho, .inr ⟨hw, rfl⟩, h.out⟩
theorem ogz_run (ho : l[i]? = some o) (hw : Region.wanted o (yielded l.toArray a.tmps) = true) (h : o.wp P a w (fun a' w' => (i < z → S w') ∧ Shut 0 (wpOrdZ P l.toArray Q S z k a' w')) Q) :
    Shut 0 (wpOrdZ P l.toArray Q S z (.run i k) a w) := by
  refine ⟨?_⟩
  unfold wpOrdZ wpOp
  rw [show l.toArray[i]? = some o by simpa using ho]
  simp only [hw, if_true]
  exact .inl (Oper.wp_mono (fun a' w' h => ⟨h.1, h.2.out⟩) h)
theorem ogz_run2 {i2 : Nat} {k2 : Ord} (h : Shut 0 (wpOrdZ P l.toArray Q S z (.run i k) a w)) (h2 : Shut 0 (wpOrdZ P l.toArray Q S z (.run i2 k2) a w)) : Shut 0 (wpOrdZ P l.toArray Q S z (.run2 i k i2 k2) a w) := ⟨h.out, h2.out⟩
theorem ogz_run3 {i2 i3 : Nat} {k2 k3 : Ord} (h : Shut 0 (wpOrdZ P l.toArray Q S z (.run i k) a w)) (h2 : Shut 0 (wpOrdZ P l.toArray Q S z (.run i2 k2) a w)) (h3 : Shut 0 (wpOrdZ P l.toArray Q S z (.run i3 k3) a w)) : Shut 0 (wpOrdZ P l.toArray Q S z (.run3 i k i2 k2 i3 k3) a w) := ⟨h.out, h2.out, h3.out⟩
theorem ogz_fin (h : Q .normal a w) : Shut 0 (wpOrdZ P l.toArray Q S z .fin a w) := ⟨h⟩
theorem ogz_ld (ho : l[i]? = some o) (hw : Region.wanted o (yielded l.toArray a.tmps) = true) (hiz : i < z) (hS : S w) (ty : TypeId) (x : Operand) (hop : o.op = .load ty x) (p : Value) (hx : a.eval x = p) (v : Value) (hl : ∀ w', S w' → (Instr.loadAt ty p).run P w' = .ok v w')
    (a' : Act) (ha : a.put o.dst v = a') (h : Shut 0 (wpOrdZ P l.toArray Q S z k a' w)) : Shut 0 (wpOrdZ P l.toArray Q S z (.take i k) a w) := by
  subst ha
  refine ⟨hiz, hS, v, o, by simpa using ho, .inl ⟨hw, fun w' h' => ?_⟩, h.out⟩
  simp only [execOp, hop, hx, Sem.run_bind, hl w' h', Result.andThen_ok, Sem.run_pure]
end
end
end Cop
namespace Go.Proofs.YtbjbdnlgoifamaaDoor
open Go.RowKit Cop
set_option linter.unusedVariables false
set_option linter.unusedSimpArgs false
/-- What is returned stands in two rows. -/
theorem ret_row2 {P : Program} {fn : Func} {R : Ending → World → Prop} {a : Act} {w : World} {p q : Tmp} {ty : TypeId} (h : fn.results = #[.cell p ty, .cell q ty]) (hd0 : a.defers = []) (g g2 : Nat) (hp : a.tmps.getD p undef = .pointer (some ⟨g, 0, none⟩)) (hq : a.tmps.getD q undef = .pointer (some ⟨g2, 0, none⟩))
    (t : TypeId) (cs cs2 : Array Value) (d : TypeDesc) (hg : w.heap[g]? = some (.cells cs t (0, 0))) (hg2 : w.heap[g2]? = some (.cells cs2 t (0, 0))) (hu : P.underlying ty = some d) (hd : (match d with | .struct _ | .array _ _ => true | _ => false) = true) (hi : (P.info? ty).map (·.size) = some cs.size) (hi2 : (P.info? ty).map (·.size) = some cs2.size)
    (hR : R (.returned (.tuple #[.agg cs, .agg cs2])) w) : bodyPost P fn R .ret a w := by
  refine bodyPost_ret (v := .tuple #[.agg cs, .agg cs2]) ?_ hd0 hR
  have hld := run_loadVar_row (P := P) w g t ty cs (0, 0) d hg hu (by revert hd; cases d <;> simp) hi
  have hld2 := run_loadVar_row (P := P) w g2 t ty cs2 (0, 0) d hg2 hu (by revert hd; cases d <;> simp) hi2
  have hp2 : a.tmps[p]?.getD undef = .pointer (some ⟨g, 0, none⟩) := by rw [← hp]; simp
  have hq2 : a.tmps[q]?.getD undef = .pointer (some ⟨g2, 0, none⟩) := by rw [← hq]; simp
  simp only [results, h]
  simp [Sem.run_bind, Result.andThen, hp2, hq2, asAddr, hld, hld2]
/-- What is returned stands in two rows, and beside them in a slot. -/
theorem ret_row2t {P : Program} {fn : Func} {R : Ending → World → Prop} {a : Act} {w : World} {p q s : Tmp} {ty : TypeId} (h : fn.results = #[.cell p ty, .cell q ty, .tmp s]) (hd0 : a.defers = []) (g g2 : Nat) (hp : a.tmps.getD p undef = .pointer (some ⟨g, 0, none⟩)) (hq : a.tmps.getD q undef = .pointer (some ⟨g2, 0, none⟩))
    (t : TypeId) (cs cs2 : Array Value) (d : TypeDesc) (hg : w.heap[g]? = some (.cells cs t (0, 0))) (hg2 : w.heap[g2]? = some (.cells cs2 t (0, 0))) (hu : P.underlying ty = some d) (hd : (match d with | .struct _ | .array _ _ => true | _ => false) = true) (hi : (P.info? ty).map (·.size) = some cs.size) (hi2 : (P.info? ty).map (·.size) = some cs2.size)
    (v : Value) (hv : a.tmps.getD s undef = v) (hR : R (.returned (.tuple #[.agg cs, .agg cs2, v])) w) : bodyPost P fn R .ret a w := by
  refine bodyPost_ret (v := .tuple #[.agg cs, .agg cs2, v]) ?_ hd0 hR
  have hld := run_loadVar_row (P := P) w g t ty cs (0, 0) d hg hu (by revert hd; cases d <;> simp) hi
  have hld2 := run_loadVar_row (P := P) w g2 t ty cs2 (0, 0) d hg2 hu (by revert hd; cases d <;> simp) hi2
  have hp2 : a.tmps[p]?.getD undef = .pointer (some ⟨g, 0, none⟩) := by rw [← hp]; simp
  have hq2 : a.tmps[q]?.getD undef = .pointer (some ⟨g2, 0, none⟩) := by rw [← hq]; simp
  have hv2 : a.tmps[s]?.getD undef = v := by rw [← hv]; simp
  simp only [results, h]
  simp [Sem.run_bind, Result.andThen, hp2, hq2, asAddr, hld, hld2, hv2]
theorem ordered_ok (m n : Nat) (w : World) (h1 : 1 ≤ m) (h2 : m ≤ n) (hn : n ≤ 281474976710656) : Calls Tryd.prog 79 #[.int .i64 m, .int .i64 n] w fun e w' => e = .returned (.bool true) ∧ w = w' := by
  have k1 : 1 ≤ (m : Int) := by omega
  have k2 : (m : Int) ≤ (n : Int) := by omega
  have k3 : decide ((n : Int) ≤ 281474976710656) = true := by simp; omega
  go_enter Tryd.func79, Tryd.ntmps79
  go_wp2
  go_ret
  exact ⟨rfl, rfl⟩
theorem ordered_bad (m n : Int) (w : World) (h : ¬ okS m n) : Calls Tryd.prog 79 #[.int .i64 m, .int .i64 n] w fun e w' => e = .returned (.bool false) ∧ w = w' := by
  unfold okS at h
  rcases (show ¬ 1 ≤ m ∨ (1 ≤ m ∧ ¬ m ≤ n) ∨ (1 ≤ m ∧ m ≤ n ∧ ¬ n ≤ 281474976710656) from by omega) with h1 | ⟨h1, h2⟩ | ⟨h1, h2, h3⟩
  all_goals
    clear h
    go_enter Tryd.func79, Tryd.ntmps79
    go_wp2
    go_ret
    exact ⟨rfl, rfl⟩
theorem count_ts (A : Option Addr) (c : Nat) (ts : List Bool) (b : Bool) (w : World) (hL : ts.length ≤ 48) :
    Calls Tryd.prog 81 #[.slice A ts.length c, .bool b] w fun e w' => e = .returned (.int .i64 (cnt ts b : Nat)) ∧ w = w' := by
  cases b
  · exact count56f A ts.length c w hL
  · exact count56t A ts.length c w hL
set_option maxRecDepth 100000 in
set_option maxHeartbeats 4000000 in
theorem vroots_bad (leaf : List UInt8) (m n : Int) (v : Value) (w : World) (h : ¬ okS m n) : Gives 55 #[.agg (bv leaf), .int .i64 m, .int .i64 n, v] w (.tuple #[.agg (bv (List.replicate 32 0)), .agg (bv (List.replicate 32 0)), .int .i64 40]) := by
  have CB := Lib.hid (fun w => ordered_bad m n w h)
  have HS0 := Sep.start w
  clear h
  go_enter Tryd.func55, Tryd.ntmps55
  go_wp2_with (first | refine wl_bx HS0 rfl 24 _ rfl (bv leaf) rfl ?_)
  intro g1 w1 HS1
  go_wp2_with (first | refine wl_al HS1 rfl 24 rfl (bv (List.replicate 32 0)) (by kernel_rfl) ?_)
  intro g2 w2 HS2
  go_wp2_with (first | refine wl_al HS2 rfl 24 rfl (bv (List.replicate 32 0)) (by kernel_rfl) ?_)
  intro g3 w3 HS3
  go_wp2_with fail
  (with_reducible refine Calls.mono (CB.out w3) ?_)
  rintro e wx ⟨rfl, rfl⟩
  go_wp2
  refine Cop.region_ord (fun w' => Sep w.heap.size w w' [.row g3 (bv (List.replicate 32 0)) 24, .row g2 (bv (List.replicate 32 0)) 24, .row g1 (bv leaf) 24]) 4 (.take 0 (.take 1 (.run 2 (.run 3 (.take 4 Cop.Ord.fin))))) (by kernel_rfl) (by kernel_rfl) (fun _ _ d _ _ h => by cases d <;> exact h) ?_
  intro wa hda
  have HSx := HS3.keep hda
  clear HS3
  (repeat (first | (refine Cop.og_skip rfl rfl HSx _ (by (simp only [Act.put, List.setIfInBounds_toArray, List.set_cons_succ, List.set_cons_zero]; rfl)) ?_) | (refine Cop.og_ld rfl rfl HSx 24 _ rfl (.pointer (some ⟨g2, 0, none⟩)) rfl _ (fun w9 h9 => load_row (h9.row 1 rfl) 24 Tryd.underlying24 rfl (dgS rfl)) _ (by (simp only [Act.put, List.setIfInBounds_toArray, List.set_cons_succ, List.set_cons_zero]; rfl)) ?_) | (refine Cop.og_ld rfl rfl HSx 24 _ rfl (.pointer (some ⟨g3, 0, none⟩)) rfl _ (fun w9 h9 => load_row (h9.row 0 rfl) 24 Tryd.underlying24 rfl (dgS rfl)) _ (by (simp only [Act.put, List.setIfInBounds_toArray, List.set_cons_succ, List.set_cons_zero]; rfl)) ?_) | (refine Cop.og_take rfl rfl HSx ?_; apply Exists.intro; refine ⟨fun w9 h9 => ?_, _, by (simp only [Act.put, List.setIfInBounds_toArray, List.set_cons_succ, List.set_cons_zero]; rfl), ?_⟩; (go_simp; with_reducible rfl))))
  refine Cop.og_run rfl rfl ?_
  refine ow_st HSx 1 rfl 24 _ _ rfl rfl rfl (dgS rfl) (dgE rfl rfl) (bv_one _) ?_
  intro wb HSy
  refine ⟨fun _ => HSy, ?_⟩
  refine Cop.og_run rfl rfl ?_
  refine ow_st HSy 0 rfl 24 _ _ rfl rfl rfl (dgS rfl) (dgE rfl rfl) (bv_one _) ?_
  intro wc HSe
  refine ⟨fun _ => HSe, ?_⟩
  (repeat (first | (refine Cop.og_skip rfl rfl HSe _ (by (simp only [Act.put, List.setIfInBounds_toArray, List.set_cons_succ, List.set_cons_zero]; rfl)) ?_) | (refine Cop.og_take rfl rfl HSe ?_; apply Exists.intro; refine ⟨fun w9 h9 => ?_, _, by (simp only [Act.put, List.setIfInBounds_toArray, List.set_cons_succ, List.set_cons_zero]; rfl), ?_⟩; (go_simp; with_reducible rfl))))
  refine og_fin ?_
  go_wp2_with fail
  exact ret_row2t rfl rfl g2 g3 rfl rfl 24 (bv (List.replicate 32 0)) (bv (List.replicate 32 0)) _ (HSe.row 1 rfl) (HSe.row 0 rfl) Tryd.underlying24 rfl (dgS rfl) (dgS rfl) (.int .i64 40) rfl ⟨rfl, HSe.hb⟩
set_option maxRecDepth 100000 in
set_option maxHeartbeats 4000000 in
theorem vroots_short (leaf : List UInt8) (m n : Nat) (A : Option Addr) (p c : Nat) (ts : List Bool) (b : Bool) (w : World) (h1 : 1 ≤ m) (h2 : m ≤ n) (hn : n ≤ 281474976710656) (hne : cnt ts b ≠ p) (hm : p ≤ 4398046511104) (hts : ts.length ≤ 48)
    (hCW : ∀ w', Calls Tryd.prog 80 #[.int .i64 m, .int .i64 n] w' fun e w'' => ∃ v, e = .returned (.tuple #[v, .bool b]) ∧ Below w'.heap.size w' w'' ∧ w''.ownsRow w'.heap.size 134 1 v ts.length (ts.map Value.bool)) :
    Gives 55 #[.agg (bv leaf), .int .i64 m, .int .i64 n, .slice A p c] w (.tuple #[.agg (bv (List.replicate 32 0)), .agg (bv (List.replicate 32 0)), .int .i64 70]) := by
  have CB := Lib.hid (fun w => ordered_ok m n w h1 h2 hn)
  have CW := Lib.hid hCW
  have CC := Lib.hid (fun A c w => count_ts A c ts b w hts)
  obtain ⟨C, hC⟩ : ∃ C, cnt ts b = C := ⟨_, rfl⟩
  rw [hC] at CC hne
  have HS0 := Sep.start w
  have hne2 : ¬ (C : Int) = (p : Int) := by omega
  have hCb : (C : Int) ≤ 49 := by rw [← hC]; unfold cnt; split <;> omega
  clear hCW hne hC h1 h2
  go_enter Tryd.func55, Tryd.ntmps55
  go_wp2_with (first | refine wl_bx HS0 rfl 24 _ rfl (bv leaf) rfl ?_)
  intro g1 w1 HS1
  go_wp2_with (first | refine wl_al HS1 rfl 24 rfl (bv (List.replicate 32 0)) (by kernel_rfl) ?_)
  intro g2 w2 HS2
  go_wp2_with (first | refine wl_al HS2 rfl 24 rfl (bv (List.replicate 32 0)) (by kernel_rfl) ?_)
  intro g3 w3 HS3
  go_wp2_with fail
  (with_reducible refine Calls.mono (CB.out w3) ?_)
  rintro e wx ⟨rfl, rfl⟩
  go_wp2_with fail
  refine Calls.mono (CW.out w3) ?_
  rintro e w4 ⟨v4, rfl, b4, o4⟩
  have HS4 := HS3.madeRow b4 o4
  obtain ⟨A4, c4, rfl, _⟩ := (HS4.own 0 rfl).sl
  clear HS3 o4
  go_wp2_with fail
  (with_reducible refine Calls.mono (CC.out _ _ w4) ?_)
  rintro e wx ⟨rfl, rfl⟩
  go_wp2
  refine Cop.region_ord (fun w' => Sep w.heap.size w w' [.own (.slice A4 ts.length c4) 134 1 ts.length (ts.map Value.bool), .row g3 (bv (List.replicate 32 0)) 24, .row g2 (bv (List.replicate 32 0)) 24, .row g1 (bv leaf) 24]) 4 (.take 0 (.take 1 (.run 2 (.run 3 (.take 4 Cop.Ord.fin))))) (by kernel_rfl) (by kernel_rfl) (fun _ _ d _ _ h => by cases d <;> exact h) ?_
  intro wa hda
  have HSx := HS4.keep hda
  clear HS4
  (repeat (first | (refine Cop.og_skip rfl rfl HSx _ (by (simp only [Act.put, List.setIfInBounds_toArray, List.set_cons_succ, List.set_cons_zero]; rfl)) ?_) | (refine Cop.og_ld rfl rfl HSx 24 _ rfl (.pointer (some ⟨g2, 0, none⟩)) rfl _ (fun w9 h9 => load_row (h9.row 2 rfl) 24 Tryd.underlying24 rfl (dgS rfl)) _ (by (simp only [Act.put, List.setIfInBounds_toArray, List.set_cons_succ, List.set_cons_zero]; rfl)) ?_) | (refine Cop.og_ld rfl rfl HSx 24 _ rfl (.pointer (some ⟨g3, 0, none⟩)) rfl _ (fun w9 h9 => load_row (h9.row 1 rfl) 24 Tryd.underlying24 rfl (dgS rfl)) _ (by (simp only [Act.put, List.setIfInBounds_toArray, List.set_cons_succ, List.set_cons_zero]; rfl)) ?_) | (refine Cop.og_take rfl rfl HSx ?_; apply Exists.intro; refine ⟨fun w9 h9 => ?_, _, by (simp only [Act.put, List.setIfInBounds_toArray, List.set_cons_succ, List.set_cons_zero]; rfl), ?_⟩; (go_simp; with_reducible rfl))))
  refine Cop.og_run rfl rfl ?_
  refine ow_st HSx 2 rfl 24 _ _ rfl rfl rfl (dgS rfl) (dgE rfl rfl) (bv_one _) ?_
  intro wb HSy
  refine ⟨fun _ => HSy, ?_⟩
  refine Cop.og_run rfl rfl ?_
  refine ow_st HSy 1 rfl 24 _ _ rfl rfl rfl (dgS rfl) (dgE rfl rfl) (bv_one _) ?_
  intro wc HSe
  refine ⟨fun _ => HSe, ?_⟩
  (repeat (first | (refine Cop.og_skip rfl rfl HSe _ (by (simp only [Act.put, List.setIfInBounds_toArray, List.set_cons_succ, List.set_cons_zero]; rfl)) ?_) | (refine Cop.og_take rfl rfl HSe ?_; apply Exists.intro; refine ⟨fun w9 h9 => ?_, _, by (simp only [Act.put, List.setIfInBounds_toArray, List.set_cons_succ, List.set_cons_zero]; rfl), ?_⟩; (go_simp; with_reducible rfl))))
  refine og_fin ?_
  go_wp2_with fail
  exact ret_row2t rfl rfl g2 g3 rfl rfl 24 (bv (List.replicate 32 0)) (bv (List.replicate 32 0)) _ (HSe.row 2 rfl) (HSe.row 1 rfl) Tryd.underlying24 rfl (dgS rfl) (dgS rfl) (.int .i64 70) rfl ⟨rfl, HSe.hb⟩
end Go.Proofs.YtbjbdnlgoifamaaDoor
namespace Go.Proofs.YtbjbdnlgoifamaaDoor
open Go.RowKit Cop
set_option linter.unusedVariables false
set_option linter.unusedSimpArgs false
set_option maxRecDepth 100000 in
set_option maxHeartbeats 8000000 in
theorem vroots_t (nd : List UInt8 → List UInt8 → List UInt8) (FA FB : Nat → List UInt8) (ts : List Bool) (p : List (List UInt8)) (leaf : List UInt8) (m n : Nat) (v : Value) (w : World) (h1 : 1 ≤ m) (h2 : m ≤ n) (hn : n ≤ 281474976710656) (hts : ts.length ≤ 48) (hlen : ts.length = p.length) (hp : AllD (p)) (hlf : leaf.length = 32) (hR : Rd w v (p).length 32 (dcs (p)))
    (hA0 : FA 0 = leaf) (hB0 : FB 0 = leaf) (hAl : ∀ k, (FA k).length = 32) (hBl : ∀ k, (FB k).length = 32)
    (hDt : ∀ k, k < p.length → ts.getD (p.length - 1 - k) false = true → FA (k + 1) = FA k ∧ FB (k + 1) = nd (FB k) (p.getD k []))
    (hDf : ∀ k, k < p.length → ts.getD (p.length - 1 - k) false = false → FA (k + 1) = nd (p.getD k []) (FA k) ∧ FB (k + 1) = nd (p.getD k []) (FB k))
    (hCW : ∀ w', Calls Tryd.prog 80 #[.int .i64 m, .int .i64 n] w' fun e w'' => ∃ v, e = .returned (.tuple #[v, .bool true]) ∧ Below w'.heap.size w' w'' ∧ w''.ownsRow w'.heap.size 134 1 v ts.length (ts.map Value.bool))
    (hCN : ∀ w' a b, Below w.heap.size w w' → a.length = 32 → b.length = 32 → Gives 45 #[.agg (bv a), .agg (bv b)] w' (.agg (bv (nd a b)))) :
    Gives 55 #[.agg (bv leaf), .int .i64 m, .int .i64 n, v] w (.tuple #[.agg (bv (FA p.length)), .agg (bv (FB p.length)), .int .i64 0]) := by
  have CB := Lib.hid (fun w => ordered_ok m n w h1 h2 hn)
  have CW := Lib.hid hCW
  have CN := Lib.hid hCN
  have CC := Lib.hid (fun A c w => count_ts A c ts true w hts)
  have HA0 := Lib.hid hA0
  have HB0 := Lib.hid hB0
  have HAL := Lib.hid hAl
  have HBL := Lib.hid hBl
  have HDT := Lib.hid hDt
  have HDF := Lib.hid hDf
  obtain ⟨L, hL⟩ : ∃ L, p.length = L := ⟨_, rfl⟩
  rw [hL] at hlen HDT HDF ⊢
  have hcn : cnt ts true = L := by rw [← hlen]; rfl
  rw [hcn] at CC
  rw [hlen] at CC CW hts
  have HLE := Lib.hid hlen
  have HPL := Lib.hid hL
  rw [hL] at hR
  have HPP := Lib.hid hp
  have HS0 := (Sep.start w).arg0 hR
  obtain ⟨A0, c, rfl, hc, hcm⟩ := hR.shape
  clear hCW hCN hA0 hB0 hAl hBl hDt hDf hp hL hR hlen hcn h1 h2
  go_enter Tryd.func55, Tryd.ntmps55
  go_wp2_with (first | refine wl_bx HS0 rfl 24 _ rfl (bv leaf) rfl ?_)
  intro g1 w1 HS1
  go_wp2_with (first | refine wl_al HS1 rfl 24 rfl (bv (List.replicate 32 0)) (by kernel_rfl) ?_)
  intro g2 w2 HS2
  go_wp2_with (first | refine wl_al HS2 rfl 24 rfl (bv (List.replicate 32 0)) (by kernel_rfl) ?_)
  intro g3 w3 HS3
  go_wp2_with fail
  (with_reducible refine Calls.mono (CB.out w3) ?_)
  rintro e wx ⟨rfl, rfl⟩
  go_wp2_with fail
  refine Calls.mono (CW.out w3) ?_
  rintro e w4 ⟨v4, rfl, b4, o4⟩
  have HS4 := HS3.madeRow b4 o4
  obtain ⟨A4, c4, rfl, _⟩ := (HS4.own 0 rfl).sl
  clear HS0 HS1 HS2 HS3 o4
  go_wp2_with fail
  (with_reducible refine Calls.mono (CC.out _ _ w4) ?_)
  rintro e wx ⟨rfl, rfl⟩
  go_wp2_with (first | refine wl_ld HS4 3 rfl rfl 24 _ rfl rfl Tryd.underlying24 rfl (dgS hlf) ?_ | refine wl_st HS4 2 rfl rfl 24 _ _ rfl rfl rfl (dgS hlf) (dgE rfl hlf) (bv_one _) ?_)
  intro w5 HS5
  clear HS4
  go_wp2_with (first | refine wl_ld HS5 2 rfl rfl 24 _ rfl rfl Tryd.underlying24 rfl (dgS hlf) ?_ | refine wl_st HS5 1 rfl rfl 24 _ _ rfl rfl rfl (dgS hlf) (dgE rfl hlf) (bv_one _) ?_)
  intro w9 HS9
  clear HS5
  go_wp2
  go_loopw [46] (fun s46 wr => ∃ k : Nat, k ≤ L ∧ s46 = .int .i64 k ∧ Sep w.heap.size w wr [.own (.slice A4 L c4) 134 1 L (ts.map Value.bool), .row g3 (bv (FB k)) 24, .row g2 (bv (FA k)) 24, .row g1 (bv leaf) 24, .rd (.slice A0 L c) L 32 (dcs p)]) (fun s46 _ => L - (intOf s46).toNat)
  case atStart => exact ⟨0, by omega, rfl, by rw [HA0.out, HB0.out]; exact HS9⟩
  case round =>
    clear HS9
    obtain ⟨k, hk, rfl, HSi⟩ := hrel
    by_cases hlt : k < L
    · have hlt' : (k : Int) < (L : Int) := by omega
      obtain ⟨d, hd⟩ : ∃ d, p.getD k [] = d := ⟨_, rfl⟩
      have hdl : d.length = 32 := by rw [← hd]; exact dg_len HPP.out k (by rw [HPL.out]; exact hlt)
      obtain ⟨b1, o1, rfl⟩ := rd_some (HSi.rd 4 rfl) (by omega)
      obtain ⟨g5, rfl⟩ := Ow.addr (HSi.own 0 rfl) (by omega)
      have HLD := Lib.hid (load_dg (HSi.rd 4 rfl) HPL.out.symm HPP.out k (by rw [HPL.out]; exact hlt) d hd)
      have hDT := HDT.out k hlt
      have hDF := HDF.out k hlt
      rw [hd] at hDT hDF
      obtain ⟨m, hm⟩ : ∃ m, L - 1 - k = m := ⟨_, rfl⟩
      have hmL : (L : Int) - 1 - (k : Int) = (m : Int) := by omega
      have hmlt : m < L := by omega
      rw [hm] at hDT hDF
      obtain ⟨t, ht⟩ : ∃ t, ts.getD m false = t := ⟨_, rfl⟩
      rw [ht] at hDT hDF
      have HTC := Lib.hid (fun (W : World) (h : Ow W w.heap.size 134 1 (.slice (some ⟨g5, 0, none⟩) L c4) L (ts.map Value.bool)) => by
        have := turn_cell h m (by rw [HLE.out]; exact hmlt)
        rw [ht] at this
        exact this)
      have HXL := Lib.hid (HAL.out k)
      have HYL := Lib.hid (HBL.out k)
      have HXS := Lib.hid (HAL.out (k + 1))
      have HYS := Lib.hid (HBL.out (k + 1))
      obtain ⟨X, hX⟩ : ∃ X, FA k = X := ⟨_, rfl⟩
      obtain ⟨Y, hY⟩ : ∃ Y, FB k = Y := ⟨_, rfl⟩
      obtain ⟨X2, hX2⟩ : ∃ X, FA (k + 1) = X := ⟨_, rfl⟩
      obtain ⟨Y2, hY2⟩ : ∃ Y, FB (k + 1) = Y := ⟨_, rfl⟩
      rw [hX] at HSi HXL hDT hDF
      rw [hY] at HSi HYL hDT hDF
      rw [hX2] at HXS hDT hDF
      rw [hY2] at HYS hDT hDF
      have HX2 := Lib.hid hX2
      have HY2 := Lib.hid hY2
      have HDT2 := Lib.hid hDT
      have HDF2 := Lib.hid hDF
      have hmi : (m : Int) < (L : Int) := by omega
      clear hd hDT hDF hm ht hX hY hX2 hY2
      go_wp2_with (first | refine wl_ldx rfl 24 _ rfl _ rfl (.agg (bv d)) HLD.out ?_ | refine wl_al HSi rfl 24 rfl (bv (List.replicate 32 0)) (by kernel_rfl) ?_)
      intro g6 w6 HS6
      go_wp2_with (first | refine wl_st HS6 0 rfl rfl 24 _ _ rfl rfl rfl (dgS hdl) (dgE rfl hdl) (bv_one _) ?_)
      intro w7 HS7
      have htc := HTC.out w7 (HS7.own 1 rfl)
      clear HSi HS6
      cases t with
      | true =>
        obtain ⟨e1, e2⟩ := HDT2.out rfl
        have HCN := Lib.hid (fun w' hb => CN.out w' Y d hb HYL.out hdl)
        rw [← e2] at HCN
        have E1 := Lib.hid e1
        clear e1 e2
        go_wp2_with (first | refine wl_ld HS7 2 rfl rfl 24 _ rfl rfl Tryd.underlying24 rfl (dgS HYL.out) ?_ | refine wl_ld HS7 0 rfl rfl 24 _ rfl rfl Tryd.underlying24 rfl (dgS hdl) ?_)
        (with_reducible refine Calls.mono (HCN.out w7 HS7.hb) ?_)
        rintro e w8 ⟨rfl, b8⟩
        have HS8 := HS7.keep b8
        clear HS7
        go_wp2_with (first | refine wl_st HS8 2 rfl rfl 24 _ _ rfl rfl rfl (dgS HYS.out) (dgE HYL.out HYS.out) (bv_one _) ?_)
        intro wt HSt
        go_wp2
        go_roundw
        case rel => exact ⟨k + 1, by omega, by go_num, by rw [HX2.out, HY2.out, E1.out]; exact HSt.tail⟩
        case measure => simp [intOf]; omega
      | false =>
        obtain ⟨e1, e2⟩ := HDF2.out rfl
        have HCX := Lib.hid (fun w' hb => CN.out w' d X hb hdl HXL.out)
        have HCY := Lib.hid (fun w' hb => CN.out w' d Y hb hdl HYL.out)
        rw [← e1] at HCX
        rw [← e2] at HCY
        clear e1 e2
        go_wp2
        refine Cop.region_ordz (fun w' => Sep w.heap.size w w' [.row g6 (bv d) 24, .own (.slice (some ⟨g5, 0, none⟩) L c4) 134 1 L (ts.map Value.bool), .row g3 (bv Y) 24, .row g2 (bv X) 24, .row g1 (bv leaf) 24]) 6 (.take 0 (.take 1 (.take 3 (.take 4 (.run 2 (.run 5 (.run 6 (.run 7 Cop.Ord.fin)))))))) (by kernel_rfl) (by kernel_rfl) (fun _ _ d _ _ h => by cases d <;> exact h) ?_
        intro wa hda
        have HSa := HS7.keep hda
        clear HS7
        have HSz := HSa.sub (R' := [.row g6 (bv d) 24, .own (.slice (some ⟨g5, 0, none⟩) L c4) 134 1 L (ts.map Value.bool), .row g3 (bv Y) 24, .row g2 (bv X) 24, .row g1 (bv leaf) 24]) (by repeat (first | exact List.nil_sublist _ | exact List.Sublist.refl _ | apply List.Sublist.cons_cons | apply List.Sublist.cons))
        (repeat (first | (refine Cop.ogz_skip rfl rfl (by decide) HSz _ (by (simp only [Act.put, List.setIfInBounds_toArray, List.set_cons_succ, List.set_cons_zero]; rfl)) ?_) | (refine Cop.ogz_ld rfl rfl (by decide) HSz 24 _ rfl (.pointer (some ⟨g6, 0, none⟩)) rfl _ (fun w9 h9 => load_row (h9.row 0 rfl) 24 Tryd.underlying24 rfl (dgS hdl)) _ (by (simp only [Act.put, List.setIfInBounds_toArray, List.set_cons_succ, List.set_cons_zero]; rfl)) ?_) | (refine Cop.ogz_ld rfl rfl (by decide) HSz 24 _ rfl (.pointer (some ⟨g2, 0, none⟩)) rfl _ (fun w9 h9 => load_row (h9.row 3 rfl) 24 Tryd.underlying24 rfl (dgS HXL.out)) _ (by (simp only [Act.put, List.setIfInBounds_toArray, List.set_cons_succ, List.set_cons_zero]; rfl)) ?_) | (refine Cop.ogz_ld rfl rfl (by decide) HSz 24 _ rfl (.pointer (some ⟨g3, 0, none⟩)) rfl _ (fun w9 h9 => load_row (h9.row 2 rfl) 24 Tryd.underlying24 rfl (dgS HYL.out)) _ (by (simp only [Act.put, List.setIfInBounds_toArray, List.set_cons_succ, List.set_cons_zero]; rfl)) ?_) | (refine Cop.ogz_take rfl rfl (by decide) HSz ?_; apply Exists.intro; refine ⟨fun w9 h9 => ?_, _, by (simp only [Act.put, List.setIfInBounds_toArray, List.set_cons_succ, List.set_cons_zero]; rfl), ?_⟩; (go_simp; with_reducible rfl))))
        refine Cop.ogz_run rfl rfl ?_
        refine ow_call 45 _ _ (fun w' => Below wa.heap.size wa w') (by go_simp) (HCX.out wa HSa.hb) ?_
        intro wb bb
        have HSb := HSa.keep bb
        refine ⟨fun _ => HSb.sub (by repeat (first | exact List.nil_sublist _ | exact List.Sublist.refl _ | apply List.Sublist.cons_cons | apply List.Sublist.cons)), ?_⟩
        refine Cop.ogz_run rfl rfl ?_
        refine ow_call 45 _ _ (fun w' => Below wb.heap.size wb w') (by go_simp) (HCY.out wb HSb.hb) ?_
        intro wc bc
        have HSc := HSb.keep bc
        refine ⟨fun _ => HSc.sub (by repeat (first | exact List.nil_sublist _ | exact List.Sublist.refl _ | apply List.Sublist.cons_cons | apply List.Sublist.cons)), ?_⟩
        refine Cop.ogz_run rfl rfl ?_
        refine ow_st HSc 3 rfl 24 _ _ rfl rfl rfl (dgS HXS.out) (dgE HXL.out HXS.out) (bv_one _) ?_
        intro wd HSd
        refine ⟨fun h => absurd h (by decide), ?_⟩
        refine Cop.ogz_run rfl rfl ?_
        refine ow_st HSd 2 rfl 24 _ _ rfl rfl rfl (dgS HYS.out) (dgE HYL.out HYS.out) (bv_one _) ?_
        intro we HSe
        refine ⟨fun h => absurd h (by decide), ?_⟩
        refine ogz_fin ?_
        go_wp2
        go_roundw
        case rel => exact ⟨k + 1, by omega, by go_num, by rw [HX2.out, HY2.out]; exact HSe.tail⟩
        case measure => simp [intOf]; omega
    · have hkL : k = L := by omega
      subst hkL
      have hXl := HAL.out k
      have hYl := HBL.out k
      go_wp2
      refine Cop.region_ord (fun w' => Sep w.heap.size w w' [.own (.slice A4 k c4) 134 1 k (ts.map Value.bool), .row g3 (bv (FB k)) 24, .row g2 (bv (FA k)) 24, .row g1 (bv leaf) 24, .rd (.slice A0 k c) k 32 (dcs p)]) 4 (.take 0 (.take 1 (.run 2 (.run 3 (.take 4 Cop.Ord.fin))))) (by kernel_rfl) (by kernel_rfl) (fun _ _ d _ _ h => by cases d <;> exact h) ?_
      intro wa hda
      have HSx := HSi.keep hda
      clear HSi
      (repeat (first | (refine Cop.og_skip rfl rfl HSx _ (by (simp only [Act.put, List.setIfInBounds_toArray, List.set_cons_succ, List.set_cons_zero]; rfl)) ?_) | (refine Cop.og_ld rfl rfl HSx 24 _ rfl (.pointer (some ⟨g2, 0, none⟩)) rfl _ (fun w9 h9 => load_row (h9.row 2 rfl) 24 Tryd.underlying24 rfl (dgS hXl)) _ (by (simp only [Act.put, List.setIfInBounds_toArray, List.set_cons_succ, List.set_cons_zero]; rfl)) ?_) | (refine Cop.og_ld rfl rfl HSx 24 _ rfl (.pointer (some ⟨g3, 0, none⟩)) rfl _ (fun w9 h9 => load_row (h9.row 1 rfl) 24 Tryd.underlying24 rfl (dgS hYl)) _ (by (simp only [Act.put, List.setIfInBounds_toArray, List.set_cons_succ, List.set_cons_zero]; rfl)) ?_) | (refine Cop.og_take rfl rfl HSx ?_; apply Exists.intro; refine ⟨fun w9 h9 => ?_, _, by (simp only [Act.put, List.setIfInBounds_toArray, List.set_cons_succ, List.set_cons_zero]; rfl), ?_⟩; (go_simp; with_reducible rfl))))
      refine Cop.og_run rfl rfl ?_
      refine ow_st HSx 2 rfl 24 _ _ rfl rfl rfl (dgS hXl) (dgE hXl hXl) (bv_one _) ?_
      intro wb HSy
      refine ⟨fun _ => HSy, ?_⟩
      refine Cop.og_run rfl rfl ?_
      refine ow_st HSy 1 rfl 24 _ _ rfl rfl rfl (dgS hYl) (dgE hYl hYl) (bv_one _) ?_
      intro wc HSe
      refine ⟨fun _ => HSe, ?_⟩
      (repeat (first | (refine Cop.og_skip rfl rfl HSe _ (by (simp only [Act.put, List.setIfInBounds_toArray, List.set_cons_succ, List.set_cons_zero]; rfl)) ?_) | (refine Cop.og_take rfl rfl HSe ?_; apply Exists.intro; refine ⟨fun w9 h9 => ?_, _, by (simp only [Act.put, List.setIfInBounds_toArray, List.set_cons_succ, List.set_cons_zero]; rfl), ?_⟩; (go_simp; with_reducible rfl))))
      refine og_fin ?_
      go_wp2_with fail
      exact ret_row2t rfl rfl g2 g3 rfl rfl 24 (bv (FA k)) (bv (FB k)) _ (HSe.row 2 rfl) (HSe.row 1 rfl) Tryd.underlying24 rfl (dgS hXl) (dgS hYl) (.int .i64 0) rfl ⟨rfl, HSe.hb⟩
set_option maxRecDepth 100000 in
set_option maxHeartbeats 8000000 in
theorem vroots_f (nd : List UInt8 → List UInt8 → List UInt8) (FA FB : Nat → List UInt8) (ts : List Bool) (p : List (List UInt8)) (x : List UInt8) (leaf : List UInt8) (m n : Nat) (v : Value) (w : World) (h1 : 1 ≤ m) (h2 : m ≤ n) (hn : n ≤ 281474976710656) (hts : ts.length ≤ 48) (hlen : ts.length = p.length) (hp : AllD (x :: p)) (hlf : leaf.length = 32) (hR : Rd w v (x :: p).length 32 (dcs (x :: p)))
    (hA0 : FA 0 = x) (hB0 : FB 0 = x) (hAl : ∀ k, (FA k).length = 32) (hBl : ∀ k, (FB k).length = 32)
    (hDt : ∀ k, k < p.length → ts.getD (p.length - 1 - k) false = true → FA (k + 1) = FA k ∧ FB (k + 1) = nd (FB k) (p.getD k []))
    (hDf : ∀ k, k < p.length → ts.getD (p.length - 1 - k) false = false → FA (k + 1) = nd (p.getD k []) (FA k) ∧ FB (k + 1) = nd (p.getD k []) (FB k))
    (hCW : ∀ w', Calls Tryd.prog 80 #[.int .i64 m, .int .i64 n] w' fun e w'' => ∃ v, e = .returned (.tuple #[v, .bool false]) ∧ Below w'.heap.size w' w'' ∧ w''.ownsRow w'.heap.size 134 1 v ts.length (ts.map Value.bool))
    (hCN : ∀ w' a b, Below w.heap.size w w' → a.length = 32 → b.length = 32 → Gives 45 #[.agg (bv a), .agg (bv b)] w' (.agg (bv (nd a b)))) :
    Gives 55 #[.agg (bv leaf), .int .i64 m, .int .i64 n, v] w (.tuple #[.agg (bv (FA p.length)), .agg (bv (FB p.length)), .int .i64 0]) := by
  have CB := Lib.hid (fun w => ordered_ok m n w h1 h2 hn)
  have CW := Lib.hid hCW
  have CN := Lib.hid hCN
  have CC := Lib.hid (fun A c w => count_ts A c ts false w hts)
  have HA0 := Lib.hid hA0
  have HB0 := Lib.hid hB0
  have HAL := Lib.hid hAl
  have HBL := Lib.hid hBl
  have HDT := Lib.hid hDt
  have HDF := Lib.hid hDf
  obtain ⟨L, hL⟩ : ∃ L, p.length = L := ⟨_, rfl⟩
  rw [hL] at hlen HDT HDF ⊢
  have hcn : cnt ts false = L + 1 := by rw [← hlen]; rfl
  rw [hcn] at CC
  rw [hlen] at CC CW hts
  have HLE := Lib.hid hlen
  have HPL := Lib.hid hL
  have HPP := Lib.hid (show AllD p from fun y hy => hp y (by simp [hy]))
  have hxl : x.length = 32 := hp x (by simp)
  obtain ⟨A1, c1, HR1, _, _, hs1⟩ := rd_dfrom hR hp 1 (by simp)
  have e1 : (x :: p).length - 1 = L := by rw [List.length_cons, hL]; omega
  rw [e1] at HR1 hs1
  have HR2 : Rd w (.slice A1 L c1) L 32 (dcs p) := HR1
  have e2 : (x :: p).length = L + 1 := by rw [List.length_cons, hL]
  obtain ⟨L1, hL1⟩ : ∃ L1, L + 1 = L1 := ⟨_, rfl⟩
  rw [hL1] at e2 CC
  rw [e2] at hR
  obtain ⟨A0, c, rfl, hc, hcm⟩ := hR.shape
  obtain ⟨b0, o0, rfl⟩ := rd_some hR (by omega)
  have HLX := Lib.hid (fun W (h : Rd W (.slice (some ⟨b0, o0, none⟩) L1 c) L1 32 (dcs (x :: p))) => load_dg h e2.symm hp 0 (by simp) x rfl)
  rw [show o0 + 0 * 32 = o0 from by omega] at HLX
  obtain ⟨T, hT⟩ : ∃ T, x :: p = T := ⟨_, rfl⟩
  rw [hT] at hR HLX
  have HS0 := ((Sep.start w).arg0 hR).arg0 HR2
  have HSL := Lib.hid (show ∀ W, (Instr.sliceAt 28 (.slice (some ⟨b0, o0, none⟩) L1 c) (some (.int .i64 1)) none none).run Tryd.prog W = .ok (.slice A1 L c1) W from fun W => hs1 W .i64)
  have hL2 : (0 : Int) < (L1 : Int) := by omega
  have hL3 : (1 : Int) ≤ (L1 : Int) := by omega
  have hL5 : 0 < L1 := by omega
  have hL4 : (L1 : Int) ≤ 49 := by omega
  clear hT e1 e2 hs1 HR1 HR2 hL1
  clear hCW hCN hA0 hB0 hAl hBl hDt hDf hp hL hR hlen hcn h1 h2
  go_enter Tryd.func55, Tryd.ntmps55
  go_wp2_with (first | refine wl_bx HS0 rfl 24 _ rfl (bv leaf) rfl ?_)
  intro g1 w1 HS1
  go_wp2_with (first | refine wl_al HS1 rfl 24 rfl (bv (List.replicate 32 0)) (by kernel_rfl) ?_)
  intro g2 w2 HS2
  go_wp2_with (first | refine wl_al HS2 rfl 24 rfl (bv (List.replicate 32 0)) (by kernel_rfl) ?_)
  intro g3 w3 HS3
  go_wp2_with fail
  (with_reducible refine Calls.mono (CB.out w3) ?_)
  rintro e wx ⟨rfl, rfl⟩
  go_wp2_with fail
  refine Calls.mono (CW.out w3) ?_
  rintro e w4 ⟨v4, rfl, b4, o4⟩
  have HS4 := HS3.madeRow b4 o4
  obtain ⟨A4, c4, rfl, _⟩ := (HS4.own 0 rfl).sl
  clear HS0 HS1 HS2 HS3 o4
  go_wp2_with fail
  (with_reducible refine Calls.mono (CC.out _ _ w4) ?_)
  rintro e wx ⟨rfl, rfl⟩
  go_wp2_with (first | refine wl_ld HS4 3 rfl rfl 24 _ rfl rfl Tryd.underlying24 rfl (dgS hlf) ?_ | refine wl_st HS4 2 rfl rfl 24 _ _ rfl rfl rfl (dgS hlf) (dgE rfl hlf) (bv_one _) ?_)
  intro w5 HS5
  clear HS4
  go_wp2
  refine Cop.region_ord (fun w' => Sep w.heap.size w w' [.own (.slice A4 L c4) 134 1 L (ts.map Value.bool), .row g3 (bv (List.replicate 32 0)) 24, .row g1 (bv leaf) 24, .rd (.slice A1 L c1) L 32 (dcs p), .rd (.slice (some ⟨b0, o0, none⟩) L1 c) L1 32 (dcs T)]) 6 (.take 0 (.take 1 (.take 2 (.take 3 (.take 4 (.run 5 (.take 6 Cop.Ord.fin))))))) (by kernel_rfl) (by kernel_rfl) (fun _ _ d _ _ h => by cases d <;> exact h) ?_
  intro w6 hd6
  have HS6 := HS5.keep hd6
  clear HS5
  have HSz := HS6.sub (R' := [.own (.slice A4 L c4) 134 1 L (ts.map Value.bool), .row g3 (bv (List.replicate 32 0)) 24, .row g1 (bv leaf) 24, .rd (.slice A1 L c1) L 32 (dcs p), .rd (.slice (some ⟨b0, o0, none⟩) L1 c) L1 32 (dcs T)]) (by repeat (first | exact List.nil_sublist _ | exact List.Sublist.refl _ | apply List.Sublist.cons_cons | apply List.Sublist.cons))
  (repeat (first | (refine Cop.og_skip rfl rfl HSz _ (by (simp only [Act.put, List.setIfInBounds_toArray, List.set_cons_succ, List.set_cons_zero]; rfl)) ?_) | (refine Cop.og_ld rfl rfl HSz 24 _ rfl (.pointer (some ⟨b0, o0, none⟩)) rfl (.agg (bv x)) (fun w9 h9 => HLX.out w9 (h9.rd 4 rfl)) _ (by (simp only [Act.put, List.setIfInBounds_toArray, List.set_cons_succ, List.set_cons_zero]; rfl)) ?_) | (refine Cop.og_take rfl rfl HSz ?_; apply Exists.intro; refine ⟨fun w9 h9 => ?_, _, by (simp only [Act.put, List.setIfInBounds_toArray, List.set_cons_succ, List.set_cons_zero]; rfl), ?_⟩; (have e1 := HSL.out w9; go_simp; with_reducible rfl))))
  refine Cop.og_run rfl rfl ?_
  refine ow_st HS6 2 rfl 24 _ _ rfl rfl rfl (dgS hxl) (dgE hlf hxl) (bv_one _) ?_
  intro w7 HS7
  refine ⟨fun _ => HS7.sub (by repeat (first | exact List.nil_sublist _ | exact List.Sublist.refl _ | apply List.Sublist.cons_cons | apply List.Sublist.cons)), ?_⟩
  have HSy := HS7.sub (R' := [.own (.slice A4 L c4) 134 1 L (ts.map Value.bool), .row g3 (bv (List.replicate 32 0)) 24, .row g1 (bv leaf) 24, .rd (.slice A1 L c1) L 32 (dcs p), .rd (.slice (some ⟨b0, o0, none⟩) L1 c) L1 32 (dcs T)]) (by repeat (first | exact List.nil_sublist _ | exact List.Sublist.refl _ | apply List.Sublist.cons_cons | apply List.Sublist.cons))
  (repeat (first | (refine Cop.og_skip rfl rfl HSy _ (by (simp only [Act.put, List.setIfInBounds_toArray, List.set_cons_succ, List.set_cons_zero]; rfl)) ?_) | (refine Cop.og_take rfl rfl HSy ?_; apply Exists.intro; refine ⟨fun w9 h9 => ?_, _, by (simp only [Act.put, List.setIfInBounds_toArray, List.set_cons_succ, List.set_cons_zero]; rfl), ?_⟩; (go_simp; with_reducible rfl))))
  refine og_fin ?_
  clear HS6 HSz HSy
  go_wp2_with (first | refine wl_ld HS7 2 rfl rfl 24 _ rfl rfl Tryd.underlying24 rfl (dgS hxl) ?_ | refine wl_st HS7 1 rfl rfl 24 _ _ rfl rfl rfl (dgS hxl) (dgE rfl hxl) (bv_one _) ?_)
  intro w9 HS9
  clear HS7
  go_wp2
  go_loopw [46] (fun s46 wr => ∃ k : Nat, k ≤ L ∧ s46 = .int .i64 k ∧ Sep w.heap.size w wr [.own (.slice A4 L c4) 134 1 L (ts.map Value.bool), .row g3 (bv (FB k)) 24, .row g2 (bv (FA k)) 24, .row g1 (bv leaf) 24, .rd (.slice A1 L c1) L 32 (dcs p), .rd (.slice (some ⟨b0, o0, none⟩) L1 c) L1 32 (dcs T)]) (fun s46 _ => L - (intOf s46).toNat)
  case atStart => exact ⟨0, by omega, rfl, by rw [HA0.out, HB0.out]; exact HS9⟩
  case round =>
    clear HS9
    obtain ⟨k, hk, rfl, HSi⟩ := hrel
    by_cases hlt : k < L
    · have hlt' : (k : Int) < (L : Int) := by omega
      obtain ⟨d, hd⟩ : ∃ d, p.getD k [] = d := ⟨_, rfl⟩
      have hdl : d.length = 32 := by rw [← hd]; exact dg_len HPP.out k (by rw [HPL.out]; exact hlt)
      obtain ⟨b1, o1, rfl⟩ := rd_some (HSi.rd 4 rfl) (by omega)
      obtain ⟨g5, rfl⟩ := Ow.addr (HSi.own 0 rfl) (by omega)
      have HLD := Lib.hid (load_dg (HSi.rd 4 rfl) HPL.out.symm HPP.out k (by rw [HPL.out]; exact hlt) d hd)
      have hDT := HDT.out k hlt
      have hDF := HDF.out k hlt
      rw [hd] at hDT hDF
      obtain ⟨m, hm⟩ : ∃ m, L - 1 - k = m := ⟨_, rfl⟩
      have hmL : (L : Int) - 1 - (k : Int) = (m : Int) := by omega
      have hmlt : m < L := by omega
      rw [hm] at hDT hDF
      obtain ⟨t, ht⟩ : ∃ t, ts.getD m false = t := ⟨_, rfl⟩
      rw [ht] at hDT hDF
      have HTC := Lib.hid (fun (W : World) (h : Ow W w.heap.size 134 1 (.slice (some ⟨g5, 0, none⟩) L c4) L (ts.map Value.bool)) => by
        have := turn_cell h m (by rw [HLE.out]; exact hmlt)
        rw [ht] at this
        exact this)
      have HXL := Lib.hid (HAL.out k)
      have HYL := Lib.hid (HBL.out k)
      have HXS := Lib.hid (HAL.out (k + 1))
      have HYS := Lib.hid (HBL.out (k + 1))
      obtain ⟨X, hX⟩ : ∃ X, FA k = X := ⟨_, rfl⟩
      obtain ⟨Y, hY⟩ : ∃ Y, FB k = Y := ⟨_, rfl⟩
      obtain ⟨X2, hX2⟩ : ∃ X, FA (k + 1) = X := ⟨_, rfl⟩
      obtain ⟨Y2, hY2⟩ : ∃ Y, FB (k + 1) = Y := ⟨_, rfl⟩
      rw [hX] at HSi HXL hDT hDF
      rw [hY] at HSi HYL hDT hDF
      rw [hX2] at HXS hDT hDF
      rw [hY2] at HYS hDT hDF
      have HX2 := Lib.hid hX2
      have HY2 := Lib.hid hY2
      have HDT2 := Lib.hid hDT
      have HDF2 := Lib.hid hDF
      have hmi : (m : Int) < (L : Int) := by omega
      clear hd hDT hDF hm ht hX hY hX2 hY2
      go_wp2_with (first | refine wl_ldx rfl 24 _ rfl _ rfl (.agg (bv d)) HLD.out ?_ | refine wl_al HSi rfl 24 rfl (bv (List.replicate 32 0)) (by kernel_rfl) ?_)
      intro g6 w6 HS6
      go_wp2_with (first | refine wl_st HS6 0 rfl rfl 24 _ _ rfl rfl rfl (dgS hdl) (dgE rfl hdl) (bv_one _) ?_)
      intro w7 HS7
      have htc := HTC.out w7 (HS7.own 1 rfl)
      clear HSi HS6
      cases t with
      | true =>
        obtain ⟨e1, e2⟩ := HDT2.out rfl
        have HCN := Lib.hid (fun w' hb => CN.out w' Y d hb HYL.out hdl)
        rw [← e2] at HCN
        have E1 := Lib.hid e1
        clear e1 e2
        go_wp2_with (first | refine wl_ld HS7 2 rfl rfl 24 _ rfl rfl Tryd.underlying24 rfl (dgS HYL.out) ?_ | refine wl_ld HS7 0 rfl rfl 24 _ rfl rfl Tryd.underlying24 rfl (dgS hdl) ?_)
        (with_reducible refine Calls.mono (HCN.out w7 HS7.hb) ?_)
        rintro e w8 ⟨rfl, b8⟩
        have HS8 := HS7.keep b8
        clear HS7
        go_wp2_with (first | refine wl_st HS8 2 rfl rfl 24 _ _ rfl rfl rfl (dgS HYS.out) (dgE HYL.out HYS.out) (bv_one _) ?_)
        intro wt HSt
        go_wp2
        go_roundw
        case rel => exact ⟨k + 1, by omega, by go_num, by rw [HX2.out, HY2.out, E1.out]; exact HSt.tail⟩
        case measure => simp [intOf]; omega
      | false =>
        obtain ⟨e1, e2⟩ := HDF2.out rfl
        have HCX := Lib.hid (fun w' hb => CN.out w' d X hb hdl HXL.out)
        have HCY := Lib.hid (fun w' hb => CN.out w' d Y hb hdl HYL.out)
        rw [← e1] at HCX
        rw [← e2] at HCY
        clear e1 e2
        go_wp2
        refine Cop.region_ordz (fun w' => Sep w.heap.size w w' [.row g6 (bv d) 24, .own (.slice (some ⟨g5, 0, none⟩) L c4) 134 1 L (ts.map Value.bool), .row g3 (bv Y) 24, .row g2 (bv X) 24, .row g1 (bv leaf) 24]) 6 (.take 0 (.take 1 (.take 3 (.take 4 (.run 2 (.run 5 (.run 6 (.run 7 Cop.Ord.fin)))))))) (by kernel_rfl) (by kernel_rfl) (fun _ _ d _ _ h => by cases d <;> exact h) ?_
        intro wa hda
        have HSa := HS7.keep hda
        clear HS7
        have HSz := HSa.sub (R' := [.row g6 (bv d) 24, .own (.slice (some ⟨g5, 0, none⟩) L c4) 134 1 L (ts.map Value.bool), .row g3 (bv Y) 24, .row g2 (bv X) 24, .row g1 (bv leaf) 24]) (by repeat (first | exact List.nil_sublist _ | exact List.Sublist.refl _ | apply List.Sublist.cons_cons | apply List.Sublist.cons))
        (repeat (first | (refine Cop.ogz_skip rfl rfl (by decide) HSz _ (by (simp only [Act.put, List.setIfInBounds_toArray, List.set_cons_succ, List.set_cons_zero]; rfl)) ?_) | (refine Cop.ogz_ld rfl rfl (by decide) HSz 24 _ rfl (.pointer (some ⟨g6, 0, none⟩)) rfl _ (fun w9 h9 => load_row (h9.row 0 rfl) 24 Tryd.underlying24 rfl (dgS hdl)) _ (by (simp only [Act.put, List.setIfInBounds_toArray, List.set_cons_succ, List.set_cons_zero]; rfl)) ?_) | (refine Cop.ogz_ld rfl rfl (by decide) HSz 24 _ rfl (.pointer (some ⟨g2, 0, none⟩)) rfl _ (fun w9 h9 => load_row (h9.row 3 rfl) 24 Tryd.underlying24 rfl (dgS HXL.out)) _ (by (simp only [Act.put, List.setIfInBounds_toArray, List.set_cons_succ, List.set_cons_zero]; rfl)) ?_) | (refine Cop.ogz_ld rfl rfl (by decide) HSz 24 _ rfl (.pointer (some ⟨g3, 0, none⟩)) rfl _ (fun w9 h9 => load_row (h9.row 2 rfl) 24 Tryd.underlying24 rfl (dgS HYL.out)) _ (by (simp only [Act.put, List.setIfInBounds_toArray, List.set_cons_succ, List.set_cons_zero]; rfl)) ?_) | (refine Cop.ogz_take rfl rfl (by decide) HSz ?_; apply Exists.intro; refine ⟨fun w9 h9 => ?_, _, by (simp only [Act.put, List.setIfInBounds_toArray, List.set_cons_succ, List.set_cons_zero]; rfl), ?_⟩; (go_simp; with_reducible rfl))))
        refine Cop.ogz_run rfl rfl ?_
        refine ow_call 45 _ _ (fun w' => Below wa.heap.size wa w') (by go_simp) (HCX.out wa HSa.hb) ?_
        intro wb bb
        have HSb := HSa.keep bb
        refine ⟨fun _ => HSb.sub (by repeat (first | exact List.nil_sublist _ | exact List.Sublist.refl _ | apply List.Sublist.cons_cons | apply List.Sublist.cons)), ?_⟩
        refine Cop.ogz_run rfl rfl ?_
        refine ow_call 45 _ _ (fun w' => Below wb.heap.size wb w') (by go_simp) (HCY.out wb HSb.hb) ?_
        intro wc bc
        have HSc := HSb.keep bc
        refine ⟨fun _ => HSc.sub (by repeat (first | exact List.nil_sublist _ | exact List.Sublist.refl _ | apply List.Sublist.cons_cons | apply List.Sublist.cons)), ?_⟩
        refine Cop.ogz_run rfl rfl ?_
        refine ow_st HSc 3 rfl 24 _ _ rfl rfl rfl (dgS HXS.out) (dgE HXL.out HXS.out) (bv_one _) ?_
        intro wd HSd
        refine ⟨fun h => absurd h (by decide), ?_⟩
        refine Cop.ogz_run rfl rfl ?_
        refine ow_st HSd 2 rfl 24 _ _ rfl rfl rfl (dgS HYS.out) (dgE HYL.out HYS.out) (bv_one _) ?_
        intro we HSe
        refine ⟨fun h => absurd h (by decide), ?_⟩
        refine ogz_fin ?_
        go_wp2
        go_roundw
        case rel => exact ⟨k + 1, by omega, by go_num, by rw [HX2.out, HY2.out]; exact HSe.tail⟩
        case measure => simp [intOf]; omega
    · have hkL : k = L := by omega
      subst hkL
      have hXl := HAL.out k
      have hYl := HBL.out k
      go_wp2
      refine Cop.region_ord (fun w' => Sep w.heap.size w w' [.own (.slice A4 k c4) 134 1 k (ts.map Value.bool), .row g3 (bv (FB k)) 24, .row g2 (bv (FA k)) 24, .row g1 (bv leaf) 24, .rd (.slice A1 k c1) k 32 (dcs p), .rd (.slice (some ⟨b0, o0, none⟩) L1 c) L1 32 (dcs T)]) 4 (.take 0 (.take 1 (.run 2 (.run 3 (.take 4 Cop.Ord.fin))))) (by kernel_rfl) (by kernel_rfl) (fun _ _ d _ _ h => by cases d <;> exact h) ?_
      intro wa hda
      have HSx := HSi.keep hda
      clear HSi
      (repeat (first | (refine Cop.og_skip rfl rfl HSx _ (by (simp only [Act.put, List.setIfInBounds_toArray, List.set_cons_succ, List.set_cons_zero]; rfl)) ?_) | (refine Cop.og_ld rfl rfl HSx 24 _ rfl (.pointer (some ⟨g2, 0, none⟩)) rfl _ (fun w9 h9 => load_row (h9.row 2 rfl) 24 Tryd.underlying24 rfl (dgS hXl)) _ (by (simp only [Act.put, List.setIfInBounds_toArray, List.set_cons_succ, List.set_cons_zero]; rfl)) ?_) | (refine Cop.og_ld rfl rfl HSx 24 _ rfl (.pointer (some ⟨g3, 0, none⟩)) rfl _ (fun w9 h9 => load_row (h9.row 1 rfl) 24 Tryd.underlying24 rfl (dgS hYl)) _ (by (simp only [Act.put, List.setIfInBounds_toArray, List.set_cons_succ, List.set_cons_zero]; rfl)) ?_) | (refine Cop.og_take rfl rfl HSx ?_; apply Exists.intro; refine ⟨fun w9 h9 => ?_, _, by (simp only [Act.put, List.setIfInBounds_toArray, List.set_cons_succ, List.set_cons_zero]; rfl), ?_⟩; (go_simp; with_reducible rfl))))
      refine Cop.og_run rfl rfl ?_
      refine ow_st HSx 2 rfl 24 _ _ rfl rfl rfl (dgS hXl) (dgE hXl hXl) (bv_one _) ?_
      intro wb HSy
      refine ⟨fun _ => HSy, ?_⟩
      refine Cop.og_run rfl rfl ?_
      refine ow_st HSy 1 rfl 24 _ _ rfl rfl rfl (dgS hYl) (dgE hYl hYl) (bv_one _) ?_
      intro wc HSe
      refine ⟨fun _ => HSe, ?_⟩
      (repeat (first | (refine Cop.og_skip rfl rfl HSe _ (by (simp only [Act.put, List.setIfInBounds_toArray, List.set_cons_succ, List.set_cons_zero]; rfl)) ?_) | (refine Cop.og_take rfl rfl HSe ?_; apply Exists.intro; refine ⟨fun w9 h9 => ?_, _, by (simp only [Act.put, List.setIfInBounds_toArray, List.set_cons_succ, List.set_cons_zero]; rfl), ?_⟩; (go_simp; with_reducible rfl))))
      refine og_fin ?_
      go_wp2_with fail
      exact ret_row2t rfl rfl g2 g3 rfl rfl 24 (bv (FA k)) (bv (FB k)) _ (HSe.row 2 rfl) (HSe.row 1 rfl) Tryd.underlying24 rfl (dgS hXl) (dgS hYl) (.int .i64 0) rfl ⟨rfl, HSe.hb⟩
end Go.Proofs.YtbjbdnlgoifamaaDoor
