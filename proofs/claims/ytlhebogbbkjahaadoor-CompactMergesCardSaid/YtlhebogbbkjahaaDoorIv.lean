/- A region that draws its order, by a relation that holds whatever has come up: no branching over the orders. -/
import Derived.Test.YtlhebogbbkjahaaDoorArr
set_option linter.unusedVariables false
namespace Cop
open Go Go.RowKit
section
variable {P : Program} {ops : Array Oper} {Q : Exit → Act → World → Prop}
/-- What has come up. -/
def up (listed : Array Bool) : Nat → Bool := fun i => listed.getD i false
/-- One operation more. -/
def also (L : Nat → Bool) (i : Nat) : Nat → Bool := fun k => L k || k == i
theorem up_set (listed : Array Bool) (i : Nat) (h : i < listed.size) : up (listed.setIfInBounds i true) = also (up listed) i := by
  funext k
  simp only [up, also, Array.getD_eq_getD_getElem?, Array.getElem?_setIfInBounds]
  by_cases hk : i = k
  · subst hk; simp [h]
  · have : (k == i) = false := by simp; omega
    simp [hk, this]
/-- Each operation waits for earlier ones alone. -/
def waitsB (ops : Array Oper) : Bool := (List.range ops.size).all fun i => match ops[i]? with | some o => o.after.all (fun e => !Region.binds .any e || decide (e.on < i)) | none => true
theorem waits_spec (h : waitsB ops = true) {i : Nat} {o : Oper} (ho : ops[i]? = some o) : ∀ e ∈ o.after, Region.binds .any e = true → e.on < i := by
  intro e he hb
  have hi := (Array.getElem?_eq_some_iff.1 ho).1
  have := List.all_eq_true.1 h i (List.mem_range.2 hi)
  rw [ho] at this
  have := Array.all_eq_true'.1 this e he
  simpa [hb] using this
theorem none_ready (hw : waitsB ops = true) {listed : Array Bool} (hs : listed.size = ops.size) (h : Region.ready .any ops listed = []) : ∀ i, i < ops.size → up listed i = true := by
  intro i
  induction i using Nat.strongRecOn with
  | ind i ih =>
    intro hi
    cases hu : up listed i with
    | true => rfl
    | false =>
      exfalso
      obtain ⟨o, ho⟩ : ∃ o, ops[i]? = some o := ⟨_, Array.getElem?_eq_getElem hi⟩
      have : i ∈ Region.ready .any ops listed := mem_ready.2 ⟨by
        simp only [up, Array.getD_eq_getD_getElem?] at hu ⊢
        rw [Array.getElem?_eq_getElem (by omega)] at hu ⊢
        exact hu, o, ho, fun e he hb => ih e.on (waits_spec hw ho e he hb) (by have := waits_spec hw ho e he hb; omega)⟩
      rw [h] at this
      cases this
theorem any_inv (hw : waitsB ops = true) (Inv : (Nat → Bool) → Act → World → Prop)
    (hstep : ∀ L a w i o, ops[i]? = some o → Inv L a w → L i = false → (∀ e ∈ o.after, Region.binds .any e = true → L e.on = true) →
      if Region.wanted o (yielded ops a.tmps) then o.wp P a w (fun a' w' => Inv (also L i) a' w') Q else Inv (also L i) (a.put o.dst undef) w)
    (hend : ∀ L a w, Inv L a w → (∀ i, i < ops.size → L i = true) → Q .normal a w) :
    ∀ (fuel : Nat) (listed : Array Bool) (a : Act) (w : World), listed.size = ops.size → listed.toList.count false = fuel → Inv (up listed) a w → wpAny P .any ops Q fuel listed a w := by
  have step : ∀ (fuel : Nat) (listed : Array Bool) (a : Act) (w : World), listed.size = ops.size → Inv (up listed) a w → Region.ready .any ops listed = [] → Q .normal a w :=
    fun fuel listed a w hs hI h0 => hend _ a w hI (none_ready hw hs h0)
  intro fuel
  induction fuel with
  | zero =>
    intro listed a w hs hc hI
    have h0 : Region.ready .any ops listed = [] := by
      rw [List.eq_nil_iff_forall_not_mem]
      intro i hi
      obtain ⟨hf, o, ho, _⟩ := mem_ready.1 hi
      have hi := (Array.getElem?_eq_some_iff.1 ho).1
      rw [Array.getD_eq_getD_getElem?, Array.getElem?_eq_getElem (by omega)] at hf
      have : false ∈ listed.toList := by
        rw [← (show listed[i] = false from hf)]
        exact Array.getElem_mem_toList _
      have := List.count_pos_iff.2 this
      omega
    exact ⟨h0, step 0 listed a w hs hI h0⟩
  | succ fuel ih =>
    intro listed a w hs hc hI
    refine ⟨step 0 listed a w hs hI, fun i hi => ?_⟩
    obtain ⟨hf, o, ho, hdeps⟩ := mem_ready.1 hi
    have hlt : i < listed.size := by have := (Array.getElem?_eq_some_iff.1 ho).1; omega
    have hfi : listed[i] = false := by
      rw [Array.getD_eq_getD_getElem?, Array.getElem?_eq_getElem hlt] at hf
      exact hf
    have hc2 : Array.count false listed = fuel + 1 := by simpa using hc
    have hcnt : (listed.setIfInBounds i true).toList.count false = fuel := by
      rw [Array.toList_setIfInBounds, List.count_set (by simpa using hlt)]
      simp only [Array.getElem_toList, hfi]
      simp
      omega
    have hsz : (listed.setIfInBounds i true).size = ops.size := by simpa using hs
    have := hstep (up listed) a w i o ho hI (by simp only [up, Array.getD_eq_getD_getElem?]; rw [Array.getElem?_eq_getElem hlt]; exact hfi) hdeps
    unfold wpOp
    rw [ho]
    simp only
    split
    · rename_i hwant
      rw [if_pos hwant] at this
      exact .inl (Oper.wp_mono (fun a' w' h => ih _ a' w' hsz hcnt (by rw [up_set _ _ hlt]; exact h)) this)
    · rename_i hwant
      rw [if_neg hwant] at this
      exact ih _ _ w hsz hcnt (by rw [up_set _ _ hlt]; exact this)
/-- A region that draws its order: a relation on what has come up. -/
theorem region_inv {id : Nat} {a : Act} {w : World} {l : List Oper} (hm : P.follows .mixedOrders = true) (hw : waitsB l.toArray = true) (Inv : (Nat → Bool) → Act → World → Prop)
    (h0 : Inv (fun _ => false) a { w with drawn := w.drawn + 1 })
    (hstep : ∀ L a w i o, l.toArray[i]? = some o → Inv L a w → L i = false → (∀ e ∈ o.after, Region.binds .any e = true → L e.on = true) →
      if Region.wanted o (yielded l.toArray a.tmps) then o.wp P a w (fun a' w' => Inv (also L i) a' w') Q else Inv (also L i) (a.put o.dst undef) w)
    (hend : ∀ L a w, Inv L a w → (∀ i, i < l.length → L i = true) → Q .normal a w) : (Code.region id l.toArray true).wp P Q a w := by
  refine wp_region_any hm (any_inv hw Inv hstep (fun L a w hI h => hend L a w hI (by simpa using h)) _ _ a _ (by simp) (by simp) ?_)
  have : up (Array.replicate l.toArray.size false) = fun _ => false := by
    funext k
    simp [up, Array.getD_eq_getD_getElem?, Array.getElem?_replicate]
    split <;> rfl
  rw [this]
  exact h0
/-- The same, the relation knowing the frame at the region's beginning. -/
theorem region_inv2 {id : Nat} {a : Act} {w : World} {l : List Oper} (Inv : Act → (Nat → Bool) → Act → World → Prop) (hm : P.follows .mixedOrders = true) (hw : waitsB l.toArray = true)
    (h0 : Inv a (fun _ => false) a { w with drawn := w.drawn + 1 })
    (hstep : ∀ L a' w i o, l[i]? = some o → Inv a L a' w → L i = false → (∀ e ∈ o.after, Region.binds .any e = true → L e.on = true) →
      if Region.wanted o (yielded l.toArray a'.tmps) then o.wp P a' w (fun a'' w' => Inv a (also L i) a'' w') Q else Inv a (also L i) (a'.put o.dst undef) w)
    (hend : ∀ L a' w, Inv a L a' w → (∀ i, i < l.length → L i = true) → Q .normal a' w) : (Code.region id l.toArray true).wp P Q a w :=
  region_inv hm hw (Inv a) h0 (fun L a' w i o ho => hstep L a' w i o (by simpa using ho)) hend
variable {o : Oper} {a : Act} {W : World} {K : Act → World → Prop}
theorem iv_want {E : Prop} (hg : o.guard = none) (h : o.wp P a W K Q) : if Region.wanted o (yielded ops a.tmps) then o.wp P a W K Q else E := by
  have : Region.wanted o (yielded ops a.tmps) = true := by simp [Region.wanted, hg]
  rw [if_pos this]; exact h
theorem ow_val (v : Value) (W' : World) (hr : (execOp a.eval o).run P W = .ok (.value v) W') (h : K (a.put o.dst v) W') : o.wp P a W K Q := by
  unfold Oper.wp; rw [hr]; exact h
theorem ow_call (f : FuncId) (args : Array Value) (v : Value) (R : World → Prop) (hr : (execOp a.eval o).run P W = .ok (.enter f args) W) (hc : Calls P f args W fun e w' => e = .returned v ∧ R w') (h : ∀ w', R w' → K (a.put o.dst v) w') : o.wp P a W K Q := by
  unfold Oper.wp
  rw [hr]
  exact hc.mono fun e w' ⟨he, hR⟩ => by subst he; exact h w' hR
theorem ow_call_ex (f : FuncId) (args : Array Value) (R : Value → World → Prop) (hr : (execOp a.eval o).run P W = .ok (.enter f args) W) (hc : Calls P f args W fun e w' => ∃ v, e = .returned v ∧ R v w') (h : ∀ v w', R v w' → K (a.put o.dst v) w') : o.wp P a W K Q := by
  unfold Oper.wp
  rw [hr]
  exact hc.mono fun e w' ⟨v, he, hR⟩ => by subst he; exact h v w' hR
theorem ow_load_row (ty : TypeId) (x : Operand) (hop : o.op = .load ty x) (g : Nat) (hx : a.eval x = .pointer (some ⟨g, 0, none⟩)) (t : TypeId) (cs : Array Value) (fr : Nat × Nat) (d : TypeDesc)
    (hg : W.heap[g]? = some (.cells cs t fr)) (hu : P.underlying ty = some d) (hd : (match d with | .struct _ | .array _ _ => true | _ => false) = true) (hi : (P.info? ty).map (·.size) = some cs.size)
    (h : K (a.put o.dst (.agg cs)) W) : o.wp P a W K Q := by
  refine ow_val (.agg cs) W ?_ h
  simp only [execOp, hop, hx, Instr.loadAt, Instr.sureAddr, Sem.run_bind, Sem.run_pure, Result.andThen_ok, run_loadVar_row W g t ty cs fr d hg hu hd hi]
theorem ow_store_row (ty : TypeId) (ad x : Operand) (hop : o.op = .store ty ad x) (g : Nat) (had : a.eval ad = .pointer (some ⟨g, 0, none⟩)) (t : TypeId) (old cs : Array Value) (hx : a.eval x = .agg cs)
    (hg : W.heap[g]? = some (.cells old t (0, 0))) (hi : (P.info? ty).map (·.size) = some cs.size) (ho : old.size = cs.size) (h1 : cs.all (·.oneCell') = true)
    (h : K (a.put o.dst undef) (W.setRow g cs)) : o.wp P a W K Q := by
  unfold Oper.wp
  simp only [execOp, hop, had, hx, Instr.storeAt, Instr.sureAddr, Sem.run_bind, Sem.run_pure, Result.andThen_ok, run_storeVar_row W g t ty old cs hg hi ho h1]
  exact h
theorem ow_alloc (ty : TypeId) (hop : o.op = .alloc ty) (cs : Array Value) (hz : (zeroValue ty).run P W = .ok (.agg cs) W) (h : K (a.put o.dst (.pointer (some ⟨W.heap.size, 0, none⟩))) (W.alloc (.cells cs ty))) : o.wp P a W K Q := by
  refine ow_val _ _ ?_ h
  simp only [execOp, hop]
  simp [Instr.alloc, Sem.run_bind, hz, Result.andThen, newVar, newRow, Value.cells]
/-! A region in its text's order, step by step, nothing looking into what is left. -/
variable {rest : List Oper} {n : Nat}
theorem ws_in {l : List Oper} (n : Nat) (h : Shut n (wpList P ops Q l a W)) : wpList P ops Q l a W := h.out
theorem ws_end (h : Q .normal a W) : Shut 0 (wpList P ops Q [] a W) := ⟨h⟩
theorem ws_skip (hw : Region.wanted o (yielded ops a.tmps) = false) (a' : Act) (ha : a.put o.dst undef = a') (h : Shut n (wpList P ops Q rest a' W)) : Shut (n + 1) (wpList P ops Q (o :: rest) a W) := by
  subst ha
  exact ⟨by unfold wpList; rw [if_neg (by rw [hw]; decide)]; exact h.out⟩
theorem ws_want (hw : Region.wanted o (yielded ops a.tmps) = true) (h : ∃ v, (execOp a.eval o).run P W = .ok (.value v) W ∧ ∃ a', a.put o.dst v = a' ∧ Shut n (wpList P ops Q rest a' W)) : Shut (n + 1) (wpList P ops Q (o :: rest) a W) := by
  obtain ⟨v, hv, _, rfl, h2⟩ := h
  exact ⟨by unfold wpList; rw [if_pos hw]; exact .inl (ow_val v W hv h2.out)⟩
theorem ws_load (hw : Region.wanted o (yielded ops a.tmps) = true) (ty : TypeId) (x : Operand) (hop : o.op = .load ty x) (g : Nat) (hx : a.eval x = .pointer (some ⟨g, 0, none⟩)) (t : TypeId) (cs : Array Value) (fr : Nat × Nat) (d : TypeDesc)
    (hg : W.heap[g]? = some (.cells cs t fr)) (hu : P.underlying ty = some d) (hd : (match d with | .struct _ | .array _ _ => true | _ => false) = true) (hi : (P.info? ty).map (·.size) = some cs.size)
    (a' : Act) (ha : a.put o.dst (.agg cs) = a') (h : Shut n (wpList P ops Q rest a' W)) : Shut (n + 1) (wpList P ops Q (o :: rest) a W) := by
  subst ha
  exact ⟨by unfold wpList; rw [if_pos hw]; exact .inl (ow_load_row ty x hop g hx t cs fr d hg hu hd hi h.out)⟩
end
end Cop
