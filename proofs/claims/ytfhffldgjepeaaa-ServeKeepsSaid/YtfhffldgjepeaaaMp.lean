/- Maps in memory: a piece of Sep. -/
import Derived.Test.YtfhffldgjepeaaaSq
import Derived.Maps.Keyed
import Derived.Maps.OwnSet
import Derived.DeepKeys4
namespace Cop
open Go Go.RowKit
set_option linter.unusedVariables false
/-- A map's entries: the keys are keys, each stands once. -/
structure Keys (P : Program) (k : TypeId) (es : Array MapEntry) : Prop where
  key : ∀ x ∈ es.toList, ∃ l, keyOf P k x.key = some l
  one : es.toList.Pairwise fun x y => x.key ≠ y.key
theorem Keys.nil (P : Program) (k : TypeId) : Keys P k #[] := ⟨fun x h => by simp at h, by simp⟩
/-- An entry is put. -/
structure PutIn (es es' : Array MapEntry) (key val : Value) : Prop where
  who : ∀ x ∈ es'.toList, (x ∈ es.toList ∧ x.key ≠ key) ∨ (x.key = key ∧ x.val = val)
  old : ∀ x ∈ es.toList, x.key ≠ key → x ∈ es'.toList
  new : ∃ x ∈ es'.toList, x.key = key
section
variable {P : Program} {B : Nat} {w0 w : World} {R : List Pc} {k e t : TypeId}
theorem Sep.setMap0 {b : Nat} {es : Array MapEntry} {c : Nat} (h : Sep B w0 w (.mp b es c :: R)) (es' : Array MapEntry) (c' : Nat) : Sep B w0 (Go.ChangeMaps.setBlock w b (.map es' c')) (.mp b es' c' :: R) := by
  have hh : B ≤ b ∧ w.heap[b]? = some (.map es c) := h.head
  have hlt := (Array.getElem?_eq_some_iff.1 hh.2).1
  refine h.turn rfl rfl rfl rfl (by simp [Go.ChangeMaps.setBlock]) (fun k hk hne => ?_) ⟨hh.1, ?_⟩ (fun k hk => .inl hk)
  · have : b ≠ k := fun e => hne (by rw [← e]; rfl)
    simp [Go.ChangeMaps.setBlock, this]
  · simp [Go.ChangeMaps.setBlock, hlt]
theorem Sep.mpAt (h : Sep B w0 w R) (i : Nat) {b : Nat} {es : Array MapEntry} {c : Nat} (hi : R[i]? = some (.mp b es c)) : w.heap[b]? = some (.map es c) := (h.at i hi).2
theorem look_mp (K : Maps.Keyed P k) (ht : P.underlying t = some (.map k e)) {z : Value} (hz : (zeroValue e).run P w = .ok z w) {b : Nat} {es : Array MapEntry} {c : Nat} (hb : w.heap[b]? = some (.map es c)) (hk : Keys P k es) {key : Value} {kl : Lit} (hkey : keyOf P k key = some kl) :
    ((Instr.lookup t (.map (some b)) key true).run P w = .ok (.tuple #[z, .bool false]) w ∧ ∀ x ∈ es.toList, x.key ≠ key) ∨
    ∃ x ∈ es.toList, x.key = key ∧ (Instr.lookup t (.map (some b)) key true).run P w = .ok (.tuple #[x.val, .bool true]) w := by
  rcases K.find w hkey es.toList hk.key with ⟨h1, h2⟩ | ⟨j, e0, h1, h2, h3⟩
  · exact .inl ⟨by simp [Instr.lookup, run_underlying ht, MapKept.run_getObj_map hb, K.check w _ hkey, h1, hz, Result.andThen], h2⟩
  · exact .inr ⟨e0, List.mem_of_getElem? h2, h3, by simp [Instr.lookup, run_underlying ht, MapKept.run_getObj_map hb, K.check w _ hkey, h1, Result.andThen]⟩
theorem put_mp (K : Maps.Keyed P k) (ht : P.underlying t = some (.map k e)) {b : Nat} {es : Array MapEntry} {c : Nat} (hb : w.heap[b]? = some (.map es c)) (hk : Keys P k es) {key val : Value} {kl : Lit} (hkey : keyOf P k key = some kl) :
    ∃ es' c', (Instr.mapUpdate t (.map (some b)) key val).run P w = .ok () (Go.ChangeMaps.setBlock w b (.map es' c')) ∧ Keys P k es' ∧ PutIn es es' key val := by
  rcases K.find w hkey es.toList hk.key with ⟨h1, h2⟩ | ⟨j, e0, h1, h2, h3⟩
  · refine ⟨es.push ⟨key, val, c⟩, c + 1, ?_, ⟨fun x hx => ?_, ?_⟩, ⟨fun x hx => ?_, fun x hx _ => ?_, ⟨⟨key, val, c⟩, by simp, rfl⟩⟩⟩
    · simp [Instr.mapUpdate, run_underlying ht, MapKept.run_getObj_map hb, K.check w false hkey, h1, MapKept.run_setObj_map _ hb, Result.andThen, Go.ChangeMaps.setBlock]
    · simp only [Array.toList_push, List.mem_append, List.mem_singleton] at hx
      rcases hx with hx | rfl
      · exact hk.key x hx
      · exact ⟨kl, hkey⟩
    · rw [Array.toList_push, List.pairwise_append]
      refine ⟨hk.one, by simp, fun x hx y hy => ?_⟩
      rw [List.mem_singleton] at hy
      subst hy
      exact h2 x hx
    · simp only [Array.toList_push, List.mem_append, List.mem_singleton] at hx
      rcases hx with hx | rfl
      · exact .inl ⟨hx, h2 x hx⟩
      · exact .inr ⟨rfl, rfl⟩
    · simp only [Array.toList_push, List.mem_append]
      exact .inl hx
  · have hj : es[j]? = some e0 := by simpa using h2
    have hlist : (es.modify j (fun e' => { e' with key := key, val := val })).toList = es.toList.set j { e0 with key := key, val := val } := by rw [Array.toList_modify, Go.ChangeMaps.modify_eq_set _ _ _ _ h2]
    have hjl : j < es.toList.length := (List.getElem?_eq_some_iff.1 h2).1
    have hap : ∀ i (hi : i < es.toList.length), i ≠ j → (es.toList[i]).key ≠ key := fun i hi hne => by
      have hp := List.pairwise_iff_getElem.1 hk.one
      have he : es.toList[j] = e0 := by rw [List.getElem?_eq_getElem hjl] at h2; exact Option.some.inj h2
      rcases Nat.lt_or_gt_of_ne hne with hlt | hgt
      · have := hp i j hi hjl hlt
        rw [he, h3] at this
        exact this
      · have := hp j i hjl hi hgt
        rw [he, h3] at this
        exact fun e => this e.symm
    refine ⟨es.modify j (fun e' => { e' with key := key, val := val }), c, ?_, ⟨fun x hx => ?_, ?_⟩, ⟨fun x hx => ?_, fun x hx hne => ?_, ⟨{ e0 with key := key, val := val }, ?_, rfl⟩⟩⟩
    · simp [Instr.mapUpdate, run_underlying ht, MapKept.run_getObj_map hb, K.check w false hkey, h1, hj, h3, K.stays w hkey, MapKept.run_setObj_map _ hb, Result.andThen, Go.ChangeMaps.setBlock]
    · rw [hlist] at hx
      rcases List.mem_or_eq_of_mem_set hx with h | rfl
      · exact hk.key x h
      · exact ⟨kl, hkey⟩
    · rw [hlist]
      have e1 : (es.toList.set j { e0 with key := key, val := val }).map (·.key) = es.toList.map (·.key) := by
        rw [List.map_set]
        show (es.toList.map (·.key)).set j key = _
        apply List.ext_getElem (by simp)
        intro i h1 h2'
        rw [List.getElem_set]
        split
        · rename_i hij
          subst hij
          simp only [List.getElem_map]
          rw [← h3]
          rw [List.getElem?_eq_getElem hjl] at h2
          rw [Option.some.inj h2]
        · rfl
      have := hk.one
      rw [← List.pairwise_map (f := fun x : MapEntry => x.key) (R := fun a b => a ≠ b)] at this ⊢
      rw [e1]
      exact this
    · rw [hlist] at hx
      obtain ⟨i, hi, ex⟩ := List.getElem_of_mem hx
      rw [List.getElem_set] at ex
      split at ex
      · subst ex; exact .inr ⟨rfl, rfl⟩
      · rename_i hne
        have hi' : i < es.toList.length := by simpa using hi
        subst ex
        exact .inl ⟨List.getElem_mem hi', hap i hi' (fun e => hne e.symm)⟩
    · rw [hlist]
      obtain ⟨i, hi, rfl⟩ := List.getElem_of_mem hx
      have hij : i ≠ j := fun e => by
        subst e
        rw [List.getElem?_eq_getElem hi] at h2
        have := Option.some.inj h2
        rw [this] at hne
        exact hne h3
      rw [List.mem_iff_getElem]
      exact ⟨i, by simpa using hi, by rw [List.getElem_set_ne (fun e => hij e.symm)]⟩
    · rw [hlist]
      exact List.mem_of_getElem? (by rw [List.getElem?_set_self hjl])
end
section
variable {P : Program} {B : Nat} {w0 w : World} {R : List Pc} {o : Oper} {a : Act} {k e : TypeId}
theorem wl_mu {ops : Array Oper} {rest : List Oper} {Q : Exit → Act → World → Prop} (HS : Sep B w0 w R) (i : Nat) {b : Nat} {es : Array MapEntry} {c : Nat} (hi : R[i]? = some (.mp b es c)) (K : Maps.Keyed P k) (hk : Keys P k es) (hgd : o.guard = none) (t : TypeId) (m x v : Operand) (hop : o.op = .mapUpdate t m x v) (ht : P.underlying t = some (.map k e))
    {key val : Value} (hm : a.eval m = .map (some b)) (hx : a.eval x = key) (hv : a.eval v = val) {kl : Lit} (hkey : keyOf P k key = some kl)
    (h : ∀ es' c', Keys P k es' → PutIn es es' key val → ∀ w2, Sep B w0 w2 (R.set i (.mp b es' c')) → wpList P ops Q rest (a.put o.dst undef) w2) : wpList P ops Q (o :: rest) a w := by
  refine wpList_plain hgd fun K' hK => ?_
  obtain ⟨es', c', hrun, h1, h2⟩ := put_mp (w := w) K ht (HS.mpAt i hi) hk (val := val) hkey
  unfold Oper.wp
  simp only [execOp, hop, hm, hx, hv, Sem.run_bind, Sem.run_pure, Result.andThen_ok, hrun]
  exact hK _ _ (h es' c' h1 h2 _ (HS.at_ i hi fun h => h.setMap0 es' c'))
end
end Cop
