/- The walk's steps over what it knows of memory (Sep): loads and stores of rows, append, make, calls. -/
import Derived.Test.YtlhebogbbkjahaaDoorSp
set_option linter.unusedVariables false
set_option linter.unusedSimpArgs false
namespace Cop
open Go Go.RowKit
section
variable {P : Program} {w0 w : World} {B : Nat} {R : List Pc}
theorem blk_own {v : Value} {e size n k : Nat} {xs : List Value} (h : (Pc.own v e size n xs).blk = some k) : v.ownBlock = some k := vblk_own k h
theorem run_append_zero (t ty e : TypeId) (i : TypeInfo) (ht : P.underlying t = some (.slice e)) (hi : P.info? e = some i) (A : Option Addr) (n cap : Nat) (hn : n ≤ cap) (A' : Option Addr) (c : Nat) :
    (Builtin.append_ #[t, t] ty #[.slice A n cap, .slice A' 0 c]).run P w = .ok (.slice A n cap) w := by
  cases A <;> cases A' <;> simp [Builtin.append_, run_underlying ht, Go.sizeOf, typeInfo, hi, Builtin.lenOf, Builtin.firstCells, loadCells, loadCellsFrom, hn, storeCells]
theorem run_append_S0 (t ty e : TypeId) (z : Value) (size bytes : Nat) (ht : P.underlying t = some (.slice e)) (hinfo : (P.info? e).map (fun i => (i.zero, i.size, i.bytes)) = some (some z, size, bytes)) (hz : z.cells.size = size) (hs0 : 0 < size) (hb0 : 0 < bytes)
    (v : Value) (n : Nat) (xs : List Value) (HS : Sep B w0 w (.own v e size n xs :: R)) (u : Value) (m : Nat) (cs : List Value) (HR : Rd w u m size cs) (h1 : ∀ c ∈ cs, c.oneCell' = true) (hl : (n + m) * bytes ≤ 140737488355328) :
    ∃ v' w', (Builtin.append_ #[t, t] ty #[v, u]).run P w = .ok v' w' ∧ Sep B w0 w' (.own v' e size (n + m) (xs ++ cs) :: R) ∧ (0 < m → ∃ A c, v' = .slice (some A) (n + m) c) ∧ (m = 0 → v' = v) := by
  obtain ⟨i0, hi, hz0, hz1, hz2⟩ := info_parts hinfo
  have hlen : n + m ≤ 140737488355328 := Nat.le_trans (Nat.le_mul_of_pos_right _ hb0) hl
  obtain ⟨hcl, A, c, rfl, hc, hm, hA, hcell⟩ := HR
  have HO := HS.head
  rcases Nat.eq_zero_or_pos m with h0 | h0
  · subst h0
    have hcs : cs = [] := List.eq_nil_of_length_eq_zero (by simpa using hcl)
    subst hcs
    obtain ⟨A2, c2, rfl, hnc⟩ := Ow.sl HO
    refine ⟨_, w, run_append_zero t ty e i0 ht hi A2 n c2 hnc A c, by simpa using HS, fun h => absurd h (by omega), fun _ => rfl⟩
  · obtain ⟨b, o, rfl, hcc⟩ := hcell h0
    have hnews : ∀ j u, cs[j]? = some u → w.cell? ((⟨b, o, none⟩ : Addr).add j) = some u := fun j u hu => by rw [add_plain]; exact hcc j u hu
    have turn : ∀ v' w', w'.ownsRow B e size v' (n + m) (xs ++ cs) → w.grownBy w' v.ownBlock → (v'.ownBlock = v.ownBlock ∨ v'.ownBlock = some w.heap.size) → (∀ k, v.ownBlock = some k → k < w.heap.size → vblk v = some k) →
        Sep B w0 w' (.own v' e size (n + m) (xs ++ cs) :: R) := fun v' w' h2 h3 h4 hv => by
      refine HS.turn rfl h3.os h3.tape h3.output h3.size (fun k hk hne => h3.block k hk fun e => hne (hv k e.symm hk)) (Ow.of_own h2) (fun k hk => ?_)
      rcases h4 with h4 | h4
      · have := blk_own hk
        rw [h4] at this
        rcases Nat.lt_or_ge k w.heap.size with hlt | hge
        · exact .inl (hv k this hlt)
        · exact .inr hge
      · have := blk_own hk
        rw [h4] at this
        injection this with this
        exact .inr (by omega)
    have some_of : ∀ v' (w' : World), w'.ownsRow B e size v' (n + m) (xs ++ cs) → ∃ A c, v' = .slice (some A) (n + m) c := fun v' w' h2 => by
      obtain ⟨g, cap, rfl, _⟩ := own_form h2 (by omega)
      exact ⟨_, _, rfl⟩
    rcases Ow.own_of HO with ⟨A2, rfl, rfl, rfl⟩ | hown
    · have hfit := hl
      simp only [Nat.zero_add] at hfit
      -- no room: a new row
      have hnew : ∀ old : Nat, old < m → (w.drew.alloc (.cells (cs.toArray ++ Builtin.zeroCells z.cells (grownCap w m old e - m)) e)).ownsRow B e size (.slice (some ⟨w.heap.size, 0, none⟩) m (grownCap w m old e)) m cs := fun old ho => by
        have hge := grownCap_ge w m old e
        have hcm : grownCap w m old e ≤ maxLen := grownCap_le_maxLen w m old e (by simp only [maxLen]; omega)
        refine ⟨hcl, .inr ⟨w.heap.size, _, _, rfl, HS.hB, heap_alloc_new w.drew _, hge, hcm, ?_, ?_⟩⟩
        · simp only [Array.size_append, List.size_toArray, size_zeroCells, hz, hcl, ← Nat.add_mul]
          congr 1
          omega
        · simp only [Array.toList_append]
          rw [← hcl]
          exact List.take_left
      have hgr : ∀ old : Nat, w.grownBy (w.drew.alloc (.cells (cs.toArray ++ Builtin.zeroCells z.cells (grownCap w m old e - m)) e)) none := fun old => ⟨rfl, rfl, rfl, by simp, fun k hk _ => heap_alloc_old w.drew _ hk⟩
      have fin : ∀ old : Nat, old < m → Sep B w0 (w.drew.alloc (.cells (cs.toArray ++ Builtin.zeroCells z.cells (grownCap w m old e - m)) e)) (.own (.slice (some ⟨w.heap.size, 0, none⟩) m (grownCap w m old e)) e size (0 + m) ([] ++ cs) :: R) := fun old ho => by
        have h2 := hnew old ho
        have h3 := hgr old
        rw [Nat.zero_add, List.nil_append]
        refine HS.turn rfl h3.os h3.tape h3.output h3.size (fun k hk _ => h3.block k hk (by simp)) (Ow.of_own h2) (fun k hk => ?_)
        have := blk_own hk
        simp only [Value.ownBlock, Option.some.injEq] at this
        exact .inr (by omega)
      cases A2 with
      | none =>
        have hr := run_append_nil (P := P) w t ty e i0 z ht hi hz0 ⟨b, o, none⟩ m c cs (by rw [hz1]; exact hcl) hnews h0 (by omega) (by rw [hz2]; omega)
        exact ⟨_, _, hr, fin 0 h0, fun _ => ⟨_, _, by rw [Nat.zero_add]⟩, fun h => absurd h (by omega)⟩
      | some ad =>
        have hr := run_append_grow (P := P) w t ty e i0 z ht hi hz0 ad 0 0 [] (by simp) (by simp) ⟨b, o, none⟩ m c cs (by rw [hz1]; exact hcl) hnews (by omega) (by omega) (by
          rw [Nat.zero_add, nextslicecap_zero h0, hz2]; omega)
        simp only [Nat.zero_add, Array.empty_append] at hr
        exact ⟨_, _, hr, fin 0 h0, fun _ => ⟨_, _, by rw [Nat.zero_add]⟩, fun h => absurd h (by omega)⟩
    · obtain ⟨v', w', hr, h2, h3, _, h4⟩ := run_append_own_at (P := P) w B t ty e i0 z size bytes ht hi hz0 hz1 hz2 hz hs0 v n xs hown ⟨b, o, none⟩ m c cs hcl hnews h1 (by simp only [maxLen]; omega) hl HS.hB
      by_cases hv : ∀ k, v.ownBlock = some k → k < w.heap.size → vblk v = some k
      · exact ⟨v', w', hr, turn v' w' h2 h3 h4 hv, fun _ => some_of v' w' h2, fun h => absurd h (by omega)⟩
      · -- a row without room
        have hz' : ∃ g, v = .slice (some ⟨g, 0, none⟩) 0 0 ∧ n = 0 ∧ xs = [] := by
          rcases hown.2 with ⟨rfl, rfl⟩ | ⟨g, cap, cur, rfl, _, _, hnc, _⟩
          · exact absurd (fun k hk => by simp [Value.ownBlock] at hk) hv
          · by_cases hc0 : cap = 0
            · subst hc0
              have : n = 0 := by omega
              subst this
              exact ⟨g, rfl, rfl, List.eq_nil_of_length_eq_zero (by simpa using hown.1)⟩
            · exact absurd (fun k hk _ => by simp [Value.ownBlock] at hk; simp [vblk, hc0, hk]) hv
        obtain ⟨g, rfl, rfl, rfl⟩ := hz'
        have hr2 := run_append_grow (P := P) w t ty e i0 z ht hi hz0 ⟨g, 0, none⟩ 0 0 [] (by simp) (by simp) ⟨b, o, none⟩ m c cs (by rw [hz1]; exact hcl) hnews (by omega) (by omega) (by
          rw [Nat.zero_add, nextslicecap_zero h0, hz2]; have := hl; simp only [Nat.zero_add] at this; omega)
        simp only [Nat.zero_add, Array.empty_append] at hr2
        have hcm : grownCap w m 0 e ≤ maxLen := grownCap_le_maxLen w m 0 e (by simp only [maxLen]; omega)
        refine ⟨_, _, hr2, ?_, fun _ => ⟨_, _, by rw [Nat.zero_add]⟩, fun h => absurd h (by omega)⟩
        rw [Nat.zero_add, List.nil_append]
        refine HS.turn rfl rfl rfl rfl (by simp) (fun k hk _ => heap_alloc_old w.drew _ hk) (Ow.of_own ⟨hcl, .inr ⟨w.heap.size, _, _, rfl, HS.hB, heap_alloc_new w.drew _, grownCap_ge w m 0 e, hcm, ?_, ?_⟩⟩) (fun k hk => ?_)
        · simp only [Array.size_append, List.size_toArray, size_zeroCells, hz, hcl, ← Nat.add_mul]
          congr 1
          have := grownCap_ge w m 0 e
          omega
        · simp only [Array.toList_append]
          rw [← hcl]
          exact List.take_left
        · have := blk_own hk
          simp only [Value.ownBlock, Option.some.injEq] at this
          exact .inr (by omega)
theorem run_append_S (HS : Sep B w0 w R) (i : Nat) {v : Value} {e : TypeId} {n size : Nat} {xs : List Value} (hi : R[i]? = some (.own v e size n xs)) (t ty : TypeId) (z : Value) (bytes : Nat) (ht : P.underlying t = some (.slice e)) (hinfo : (P.info? e).map (fun i => (i.zero, i.size, i.bytes)) = some (some z, size, bytes)) (hz : z.cells.size = size) (hs0 : 0 < size) (hb0 : 0 < bytes)
    (u : Value) (m : Nat) (cs : List Value) (HR : Rd w u m size cs) (h1 : ∀ c ∈ cs, c.oneCell' = true) (hl : (n + m) * bytes ≤ 140737488355328) :
    ∃ v' w', (Builtin.append_ #[t, t] ty #[v, u]).run P w = .ok v' w' ∧ Sep B w0 w' (R.set i (.own v' e size (n + m) (xs ++ cs))) ∧ (0 < m → ∃ A c, v' = .slice (some A) (n + m) c) ∧ (m = 0 → v' = v) := by
  obtain ⟨v', w', hr, h2, h3, h4⟩ := run_append_S0 (P := P) t ty e z size bytes ht hinfo hz hs0 hb0 v n xs (HS.perm (modL_perm hi (.row 0 #[] 0)).2) u m cs HR h1 hl
  exact ⟨v', w', hr, h2.perm (modL_perm hi _).1.symm, h3, h4⟩
theorem rd_row {g : Nat} {cs : Array Value} {t : TypeId} {n size : Nat} (h : w.heap[g]? = some (.cells cs t (0, 0))) (hn : cs.size = n * size) (hm : n ≤ 9223372036854775807) : Rd w (.slice (some ⟨g, 0, none⟩) n n) n size cs.toList :=
  ⟨by simpa using hn, _, n, rfl, Nat.le_refl _, hm, by simp, fun _ => ⟨g, 0, rfl, fun j u hu => by
    rw [Nat.zero_add, cell_of_row _ _ _ _ _ _ h]
    simpa using hu⟩⟩
variable {ops : Array Oper} {rest : List Oper} {o : Oper} {a : Act} {Q : Exit → Act → World → Prop} {K : Act → World → Prop}
/-- append(v, u...). -/
theorem ow_app (HS : Sep B w0 w R) (i : Nat) {v : Value} {e : TypeId} {n size : Nat} {xs : List Value} (hi : R[i]? = some (.own v e size n xs)) (s x : Operand) (t : TypeId) (z : Value) (bytes : Nat)
    (ho : o.op = .call { callee := .builtin .append, args := #[s, x], argTypes := #[t, t] }) (ht : P.underlying t = some (.slice e)) (hinfo : (P.info? e).map (fun i => (i.zero, i.size, i.bytes)) = some (some z, size, bytes)) (hz : z.cells.size = size) (hs0 : 0 < size) (hb0 : 0 < bytes)
    {u : Value} {m : Nat} {cs : List Value} (HR : Rd w u m size cs) (h1 : ∀ c ∈ cs, c.oneCell' = true) (hs : a.eval s = v) (hx : a.eval x = u) (hl : (n + m) * bytes ≤ 140737488355328)
    (h : ∀ v1 w1, Sep B w0 w1 (R.set i (.own v1 e size (n + m) (xs ++ cs))) → (0 < m → ∃ A c, v1 = .slice (some A) (n + m) c) → (m = 0 → v1 = v) → K (a.put o.dst v1) w1) : o.wp P a w K Q := by
  obtain ⟨v', w', hr, h2, h3, h4⟩ := run_append_S (P := P) HS i hi t o.type z bytes ht hinfo hz hs0 hb0 u m cs HR h1 hl
  unfold Oper.wp execOp
  simp only [ho, resolve, invoke, builtin, Sem.run_bind, Sem.run_pure, Result.andThen_ok, List.map_toArray, List.map_cons, List.map_nil, hs, hx, hr]
  exact h v' w' h2 h3 h4
theorem wl_app (HS : Sep B w0 w R) (i : Nat) {v : Value} {e : TypeId} {n size : Nat} {xs : List Value} (hi : R[i]? = some (.own v e size n xs)) (s x : Operand) (t : TypeId) (z : Value) (bytes : Nat) (hgd : o.guard = none)
    (ho : o.op = .call { callee := .builtin .append, args := #[s, x], argTypes := #[t, t] }) (ht : P.underlying t = some (.slice e)) (hinfo : (P.info? e).map (fun i => (i.zero, i.size, i.bytes)) = some (some z, size, bytes)) (hz : z.cells.size = size) (hs0 : 0 < size) (hb0 : 0 < bytes)
    {u : Value} {m : Nat} {cs : List Value} (HR : Rd w u m size cs) (h1 : ∀ c ∈ cs, c.oneCell' = true) (hs : a.eval s = v) (hx : a.eval x = u) (hl : (n + m) * bytes ≤ 140737488355328)
    (h : ∀ v1 w1, Sep B w0 w1 (R.set i (.own v1 e size (n + m) (xs ++ cs))) → (0 < m → ∃ A c, v1 = .slice (some A) (n + m) c) → (m = 0 → v1 = v) → wpList P ops Q rest (a.put o.dst v1) w1) : wpList P ops Q (o :: rest) a w :=
  wpList_plain hgd fun _ hK => ow_app HS i hi s x t z bytes ho ht hinfo hz hs0 hb0 HR h1 hs hx hl fun v1 w1 h2 h3 h4 => hK _ _ (h v1 w1 h2 h3 h4)
/-- What an append of m elements comes to. -/
def Grew (m : Nat) (v v1 : Value) (k : Nat) : Prop := (0 < m → ∃ A c, v1 = .slice (some A) k c) ∧ (m = 0 → v1 = v)
/-- append(v, u...), told as bytes or whatever. -/
theorem ow_apn (HS : Sep B w0 w R) (i : Nat) {v : Value} {e : TypeId} {n size : Nat} {xs : List Value} (hi : R[i]? = some (.own v e size n xs)) (s x : Operand) (t : TypeId) (z : Value) (bytes : Nat)
    (ho : o.op = .call { callee := .builtin .append, args := #[s, x], argTypes := #[t, t] }) (ht : P.underlying t = some (.slice e)) (hinfo : (P.info? e).map (fun i => (i.zero, i.size, i.bytes)) = some (some z, size, bytes)) (hz : z.cells.size = size) (hs0 : 0 < size) (hb0 : 0 < bytes)
    {u : Value} {m : Nat} {cs : List Value} (HR : Rd w u m size cs) (h1 : ∀ c ∈ cs, c.oneCell' = true) (hs : a.eval s = v) (hx : a.eval x = u) (k : Nat) (ys : List Value) (hk : n + m = k) (hy : xs ++ cs = ys) (hl : k * bytes ≤ 140737488355328)
    (h : ∀ v1 w1, Sep B w0 w1 (R.set i (.own v1 e size k ys)) → Grew m v v1 k → K (a.put o.dst v1) w1) : o.wp P a w K Q := by
  subst hk
  subst hy
  exact ow_app HS i hi s x t z bytes ho ht hinfo hz hs0 hb0 HR h1 hs hx hl fun v1 w1 h2 h3 h4 => h v1 w1 h2 ⟨h3, h4⟩
theorem wl_apn (HS : Sep B w0 w R) (i : Nat) {v : Value} {e : TypeId} {n size : Nat} {xs : List Value} (hi : R[i]? = some (.own v e size n xs)) (s x : Operand) (t : TypeId) (z : Value) (bytes : Nat) (hgd : o.guard = none)
    (ho : o.op = .call { callee := .builtin .append, args := #[s, x], argTypes := #[t, t] }) (ht : P.underlying t = some (.slice e)) (hinfo : (P.info? e).map (fun i => (i.zero, i.size, i.bytes)) = some (some z, size, bytes)) (hz : z.cells.size = size) (hs0 : 0 < size) (hb0 : 0 < bytes)
    {u : Value} {m : Nat} {cs : List Value} (HR : Rd w u m size cs) (h1 : ∀ c ∈ cs, c.oneCell' = true) (hs : a.eval s = v) (hx : a.eval x = u) (k : Nat) (ys : List Value) (hk : n + m = k) (hy : xs ++ cs = ys) (hl : k * bytes ≤ 140737488355328)
    (h : ∀ v1 w1, Sep B w0 w1 (R.set i (.own v1 e size k ys)) → Grew m v v1 k → wpList P ops Q rest (a.put o.dst v1) w1) : wpList P ops Q (o :: rest) a w :=
  wpList_plain hgd fun _ hK => ow_apn HS i hi s x t z bytes ho ht hinfo hz hs0 hb0 HR h1 hs hx k ys hk hy hl fun v1 w1 h2 h3 => hK _ _ (h v1 w1 h2 h3)
/-- A whole row is loaded. -/
theorem wl_ld (HS : Sep B w0 w R) (i : Nat) {g : Nat} {cs : Array Value} {t : TypeId} (hi : R[i]? = some (.row g cs t)) (hgd : o.guard = none) (ty : TypeId) (x : Operand) (hop : o.op = .load ty x) (hx : a.eval x = .pointer (some ⟨g, 0, none⟩)) {d : TypeDesc}
    (hu : P.underlying ty = some d) (hd : (match d with | .struct _ | .array _ _ => true | _ => false) = true) (hsz : (P.info? ty).map (·.size) = some cs.size)
    (h : wpList P ops Q rest (a.put o.dst (.agg cs)) w) : wpList P ops Q (o :: rest) a w :=
  wl_load_row hgd ty x hop g hx t cs (0, 0) d (HS.row i hi) hu hd hsz h
/-- A whole row is stored. -/
theorem wl_st (HS : Sep B w0 w R) (i : Nat) {g : Nat} {old cs : Array Value} {t : TypeId} (hi : R[i]? = some (.row g old t)) (hgd : o.guard = none) (ty : TypeId) (ad x : Operand) (hop : o.op = .store ty ad x) (had : a.eval ad = .pointer (some ⟨g, 0, none⟩)) (hx : a.eval x = .agg cs)
    (hsz : (P.info? ty).map (·.size) = some cs.size) (ho : old.size = cs.size) (h1 : cs.all (·.oneCell') = true)
    (h : ∀ w1, Sep B w0 w1 (R.set i (.row g cs t)) → wpList P ops Q rest (a.put o.dst undef) w1) : wpList P ops Q (o :: rest) a w :=
  wl_store_row hgd ty ad x hop g had t old cs hx (HS.row i hi) hsz ho h1 (h _ (HS.setRow i hi cs))
/-- make([]T, l, c). -/
theorem wl_mk (HS : Sep B w0 w R) (hgd : o.guard = none) (l c : Operand) (t e : TypeId) (z : Value) (bytes : Nat) (hop : o.op = Op.makeSlice t l c)
    (ht : P.underlying t = some (.slice e)) (hinfo : (P.info? e).map (fun i => (i.zero, i.size, i.bytes)) = some (some z, 1, bytes)) (hz : z.cells = #[z])
    {kl kc : IntKind} {L C : Int} (hl : a.eval l = .int kl L) (hc : a.eval c = .int kc C) (n m : Nat) (hL : L = (n : Int)) (hC : C = (m : Int)) (hnm : n ≤ m)
    (b2 : bytes * m ≤ 281474976710656) (b3 : m ≤ 9223372036854775807)
    (h : ∀ g w1, Sep B w0 w1 (.own (.slice (some ⟨g, 0, none⟩) n m) e 1 n (List.replicate n z) :: R) → wpList P ops Q rest (a.put o.dst (.slice (some ⟨g, 0, none⟩) n m)) w1) :
    wpList P ops Q (o :: rest) a w := by
  refine wl_make (w0 := w) w.heap.size hgd l c t e z bytes hop ht hinfo hz kl kc L C n m (Below.refl _ _) (Nat.le_refl _) hl hc hL hC hnm b2 b3 (fun v1 w1 h1 h2 _ h4 => ?_)
  subst h4
  exact h _ w1 (HS.madeRow h2 h1)
/-- v[j] = y, in a row of the call's own. -/
theorem wl_sto (HS : Sep B w0 w R) (i : Nat) {g n cap : Nat} {e : TypeId} {xs : List Value} (hi : R[i]? = some (.own (.slice (some ⟨g, 0, none⟩) n cap) e 1 n xs)) (hgd : o.guard = none) (ad x : Operand) (ty : TypeId) (hop : o.op = Op.store ty ad x) (hs1 : (P.info? ty).map (·.size) = some 1)
    (j : Nat) {y : Value} (hj : j < n) (had : a.eval ad = .pointer (some ⟨g, j, none⟩)) (hx : a.eval x = y) (h1 : y.oneCell' = true) (hyc : y.cells = #[y])
    (h : ∀ w1, Sep B w0 w1 (R.set i (.own (.slice (some ⟨g, 0, none⟩) n cap) e 1 n (xs.set j y))) → wpList P ops Q rest (a.put o.dst undef) w1) :
    wpList P ops Q (o :: rest) a w := by
  have hp := HS.perm (modL_perm hi (.row 0 #[] 0)).2
  rcases Ow.own_of hp.head with ⟨A, he, h0, _⟩ | hown
  · omega
  have hcap : cap ≠ 0 := by
    rcases hown.2 with ⟨h0, _⟩ | ⟨g', cap', cur, h0, _, _, h2, _⟩
    · simp at h0
    · injection h0 with _ _ h0; omega
  refine wl_store_own (w0 := w) B hgd ad x ty e hop hs1 g n cap xs hown (Below.refl _ _) HS.hB j y hj had hx h1 hyc (fun w1 r1 r2 r3 r4 => h w1 ?_)
  refine Sep.perm ?_ (modL_perm hi _).1.symm
  refine hp.turn rfl r3.os r3.tape r3.output r3.size (fun k hk hne => r3.block k hk fun e => hne ?_) (Ow.of_own r1) (fun k hk => .inl hk)
  simp only [Option.some.injEq] at e
  subst e
  simp [Pc.blk, vblk, hcap]
end
/-- A function whose memory is its own: told of what the caller knows. -/
theorem Sep.calls {P : Program} {f : FuncId} {args : Array Value} {w : World} {v : Value} {B : Nat} {w0 : World} {R : List Pc} (HS : Sep B w0 w R) (h : Calls P f args w fun e w' => e = .returned v ∧ Below w.heap.size w w') :
    Calls P f args w fun e w' => e = .returned v ∧ Sep B w0 w' R := h.mono fun e w' ⟨h1, h2⟩ => ⟨h1, HS.keep h2⟩
theorem Sep.callsOwn {P : Program} {f : FuncId} {args : Array Value} {w : World} {B : Nat} {w0 : World} {R : List Pc} {e : TypeId} {size n : Nat} {xs : List Value} (HS : Sep B w0 w R) (h : Calls P f args w fun x w' => ∃ v, x = .returned v ∧ Below w.heap.size w w' ∧ w'.ownsRow w.heap.size e size v n xs) :
    Calls P f args w fun x w' => ∃ v, x = .returned v ∧ Sep B w0 w' (.own v e size n xs :: R) := h.mono fun e w' ⟨v, h1, h2, h3⟩ => ⟨v, h1, HS.madeRow h2 h3⟩
/-- A slice that a literal built. -/
theorem Sep.built {B : Nat} {w0 w : World} {R : List Pc} (HS : Sep B w0 w R) (cs : Array Value) (e n size : Nat) (hn : cs.size = n * size) (hm : n ≤ 9223372036854775807) : Sep B w0 (w.alloc (.cells cs e)) (.own (.slice (some ⟨w.heap.size, 0, none⟩) n n) e size n cs.toList :: R) :=
  HS.madeRow ((Below.refl _ _).alloc (Nat.le_refl _) _) (own_built w cs e n size hn hm)
end Cop
