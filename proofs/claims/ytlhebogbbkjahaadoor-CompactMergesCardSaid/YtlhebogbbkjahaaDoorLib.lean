import Derived.WalkKit
import Derived.WalkSpells
import Derived.WalkLawsBesides
import Derived.Deep.QuietTactic
import Derived.BigQuiet
import Derived.Lib.Hide
import Derived.ProofKit
import Derived.OpenShut
import Derived.SizedLaws
set_option linter.unusedVariables false
set_option linter.unusedSimpArgs false
namespace Cop
open Go Go.RowKit

/-- A row of numbers as cells. -/
def nmv (k : IntKind) (l : List Int) : Array Value := (l.map (Value.int k)).toArray

theorem nmv_size (k : IntKind) (l : List Int) : (nmv k l).size = l.length := by simp [nmv]
theorem nmv_get (k : IntKind) (l : List Int) (i : Nat) (h : i < l.length) : (nmv k l)[i]? = some (.int k (l.getD i 0)) := by
  simp [nmv, List.getD, List.getElem?_eq_getElem h]

/-- Bytes as cells. -/
def bv (l : List UInt8) : Array Value := (l.map fun b => Value.int .u8 (b.toNat : Int)).toArray
theorem bv_nmv (l : List UInt8) : bv l = nmv .u8 (l.map fun b => (b.toNat : Int)) := by simp [bv, nmv]
theorem bv_size (l : List UInt8) : (bv l).size = l.length := by simp [bv]
theorem bv_get (l : List UInt8) (i : Nat) (h : i < l.length) : (bv l)[i]? = some (.int .u8 ((l.getD i 0).toNat : Int)) := by
  simp [bv, List.getD, List.getElem?_eq_getElem h]
/-- Words as cells. -/
def wv (l : List UInt32) : Array Value := (l.map fun b => Value.int .u32 (b.toNat : Int)).toArray
theorem wv_size (l : List UInt32) : (wv l).size = l.length := by simp [wv]
theorem wv_get (l : List UInt32) (i : Nat) (h : i < l.length) : (wv l)[i]? = some (.int .u32 ((l.getD i 0).toNat : Int)) := by
  simp [wv, List.getD, List.getElem?_eq_getElem h]

/-! ### Numbers of bytes and words -/
theorem u8_lt (a : UInt8) : a.toNat < 256 := a.toNat_lt
theorem u32_lt (a : UInt32) : a.toNat < 4294967296 := a.toNat_lt
theorem bxor8 (a b : UInt8) : bits .xor .u8 (a.toNat : Int) (b.toNat : Int) = ((a ^^^ b).toNat : Int) := by rw [u8_xor_nat _ _ (u8_lt a) (u8_lt b), UInt8.toNat_xor]
theorem bor8 (a b : UInt8) : bits .or .u8 (a.toNat : Int) (b.toNat : Int) = ((a ||| b).toNat : Int) := by rw [u8_or_nat _ _ (u8_lt a) (u8_lt b), UInt8.toNat_or]
theorem band8 (a b : UInt8) : bits .and .u8 (a.toNat : Int) (b.toNat : Int) = ((a &&& b).toNat : Int) := by rw [u8_and_nat _ _ (u8_lt a) (u8_lt b), UInt8.toNat_and]
theorem bxor32 (a b : UInt32) : bits .xor .u32 (a.toNat : Int) (b.toNat : Int) = ((a ^^^ b).toNat : Int) := by rw [u32_xor_nat _ _ (u32_lt a) (u32_lt b), UInt32.toNat_xor]
theorem bor32 (a b : UInt32) : bits .or .u32 (a.toNat : Int) (b.toNat : Int) = ((a ||| b).toNat : Int) := by rw [u32_or_nat _ _ (u32_lt a) (u32_lt b), UInt32.toNat_or]
theorem band32 (a b : UInt32) : bits .and .u32 (a.toNat : Int) (b.toNat : Int) = ((a &&& b).toNat : Int) := by rw [u32_and_nat _ _ (u32_lt a) (u32_lt b), UInt32.toNat_and]
theorem wadd32 (a b : UInt32) : IntKind.u32.wrap ((a.toNat : Int) + (b.toNat : Int)) = ((a + b).toNat : Int) := by
  rw [IntKind.wrap_u32, UInt32.toNat_add]; omega
theorem wadd8 (a b : UInt8) : IntKind.u8.wrap ((a.toNat : Int) + (b.toNat : Int)) = ((a + b).toNat : Int) := by
  rw [IntKind.wrap_u8, UInt8.toNat_add]; omega

section
variable {P : Program} (w : World)

theorem run_part_int {e : TypeId} {k : IntKind} (he : P.underlying e = some (.int k)) (cs : Array Value) (off : Nat) (v : Value) (hv : cs[off]? = some v) :
    (part e cs off).run P w = .ok v w := by
  unfold part isAgg
  rw [Sem.run_bind, Sem.run_bind, run_underlying he]
  simp [hv]

theorem run_sizeOf_gen {e : TypeId} {n : Nat} (h : (P.info? e).map (·.size) = some n) : (Go.sizeOf e).run P w = .ok n w := by
  obtain ⟨i, hi, hs⟩ := Option.map_eq_some_iff.1 h
  simp [Go.sizeOf, typeInfo, hi, hs]
theorem run_sizeOf_one {e : TypeId} (h : (P.info? e).map (·.size) = some 1) : (Go.sizeOf e).run P w = .ok 1 w := by
  obtain ⟨i, hi, hs⟩ := Option.map_eq_some_iff.1 h
  simp [Go.sizeOf, typeInfo, hi, hs]

theorem equal_loop {d : Nat} {e : TypeId} {k : IntKind} (he : P.underlying e = some (.int k)) (xs ys : List Int) (n : Nat) : ∀ (m i : Nat), i + m = n → n = xs.length → n = ys.length →
    (forIn (m := Sem) (List.range' i m) ((none, ()) : Option Bool × Unit) (fun i r => do
        if !(← Op.equalIn (d + 1) e (← part e (nmv k xs) (i * 1)) (← part e (nmv k ys) (i * 1))) then pure (ForInStep.done (some false, ()))
        else pure (ForInStep.yield (none, ())))).run P w = .ok (if xs.drop i = ys.drop i then (none, ()) else (some false, ())) w := by
  intro m
  induction m with
  | zero =>
    intro i hi hx hy
    simp [List.drop_eq_nil_of_le (show xs.length ≤ i by omega), List.drop_eq_nil_of_le (show ys.length ≤ i by omega)]
  | succ m ih =>
    intro i hi hx hy
    have hxi : i < xs.length := by omega
    have hyi : i < ys.length := by omega
    have h1 := run_part_int (P := P) w he (nmv k xs) (i * 1) _ (by rw [Nat.mul_one]; exact nmv_get k xs i hxi)
    have h2 := run_part_int (P := P) w he (nmv k ys) (i * 1) _ (by rw [Nat.mul_one]; exact nmv_get k ys i hyi)
    have h3 := run_equalIn_int (P := P) w d e k k (xs.getD i 0) (ys.getD i 0) he
    simp only [List.range'_succ, List.forIn_cons, Sem.run_bind, h1, h2, h3, Result.andThen]
    have ex : xs.drop i = xs.getD i 0 :: xs.drop (i + 1) := by rw [List.drop_eq_getElem_cons hxi]; simp [List.getD, hxi]
    have ey : ys.drop i = ys.getD i 0 :: ys.drop (i + 1) := by rw [List.drop_eq_getElem_cons hyi]; simp [List.getD, hyi]
    rw [ex, ey]
    generalize xs.getD i 0 = a at *
    generalize ys.getD i 0 = b at *
    have := ih (i + 1) (by omega) hx hy
    by_cases hq : a = b
    · subst hq
      simp only [beq_self_eq_true, Bool.not_true, Bool.false_eq_true, if_false, Sem.run_pure, List.cons.injEq, true_and]
      exact this
    · have hb : (a == b) = false := by simpa using hq
      simp only [hb, Bool.not_false, if_true, Sem.run_pure, List.cons.injEq, hq, false_and, if_false]

theorem run_equal_nmv {d : Nat} {t e : TypeId} {k : IntKind} {n : Nat} (ht : P.underlying t = some (.array n e)) (he : P.underlying e = some (.int k)) (hs : (P.info? e).map (·.size) = some 1)
    (xs ys : List Int) (hx : xs.length = n) (hy : ys.length = n) :
    (Op.equalIn (d + 2) t (.agg (nmv k xs)) (.agg (nmv k ys))).run P w = .ok (decide (xs = ys)) w := by
  unfold Op.equalIn
  rw [Sem.run_bind, run_underlying ht]
  simp only [Result.andThen]
  rw [Sem.run_bind, run_sizeOf_one w hs]
  simp only [Result.andThen]
  have := equal_loop (P := P) w (d := d) he xs ys n n 0 (by omega) hx.symm hy.symm
  rw [Sem.run_bind, Std.Legacy.Range.forIn_eq_forIn_range']
  have hsz : ([:n] : Std.Legacy.Range).size = n := by simp [Std.Legacy.Range.size]
  rw [hsz]
  refine (congrArg (fun r => Result.andThen r _) this).trans ?_
  by_cases hq : xs = ys
  · simp [hq, Result.andThen]
  · simp [hq, Result.andThen]
end

theorem bv_inj {xs ys : List UInt8} (h : xs.map (fun b => (b.toNat : Int)) = ys.map (fun b => (b.toNat : Int))) : xs = ys := by
  refine List.map_inj_right (f := fun b : UInt8 => (b.toNat : Int)) ?_ |>.1 h
  intro a b hab
  exact UInt8.toNat_inj.1 (Int.ofNat_inj.1 hab)
theorem bv_inj' {xs ys : List UInt8} : (xs.map (fun b => (b.toNat : Int)) = ys.map (fun b => (b.toNat : Int))) ↔ xs = ys := ⟨bv_inj, fun h => by rw [h]⟩
/-- Two arrays of bytes, compared. -/
theorem run_equal_bv {P : Program} (w : World) {d : Nat} {t e : TypeId} {n : Nat} (ht : P.underlying t = some (.array n e)) (he : P.underlying e = some (.int .u8)) (hs : (P.info? e).map (·.size) = some 1)
    (xs ys : List UInt8) (hx : xs.length = n) (hy : ys.length = n) :
    (Op.equalIn (d + 2) t (.agg (bv xs)) (.agg (bv ys))).run P w = .ok (decide (xs = ys)) w := by
  rw [bv_nmv, bv_nmv, run_equal_nmv w ht he hs _ _ (by simpa using hx) (by simpa using hy)]
  simp only [bv_inj']

theorem bdraw (w : World) : Below w.heap.size w { w with drawn := w.drawn + 1 } := ⟨rfl, rfl, rfl, Nat.le_refl _, fun _ _ => rfl⟩
theorem bcall {w w' w'' : World} (h : Below w.heap.size w w') (k : Below w'.heap.size w' w'') : Below w.heap.size w w'' := h.trans (k.mono h.size)
theorem bcell {w w' : World} (h : Below w.heap.size w w') {p : Addr} {v : Value} (hc : w.cell? p = some v) : w'.cell? p = some v := (h.cell (World.block_lt_of_cell? w p hc)).trans hc
theorem bheap {w w' : World} (h : Below w.heap.size w w') {g : Nat} {o : Obj} (hc : w.heap[g]? = some o) : w'.heap[g]? = some o := (h.block g (Array.getElem?_eq_some_iff.1 hc).1).trans hc

section
variable {P : Program} {w : World} {ops : Array Oper} {rest : List Oper} {o : Oper} {a : Act} {Q : Act → Prop}

/-- A region that draws its order, whose operations leave what was there: one walk. -/
theorem wp_region_grow {id : Nat} {Q : Exit → Act → World → Prop} {a : Act} {w : World} {l : List Oper} (hm : P.follows .mixedOrders = true) (hB : Region.lexB .any l.toArray = true)
    (h : wpQuiet P l.toArray (fun w' => Below w.heap.size w w') (fun a' => ∀ w', Below w.heap.size w w' → Q .normal a' w') l a) : (Code.region id l.toArray true).wp P Q a w :=
  wp_region_quiet (C := fun w' => Below w.heap.size w w') hm hB (bdraw w) (by simpa using h)

theorem wq_done (h : Q a) : wpQuiet P ops (fun w' => Below w.heap.size w w') Q [] a := h
theorem wq_val (v : Value) (a' : Act) (hw : Region.wanted o (yielded ops a.tmps) = true) (hr : ∀ w', Below w.heap.size w w' → (execOp a.eval o).run P w' = .ok (.value v) w') (ha : a.put o.dst v = a')
    (h : wpQuiet P ops (fun w' => Below w.heap.size w w') Q rest a') : wpQuiet P ops (fun w' => Below w.heap.size w w') Q (o :: rest) a := by
  simp only [wpQuiet, hw, if_true]
  exact ⟨v, fun w' hw' => by unfold Oper.quietAt; rw [hr w' hw']; exact ⟨rfl, rfl⟩, by rw [ha]; exact h⟩
theorem wq_skip (a' : Act) (hw : Region.wanted o (yielded ops a.tmps) = false) (ha : a.put o.dst undef = a')
    (h : wpQuiet P ops (fun w' => Below w.heap.size w w') Q rest a') : wpQuiet P ops (fun w' => Below w.heap.size w w') Q (o :: rest) a := by
  simp only [wpQuiet, hw, Bool.false_eq_true, if_false, ha]
  exact h
theorem wq_call (v : Value) (a' : Act) (f : FuncId) (args : Array Value) (hw : Region.wanted o (yielded ops a.tmps) = true) (hr : ∀ w', (execOp a.eval o).run P w' = .ok (.enter f args) w')
    (hc : ∀ w', Below w.heap.size w w' → Calls P f args w' fun e w'' => e = .returned v ∧ Below w'.heap.size w' w'') (ha : a.put o.dst v = a')
    (h : wpQuiet P ops (fun w' => Below w.heap.size w w') Q rest a') : wpQuiet P ops (fun w' => Below w.heap.size w w') Q (o :: rest) a := by
  simp only [wpQuiet, hw, if_true]
  exact ⟨v, fun w' hw' => by unfold Oper.quietAt; rw [hr w']; exact ⟨rfl, (hc w' hw').mono fun e w'' ⟨he, hb⟩ => ⟨he, bcall hw' hb⟩⟩, by rw [ha]; exact h⟩
theorem wq_load_row (ty : TypeId) (x : Operand) (ho : o.op = .load ty x) (g : Nat) (hx : a.eval x = .pointer (some ⟨g, 0, none⟩)) (t : TypeId) (cs : Array Value) (fr : Nat × Nat) (d : TypeDesc)
    (hg : w.heap[g]? = some (.cells cs t fr)) (hu : P.underlying ty = some d) (hd : (match d with | .struct _ | .array _ _ => true | _ => false) = true) (hi : (P.info? ty).map (·.size) = some cs.size)
    (a' : Act) (hw : Region.wanted o (yielded ops a.tmps) = true) (ha : a.put o.dst (.agg cs) = a')
    (h : wpQuiet P ops (fun w' => Below w.heap.size w w') Q rest a') : wpQuiet P ops (fun w' => Below w.heap.size w w') Q (o :: rest) a := by
  refine wq_val (.agg cs) a' hw (fun w' hw' => ?_) ha h
  simp only [execOp, ho, hx, Instr.loadAt, Instr.sureAddr, Sem.run_bind, Sem.run_pure, Result.andThen_ok, run_loadVar_row w' g t ty cs fr d (bheap hw' hg) hu hd hi]
end

/-! ### Arguments, opened -/
section
variable {H : Type} {enc : TypeId × Value → H} {P : Program} {w : World} {base : Nat} {spare : Nat → Bool} {held : Bool} {t e : TypeId} {v : Value} {d : DataW H} {ps : List MemPlace}

theorem u8_of_wf {n : Int} (h : (Lit.int .u8 n).wf = true) : ∃ b : UInt8, n = (b.toNat : Int) := by
  have := bounds_u8 h
  exact ⟨UInt8.ofNat n.toNat, by rw [UInt8.toNat_ofNat']; omega⟩

theorem bytes_of_list : ∀ (cs : List Value) (n : Nat), cs.length = n → (∀ i, i < n → ∃ b : UInt8, cs[i]? = some (.int .u8 (b.toNat : Int))) → ∃ l : List UInt8, l.length = n ∧ cs.toArray = bv l
  | [], n, hn, _ => ⟨[], by simpa using hn, by simp [bv]⟩
  | c :: cs, 0, hn, _ => by simp at hn
  | c :: cs, n + 1, hn, h => by
    obtain ⟨b, hb⟩ := h 0 (by omega)
    obtain ⟨l, hl, hc⟩ := bytes_of_list cs n (by simpa using hn) (fun i hi => by have := h (i + 1) (by omega); simpa using this)
    refine ⟨b :: l, by simp [hl], ?_⟩
    simp only [List.getElem?_cons_zero, Option.some.injEq] at hb
    subst hb
    have : cs = l.map fun b => Value.int .u8 (b.toNat : Int) := by
      have := congrArg Array.toList hc
      simpa [bv] using this
    simp [bv, this]

/-- An array of bytes that came in. -/
theorem open_bytes {n : Nat} {r : Reach} {base' : Nat} (ht : P.underlying t = some (.array n e)) (he : P.underlying e = some (.int .u8)) (hce : P.cellsOf e = 1) (hc : P.cellsOf t = n)
    (h : DataW.Trod enc P w base spare held t v d ps) (hv : Value.okWide P w r base' t v) : ∃ l : List UInt8, l.length = n ∧ v = .agg (bv l) := by
  unfold Value.okWide at hv
  rw [ht] at hv
  obtain ⟨cs, rfl, hsz, _⟩ := hv
  obtain ⟨fuel, hf⟩ := h
  obtain ⟨xs, m, _, _, hl, hxs, hget⟩ := DataW.trod_array ht hf
  have hlen : cs.toList.length = n := by
    exact hl.trans hc
  obtain ⟨l, hl2, hc2⟩ := bytes_of_list cs.toList n hlen (fun i hi => by
    have := hget i hi
    rw [hce, Nat.mul_one, List.getElem?_eq_getElem (by omega)] at this
    obtain ⟨k, hk, _, hwf⟩ := DataW.trod_int he this
    obtain ⟨b, rfl⟩ := u8_of_wf hwf
    refine ⟨b, ?_⟩
    have := congrArg (fun l : List Value => l[0]?) hk
    simpa [List.getElem?_take, List.getElem?_drop, Value.cells] using this)
  exact ⟨l, hl2, by rw [← hc2]⟩
end

/-! ### A slice of the call's own that grows -/
theorem grown_of_below {w w1 : World} (h : Below w.heap.size w w1) (row : Option Nat) : w.grownBy w1 row := ⟨h.os, h.tape, h.output, h.size, fun i hi _ => h.block i hi⟩
theorem own_below {w w1 : World} {base : Nat} {e : TypeId} {size n : Nat} {v : Value} {xs : List Value} (h : w.ownsRow base e size v n xs) (hb : Below w.heap.size w w1) : w1.ownsRow base e size v n xs :=
  h.kept (grown_of_below hb none) (by cases v.ownBlock <;> simp)
/-- What owns another block lives on while one row is written. -/
theorem own_other {w w1 : World} {base : Nat} {e : TypeId} {size n : Nat} {v : Value} {xs : List Value} (h : w.ownsRow base e size v n xs) {row : Option Nat} (hg : w.grownBy w1 row) (hne : v.ownBlock = none ∨ v.ownBlock ≠ row) : w1.ownsRow base e size v n xs := h.kept hg hne
/-- A row laid behind another one's making is another block. -/
theorem own_ne {w : World} {b b' e e' s s' n n' : Nat} {v v' : Value} {xs xs' : List Value} (h : w.ownsRow b e s v n xs) {w1 : World} (h' : w1.ownsRow b' e' s' v' n' xs') (hb : w.heap.size ≤ b') : v.ownBlock = none ∨ v.ownBlock ≠ v'.ownBlock := by
  cases hv : v.ownBlock with
  | none => exact .inl rfl
  | some k =>
    refine .inr fun hk => ?_
    have h1 := (h.lt k hv).2
    have h2 := (h'.lt k hk.symm).1
    omega
theorem own_form {w : World} {base n : Nat} {e : TypeId} {size : Nat} {v : Value} {xs : List Value} (h : w.ownsRow base e size v n xs) (hn : 0 < n) : ∃ g cap, v = .slice (some ⟨g, 0, none⟩) n cap ∧ base ≤ g ∧ g < w.heap.size := by
  rcases h.2 with ⟨_, h0⟩ | ⟨g, cap, cur, hv, hb, hg, _⟩
  · omega
  · exact ⟨g, cap, hv, hb, (Array.getElem?_eq_some_iff.1 hg).1⟩
theorem own_base {w : World} {base : Nat} {e : TypeId} {size n : Nat} {v : Value} {xs : List Value} (h : w.ownsRow base e size v n xs) (k : Nat) (hk : v.ownBlock = some k) : base ≤ k := (h.lt k hk).1
section
variable {P : Program} {ops : Array Oper} {rest : List Oper} {o : Oper} {a : Act} {Q : Exit → Act → World → Prop}
/-- append(v, y), y of one cell: y lies in the block laid last. -/
theorem wl_append1 {w0 W : World} (base : Nat) (hgd : o.guard = none) (s x : Operand) (t e : TypeId) (z : Value) (bytes : Nat)
    (ho : o.op = .call { callee := .builtin .append, args := #[s, x], argTypes := #[t, t] })
    (ht : P.underlying t = some (.slice e)) (hinfo : (P.info? e).map (fun i => (i.zero, i.size, i.bytes)) = some (some z, 1, bytes)) (hz : z.cells.size = 1) (hb0 : 0 < bytes)
    (v : Value) (n : Nat) (xs : List Value) (y : Value) (HO : W.ownsRow base e 1 v n xs) (HB : Below base w0 W) (hbase : base ≤ W.heap.size)
    (hs : a.eval s = v) (hx : a.eval x = .slice (some ⟨W.heap.size, 0, none⟩) 1 1) (h1 : y.oneCell' = true) (hl : (n + 1) * bytes ≤ 140737488355328)
    (h : ∀ v1 w1, w1.ownsRow base e 1 v1 (n + 1) (xs ++ [y]) → Below base w0 w1 → W.grownBy w1 v.ownBlock → wpList P ops Q rest (a.put o.dst v1) w1) :
    wpList P ops Q (o :: rest) a (W.alloc (.cells #[y] e)) := by
  obtain ⟨i0, hi, hz0, hz1, hz2⟩ := info_parts hinfo
  have hlen : n + 1 ≤ 140737488355328 := Nat.le_trans (Nat.le_mul_of_pos_right _ hb0) hl
  refine wpList_append_own (W.alloc (.cells #[y] e)) hgd s x t ho base e i0 z 1 bytes ht hi hz0 hz1 hz2 hz (by omega) v n xs hs (HO.alloc _) ⟨W.heap.size, 0, none⟩ 1 1 [y] hx rfl ?_ (by simpa using h1)
    (by simp only [maxLen]; omega) hl (by simp; omega) ?_
  · intro j u hu
    have hj : j = 0 := by
      have := (List.getElem?_eq_some_iff.1 hu).1
      simpa using this
    subst hj
    have : y = u := by simpa using hu
    subst this
    have e2 : ((⟨W.heap.size, 0, none⟩ : Addr).add 0) = ⟨W.heap.size, 0, none⟩ := rfl
    rw [e2, cell_of_row _ _ _ _ _ _ (heap_alloc_new W _)]
    rfl
  · intro v1 w1 hown hg _
    refine h v1 w1 hown ?_ (World.grownBy.trans (World.grownBy_alloc W _ _) hg)
    exact (HB.alloc hbase _).grown hg (by simp; omega) (own_base HO)
end

theorem own_slice {w : World} {base n : Nat} {e : TypeId} {size : Nat} {v : Value} {xs : List Value} (h : w.ownsRow base e size v n xs) : ∃ A c, v = .slice A n c := by
  rcases h.2 with ⟨rfl, rfl⟩ | ⟨g, cap, cur, rfl, _⟩
  · exact ⟨none, 0, rfl⟩
  · exact ⟨_, cap, rfl⟩
theorem ret_int {k : IntKind} {a b : Int} (h : a = b) : Ending.returned (.int k a) = .returned (.int k b) := by rw [h]
theorem ret_bool {a b : Bool} (h : a = b) : Ending.returned (.bool a) = .returned (.bool b) := by rw [h]
end Cop
