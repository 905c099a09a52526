/- slices.Backward over peaks: its contract. -/
import Derived.Test.YtlhebogbbkjahaaDoorPt
namespace Go.Proofs.YtlhebogbbkjahaaDoor
open Go.RowKit Go.Shelf Cop
set_option linter.unusedVariables false
set_option linter.unusedSimpArgs false
attribute [local go_sem] Oper.semAt_some
/-- All blocks below n₀ but one stay. -/
def KeepsBut (n₀ g : Nat) (W W' : World) : Prop := W.heap.size ≤ W'.heap.size ∧ ∀ k, k < n₀ → k ≠ g → W'.heap[k]? = W.heap[k]?
theorem KeepsBut.refl (n₀ g : Nat) (W : World) : KeepsBut n₀ g W W := ⟨Nat.le_refl _, fun _ _ _ => rfl⟩
theorem KeepsBut.trans {n₀ g : Nat} {A B C : World} (h : KeepsBut n₀ g A B) (k : KeepsBut n₀ g B C) : KeepsBut n₀ g A C := ⟨Nat.le_trans h.1 k.1, fun i h1 h2 => (k.2 i h1 h2).trans (h.2 i h1 h2)⟩
theorem KeepsBut.cell {n₀ g : Nat} {A B : World} (h : KeepsBut n₀ g A B) {b o : Nat} (h1 : b < n₀) (h2 : b ≠ g) : B.cell? ⟨b, o, none⟩ = A.cell? ⟨b, o, none⟩ := World.cell?_of_block (w := A) (a := ⟨b, o, none⟩) (h.2 b h1 h2)
theorem keepsBut_b {n₀ g : Nat} {w : World} (hn : n₀ ≤ w.heap.size) (W : World) (l : Nat) (o o' : Obj) (hl : w.heap.size ≤ l) (h : W.heap[l]? = some o) (_ : o.isCells = false) (_ : o.isWalk = false) : KeepsBut n₀ g W (W.putObj l o') :=
  ⟨by simp, fun k hk _ => World.putObj_heap_other (by omega)⟩
theorem keepsBut_below {n₀ g : Nat} {W W' : World} (h : Below W.heap.size W W') (hn : n₀ ≤ W.heap.size) : KeepsBut n₀ g W W' := ⟨h.size, fun k hk _ => h.block k (by omega)⟩
theorem keepsBut_setRow (n₀ g : Nat) (W : World) (cs : Array Value) : KeepsBut n₀ g W (W.setRow g cs) := ⟨by simp, fun k hk hne => setRow_other W g k cs hne⟩
theorem keepsBut_new {n₀ g : Nat} (W : World) (h : Nat) (hh : n₀ ≤ h) (cs : Array Value) : KeepsBut n₀ g W (W.setRow h cs) := ⟨by simp, fun k hk hne => setRow_other W h k cs (by omega)⟩
section
variable {P : Program} {n : Nat} {w : World} {o : Oper} {a : Act}
theorem wli_val {ops : Array Oper} {rest : List Oper} {Q : Exit → Act → World → Prop} (hgd : o.guard = none) (hd : ∀ c, o.op ≠ .defer c) (v : Value) (hr : (execOp a.eval o).run P w = .ok (.value v) w) (h : wpListIn Fence.wide n P ops Q rest (a.put o.dst v) w) : wpListIn Fence.wide n P ops Q (o :: rest) a w := by
  unfold wpListIn
  rw [if_pos (by simp [Region.wanted, hgd])]
  refine ⟨fun _ _ => trivial, ?_⟩
  rw [Oper.semAt_plain _ _ _ hd, hr]
  exact h
theorem wli_ldx {ops : Array Oper} {rest : List Oper} {Q : Exit → Act → World → Prop} (hgd : o.guard = none) (ty : TypeId) (x : Operand) (hop : o.op = .load ty x) (p : Value) (hx : a.eval x = p) (v : Value) (hl : (Instr.loadAt ty p).run P w = .ok v w) (h : wpListIn Fence.wide n P ops Q rest (a.put o.dst v) w) : wpListIn Fence.wide n P ops Q (o :: rest) a w := by
  refine wli_val hgd (by rw [hop]; intro c hc; cases hc) v ?_ h
  simp only [execOp, hop, hx, Sem.run_bind, hl, Result.andThen_ok, Sem.run_pure]
end
/-- A peak that is handed over: its index, its number, its digest. -/
abbrev PK := { x : Nat × Nat × List UInt8 // x.2.2.length = 32 }
def pkE (x : PK) : Array Value := #[.int .i64 (x.1.1 : Int), .agg (ptv x.1.2.1 x.1.2.2)]
theorem pkA_eq (T : Array Value) (x : PK) (p q : Tmp) : ((#[p, q] : Array Tmp).zip (pkE x)).foldl (fun t (p, v) => t.setIfInBounds p v) T = (T.setIfInBounds p (.int .i64 (x.1.1 : Int))).setIfInBounds q (.agg (ptv x.1.2.1 x.1.2.2)) := by
  simp [pkE]
set_option maxRecDepth 100000 in
set_option maxHeartbeats 2000000 in
theorem backward1_in (n : Nat) (hn : 1 ≤ n) (l Bs n₀ g b c : Nat) (s : List (Nat × List UInt8)) (hs : AllP s) (hlen : s.length ≤ 1000) (hb : b < n₀) (hbg : b ≠ g) (hB : Bs < n₀) (hBg : Bs ≠ g) (J Jx : List PK → World → Prop)
    (hY : ∀ (pre : List PK) (x : PK) (W : World), J pre W → pre.length < s.length → YieldAt Fence.wide (n - 1) Tryd.prog l (pkE x) W fun e W' =>
      (e = .returned (.bool true) ∧ J (pre ++ [x]) W' ∧ KeepsBut n₀ g W W') ∨ (e = .returned (.bool false) ∧ Jx (pre ++ [x]) W'))
    (W : World) (hBs : W.cell? ⟨Bs, 0, none⟩ = some (.slice (some ⟨b, 0, none⟩) s.length c)) (hc : ∀ j v, (pcs s)[j]? = some v → W.cell? ⟨b, j, none⟩ = some v) (h0 : J [] W) :
    CallsIn Fence.wide n Tryd.prog 66 #[.func (.yield l) #[] #[], .pointer (some ⟨Bs, 0, none⟩)] W fun e W' => (∃ v, e = .returned v) ∧
      ((∃ ys : List PK, ys.map (fun x => x.1.2) = s ∧ J ys W') ∨ (∃ pre : List PK, True ∧ Jx pre W')) := by
  have HC := Lib.hid hc
  have HB := Lib.hid hBs
  have HS := Lib.hid hs
  have HY := Lib.hid hY
  clear hc hs hY
  refine callsIn_of_wp Tryd.func66 rfl trivial ?_ rfl
  simp only [Tryd.ntmps66, List.size_toArray, List.length_cons, List.length_nil, Nat.reduceAdd, Nat.reduceSub, Array.replicate_succ, Array.replicate_zero, List.push_toArray, List.append_toArray, List.nil_append, List.cons_append]
  gi_wp2
  clear hBs
  gi_loopw [3] (fun i wr => ∃ (pre : List PK) (rest : List (Nat × List UInt8)) (t : Int), s = pre.map (fun x => x.1.2) ++ rest ∧ t = (rest.length : Int) - 1 ∧ i = .int .i64 t ∧ J pre wr ∧ KeepsBut n₀ g W wr)
    (fun i _ => (intOf i + 1).toNat)
  case atStart => exact ⟨[], s, _, rfl, rfl, rfl, h0, KeepsBut.refl _ _ _⟩
  case round =>
    obtain ⟨pre, rest, t, hx, ht, rfl, hJs, hk⟩ := hrel
    have hcb := (hk.cell (o := 0) hB hBg).trans HB.out
    have HX := Lib.hid hx
    clear hx
    cases rest with
    | nil =>
      have ht1 : t = -1 := by simpa using ht
      subst ht1
      clear ht
      gi_wp2
      go_end0
      exact ⟨⟨_, rfl⟩, .inl ⟨pre, by have := HX.out; rw [List.append_nil] at this; exact this.symm, hJs⟩⟩
    | cons q rest =>
      have ht1 : t = (rest.length : Int) := by simp only [List.length_cons] at ht; omega
      subst ht1
      have hql : q.2.length = 32 := HS.out q (by rw [HX.out]; simp)
      have hlr : rest.length < s.length := by rw [HX.out]; simp; omega
      have hpl : pre.length < s.length := by rw [HX.out]; simp
      have hr32 : AllP rest := fun x hx => HS.out x (by rw [HX.out]; simp [hx])
      have hld : (Instr.loadAt 108 (.pointer (some ⟨b, rest.length * 33, none⟩))).run Tryd.prog wr = .ok (.agg (ptv q.1 q.2)) wr := by
        refine load_cells (ptv q.1 q.2) (fun j v hv => ?_) 108 Tryd.underlying108 rfl (ptS hql)
        refine (hk.cell hb hbg).trans (HC.out _ v ?_)
        rw [HX.out]
        have hpp : ∀ (A : List (Nat × List UInt8)), (pcs (A ++ q :: rest))[rest.length * 33 + j]? = (ptv q.1 q.2)[j]? := by
          intro A
          have hjl : j < 33 := by have := (Array.getElem?_eq_some_iff.1 hv).1; rw [ptv_size hql] at this; exact this
          induction A with
          | nil => exact pcs_top (p := q) (s := rest) (fun x hx => by rcases List.mem_cons.1 hx with rfl | h; exact hql; exact hr32 x h) j
          | cons p A ih =>
            rw [List.cons_append, pcs, List.getElem?_append_left]
            · exact ih
            · have := (List.getElem?_eq_some_iff.1 (ih.trans hv)).1
              exact this
        rw [hpp, hv]
      obtain ⟨fn, tmps, assign, body, hy, hR⟩ := HY.out pre ⟨(rest.length, q.1, q.2), hql⟩ wr hJs hpl
      dsimp only [pkE] at hy
      have HLD := Lib.hid hld
      clear hld ht
      gi_wp2_with (refine wli_ldx rfl 108 _ rfl _ rfl (.agg (ptv q.1 q.2)) HLD.out ?_)
      refine hR.mono ?_
      rintro e W3 (⟨rfl, hJ3, hk3⟩ | ⟨rfl, hJx3⟩)
      · gi_wp2
        go_roundw
        case rel => exact ⟨pre ++ [⟨(rest.length, q.1, q.2), hql⟩], rest, _, by rw [HX.out]; simp, rfl, rfl, hJ3, hk.trans hk3⟩
        case measure => simp [intOf]
      · gi_wp2
        refine bodyPost_ret (results_none rfl _ _ _) rfl ?_
        exact ⟨⟨_, rfl⟩, .inr ⟨_, trivial, hJx3⟩⟩
set_option maxHeartbeats 1000000 in
theorem backward_a (A : Option Addr) (m c : Nat) (w : World) :
    Calls Tryd.prog 43 #[.slice A m c] w fun e w' => e = .returned (.func (.func 66) #[] #[.pointer (some ⟨w.heap.size, 0, none⟩)]) ∧ w' = w.alloc (.cells #[.slice A m c] 106) := by
  go_enter Tryd.func43, Tryd.ntmps43
  go_wp2
  go_ret
  exact ⟨rfl, rfl⟩
theorem backward_stops (n : Nat) (hn : 1 ≤ n) (Bs n₀ g b c : Nat) (s : List (Nat × List UInt8)) (hs : AllP s) (hlen : s.length ≤ 1000) (hb : b < n₀) (hbg : b ≠ g) (hB : Bs < n₀) (hBg : Bs ≠ g) (w : World) (hn₀ : n₀ ≤ w.heap.size)
    (hBs : w.cell? ⟨Bs, 0, none⟩ = some (.slice (some ⟨b, 0, none⟩) s.length c)) (hc : ∀ j v, (pcs s)[j]? = some v → w.cell? ⟨b, j, none⟩ = some v) :
    SeqStopsK Fence.wide n Tryd.prog 66 #[.pointer (some ⟨Bs, 0, none⟩)] pkE (KeepsBut n₀ g) (fun ys => ys.map (fun x => x.1.2) = s) (fun _ => True) s.length w := fun l J Jx W hW _ _ hY h0 =>
  backward1_in n hn l Bs n₀ g b c s hs hlen hb hbg hB hBg J Jx hY W ((hW.cell (p := ⟨Bs, 0, none⟩) (by simp; omega)).trans hBs) (fun j v hv => (hW.cell (p := ⟨b, j, none⟩) (by simp; omega)).trans (hc j v hv)) h0
end Go.Proofs.YtlhebogbbkjahaaDoor
