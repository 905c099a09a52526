/- Digests in rows; parts of bytes that are read; an array's element by value. -/
import Derived.Test.YtlhebogbbkjahaaDoorOt
namespace Go.Proofs.YtlhebogbbkjahaaDoor
open Go.RowKit Cop
set_option linter.unusedVariables false
set_option linter.unusedSimpArgs false
theorem dgS {l : List UInt8} (h : l.length = 32) : (Tryd.prog.info? 33).map (·.size) = some (bv l).size := by rw [bv_size, h]; exact info_dg
theorem dgE {l m : List UInt8} (h : l.length = 32) (h2 : m.length = 32) : (bv l).size = (bv m).size := by rw [bv_size, bv_size, h, h2]
theorem dgT {l : List UInt8} (h : l.length = 32) : (bv l).toList = (bl l).take 32 := by rw [bv_toList, List.take_of_length_le (by rw [bl_length, h]; exact Nat.le_refl _)]
abbrev Gives (f : FuncId) (args : Array Value) (w : World) (v : Value) : Prop := Calls Tryd.prog f args w fun e w' => e = .returned v ∧ Below w.heap.size w w'
section
variable {P : Program} {w0 w : World} {B : Nat} {R : List Pc} {o : Oper} {a : Act}
theorem wl_ix {ops : Array Oper} {rest : List Oper} {Q : Exit → Act → World → Prop} (hgd : o.guard = none) (t : TypeId) (x ix : Operand) (hop : o.op = .index t x ix) (cs : Array Value) (hx : a.eval x = .agg cs) (kk : IntKind) (i : Nat) (hix : a.eval ix = .int kk (i : Int)) {n : Nat} {e : TypeId} {k : IntKind}
    (ht : P.underlying t = some (.array n e)) (he : P.underlying e = some (.int k)) (hs : (P.info? e).map (·.size) = some 1) (v : Value) (hi : i < n) (hv : cs[i]? = some v)
    (h : wpList P ops Q rest (a.put o.dst v) w) : wpList P ops Q (o :: rest) a w := by
  refine wl_val hgd v ?_ h
  simp only [execOp, hop, hx, hix, Sem.run_bind, run_index_int w ht he hs cs i v hi hv, Result.andThen_ok, Sem.run_pure]
/-- A part of bytes that are read. -/
theorem rd_sub {l : List UInt8} {v : Value} {t e : TypeId} (h : Rd w v l.length 1 (bl l)) (ht : P.underlying t = some (.slice e)) (hs : (P.info? e).map (·.size) = some 1) (i n : Nat) (h0 : 0 < n) (hn : i + n ≤ l.length) :
    ∃ b o c, Rd w (.slice (some ⟨b, o, none⟩) n c) n 1 (bl ((l.drop i).take n)) ∧ n ≤ c ∧ c ≤ 9223372036854775807 ∧ ∀ W kl kh, (Instr.sliceAt t v (some (.int kl (i : Int))) (some (.int kh ((i : Int) + (n : Int)))) none).run P W = .ok (.slice (some ⟨b, o, none⟩) n c) W := by
  obtain ⟨v', h1, h2, _, _⟩ := h.slice ht hs i (i + n) (by omega) hn
  have e1 : (((bl l).take ((i + n) * 1)).drop (i * 1)) = bl ((l.drop i).take n) := by
    rw [Nat.mul_one, Nat.mul_one, List.drop_take]
    simp [bl, List.map_take, List.map_drop]
  rw [e1, show i + n - i = n from by omega] at h1
  obtain ⟨h3, A, c, rfl, h4, h5, h6, h7⟩ := id h1
  obtain ⟨b, o, rfl, _⟩ := h7 h0
  exact ⟨b, o, c, h1, h4, h5, fun W kl kh => by have := h2 W kl kh; rwa [Int.natCast_add] at this⟩
theorem wl_sl2 {ops : Array Oper} {rest : List Oper} {Q : Exit → Act → World → Prop} (hgd : o.guard = none) (ty : TypeId) (x lo hi : Operand) (hop : o.op = .slice ty x (some lo) (some hi) none) (p : Value) (hx : a.eval x = p) (vl vh : Value) (hlo : a.eval lo = vl) (hhi : a.eval hi = vh) (v : Value) (hl : (Instr.sliceAt ty p (some vl) (some vh) none).run P w = .ok v w) (h : wpList P ops Q rest (a.put o.dst v) w) : wpList P ops Q (o :: rest) a w := by
  refine wl_val hgd v ?_ h
  simp only [execOp, hop, hx, hlo, hhi, Option.map_none, Option.map_some, Sem.run_bind, hl, Result.andThen_ok, Sem.run_pure]
theorem _root_.Cop.Sep.dup (h : Sep B w0 w R) (i : Nat) {v : Value} {n size : Nat} {cs : List Value} (hi : R[i]? = some (.rd v n size cs)) : Sep B w0 w (.rd v n size cs :: R) := h.part i hi (h.rd i hi) fun _ h => h
end
end Go.Proofs.YtlhebogbbkjahaaDoor
