/- Peaks as they lie in memory; digests' lists. -/
import Derived.Test.YtlhebogbbkjahaaDoorRf
import Derived.Test.YtlhebogbbkjahaaDoorTr
import Derived.Test.YtlhebogbbkjahaaDoorTn
import Derived.Laws.Tables
namespace Go.Proofs.YtlhebogbbkjahaaDoor
open Go.RowKit Cop
set_option linter.unusedVariables false
set_option linter.unusedSimpArgs false
/-- Digests, one behind the other. -/
def dcs (l : List (List UInt8)) : List Value := l.flatMap bl
def AllD (l : List (List UInt8)) : Prop := ∀ x ∈ l, x.length = 32
theorem dcs_length {l : List (List UInt8)} (h : AllD l) : (dcs l).length = l.length * 32 := by
  induction l with
  | nil => rfl
  | cons x l ih =>
    have := ih (fun y hy => h y (List.mem_cons_of_mem _ hy))
    have h1 := h x List.mem_cons_self
    simp only [dcs, List.flatMap_cons, List.length_append, bl_length, List.length_cons] at *
    omega
theorem dcs_append (a b : List (List UInt8)) : dcs (a ++ b) = dcs a ++ dcs b := by simp [dcs]
theorem dcs_cons (a : List UInt8) (b : List (List UInt8)) : dcs (a :: b) = bl a ++ dcs b := by simp [dcs]
theorem AllD.take {l : List (List UInt8)} (h : AllD l) (k : Nat) : AllD (l.take k) := fun x hx => h x (List.mem_of_mem_take hx)
theorem AllD.drop {l : List (List UInt8)} (h : AllD l) (k : Nat) : AllD (l.drop k) := fun x hx => h x (List.mem_of_mem_drop hx)
theorem dcs_take {l : List (List UInt8)} (h : AllD l) (k : Nat) (hk : k ≤ l.length) : (dcs l).take (k * 32) = dcs (l.take k) := by
  have e : l = l.take k ++ l.drop k := (List.take_append_drop k l).symm
  have h2 := dcs_length (h.take k)
  rw [List.length_take, Nat.min_eq_left hk] at h2
  conv => lhs; rw [e, dcs_append]
  rw [List.take_left' h2]
theorem dcs_drop {l : List (List UInt8)} (h : AllD l) (k : Nat) (hk : k ≤ l.length) : (dcs l).drop (k * 32) = dcs (l.drop k) := by
  have e : l = l.take k ++ l.drop k := (List.take_append_drop k l).symm
  have h2 := dcs_length (h.take k)
  rw [List.length_take, Nat.min_eq_left hk] at h2
  conv => lhs; rw [e, dcs_append]
  rw [List.drop_left' h2]
theorem dcs_at {l : List (List UInt8)} (h : AllD l) (k : Nat) (hk : k < l.length) (j : Nat) (hj : j < 32) : (dcs l)[k * 32 + j]? = (bl (l.getD k []))[j]? := by
  have h1 : (dcs l)[k * 32 + j]? = ((dcs l).drop (k * 32))[j]? := by rw [List.getElem?_drop]
  rw [h1, dcs_drop h k (by omega), List.drop_eq_getElem_cons hk, dcs_cons, List.getElem?_append_left (by rw [bl_length, h _ (List.getElem_mem hk)]; exact hj)]
  simp [List.getD, hk]
/-- A peak's cells. -/
def ptv (n : Nat) (d : List UInt8) : Array Value := (Value.int .i64 (n : Int) :: bl d).toArray
theorem ptv_size {n : Nat} {d : List UInt8} (h : d.length = 32) : (ptv n d).size = 33 := by simp [ptv, bl_length, h]
theorem ptv_one (n : Nat) (d : List UInt8) : (ptv n d).all (·.oneCell') = true := by
  rw [Array.all_eq_true_iff_forall_mem]
  intro v hv
  simp only [ptv, List.mem_toArray, List.mem_cons] at hv
  rcases hv with rfl | hv
  · rfl
  · simp [bl] at hv; obtain ⟨b, _, rfl⟩ := hv; rfl
theorem ptS {n : Nat} {d : List UInt8} (h : d.length = 32) : (Tryd.prog.info? 108).map (·.size) = some (ptv n d).size := by rw [ptv_size h]; kernel_rfl
theorem ptE {n m : Nat} {d e : List UInt8} (h : d.length = 32) (h2 : e.length = 32) : (ptv n d).size = (ptv m e).size := by rw [ptv_size h, ptv_size h2]
theorem ptv_mid (n : Nat) (d : List UInt8) (j : Nat) : (ptv n d)[1 + j]? = (bv d)[j]? := by
  rw [Nat.add_comm]
  have e : bv d = (bl d).toArray := by rw [← bv_toList]
  rw [e]
  simp [ptv]
theorem len32 {l : List UInt8} (h : l.length = 32) : ∃ a0 a1 a2 a3 a4 a5 a6 a7 b0 b1 b2 b3 b4 b5 b6 b7 c0 c1 c2 c3 c4 c5 c6 c7 d0 d1 d2 d3 d4 d5 d6 d7, l = [a0, a1, a2, a3, a4, a5, a6, a7, b0, b1, b2, b3, b4, b5, b6, b7, c0, c1, c2, c3, c4, c5, c6, c7, d0, d1, d2, d3, d4, d5, d6, d7] := by
  match l, h with
  | [a0, a1, a2, a3, a4, a5, a6, a7, b0, b1, b2, b3, b4, b5, b6, b7, c0, c1, c2, c3, c4, c5, c6, c7, d0, d1, d2, d3, d4, d5, d6, d7], _ => exact ⟨_, _, _, _, _, _, _, _, _, _, _, _, _, _, _, _, _, _, _, _, _, _, _, _, _, _, _, _, _, _, _, _, rfl⟩
set_option maxRecDepth 100000 in
theorem built_part (n : Nat) {d : List UInt8} (h : d.length = 32) : Tryd.prog.built 108 [(0, .int .i64 (n : Int)), (1, .agg (bv d))] = some (ptv n d) := by
  obtain ⟨a0, a1, a2, a3, a4, a5, a6, a7, b0, b1, b2, b3, b4, b5, b6, b7, c0, c1, c2, c3, c4, c5, c6, c7, d0, d1, d2, d3, d4, d5, d6, d7, rfl⟩ := len32 h
  kernel_rfl
theorem run_part (n : Nat) {d : List UInt8} (h : d.length = 32) (w : World) : (Instr.build 108 #[(0, .int .i64 (n : Int)), (1, .agg (bv d))]).run Tryd.prog w = .ok (.agg (ptv n d)) w := run_build w _ _ _ (built_part n h)
/-- A stack of peaks (the last one first) as it lies in memory. -/
def pcs : List (Nat × List UInt8) → List Value
  | [] => []
  | p :: s => pcs s ++ (ptv p.1 p.2).toList
def AllP (s : List (Nat × List UInt8)) : Prop := ∀ x ∈ s, x.2.length = 32
theorem AllP.tail {p : Nat × List UInt8} {s : List (Nat × List UInt8)} (h : AllP (p :: s)) : AllP s := fun x hx => h x (List.mem_cons_of_mem _ hx)
theorem AllP.head {p : Nat × List UInt8} {s : List (Nat × List UInt8)} (h : AllP (p :: s)) : p.2.length = 32 := h p List.mem_cons_self
theorem pcs_length {s : List (Nat × List UInt8)} (h : AllP s) : (pcs s).length = s.length * 33 := by
  induction s with
  | nil => rfl
  | cons p s ih => rw [pcs, List.length_append, ih h.tail, show (ptv p.1 p.2).toList.length = 33 from (Array.length_toList (xs := ptv p.1 p.2)).trans (ptv_size h.head), List.length_cons]; omega
/-- The cells of the last peak. -/
theorem pcs_top {p : Nat × List UInt8} {s : List (Nat × List UInt8)} (h : AllP (p :: s)) (j : Nat) : (pcs (p :: s))[s.length * 33 + j]? = (ptv p.1 p.2)[j]? := by
  rw [pcs, List.getElem?_append_right (by rw [pcs_length h.tail]; omega), pcs_length h.tail, show s.length * 33 + j - s.length * 33 = j from by omega]
  simp
theorem pcs_one (s : List (Nat × List UInt8)) : ∀ c ∈ pcs s, c.oneCell' = true := by
  induction s with
  | nil => intro c hc; cases hc
  | cons p s ih =>
    intro c hc
    rw [pcs, List.mem_append] at hc
    rcases hc with hc | hc
    · exact ih c hc
    · exact (Array.all_eq_true_iff_forall_mem.1 (ptv_one p.1 p.2)) c (by simpa using hc)
section
variable {P : Program} {w0 w : World} {B : Nat} {R : List Pc}
theorem own_cell {g n c : Nat} {e : TypeId} {size : Nat} {xs : List Value} (h : Ow w B e size (.slice (some ⟨g, 0, none⟩) n c) n xs) (j : Nat) {v : Value} (hv : xs[j]? = some v) : w.cell? ⟨g, j, none⟩ = some v := by
  obtain ⟨hl, A, c', he, _, _, _, hcell⟩ := h.rd
  have hn : 0 < n := by
    rcases Nat.eq_zero_or_pos n with h0 | h0
    · subst h0
      have := (List.getElem?_eq_some_iff.1 hv).1
      omega
    · exact h0
  obtain ⟨b, o, h1, hcl⟩ := hcell hn
  injection he with he1 _ _
  rcases h.2 with ⟨A', h2, h3⟩ | ⟨g', cap, cur, hc, h2, h3, h4, h5, h6, h7, h8⟩
  · omega
  · injection h2 with h2 _ _
    rw [← h8] at hv
    rw [List.getElem?_take] at hv
    split at hv
    · have hg : g = g' := by simpa using h2
      subst hg
      rw [cell_of_row _ _ _ _ _ _ h4]
      simpa using hv
    · cases hv
/-- The last element goes. -/
theorem Ow.shrink {A : Option Addr} {n m c : Nat} {e : TypeId} {size : Nat} {xs ys : List Value} (h : Ow w B e size (.slice A n c) n (xs ++ ys)) (hm : m ≤ n) (hx : xs.length = m * size) : Ow w B e size (.slice A m c) m xs := by
  refine ⟨hx, ?_⟩
  rcases h.2 with ⟨A', he, h0⟩ | ⟨g, cap, cur, hc, he, h1, h2, h3, h4, h5, h6⟩
  · injection he with h1 h2 h3
    subst h1 h3
    exact .inl ⟨A, by rw [show m = 0 from by omega], by omega⟩
  · injection he with h7 _ h9
    subst h7 h9
    refine .inr ⟨g, c, cur, hc, rfl, h1, h2, by omega, h4, h5, ?_⟩
    have := congrArg (List.take (m * size)) h6
    rw [List.take_take, Nat.min_eq_left (Nat.mul_le_mul_right _ hm), List.take_left' hx] at this
    exact this
theorem _root_.Cop.Sep.shrink (h : Sep B w0 w R) (i : Nat) {A : Option Addr} {n m c : Nat} {e : TypeId} {size : Nat} {xs ys : List Value} (hi : R[i]? = some (.own (.slice A n c) e size n (xs ++ ys))) (hm : m ≤ n) (hx : xs.length = m * size) : Sep B w0 w (R.set i (.own (.slice A m c) e size m xs)) :=
  h.swap i hi (fun h => Ow.shrink h hm hx) (by cases A <;> rfl) rfl
theorem rd_cell {b o n c size : Nat} {cs : List Value} (h : Rd w (.slice (some ⟨b, o, none⟩) n c) n size cs) (h0 : 0 < n) (j : Nat) {v : Value} (hv : cs[j]? = some v) : w.cell? ⟨b, o + j, none⟩ = some v := by
  obtain ⟨hl, A, c', he, _, _, _, hcell⟩ := h
  obtain ⟨b', o', h1, hcl⟩ := hcell h0
  injection he with he1 _ _
  rw [h1] at he1
  simp only [Option.some.injEq, Addr.mk.injEq, and_true] at he1
  obtain ⟨rfl, rfl⟩ := he1
  exact hcl j v hv
/-- Some cells of what is known cell by cell. -/
theorem load_cells {g off : Nat} (sub : Array Value) (hc : ∀ j v, sub[j]? = some v → w.cell? ⟨g, off + j, none⟩ = some v) (ty : TypeId) {d : TypeDesc} (hu : P.underlying ty = some d) (hd : d.isRow = true) (hi : (P.info? ty).map (·.size) = some sub.size) :
    (Instr.loadAt ty (.pointer (some ⟨g, off, none⟩))).run P w = .ok (.agg sub) w := by
  have := run_loadAt_mid (P := P) w g off ty sub.toList d (fun j v hv => hc j v (by simpa using hv)) hu hd (by simpa using hi)
  simpa using this
end
end Go.Proofs.YtlhebogbbkjahaaDoor
