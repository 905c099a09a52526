/- append(bytes, string...). -/
import Derived.Test.YtkgdjddcnlkppaaDoorBx
import Derived.Lib.AppendStr
namespace Go.Proofs.YtkgdjddcnlkppaaDoor
open Go.RowKit Cop
set_option linter.unusedVariables false
section
variable {P : Program} {w0 w : World} {B : Nat} {R : List Pc} {o : Oper} {a : Act}
theorem run_append_str (t u ty e : TypeId) (ht : P.underlying t = some (.slice e)) (hu : P.underlying u = some .string) (hinfo : (P.info? e).map (fun i => (i.zero, i.size, i.bytes)) = some (some (.int .u8 0), 1, 1))
    (v : Value) (n : Nat) (xs : List Value) (h0 : 0 < n) (HS : Sep B w0 w (.own v e 1 n xs :: R)) (s : ByteArray) (hl : n + s.size ≤ 140737488355328) :
    ∃ v' w', (Builtin.append_ #[t, u] ty #[v, .string s]).run P w = .ok v' w' ∧ Sep B w0 w' (.own v' e 1 (n + s.size) (xs ++ Lib.strCells s) :: R) := by
  obtain ⟨i0, hi, hz0, hz1, hz2⟩ := info_parts hinfo
  have HO := HS.head
  rcases Ow.own_of HO with ⟨_, _, hn, _⟩ | hown
  · omega
  have hxl : xs.length = n := by simpa using hown.1
  have hlen : (xs ++ Lib.strCells s).length = (n + s.size) * 1 := by rw [List.length_append, hxl, Lib.strCells_length, Nat.mul_one]
  rcases hown.2 with ⟨rfl, hn⟩ | ⟨g, cap, cur, rfl, hbg, hg, hnc, hcm, hcs, htake⟩
  · omega
  by_cases hroom : n + s.size ≤ cap
  · have hcs' : cur.size = cap := by simpa using hcs
    have hr := Lib.run_append_room_string (P := P) w t u ty e i0 ht hu hi hz1 g n cap cur hg s hroom (by omega)
    refine ⟨_, _, hr, HS.turn rfl rfl rfl rfl (by simp) (fun k hk hne => setRow_other w g k _ (fun e => hne (by simp [Pc.blk, vblk, e]; omega))) (Ow.of_own ⟨hlen, .inr ⟨g, cap, _, rfl, hbg, setRow_heap w g cur _ e _ hg, hroom, hcm, ?_, ?_⟩⟩) (fun k hk => .inl ?_)⟩
    · simp only [List.size_toArray, List.length_append, List.length_take, List.length_drop, Array.length_toList, Lib.strCells_length]
      omega
    · have ht' : cur.toList.take n = xs := by simpa using htake
      rw [ht', ← hlen]
      exact List.take_left
    · simp [Pc.blk, vblk] at hk ⊢
      exact hk
  · have holds : ∀ j u, xs[j]? = some u → w.cell? ((⟨g, 0, none⟩ : Addr).add j) = some u := hown.cells (g := g) rfl
    have hr := Lib.run_append_grow_string (P := P) w t u ty e i0 (.int .u8 0) ht hu hi hz0 ⟨g, 0, none⟩ n cap xs (by rw [hz1]; simpa using hxl) holds s (by omega) (by omega) (by rw [hz2]; exact growslice_fits (by omega) (by omega))
    have hge := grownCap_ge w (n + s.size) cap e
    have hcm2 : grownCap w (n + s.size) cap e ≤ maxLen := grownCap_le_maxLen w (n + s.size) cap e (by simp only [maxLen]; omega)
    refine ⟨_, _, hr, HS.turn rfl rfl rfl rfl (by simp) (fun k hk _ => heap_alloc_old w.drew _ hk) (Ow.of_own ⟨hlen, .inr ⟨w.heap.size, _, _, rfl, HS.hB, heap_alloc_new w.drew _, hge, hcm2, ?_, ?_⟩⟩) (fun k hk => ?_)⟩
    · have hz1 : (Value.int IntKind.u8 0).cells.size = 1 := rfl
      simp only [Array.size_append, List.size_toArray, size_zeroCells, hz1, hxl, Lib.strCells_length]
      omega
    · simp only [Array.toList_append, List.append_assoc]
      rw [← List.append_assoc, ← hlen]
      exact List.take_left
    · have := blk_own hk
      simp only [Value.ownBlock, Option.some.injEq] at this
      exact .inr (by omega)
end
theorem strCells_bl (l : List UInt8) : Lib.strCells ⟨l.toArray⟩ = bl l := by simp [Lib.strCells, bl]
theorem wl_aps {w0 w : World} {B : Nat} {R : List Pc} {ops : Array Oper} {rest : List Oper} {o : Oper} {a : Act} {Q : Exit → Act → World → Prop} (HS : Sep B w0 w R) (i : Nat) {v : Value} {n : Nat} {xs : List UInt8} (hi : R[i]? = some (.own v 5 1 n (bl xs))) {s x : Operand} (hgd : o.guard = none)
    (ho : o.op = .call { callee := .builtin .append, args := #[s, x], argTypes := #[33, 9] }) (h0 : 0 < n) (cs : List UInt8) (hs : a.eval s = v) (hx : a.eval x = .string ⟨cs.toArray⟩) (k : Nat) (ys : List UInt8) (hk : n + cs.length = k) (hy : xs ++ cs = ys) (hl : k ≤ 140737488355328)
    (h : ∀ v1 w1, Sep B w0 w1 (R.set i (.own v1 5 1 k (bl ys))) → wpList Tryd.prog ops Q rest (a.put o.dst v1) w1) : wpList Tryd.prog ops Q (o :: rest) a w := by
  refine wpList_plain hgd fun K hK => ?_
  have hsz : (⟨cs.toArray⟩ : ByteArray).size = cs.length := by simp [ByteArray.size]
  obtain ⟨v', w', hr, h2⟩ := run_append_str (P := Tryd.prog) 33 9 o.type 5 Tryd.underlying33 Tryd.underlying9 info_u8 v n (bl xs) h0 (HS.perm (modL_perm hi (.row 0 #[] 0)).2) ⟨cs.toArray⟩ (by rw [hsz]; omega)
  rw [hsz, strCells_bl, ← bl_append, hy, hk] at h2
  have h3 := h2.perm (modL_perm hi (.own v' 5 1 k (bl ys))).1.symm
  unfold Oper.wp execOp
  simp only [ho, resolve, invoke, builtin, Sem.run_bind, Sem.run_pure, Result.andThen_ok, List.map_toArray, List.map_cons, List.map_nil, hs, hx, hr]
  exact hK _ _ (h v' w' h3)
end Go.Proofs.YtkgdjddcnlkppaaDoor
