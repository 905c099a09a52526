/- told: two answers to one call, each new memory. -/
import Derived.Test.YtbdmehgbdnninaaDoorRs
namespace Cop
open Go Go.RowKit
set_option linter.unusedVariables false
theorem splice_take {α : Type} (L cs : List α) (off N : Nat) (h : off + cs.length ≤ N) (hN : N ≤ L.length) : (L.take off ++ cs ++ L.drop (off + cs.length)).take N = (L.take N).take off ++ cs ++ (L.take N).drop (off + cs.length) := by
  have h1 : (L.take off ++ cs).length = off + cs.length := by rw [List.length_append, List.length_take]; omega
  rw [List.take_append, h1, List.take_of_length_le (by rw [h1]; exact h), List.take_take, Nat.min_eq_left (by omega), List.drop_take]
section
variable {P : Program} {w0 w : World} {B : Nat} {R : List Pc} {ops : Array Oper} {rest : List Oper} {o : Oper} {a : Act} {Q : Exit → Act → World → Prop} {K : Act → World → Prop}
/-- Some cells of a slice of the call's own are stored. -/
theorem ow_stg (HS : Sep B w0 w R) (i : Nat) {g n c : Nat} {e : TypeId} {size : Nat} {xs : List Value} (hi : R[i]? = some (.own (.slice (some ⟨g, 0, none⟩) n c) e size n xs)) (ty : TypeId) (ad x : Operand) (hop : o.op = .store ty ad x) (off : Nat) {cs : Array Value} (hs1 : (P.info? ty).map (·.size) = some cs.size) (hoff : off + cs.size ≤ n * size) (h0 : 0 < n) (had : a.eval ad = .pointer (some ⟨g, off, none⟩)) (hx : a.eval x = .agg cs)
    (h1 : cs.all (·.oneCell') = true) (h : ∀ w1, Sep B w0 w1 (R.set i (.own (.slice (some ⟨g, 0, none⟩) n c) e size n (xs.take off ++ cs.toList ++ xs.drop (off + cs.size)))) → K (a.put o.dst undef) w1) : o.wp P a w K Q := by
  rcases (HS.own i hi).2 with ⟨A, he, hn⟩ | ⟨g', cap, cur, hc, he, hb, hg, hnc, hcm, hcs, htk⟩
  · omega
  injection he with he1 _ he3
  simp only [Option.some.injEq, Addr.mk.injEq, and_true] at he1
  subst he1 he3
  have hns : n * size ≤ cur.size := by rw [hcs]; exact Nat.mul_le_mul_right _ hnc
  have hst := run_storeCells_at P g off e cs.toList 0 cur w hg (by simp; omega) (fun v hv => (Array.all_eq_true_iff_forall_mem.1 h1) v (by simpa using hv))
  simp only [Nat.add_zero, Array.length_toList] at hst
  obtain ⟨new, hnew⟩ : ∃ new, (cur.toList.take off ++ cs.toList ++ cur.toList.drop (off + cs.size)).toArray = new := ⟨_, rfl⟩
  rw [hnew] at hst
  have hrun : (storeVar ty ⟨g, off, none⟩ (.agg cs)).run P w = .ok () (w.setRow g new) := by
    unfold storeVar
    rw [Sem.run_bind, run_sizeOf_gen (P := P) w hs1]
    simp [Result.andThen, Value.cells, hst]
  unfold Oper.wp
  simp only [execOp, hop, had, hx, Instr.storeAt, Instr.sureAddr, Sem.run_bind, Sem.run_pure, Result.andThen_ok, hrun]
  refine h _ (HS.at_ i hi fun HS => ?_)
  have hnl : new.size = cur.size := by
    rw [← hnew]
    simp only [List.size_toArray, List.length_append, List.length_take, List.length_drop, Array.length_toList]
    omega
  refine HS.turn rfl rfl rfl rfl (by simp) (fun k hk hne => setRow_other w g k new (fun e => hne (by simp [Pc.blk, vblk, e]; omega))) ⟨?_, .inr ⟨g, c, new, hc, rfl, hb, setRow_heap w g _ _ e _ hg, hnc, hcm, by rw [hnl, hcs], ?_⟩⟩ (fun k hk => .inl hk)
  · have := (HS.own 0 rfl).1
    simp only [List.length_append, List.length_take, List.length_drop, Array.length_toList, this]
    omega
  · rw [← hnew, ← htk]
    have := splice_take cur.toList cs.toList off (n * size) (by rw [Array.length_toList]; exact hoff) (by rw [Array.length_toList]; exact hns)
    rw [Array.length_toList] at this
    exact this
theorem wl_stg (HS : Sep B w0 w R) (i : Nat) {g n c : Nat} {e : TypeId} {size : Nat} {xs : List Value} (hi : R[i]? = some (.own (.slice (some ⟨g, 0, none⟩) n c) e size n xs)) (hgd : o.guard = none) (ty : TypeId) (ad x : Operand) (hop : o.op = .store ty ad x) (off : Nat) {cs : Array Value} (hs1 : (P.info? ty).map (·.size) = some cs.size) (hoff : off + cs.size ≤ n * size) (h0 : 0 < n) (had : a.eval ad = .pointer (some ⟨g, off, none⟩)) (hx : a.eval x = .agg cs)
    (h1 : cs.all (·.oneCell') = true) (h : ∀ w1, Sep B w0 w1 (R.set i (.own (.slice (some ⟨g, 0, none⟩) n c) e size n (xs.take off ++ cs.toList ++ xs.drop (off + cs.size)))) → wpList P ops Q rest (a.put o.dst undef) w1) : wpList P ops Q (o :: rest) a w :=
  wpList_plain hgd fun _ hK => ow_stg HS i hi ty ad x hop off hs1 hoff h0 had hx h1 fun w1 h2 => hK _ _ (h w1 h2)
end
end Cop
namespace Go.Proofs.YtbdmehgbdnninaaDoor
open Go.RowKit Cop
set_option linter.unusedSimpArgs false
set_option maxRecDepth 100000 in
theorem built_nine : Tryd.prog.built 26 [(0, .int .u8 9)] = some (bv (9 :: List.replicate 31 0)) := by kernel_rfl
set_option maxRecDepth 100000 in
set_option maxHeartbeats 4000000 in
theorem told_a (p : List (List UInt8)) (x y z : Value) (B : Nat) (w0 w : World) (R : List Pc) (hp : AllD p) (hpl : p.length ≤ 4398046511104) (HS : Sep B w0 w (.own x 26 32 p.length (dcs p) :: .own y 26 32 p.length (dcs p) :: .own z 26 32 p.length (dcs p) :: R)) :
    Calls Tryd.prog 37 #[x, y, z] w fun e w' => e = .returned (.bool true) ∧ Sep B w0 w' R := by
  have CS := Lib.hid (fun w' va vb ha hb => same_a p va vb w' hp hpl ha hb)
  obtain ⟨A1, c1, rfl, _⟩ := (HS.own 0 rfl).sl
  obtain ⟨A2, c2, rfl, _⟩ := (HS.own 1 rfl).sl
  obtain ⟨A3, c3, rfl, _⟩ := (HS.own 2 rfl).sl
  have HP := Lib.hid (dcs_length hp)
  have HB1 := Lib.hid (show ∀ W, (Instr.build 26 #[(0, .int .u8 9)]).run Tryd.prog W = .ok (.agg (bv (9 :: List.replicate 31 0))) W from fun W => run_build W _ _ _ built_nine)
  have hnine : (9 :: List.replicate 31 0 : List UInt8).length = 32 := rfl
  obtain ⟨nine, hn9⟩ : ∃ y : List UInt8, 9 :: List.replicate 31 0 = y := ⟨_, rfl⟩
  rw [hn9] at HB1 hnine
  have HNL := Lib.hid hnine
  clear hp hn9 hnine
  go_enter Tryd.func37, Tryd.ntmps37
  go_wp2_with fail
  (with_reducible refine Calls.mono (CS.out w _ _ (HS.own 0 rfl).rd (HS.own 2 rfl).rd) ?_)
  rintro e w1 ⟨rfl, b1⟩
  have HS1 := HS.keep b1
  clear HS
  go_wp2
  go_loopw [7] (fun s7 wr => ∃ (k : Nat) (xs : List Value), k ≤ p.length ∧ s7 = .int .i64 k ∧ Sep B w0 wr (.own (.slice A1 p.length c1) 26 32 p.length xs :: .own (.slice A2 p.length c2) 26 32 p.length (dcs p) :: .own (.slice A3 p.length c3) 26 32 p.length (dcs p) :: R)) (fun s7 _ => p.length - (intOf s7).toNat)
  case atStart => exact ⟨0, dcs p, by omega, rfl, HS1⟩
  case round =>
    clear HS1
    obtain ⟨k, xs, hk, rfl, HSi⟩ := hrel
    by_cases hlt : k < p.length
    · have hlt' : (k : Int) < (p.length : Int) := by omega
      obtain ⟨g, rfl⟩ := Ow.addr (HSi.own 0 rfl) (by omega)
      have HLT := Lib.hid hlt
      go_wp2_with (first | refine wl_bd rfl 26 _ rfl #[(0, .int .u8 9)] (by kernel_rfl) (.agg (bv nine)) (HB1.out _) ?_ | refine wl_stg HSi 0 rfl rfl 26 _ _ rfl (k * 32) (dgS HNL.out) (by rw [bv_size, HNL.out]; have := HLT.out; omega) (by omega) rfl rfl (bv_one _) ?_)
      intro w3 HS3
      go_wp2
      go_roundw
      case rel => exact ⟨k + 1, _, by omega, by go_num, HS3⟩
      case measure => simp [intOf]; omega
    · have hlt' : ¬ (k : Int) < (p.length : Int) := by omega
      go_wp2_with fail
      (with_reducible refine Calls.mono (CS.out wr _ _ (HSi.own 1 rfl).rd (HSi.own 2 rfl).rd) ?_)
      rintro e w4 ⟨rfl, b4⟩
      have HS4 := HSi.keep b4
      clear HSi
      go_wp2
      go_ret
      exact ⟨rfl, HS4.tail.tail.tail⟩
end Go.Proofs.YtbdmehgbdnninaaDoor
