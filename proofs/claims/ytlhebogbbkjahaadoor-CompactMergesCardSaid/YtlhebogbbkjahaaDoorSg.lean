import Derived.Test.YtlhebogbbkjahaaDoorSf
namespace Go.Proofs.YtlhebogbbkjahaaDoor
open Go.RowKit Cop
set_option linter.unusedVariables false
set_option linter.unusedSimpArgs false
theorem run_index_int {P : Program} (w : World) {t e : TypeId} {n : Nat} {k kk : IntKind} (ht : P.underlying t = some (.array n e)) (he : P.underlying e = some (.int k)) (hs : (P.info? e).map (·.size) = some 1) (cs : Array Value) (i : Nat) (v : Value) (hi : i < n) (hv : cs[i]? = some v) :
    (Instr.index t (.agg cs) (.int kk i)).run P w = .ok v w := by
  unfold Instr.index
  have h1 := run_part_int (P := P) w he cs i v hv
  have h2 := run_sizeOf_one (P := P) w hs
  simp [Sem.run_bind, run_underlying ht, Result.andThen, asIntOf, hi, h2, h1]
theorem be4 (x : Nat) : be 4 x = [UInt8.ofNat (x / 16777216), UInt8.ofNat (x / 65536), UInt8.ofNat (x / 256), UInt8.ofNat x] := by
  simp [be]
set_option maxRecDepth 100000 in
set_option maxHeartbeats 4000000 in
theorem words_a_gen (wb : List UInt32 → List UInt8) (wb_nil : wb [] = []) (wb_length : ∀ l, (wb l).length = 4 * l.length) (wb_take : ∀ (l : List UInt32) (i : Nat), i < l.length → wb (l.take (i + 1)) = wb (l.take i) ++ be 4 (l.getD i 0).toNat)
    (h : H8) (w : World) :
    Calls Tryd.prog 91 #[.agg (hv h)] w fun e w' => ∃ x, e = .returned x ∧ Below w.heap.size w w' ∧ w'.ownsRow w.heap.size 5 1 x 32 (bl (wb h.l)) := by
  have WN := Lib.hid wb_nil
  have WL := Lib.hid wb_length
  have WT := Lib.hid wb_take
  clear wb_nil wb_length wb_take
  go_enter Tryd.func91, Tryd.ntmps91
  have hH := fun i hi => hv_get h i hi
  generalize hvh : hv h = vh at hH
  have HH := Lib.hid hH
  have hsz : (Tryd.prog.info? 157).map (·.size) = some vh.size := by rw [← hvh]; exact info_h8
  have HSZ := Lib.hid hsz
  have HVH := Lib.hid hvh
  clear hH hsz hvh
  go_wp2_with (refine wl_load_row rfl 157 _ rfl w.heap.size rfl 157 vh (0, 0) _ (at_new _ _ _ rfl) Tryd.underlying157 rfl HSZ.out ?_)
  first | refine Cop.wl_world fun w1 hw1 => ?_ | refine Cop.calls_world fun w1 hw1 => ?_ | refine Cop.exit_world fun w1 hw1 => ?_ | refine Cop.code_world fun w1 hw1 => ?_
  have b1 : Below w.heap.size w w1 := by rw [← hw1]; exact (Below.refl _ _).alloc (Nat.le_refl _) _
  clear hw1
  go_loopw [3, 7] (fun s3 s7 wr => ∃ i : Nat, i ≤ 8 ∧ s7 = .int .i64 i ∧ Below w.heap.size w wr ∧ wr.ownsRow w.heap.size 5 1 s3 (4 * i) (bl (wb (h.l.take i)))) (fun _ s7 _ => 8 - (intOf s7).toNat)
  case atStart => exact ⟨0, by omega, rfl, b1, by rw [List.take_zero, WN.out]; exact World.ownsRow_nil _ _ _ _⟩
  case round =>
    clear b1
    obtain ⟨i, hi, rfl, bb, ho⟩ := hrel
    by_cases hlt : i < 8
    · have hidx := HH.out i hlt
      have hrun := run_index_int (P := Tryd.prog) (kk := .i64) wr Tryd.underlying157 Tryd.underlying156 (by kernel_rfl) vh i _ hlt hidx
      have HT := Lib.hid (WT.out h.l i (by simpa [H8.l] using hlt))
      generalize h.l.getD i 0 = x at hidx hrun HT
      have hx := u32_lt x
      have hi8 : (i : Int) < 8 := by omega
      have HO := Lib.hid ho
      obtain ⟨A, c, rfl⟩ := own_slice ho
      clear ho
      have hcells : [Value.int .u8 ((x.toNat : Int) / 16777216), Value.int .u8 ((x.toNat : Int) / 65536 % 256), Value.int .u8 ((x.toNat : Int) / 256 % 256), Value.int .u8 ((x.toNat : Int) % 256)] = bl (be 4 x.toNat) := by
        rw [be4]
        simp only [bl, List.map_cons, List.map_nil, byte_of]
        simp
        omega
      have HC := Lib.hid hcells
      clear hcells
      go_wp2_with (at_builtin; go_loud (refine wl_append_rd w.heap.size rfl _ _ 65 5 (.int .u8 0) 1 1 rfl Tryd.underlying65 info_u8 rfl (by decide) (by decide) _ _ _ (HO.out.alloc _) (bb.alloc bb.size _) ?_ _ 4 _ (Rd.of_own (own_built wr _ _ 4 1 rfl (by omega))) ?_ rfl rfl ?_ ?_))
      · have := bb.size; simp; omega
      · simp [Value.oneCell']
      · omega
      intro v4 w4 ho4 hb4 _
      rw [HC.out] at ho4
      go_wp2
      go_roundw
      case rel => exact ⟨i + 1, by omega, by go_num, hb4, by rw [HT.out, bl_append]; exact ho4⟩
      case measure => simp [intOf]; omega
    · have hi8 : i = 8 := by omega
      subst hi8
      clear hlt hi
      go_wp2
      go_ret
      refine ⟨_, rfl, bb, ?_⟩
      rw [List.take_of_length_le (by simp [H8.l])] at ho
      exact ho
theorem words_a (h : H8) (w : World) :
    Calls Tryd.prog 91 #[.agg (hv h)] w fun e w' => ∃ x, e = .returned x ∧ Below w.heap.size w w' ∧ w'.ownsRow w.heap.size 5 1 x 32 (bl (wb h.l)) :=
  words_a_gen wb rfl wb_length wb_take h w
end Go.Proofs.YtlhebogbbkjahaaDoor
