import Derived.Test.YtlhebogbbkjahaaDoorHd
namespace Go.Proofs.YtlhebogbbkjahaaDoor
open Go.RowKit Cop
set_option linter.unusedVariables false
theorem info_u8 : (Tryd.prog.info? 5).map (fun i => (i.zero, i.size, i.bytes)) = some (some (.int .u8 0), 1, 1) := by kernel_rfl
set_option maxHeartbeats 400000 in
theorem number_b (v n : Nat) (w : World) (hv : v < 18446744073709551616) (hn : n ≤ 1000) :
    Calls Tryd.prog 69 #[.int .u64 v, .int .i64 n] w fun e w' => ∃ x, e = .returned x ∧ Below w.heap.size w w' ∧ w'.ownsRow w.heap.size 5 1 x n (bl (be n v)) := by
  go_enter Tryd.func69, Tryd.ntmps69
  go_wp2_with (at_make; refine wl_make w.heap.size rfl _ _ 65 5 (.int .u8 0) 1 rfl Tryd.underlying65 info_u8 rfl .i64 .i64 _ _ n n (Below.refl _ _) (Nat.le_refl _) rfl rfl rfl rfl (Nat.le_refl _) (by omega) (by omega) ?_)
  intro v1 w1 ho hb hg rfl
  go_wp2
  go_loopw [0, 6] (fun s0 s6 wr => ∃ j k : Nat, j + k = n ∧ s0 = .int .u64 ((v / 256 ^ k : Nat) : Int) ∧ s6 = .int .i64 ((j : Int) - 1) ∧ Below w.heap.size w wr ∧
      wr.ownsRow w.heap.size 5 1 (.slice (some ⟨w.heap.size, 0, none⟩) n n) n (bl (List.replicate j 0 ++ be k v))) (fun _ s6 _ => (intOf s6 + 1).toNat)
  case atStart => exact ⟨n, 0, rfl, by simp, rfl, hb, by simpa [be, bl_zero] using ho⟩
  case round =>
    obtain ⟨j, k, hjk, rfl, rfl, hb2, ho2⟩ := hrel
    have Hjk := Lib.hid hjk
    have hjn : j ≤ n := by omega
    clear hjk
    cases j with
    | zero =>
      have hk : k = n := by have := Hjk.out; omega
      subst hk
      go_wp2
      go_ret
      exact ⟨_, rfl, hb2, by simpa using ho2⟩
    | succ m =>
      rw [show (((m + 1 : Nat) : Int) - 1) = (m : Int) from by omega]
      have hq : v / 256 ^ k < 18446744073709551616 := Nat.lt_of_le_of_lt (Nat.div_le_self _ _) hv
      have Hq2 := Lib.hid (show v / 256 ^ k / 256 = v / 256 ^ (k + 1) by rw [Nat.div_div_eq_div_mul, Nat.pow_succ])
      have Hby := Lib.hid (byte_of (v / 256 ^ k))
      have Hset := Lib.hid (show (bl (List.replicate (m + 1) 0 ++ be k v)).set m (.int .u8 (((UInt8.ofNat (v / 256 ^ k)).toNat : Nat) : Int)) = bl (List.replicate m 0 ++ be (k + 1) v) by
        rw [← bl_set]; congr 1
        rw [List.set_append_left _ _ (by simp), List.replicate_succ', List.set_append_right _ _ (by simp)]
        simp [be])
      generalize v / 256 ^ k = q at *
      go_wp2_with (refine wl_store_own w.heap.size rfl _ _ 5 5 rfl (by kernel_rfl) w.heap.size n n _ ho2 hb2 hb2.size m (.int .u8 ((q : Int) % 256)) (by omega) rfl rfl rfl rfl ?_)
      intro w2 ho3 hb3 _ _
      go_wp2
      go_roundw
      case rel =>
        refine ⟨m, k + 1, by have := Hjk.out; omega, ?_, by go_num, hb3, ?_⟩
        · rw [← Hq2.out]; simp
        · rw [← Hset.out, Hby.out]; exact ho3
      case measure => simp [intOf]

def okP (n : Int) : Prop := 0 ≤ n ∧ n ≤ 2305843009213693951
set_option maxHeartbeats 1000000 in
theorem padding_a (n : Nat) (w : World) (hn : n ≤ 2305843009213693951) :
    Calls Tryd.prog 90 #[.int .i64 n] w fun e w' => ∃ x, e = .returned (.tuple #[x, .int .i64 0]) ∧ Below w.heap.size w w' ∧ w'.ownsRow w.heap.size 5 1 x (pad n).length (bl (pad n)) := by
  obtain ⟨z, hz⟩ : ∃ z : Nat, (119 - n % 64) % 64 = z := ⟨_, rfl⟩
  have hz63 : z < 64 := by omega
  have Hz := Lib.hid (show ((119 - (n : Int) % 64) % 64) = (z : Int) by omega)
  have Hz2 := Lib.hid hz
  clear hz
  go_enter Tryd.func90, Tryd.ntmps90
  go_wp2_with (at_make; refine wl_make w.heap.size rfl _ _ 65 5 (.int .u8 0) 1 rfl Tryd.underlying65 info_u8 rfl .i64 .i64 _ _ (1 + z) (1 + z + 8) (Below.refl _ _) (Nat.le_refl _) rfl rfl ?_ ?_ (by omega) (by omega) (by omega) ?_)
  · have := Hz.out; omega
  · have := Hz.out; omega
  intro v1 w1 ho hb hg rfl
  go_wp2_with (refine wl_store_own w.heap.size rfl _ _ 5 5 rfl (by kernel_rfl) w.heap.size (1 + z) _ _ ho hb hb.size 0 (.int .u8 128) (by omega) rfl rfl rfl rfl ?_)
  intro w2 ho2 hb2 _ _
  have ho3 : w2.ownsRow w.heap.size 5 1 (.slice (some ⟨w.heap.size, 0, none⟩) (1 + z) (1 + z + 8)) (bl (0x80 :: (List.replicate z 0 ++ []))).length (bl (0x80 :: (List.replicate z 0 ++ []))) := by
    have e : (List.replicate (1 + z) (Value.int .u8 0)).set 0 (.int .u8 128) = bl (0x80 :: (List.replicate z 0 ++ [])) := by
      rw [Nat.add_comm, List.replicate_succ]; simp [bl]
    rw [e] at ho2
    have e2 : (bl (0x80 :: (List.replicate z 0 ++ []))).length = 1 + z := by simp [bl_length]; omega
    rw [e2]; exact ho2
  clear ho ho2
  go_wp2
  go_loopw [5, 6] (fun s5 s6 wr => ∃ j k : Nat, j + k = 8 ∧ s6 = .int .i64 ((j : Int) - 1) ∧ Below w.heap.size w wr ∧
      wr.ownsRow w.heap.size 5 1 s5 (bl (0x80 :: (List.replicate z 0 ++ ((be 8 (n * 8)).take k)))).length (bl (0x80 :: (List.replicate z 0 ++ ((be 8 (n * 8)).take k))))) (fun _ s6 _ => (intOf s6 + 1).toNat)
  case atStart => exact ⟨8, 0, rfl, rfl, hb2, by simpa using ho3⟩
  case round =>
    clear ho3
    obtain ⟨j, k, hjk, rfl, hb4, ho4⟩ := hrel
    have Hjk := Lib.hid hjk
    have hj8 : j ≤ 8 := by omega
    cases j with
    | zero =>
      have hk8 : k = 8 := by omega
      have Hfin := Lib.hid (show (0x80 :: (List.replicate z 0 ++ (be 8 (n * 8)).take k) : List UInt8) = pad n by rw [List.take_of_length_le (by rw [be_length]; omega), pad, Hz2.out])
      clear hjk hk8
      go_wp2
      go_ret2
      refine ⟨_, rfl, hb4, ?_⟩
      rw [Hfin.out, bl_length] at ho4
      exact ho4
    | succ m =>
      have hl4 : (bl (0x80 :: (List.replicate z 0 ++ (be 8 (n * 8)).take k))).length ≤ 100 := by simp [bl_length, be_length]; omega
      clear hjk
      rw [show (((m + 1 : Nat) : Int) - 1) = (m : Int) from by omega]
      go_wp2_with (at_builtin; go_loud (refine wl_append1 w.heap.size rfl _ _ 65 5 (.int .u8 0) 1 rfl Tryd.underlying65 info_u8 rfl (by decide) _ _ _ _ ho4 hb4 hb4.size rfl rfl rfl ?_ ?_))
      · omega
      intro v3 w3 ho5 hb5 _
      go_wp2
      go_roundw
      case rel =>
        refine ⟨m, k + 1, by have := Hjk.out; omega, by go_num, hb5, ?_⟩
        have e1 : (n : Int) * 8 / 2 ^ (8 * m) % 256 = (((UInt8.ofNat (n * 8 / 256 ^ m)).toNat : Nat) : Int) := by
          rw [byte_of, ← pow256]; simp
        have e2 : (be 8 (n * 8)).take (k + 1) = (be 8 (n * 8)).take k ++ [UInt8.ofNat (n * 8 / 256 ^ m)] := by
          rw [be_take 8 _ k (by have := Hjk.out; omega), show 8 - 1 - k = m from by have := Hjk.out; omega]
        have e3 : bl (0x80 :: (List.replicate z 0 ++ (be 8 (n * 8)).take (k + 1))) = bl (0x80 :: (List.replicate z 0 ++ (be 8 (n * 8)).take k)) ++ [Value.int .u8 ((n : Int) * 8 / 2 ^ (8 * m) % 256)] := by
          rw [e1, e2]; simp [bl]
        rw [e3]
        simpa using ho5
      case measure => simp [intOf]
theorem padding_bad (n : Int) (w : World) (h : ¬ okP n) : ∃ e : Int, (e = 2 ∨ e = 3) ∧ (∀ w, Calls Tryd.prog 90 #[.int .i64 n] w fun x w' => x = .returned (.tuple #[.slice none 0 0, .int .i64 e]) ∧ w = w') ∧
    (∀ w, Calls Tryd.prog 93 #[.int .i64 n] w fun x w' => x = .returned (.tuple #[.slice none 0 0, .int .i64 e]) ∧ w = w') := by
  unfold okP at h
  by_cases h0 : n < 0
  · refine ⟨2, .inl rfl, fun w => ?_, fun w => ?_⟩
    · clear h
      go_enter Tryd.func90, Tryd.ntmps90
      go_wp2
      go_ret2
      exact ⟨rfl, rfl⟩
    · clear h
      go_enter Tryd.func93, Tryd.ntmps93
      go_wp2
      go_ret2
      exact ⟨rfl, rfl⟩
  · have h1 : 2305843009213693951 < n := by omega
    refine ⟨3, .inr rfl, fun w => ?_, fun w => ?_⟩
    · clear h
      go_enter Tryd.func90, Tryd.ntmps90
      go_wp2
      go_ret2
      exact ⟨rfl, rfl⟩
    · clear h
      go_enter Tryd.func93, Tryd.ntmps93
      go_wp2
      go_ret2
      exact ⟨rfl, rfl⟩
theorem pad_split (n k : Nat) (hk : k ≤ (119 - n % 64) % 64) : ((n : Int) % 64 + (k + 1 : Nat) + 8) % 64 = 0 ↔ k = (119 - n % 64) % 64 := by omega
set_option maxHeartbeats 1000000 in
theorem padding_b (n : Nat) (w : World) (hn : n ≤ 2305843009213693951) :
    Calls Tryd.prog 93 #[.int .i64 n] w fun e w' => ∃ x, e = .returned (.tuple #[x, .int .i64 0]) ∧ Below w.heap.size w w' ∧ w'.ownsRow w.heap.size 5 1 x (pad n).length (bl (pad n)) := by
  go_enter Tryd.func93, Tryd.ntmps93
  go_wp2
  have hb := ((Below.refl w.heap.size w).alloc (Nat.le_refl _) (Obj.cells #[Value.int IntKind.u8 128] 5))
  have ho := own_built w #[Value.int IntKind.u8 128] 5 1 1 rfl (by omega)
  generalize (w.alloc (Obj.cells #[Value.int IntKind.u8 128] 5)) = w1 at *
  obtain ⟨z, hz⟩ : ∃ z : Nat, (119 - n % 64) % 64 = z := ⟨_, rfl⟩
  have hz63 : z < 64 := by omega
  go_loopw [4] (fun s4 wr => ∃ k : Nat, k ≤ z ∧ Below w.heap.size w wr ∧ wr.ownsRow w.heap.size 5 1 s4 (k + 1) (bl (0x80 :: List.replicate k 0))) (fun s4 _ => 64 - (match s4 with | .slice _ n _ => n | _ => 0))
  case atStart => exact ⟨0, by omega, hb, ho⟩
  case round =>
    clear ho hb
    obtain ⟨k, hk, hb2, ho2⟩ := hrel
    obtain ⟨A, c, rfl⟩ := own_slice ho2
    by_cases hkz : k < z
    · have hne : ¬ ((n : Int) % 64 + ((k : Int) + 1) + 8) % 64 = 0 := by omega
      go_wp2_with (at_builtin; go_loud (refine wl_append1 w.heap.size rfl _ _ 65 5 (.int .u8 0) 1 rfl Tryd.underlying65 info_u8 rfl (by decide) _ _ (bl (0x80 :: List.replicate k 0)) _ ho2 hb2 hb2.size rfl rfl rfl ?_ ?_))
      · omega
      intro v3 w3 ho3 hb3 _
      obtain ⟨A3, c3, rfl⟩ := own_slice ho3
      go_wp2
      go_roundw
      case rel => exact ⟨k + 1, by omega, hb3, by simpa [bl, List.replicate_succ'] using ho3⟩
      case measure => simp; omega
    · have hkz2 : k = z := by omega
      subst hkz2
      have he : ((n : Int) % 64 + ((k : Int) + 1) + 8) % 64 = 0 := by omega
      have Hpad := Lib.hid (show (0x80 :: List.replicate k 0 : List UInt8) ++ be 8 (n * 8) = pad n by rw [pad, hz]; rfl)
      have hlen : (pad n).length = (k + 1) + 8 := by rw [pad_length, hz]; omega
      have Hlen := Lib.hid hlen
      clear hlen hkz hz
      go_wp2_with (first | (go_at_call 69; refine (number_b (n * 8) 8 _ (by omega) (by omega)).mono ?_; rintro e w3 ⟨x, rfl, hb3, ho3⟩) | (at_builtin; go_loud (refine wl_append_rd w.heap.size rfl _ _ 65 5 (.int .u8 0) 1 1 rfl Tryd.underlying65 info_u8 rfl (by decide) (by decide) _ _ _ (own_below ho2 hb3) (bcall hb2 hb3) (bcall hb2 hb3).size _ _ _ (Rd.of_own ho3) (bl_one _) rfl rfl ?_ ?_)))
      · omega
      intro v4 w4 ho4 hb4 _
      go_wp2
      go_ret2
      refine ⟨_, rfl, hb4, ?_⟩
      rw [Hlen.out, ← Hpad.out, bl_append]
      exact ho4
section
variable {P : Program} {ops : Array Oper} {rest : List Oper} {o : Oper} {a : Act} {Q : Exit → Act → World → Prop}
/-- v[lo:]. -/
theorem wl_slice_from {W : World} (hgd : o.guard = none) (ty : TypeId) (x lo : Operand) (hop : o.op = .slice ty x (some lo) none none) (v L v' : Value) (hx : a.eval x = v) (hl : a.eval lo = L)
    (hrun : (Instr.sliceAt ty v (some L) none none).run P W = .ok v' W) (h : wpList P ops Q rest (a.put o.dst v') W) : wpList P ops Q (o :: rest) a W := by
  refine wl_val hgd v' ?_ h
  simp only [execOp, hop, hx, Option.map_some, Option.map_none, hl]
  simp [hrun, Result.andThen]
/-- v[:hi]. -/
theorem wl_slice_to {W : World} (hgd : o.guard = none) (ty : TypeId) (x hi : Operand) (hop : o.op = .slice ty x none (some hi) none) (v L v' : Value) (hx : a.eval x = v) (hl : a.eval hi = L)
    (hrun : (Instr.sliceAt ty v none (some L) none).run P W = .ok v' W) (h : wpList P ops Q rest (a.put o.dst v') W) : wpList P ops Q (o :: rest) a W := by
  refine wl_val hgd v' ?_ h
  simp only [execOp, hop, hx, Option.map_some, Option.map_none, hl]
  simp [hrun, Result.andThen]
end
end Go.Proofs.YtlhebogbbkjahaaDoor
