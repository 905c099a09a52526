import Derived.Test.YtkgdjddcnlkppaaDoorOa
import Derived.Test.YtkgdjddcnlkppaaDoorRows
namespace Go.Proofs.YtkgdjddcnlkppaaDoor
open Go.RowKit Cop
set_option linter.unusedVariables false
set_option linter.unusedSimpArgs false
theorem wrap_small (n : Nat) (h : n ≤ 9223372036854775807) : IntKind.i64.wrap (n : Int) = (n : Int) := by
  rw [IntKind.wrap_i64]; omega
theorem and_three (i : Nat) (h : i ≤ 281474976710656) : bits .and .i64 (i : Int) 3 = ((i % 4 : Nat) : Int) := by
  have h1 : (BitVec.ofInt 64 (i : Int)).toNat = i := by
    rw [BitVec.ofInt_natCast, BitVec.toNat_ofNat]; exact Nat.mod_eq_of_lt (by omega)
  show IntKind.i64.wrap ((BitVec.ofInt 64 (i : Int) &&& BitVec.ofInt 64 ((3 : Nat) : Int)).toNat : Int) = _
  have h2 : (BitVec.ofInt 64 ((3 : Nat) : Int)).toNat = 2 ^ 2 - 1 := by rw [BitVec.ofInt_natCast, BitVec.toNat_ofNat]
  rw [BitVec.toNat_and, h1, h2, Nat.and_two_pow_sub_one_eq_mod]
  exact wrap_small _ (by omega)
theorem bal {w0 w : World} (h : Below w0.heap.size w0 w) (o : Obj) : Below w0.heap.size w0 (w.alloc o) := h.alloc h.size o
/-- Numbers as cells. -/
def nv (l : List Nat) : Array Value := (l.map fun n : Nat => Value.int .i64 (n : Int)).toArray
theorem nv_size (l : List Nat) : (nv l).size = l.length := by simp [nv]
theorem nv_get (l : List Nat) (i : Nat) (h : i < l.length) : (nv l)[i]? = some (.int .i64 ((l.getD i 0 : Nat) : Int)) := by simp [nv, List.getD, h]
theorem nv_set (l : List Nat) (i x : Nat) : (nv l).setIfInBounds i (.int .i64 (x : Int)) = nv (l.set i x) := by simp [nv, List.map_set]
theorem nv_one (l : List Nat) : (nv l).all (·.oneCell') = true := by rw [Array.all_eq_true_iff_forall_mem]; intro v hv; simp [nv] at hv; obtain ⟨b, _, rfl⟩ := hv; rfl
theorem row_nv {w : World} {g : Nat} {l : List Nat} {t : TypeId} {fr : Nat × Nat} (h : w.heap[g]? = some (.cells (nv l) t fr)) (i : Nat) (hi : i < l.length) : w.cell? ⟨g, i, none⟩ = some (.int .i64 ((l.getD i 0 : Nat) : Int)) := by
  rw [row_cell h, nv_get _ _ hi]
/-- The first i digits, noughts behind them. -/
def pre (d : List UInt8) (i : Nat) : List Nat := (List.range i).map (dig d) ++ List.replicate (133 - i) 0
theorem pre_length (d : List UInt8) (i : Nat) (h : i ≤ 133) : (pre d i).length = 133 := by simp [pre]; omega
theorem pre_set (d : List UInt8) (i : Nat) (h : i < 133) : (pre d i).set i (dig d i) = pre d (i + 1) := by
  rw [pre, List.set_append_right _ _ (by simp), List.length_map, List.length_range, Nat.sub_self, show 133 - i = (133 - (i + 1)) + 1 from by omega, List.replicate_succ, List.set_cons_zero, pre, List.range_succ, List.map_append, List.append_assoc]
  rfl
theorem pre_at (d : List UInt8) (i : Nat) (h : i < 133) : (pre d (i + 1)).getD i 0 = dig d i := by
  simp [pre, List.getD, List.getElem?_append_left]
/-- The last five digits, of which k are told. -/
def tail5 (S k : Nat) : List Nat := (List.range 5).map fun j => if 5 ≤ j + k then S / 4 ^ (4 - j) % 4 else 0
/-- The first 128 digits, and the last k ones. -/
def post (d : List UInt8) (k : Nat) : List Nat := (List.range 128).map (dig d) ++ tail5 (lack d 128) k
theorem tail5_set (S k : Nat) (h : k < 5) : (tail5 S k).set (4 - k) (S / 4 ^ k % 4) = tail5 S (k + 1) := by
  apply List.ext_getElem
  · simp [tail5]
  · intro j h1 h2
    simp [tail5] at h2
    rw [List.getElem_set]
    simp only [tail5, List.getElem_map, List.getElem_range]
    by_cases hj : 4 - k = j
    · rw [if_pos hj, if_pos (by omega), show 4 - j = k from by omega]
    · rw [if_neg hj]
      by_cases h5 : 5 ≤ j + k
      · rw [if_pos h5, if_pos (by omega)]
      · rw [if_neg h5, if_neg (by omega)]
theorem post_length (d : List UInt8) (k : Nat) : (post d k).length = 133 := by simp [post, tail5]
theorem post_set (d : List UInt8) (k : Nat) (h : k < 5) : (post d k).set (132 - k) (lack d 128 / 4 ^ k % 4) = post d (k + 1) := by
  rw [post, List.set_append_right _ _ (by simp; omega), List.length_map, List.length_range, show 132 - k - 128 = 4 - k from by omega, tail5_set _ _ h, post]
theorem post_zero (d : List UInt8) : pre d 128 = post d 0 := by
  rw [pre, post]; congr 1
theorem post_all (d : List UInt8) : post d 5 = dgts d 133 := by
  apply List.ext_getElem
  · simp [post, tail5, dgts]
  · intro i h1 h2
    simp [dgts] at h2
    by_cases h : i < 128
    · simp only [post, dgts, List.getElem_map, List.getElem_range]
      rw [List.getElem_append_left (by simpa using h)]
      simp [dgt, h]
    · simp only [post, dgts, List.getElem_map, List.getElem_range]
      rw [List.getElem_append_right (by simp; omega)]
      simp only [tail5, List.getElem_map, List.getElem_range, List.length_map, List.length_range]
      rw [if_pos (by omega), dgt, if_neg h, show 4 - (i - 128) = 132 - i from by omega]
theorem info_d32o : (Tryd.prog.info? 22).map (·.size) = some 32 := by kernel_rfl
theorem info_n133 : (Tryd.prog.info? 56).map (·.size) = some 133 := by kernel_rfl
theorem zero133 (w : World) : (zeroValue 56).run Tryd.prog w = .ok (.agg (nv (List.replicate 133 0))) w := by kernel_rfl
structure DRow (w : World) (B : Nat) (d : List UInt8) (l : List Nat) : Prop where
  r0 : w.heap[B]? = some (.cells (bv d) 23 (0, 0))
  r1 : w.heap[B + 1]? = some (.cells (nv (List.replicate 133 0)) 56 (0, 0))
  r2 : w.heap[B + 2]? = some (.cells (nv l) 56 (0, 0))
theorem DRow.set {w : World} {B : Nat} {d : List UInt8} {l : List Nat} (c : DRow w B d l) (i x : Nat) (m : List Nat) (hm : l.set i x = m) : DRow (w.setCell ⟨B + 2, i, none⟩ (.int .i64 (x : Int))) B d m :=
  ⟨row_skip (by omega) _ _ c.r0, row_skip (by omega) _ _ c.r1, by rw [row_set c.r2, nv_set, hm]⟩
set_option maxRecDepth 100000 in
set_option maxHeartbeats 4000000 in
theorem digits_a (d : List UInt8) (hd : d.length = 32) (w : World) :
    Calls Tryd.prog 30 #[.agg (bv d)] w fun e w' => e = .returned (.agg (nv (dgts d 133))) ∧ Below w.heap.size w w' := by
  have HD := Lib.hid hd
  clear hd
  have hz := zero133
  generalize hzz : nv (List.replicate 133 0) = zz at hz
  have HZ := Lib.hid hzz
  clear hzz
  go_enter Tryd.func30, Tryd.ntmps30
  go_wp2
  first | refine Cop.wl_world fun w1 hw1 => ?_ | refine Cop.calls_world fun w1 hw1 => ?_ | refine Cop.exit_world fun w1 hw1 => ?_ | refine Cop.code_world fun w1 hw1 => ?_
  have R : DRow w1 w.heap.size d (List.replicate 133 0) := by
    rw [← hw1]
    refine ⟨at_old _ _ _ (by simp <;> omega) (at_old _ _ _ (by simp) (at_new _ _ _ rfl)), ?_, ?_⟩
    · rw [HZ.out]; exact at_old _ _ _ (by simp) (at_new _ _ _ (by simp))
    · rw [HZ.out]; exact at_new _ _ _ (by simp)
  have bb : Below w.heap.size w w1 := by rw [← hw1]; exact bal (bal (bal (Below.refl _ _) _) _) _
  clear hw1
  go_loopw [4, 7] (fun s4 s7 wr => ∃ i : Nat, i ≤ 128 ∧ s7 = .int .i64 i ∧ s4 = .int .i64 (lack d i : Nat) ∧ Below w.heap.size w wr ∧ DRow wr w.heap.size d (pre d i)) (fun _ s7 _ => 128 - (intOf s7).toNat)
  case atStart => exact ⟨0, by omega, rfl, rfl, bb, R⟩
  case round =>
    clear R bb
    obtain ⟨i, hi, rfl, rfl, bb, R⟩ := hrel
    have RR := Lib.hid R
    by_cases hlt : i < 128
    · have c0 := row_bv R.r0 (i / 4) (by rw [HD.out]; omega)
      obtain ⟨y, c5⟩ : ∃ y, wr.cell? ⟨w.heap.size + 2, i, none⟩ = some y := ⟨_, row_nv R.r2 i (by rw [pre_length _ _ (by omega)]; omega)⟩
      have f5 := row_thaw R.r2 i
      have HG := Lib.hid (show dig d i = (d.getD (i / 4) 0).toNat / 2 ^ (6 - 2 * (i % 4)) % 4 from rfl)
      have HL := Lib.hid (show lack d (i + 1) = lack d i + (3 - dig d i) from rfl)
      have HS := Lib.hid (pre_set d i (by omega))
      have hll := lack_le d i
      have hdl := dig_lt d i
      clear R
      generalize d.getD (i / 4) 0 = x at c0 HG
      generalize dig d i = g at HG HL HS hdl
      generalize lack d i = L at HL hll ⊢
      obtain ⟨k, hk⟩ : ∃ k, i / 4 = k := ⟨_, rfl⟩
      obtain ⟨r, hr⟩ : ∃ r, i % 4 = r := ⟨_, rfl⟩
      obtain ⟨s, hs⟩ : ∃ s, 6 - 2 * r = s := ⟨_, rfl⟩
      rw [hk] at c0
      rw [hr, hs] at HG
      have k1 : (i : Int) / 4 = (k : Int) := by omega
      have k2 : (i : Int) % 4 = (r : Int) := by omega
      have k3 : 6 - 2 * (r : Int) = (s : Int) := by omega
      have k4 : (k : Int) < 32 := by omega
      have k5 : (i : Int) < 128 := by omega
      have hx := u8_lt x
      obtain ⟨q, hq⟩ : ∃ q, x.toNat / 2 ^ s = q := ⟨_, rfl⟩
      have q1 : (x.toNat : Int) / 2 ^ s = (q : Int) := by rw [← hq]; simp
      have q2 : q < 256 := by rw [← hq]; exact Nat.lt_of_le_of_lt (Nat.div_le_self _ _) hx
      rw [hq] at HG
      have q3 : bits .and .i64 (q : Int) 3 = (g : Int) := by rw [and_three q (by omega), HG.out]
      have q4 : g ≤ 3 := by omega
      have q5 : L ≤ 384 := by omega
      clear hk hr hs hq
      go_wp2
      refine ⟨⟨i + 1, by omega, by go_num, ?_, bb.setCell (by show w.heap.size ≤ w.heap.size + 1 + 1; omega) _, RR.out.set i g _ HS.out⟩, by simp [intOf]; omega⟩
      rw [HL.out]
      congr 1
      omega
    · have hi128 : i = 128 := by omega
      subst hi128
      clear hlt hi
      rw [post_zero] at R
      have HPS := Lib.hid (post_set d)
      have HPA := Lib.hid (post_all d)
      have hS := lack_le d 128
      have hSS : lack d 128 ≤ 384 := by omega
      generalize lack d 128 = S at *
      have hl := post_length d
      generalize post d = po at *
      have HPL := Lib.hid hl
      clear RR hl hS
      rw [show ((128 : Nat) : Int) = 128 from rfl]
      go_wp2
      go_loopw [30] (fun s30 wr => ∃ k : Nat, k ≤ 5 ∧ s30 = .int .i64 k ∧ Below w.heap.size w wr ∧ DRow wr w.heap.size d (po k)) (fun s30 _ => 5 - (intOf s30).toNat)
      case atStart => exact ⟨0, by omega, rfl, bb, R⟩
      case round =>
        clear R bb
        obtain ⟨k, hk, rfl, bb, R⟩ := hrel
        have RR := Lib.hid R
        by_cases hlt : k < 5
        · obtain ⟨y, c5⟩ : ∃ y, wr.cell? ⟨w.heap.size + 2, 132 - k, none⟩ = some y := ⟨_, row_nv R.r2 (132 - k) (by rw [HPL.out]; omega)⟩
          have f5 := row_thaw R.r2 (132 - k)
          have HS := Lib.hid (HPS.out k hlt)
          obtain ⟨s, hs⟩ : ∃ s, 2 * k = s := ⟨_, rfl⟩
          obtain ⟨q, hq⟩ : ∃ q, S / 2 ^ s = q := ⟨_, rfl⟩
          obtain ⟨m, hm⟩ : ∃ m, 132 - k = m := ⟨_, rfl⟩
          have e4 : 4 ^ k = 2 ^ s := by rw [← hs, Nat.pow_mul]
          rw [e4, hq, hm] at HS
          rw [hm] at c5 f5
          have q1 : (S : Int) / 2 ^ s = (q : Int) := by rw [← hq]; simp
          have q2 : q ≤ 384 := by rw [← hq]; exact Nat.le_trans (Nat.div_le_self _ _) hSS
          have q3 := and_three q (by omega)
          have k3 : 2 * (k : Int) = (s : Int) := by omega
          have k4 : 132 - (k : Int) = (m : Int) := by omega
          have k5 : (k : Int) < 5 := by omega
          have k6 : (m : Int) < 133 := by omega
          clear hs hq hm e4 R
          go_wp2
          go_roundw
          case rel => exact ⟨k + 1, by omega, by go_num, bb.setCell (by show w.heap.size ≤ w.heap.size + 1 + 1; omega) _, RR.out.set m _ _ HS.out⟩
          case measure => simp [intOf]; omega
        · have hk5 : k = 5 := by omega
          subst hk5
          clear hlt hk
          rw [HPA.out] at R
          have R1 := Lib.hid R.r1
          have R2 := Lib.hid R.r2
          have hsz : (Tryd.prog.info? 56).map (·.size) = some (nv (dgts d 133)).size := by rw [nv_size, dgts_length]; exact info_n133
          have HSZ := Lib.hid hsz
          clear RR R hsz
          go_wp2_with (first | refine wl_load_row rfl 56 _ rfl (w.heap.size + 2) rfl 56 (nv (dgts d 133)) (0, 0) _ R2.out Tryd.underlying56 rfl HSZ.out ?_ | refine wl_store_row rfl 56 _ _ rfl (w.heap.size + 1) rfl 56 (nv (List.replicate 133 0)) (nv (dgts d 133)) rfl R1.out HSZ.out (by rw [nv_size, nv_size, dgts_length]; rfl) (nv_one _) ?_)
          exact ret_row rfl rfl (w.heap.size + 1) rfl 56 (nv (dgts d 133)) (0, 0) _ (setRow_heap _ _ _ _ _ _ R1.out) Tryd.underlying56 rfl HSZ.out ⟨rfl, below_setRow bb (by omega) _⟩
end Go.Proofs.YtkgdjddcnlkppaaDoor
