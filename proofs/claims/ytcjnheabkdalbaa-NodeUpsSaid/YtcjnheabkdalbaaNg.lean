/- Pairs of numbers in slices; a half; slices.Reverse of spans. -/
import Derived.Test.YtcjnheabkdalbaaGz
import Derived.Test.YtcjnheabkdalbaaOy
import Derived.Test.YtcjnheabkdalbaaNf
import Derived.Test.YtcjnheabkdalbaaShelf
namespace Go.Proofs.Ytcjnheabkdalbaa
open Go.RowKit Cop
set_option linter.unusedVariables false
set_option linter.unusedSimpArgs false
/-- Pairs of numbers, as cells. -/
def scs (l : List (Nat × Nat)) : List Value := l.flatMap fun p => [.int .i64 (p.1 : Int), .int .i64 (p.2 : Int)]
def spv (p : Nat × Nat) : Array Value := #[.int .i64 (p.1 : Int), .int .i64 (p.2 : Int)]
theorem scs_cons (p : Nat × Nat) (l : List (Nat × Nat)) : scs (p :: l) = (spv p).toList ++ scs l := by simp [scs, spv]
theorem scs_append (a b : List (Nat × Nat)) : scs (a ++ b) = scs a ++ scs b := by simp [scs]
theorem scs_length (l : List (Nat × Nat)) : (scs l).length = l.length * 2 := by
  induction l with
  | nil => rfl
  | cons p l ih => rw [scs_cons, List.length_append, ih, List.length_cons]; simp [spv]; omega
theorem scs_one (l : List (Nat × Nat)) : ∀ c ∈ scs l, c.oneCell' = true := by
  intro c hc
  simp only [scs, List.mem_flatMap] at hc
  obtain ⟨x, _, hc⟩ := hc
  simp at hc
  rcases hc with rfl | rfl <;> rfl
theorem spv_one (p : Nat × Nat) : (spv p).all (·.oneCell') = true := by simp [spv, Value.oneCell']
theorem scs_drop (l : List (Nat × Nat)) : ∀ k, (scs l).drop (k * 2) = scs (l.drop k) := by
  induction l with
  | nil => intro k; simp [scs]
  | cons p l ih =>
    intro k
    cases k with
    | zero => simp
    | succ k => rw [scs_cons, show (k + 1) * 2 = (spv p).toList.length + k * 2 from by simp [spv]; omega, List.drop_append, Nat.add_sub_cancel_left, List.drop_of_length_le (by omega), List.nil_append, ih, List.drop_succ_cons]
theorem scs_take (l : List (Nat × Nat)) : ∀ k, (scs l).take (k * 2) = scs (l.take k) := by
  induction l with
  | nil => intro k; simp [scs]
  | cons p l ih =>
    intro k
    cases k with
    | zero => simp [scs]
    | succ k => rw [scs_cons, show (k + 1) * 2 = (spv p).toList.length + k * 2 from by simp [spv]; omega, List.take_append, Nat.add_sub_cancel_left, List.take_of_length_le (by omega), ih, List.take_succ_cons, scs_cons]
theorem scs_at (l : List (Nat × Nat)) (k : Nat) (hk : k < l.length) (p : Nat × Nat) (hp : l.getD k (0, 0) = p) : (scs l)[k * 2]? = some (.int .i64 (p.1 : Int)) ∧ (scs l)[k * 2 + 1]? = some (.int .i64 (p.2 : Int)) := by
  have h : l.drop k = p :: l.drop (k + 1) := by
    rw [List.drop_eq_getElem_cons hk]
    simp only [List.getD, List.getElem?_eq_getElem hk, Option.getD_some] at hp
    rw [hp]
  have h2 := scs_drop l k
  rw [h, scs_cons] at h2
  refine ⟨?_, ?_⟩
  · have := congrArg (fun x => x[0]?) h2
    simpa [spv, List.getElem?_drop] using this
  · have := congrArg (fun x => x[1]?) h2
    simpa [spv, List.getElem?_drop] using this
theorem scs_set (l : List (Nat × Nat)) (k : Nat) (hk : k < l.length) (p : Nat × Nat) : (scs l).take (k * 2) ++ (spv p).toList ++ (scs l).drop (k * 2 + (spv p).size) = scs (l.set k p) := by
  rw [show k * 2 + (spv p).size = (k + 1) * 2 from by simp [spv]; omega, scs_take, scs_drop, List.set_eq_take_append_cons_drop, if_pos hk, scs_append, scs_cons, List.append_assoc]
theorem span_info : (Try.prog.info? 46).map (fun i => (i.zero, i.size)) = some (some (.agg #[.int .i64 0, .int .i64 0]), 2) := by kernel_rfl
theorem span_info3 : (Try.prog.info? 46).map (fun i => (i.zero, i.size, i.bytes)) = some (some (.agg #[.int .i64 0, .int .i64 0]), 2, 16) := by kernel_rfl
theorem spS (p : Nat × Nat) : (Try.prog.info? 46).map (·.size) = some (spv p).size := by
  have := congrArg (Option.map (fun x => x.2)) span_info
  simpa [Option.map_map, Function.comp_def, spv] using this
section
variable {w0 w : World} {B : Nat} {R : List Pc} {o : Oper} {a : Act} {K : Act → World → Prop} {Q : Exit → Act → World → Prop}
theorem load_sp {b o n c : Nat} {l : List (Nat × Nat)} (hR : Rd w (.slice (some ⟨b, o, none⟩) n c) n 2 (scs l)) (hn : n = l.length) (k : Nat) (hk : k < n) (p : Nat × Nat) (hp : l.getD k (0, 0) = p) :
    (Instr.loadAt 46 (.pointer (some ⟨b, o + k * 2, none⟩))).run Try.prog w = .ok (.agg (spv p)) w := by
  obtain ⟨h1, h2⟩ := scs_at l k (by omega) p hp
  refine load_cells (spv p) (fun j u hu => ?_) 46 Try.underlying46 rfl (spS p)
  have hj : j < 2 := by have := (Array.getElem?_eq_some_iff.1 hu).1; simpa [spv] using this
  rw [Nat.add_assoc]
  refine rd_cell hR (by omega) (k * 2 + j) ?_
  rcases (show j = 0 ∨ j = 1 by omega) with rfl | rfl
  · rw [Nat.add_zero, h1]; simpa [spv] using hu
  · rw [h2]; simpa [spv] using hu
end
theorem shl_one {m : Nat} (h : m ≤ 62) : wrap64 (2 ^ m : Int) = ((2 ^ m : Nat) : Int) := by
  have h1 : 2 ^ m ≤ 2 ^ 62 := Nat.pow_le_pow_right (by decide) h
  have h2 : ((2 ^ m : Nat) : Int) = (2 : Int) ^ m := by simp
  rw [← h2]
  generalize 2 ^ m = q at h1
  unfold wrap64; omega
theorem half_len {n : Int} (h2 : 2 ≤ n) (hn : n ≤ 9223372036854775807) : ∃ m : Nat, Lib.bitLen (n - 1).toNat = m ∧ 1 ≤ m ∧ m ≤ 63 ∧ 2 ^ (m - 1) = hf n.toNat := by
  refine ⟨_, rfl, bitLen_pos (by omega) (by omega), bitLen_le (by omega) (by omega), ?_⟩
  have := half_bits (n := n.toNat) (by omega) (by omega)
  rwa [show n.toNat - 1 = (n - 1).toNat from by omega] at this
set_option maxHeartbeats 400000 in
theorem half_a (n : Int) (w : World) (h2 : 2 ≤ n) (hn : n ≤ 9223372036854775807) :
    Calls Try.prog 49 #[.int .i64 n] w fun e w' => e = .returned (.int .i64 ((hf n.toNat : Nat) : Int)) ∧ w = w' := by
  obtain ⟨m, hm, h1, h3, h4⟩ := half_len h2 hn
  have H4 := Lib.hid h4
  have H5 := Lib.hid (shl_one (m := m - 1) (by omega))
  clear h4
  have hc := Try.bits_Len (n - 1) w (by omega) (by omega)
  rw [hm] at hc
  have HM := Lib.hid hm
  clear hm
  go_enter Try.func49, Try.ntmps49
  go_wp2_with fail
  refine hc.mono ?_
  clear hc
  rintro e w' ⟨rfl, rfl⟩
  go_wp2
  go_ret
  exact ⟨ret_int (by have := H5.out; rw [H4.out] at this; rw [← this]), rfl⟩
set_option maxHeartbeats 400000 in
theorem half_b (n : Nat) (w : World) (h2 : 2 ≤ n) (hn : n ≤ 4611686018427387904) :
    Calls Try.prog 62 #[.int .i64 n] w fun e w' => e = .returned (.int .i64 ((hf n : Nat) : Int)) ∧ w = w' := by
  have HF := Lib.hid (fun j h h2 => hf_eq (n := n) (j := j) h h2)
  go_enter Try.func62, Try.ntmps62
  go_wp2
  go_loopw [3] (fun s3 wr => ∃ k j : Nat, s3 = .int .i64 k ∧ k = 2 ^ j ∧ k < n ∧ wr = w) (fun s3 _ => n - (intOf s3).toNat)
  case atStart => exact ⟨1, 0, rfl, rfl, by omega, rfl⟩
  case round =>
    obtain ⟨k, j, rfl, hk, hlt, rfl⟩ := hrel
    have hk0 : 0 < k := by rw [hk]; exact Nat.pow_pos (by decide)
    have HK := Lib.hid hk
    clear hk
    by_cases hc : k < n - k
    · have hc' : (k : Int) < (n : Int) - (k : Int) := by omega
      have hc2 : (k : Int) * 2 < (n : Int) := by omega
      go_wp2
      go_roundw
      case rel => exact ⟨k * 2, j + 1, by go_num, by rw [HK.out, Nat.pow_succ], by omega, trivial⟩
      case measure => simp [intOf]; omega
    · have hc' : ¬ (k : Int) < (n : Int) - (k : Int) := by omega
      have hc2 : ¬ (k : Int) * 2 < (n : Int) := by omega
      go_wp2
      go_ret
      exact ⟨ret_int (by rw [HF.out j (by rw [← HK.out]; omega) (by rw [Nat.pow_succ, ← HK.out]; omega), HK.out]), rfl⟩
/-- An exchange on the way to a reversal. -/
theorem rev_swap {α : Type} [Inhabited α] {l m : List α} {z : α} {i j : Nat} (hm : m.length = l.length) (hij : i + j + 1 = l.length) (hlt : i < j) (h : ∀ k, k < l.length → m.getD k z = if k < i ∨ j < k then l.getD (l.length - 1 - k) z else l.getD k z) :
    ∀ k, k < l.length → ((m.set i (m.getD j z)).set j (m.getD i z)).getD k z = if k < i + 1 ∨ j - 1 < k then l.getD (l.length - 1 - k) z else l.getD k z := by
  intro k hk
  have hi := h i (by omega)
  have hj := h j (by omega)
  rw [if_neg (by omega)] at hi hj
  simp only [List.getD, List.getElem?_set, List.length_set] at *
  by_cases e1 : j = k
  · subst e1
    rw [if_pos rfl, if_pos (by omega), if_pos (by omega), show l.length - 1 - j = i from by omega]
    simpa using hi
  · rw [if_neg e1]
    by_cases e2 : i = k
    · subst e2
      rw [if_pos rfl, if_pos (by omega), if_pos (by omega), show l.length - 1 - i = j from by omega]
      simpa using hj
    · rw [if_neg e2, h k hk]
      by_cases h5 : k < i ∨ j < k
      · rw [if_pos h5, if_pos (by omega)]
      · rw [if_neg h5, if_neg (by omega)]
theorem rev_done {α : Type} {l m : List α} {z : α} {i : Nat} {j : Int} (hm : m.length = l.length) (hij : (i : Int) + j + 1 = (l.length : Int)) (hlt : ¬ (i : Int) < j) (h : ∀ k, k < l.length → m.getD k z = if k < i ∨ j < (k : Int) then l.getD (l.length - 1 - k) z else l.getD k z) : m = l.reverse := by
  apply List.ext_getElem (by simp [hm])
  intro k h1 h2
  have hk : k < l.length := by omega
  have := h k hk
  simp only [List.getD, List.getElem?_eq_getElem h1, Option.getD_some] at this
  rw [this, List.getElem_reverse]
  by_cases hc : k < i ∨ j < (k : Int)
  · rw [if_pos hc, List.getElem?_eq_getElem (by omega)]; rfl
  · rw [if_neg hc, List.getElem?_eq_getElem hk]
    simp only [Option.getD_some]
    congr 1
    omega
set_option maxRecDepth 100000 in
set_option maxHeartbeats 4000000 in
/-- slices.Reverse of spans of the call's own. -/
theorem reverse_a (l : List (Nat × Nat)) (v : Value) (B : Nat) (w0 w : World) (R : List Pc) (hl : l.length ≤ 1000) (HS0 : Sep B w0 w (.own v 46 2 l.length (scs l) :: R)) :
    Calls Try.prog 50 #[v] w fun e w' => e = .returned (.tuple #[]) ∧ Sep B w0 w' (.own v 46 2 l.length (scs l.reverse) :: R) := by
  obtain ⟨A, c, rfl, _⟩ := (HS0.own 0 rfl).sl
  go_enter Try.func50, Try.ntmps50
  go_wp2
  go_loopw [2, 3] (fun s2 s3 wr => ∃ (i : Nat) (j : Int) (m : List (Nat × Nat)), s2 = .int .i64 i ∧ s3 = .int .i64 j ∧ (i : Int) + j + 1 = (l.length : Int) ∧ m.length = l.length ∧ Hid (∀ k, k < l.length → m.getD k (0, 0) = if k < i ∨ j < (k : Int) then l.getD (l.length - 1 - k) (0, 0) else l.getD k (0, 0)) ∧
    Sep B w0 wr (.own (.slice A l.length c) 46 2 l.length (scs m) :: R)) (fun _ s3 _ => (intOf s3 + 1).toNat)
  case atStart => exact ⟨0, (l.length : Int) - 1, l, rfl, rfl, by omega, rfl, Lib.hid (fun k hk => by rw [if_neg (by omega)]), HS0⟩
  case round =>
    clear HS0
    obtain ⟨i, j, m, rfl, rfl, hij, hm, HM, HSi⟩ := hrel
    by_cases hlt : (i : Int) < j
    · obtain ⟨q, rfl⟩ : ∃ q : Nat, j = (q : Int) := ⟨j.toNat, by omega⟩
      have hlt2 : i < q := by omega
      have hqn : q < l.length := by omega
      obtain ⟨g, rfl⟩ := Ow.addr (HSi.own 0 rfl) (by omega)
      obtain ⟨x, hx⟩ : ∃ x, m.getD i (0, 0) = x := ⟨_, rfl⟩
      obtain ⟨y, hy⟩ : ∃ x, m.getD q (0, 0) = x := ⟨_, rfl⟩
      have hq1 : (q : Int) ≤ 1000 := by omega
      have hi1 : (i : Int) ≤ 1000 := by omega
      have HLI := Lib.hid (fun (W' : World) (h : Rd W' (.slice (some ⟨g, 0, none⟩) l.length c) l.length 2 (scs m)) => load_sp h hm.symm i (by omega) x hx)
      have HLQ := Lib.hid (fun (W' : World) (h : Rd W' (.slice (some ⟨g, 0, none⟩) l.length c) l.length 2 (scs m)) => load_sp h hm.symm q (by omega) y hy)
      rw [Nat.zero_add] at HLI HLQ
      have HX := Lib.hid hx
      have HY := Lib.hid hy
      have HIJ := Lib.hid hij
      have HIL := Lib.hid (show i < l.length by omega)
      have hin : i < l.length := by omega
      clear hx hy hij
      go_wp2
      refine Cop.region_ordy (fun w' => Sep B w0 w' (.own (.slice (some ⟨g, 0, none⟩) l.length c) 46 2 l.length (scs m) :: R)) 13 (.take 0 (.take 1 (.take 2 (.take 3 (.take 4 (.take 5 (.take 6 (.take 7 (.take 8 (.take 9 (.take 10 (.take 11 (.take 12 (.run 13 (.take 14 (.run 15 Cop.Ord.fin)))))))))))))))) (by kernel_rfl) (by kernel_rfl) (fun _ _ d _ _ h => by cases d <;> exact h) ?_
      intro w2 hd2
      have HSa := HSi.keep hd2
      clear HSi
      (repeat (first | (refine Cop.ogy_skip rfl rfl _ (by (simp only [Act.put, List.setIfInBounds_toArray, List.set_cons_succ, List.set_cons_zero]; rfl)) ?_) | (refine Cop.ogy_pure rfl rfl ?_; apply Exists.intro; refine ⟨fun w9 => ?_, _, by (simp only [Act.put, List.setIfInBounds_toArray, List.set_cons_succ, List.set_cons_zero]; rfl), ?_⟩; (go_simp; with_reducible rfl)) | (refine Cop.ogy_ld rfl rfl HSa (by kernel_rfl) 46 _ rfl (.pointer (some ⟨g, q * 2, none⟩)) rfl (.agg (spv y)) (fun w9 h9 => HLQ.out w9 (h9.own 0 rfl).rd) _ (by (simp only [Act.put, List.setIfInBounds_toArray, List.set_cons_succ, List.set_cons_zero]; rfl)) ?_) | (refine Cop.ogy_ld rfl rfl HSa (by kernel_rfl) 46 _ rfl (.pointer (some ⟨g, i * 2, none⟩)) rfl (.agg (spv x)) (fun w9 h9 => HLI.out w9 (h9.own 0 rfl).rd) _ (by (simp only [Act.put, List.setIfInBounds_toArray, List.set_cons_succ, List.set_cons_zero]; rfl)) ?_) | (refine Cop.ogy_take rfl rfl HSa (by kernel_rfl) ?_; apply Exists.intro; refine ⟨fun w9 h9 => ?_, _, by (simp only [Act.put, List.setIfInBounds_toArray, List.set_cons_succ, List.set_cons_zero]; rfl), ?_⟩; (go_simp; with_reducible rfl))))
      refine Cop.ogy_run rfl rfl ?_
      refine ow_stg HSa 0 rfl 46 _ _ rfl (i * 2) (spS y) (by rw [show (spv y).size = 2 from rfl]; omega) (by omega) rfl rfl (spv_one _) ?_
      intro w3 HSb
      rw [scs_set m i (by omega) y] at HSb
      refine ⟨fun h => absurd h (by decide), ?_⟩
      (repeat (first | (refine Cop.ogy_skip rfl rfl _ (by (simp only [Act.put, List.setIfInBounds_toArray, List.set_cons_succ, List.set_cons_zero]; rfl)) ?_) | (refine Cop.ogy_pure rfl rfl ?_; apply Exists.intro; refine ⟨fun w9 => ?_, _, by (simp only [Act.put, List.setIfInBounds_toArray, List.set_cons_succ, List.set_cons_zero]; rfl), ?_⟩; (go_simp; with_reducible rfl)) | (refine Cop.ogy_take rfl rfl HSa (by kernel_rfl) ?_; apply Exists.intro; refine ⟨fun w9 h9 => ?_, _, by (simp only [Act.put, List.setIfInBounds_toArray, List.set_cons_succ, List.set_cons_zero]; rfl), ?_⟩; (go_simp; with_reducible rfl))))
      refine Cop.ogy_run rfl rfl ?_
      refine ow_stg HSb 0 rfl 46 _ _ rfl (q * 2) (spS x) (by rw [show (spv x).size = 2 from rfl]; omega) (by omega) rfl rfl (spv_one _) ?_
      intro w4 HSc
      simp only [List.set_cons_zero] at HSc
      rw [scs_set (m.set i y) q (by simp; omega) x] at HSc
      refine ⟨fun h => absurd h (by decide), ?_⟩
      refine Cop.ogy_fin ?_
      clear HSa HSb
      go_wp2
      go_roundw
      case rel => exact ⟨i + 1, (q : Int) - 1, (m.set i y).set q x, by go_num, by go_num, by have := HIJ.out; omega, by simp [hm], Lib.hid (fun k hk => by
        have := rev_swap (z := (0, 0)) hm (by have := HIJ.out; omega) hlt2 (fun k hk => by have := HM.out k hk; rw [this]; congr 1; simp) k hk
        rw [HX.out, HY.out] at this
        rw [this]
        have e : (k < i + 1 ∨ q - 1 < k) ↔ (k < i + 1 ∨ (q : Int) - 1 < (k : Int)) := by omega
        simp only [e]), HSc⟩
      case measure => simp [intOf]
    · have HE := Lib.hid (rev_done (z := (0, 0)) hm hij hlt HM.out)
      clear HM hij
      go_wp2
      go_end0
      exact ⟨rfl, by rw [← HE.out]; exact HSi⟩
end Go.Proofs.Ytcjnheabkdalbaa
