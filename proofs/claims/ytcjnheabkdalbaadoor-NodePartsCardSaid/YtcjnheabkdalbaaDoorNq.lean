/- Pairs of numbers in slices of nodes; node.Parts. -/
import Derived.Test.YtcjnheabkdalbaaDoorNp
namespace Go.Proofs.YtcjnheabkdalbaaDoor
open Go.RowKit Cop
set_option linter.unusedVariables false
set_option linter.unusedSimpArgs false
/-- Pairs of numbers, as cells. -/
def scs (l : List (Nat × Nat)) : List Value := l.flatMap fun p => [.int .i64 (p.1 : Int), .int .i64 (p.2 : Int)]
def spv (p : Nat × Nat) : Array Value := #[.int .i64 (p.1 : Int), .int .i64 (p.2 : Int)]
theorem scs_cons (p : Nat × Nat) (l : List (Nat × Nat)) : scs (p :: l) = (spv p).toList ++ scs l := by simp [scs, spv]
theorem scs_append (a b : List (Nat × Nat)) : scs (a ++ b) = scs a ++ scs b := by simp [scs]
theorem scs_length (l : List (Nat × Nat)) : (scs l).length = l.length * 2 := by
  induction l with
  | nil => rfl
  | cons p l ih => rw [scs_cons, List.length_append, ih, List.length_cons]; simp [spv]; omega
theorem scs_one (l : List (Nat × Nat)) : ∀ c ∈ scs l, c.oneCell' = true := by
  intro c hc
  simp only [scs, List.mem_flatMap] at hc
  obtain ⟨x, _, hc⟩ := hc
  simp at hc
  rcases hc with rfl | rfl <;> rfl
theorem spv_one (p : Nat × Nat) : (spv p).all (·.oneCell') = true := by simp [spv, Value.oneCell']
theorem scs_drop (l : List (Nat × Nat)) : ∀ k, (scs l).drop (k * 2) = scs (l.drop k) := by
  induction l with
  | nil => intro k; simp [scs]
  | cons p l ih =>
    intro k
    cases k with
    | zero => simp
    | succ k => rw [scs_cons, show (k + 1) * 2 = (spv p).toList.length + k * 2 from by simp [spv]; omega, List.drop_append, Nat.add_sub_cancel_left, List.drop_of_length_le (by omega), List.nil_append, ih, List.drop_succ_cons]
theorem scs_take (l : List (Nat × Nat)) : ∀ k, (scs l).take (k * 2) = scs (l.take k) := by
  induction l with
  | nil => intro k; simp [scs]
  | cons p l ih =>
    intro k
    cases k with
    | zero => simp [scs]
    | succ k => rw [scs_cons, show (k + 1) * 2 = (spv p).toList.length + k * 2 from by simp [spv]; omega, List.take_append, Nat.add_sub_cancel_left, List.take_of_length_le (by omega), ih, List.take_succ_cons, scs_cons]
theorem scs_at (l : List (Nat × Nat)) (k : Nat) (hk : k < l.length) (p : Nat × Nat) (hp : l.getD k (0, 0) = p) : (scs l)[k * 2]? = some (.int .i64 (p.1 : Int)) ∧ (scs l)[k * 2 + 1]? = some (.int .i64 (p.2 : Int)) := by
  have h : l.drop k = p :: l.drop (k + 1) := by
    rw [List.drop_eq_getElem_cons hk]
    simp only [List.getD, List.getElem?_eq_getElem hk, Option.getD_some] at hp
    rw [hp]
  have h2 := scs_drop l k
  rw [h, scs_cons] at h2
  refine ⟨?_, ?_⟩
  · have := congrArg (fun x => x[0]?) h2
    simpa [spv, List.getElem?_drop] using this
  · have := congrArg (fun x => x[1]?) h2
    simpa [spv, List.getElem?_drop] using this
theorem scs_set (l : List (Nat × Nat)) (k : Nat) (hk : k < l.length) (p : Nat × Nat) : (scs l).take (k * 2) ++ (spv p).toList ++ (scs l).drop (k * 2 + (spv p).size) = scs (l.set k p) := by
  rw [show k * 2 + (spv p).size = (k + 1) * 2 from by simp [spv]; omega, scs_take, scs_drop, List.set_eq_take_append_cons_drop, if_pos hk, scs_append, scs_cons, List.append_assoc]
theorem span_info : (Tryd.prog.info? 32).map (fun i => (i.zero, i.size)) = some (some (.agg #[.int .i64 0, .int .i64 0]), 2) := by kernel_rfl
theorem span_info3 : (Tryd.prog.info? 32).map (fun i => (i.zero, i.size, i.bytes)) = some (some (.agg #[.int .i64 0, .int .i64 0]), 2, 16) := by kernel_rfl
theorem spS (p : Nat × Nat) : (Tryd.prog.info? 32).map (·.size) = some (spv p).size := by
  have := congrArg (Option.map (fun x => x.2)) span_info
  simpa [Option.map_map, Function.comp_def, spv] using this
section
variable {w0 w : World} {B : Nat} {R : List Pc} {o : Oper} {a : Act} {K : Act → World → Prop} {Q : Exit → Act → World → Prop}
theorem load_sp {b o n c : Nat} {l : List (Nat × Nat)} (hR : Rd w (.slice (some ⟨b, o, none⟩) n c) n 2 (scs l)) (hn : n = l.length) (k : Nat) (hk : k < n) (p : Nat × Nat) (hp : l.getD k (0, 0) = p) :
    (Instr.loadAt 32 (.pointer (some ⟨b, o + k * 2, none⟩))).run Tryd.prog w = .ok (.agg (spv p)) w := by
  obtain ⟨h1, h2⟩ := scs_at l k (by omega) p hp
  refine load_cells (spv p) (fun j u hu => ?_) 32 Tryd.underlying32 rfl (spS p)
  have hj : j < 2 := by have := (Array.getElem?_eq_some_iff.1 hu).1; simpa [spv] using this
  rw [Nat.add_assoc]
  refine rd_cell hR (by omega) (k * 2 + j) ?_
  rcases (show j = 0 ∨ j = 1 by omega) with rfl | rfl
  · rw [Nat.add_zero, h1]; simpa [spv] using hu
  · rw [h2]; simpa [spv] using hu
end
theorem shl_one {m : Nat} (h : m ≤ 62) : wrap64 (2 ^ m : Int) = ((2 ^ m : Nat) : Int) := by
  have h1 : 2 ^ m ≤ 2 ^ 62 := Nat.pow_le_pow_right (by decide) h
  have h2 : ((2 ^ m : Nat) : Int) = (2 : Int) ^ m := by simp
  rw [← h2]
  generalize 2 ^ m = q at h1
  unfold wrap64; omega
theorem cells_sp {W : World} {B : Nat} {w0 : World} {R : List Pc} {g c : Nat} {l : List (Nat × Nat)} (HS : Sep B w0 W R) (i : Nat) (hi : R[i]? = some (.own (.slice (some ⟨g, 0, none⟩) l.length c) 32 2 l.length (scs l))) (k : Nat) (hk : k < l.length) (x y : Nat) (hp : l.getD k (0, 0) = (x, y)) :
    W.cell? ⟨g, k * 2, none⟩ = some (.int .i64 (x : Int)) ∧ W.cell? ⟨g, k * 2 + 1, none⟩ = some (.int .i64 (y : Int)) := by
  obtain ⟨h1, h2⟩ := scs_at l k hk (x, y) hp
  exact ⟨own_cell (HS.own i hi) _ h1, own_cell (HS.own i hi) _ h2⟩
theorem drop_at {α : Type} {l : List α} {k : Nat} {z x : α} (hk : k < l.length) (h : l.getD k z = x) : l.drop k = x :: l.drop (k + 1) := by
  rw [List.drop_eq_getElem_cons hk]
  simp only [List.getD, List.getElem?_eq_getElem hk, Option.getD_some] at h
  rw [h]
theorem shr_nat (x L : Nat) : ((x : Int) / 2 ^ L) = ((x / 2 ^ L : Nat) : Int) := by simp
theorem parts_bad (b e : Int) (w : World) (h : b < 0 ∨ e < b ∨ 281474976710656 < e) : Gives 5 #[.agg #[.int .i64 b, .int .i64 e]] w (.tuple #[.slice none 0 0, .int .i64 40]) := by
  have HS0 := Sep.start w
  by_cases h1 : b < 0
  · clear h
    go_enter Tryd.func5, Tryd.ntmps5
    go_wp2_with (first | refine wl_bx HS0 rfl 23 _ rfl #[.int .i64 b, .int .i64 e] rfl ?_)
    intro g1 w1 HS1
    have c0 := (row_cell (HS1.row 0 rfl) 0).trans (show (#[Value.int .i64 b, .int .i64 e] : Array Value)[0]? = some (.int .i64 b) from rfl)
    have c1 := (row_cell (HS1.row 0 rfl) 1).trans (show (#[Value.int .i64 b, .int .i64 e] : Array Value)[1]? = some (.int .i64 e) from rfl)
    go_wp2
    go_ret2
    exact ⟨rfl, HS1.hb⟩
  · by_cases h2 : e < b
    · clear h
      go_enter Tryd.func5, Tryd.ntmps5
      go_wp2_with (first | refine wl_bx HS0 rfl 23 _ rfl #[.int .i64 b, .int .i64 e] rfl ?_)
      intro g1 w1 HS1
      have c0 := (row_cell (HS1.row 0 rfl) 0).trans (show (#[Value.int .i64 b, .int .i64 e] : Array Value)[0]? = some (.int .i64 b) from rfl)
      have c1 := (row_cell (HS1.row 0 rfl) 1).trans (show (#[Value.int .i64 b, .int .i64 e] : Array Value)[1]? = some (.int .i64 e) from rfl)
      go_wp2
      go_ret2
      exact ⟨rfl, HS1.hb⟩
    · have h4 : 281474976710656 < e := by omega
      clear h
      go_enter Tryd.func5, Tryd.ntmps5
      go_wp2_with (first | refine wl_bx HS0 rfl 23 _ rfl #[.int .i64 b, .int .i64 e] rfl ?_)
      intro g1 w1 HS1
      have c0 := (row_cell (HS1.row 0 rfl) 0).trans (show (#[Value.int .i64 b, .int .i64 e] : Array Value)[0]? = some (.int .i64 b) from rfl)
      have c1 := (row_cell (HS1.row 0 rfl) 1).trans (show (#[Value.int .i64 b, .int .i64 e] : Array Value)[1]? = some (.int .i64 e) from rfl)
      go_wp2
      go_ret2
      exact ⟨rfl, HS1.hb⟩
set_option maxRecDepth 100000 in
set_option maxHeartbeats 4000000 in
theorem parts_ok (b e : Nat) (w : World) (hT : TabZ w) (hbe : b ≤ e) (he : e ≤ 281474976710656) :
    Calls Tryd.prog 5 #[.agg #[.int .i64 b, .int .i64 e]] w fun r w' => ∃ v, r = .returned (.tuple #[v, .int .i64 0]) ∧ Below w.heap.size w w' ∧ Ow w' w.heap.size 32 2 v (partsP b e).length (scs (partsP b e)) := by
  have hlen := (bes_all hbe he).2
  have HS0 := Sep.start w
  have CL := Lib.hid (fun (x : Int) (w : World) (h0 : 0 ≤ x) (h1 : x ≤ 18446744073709551615) => Tryd.bits_Len x w h0 h1)
  have CZ := Lib.hid (fun (x : Nat) (hx : x < 281474976710656) (h0 : x ≠ 0) (w' : World) (hb : Below w.heap.size w w') => tz x (by omega) h0 w' (hT.below hb))
  have HLV := Lib.hid (fun (a n : Nat) (h1 : a < 2 ^ 48) (h2 : 1 ≤ n) (h3 : n ≤ 2 ^ 48) => lv_code h1 h2 h3)
  obtain ⟨L, hL⟩ : ∃ L, partsP b e = L := ⟨_, rfl⟩
  have HL := Lib.hid hL
  rw [hL] at hlen ⊢
  have hb0 : decide ((b : Int) < 0) = false := decide_eq_false (by omega)
  have hb1 : decide ((e : Int) < (b : Int)) = false := decide_eq_false (by omega)
  have hb2 : decide (e < b) = false := decide_eq_false (by omega)
  have hb3 : decide (281474976710656 < (e : Int)) = false := decide_eq_false (by omega)
  have heb : (e : Int) ≤ 281474976710656 := by omega
  clear hL
  go_enter Tryd.func5, Tryd.ntmps5
  go_wp2_with (first | refine wl_bx HS0 rfl 23 _ rfl #[.int .i64 (b : Int), .int .i64 (e : Int)] rfl ?_)
  intro g1 w1 HS1
  have c0 := (row_cell (HS1.row 0 rfl) 0).trans (show (#[Value.int .i64 (b : Int), .int .i64 (e : Int)] : Array Value)[0]? = some (.int .i64 (b : Int)) from rfl)
  have c1 := (row_cell (HS1.row 0 rfl) 1).trans (show (#[Value.int .i64 (b : Int), .int .i64 (e : Int)] : Array Value)[1]? = some (.int .i64 (e : Int)) from rfl)
  have HSn := Sep.ownNil HS1 32 2
  clear HS0 HS1
  go_wp2
  clear c0 c1
  go_loopw [4, 5] (fun s4 s5 wr => ∃ (a : Nat) (dn : List (Nat × Nat)) (A : Option Addr) (c : Nat), s4 = .slice A dn.length c ∧ s5 = .int .i64 a ∧ a ≤ e ∧ Hid (dn ++ partsP a e = L) ∧ Sep w.heap.size w wr [.own (.slice A dn.length c) 32 2 dn.length (scs dn), .row g1 #[.int .i64 (b : Int), .int .i64 (e : Int)] 23]) (fun _ s5 _ => (e : Nat) - (intOf s5).toNat)
  case atStart => exact ⟨b, [], none, 0, rfl, rfl, hbe, Lib.hid (by rw [← HL.out]; rfl), HSn⟩
  case round =>
    clear HSn
    obtain ⟨a, dn, A4, c4, rfl, rfl, hae, HW, HSi⟩ := hrel
    have c1 := (row_cell (HSi.row 1 rfl) 1).trans (show (#[Value.int .i64 (b : Int), .int .i64 (e : Int)] : Array Value)[1]? = some (.int .i64 (e : Int)) from rfl)
    by_cases hlt : a < e
    · have hlt' : (a : Int) < (e : Int) := by omega
      have hw := HW.out
      rw [partsP_cons hlt] at hw
      obtain ⟨n, hn⟩ : ∃ n, e - a = n := ⟨_, rfl⟩
      rw [hn] at hw
      have hni : (e : Int) - (a : Int) = (n : Int) := by omega
      have hlv := HLV.out a n (by omega) (by omega) (by omega)
      have hlp := lv_pow a (n := n) (by omega)
      have hl48 := lv_le a n
      obtain ⟨lvl, hlvl⟩ : ∃ l, lv a n = l := ⟨_, rfl⟩
      rw [hlvl] at hw hlv hlp hl48
      obtain ⟨bl, hbl⟩ : ∃ l, Lib.bitLen n = l := ⟨_, rfl⟩
      have hbl1 : 1 ≤ bl := by rw [← hbl]; exact bitLen_pos (by omega) (by omega)
      have hbl2 : bl ≤ 64 := by rw [← hbl]; exact bitLen_le (by omega) (by omega)
      have CL1 := Lib.hid (fun w => CL.out (n : Int) w (by omega) (by omega))
      rw [Int.toNat_natCast, hbl] at CL1
      rw [hbl] at hlv
      have hdn : dn.length + 1 ≤ 96 := by have := congrArg List.length hw; simp only [List.length_append, List.length_cons] at this; omega
      have HWX := Lib.hid hw
      have HS1 := Lib.hid (shl_one (m := lvl) (by omega))
      have HS2 := Lib.hid (shr_nat a lvl)
      have hpb : (2 ^ lvl : Nat) ≤ 281474976710656 := by omega
      obtain ⟨P2, hP2⟩ : ∃ p, (2 ^ lvl : Nat) = p := ⟨_, rfl⟩
      rw [hP2] at HWX HS1 HS2 hlp hpb
      have hpi : ((2 : Int) ^ lvl) = (P2 : Int) := by rw [← hP2]; simp
      have hw64 : IntKind.u64.wrap (n : Int) = (n : Int) := by rw [IntKind.wrap_u64]; omega
      have hwa : IntKind.u64.wrap (a : Int) = (a : Int) := by rw [IntKind.wrap_u64]; omega
      have HNE := Lib.hid (show a + P2 ≤ e ∧ 0 < P2 from ⟨by omega, by rw [← hP2]; exact Nat.pow_pos (by decide)⟩)
      clear hbl hlvl hw hn
      by_cases ha0 : a = 0
      · have hmin : min ((bl : Int) - 1) 48 = (lvl : Int) := by rw [if_pos ha0] at hlv; omega
        have hag : decide ((0 : Int) < (a : Int)) = false := decide_eq_false (by omega)
        have hag2 : decide (0 < a) = false := decide_eq_false (by omega)
        clear ha0 hlv
        go_wp2_with fail
        (with_reducible refine Calls.mono (CL1.out _) ?_)
        rintro r w2 ⟨rfl, rfl⟩
        go_wp2_with (first | refine wl_bs HSi rfl 24 32 1 2 _ rfl (scs [(lvl, a / P2)]) _ Tryd.underlying24 span_info (by decide) (by decide) (by kernel_rfl) rfl ?_)
        intro g8 w8 HS8
        go_wp2_with (first | refine wl_apn HS8 1 rfl _ _ 24 _ 16 rfl rfl Tryd.underlying24 span_info3 rfl (by decide) (by decide) (HS8.own 0 rfl).rd (scs_one _) rfl rfl (dn.length + 1) (scs (dn ++ [(lvl, a / P2)])) rfl (by rw [scs_append]) (by omega) ?_)
        intro v9 w9 HS9 _
        obtain ⟨A9, c9, rfl, _⟩ := (HS9.own 1 rfl).sl
        have HSk := HS9.tail
        clear HS8 HS9
        go_wp2
        go_roundw
        case rel => exact ⟨a + P2, dn ++ [(lvl, a / P2)], A9, c9, by rw [List.length_append]; rfl, by go_num, HNE.out.1, Lib.hid (by rw [← HWX.out]; simp), by simpa using HSk⟩
        case measure => have := HNE.out; simp [intOf]; omega
      · have hzt := CZ.out a (by omega) ha0
        obtain ⟨z, hz⟩ : ∃ z, Lib.ctz 64 a = z := ⟨_, rfl⟩
        obtain ⟨m0, hm0⟩ : ∃ m, min (bl - 1) 48 = m := ⟨_, rfl⟩
        rw [if_neg ha0, hz, hm0] at hlv
        rw [hz] at hzt
        have CZ1 := Lib.hid (hzt wr HSi.hb)
        have hmin : min ((bl : Int) - 1) 48 = (m0 : Int) := by omega
        have hmin2 : min (m0 : Int) (z : Int) = (lvl : Int) := by omega
        have hag : decide ((0 : Int) < (a : Int)) = true := decide_eq_true (by omega)
        have hag2 : decide (0 < a) = true := decide_eq_true (by omega)
        clear ha0 hlv hm0 hz hzt
        go_wp2_with fail
        (with_reducible refine Calls.mono (CL1.out _) ?_)
        rintro r w2 ⟨rfl, rfl⟩
        go_wp2_with fail
        (with_reducible refine Calls.mono CZ1.out ?_)
        rintro r w3 ⟨rfl, rfl⟩
        go_wp2_with (first | refine wl_bs HSi rfl 24 32 1 2 _ rfl (scs [(lvl, a / P2)]) _ Tryd.underlying24 span_info (by decide) (by decide) (by kernel_rfl) rfl ?_)
        intro g8 w8 HS8
        go_wp2_with (first | refine wl_apn HS8 1 rfl _ _ 24 _ 16 rfl rfl Tryd.underlying24 span_info3 rfl (by decide) (by decide) (HS8.own 0 rfl).rd (scs_one _) rfl rfl (dn.length + 1) (scs (dn ++ [(lvl, a / P2)])) rfl (by rw [scs_append]) (by omega) ?_)
        intro v9 w9 HS9 _
        obtain ⟨A9, c9, rfl, _⟩ := (HS9.own 1 rfl).sl
        have HSk := HS9.tail
        clear HS8 HS9
        go_wp2
        go_roundw
        case rel => exact ⟨a + P2, dn ++ [(lvl, a / P2)], A9, c9, by rw [List.length_append]; rfl, by go_num, HNE.out.1, Lib.hid (by rw [← HWX.out]; simp), by simpa using HSk⟩
        case measure => have := HNE.out; simp [intOf]; omega
    · have hae2 : a = e := by omega
      subst hae2
      have he2 : dn = L := by have := HW.out; rwa [partsP_nil (by omega), List.append_nil] at this
      subst he2
      go_wp2
      go_ret2
      exact ⟨_, rfl, HSi.hb, HSi.own 0 rfl⟩
end Go.Proofs.YtcjnheabkdalbaaDoor
