/- node.Up: its iterator; the reference's Up. -/
import Derived.Test.YtcjnheabkdalbaaNi
import Derived.Test.YtcjnheabkdalbaaRf2
namespace Go.Proofs.Ytcjnheabkdalbaa
open Go.RowKit Go.Shelf Cop
set_option linter.unusedVariables false
set_option linter.unusedSimpArgs false
attribute [local go_sem] Oper.semAt_some
/-- All blocks below n₀ but one stay. -/
def KeepsBut (n₀ g : Nat) (W W' : World) : Prop := W.heap.size ≤ W'.heap.size ∧ ∀ k, k < n₀ → k ≠ g → W'.heap[k]? = W.heap[k]?
theorem KeepsBut.refl (n₀ g : Nat) (W : World) : KeepsBut n₀ g W W := ⟨Nat.le_refl _, fun _ _ _ => rfl⟩
theorem KeepsBut.trans {n₀ g : Nat} {A B C : World} (h : KeepsBut n₀ g A B) (k : KeepsBut n₀ g B C) : KeepsBut n₀ g A C := ⟨Nat.le_trans h.1 k.1, fun i h1 h2 => (k.2 i h1 h2).trans (h.2 i h1 h2)⟩
theorem KeepsBut.cell {n₀ g : Nat} {A B : World} (h : KeepsBut n₀ g A B) {b o : Nat} (h1 : b < n₀) (h2 : b ≠ g) : B.cell? ⟨b, o, none⟩ = A.cell? ⟨b, o, none⟩ := World.cell?_of_block (w := A) (a := ⟨b, o, none⟩) (h.2 b h1 h2)
theorem keepsBut_b {n₀ g : Nat} {w : World} (hn : n₀ ≤ w.heap.size) (W : World) (l : Nat) (o o' : Obj) (hl : w.heap.size ≤ l) (h : W.heap[l]? = some o) (_ : o.isCells = false) (_ : o.isWalk = false) : KeepsBut n₀ g W (W.putObj l o') :=
  ⟨by simp, fun k hk _ => World.putObj_heap_other (by omega)⟩
theorem keepsBut_below {n₀ g : Nat} {W W' : World} (h : Below W.heap.size W W') (hn : n₀ ≤ W.heap.size) : KeepsBut n₀ g W W' := ⟨h.size, fun k hk _ => h.block k (by omega)⟩
theorem keepsBut_setRow (n₀ g : Nat) (W : World) (cs : Array Value) : KeepsBut n₀ g W (W.setRow g cs) := ⟨by simp, fun k hk hne => setRow_other W g k cs hne⟩
theorem keepsBut_new {n₀ g : Nat} (W : World) (h : Nat) (hh : n₀ ≤ h) (cs : Array Value) : KeepsBut n₀ g W (W.setRow h cs) := ⟨by simp, fun k hk hne => setRow_other W h k cs (by omega)⟩
section
variable {P : Program} {n : Nat} {w : World} {o : Oper} {a : Act}
theorem wli_val {ops : Array Oper} {rest : List Oper} {Q : Exit → Act → World → Prop} (hgd : o.guard = none) (hd : ∀ c, o.op ≠ .defer c) (v : Value) (hr : (execOp a.eval o).run P w = .ok (.value v) w) (h : wpListIn Fence.wide n P ops Q rest (a.put o.dst v) w) : wpListIn Fence.wide n P ops Q (o :: rest) a w := by
  unfold wpListIn
  rw [if_pos (by simp [Region.wanted, hgd])]
  refine ⟨fun _ _ => trivial, ?_⟩
  rw [Oper.semAt_plain _ _ _ hd, hr]
  exact h
theorem wli_ldx {ops : Array Oper} {rest : List Oper} {Q : Exit → Act → World → Prop} (hgd : o.guard = none) (ty : TypeId) (x : Operand) (hop : o.op = .load ty x) (p : Value) (hx : a.eval x = p) (v : Value) (hl : (Instr.loadAt ty p).run P w = .ok v w) (h : wpListIn Fence.wide n P ops Q rest (a.put o.dst v) w) : wpListIn Fence.wide n P ops Q (o :: rest) a w := by
  refine wli_val hgd (by rw [hop]; intro c hc; cases hc) v ?_ h
  simp only [execOp, hop, hx, Sem.run_bind, hl, Result.andThen_ok, Sem.run_pure]
end
section
variable {P : Program} {w0 w : World} {B : Nat} {R : List Pc} {o : Oper} {a : Act}
/-- A scalar parameter that is boxed. -/
theorem wl_bx1 {ops : Array Oper} {rest : List Oper} {Q : Exit → Act → World → Prop} (HS : Sep B w0 w R) (hgd : o.guard = none) (ty : TypeId) (x : Operand) (hop : o.op = .box ty x) (v : Value) (hv : v.cells = #[v]) (hx : a.eval x = v)
    (h : ∀ g w1, Sep B w0 w1 (.row g #[v] ty :: R) → wpList P ops Q rest (a.put o.dst (.pointer (some ⟨g, 0, none⟩))) w1) : wpList P ops Q (o :: rest) a w := by
  refine wpList_plain hgd fun K hK => ?_
  refine ow_val (.pointer (some ⟨w.heap.size, 0, none⟩)) (w.alloc (.cells #[v] ty)) ?_ (hK _ _ (h _ _ (HS.alloc #[v] ty)))
  simp only [execOp, hop, hx]
  simp [Instr.box, Result.andThen, newVar, newRow, hv]
theorem wl_al1 {ops : Array Oper} {rest : List Oper} {Q : Exit → Act → World → Prop} (HS : Sep B w0 w R) (hgd : o.guard = none) (ty : TypeId) (hop : o.op = .alloc ty) (v : Value) (hv : v.cells = #[v]) (hz : (P.info? ty).map (·.zero) = some (some v))
    (h : ∀ g w1, Sep B w0 w1 (.row g #[v] ty :: R) → wpList P ops Q rest (a.put o.dst (.pointer (some ⟨g, 0, none⟩))) w1) : wpList P ops Q (o :: rest) a w := by
  refine wpList_plain hgd fun K hK => ?_
  obtain ⟨i, hi, hz⟩ := Option.map_eq_some_iff.1 hz
  have hzz : (zeroValue ty).run P w = .ok v w := by simp [zeroValue, typeInfo, hi, hz]
  refine ow_val (.pointer (some ⟨w.heap.size, 0, none⟩)) (w.alloc (.cells #[v] ty)) ?_ (hK _ _ (h _ _ (HS.alloc #[v] ty)))
  simp only [execOp, hop]
  simp [Instr.alloc, Sem.run_bind, hzz, Result.andThen, newVar, newRow, hv]
theorem rf_intro {P : Program} {c : Code} {Q : Exit → Act → World → Prop} {a : Act} {w : World} (h : ∀ a0, a0 = a → c.wp P Q a0 w) : c.wp P Q a w := h a rfl
end
theorem node_info : (Try.prog.info? 31).map (fun i => (i.zero, i.size)) = some (some (.agg #[.int .i64 0, .int .i64 0]), 2) := by kernel_rfl
theorem node_info3 : (Try.prog.info? 31).map (fun i => (i.zero, i.size, i.bytes)) = some (some (.agg #[.int .i64 0, .int .i64 0]), 2, 16) := by kernel_rfl
theorem ndS (p : Nat × Nat) : (Try.prog.info? 31).map (·.size) = some (spv p).size := by
  have := congrArg (Option.map (fun x => x.2)) node_info
  simpa [Option.map_map, Function.comp_def, spv] using this
section
variable {w0 w : World} {B : Nat} {R : List Pc} {o : Oper} {a : Act} {K : Act → World → Prop} {Q : Exit → Act → World → Prop}
theorem load_nd {b o n c : Nat} {l : List (Nat × Nat)} (hR : Rd w (.slice (some ⟨b, o, none⟩) n c) n 2 (scs l)) (hn : n = l.length) (k : Nat) (hk : k < n) (p : Nat × Nat) (hp : l.getD k (0, 0) = p) :
    (Instr.loadAt 31 (.pointer (some ⟨b, o + k * 2, none⟩))).run Try.prog w = .ok (.agg (spv p)) w := by
  obtain ⟨h1, h2⟩ := scs_at l k (by omega) p hp
  refine load_cells (spv p) (fun j u hu => ?_) 31 Try.underlying31 rfl (ndS p)
  have hj : j < 2 := by have := (Array.getElem?_eq_some_iff.1 hu).1; simpa [spv] using this
  rw [Nat.add_assoc]
  refine rd_cell hR (by omega) (k * 2 + j) ?_
  rcases (show j = 0 ∨ j = 1 by omega) with rfl | rfl
  · rw [Nat.add_zero, h1]; simpa [spv] using hu
  · rw [h2]; simpa [spv] using hu
end
theorem shr_nat (x L : Nat) : ((x : Int) / 2 ^ L) = ((x / 2 ^ L : Nat) : Int) := by simp
/-- How many nodes there are on the way up. -/
def upN (leaf level : Int) : Nat := if 0 ≤ leaf ∧ leaf < 281474976710656 then (min level 48 + 1).toNat else 0
def upP (leaf level : Int) : List (Nat × Nat) := (List.range (upN leaf level)).map fun l => (l, leaf.toNat / 2 ^ l)
theorem upP_length (leaf level : Int) : (upP leaf level).length = upN leaf level := by simp [upP]
theorem upP_at (leaf level : Int) (k : Nat) (hk : k < upN leaf level) : (upP leaf level)[k]? = some (k, leaf.toNat / 2 ^ k) := by simp [upP, hk]
theorem upP_take (leaf level : Int) (k : Nat) (hk : k < upN leaf level) : (upP leaf level).take (k + 1) = (upP leaf level).take k ++ [(k, leaf.toNat / 2 ^ k)] := by
  rw [List.take_add_one, upP_at leaf level k hk]; rfl
def pkE (x : Nat × Nat) : Array Value := #[.agg (spv x)]
theorem pkA_eq (T : Array Value) (x : Nat × Nat) (p : Tmp) : ((#[p] : Array Tmp).zip (pkE x)).foldl (fun t (p, v) => t.setIfInBounds p v) T = T.setIfInBounds p (.agg (spv x)) := by
  simp [pkE]
set_option maxRecDepth 100000 in
set_option maxHeartbeats 2000000 in
theorem up1_in (n : Nat) (hn : 1 ≤ n) (l n₀ g B1 B2 : Nat) (leaf level : Int) (h1 : B1 < n₀) (h2 : B1 ≠ g) (h3 : B2 < n₀) (h4 : B2 ≠ g) (J Jx : List (Nat × Nat) → World → Prop)
    (hY : ∀ (pre : List (Nat × Nat)) (x : Nat × Nat) (W : World), J pre W → pre.length < 49 → YieldAt Fence.wide (n - 1) Try.prog l (pkE x) W fun e W' =>
      (e = .returned (.bool true) ∧ J (pre ++ [x]) W' ∧ KeepsBut n₀ g W W') ∨ (e = .returned (.bool false) ∧ Jx (pre ++ [x]) W'))
    (W : World) (c1 : W.cell? ⟨B1, 0, none⟩ = some (.int .i64 leaf)) (c2 : W.cell? ⟨B2, 0, none⟩ = some (.int .i64 level)) (h0 : J [] W) :
    CallsIn Fence.wide n Try.prog 43 #[.func (.yield l) #[] #[], .pointer (some ⟨B1, 0, none⟩), .pointer (some ⟨B2, 0, none⟩)] W fun e W' => (∃ v, e = .returned v) ∧
      ((∃ ys, ys = upP leaf level ∧ J ys W') ∨ (∃ pre, (∃ t, pre ++ t = upP leaf level) ∧ Jx pre W')) := by
  have HC1 := Lib.hid c1
  have HC2 := Lib.hid c2
  have HY := Lib.hid hY
  clear hY
  refine callsIn_of_wp Try.func43 rfl trivial ?_ rfl
  simp only [Try.ntmps43, List.size_toArray, List.length_cons, List.length_nil, Nat.reduceAdd, Nat.reduceSub, Array.replicate_succ, Array.replicate_zero, List.push_toArray, List.append_toArray, List.nil_append, List.cons_append]
  by_cases hl0 : leaf < 0
  · have hN : upP leaf level = [] := by unfold upP upN; rw [if_neg (by omega)]; rfl
    have HN := Lib.hid hN
    clear hN
    gi_wp2
    refine bodyPost_ret (results_none rfl _ _ _) rfl ?_
    first | exact ⟨⟨_, rfl⟩, .inl (by rw [HN.out]; exact h0)⟩ | exact ⟨⟨_, rfl⟩, .inl ⟨_, HN.out.symm, h0⟩⟩
  · by_cases hl1 : 281474976710656 ≤ leaf
    · have hN : upP leaf level = [] := by unfold upP upN; rw [if_neg (by omega)]; rfl
      have HN := Lib.hid hN
      clear hN
      gi_wp2
      refine bodyPost_ret (results_none rfl _ _ _) rfl ?_
      first | exact ⟨⟨_, rfl⟩, .inl (by rw [HN.out]; exact h0)⟩ | exact ⟨⟨_, rfl⟩, .inl ⟨_, HN.out.symm, h0⟩⟩
    · obtain ⟨lf, rfl⟩ : ∃ k : Nat, leaf = k := ⟨leaf.toNat, by omega⟩
      have hNe : upN lf level = (min level 48 + 1).toNat := by unfold upN; rw [if_pos (by omega)]
      have HNE := Lib.hid hNe
      have hd1 : decide ((lf : Int) < 0) = false := decide_eq_false hl0
      have hd2 : decide (281474976710656 ≤ (lf : Int)) = false := decide_eq_false hl1
      clear hNe hl0 hl1
      gi_wp2
      gi_loopw [4] (fun s4 wr => ∃ k : Nat, k ≤ upN lf level ∧ s4 = .int .i64 k ∧ J ((upP lf level).take k) wr ∧ KeepsBut n₀ g W wr) (fun s4 _ => upN lf level - (intOf s4).toNat)
      case atStart => exact ⟨0, Nat.zero_le _, rfl, by rw [List.take_zero]; exact h0, KeepsBut.refl _ _ _⟩
      case round =>
        clear h0 c1 c2
        obtain ⟨k, hk, rfl, hJ, hkb⟩ := hrel
        have c1 := (hkb.cell (o := 0) h1 h2).trans HC1.out
        have c2 := (hkb.cell (o := 0) h3 h4).trans HC2.out
        by_cases hlt : k < upN lf level
        · have hk48 : k ≤ 48 := by rw [HNE.out] at hlt; omega
          have hkm : (k : Int) ≤ min level 48 := by rw [HNE.out] at hlt; omega
          have htl := upP_take lf level k hlt
          have hlen : ((upP lf level).take k).length < 49 := by rw [List.length_take]; omega
          rw [Int.toNat_natCast] at htl
          have HTL := Lib.hid htl
          have HS2 := shr_nat lf k
          obtain ⟨q, hq⟩ : ∃ q, lf / 2 ^ k = q := ⟨_, rfl⟩
          rw [hq] at HS2 HTL
          obtain ⟨fn, tmps, assign, body, hy, hR⟩ := HY.out ((upP lf level).take k) (k, q) wr hJ hlen
          dsimp only [pkE, spv] at hy
          clear htl hlen hq
          gi_wp2
          refine hR.mono ?_
          rintro e W3 (⟨rfl, hJ3, hk3⟩ | ⟨rfl, hJx3⟩)
          · gi_wp2
            go_roundw
            case rel => exact ⟨k + 1, by omega, by go_num, by rw [HTL.out]; exact hJ3, hkb.trans hk3⟩
            case measure => simp [intOf]; omega
          · gi_wp2
            refine bodyPost_ret (results_none rfl _ _ _) rfl ?_
            exact ⟨⟨_, rfl⟩, .inr ⟨_, ⟨(upP lf level).drop (k + 1), by rw [← HTL.out, List.take_append_drop]⟩, hJx3⟩⟩
        · have hkN : k = upN lf level := by omega
          have hkm : ¬ (k : Int) ≤ min level 48 := by rw [hkN, HNE.out]; omega
          have hJe : J (upP lf level) wr := by
            have := hJ
            rwa [hkN, ← upP_length, List.take_length] at this
          have HJ := Lib.hid hJe
          have hd3 : decide ((k : Int) ≤ min level 48) = false := decide_eq_false hkm
          clear hJ hJe hkN hlt hk hkm
          gi_wp2
          go_end0
          exact ⟨⟨_, rfl⟩, .inl ⟨_, rfl, HJ.out⟩⟩
set_option maxRecDepth 100000 in
theorem up_a (leaf level : Int) (w : World) : Calls Try.prog 15 #[.int .i64 leaf, .int .i64 level] w fun e w' => e = .returned (.func (.func 43) #[] #[.pointer (some ⟨w.heap.size, 0, none⟩), .pointer (some ⟨w.heap.size + 1, 0, none⟩)]) ∧ w' = (w.alloc (.cells #[.int .i64 leaf] 3)).alloc (.cells #[.int .i64 level] 3) := by
  go_enter Try.func15, Try.ntmps15
  go_wp2
  go_ret
  exact ⟨rfl, rfl⟩
theorem up_stops (n : Nat) (hn : 1 ≤ n) (n₀ g B1 B2 : Nat) (leaf level : Int) (h1 : B1 < n₀) (h2 : B1 ≠ g) (h3 : B2 < n₀) (h4 : B2 ≠ g) (w : World) (hn₀ : n₀ ≤ w.heap.size) (c1 : w.cell? ⟨B1, 0, none⟩ = some (.int .i64 leaf)) (c2 : w.cell? ⟨B2, 0, none⟩ = some (.int .i64 level)) :
    SeqStopsK Fence.wide n Try.prog 43 #[.pointer (some ⟨B1, 0, none⟩), .pointer (some ⟨B2, 0, none⟩)] pkE (KeepsBut n₀ g) (fun ys => ys = upP leaf level) (fun pre => ∃ t, pre ++ t = upP leaf level) 49 w := fun l J Jx W hW _ _ hY h0 =>
  up1_in n hn l n₀ g B1 B2 leaf level h1 h2 h3 h4 J Jx hY W ((hW.cell (p := ⟨B1, 0, none⟩) (by simp; omega)).trans c1) ((hW.cell (p := ⟨B2, 0, none⟩) (by simp; omega)).trans c2) h0
set_option maxRecDepth 100000 in
set_option maxHeartbeats 4000000 in
/-- The reference's Up. -/
theorem rup_a (leaf level : Int) (w : World) (hlv : level ≤ 9223372036854775807) (hlv2 : -9223372036854775808 ≤ level) : Calls Try.prog 14 #[.int .i64 leaf, .int .i64 level] w fun e w' => ∃ v, e = .returned v ∧ Below w.heap.size w w' ∧ Ow w' w.heap.size 31 2 v (upP leaf level).length (scs (upP leaf level)) := by
  have HS0 := Sep.ownNil (Sep.start w) 31 2
  by_cases hl0 : leaf < 0
  · have hN : upP leaf level = [] := by unfold upP upN; rw [if_neg (by omega)]; rfl
    rw [hN]
    clear hN
    go_enter Try.func14, Try.ntmps14
    go_wp2
    go_ret
    exact ⟨_, rfl, HS0.hb, HS0.own 0 rfl⟩
  · by_cases hl1 : 281474976710656 ≤ leaf
    · have hN : upP leaf level = [] := by unfold upP upN; rw [if_neg (by omega)]; rfl
      rw [hN]
      clear hN
      go_enter Try.func14, Try.ntmps14
      go_wp2
      go_ret
      exact ⟨_, rfl, HS0.hb, HS0.own 0 rfl⟩
    · obtain ⟨lf, rfl⟩ : ∃ k : Nat, leaf = k := ⟨leaf.toNat, by omega⟩
      have hNe : upN lf level = (min level 48 + 1).toNat := by unfold upN; rw [if_pos (by omega)]
      have HNE := Lib.hid hNe
      have HUL := Lib.hid (upP_length lf level)
      have hd1 : decide ((lf : Int) < 0) = false := decide_eq_false hl0
      have hd2 : decide (281474976710656 ≤ (lf : Int)) = false := decide_eq_false hl1
      have HTK := Lib.hid (fun k hk => upP_take lf level k hk)
      obtain ⟨L, hL⟩ : ∃ L, upP lf level = L := ⟨_, rfl⟩
      obtain ⟨N, hN⟩ : ∃ N, upN lf level = N := ⟨_, rfl⟩
      rw [hL] at HTK HUL ⊢
      rw [hN] at HTK HUL HNE
      clear hNe hl0 hl1 hL hN
      go_enter Try.func14, Try.ntmps14
      go_wp2
      go_loopw [5, 6] (fun s5 s6 wr => ∃ (k : Nat) (A : Option Addr) (c : Nat), k ≤ N ∧ s5 = .slice A k c ∧ s6 = .int .i64 k ∧ Sep w.heap.size w wr [.own (.slice A k c) 31 2 k (scs (L.take k))]) (fun _ s6 _ => N - (intOf s6).toNat)
      case atStart => exact ⟨0, none, 0, Nat.zero_le _, rfl, rfl, HS0⟩
      case round =>
        clear HS0
        obtain ⟨k, A, c, hk, rfl, rfl, HSi⟩ := hrel
        by_cases hlt : k < N
        · have hk48 : k ≤ 48 := by rw [HNE.out] at hlt; omega
          have hkl : (k : Int) ≤ level := by rw [HNE.out] at hlt; omega
          have htl := HTK.out k hlt
          rw [Int.toNat_natCast] at htl
          have HS2 := shr_nat lf k
          obtain ⟨q, hq⟩ : ∃ q, lf / 2 ^ k = q := ⟨_, rfl⟩
          rw [hq] at HS2 htl
          have HTL := Lib.hid htl
          have hwk : IntKind.u64.wrap (k : Int) = (k : Int) := by rw [IntKind.wrap_u64]; omega
          clear htl hq
          go_wp2_with (first | refine wl_bs HSi rfl 25 31 1 2 _ rfl (scs [(k, q)]) _ Try.underlying25 node_info (by decide) (by decide) (by kernel_rfl) rfl ?_)
          intro g8 w8 HS8
          go_wp2_with (first | refine wl_apn HS8 1 rfl _ _ 25 _ 16 rfl rfl Try.underlying25 node_info3 rfl (by decide) (by decide) (HS8.own 0 rfl).rd (scs_one _) rfl rfl (k + 1) (scs (L.take (k + 1))) rfl (by rw [HTL.out, scs_append]) (by omega) ?_)
          intro v9 w9 HS9 _
          obtain ⟨A9, c9, rfl, _⟩ := (HS9.own 1 rfl).sl
          have HSk := HS9.tail
          clear HS8 HS9
          go_wp2
          go_roundw
          case rel => exact ⟨k + 1, A9, c9, by omega, rfl, by go_num, by simpa using HSk⟩
          case measure => simp [intOf]; omega
        · have hkN : k = N := by omega
          have hLk : L.take k = L := by rw [hkN, ← HUL.out, List.take_length]
          rw [hLk] at HSi
          have HKL := Lib.hid (show L.length = k by rw [HUL.out, hkN])
          clear hLk
          by_cases hkl : (k : Int) ≤ level
          · have hk48 : ¬ (k : Int) ≤ 48 := by have := HNE.out; omega
            clear hkN
            go_wp2
            go_ret
            exact ⟨_, rfl, HSi.hb, by rw [HKL.out]; exact HSi.own 0 rfl⟩
          · clear hkN
            go_wp2
            go_ret
            exact ⟨_, rfl, HSi.hb, by rw [HKL.out]; exact HSi.own 0 rfl⟩
end Go.Proofs.Ytcjnheabkdalbaa
