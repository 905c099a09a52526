/- Proved here: for any proof's digests the spans are the document's (node.Spans, node.Steps); without condition. -/
import Derived.Test.YtcjnheabkdalbaaNl
import Derived.Test.YtcjnheabkdalbaaFNodeSpans
namespace Go.Proofs.Ytcjnheabkdalbaa
open Go.RowKit Cop
set_option linter.unusedVariables false
set_option linter.unusedSimpArgs false
theorem names_a (w : World) : Calls Try.prog 29 #[] w fun e w' => e = .returned (.bool true) ∧ w' = w := by
  go_enter Try.func29, Try.ntmps29
  go_wp2
  go_ret
  exact ⟨rfl, rfl⟩
/-- What both Spans (or both Steps) answer. -/
def Both (f g : FuncId) (a n : Int) (X : List (Nat × Nat)) (E : Int) : Prop :=
  (∀ w, Calls Try.prog f #[.int .i64 a, .int .i64 n] w fun e w' => ∃ v, e = .returned (.tuple #[v, .int .i64 E]) ∧ Below w.heap.size w w' ∧ Ow w' w.heap.size 46 2 v X.length (scs X)) ∧
  (∀ w, Calls Try.prog g #[.int .i64 a, .int .i64 n] w fun e w' => ∃ v, e = .returned (.tuple #[v, .int .i64 E]) ∧ Below w.heap.size w w' ∧ Ow w' w.heap.size 46 2 v X.length (scs X))
theorem rspans_bad (i n : Int) (w : World) (h : i < 0 ∨ n ≤ i ∨ 281474976710656 < n) : Calls Try.prog 35 #[.int .i64 i, .int .i64 n] w fun e w' => e = .returned (.tuple #[.slice none 0 0, .int .i64 40]) ∧ w' = w := by
  by_cases h1 : i < 0
  · clear h
    go_enter Try.func35, Try.ntmps35
    go_wp2
    go_ret2
    exact ⟨rfl, rfl⟩
  · by_cases h2 : n ≤ i
    · clear h
      go_enter Try.func35, Try.ntmps35
      go_wp2
      go_ret2
      exact ⟨rfl, rfl⟩
    · have h4 : 281474976710656 < n := by omega
      clear h
      go_enter Try.func35, Try.ntmps35
      go_wp2
      go_ret2
      exact ⟨rfl, rfl⟩
theorem rsteps_bad (i n : Int) (w : World) (h : i < 1 ∨ n < i ∨ 281474976710656 < n) : Calls Try.prog 36 #[.int .i64 i, .int .i64 n] w fun e w' => e = .returned (.tuple #[.slice none 0 0, .int .i64 40]) ∧ w' = w := by
  by_cases h1 : i < 1
  · clear h
    go_enter Try.func36, Try.ntmps36
    go_wp2
    go_ret2
    exact ⟨rfl, rfl⟩
  · by_cases h2 : n < i
    · clear h
      go_enter Try.func36, Try.ntmps36
      go_wp2
      go_ret2
      exact ⟨rfl, rfl⟩
    · have h4 : 281474976710656 < n := by omega
      clear h
      go_enter Try.func36, Try.ntmps36
      go_wp2
      go_ret2
      exact ⟨rfl, rfl⟩
theorem none_of {f : FuncId} {args : Array Value} {w : World} {E : Int} (h : Calls Try.prog f args w fun e w' => e = .returned (.tuple #[.slice none 0 0, .int .i64 E]) ∧ w' = w) :
    Calls Try.prog f args w fun e w' => ∃ v, e = .returned (.tuple #[v, .int .i64 E]) ∧ Below w.heap.size w w' ∧ Ow w' w.heap.size 46 2 v ([] : List (Nat × Nat)).length (scs []) :=
  h.mono fun e w' ⟨h1, h2⟩ => ⟨_, h1, by rw [h2]; exact Below.refl _ _, Ow.nil _ _ _ _ _⟩
theorem both_spans (a n : Int) : ∃ X E, Both 34 35 a n X E ∧ X.length ≤ 100 := by
  by_cases h : 0 ≤ a ∧ a < n ∧ n ≤ 281474976710656
  · obtain ⟨i, rfl⟩ : ∃ k : Nat, a = k := ⟨a.toNat, by omega⟩
    obtain ⟨n, rfl⟩ : ∃ k : Nat, n = k := ⟨n.toNat, by omega⟩
    refine ⟨spansP i 0 n, 0, ⟨fun w => spans_ok i n w (by omega) (by omega), fun w => ?_⟩, Nat.le_trans (spansP_len 48 n i 0 (by omega)) (by decide)⟩
    have hrec := rspans_gen spansP (fun i b n h => spansP_one h) (fun i b n h h2 => spansP_lt h h2) (fun i b n h h2 => spansP_ge h h2) (fun i b n h => spansP_len 48 n i b h) n 0 i w (by omega) (by omega) (by omega) (by omega)
    obtain ⟨L, hL⟩ : ∃ L, spansP i 0 n = L := ⟨_, rfl⟩
    rw [hL] at hrec ⊢
    have HREC := Lib.hid hrec
    have hi0 : ¬ (i : Int) < 0 := by omega
    have hin : ¬ (n : Int) ≤ (i : Int) := by omega
    have hnb : ¬ 281474976710656 < (n : Int) := by omega
    clear hrec hL
    go_enter Try.func35, Try.ntmps35
    go_wp2_with fail
    (with_reducible refine Calls.mono HREC.out ?_)
    rintro e w1 ⟨v, rfl, b1, o1⟩
    obtain ⟨A, c, rfl, _⟩ := o1.sl
    go_wp2
    go_ret2
    exact ⟨_, rfl, b1, o1⟩
  · exact ⟨[], 40, ⟨fun w => none_of (spans_bad a n w (by omega)), fun w => none_of (rspans_bad a n w (by omega))⟩, by simp⟩
theorem both_steps (a n : Int) : ∃ X E, Both 33 36 a n X E ∧ X.length ≤ 100 := by
  by_cases h : 1 ≤ a ∧ a ≤ n ∧ n ≤ 281474976710656
  · obtain ⟨i, rfl⟩ : ∃ k : Nat, a = k := ⟨a.toNat, by omega⟩
    obtain ⟨n, rfl⟩ : ∃ k : Nat, n = k := ⟨n.toNat, by omega⟩
    refine ⟨stepsP i 0 n true, 0, ⟨fun w => steps_ok i n w (by omega) (by omega) (by omega), fun w => ?_⟩, Nat.le_trans (stepsP_len 48 n i 0 true (by omega)) (by decide)⟩
    have hrec := rsteps_gen stepsP (fun i b n w h => stepsP_end h) (fun i b n w h h2 h3 => stepsP_le h h2 h3) (fun i b n w h h2 h3 => stepsP_gt h h2 h3) (fun i b n w h => stepsP_len 48 n i b w h) n 0 i true w (by omega) (by omega) (by omega)
    obtain ⟨L, hL⟩ : ∃ L, stepsP i 0 n true = L := ⟨_, rfl⟩
    rw [hL] at hrec ⊢
    have HREC := Lib.hid hrec
    have hi0 : ¬ (i : Int) < 1 := by omega
    have hin : ¬ (n : Int) < (i : Int) := by omega
    have hnb : ¬ 281474976710656 < (n : Int) := by omega
    clear hrec hL
    go_enter Try.func36, Try.ntmps36
    go_wp2_with fail
    (with_reducible refine Calls.mono HREC.out ?_)
    rintro e w1 ⟨v, rfl, b1, o1⟩
    obtain ⟨A, c, rfl, _⟩ := o1.sl
    go_wp2
    go_ret2
    exact ⟨_, rfl, b1, o1⟩
  · exact ⟨[], 40, ⟨fun w => none_of (steps_bad a n w (by omega)), fun w => none_of (rsteps_bad a n w (by omega))⟩, by simp⟩
set_option maxRecDepth 100000 in
set_option maxHeartbeats 4000000 in
theorem same_sp (l : List (Nat × Nat)) (va vb : Value) (w : World) (hll : l.length ≤ 100) (ha : Rd w va l.length 2 (scs l)) (hb : Rd w vb l.length 2 (scs l)) : Gives 37 #[va, vb] w (.bool true) := by
  have HS0 := ((Sep.start w).arg0 ha).arg0 hb
  obtain ⟨A, ca, rfl, _, _⟩ := ha.shape
  obtain ⟨B, cb, rfl, _, _⟩ := hb.shape
  clear ha hb
  go_enter Try.func37, Try.ntmps37
  go_wp2
  go_loopw [5] (fun s5 wr => ∃ k : Nat, k ≤ l.length ∧ s5 = .int .i64 k ∧ Sep w.heap.size w wr [.rd (.slice B l.length cb) l.length 2 (scs l), .rd (.slice A l.length ca) l.length 2 (scs l)]) (fun s5 _ => l.length - (intOf s5).toNat)
  case atStart => exact ⟨0, by omega, rfl, HS0⟩
  case round =>
    clear HS0
    obtain ⟨k, hk, rfl, HSi⟩ := hrel
    by_cases hlt : k < l.length
    · have hlt' : (k : Int) < (l.length : Int) := by omega
      obtain ⟨x, y, hxy⟩ : ∃ x y, l.getD k (0, 0) = (x, y) := ⟨_, _, rfl⟩
      obtain ⟨b1, o1, rfl⟩ := rd_some (HSi.rd 1 rfl) (by omega)
      obtain ⟨b2, o2, rfl⟩ := rd_some (HSi.rd 0 rfl) (by omega)
      have HXY := Lib.hid hxy
      have HLT := Lib.hid hlt
      clear hxy
      go_wp2
      refine Cop.region_ord (fun w' => Sep w.heap.size w w' [.rd (.slice (some ⟨b2, o2, none⟩) l.length cb) l.length 2 (scs l), .rd (.slice (some ⟨b1, o1, none⟩) l.length ca) l.length 2 (scs l)]) 8 (.take 0 (.take 1 (.take 2 (.take 3 (.take 4 (.take 5 (.take 6 (.take 7 (.take 8 Cop.Ord.fin))))))))) (by kernel_rfl) (by kernel_rfl) (fun _ _ d _ _ h => by cases d <;> exact h) ?_
      intro wa hda
      replace HSi := HSi.keep hda
      (repeat (first | (refine Cop.og_skip rfl rfl HSi _ (by (simp only [Act.put, List.setIfInBounds_toArray, List.set_cons_succ, List.set_cons_zero]; rfl)) ?_) | (refine Cop.og_ld rfl rfl HSi 46 _ rfl (.pointer (some ⟨b1, o1 + k * 2, none⟩)) rfl (.agg #[.int .i64 (x : Int), .int .i64 (y : Int)]) (fun w9 h9 => load_sp (h9.rd 1 rfl) rfl k HLT.out (x, y) HXY.out) _ (by (simp only [Act.put, List.setIfInBounds_toArray, List.set_cons_succ, List.set_cons_zero]; rfl)) ?_) | (refine Cop.og_ld rfl rfl HSi 46 _ rfl (.pointer (some ⟨b2, o2 + k * 2, none⟩)) rfl (.agg #[.int .i64 (x : Int), .int .i64 (y : Int)]) (fun w9 h9 => load_sp (h9.rd 0 rfl) rfl k HLT.out (x, y) HXY.out) _ (by (simp only [Act.put, List.setIfInBounds_toArray, List.set_cons_succ, List.set_cons_zero]; rfl)) ?_) | (refine Cop.og_take rfl rfl HSi ?_; apply Exists.intro; refine ⟨fun w9 h9 => ?_, _, by (simp only [Act.put, List.setIfInBounds_toArray, List.set_cons_succ, List.set_cons_zero]; rfl), ?_⟩; (go_simp; with_reducible rfl))))
      refine og_fin ?_
      go_wp2
      go_roundw
      case rel => exact ⟨k + 1, by omega, by go_num, HSi⟩
      case measure => simp [intOf]; omega
    · have hlt' : ¬ (k : Int) < (l.length : Int) := by omega
      go_wp2
      go_ret
      exact ⟨rfl, HSi.hb⟩
section
variable {P : Program} {w0 w : World} {B : Nat} {R : List Pc} {ops : Array Oper} {rest : List Oper} {o : Oper} {a : Act} {Q : Exit → Act → World → Prop}
/-- A cell of a slice of the call's own is stored. -/
theorem wl_stg1 (HS : Sep B w0 w R) (i : Nat) {g n c : Nat} {e : TypeId} {size : Nat} {xs : List Value} (hi : R[i]? = some (.own (.slice (some ⟨g, 0, none⟩) n c) e size n xs)) (hgd : o.guard = none) (ty : TypeId) (ad x : Operand) (hop : o.op = .store ty ad x) (off : Nat) {y : Value} (hyc : y.cells = #[y]) (hs1 : (P.info? ty).map (·.size) = some 1) (hoff : off + 1 ≤ n * size) (h0 : 0 < n) (had : a.eval ad = .pointer (some ⟨g, off, none⟩)) (hx : a.eval x = y)
    (h1 : (#[y] : Array Value).all (·.oneCell') = true) (h : ∀ w1, Sep B w0 w1 (R.set i (.own (.slice (some ⟨g, 0, none⟩) n c) e size n (xs.take off ++ [y] ++ xs.drop (off + 1)))) → wpList P ops Q rest (a.put o.dst undef) w1) : wpList P ops Q (o :: rest) a w :=
  wpList_plain hgd fun _ hK => ow_stg1 HS i hi ty ad x hop off hyc hs1 hoff h0 had hx h1 fun w1 h2 => hK _ _ (h w1 h2)
end
set_option maxRecDepth 100000 in
set_option maxHeartbeats 8000000 in
theorem nodeSpans_all (a n : Int) (X Y : List (Nat × Nat)) (E F : Int) (w : World) (BX : Both 34 35 a n X E) (BY : Both 33 36 a n Y F) (hX : X.length ≤ 100) (hY : Y.length ≤ 100) : Gives 11 #[.int .i64 a, .int .i64 n] w (.bool true) := by
  have CX := Lib.hid BX.1
  have DX := Lib.hid BX.2
  have CY := Lib.hid BY.1
  have DY := Lib.hid BY.2
  clear BX BY
  have SX := Lib.hid (fun va vb w h1 h2 => same_sp X va vb w hX h1 h2)
  have SY := Lib.hid (fun va vb w h1 h2 => same_sp Y va vb w hY h1 h2)
  have HS0 := Sep.start w
  go_enter Try.func11, Try.ntmps11
  go_wp2_with fail
  (with_reducible refine Calls.mono (CX.out _) ?_)
  rintro e w1 ⟨v1, rfl, b1, o1⟩
  have HS1 := HS0.made b1 o1
  obtain ⟨A1, c1, rfl, _⟩ := (HS1.own 0 rfl).sl
  clear HS0 b1 o1
  go_wp2_with fail
  (with_reducible refine Calls.mono (CY.out _) ?_)
  rintro e w2 ⟨v2, rfl, b1, o1⟩
  have HS2 := HS1.made b1 o1
  obtain ⟨A2, c2, rfl, _⟩ := (HS2.own 0 rfl).sl
  clear HS1 b1 o1
  go_wp2_with fail
  (with_reducible refine Calls.mono (CX.out _) ?_)
  rintro e w3 ⟨v3, rfl, b1, o1⟩
  have HS3 := HS2.made b1 o1
  obtain ⟨A3, c3, rfl, _⟩ := (HS3.own 0 rfl).sl
  clear HS2 b1 o1
  go_wp2_with fail
  (with_reducible refine Calls.mono (CY.out _) ?_)
  rintro e w4 ⟨v4, rfl, b1, o1⟩
  have HS4 := HS3.made b1 o1
  obtain ⟨A4, c4, rfl, _⟩ := (HS4.own 0 rfl).sl
  clear HS3 b1 o1
  go_wp2_with fail
  (with_reducible refine Calls.mono (DX.out _) ?_)
  rintro e w5 ⟨v5, rfl, b1, o1⟩
  have HS5 := HS4.made b1 o1
  obtain ⟨A5, c5, rfl, _⟩ := (HS5.own 0 rfl).sl
  clear HS4 b1 o1
  go_wp2_with fail
  (with_reducible refine Calls.mono (DY.out _) ?_)
  rintro e w6 ⟨v6, rfl, b1, o1⟩
  have HS6 := HS5.made b1 o1
  obtain ⟨A6, c6, rfl, _⟩ := (HS6.own 0 rfl).sl
  clear HS5 b1 o1
  go_wp2_with fail
  (with_reducible refine Calls.mono (SX.out _ _ _ (HS6.own 5 rfl).rd (HS6.own 1 rfl).rd) ?_)
  rintro e w7 ⟨rfl, b7⟩
  have HS7 := HS6.keep b7
  clear HS6
  go_wp2_with fail
  (with_reducible refine Calls.mono (SY.out _ _ _ (HS7.own 4 rfl).rd (HS7.own 0 rfl).rd) ?_)
  rintro e w8 ⟨rfl, b8⟩
  have HS8 := HS7.keep b8
  clear HS7
  go_wp2
  go_loopw [17] (fun s wr => ∃ (k : Nat) (zs : List Value), k ≤ X.length ∧ s = .int .i64 k ∧ Sep w.heap.size w wr [.own (.slice A6 Y.length c6) 46 2 Y.length (scs Y), .own (.slice A5 X.length c5) 46 2 X.length (scs X), .own (.slice A4 Y.length c4) 46 2 Y.length (scs Y), .own (.slice A3 X.length c3) 46 2 X.length (scs X), .own (.slice A2 Y.length c2) 46 2 Y.length (scs Y), .own (.slice A1 X.length c1) 46 2 X.length zs]) (fun s _ => X.length - (intOf s).toNat)
  case atStart => exact ⟨0, _, Nat.zero_le _, rfl, HS8⟩
  case round =>
    clear HS8
    obtain ⟨k, zs, hk, rfl, HSi⟩ := hrel
    by_cases hlt : k < X.length
    · have hlt' : (k : Int) < (X.length : Int) := by omega
      obtain ⟨g, rfl⟩ := Ow.addr (HSi.own 5 rfl) (by omega)
      go_wp2_with (first | refine wl_stg1 HSi 5 rfl rfl 3 _ _ rfl (k * 2 + 1) (y := .int .i64 (-4)) rfl (by kernel_rfl) (by omega) (by omega) rfl rfl (by simp [Value.oneCell']) ?_)
      intro w9 HS9
      clear HSi
      go_wp2
      go_roundw
      case rel => exact ⟨k + 1, _, by omega, by go_num, HS9⟩
      case measure => simp [intOf]; omega
    · have hlt' : ¬ (k : Int) < (X.length : Int) := by omega
      go_wp2
      go_loopw [18] (fun s wr => ∃ (k : Nat) (ys : List Value), k ≤ Y.length ∧ s = .int .i64 k ∧ Sep w.heap.size w wr [.own (.slice A6 Y.length c6) 46 2 Y.length (scs Y), .own (.slice A5 X.length c5) 46 2 X.length (scs X), .own (.slice A4 Y.length c4) 46 2 Y.length (scs Y), .own (.slice A3 X.length c3) 46 2 X.length (scs X), .own (.slice A2 Y.length c2) 46 2 Y.length ys, .own (.slice A1 X.length c1) 46 2 X.length zs]) (fun s _ => Y.length - (intOf s).toNat)
      case atStart => exact ⟨0, _, Nat.zero_le _, rfl, HSi⟩
      case round =>
        obtain ⟨j, zs2, hj, rfl, HSj⟩ := hrel
        by_cases hjt : j < Y.length
        · have hjt' : (j : Int) < (Y.length : Int) := by omega
          obtain ⟨g, rfl⟩ := Ow.addr (HSj.own 4 rfl) (by omega)
          go_wp2_with (first | refine wl_stg1 HSj 4 rfl rfl 3 _ _ rfl (j * 2 + 1) (y := .int .i64 (-4)) rfl (by kernel_rfl) (by omega) (by omega) rfl rfl (by simp [Value.oneCell']) ?_)
          intro w9 HS9
          clear HSj
          go_wp2
          go_roundw
          case rel => exact ⟨j + 1, _, by omega, by go_num, HS9⟩
          case measure => simp [intOf]; omega
        · have hjt' : ¬ (j : Int) < (Y.length : Int) := by omega
          go_wp2_with fail
          (with_reducible refine Calls.mono (SX.out _ _ _ (HSj.own 3 rfl).rd (HSj.own 1 rfl).rd) ?_)
          rintro e w10 ⟨rfl, b10⟩
          have HSk := HSj.keep b10
          clear HSj
          go_wp2_with fail
          (with_reducible refine Calls.mono (SY.out _ _ _ (HSk.own 2 rfl).rd (HSk.own 0 rfl).rd) ?_)
          rintro e w11 ⟨rfl, b11⟩
          have HSl := HSk.keep b11
          clear HSk
          go_wp2_with (first | (go_at_call 29; refine (names_a _).mono ?_; rintro e w12 ⟨rfl, rfl⟩))
          go_ret
          exact ⟨rfl, HSl.hb⟩
theorem nodeSpans_holds : Rows.NodeSpansSaid := nodeSpans.row_of_walk fun H enc W base v0 v1 d0 d1 p0 p1 h0 k0 h1 k1 _ => by
  obtain ⟨i, rfl, _, _, _⟩ := Go.ChangeShapes.open_int Try.underlying3 k0 h0
  obtain ⟨n, rfl, _, _, _⟩ := Go.ChangeShapes.open_int Try.underlying3 k1 h1
  obtain ⟨X, E, hX, hl⟩ := both_spans i n
  obtain ⟨Y, F, hY, hm⟩ := both_steps i n
  exact nodeSpans_all i n X Y E F W hX hY hl hm
#print axioms nodeSpans_holds
end Go.Proofs.Ytcjnheabkdalbaa
