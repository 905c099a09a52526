/- Proved here: any span is parted into the document's perfect subtrees (node.Parts). CONDITION (the card): the table math/bits.deBruijn64tab lies as the program's text says. -/
import Derived.Test.YtcjnheabkdalbaaDoorNs
import Derived.Test.YtcjnheabkdalbaaDoorFNodeParts
namespace Go.Proofs.YtcjnheabkdalbaaDoor
open Go.RowKit Cop
set_option linter.unusedVariables false
set_option linter.unusedSimpArgs false
theorem names_a (w : World) : Calls Tryd.prog 8 #[] w fun e w' => e = .returned (.bool true) ∧ w' = w := by
  go_enter Tryd.func8, Tryd.ntmps8
  go_wp2
  go_ret
  exact ⟨rfl, rfl⟩
set_option maxRecDepth 100000 in
set_option maxHeartbeats 4000000 in
theorem same_sp (l : List (Nat × Nat)) (va vb : Value) (w : World) (hll : l.length ≤ 100) (ha : Rd w va l.length 2 (scs l)) (hb : Rd w vb l.length 2 (scs l)) : Gives 7 #[va, vb] w (.bool true) := by
  have HS0 := ((Sep.start w).arg0 ha).arg0 hb
  obtain ⟨A, ca, rfl, _, _⟩ := ha.shape
  obtain ⟨B, cb, rfl, _, _⟩ := hb.shape
  clear ha hb
  go_enter Tryd.func7, Tryd.ntmps7
  go_wp2
  go_loopw [5] (fun s5 wr => ∃ k : Nat, k ≤ l.length ∧ s5 = .int .i64 k ∧ Sep w.heap.size w wr [.rd (.slice B l.length cb) l.length 2 (scs l), .rd (.slice A l.length ca) l.length 2 (scs l)]) (fun s5 _ => l.length - (intOf s5).toNat)
  case atStart => exact ⟨0, by omega, rfl, HS0⟩
  case round =>
    clear HS0
    obtain ⟨k, hk, rfl, HSi⟩ := hrel
    by_cases hlt : k < l.length
    · have hlt' : (k : Int) < (l.length : Int) := by omega
      obtain ⟨x, y, hxy⟩ : ∃ x y, l.getD k (0, 0) = (x, y) := ⟨_, _, rfl⟩
      obtain ⟨b1, o1, rfl⟩ := rd_some (HSi.rd 1 rfl) (by omega)
      obtain ⟨b2, o2, rfl⟩ := rd_some (HSi.rd 0 rfl) (by omega)
      have HXY := Lib.hid hxy
      have HLT := Lib.hid hlt
      clear hxy
      go_wp2
      refine Cop.region_ord (fun w' => Sep w.heap.size w w' [.rd (.slice (some ⟨b2, o2, none⟩) l.length cb) l.length 2 (scs l), .rd (.slice (some ⟨b1, o1, none⟩) l.length ca) l.length 2 (scs l)]) 8 (.take 0 (.take 1 (.take 2 (.take 3 (.take 4 (.take 5 (.take 6 (.take 7 (.take 8 Cop.Ord.fin))))))))) (by kernel_rfl) (by kernel_rfl) (fun _ _ d _ _ h => by cases d <;> exact h) ?_
      intro wa hda
      replace HSi := HSi.keep hda
      (repeat (first | (refine Cop.og_skip rfl rfl HSi _ (by (simp only [Act.put, List.setIfInBounds_toArray, List.set_cons_succ, List.set_cons_zero]; rfl)) ?_) | (refine Cop.og_ld rfl rfl HSi 32 _ rfl (.pointer (some ⟨b1, o1 + k * 2, none⟩)) rfl (.agg #[.int .i64 (x : Int), .int .i64 (y : Int)]) (fun w9 h9 => load_sp (h9.rd 1 rfl) rfl k HLT.out (x, y) HXY.out) _ (by (simp only [Act.put, List.setIfInBounds_toArray, List.set_cons_succ, List.set_cons_zero]; rfl)) ?_) | (refine Cop.og_ld rfl rfl HSi 32 _ rfl (.pointer (some ⟨b2, o2 + k * 2, none⟩)) rfl (.agg #[.int .i64 (x : Int), .int .i64 (y : Int)]) (fun w9 h9 => load_sp (h9.rd 0 rfl) rfl k HLT.out (x, y) HXY.out) _ (by (simp only [Act.put, List.setIfInBounds_toArray, List.set_cons_succ, List.set_cons_zero]; rfl)) ?_) | (refine Cop.og_take rfl rfl HSi ?_; apply Exists.intro; refine ⟨fun w9 h9 => ?_, _, by (simp only [Act.put, List.setIfInBounds_toArray, List.set_cons_succ, List.set_cons_zero]; rfl), ?_⟩; (go_simp; with_reducible rfl))))
      refine og_fin ?_
      go_wp2
      go_roundw
      case rel => exact ⟨k + 1, by omega, by go_num, HSi⟩
      case measure => simp [intOf]; omega
    · have hlt' : ¬ (k : Int) < (l.length : Int) := by omega
      go_wp2
      go_ret
      exact ⟨rfl, HSi.hb⟩
section
variable {P : Program} {w0 w : World} {B : Nat} {R : List Pc} {ops : Array Oper} {rest : List Oper} {o : Oper} {a : Act} {Q : Exit → Act → World → Prop}
/-- A cell of a slice of the call's own is stored. -/
theorem wl_stg1 (HS : Sep B w0 w R) (i : Nat) {g n c : Nat} {e : TypeId} {size : Nat} {xs : List Value} (hi : R[i]? = some (.own (.slice (some ⟨g, 0, none⟩) n c) e size n xs)) (hgd : o.guard = none) (ty : TypeId) (ad x : Operand) (hop : o.op = .store ty ad x) (off : Nat) {y : Value} (hyc : y.cells = #[y]) (hs1 : (P.info? ty).map (·.size) = some 1) (hoff : off + 1 ≤ n * size) (h0 : 0 < n) (had : a.eval ad = .pointer (some ⟨g, off, none⟩)) (hx : a.eval x = y)
    (h1 : (#[y] : Array Value).all (·.oneCell') = true) (h : ∀ w1, Sep B w0 w1 (R.set i (.own (.slice (some ⟨g, 0, none⟩) n c) e size n (xs.take off ++ [y] ++ xs.drop (off + 1)))) → wpList P ops Q rest (a.put o.dst undef) w1) : wpList P ops Q (o :: rest) a w :=
  wpList_plain hgd fun _ hK => ow_stg1 HS i hi ty ad x hop off hyc hs1 hoff h0 had hx h1 fun w1 h2 => hK _ _ (h w1 h2)
end
theorem none_of {f : FuncId} {args : Array Value} {w : World} {E : Int} (h : Gives f args w (.tuple #[.slice none 0 0, .int .i64 E])) :
    Calls Tryd.prog f args w fun e w' => ∃ v, e = .returned (.tuple #[v, .int .i64 E]) ∧ Below w.heap.size w w' ∧ Ow w' w.heap.size 32 2 v ([] : List (Nat × Nat)).length (scs []) :=
  h.mono fun e w' ⟨h1, h2⟩ => ⟨_, h1, h2, Ow.nil _ _ _ _ _⟩
theorem both_parts (b e : Int) : ∃ X E, (∀ w, TabZ w → Calls Tryd.prog 5 #[.agg #[.int .i64 b, .int .i64 e]] w fun r w' => ∃ v, r = .returned (.tuple #[v, .int .i64 E]) ∧ Below w.heap.size w w' ∧ Ow w' w.heap.size 32 2 v X.length (scs X)) ∧
    (∀ w, Calls Tryd.prog 6 #[.agg #[.int .i64 b, .int .i64 e]] w fun r w' => ∃ v, r = .returned (.tuple #[v, .int .i64 E]) ∧ Below w.heap.size w w' ∧ Ow w' w.heap.size 32 2 v X.length (scs X)) ∧ X.length ≤ 100 := by
  by_cases h : 0 ≤ b ∧ b ≤ e ∧ e ≤ 281474976710656
  · obtain ⟨b, rfl⟩ : ∃ k : Nat, b = k := ⟨b.toNat, by omega⟩
    obtain ⟨e, rfl⟩ : ∃ k : Nat, e = k := ⟨e.toNat, by omega⟩
    exact ⟨partsP b e, 0, fun w hT => parts_ok b e w hT (by omega) (by omega), fun w => rparts_ok b e w (by omega) (by omega), Nat.le_trans (bes_all (by omega) (by omega)).2 (by decide)⟩
  · exact ⟨[], 40, fun w _ => none_of (parts_bad b e w (by omega)), fun w => none_of (rparts_bad b e w (by omega)), by simp⟩
set_option maxRecDepth 100000 in
set_option maxHeartbeats 8000000 in
theorem nodeParts_all (b e : Int) (X : List (Nat × Nat)) (E : Int) (w : World) (hT : TabZ w) (hX : X.length ≤ 100) (BX : ∀ w, TabZ w → Calls Tryd.prog 5 #[.agg #[.int .i64 b, .int .i64 e]] w fun r w' => ∃ v, r = .returned (.tuple #[v, .int .i64 E]) ∧ Below w.heap.size w w' ∧ Ow w' w.heap.size 32 2 v X.length (scs X))
    (BY : ∀ w, Calls Tryd.prog 6 #[.agg #[.int .i64 b, .int .i64 e]] w fun r w' => ∃ v, r = .returned (.tuple #[v, .int .i64 E]) ∧ Below w.heap.size w w' ∧ Ow w' w.heap.size 32 2 v X.length (scs X)) : Gives 3 #[.agg #[.int .i64 b, .int .i64 e]] w (.bool true) := by
  have CX := Lib.hid (fun w' (hb : Below w.heap.size w w') => BX w' (hT.below hb))
  have DX := Lib.hid BY
  clear BX BY hT
  have SX := Lib.hid (fun va vb w h1 h2 => same_sp X va vb w hX h1 h2)
  have HS0 := Sep.start w
  go_enter Tryd.func3, Tryd.ntmps3
  go_wp2_with (first | refine wl_bx HS0 rfl 23 _ rfl #[.int .i64 b, .int .i64 e] rfl ?_)
  intro g1 w1 HS1
  clear HS0
  go_wp2_with (first | refine wl_ld HS1 0 rfl rfl 23 _ rfl rfl Tryd.underlying23 rfl (by kernel_rfl) ?_)
  (with_reducible refine Calls.mono (CX.out _ HS1.hb) ?_)
  rintro r w2 ⟨v2, rfl, b1, o1⟩
  have HS2 := HS1.made b1 o1
  obtain ⟨A2, c2, rfl, _⟩ := (HS2.own 0 rfl).sl
  clear HS1 b1 o1
  go_wp2_with (first | refine wl_ld HS2 1 rfl rfl 23 _ rfl rfl Tryd.underlying23 rfl (by kernel_rfl) ?_)
  (with_reducible refine Calls.mono (CX.out _ HS2.hb) ?_)
  rintro r w3 ⟨v3, rfl, b1, o1⟩
  have HS3 := HS2.made b1 o1
  obtain ⟨A3, c3, rfl, _⟩ := (HS3.own 0 rfl).sl
  clear HS2 b1 o1
  go_wp2_with (first | refine wl_ld HS3 2 rfl rfl 23 _ rfl rfl Tryd.underlying23 rfl (by kernel_rfl) ?_)
  (with_reducible refine Calls.mono (DX.out _) ?_)
  rintro r w4 ⟨v4, rfl, b1, o1⟩
  have HS4 := HS3.made b1 o1
  obtain ⟨A4, c4, rfl, _⟩ := (HS4.own 0 rfl).sl
  clear HS3 b1 o1
  go_wp2_with fail
  (with_reducible refine Calls.mono (SX.out _ _ _ (HS4.own 2 rfl).rd (HS4.own 0 rfl).rd) ?_)
  rintro e w7 ⟨rfl, b7⟩
  have HS7 := HS4.keep b7
  clear HS4
  go_wp2
  go_loopw [9] (fun s wr => ∃ (k : Nat) (zs : List Value), k ≤ X.length ∧ s = .int .i64 k ∧ Sep w.heap.size w wr [.own (.slice A4 X.length c4) 32 2 X.length (scs X), .own (.slice A3 X.length c3) 32 2 X.length (scs X), .own (.slice A2 X.length c2) 32 2 X.length zs, .row g1 #[.int .i64 b, .int .i64 e] 23]) (fun s _ => X.length - (intOf s).toNat)
  case atStart => exact ⟨0, _, Nat.zero_le _, rfl, HS7⟩
  case round =>
    clear HS7
    obtain ⟨k, zs, hk, rfl, HSi⟩ := hrel
    by_cases hlt : k < X.length
    · have hlt' : (k : Int) < (X.length : Int) := by omega
      obtain ⟨g, rfl⟩ := Ow.addr (HSi.own 2 rfl) (by omega)
      go_wp2_with (first | refine wl_stg1 HSi 2 rfl rfl 3 _ _ rfl (k * 2) (y := .int .i64 (-4)) rfl (by kernel_rfl) (by omega) (by omega) rfl rfl (by simp [Value.oneCell']) ?_)
      intro w9 HS9
      clear HSi
      go_wp2
      go_roundw
      case rel => exact ⟨k + 1, _, by omega, by go_num, HS9⟩
      case measure => simp [intOf]; omega
    · have hlt' : ¬ (k : Int) < (X.length : Int) := by omega
      go_wp2_with fail
      (with_reducible refine Calls.mono (SX.out _ _ _ (HSi.own 1 rfl).rd (HSi.own 0 rfl).rd) ?_)
      rintro e w10 ⟨rfl, b10⟩
      have HSk := HSi.keep b10
      clear HSi
      go_wp2_with (first | (go_at_call 8; refine (names_a _).mono ?_; rintro e w12 ⟨rfl, rfl⟩))
      go_ret
      exact ⟨rfl, HSk.hb⟩
/-- A struct of two numbers that came in. -/
theorem open_two {H : Type} {enc : TypeId × Value → H} {P : Program} {w : World} {base : Nat} {spare : Nat → Bool} {held : Bool} {t t0 : TypeId} {v : Value} {d : DataW H} {ps : List MemPlace} {r : Reach} {base' : Nat} {k : IntKind} {f0 f1 : Field}
    (ht : P.underlying t = some (.struct #[f0, f1])) (e0 : f0.type = t0) (e1 : f1.type = t0) (o0 : f0.offset = 0) (o1 : f1.offset = 1) (hi : P.underlying t0 = some (.int k)) (hc0 : P.cellsOf t0 = 1) (hc : P.cellsOf t = 2)
    (h : DataW.Trod enc P w base spare held t v d ps) (hok : Value.okWide P w r base' t v) : ∃ m n : Int, v = .agg #[.int k m, .int k n] := by
  obtain ⟨cs, rfl, hsz⟩ := Go.WideShapes.okWide_struct ht hok
  obtain ⟨fuel, hf⟩ := h
  obtain ⟨y0, y1, n, _, hl, h0, h1⟩ := Go.ChangeShapes.trod_struct2 ht hf
  obtain ⟨l⟩ := cs
  rw [hc] at hsz
  match l, hsz with
  | [a, b], _ =>
    rw [e0, o0, hc0] at h0
    rw [e1, o1, hc0] at h1
    obtain ⟨m, hm, _, w0⟩ := DataW.trod_int hi h0
    obtain ⟨n, hn, _, w1⟩ := DataW.trod_int hi h1
    simp [Value.cells] at hm hn
    exact ⟨m, n, by simp [hm, hn]⟩
theorem nodeParts_holds : Rows.NodePartsCardSaid := nodeParts.card_of_walk fun H enc W base v0 d0 p0 h0 k0 _ hL => by
  obtain ⟨b, e, rfl⟩ := open_two Tryd.underlying23 rfl rfl rfl rfl Tryd.underlying3 (by kernel_rfl) (by kernel_rfl) h0 k0
  obtain ⟨X, E, h1, h2, h3⟩ := both_parts b e
  exact nodeParts_all b e X E W (tabz_of hL) h3 h1 h2
#print axioms nodeParts_holds
end Go.Proofs.YtcjnheabkdalbaaDoor
