/- Proved here: a span's parts stand one beside the other, few, their levels rising and then falling (node.Parts, node.Leaves). CONDITION (the card): the table math/bits.deBruijn64tab lies as the program's text says. -/
import Derived.Test.YtcjnheabkdalbaaDoorNu
import Derived.Test.YtcjnheabkdalbaaDoorFNodeBeside
namespace Go.Proofs.YtcjnheabkdalbaaDoor
open Go.RowKit Cop
set_option linter.unusedVariables false
set_option linter.unusedSimpArgs false
/-- A struct of two numbers that came in. -/
theorem open_two {H : Type} {enc : TypeId × Value → H} {P : Program} {w : World} {base : Nat} {spare : Nat → Bool} {held : Bool} {t t0 : TypeId} {v : Value} {d : DataW H} {ps : List MemPlace} {r : Reach} {base' : Nat} {k : IntKind} {f0 f1 : Field}
    (ht : P.underlying t = some (.struct #[f0, f1])) (e0 : f0.type = t0) (e1 : f1.type = t0) (o0 : f0.offset = 0) (o1 : f1.offset = 1) (hi : P.underlying t0 = some (.int k)) (hc0 : P.cellsOf t0 = 1) (hc : P.cellsOf t = 2)
    (h : DataW.Trod enc P w base spare held t v d ps) (hok : Value.okWide P w r base' t v) : ∃ m n : Int, v = .agg #[.int k m, .int k n] := by
  obtain ⟨cs, rfl, hsz⟩ := Go.WideShapes.okWide_struct ht hok
  obtain ⟨fuel, hf⟩ := h
  obtain ⟨y0, y1, n, _, hl, h0, h1⟩ := Go.ChangeShapes.trod_struct2 ht hf
  obtain ⟨l⟩ := cs
  rw [hc] at hsz
  match l, hsz with
  | [a, b], _ =>
    rw [e0, o0, hc0] at h0
    rw [e1, o1, hc0] at h1
    obtain ⟨m, hm, _, w0⟩ := DataW.trod_int hi h0
    obtain ⟨n, hn, _, w1⟩ := DataW.trod_int hi h1
    simp [Value.cells] at hm hn
    exact ⟨m, n, by simp [hm, hn]⟩
def nfall (f : Bool) (p : Option Nat) (x : Nat) : Bool :=
  match p with
  | none => f
  | some q => f || decide (x ≤ q)
theorem bes_cons {e a : Nat} {f : Bool} {p : Option Nat} {x : Nat × Nat} {r : List (Nat × Nat)} (h : Bes e a f p (x :: r)) : (x.1 ≤ 48 ∧ x.2 * 2 ^ x.1 = a ∧ a + 2 ^ x.1 ≤ e ∧ (∀ q, p = some q → (q < x.1 → f = false) ∧ (x.1 = q → f = false ∧ x.2 % 2 = 0))) ∧
      Bes e (a + 2 ^ x.1) (nfall f p x.1) (some x.1) r := ⟨h.1, by cases p <;> exact h.2⟩
set_option maxRecDepth 100000 in
set_option maxHeartbeats 8000000 in
theorem nodeBeside_ok (b e : Nat) (w : World) (hT : TabZ w) (hbe : b ≤ e) (he : e ≤ 281474976710656) : Gives 4 #[.agg #[.int .i64 b, .int .i64 e]] w (.bool true) := by
  have CX := Lib.hid (fun w' (hb : Below w.heap.size w w') => parts_ok b e w' (hT.below hb) hbe he)
  obtain ⟨hbes, hlen⟩ := bes_all hbe (show e ≤ 2 ^ 48 from he)
  have CLV := Lib.hid (fun (l i : Nat) (w : World) (h : l ≤ 48) (h2 : i * 2 ^ l + 2 ^ l ≤ 281474976710656) => leaves_ok l i w (vok_of h h2))
  obtain ⟨L, hL⟩ : ∃ L, partsP b e = L := ⟨_, rfl⟩
  rw [hL] at CX hbes hlen
  have HB := Lib.hid hbes
  have heb : (e : Int) ≤ 281474976710656 := by omega
  have HS0 := Sep.start w
  clear hL hbes hT
  go_enter Tryd.func4, Tryd.ntmps4
  go_wp2_with (first | refine wl_bx HS0 rfl 23 _ rfl #[.int .i64 b, .int .i64 e] rfl ?_)
  intro g1 w1 HS1
  clear HS0
  go_wp2_with (first | refine wl_ld HS1 0 rfl rfl 23 _ rfl rfl Tryd.underlying23 rfl (by kernel_rfl) ?_)
  (with_reducible refine Calls.mono (CX.out _ HS1.hb) ?_)
  rintro r w2 ⟨v2, rfl, b1, o1⟩
  have HS2 := (HS1.made b1 o1).front 1
  obtain ⟨A, c, rfl, _⟩ := (HS2.own 1 rfl).sl
  clear HS1 b1 o1
  have q0 := (row_cell (HS2.row 0 rfl) 0).trans (show (#[Value.int .i64 (b : Int), .int .i64 (e : Int)] : Array Value)[0]? = some (.int .i64 (b : Int)) from rfl)
  go_wp2
  clear q0
  go_loopw [5, 6, 7] (fun s5 s6 s7 wr => ∃ (k a : Nat) (f : Bool) (p : Option Nat), k ≤ L.length ∧ s5 = .int .i64 a ∧ s6 = .bool f ∧ s7 = .int .i64 k ∧ Hid (Bes e a f p (L.drop k)) ∧ (k = 0 → p = none) ∧ (0 < k → p = some (L.getD (k - 1) (0, 0)).1) ∧ Sep w.heap.size w wr [.row g1 #[.int .i64 (b : Int), .int .i64 (e : Int)] 23, .own (.slice A L.length c) 32 2 L.length (scs L)]) (fun _ _ s7 _ => L.length - (intOf s7).toNat)
  case atStart => exact ⟨0, b, false, none, Nat.zero_le _, rfl, rfl, rfl, Lib.hid (by rw [List.drop_zero]; exact HB.out), fun _ => rfl, fun h => absurd h (by omega), HS2⟩
  case round =>
    clear HS2
    obtain ⟨k, a, f, p, hk, rfl, rfl, rfl, HV, hp0, hp1, HSi⟩ := hrel
    have r1 := (row_cell (HSi.row 0 rfl) 1).trans (show (#[Value.int .i64 (b : Int), .int .i64 (e : Int)] : Array Value)[1]? = some (.int .i64 (e : Int)) from rfl)
    by_cases hlt : k < L.length
    · obtain ⟨x, y, hxy⟩ : ∃ x y, L.getD k (0, 0) = (x, y) := ⟨_, _, rfl⟩
      have hv := HV.out
      rw [drop_at hlt hxy] at hv
      obtain ⟨⟨v1, v2, v3, v4⟩, v5⟩ := bes_cons hv
      simp only at v1 v2 v3 v4 v5
      obtain ⟨g, rfl⟩ := Ow.addr (HSi.own 1 rfl) (by omega)
      have HLD := Lib.hid (fun W (h : Rd W (.slice (some ⟨g, 0, none⟩) L.length c) L.length 2 (scs L)) => load_sp h rfl k hlt (x, y) hxy)
      rw [Nat.zero_add] at HLD
      have HXY := Lib.hid (fun W (h : Sep w.heap.size w W [.row g1 #[.int .i64 (b : Int), .int .i64 (e : Int)] 23, .own (.slice (some ⟨g, 0, none⟩) L.length c) 32 2 L.length (scs L)]) => cells_sp h 1 rfl k hlt x y hxy)
      have hcl := fun W => CLV.out x y W v1 (by rw [v2]; omega)
      rw [v2] at hcl
      obtain ⟨z, hz⟩ : ∃ z, a + 2 ^ x = z := ⟨_, rfl⟩
      rw [hz] at hcl v3 v5
      have CLX := Lib.hid hcl
      have HV5 := Lib.hid v5
      have HXK := Lib.hid (show (L.getD k (0, 0)).1 = x by rw [hxy])
      have hlt' : (k : Int) < (L.length : Int) := by omega
      have hzb : (z : Int) ≤ (e : Int) := by omega
      have hkb : (k : Int) ≤ 96 := by omega
      have HP0 := Lib.hid hp0
      have HP1 := Lib.hid hp1
      have H4 := Lib.hid v4
      clear hv HV hxy v2 hcl hz v5 hp0 hp1 v4
      go_wp2_with (first | refine wl_ldx rfl 32 _ rfl (.pointer (some ⟨g, k * 2, none⟩)) rfl (.agg #[.int .i64 (x : Int), .int .i64 (y : Int)]) (HLD.out _ (HSi.own 1 rfl).rd) ?_)
      (with_reducible refine Calls.mono (CLX.out _) ?_)
      rintro r w3 ⟨rfl, b3⟩
      have HS3 := HSi.keep b3
      clear HSi r1
      go_wp2_with (first | refine wl_al HS3 rfl 23 rfl #[.int .i64 0, .int .i64 0] (by kernel_rfl) ?_)
      intro g4 w4 HS4
      go_wp2_with (first | refine wl_st HS4 0 rfl rfl 23 _ _ rfl rfl (cs := #[.int .i64 (a : Int), .int .i64 (z : Int)]) rfl (by kernel_rfl) rfl (spv_one (a, z)) ?_)
      intro w5 HS5
      have r1 := (row_cell (HS5.row 1 rfl) 1).trans (show (#[Value.int .i64 (b : Int), .int .i64 (e : Int)] : Array Value)[1]? = some (.int .i64 (e : Int)) from rfl)
      have r2 := (row_cell (HS5.row 0 rfl) 0).trans (show (#[Value.int .i64 (a : Int), .int .i64 (z : Int)] : Array Value)[0]? = some (.int .i64 (a : Int)) from rfl)
      have r3 := (row_cell (HS5.row 0 rfl) 1).trans (show (#[Value.int .i64 (a : Int), .int .i64 (z : Int)] : Array Value)[1]? = some (.int .i64 (z : Int)) from rfl)
      have HSp := HS5.tail
      clear HS3 HS4 HS5
      cases k with
      | zero =>
        obtain rfl := HP0.out rfl
        have HXZ := Lib.hid HXK.out
        clear HP0 HP1 H4
        cases f with
        | false =>
          skip
          go_wp2
          refine Cop.region_ord (fun w' => Sep w.heap.size w w' [.row g1 #[.int .i64 (b : Int), .int .i64 (e : Int)] 23, .own (.slice (some ⟨g, 0, none⟩) L.length c) 32 2 L.length (scs L)]) 18 (.take 0 (.take 1 (.take 2 (.take 3 (.take 4 (.take 5 (.take 6 (.take 7 (.take 8 (.take 9 (.take 10 (.take 11 (.take 12 (.take 13 (.take 14 (.take 15 (.take 16 (.take 17 (.take 18 Cop.Ord.fin))))))))))))))))))) (by kernel_rfl) (by kernel_rfl) (fun _ _ d _ _ h => by cases d <;> exact h) ?_
          intro w5 hd5
          have HSa := HSp.keep hd5
          clear HSp
          (repeat (first | (refine Cop.og_skip rfl rfl HSa _ (by (simp only [Act.put, List.setIfInBounds_toArray, List.set_cons_succ, List.set_cons_zero]; rfl)) ?_) | (refine Cop.og_take rfl rfl HSa ?_; apply Exists.intro; refine ⟨fun w9 h9 => ?_, _, by (simp only [Act.put, List.setIfInBounds_toArray, List.set_cons_succ, List.set_cons_zero]; rfl), ?_⟩; (skip; go_simp; with_reducible rfl))))
          refine og_fin ?_
          go_wp2
          refine Cop.region_ord (fun w' => Sep w.heap.size w w' [.row g1 #[.int .i64 (b : Int), .int .i64 (e : Int)] 23, .own (.slice (some ⟨g, 0, none⟩) L.length c) 32 2 L.length (scs L)]) 27 (.take 0 (.take 1 (.take 2 (.take 3 (.take 4 (.take 5 (.take 6 (.take 7 (.take 8 (.take 9 (.take 10 (.take 11 (.take 12 (.take 13 (.take 14 (.take 15 (.take 16 (.take 17 (.take 18 (.take 19 (.take 20 (.take 21 (.take 22 (.take 23 (.take 24 (.take 25 (.take 26 (.take 27 Cop.Ord.fin)))))))))))))))))))))))))))) (by kernel_rfl) (by kernel_rfl) (fun _ _ d _ _ h => by cases d <;> exact h) ?_
          intro w6 hd6
          have HSb := HSa.keep hd6
          clear HSa
          (repeat (first | (refine Cop.og_skip rfl rfl HSb _ (by (simp only [Act.put, List.setIfInBounds_toArray, List.set_cons_succ, List.set_cons_zero]; rfl)) ?_) | (refine Cop.og_take rfl rfl HSb ?_; apply Exists.intro; refine ⟨fun w9 h9 => ?_, _, by (simp only [Act.put, List.setIfInBounds_toArray, List.set_cons_succ, List.set_cons_zero]; rfl), ?_⟩; (skip; go_simp; with_reducible rfl))))
          refine og_fin ?_
          go_wp2
          refine Cop.region_ord (fun w' => Sep w.heap.size w w' [.row g1 #[.int .i64 (b : Int), .int .i64 (e : Int)] 23, .own (.slice (some ⟨g, 0, none⟩) L.length c) 32 2 L.length (scs L)]) 19 (.take 0 (.take 1 (.take 2 (.take 3 (.take 4 (.take 5 (.take 6 (.take 7 (.take 8 (.take 9 (.take 10 (.take 11 (.take 12 (.take 13 (.take 14 (.take 15 (.take 16 (.take 17 (.take 18 (.take 19 Cop.Ord.fin)))))))))))))))))))) (by kernel_rfl) (by kernel_rfl) (fun _ _ d _ _ h => by cases d <;> exact h) ?_
          intro w7 hd7
          have HSc := HSb.keep hd7
          clear HSb
          (repeat (first | (refine Cop.og_skip rfl rfl HSc _ (by (simp only [Act.put, List.setIfInBounds_toArray, List.set_cons_succ, List.set_cons_zero]; rfl)) ?_) | (refine Cop.og_take rfl rfl HSc ?_; apply Exists.intro; refine ⟨fun w9 h9 => ?_, _, by (simp only [Act.put, List.setIfInBounds_toArray, List.set_cons_succ, List.set_cons_zero]; rfl), ?_⟩; (skip; go_simp; with_reducible rfl))))
          refine og_fin ?_
          go_wp2
          go_roundw
          case rel => exact ⟨1, z, false, some x, by omega, rfl, rfl, rfl, HV5, fun h => absurd h (by omega), fun _ => by rw [← HXZ.out], HSc⟩
          case measure => simp [intOf]; omega
        | true =>
          skip
          go_wp2
          refine Cop.region_ord (fun w' => Sep w.heap.size w w' [.row g1 #[.int .i64 (b : Int), .int .i64 (e : Int)] 23, .own (.slice (some ⟨g, 0, none⟩) L.length c) 32 2 L.length (scs L)]) 18 (.take 0 (.take 1 (.take 2 (.take 3 (.take 4 (.take 5 (.take 6 (.take 7 (.take 8 (.take 9 (.take 10 (.take 11 (.take 12 (.take 13 (.take 14 (.take 15 (.take 16 (.take 17 (.take 18 Cop.Ord.fin))))))))))))))))))) (by kernel_rfl) (by kernel_rfl) (fun _ _ d _ _ h => by cases d <;> exact h) ?_
          intro w5 hd5
          have HSa := HSp.keep hd5
          clear HSp
          (repeat (first | (refine Cop.og_skip rfl rfl HSa _ (by (simp only [Act.put, List.setIfInBounds_toArray, List.set_cons_succ, List.set_cons_zero]; rfl)) ?_) | (refine Cop.og_take rfl rfl HSa ?_; apply Exists.intro; refine ⟨fun w9 h9 => ?_, _, by (simp only [Act.put, List.setIfInBounds_toArray, List.set_cons_succ, List.set_cons_zero]; rfl), ?_⟩; (skip; go_simp; with_reducible rfl))))
          refine og_fin ?_
          go_wp2
          refine Cop.region_ord (fun w' => Sep w.heap.size w w' [.row g1 #[.int .i64 (b : Int), .int .i64 (e : Int)] 23, .own (.slice (some ⟨g, 0, none⟩) L.length c) 32 2 L.length (scs L)]) 27 (.take 0 (.take 1 (.take 2 (.take 3 (.take 4 (.take 5 (.take 6 (.take 7 (.take 8 (.take 9 (.take 10 (.take 11 (.take 12 (.take 13 (.take 14 (.take 15 (.take 16 (.take 17 (.take 18 (.take 19 (.take 20 (.take 21 (.take 22 (.take 23 (.take 24 (.take 25 (.take 26 (.take 27 Cop.Ord.fin)))))))))))))))))))))))))))) (by kernel_rfl) (by kernel_rfl) (fun _ _ d _ _ h => by cases d <;> exact h) ?_
          intro w6 hd6
          have HSb := HSa.keep hd6
          clear HSa
          (repeat (first | (refine Cop.og_skip rfl rfl HSb _ (by (simp only [Act.put, List.setIfInBounds_toArray, List.set_cons_succ, List.set_cons_zero]; rfl)) ?_) | (refine Cop.og_take rfl rfl HSb ?_; apply Exists.intro; refine ⟨fun w9 h9 => ?_, _, by (simp only [Act.put, List.setIfInBounds_toArray, List.set_cons_succ, List.set_cons_zero]; rfl), ?_⟩; (skip; go_simp; with_reducible rfl))))
          refine og_fin ?_
          go_wp2
          refine Cop.region_ord (fun w' => Sep w.heap.size w w' [.row g1 #[.int .i64 (b : Int), .int .i64 (e : Int)] 23, .own (.slice (some ⟨g, 0, none⟩) L.length c) 32 2 L.length (scs L)]) 19 (.take 0 (.take 1 (.take 2 (.take 3 (.take 4 (.take 5 (.take 6 (.take 7 (.take 8 (.take 9 (.take 10 (.take 11 (.take 12 (.take 13 (.take 14 (.take 15 (.take 16 (.take 17 (.take 18 (.take 19 Cop.Ord.fin)))))))))))))))))))) (by kernel_rfl) (by kernel_rfl) (fun _ _ d _ _ h => by cases d <;> exact h) ?_
          intro w7 hd7
          have HSc := HSb.keep hd7
          clear HSb
          (repeat (first | (refine Cop.og_skip rfl rfl HSc _ (by (simp only [Act.put, List.setIfInBounds_toArray, List.set_cons_succ, List.set_cons_zero]; rfl)) ?_) | (refine Cop.og_take rfl rfl HSc ?_; apply Exists.intro; refine ⟨fun w9 h9 => ?_, _, by (simp only [Act.put, List.setIfInBounds_toArray, List.set_cons_succ, List.set_cons_zero]; rfl), ?_⟩; (skip; go_simp; with_reducible rfl))))
          refine og_fin ?_
          go_wp2
          go_roundw
          case rel => exact ⟨1, z, true, some x, by omega, rfl, rfl, rfl, HV5, fun h => absurd h (by omega), fun _ => by rw [← HXZ.out], HSc⟩
          case measure => simp [intOf]; omega
      | succ m =>
        obtain ⟨q, y2, hqy⟩ : ∃ q y2, L.getD m (0, 0) = (q, y2) := ⟨_, _, rfl⟩
        have hpq := HP1.out (by omega)
        rw [Nat.add_sub_cancel, hqy] at hpq
        simp only at hpq
        subst hpq
        have HXQ := Lib.hid (fun W (h : Sep w.heap.size w W [.row g1 #[.int .i64 (b : Int), .int .i64 (e : Int)] 23, .own (.slice (some ⟨g, 0, none⟩) L.length c) 32 2 L.length (scs L)]) => cells_sp h 1 rfl m (by omega) q y2 hqy)
        obtain ⟨h41, h42⟩ := H4.out q rfl
        have hmb : (m : Int) ≤ 96 := by omega
        have HXZ := Lib.hid HXK.out
        have HWM := Lib.hid (show IntKind.i64.wrap (m : Int) = (m : Int) by rw [IntKind.wrap_i64]; omega)
        have HI := Lib.hid (show (m : Int) + 1 < (L.length : Int) ∧ (m : Int) < (L.length : Int) by omega)
        clear HP0 HP1 H4 hqy
        rcases Nat.lt_trichotomy q x with hc | hc | hc
        · obtain rfl := h41 hc
          have HV6 : Hid (Bes e z false (some x) (L.drop (m + 1 + 1))) := Lib.hid (by have := HV5.out; rwa [show nfall false (some q) x = false by simp [nfall]; omega] at this)
          have D1 := Lib.hid (show decide (q < x) = true from decide_eq_true hc)
          have D2 := Lib.hid (show ((x : Int) == (q : Int)) = false by simp; omega)
          have D3 := Lib.hid (show decide (x ≤ q) = false from decide_eq_false (by omega))
          clear h41 h42 hc HV5
          skip
          go_wp2
          refine Cop.region_ord (fun w' => Sep w.heap.size w w' [.row g1 #[.int .i64 (b : Int), .int .i64 (e : Int)] 23, .own (.slice (some ⟨g, 0, none⟩) L.length c) 32 2 L.length (scs L)]) 18 (.take 0 (.take 1 (.take 2 (.take 3 (.take 4 (.take 5 (.take 6 (.take 7 (.take 8 (.take 9 (.take 10 (.take 11 (.take 12 (.take 13 (.take 14 (.take 15 (.take 16 (.take 17 (.take 18 Cop.Ord.fin))))))))))))))))))) (by kernel_rfl) (by kernel_rfl) (fun _ _ d _ _ h => by cases d <;> exact h) ?_
          intro w5 hd5
          have HSa := HSp.keep hd5
          clear HSp
          (repeat (first | (refine Cop.og_skip rfl rfl HSa _ (by (simp only [Act.put, List.setIfInBounds_toArray, List.set_cons_succ, List.set_cons_zero]; rfl)) ?_) | (refine Cop.og_take rfl rfl HSa ?_; apply Exists.intro; refine ⟨fun w9 h9 => ?_, _, by (simp only [Act.put, List.setIfInBounds_toArray, List.set_cons_succ, List.set_cons_zero]; rfl), ?_⟩; (have i4 := HWM.out; have i0 : (0 : Int) ≤ (m : Int) + 1 := Int.le_add_one (Int.natCast_nonneg m); have i1 := HI.out.1; have i2 := HI.out.2; have q1 := (HXY.out w9 h9).1; have q2 := (HXQ.out w9 h9).1; have f1 := D1.out; have f2 := D2.out; have f3 := D3.out; go_simp; with_reducible rfl))))
          refine og_fin ?_
          go_wp2
          refine Cop.region_ord (fun w' => Sep w.heap.size w w' [.row g1 #[.int .i64 (b : Int), .int .i64 (e : Int)] 23, .own (.slice (some ⟨g, 0, none⟩) L.length c) 32 2 L.length (scs L)]) 27 (.take 0 (.take 1 (.take 2 (.take 3 (.take 4 (.take 5 (.take 6 (.take 7 (.take 8 (.take 9 (.take 10 (.take 11 (.take 12 (.take 13 (.take 14 (.take 15 (.take 16 (.take 17 (.take 18 (.take 19 (.take 20 (.take 21 (.take 22 (.take 23 (.take 24 (.take 25 (.take 26 (.take 27 Cop.Ord.fin)))))))))))))))))))))))))))) (by kernel_rfl) (by kernel_rfl) (fun _ _ d _ _ h => by cases d <;> exact h) ?_
          intro w6 hd6
          have HSb := HSa.keep hd6
          clear HSa
          (repeat (first | (refine Cop.og_skip rfl rfl HSb _ (by (simp only [Act.put, List.setIfInBounds_toArray, List.set_cons_succ, List.set_cons_zero]; rfl)) ?_) | (refine Cop.og_take rfl rfl HSb ?_; apply Exists.intro; refine ⟨fun w9 h9 => ?_, _, by (simp only [Act.put, List.setIfInBounds_toArray, List.set_cons_succ, List.set_cons_zero]; rfl), ?_⟩; (have i4 := HWM.out; have i0 : (0 : Int) ≤ (m : Int) + 1 := Int.le_add_one (Int.natCast_nonneg m); have i1 := HI.out.1; have i2 := HI.out.2; have q1 := (HXY.out w9 h9).1; have q2 := (HXQ.out w9 h9).1; have f1 := D1.out; have f2 := D2.out; have f3 := D3.out; go_simp; with_reducible rfl))))
          refine og_fin ?_
          go_wp2
          refine Cop.region_ord (fun w' => Sep w.heap.size w w' [.row g1 #[.int .i64 (b : Int), .int .i64 (e : Int)] 23, .own (.slice (some ⟨g, 0, none⟩) L.length c) 32 2 L.length (scs L)]) 19 (.take 0 (.take 1 (.take 2 (.take 3 (.take 4 (.take 5 (.take 6 (.take 7 (.take 8 (.take 9 (.take 10 (.take 11 (.take 12 (.take 13 (.take 14 (.take 15 (.take 16 (.take 17 (.take 18 (.take 19 Cop.Ord.fin)))))))))))))))))))) (by kernel_rfl) (by kernel_rfl) (fun _ _ d _ _ h => by cases d <;> exact h) ?_
          intro w7 hd7
          have HSc := HSb.keep hd7
          clear HSb
          (repeat (first | (refine Cop.og_skip rfl rfl HSc _ (by (simp only [Act.put, List.setIfInBounds_toArray, List.set_cons_succ, List.set_cons_zero]; rfl)) ?_) | (refine Cop.og_take rfl rfl HSc ?_; apply Exists.intro; refine ⟨fun w9 h9 => ?_, _, by (simp only [Act.put, List.setIfInBounds_toArray, List.set_cons_succ, List.set_cons_zero]; rfl), ?_⟩; (have i4 := HWM.out; have i0 : (0 : Int) ≤ (m : Int) + 1 := Int.le_add_one (Int.natCast_nonneg m); have i1 := HI.out.1; have i2 := HI.out.2; have q1 := (HXY.out w9 h9).1; have q2 := (HXQ.out w9 h9).1; have f1 := D1.out; have f2 := D2.out; have f3 := D3.out; go_simp; with_reducible rfl))))
          refine og_fin ?_
          go_wp2
          go_roundw
          case rel => exact ⟨m + 1 + 1, z, false, some x, by omega, rfl, rfl, by go_num, HV6, fun h => absurd h (by omega), fun _ => by rw [Nat.add_sub_cancel, ← HXZ.out], HSc⟩
          case measure => simp [intOf]; omega
        · obtain ⟨rfl, hev⟩ := h42 hc.symm
          subst hc
          have HV6 : Hid (Bes e z true (some q) (L.drop (m + 1 + 1))) := Lib.hid (by have := HV5.out; rwa [show nfall false (some q) q = true by simp [nfall]] at this)
          have D1 := Lib.hid (show decide (q < q) = false from decide_eq_false (by omega))
          have D4 := Lib.hid (show ((y : Int) % 2) = 0 by omega)
          have D5 := Lib.hid (show (Int.tmod (y : Int) 2 == 1) = false by rw [Int.tmod_eq_emod_of_nonneg (by omega)]; simp; omega)
          clear h41 h42 hev HV5
          skip
          go_wp2
          refine Cop.region_ord (fun w' => Sep w.heap.size w w' [.row g1 #[.int .i64 (b : Int), .int .i64 (e : Int)] 23, .own (.slice (some ⟨g, 0, none⟩) L.length c) 32 2 L.length (scs L)]) 18 (.take 0 (.take 1 (.take 2 (.take 3 (.take 4 (.take 5 (.take 6 (.take 7 (.take 8 (.take 9 (.take 10 (.take 11 (.take 12 (.take 13 (.take 14 (.take 15 (.take 16 (.take 17 (.take 18 Cop.Ord.fin))))))))))))))))))) (by kernel_rfl) (by kernel_rfl) (fun _ _ d _ _ h => by cases d <;> exact h) ?_
          intro w5 hd5
          have HSa := HSp.keep hd5
          clear HSp
          (repeat (first | (refine Cop.og_skip rfl rfl HSa _ (by (simp only [Act.put, List.setIfInBounds_toArray, List.set_cons_succ, List.set_cons_zero]; rfl)) ?_) | (refine Cop.og_take rfl rfl HSa ?_; apply Exists.intro; refine ⟨fun w9 h9 => ?_, _, by (simp only [Act.put, List.setIfInBounds_toArray, List.set_cons_succ, List.set_cons_zero]; rfl), ?_⟩; (have i4 := HWM.out; have i0 : (0 : Int) ≤ (m : Int) + 1 := Int.le_add_one (Int.natCast_nonneg m); have i1 := HI.out.1; have i2 := HI.out.2; have q1 := (HXY.out w9 h9).1; have q2 := (HXQ.out w9 h9).1; have q3 := (HXY.out w9 h9).2; have f1 := D1.out; have f4 := D4.out; have f5 := D5.out; go_simp; with_reducible rfl))))
          refine og_fin ?_
          go_wp2
          refine Cop.region_ord (fun w' => Sep w.heap.size w w' [.row g1 #[.int .i64 (b : Int), .int .i64 (e : Int)] 23, .own (.slice (some ⟨g, 0, none⟩) L.length c) 32 2 L.length (scs L)]) 27 (.take 0 (.take 1 (.take 2 (.take 3 (.take 4 (.take 5 (.take 6 (.take 7 (.take 8 (.take 9 (.take 10 (.take 11 (.take 12 (.take 13 (.take 14 (.take 15 (.take 16 (.take 17 (.take 18 (.take 19 (.take 20 (.take 21 (.take 22 (.take 23 (.take 24 (.take 25 (.take 26 (.take 27 Cop.Ord.fin)))))))))))))))))))))))))))) (by kernel_rfl) (by kernel_rfl) (fun _ _ d _ _ h => by cases d <;> exact h) ?_
          intro w6 hd6
          have HSb := HSa.keep hd6
          clear HSa
          (repeat (first | (refine Cop.og_skip rfl rfl HSb _ (by (simp only [Act.put, List.setIfInBounds_toArray, List.set_cons_succ, List.set_cons_zero]; rfl)) ?_) | (refine Cop.og_take rfl rfl HSb ?_; apply Exists.intro; refine ⟨fun w9 h9 => ?_, _, by (simp only [Act.put, List.setIfInBounds_toArray, List.set_cons_succ, List.set_cons_zero]; rfl), ?_⟩; (have i4 := HWM.out; have i0 : (0 : Int) ≤ (m : Int) + 1 := Int.le_add_one (Int.natCast_nonneg m); have i1 := HI.out.1; have i2 := HI.out.2; have q1 := (HXY.out w9 h9).1; have q2 := (HXQ.out w9 h9).1; have q3 := (HXY.out w9 h9).2; have f1 := D1.out; have f4 := D4.out; have f5 := D5.out; go_simp; with_reducible rfl))))
          refine og_fin ?_
          go_wp2
          refine Cop.region_ord (fun w' => Sep w.heap.size w w' [.row g1 #[.int .i64 (b : Int), .int .i64 (e : Int)] 23, .own (.slice (some ⟨g, 0, none⟩) L.length c) 32 2 L.length (scs L)]) 19 (.take 0 (.take 1 (.take 2 (.take 3 (.take 4 (.take 5 (.take 6 (.take 7 (.take 8 (.take 9 (.take 10 (.take 11 (.take 12 (.take 13 (.take 14 (.take 15 (.take 16 (.take 17 (.take 18 (.take 19 Cop.Ord.fin)))))))))))))))))))) (by kernel_rfl) (by kernel_rfl) (fun _ _ d _ _ h => by cases d <;> exact h) ?_
          intro w7 hd7
          have HSc := HSb.keep hd7
          clear HSb
          (repeat (first | (refine Cop.og_skip rfl rfl HSc _ (by (simp only [Act.put, List.setIfInBounds_toArray, List.set_cons_succ, List.set_cons_zero]; rfl)) ?_) | (refine Cop.og_take rfl rfl HSc ?_; apply Exists.intro; refine ⟨fun w9 h9 => ?_, _, by (simp only [Act.put, List.setIfInBounds_toArray, List.set_cons_succ, List.set_cons_zero]; rfl), ?_⟩; (have i4 := HWM.out; have i0 : (0 : Int) ≤ (m : Int) + 1 := Int.le_add_one (Int.natCast_nonneg m); have i1 := HI.out.1; have i2 := HI.out.2; have q1 := (HXY.out w9 h9).1; have q2 := (HXQ.out w9 h9).1; have q3 := (HXY.out w9 h9).2; have f1 := D1.out; have f4 := D4.out; have f5 := D5.out; go_simp; with_reducible rfl))))
          refine og_fin ?_
          go_wp2
          go_roundw
          case rel => exact ⟨m + 1 + 1, z, true, some q, by omega, rfl, rfl, by go_num, HV6, fun h => absurd h (by omega), fun _ => by rw [Nat.add_sub_cancel, ← HXZ.out], HSc⟩
          case measure => simp [intOf]; omega
        · have D1 := Lib.hid (show decide (q < x) = false from decide_eq_false (by omega))
          have D2 := Lib.hid (show ((x : Int) == (q : Int)) = false by simp; omega)
          have D3 := Lib.hid (show decide (x ≤ q) = true from decide_eq_true (by omega))
          have HV6 : Hid (Bes e z true (some x) (L.drop (m + 1 + 1))) := Lib.hid (by have := HV5.out; rwa [show nfall f (some q) x = true by simp [nfall]; omega] at this)
          clear h41 h42 hc HV5
          cases f with
          | false =>
            skip
            go_wp2
            refine Cop.region_ord (fun w' => Sep w.heap.size w w' [.row g1 #[.int .i64 (b : Int), .int .i64 (e : Int)] 23, .own (.slice (some ⟨g, 0, none⟩) L.length c) 32 2 L.length (scs L)]) 18 (.take 0 (.take 1 (.take 2 (.take 3 (.take 4 (.take 5 (.take 6 (.take 7 (.take 8 (.take 9 (.take 10 (.take 11 (.take 12 (.take 13 (.take 14 (.take 15 (.take 16 (.take 17 (.take 18 Cop.Ord.fin))))))))))))))))))) (by kernel_rfl) (by kernel_rfl) (fun _ _ d _ _ h => by cases d <;> exact h) ?_
            intro w5 hd5
            have HSa := HSp.keep hd5
            clear HSp
            (repeat (first | (refine Cop.og_skip rfl rfl HSa _ (by (simp only [Act.put, List.setIfInBounds_toArray, List.set_cons_succ, List.set_cons_zero]; rfl)) ?_) | (refine Cop.og_take rfl rfl HSa ?_; apply Exists.intro; refine ⟨fun w9 h9 => ?_, _, by (simp only [Act.put, List.setIfInBounds_toArray, List.set_cons_succ, List.set_cons_zero]; rfl), ?_⟩; (have i4 := HWM.out; have i0 : (0 : Int) ≤ (m : Int) + 1 := Int.le_add_one (Int.natCast_nonneg m); have i1 := HI.out.1; have i2 := HI.out.2; have q1 := (HXY.out w9 h9).1; have q2 := (HXQ.out w9 h9).1; have f1 := D1.out; have f2 := D2.out; have f3 := D3.out; go_simp; with_reducible rfl))))
            refine og_fin ?_
            go_wp2
            refine Cop.region_ord (fun w' => Sep w.heap.size w w' [.row g1 #[.int .i64 (b : Int), .int .i64 (e : Int)] 23, .own (.slice (some ⟨g, 0, none⟩) L.length c) 32 2 L.length (scs L)]) 27 (.take 0 (.take 1 (.take 2 (.take 3 (.take 4 (.take 5 (.take 6 (.take 7 (.take 8 (.take 9 (.take 10 (.take 11 (.take 12 (.take 13 (.take 14 (.take 15 (.take 16 (.take 17 (.take 18 (.take 19 (.take 20 (.take 21 (.take 22 (.take 23 (.take 24 (.take 25 (.take 26 (.take 27 Cop.Ord.fin)))))))))))))))))))))))))))) (by kernel_rfl) (by kernel_rfl) (fun _ _ d _ _ h => by cases d <;> exact h) ?_
            intro w6 hd6
            have HSb := HSa.keep hd6
            clear HSa
            (repeat (first | (refine Cop.og_skip rfl rfl HSb _ (by (simp only [Act.put, List.setIfInBounds_toArray, List.set_cons_succ, List.set_cons_zero]; rfl)) ?_) | (refine Cop.og_take rfl rfl HSb ?_; apply Exists.intro; refine ⟨fun w9 h9 => ?_, _, by (simp only [Act.put, List.setIfInBounds_toArray, List.set_cons_succ, List.set_cons_zero]; rfl), ?_⟩; (have i4 := HWM.out; have i0 : (0 : Int) ≤ (m : Int) + 1 := Int.le_add_one (Int.natCast_nonneg m); have i1 := HI.out.1; have i2 := HI.out.2; have q1 := (HXY.out w9 h9).1; have q2 := (HXQ.out w9 h9).1; have f1 := D1.out; have f2 := D2.out; have f3 := D3.out; go_simp; with_reducible rfl))))
            refine og_fin ?_
            go_wp2
            refine Cop.region_ord (fun w' => Sep w.heap.size w w' [.row g1 #[.int .i64 (b : Int), .int .i64 (e : Int)] 23, .own (.slice (some ⟨g, 0, none⟩) L.length c) 32 2 L.length (scs L)]) 19 (.take 0 (.take 1 (.take 2 (.take 3 (.take 4 (.take 5 (.take 6 (.take 7 (.take 8 (.take 9 (.take 10 (.take 11 (.take 12 (.take 13 (.take 14 (.take 15 (.take 16 (.take 17 (.take 18 (.take 19 Cop.Ord.fin)))))))))))))))))))) (by kernel_rfl) (by kernel_rfl) (fun _ _ d _ _ h => by cases d <;> exact h) ?_
            intro w7 hd7
            have HSc := HSb.keep hd7
            clear HSb
            (repeat (first | (refine Cop.og_skip rfl rfl HSc _ (by (simp only [Act.put, List.setIfInBounds_toArray, List.set_cons_succ, List.set_cons_zero]; rfl)) ?_) | (refine Cop.og_take rfl rfl HSc ?_; apply Exists.intro; refine ⟨fun w9 h9 => ?_, _, by (simp only [Act.put, List.setIfInBounds_toArray, List.set_cons_succ, List.set_cons_zero]; rfl), ?_⟩; (have i4 := HWM.out; have i0 : (0 : Int) ≤ (m : Int) + 1 := Int.le_add_one (Int.natCast_nonneg m); have i1 := HI.out.1; have i2 := HI.out.2; have q1 := (HXY.out w9 h9).1; have q2 := (HXQ.out w9 h9).1; have f1 := D1.out; have f2 := D2.out; have f3 := D3.out; go_simp; with_reducible rfl))))
            refine og_fin ?_
            go_wp2
            go_roundw
            case rel => exact ⟨m + 1 + 1, z, true, some x, by omega, rfl, rfl, by go_num, HV6, fun h => absurd h (by omega), fun _ => by rw [Nat.add_sub_cancel, ← HXZ.out], HSc⟩
            case measure => simp [intOf]; omega
          | true =>
            skip
            go_wp2
            refine Cop.region_ord (fun w' => Sep w.heap.size w w' [.row g1 #[.int .i64 (b : Int), .int .i64 (e : Int)] 23, .own (.slice (some ⟨g, 0, none⟩) L.length c) 32 2 L.length (scs L)]) 18 (.take 0 (.take 1 (.take 2 (.take 3 (.take 4 (.take 5 (.take 6 (.take 7 (.take 8 (.take 9 (.take 10 (.take 11 (.take 12 (.take 13 (.take 14 (.take 15 (.take 16 (.take 17 (.take 18 Cop.Ord.fin))))))))))))))))))) (by kernel_rfl) (by kernel_rfl) (fun _ _ d _ _ h => by cases d <;> exact h) ?_
            intro w5 hd5
            have HSa := HSp.keep hd5
            clear HSp
            (repeat (first | (refine Cop.og_skip rfl rfl HSa _ (by (simp only [Act.put, List.setIfInBounds_toArray, List.set_cons_succ, List.set_cons_zero]; rfl)) ?_) | (refine Cop.og_take rfl rfl HSa ?_; apply Exists.intro; refine ⟨fun w9 h9 => ?_, _, by (simp only [Act.put, List.setIfInBounds_toArray, List.set_cons_succ, List.set_cons_zero]; rfl), ?_⟩; (have i4 := HWM.out; have i0 : (0 : Int) ≤ (m : Int) + 1 := Int.le_add_one (Int.natCast_nonneg m); have i1 := HI.out.1; have i2 := HI.out.2; have q1 := (HXY.out w9 h9).1; have q2 := (HXQ.out w9 h9).1; have f1 := D1.out; have f2 := D2.out; have f3 := D3.out; go_simp; with_reducible rfl))))
            refine og_fin ?_
            go_wp2
            refine Cop.region_ord (fun w' => Sep w.heap.size w w' [.row g1 #[.int .i64 (b : Int), .int .i64 (e : Int)] 23, .own (.slice (some ⟨g, 0, none⟩) L.length c) 32 2 L.length (scs L)]) 27 (.take 0 (.take 1 (.take 2 (.take 3 (.take 4 (.take 5 (.take 6 (.take 7 (.take 8 (.take 9 (.take 10 (.take 11 (.take 12 (.take 13 (.take 14 (.take 15 (.take 16 (.take 17 (.take 18 (.take 19 (.take 20 (.take 21 (.take 22 (.take 23 (.take 24 (.take 25 (.take 26 (.take 27 Cop.Ord.fin)))))))))))))))))))))))))))) (by kernel_rfl) (by kernel_rfl) (fun _ _ d _ _ h => by cases d <;> exact h) ?_
            intro w6 hd6
            have HSb := HSa.keep hd6
            clear HSa
            (repeat (first | (refine Cop.og_skip rfl rfl HSb _ (by (simp only [Act.put, List.setIfInBounds_toArray, List.set_cons_succ, List.set_cons_zero]; rfl)) ?_) | (refine Cop.og_take rfl rfl HSb ?_; apply Exists.intro; refine ⟨fun w9 h9 => ?_, _, by (simp only [Act.put, List.setIfInBounds_toArray, List.set_cons_succ, List.set_cons_zero]; rfl), ?_⟩; (have i4 := HWM.out; have i0 : (0 : Int) ≤ (m : Int) + 1 := Int.le_add_one (Int.natCast_nonneg m); have i1 := HI.out.1; have i2 := HI.out.2; have q1 := (HXY.out w9 h9).1; have q2 := (HXQ.out w9 h9).1; have f1 := D1.out; have f2 := D2.out; have f3 := D3.out; go_simp; with_reducible rfl))))
            refine og_fin ?_
            go_wp2
            refine Cop.region_ord (fun w' => Sep w.heap.size w w' [.row g1 #[.int .i64 (b : Int), .int .i64 (e : Int)] 23, .own (.slice (some ⟨g, 0, none⟩) L.length c) 32 2 L.length (scs L)]) 19 (.take 0 (.take 1 (.take 2 (.take 3 (.take 4 (.take 5 (.take 6 (.take 7 (.take 8 (.take 9 (.take 10 (.take 11 (.take 12 (.take 13 (.take 14 (.take 15 (.take 16 (.take 17 (.take 18 (.take 19 Cop.Ord.fin)))))))))))))))))))) (by kernel_rfl) (by kernel_rfl) (fun _ _ d _ _ h => by cases d <;> exact h) ?_
            intro w7 hd7
            have HSc := HSb.keep hd7
            clear HSb
            (repeat (first | (refine Cop.og_skip rfl rfl HSc _ (by (simp only [Act.put, List.setIfInBounds_toArray, List.set_cons_succ, List.set_cons_zero]; rfl)) ?_) | (refine Cop.og_take rfl rfl HSc ?_; apply Exists.intro; refine ⟨fun w9 h9 => ?_, _, by (simp only [Act.put, List.setIfInBounds_toArray, List.set_cons_succ, List.set_cons_zero]; rfl), ?_⟩; (have i4 := HWM.out; have i0 : (0 : Int) ≤ (m : Int) + 1 := Int.le_add_one (Int.natCast_nonneg m); have i1 := HI.out.1; have i2 := HI.out.2; have q1 := (HXY.out w9 h9).1; have q2 := (HXQ.out w9 h9).1; have f1 := D1.out; have f2 := D2.out; have f3 := D3.out; go_simp; with_reducible rfl))))
            refine og_fin ?_
            go_wp2
            go_roundw
            case rel => exact ⟨m + 1 + 1, z, true, some x, by omega, rfl, rfl, by go_num, HV6, fun h => absurd h (by omega), fun _ => by rw [Nat.add_sub_cancel, ← HXZ.out], HSc⟩
            case measure => simp [intOf]; omega
    · have hkl : k = L.length := by omega
      have hae : a = e := by have := HV.out; rw [hkl, List.drop_length] at this; exact this
      subst hae
      have h96 : (L.length : Int) ≤ 96 := by omega
      have hlt' : ¬ (k : Int) < (L.length : Int) := by omega
      clear hp0 hp1 HV
      go_wp2
      go_ret
      exact ⟨rfl, HSi.hb⟩
set_option maxRecDepth 100000 in
set_option maxHeartbeats 4000000 in
theorem nodeBeside_bad (b e : Int) (w : World) (h : b < 0 ∨ e < b ∨ 281474976710656 < e) : Gives 4 #[.agg #[.int .i64 b, .int .i64 e]] w (.bool true) := by
  have CX := Lib.hid (fun w' => parts_bad b e w' h)
  have HS0 := Sep.start w
  by_cases h1 : b < 0
  · clear h
    go_enter Tryd.func4, Tryd.ntmps4
    go_wp2_with (first | refine wl_bx HS0 rfl 23 _ rfl #[.int .i64 b, .int .i64 e] rfl ?_)
    intro g1 w1 HS1
    go_wp2_with (first | refine wl_ld HS1 0 rfl rfl 23 _ rfl rfl Tryd.underlying23 rfl (by kernel_rfl) ?_)
    (with_reducible refine Calls.mono (CX.out _) ?_)
    rintro e w2 ⟨rfl, b2⟩
    have HS2 := HS1.keep b2
    clear HS1
    have q0 := (row_cell (HS2.row 0 rfl) 0).trans (show (#[Value.int .i64 b, .int .i64 e] : Array Value)[0]? = some (.int .i64 b) from rfl)
    have q1 := (row_cell (HS2.row 0 rfl) 1).trans (show (#[Value.int .i64 b, .int .i64 e] : Array Value)[1]? = some (.int .i64 e) from rfl)
    go_wp2
    go_ret
    exact ⟨rfl, HS2.hb⟩
  · by_cases h2 : e < b
    · clear h
      go_enter Tryd.func4, Tryd.ntmps4
      go_wp2_with (first | refine wl_bx HS0 rfl 23 _ rfl #[.int .i64 b, .int .i64 e] rfl ?_)
      intro g1 w1 HS1
      go_wp2_with (first | refine wl_ld HS1 0 rfl rfl 23 _ rfl rfl Tryd.underlying23 rfl (by kernel_rfl) ?_)
      (with_reducible refine Calls.mono (CX.out _) ?_)
      rintro e w2 ⟨rfl, b2⟩
      have HS2 := HS1.keep b2
      clear HS1
      have q0 := (row_cell (HS2.row 0 rfl) 0).trans (show (#[Value.int .i64 b, .int .i64 e] : Array Value)[0]? = some (.int .i64 b) from rfl)
      have q1 := (row_cell (HS2.row 0 rfl) 1).trans (show (#[Value.int .i64 b, .int .i64 e] : Array Value)[1]? = some (.int .i64 e) from rfl)
      go_wp2
      go_ret
      exact ⟨rfl, HS2.hb⟩
    · have h4 : 281474976710656 < e := by omega
      clear h
      go_enter Tryd.func4, Tryd.ntmps4
      go_wp2_with (first | refine wl_bx HS0 rfl 23 _ rfl #[.int .i64 b, .int .i64 e] rfl ?_)
      intro g1 w1 HS1
      go_wp2_with (first | refine wl_ld HS1 0 rfl rfl 23 _ rfl rfl Tryd.underlying23 rfl (by kernel_rfl) ?_)
      (with_reducible refine Calls.mono (CX.out _) ?_)
      rintro e w2 ⟨rfl, b2⟩
      have HS2 := HS1.keep b2
      clear HS1
      have q0 := (row_cell (HS2.row 0 rfl) 0).trans (show (#[Value.int .i64 b, .int .i64 e] : Array Value)[0]? = some (.int .i64 b) from rfl)
      have q1 := (row_cell (HS2.row 0 rfl) 1).trans (show (#[Value.int .i64 b, .int .i64 e] : Array Value)[1]? = some (.int .i64 e) from rfl)
      go_wp2
      go_ret
      exact ⟨rfl, HS2.hb⟩
theorem nodeBeside_holds : Rows.NodeBesideCardSaid := nodeBeside.card_of_walk fun H enc W base v0 d0 p0 h0 k0 _ hL => by
  obtain ⟨b, e, rfl⟩ := open_two Tryd.underlying23 rfl rfl rfl rfl Tryd.underlying3 (by kernel_rfl) (by kernel_rfl) h0 k0
  by_cases h : 0 ≤ b ∧ b ≤ e ∧ e ≤ 281474976710656
  · obtain ⟨b, rfl⟩ : ∃ k : Nat, b = k := ⟨b.toNat, by omega⟩
    obtain ⟨e, rfl⟩ : ∃ k : Nat, e = k := ⟨e.toNat, by omega⟩
    exact nodeBeside_ok b e W (tabz_of hL) (by omega) (by omega)
  · exact nodeBeside_bad b e W (by omega)
#print axioms nodeBeside_holds
end Go.Proofs.YtcjnheabkdalbaaDoor
