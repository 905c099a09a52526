/- Proved here: fewer expanded bytes are the beginning of more. The table of constants is tied to the program's text. No condition. -/
import Derived.Test.YtkgdjddcnlkppaaDoorEx
import Derived.Test.YtkgdjddcnlkppaaDoorFMacBegins
namespace Go.Proofs.YtkgdjddcnlkppaaDoor
open Go.RowKit Cop
set_option linter.unusedVariables false
set_option linter.unusedSimpArgs false
theorem expo_pre (key info : List UInt8) (k : Nat) : ∀ j, (expo key info (k + j)).1.take (32 * k) = (expo key info k).1
  | 0 => by rw [Nat.add_zero, List.take_of_length_le (by rw [expo_length]; exact Nat.le_refl _)]
  | j + 1 => by
    rw [show k + (j + 1) = (k + j) + 1 from by omega, expo, List.take_append_of_le_length (by rw [expo_length]; omega), expo_pre key info k j]
theorem expD_pre (key info : List UInt8) (n m : Nat) (h : n ≤ m) : (expD key info m).take n = expD key info n := by
  obtain ⟨j, hj⟩ : ∃ j, (m + 31) / 32 = (n + 31) / 32 + j := ⟨(m + 31) / 32 - (n + 31) / 32, by omega⟩
  rw [expD, expD, hj, List.take_take, Nat.min_eq_left h, ← expo_pre key info ((n + 31) / 32) j, List.take_take, Nat.min_eq_left (by omega)]
theorem open_two' {H : Type} {enc : TypeId × Value → H} {P : Program} {w : World} {base : Nat} {spare : Nat → Bool} {held : Bool} {t t0 : TypeId} {v : Value} {d : DataW H} {ps : List MemPlace} {r : Reach} {base' : Nat} {f0 f1 : Field} {k : IntKind}
    (ht : P.underlying t = some (.struct #[f0, f1])) (e0 : f0.type = t0) (e1 : f1.type = t0) (o0 : f0.offset = 0) (o1 : f1.offset = 1) (hi : P.underlying t0 = some (.int k)) (hc0 : P.cellsOf t0 = 1) (hc : P.cellsOf t = 2)
    (h : DataW.Trod enc P w base spare held t v d ps) (hok : Value.okWide P w r base' t v) : ∃ m n : Int, v = .agg #[.int k m, .int k n] ∧ (Lit.int k m).wf = true ∧ (Lit.int k n).wf = true := by
  obtain ⟨cs, rfl, hsz⟩ := Go.WideShapes.okWide_struct ht hok
  obtain ⟨fuel, hf⟩ := h
  obtain ⟨y0, y1, n, _, hl, h0, h1⟩ := Go.ChangeShapes.trod_struct2 ht hf
  obtain ⟨l⟩ := cs
  rw [hc] at hsz
  match l, hsz with
  | [a, b], _ =>
    rw [e0, o0, hc0] at h0
    rw [e1, o1, hc0] at h1
    obtain ⟨m, hm, _, w0⟩ := DataW.trod_int hi h0
    obtain ⟨n, hn, _, w1⟩ := DataW.trod_int hi h1
    simp [Value.cells] at hm hn
    exact ⟨m, n, by simp [hm, hn], w0, w1⟩
set_option maxRecDepth 100000 in
set_option maxHeartbeats 4000000 in
theorem macBegins_yes (key info : List UInt8) (v : Value) (n m : Nat) (w : World) (hT : Tab w) (hR : Rd w v info.length 1 (bl info)) (hk : key.length = 32) (hil : info.length ≤ 140737488351232) (hnm : n ≤ m) (hm : m ≤ 8160) :
    Calls Tryd.prog 8 #[.agg (bv key), v, .agg #[.int .i64 n, .int .i64 m]] w fun e w' => e = .returned (.bool true) ∧ Below w.heap.size w w' := by
  have CN := Lib.hid (fun (w' : World) (R : List Pc) (HS : Sep w.heap.size w w' R) i0 vi hi => expand_gen key info _ _ (rounds key info) hT.base HS i0 vi hi n (expD key info n) rfl hk (by omega) hil)
  have CM := Lib.hid (fun (w' : World) (R : List Pc) (HS : Sep w.heap.size w w' R) i0 vi hi => expand_gen key info _ _ (rounds key info) hT.base HS i0 vi hi m (expD key info m) rfl hk (by omega) hil)
  have hp := expD_pre key info n m hnm
  have hnl := expD_length key info n
  have hml := expD_length key info m
  obtain ⟨X, hX⟩ : ∃ x, expD key info n = x := ⟨_, rfl⟩
  obtain ⟨Y, hY⟩ : ∃ x, expD key info m = x := ⟨_, rfl⟩
  rw [hX] at CN hp hnl
  rw [hY] at CM hp hml
  have HS0 := (Sep.start w).arg0 hR
  obtain ⟨A, c, rfl, _⟩ := hR.shape
  have HP := Lib.hid hp
  have HNL := Lib.hid hnl
  have HML := Lib.hid hml
  have k1 : ¬ (n : Int) < 0 := by omega
  have k2 : ¬ (m : Int) < (n : Int) := by omega
  have k3 : ¬ 8160 < (m : Int) := by omega
  clear hX hY hp hnl hml hR
  go_enter Tryd.func8, Tryd.ntmps8
  go_wp2_with (first | refine wl_bx HS0 rfl 23 _ rfl (bv key) rfl ?_)
  intro g1 w1 HS1
  go_wp2_with (first | refine wl_bx HS1 rfl 48 _ rfl #[.int .i64 n, .int .i64 m] rfl ?_)
  intro g2 w2 HS2
  go_wp2
  refine Cop.region_ord (fun w' => Sep w.heap.size w w' [.row g2 #[.int .i64 n, .int .i64 m] 48]) 5 (.take 0 (.take 1 (.take 2 (.take 3 (.take 4 (.take 5 Cop.Ord.fin)))))) (by kernel_rfl) (by kernel_rfl) (fun _ _ d _ _ h => by cases d <;> exact h) ?_
  intro wa hda
  have HSa := HS2.keep hda
  have HTa : Sep w.heap.size w wa [.row g2 #[.int .i64 n, .int .i64 m] 48] := HSa.sub (by repeat (first | exact List.nil_sublist _ | exact List.Sublist.refl _ | apply List.Sublist.cons_cons | apply List.Sublist.cons))
  (repeat (first | (refine Cop.og_skip rfl rfl HTa _ (by (simp only [Act.put, List.setIfInBounds_toArray, List.set_cons_succ, List.set_cons_zero]; rfl)) ?_) | (refine Cop.og_take rfl rfl HTa ?_; apply Exists.intro; refine ⟨fun w9 h9 => ?_, _, by (simp only [Act.put, List.setIfInBounds_toArray, List.set_cons_succ, List.set_cons_zero]; rfl), ?_⟩; (have c0 := row_cell (h9.row 0 rfl) 0; have c1 := row_cell (h9.row 0 rfl) 1; go_simp; with_reducible rfl))))
  refine og_fin ?_
  clear HS0 HS1 HS2 HTa
  go_wp2_with (first | refine wl_ld HSa 1 rfl rfl 23 _ rfl rfl Tryd.underlying23 rfl (by rw [bv_size, hk]; exact info_dg) ?_)
  refine (CN.out _ _ HSa 2 _ rfl).mono ?_
  rintro e w3 ⟨x1, rfl, HS3⟩
  clear HSa
  go_wp2_with (first | refine wl_ld HS3 2 rfl rfl 23 _ rfl rfl Tryd.underlying23 rfl (by rw [bv_size, hk]; exact info_dg) ?_)
  refine (CM.out _ _ HS3 3 _ rfl).mono ?_
  rintro e w4 ⟨x2, rfl, HS4⟩
  clear HS3
  obtain ⟨A1, c1, rfl, _⟩ := (HS4.own 1 rfl).sl
  obtain ⟨A2, c2, rfl, _⟩ := (HS4.own 0 rfl).sl
  have HRY : Rd w4 (.slice A2 m c2) Y.length 1 (bl Y) := by rw [HML.out]; exact (HS4.own 0 rfl).rd
  have HRX : Rd w4 (.slice A1 n c1) X.length 1 (bl X) := by rw [HNL.out]; exact (HS4.own 1 rfl).rd
  obtain ⟨A7, c7, _, _, HR7, _, hs7⟩ := rd_to HRY Tryd.underlying33 info_u8' n (by rw [HML.out]; exact hnm)
  rw [HP.out] at HR7
  have HS7X := Lib.hid hs7
  have HA : True := trivial
  clear hs7
  go_wp2
  refine Cop.region_ord (fun w' => Rd w' (.slice A7 n c7) X.length 1 (bl X) ∧ Rd w' (.slice A1 n c1) X.length 1 (bl X)) 27 (.take 0 (.take 1 (.take 2 (.take 3 (.take 4 (.take 5 (.take 6 (.take 7 (.take 8 (.take 9 (.take 10 (.take 11 (.take 12 (.take 13 (.take 14 (.take 15 (.take 16 (.take 17 (.take 18 (.take 19 (.take 20 (.take 21 (.take 22 (.take 23 (.take 24 (.take 25 (.take 26 (.take 27 Cop.Ord.fin)))))))))))))))))))))))))))) (by kernel_rfl) (by kernel_rfl) (fun _ _ d _ _ h => by cases d <;> exact h) ?_
  intro wb hdb
  have HSb := HS4.keep hdb
  have HTb : Rd wb (.slice A7 n c7) X.length 1 (bl X) ∧ Rd wb (.slice A1 n c1) X.length 1 (bl X) := ⟨HR7.below hdb, HRX.below hdb⟩
  clear HR7 HRX HRY HS4
  (repeat (first | (refine Cop.og_skip rfl rfl HTb _ (by (simp only [Act.put, List.setIfInBounds_toArray, List.set_cons_succ, List.set_cons_zero]; rfl)) ?_) | (refine Cop.og_take rfl rfl HTb ?_; apply Exists.intro; refine ⟨fun w9 h9 => ?_, _, by (simp only [Act.put, List.setIfInBounds_toArray, List.set_cons_succ, List.set_cons_zero]; rfl), ?_⟩; (have e := HS7X.out; have s1 := Rd.string (P := Tryd.prog) h9.1 Tryd.underlying33 Tryd.underlying5 Tryd.underlying9; have s2 := Rd.string (P := Tryd.prog) h9.2 Tryd.underlying33 Tryd.underlying5 Tryd.underlying9; unfold sv at s1 s2; go_simp; with_reducible rfl))))
  refine og_fin ?_
  go_wp2
  go_ret
  exact ⟨rfl, HSb.hb⟩
set_option maxRecDepth 100000 in
set_option maxHeartbeats 4000000 in
theorem macBegins_no (key : List UInt8) (A : Option Addr) (l c : Nat) (n m : Int) (w : World) (h : n < 0 ∨ (¬ n < 0 ∧ m < n) ∨ (¬ n < 0 ∧ ¬ m < n ∧ 8160 < m)) :
    Calls Tryd.prog 8 #[.agg (bv key), .slice A l c, .agg #[.int .i64 n, .int .i64 m]] w fun e w' => e = .returned (.bool true) ∧ Below w.heap.size w w' := by
  have HS0 := Sep.start w
  have HH := Lib.hid h
  clear h
  go_enter Tryd.func8, Tryd.ntmps8
  go_wp2_with (first | refine wl_bx HS0 rfl 23 _ rfl (bv key) rfl ?_)
  intro g1 w1 HS1
  go_wp2_with (first | refine wl_bx HS1 rfl 48 _ rfl #[.int .i64 n, .int .i64 m] rfl ?_)
  intro g2 w2 HS2
  go_wp2
  refine Cop.region_ord (fun w' => Sep w.heap.size w w' [.row g2 #[.int .i64 n, .int .i64 m] 48]) 5 (.take 0 (.take 1 (.take 2 (.take 3 (.take 4 (.take 5 Cop.Ord.fin)))))) (by kernel_rfl) (by kernel_rfl) (fun _ _ d _ _ h => by cases d <;> exact h) ?_
  intro wa hda
  have HSa := HS2.keep hda
  have HTa : Sep w.heap.size w wa [.row g2 #[.int .i64 n, .int .i64 m] 48] := HSa.sub (by repeat (first | exact List.nil_sublist _ | exact List.Sublist.refl _ | apply List.Sublist.cons_cons | apply List.Sublist.cons))
  (repeat (first | (refine Cop.og_skip rfl rfl HTa _ (by (simp only [Act.put, List.setIfInBounds_toArray, List.set_cons_succ, List.set_cons_zero]; rfl)) ?_) | (refine Cop.og_take rfl rfl HTa ?_; apply Exists.intro; refine ⟨fun w9 h9 => ?_, _, by (simp only [Act.put, List.setIfInBounds_toArray, List.set_cons_succ, List.set_cons_zero]; rfl), ?_⟩; (have c0 := row_cell (h9.row 0 rfl) 0; have c1 := row_cell (h9.row 0 rfl) 1; go_simp; with_reducible rfl))))
  refine og_fin ?_
  rcases HH.out with h1 | ⟨h1, h2⟩ | ⟨h1, h2, h3⟩
  all_goals
    go_wp2
    go_ret
    exact ⟨rfl, HSa.hb⟩
theorem macBegins_walk (key info : List UInt8) (v : Value) (n m : Int) (w : World) (hT : Tab w) (hR : Rd w v info.length 1 (bl info)) (hk : key.length = 32) (hil : info.length ≤ 140737488351232) :
    Calls Tryd.prog 8 #[.agg (bv key), v, .agg #[.int .i64 n, .int .i64 m]] w fun e w' => e = .returned (.bool true) ∧ Below w.heap.size w w' := by
  by_cases h : 0 ≤ n ∧ n ≤ m ∧ m ≤ 8160
  · obtain ⟨a, rfl⟩ : ∃ a : Nat, n = a := ⟨n.toNat, by omega⟩
    obtain ⟨b, rfl⟩ : ∃ a : Nat, m = a := ⟨m.toNat, by omega⟩
    exact macBegins_yes key info v a b w hT hR hk hil (by omega) (by omega)
  · obtain ⟨A, c, rfl, _⟩ := hR.shape
    exact macBegins_no key A _ c n m w (by omega)
set_option maxRecDepth 100000 in
theorem macBegins_holds : Rows.MacBeginsCardSaid := macBegins.card_of_walk fun H enc W base v0 v1 v2 d0 d1 d2 p0 p1 p2 h0 k0 h1 k1 h2 k2 hsz hL => by
  obtain ⟨s, hs, rfl⟩ := open_bytes Tryd.underlying23 Tryd.underlying5 (by kernel_rfl) (by kernel_rfl) h0 k0
  obtain ⟨l, hR, hl⟩ := open_bslice Tryd.underlying33 Tryd.underlying5 (by kernel_rfl) (by kernel_rfl) h1 k1 hsz 1 rfl rfl
  obtain ⟨n, m, rfl, _⟩ := open_two' Tryd.underlying48 rfl rfl rfl rfl Tryd.underlying3 (by kernel_rfl) (by kernel_rfl) h2 k2
  exact macBegins_walk s l v1 n m W (table_of hL) hR hs hl
#print axioms macBegins_holds
end Go.Proofs.YtkgdjddcnlkppaaDoor
