/- Proved here: any two beginnings have the document's consistency proof. The table of constants is tied to the program's text. No condition. -/
import Derived.Test.YtbdmehgbdnninaaDoorCt
import Derived.Test.YtbdmehgbdnninaaDoorTo
import Derived.Test.YtbdmehgbdnninaaDoorFTreeSteps
namespace Go.Proofs.YtbdmehgbdnninaaDoor
open Go.RowKit Cop
set_option linter.unusedVariables false
set_option linter.unusedSimpArgs false
theorem names_04s (w : World) : Calls Tryd.prog 18 #[] w fun e w' => e = .returned (.bool true) ∧ w = w' := by
  go_enter Tryd.func18, Tryd.ntmps18
  go_wp2
  go_ret
  exact ⟨rfl, rfl⟩
set_option maxHeartbeats 4000000 in
theorem consB_bad (A : Option Addr) (m c : Nat) (i n : Int) (w : World) (hm : m ≤ 4398046511104) (hno : ¬ (1 ≤ i ∧ i ≤ n ∧ n ≤ (m : Int))) : Gives 39 #[.slice A m c, .int .i64 i, .int .i64 n] w (.tuple #[.slice none 0 0, .int .i64 40]) := by
  have HNO := Lib.hid hno
  clear hno
  go_enter Tryd.func39, Tryd.ntmps39
  rcases (show i < 1 ∨ (¬ i < 1 ∧ n < i) ∨ (¬ i < 1 ∧ ¬ n < i ∧ (m : Int) < n) from by have := HNO.out; omega) with h1 | ⟨h1, h2⟩ | ⟨h1, h2, h3⟩
  all_goals
    go_wp2
    go_ret2
    exact ⟨rfl, Below.refl _ _⟩
set_option maxRecDepth 100000 in
set_option maxHeartbeats 4000000 in
theorem consB_ok (l : List (List UInt8)) (v : Value) (i n : Nat) (w : World) (hl : AllD l) (hll : l.length ≤ 4398046511104) (hR : Rd w v l.length 32 (dcs l)) (hi1 : 1 ≤ i) (hin : i ≤ n) (hnl : n ≤ l.length) :
    Calls Tryd.prog 39 #[v, .int .i64 i, .int .i64 n] w fun e w' => ∃ x, e = .returned (.tuple #[x, .int .i64 0]) ∧ Below w.heap.size w w' ∧ Ow w' w.heap.size 26 32 x (tsteps nodeD (sha []) (l.take n) i true).length (dcs (tsteps nodeD (sha []) (l.take n) i true)) := by
  have htl := tsteps_len64 (l.take n) (by rw [List.length_take]; omega) i true hi1 (by rw [List.length_take]; omega)
  obtain ⟨A1, c1, hR1, _, _, hs1⟩ := rd_dto hR hl n hnl
  obtain ⟨A, c, rfl, _, _⟩ := hR.shape
  have CP := Lib.hid (stepsB_gen (root nodeD (sha [])) (tsteps nodeD (sha [])) root_length (fun l => tsteps_end _ _ (.inr rfl)) (fun l => tsteps_end _ _ (.inr rfl)) (fun l m wh h h1 h2 => tsteps_le _ _ h h1 h2) (fun l m wh h h1 h2 => tsteps_gt _ _ h h1 h2) (fun l' w' v' h1 h2 h3 => root_b l' v' w' h1 h2 h3) n (l.take n) i (i : Int) true (.slice A1 n c1) w (by rw [List.length_take]; omega) rfl hi1 hin (hl.take n) (by omega) (by omega) hR1)
  obtain ⟨q, hq⟩ : ∃ q, tsteps nodeD (sha []) (l.take n) i true = q := ⟨_, rfl⟩
  rw [hq] at CP htl ⊢
  have HSL := Lib.hid hs1
  have k1 : ¬ (i : Int) < 1 := by omega
  have k2 : ¬ (l.length : Int) < (n : Int) := by omega
  have k3 : ¬ (n : Int) < (i : Int) := by omega
  clear hR hq hl hs1 hR1
  go_enter Tryd.func39, Tryd.ntmps39
  go_wp2_with (refine wl_sl1 rfl 22 _ _ rfl _ rfl _ rfl _ (HSL.out _ _) ?_)
  (with_reducible refine Calls.mono CP.out ?_)
  rintro e' w6 ⟨x6, rfl, b6, o6⟩
  obtain ⟨A6, c6, rfl, _⟩ := o6.sl
  go_wp2
  go_ret2
  exact ⟨_, rfl, b6, o6⟩
/-- A consistency proof, by both. -/
theorem cons_ab (l : List (List UInt8)) (i n : Int) (w : World) (hT : Tab w) (hl : AllD l) (hll : l.length ≤ 4398046511104) : ∃ (p : List (List UInt8)) (E : Int), AllD p ∧ p.length ≤ 64 ∧
    (∀ w' v, Below w.heap.size w w' → Rd w' v l.length 32 (dcs l) → Calls Tryd.prog 38 #[v, .int .i64 i, .int .i64 n] w' fun e w'' => ∃ x, e = .returned (.tuple #[x, .int .i64 E]) ∧ Below w'.heap.size w' w'' ∧ Ow w'' w'.heap.size 26 32 x p.length (dcs p)) ∧
    (∀ w' v, Rd w' v l.length 32 (dcs l) → Calls Tryd.prog 39 #[v, .int .i64 i, .int .i64 n] w' fun e w'' => ∃ x, e = .returned (.tuple #[x, .int .i64 E]) ∧ Below w'.heap.size w' w'' ∧ Ow w'' w'.heap.size 26 32 x p.length (dcs p)) := by
  by_cases h : 1 ≤ i ∧ i ≤ n ∧ n ≤ (l.length : Int)
  · obtain ⟨h1, h2, h3⟩ := h
    obtain ⟨a, rfl⟩ : ∃ a : Nat, i = (a : Int) := ⟨i.toNat, by omega⟩
    obtain ⟨b, rfl⟩ : ∃ b : Nat, n = (b : Int) := ⟨n.toNat, by omega⟩
    refine ⟨tsteps nodeD (sha []) (l.take b) a true, 0, tsteps_all _ _ (hl.take b) rfl a true, tsteps_len64 _ (by rw [List.length_take]; omega) a true (by omega) (by rw [List.length_take]; omega), fun w' v hb hR => ?_, fun w' v hR => ?_⟩
    · exact cons_ok l v a b w' (hT.below hb) hl hll hR (by omega) (by omega) (by omega)
    · exact consB_ok l v a b w' hl hll hR (by omega) (by omega) (by omega)
  · refine ⟨[], 40, (by intro x hx; cases hx), by simp, fun w' v hb hR => ?_, fun w' v hR => ?_⟩
    · obtain ⟨A, c, rfl, _, _⟩ := hR.shape
      exact (cons_bad A _ c i n w' hll h).mono fun e w2 ⟨h1, h2⟩ => ⟨_, h1, h2, Ow.nil _ _ _ _ _⟩
    · obtain ⟨A, c, rfl, _, _⟩ := hR.shape
      exact (consB_bad A _ c i n w' hll h).mono fun e w2 ⟨h1, h2⟩ => ⟨_, h1, h2, Ow.nil _ _ _ _ _⟩
set_option maxRecDepth 100000 in
set_option maxHeartbeats 4000000 in
theorem treeSteps_walk (l : List (List UInt8)) (v : Value) (i n : Int) (w : World) (hT : Tab w) (hl : AllD l) (hll : l.length ≤ 4398046510976) (hR : Rd w v l.length 32 (dcs l)) :
    Gives 8 #[v, .int .i64 i, .int .i64 n] w (.bool true) := by
  obtain ⟨p, E, hp, hpl, h1, h2⟩ := cons_ab l i n w hT hl (by omega)
  have IA := Lib.hid h1
  have IB := Lib.hid h2
  have CM := Lib.hid (fun w' va vb ha hb => same_a l va vb w' hl (by omega) ha hb)
  have CT := Lib.hid (fun x y z w' R HS => told_a p x y z w.heap.size w w' R hp (by omega) HS)
  have HS0 := (Sep.start w).arg0 hR
  obtain ⟨A, c, rfl, hc, hcm⟩ := hR.shape
  have hb32 : l.length * 32 ≤ 140737488355328 := by omega
  clear hR h1 h2 hl hp
  go_enter Tryd.func8, Tryd.ntmps8
  have HS3 := HS0.built #[] 26 0 32 rfl (by decide)
  go_wp2_with (refine wl_apn HS3 0 rfl _ _ 22 (.agg (bv (List.replicate 32 0))) 32 rfl rfl Tryd.underlying22 dgs_info rfl (by decide) (by decide) (HS3.rd 1 rfl) (dcs_one l) rfl rfl l.length (dcs l) (by simp) rfl hb32 ?_)
  intro v1 w4 HS4 _
  obtain ⟨A1, c1, rfl, _⟩ := (HS4.own 0 rfl).sl
  clear HS0 HS3
  go_wp2_with fail
  (with_reducible refine Calls.mono (IA.out w4 _ HS4.hb (HS4.own 0 rfl).rd) ?_)
  rintro e5 w5 ⟨x5, rfl, b5, o5⟩
  have HS5 := HS4.made b5 o5
  obtain ⟨A5, c5, rfl, _⟩ := (HS5.own 0 rfl).sl
  clear HS4 o5
  go_wp2_with fail
  (with_reducible refine Calls.mono (IA.out w5 _ HS5.hb (HS5.own 1 rfl).rd) ?_)
  rintro e6 w6 ⟨x6, rfl, b6, o6⟩
  have HS6 := HS5.made b6 o6
  obtain ⟨A6, c6, rfl, _⟩ := (HS6.own 0 rfl).sl
  clear HS5 o6
  go_wp2_with fail
  (with_reducible refine Calls.mono (IB.out w6 _ (HS6.rd 3 rfl)) ?_)
  rintro e7 w7 ⟨x7, rfl, b7, o7⟩
  have HS7 := HS6.made b7 o7
  obtain ⟨A7, c7, rfl, _⟩ := (HS7.own 0 rfl).sl
  clear HS6 o7
  have HS8 : Sep w.heap.size w w7 [.own (.slice A5 p.length c5) 26 32 p.length (dcs p), .own (.slice A6 p.length c6) 26 32 p.length (dcs p), .own (.slice A7 p.length c7) 26 32 p.length (dcs p), .own (.slice A1 l.length c1) 26 32 l.length (dcs l), .rd (.slice A l.length c) l.length 32 (dcs l)] := (HS7.front 1).front 2
  clear HS7
  go_wp2_with fail
  (with_reducible refine Calls.mono (CT.out _ _ _ w7 _ HS8) ?_)
  rintro e8 w8 ⟨rfl, HS9⟩
  clear HS8
  go_wp2_with fail
  (with_reducible refine Calls.mono (CM.out w8 _ _ (HS9.own 0 rfl).rd (HS9.rd 1 rfl)) ?_)
  rintro e wd ⟨rfl, bd⟩
  have HSd := HS9.keep bd
  clear HS9
  go_wp2_with fail
  refine (names_04s wd).mono ?_
  rintro e2 we ⟨rfl, rfl⟩
  go_wp2
  go_ret
  exact ⟨rfl, HSd.hb⟩
set_option maxRecDepth 100000 in
theorem treeSteps_holds : Rows.TreeStepsCardSaid := treeSteps.card_of_walk fun H enc W base v0 v1 v2 d0 d1 d2 p0 p1 p2 h0 k0 h1 k1 h2 k2 hsz hL => by
  obtain ⟨l, hR, hl, hll⟩ := open_dslice Tryd.underlying22 Tryd.underlying26 Tryd.underlying5 (by kernel_rfl) (by kernel_rfl) (by kernel_rfl) h0 k0 hsz 0 rfl rfl
  obtain ⟨i, rfl, _, _, _⟩ := Go.ChangeShapes.open_int Tryd.underlying3 k1 h1
  obtain ⟨n, rfl, _, _, _⟩ := Go.ChangeShapes.open_int Tryd.underlying3 k2 h2
  exact treeSteps_walk l v0 i n W (table_of hL) hl hll hR
#print axioms treeSteps_holds
end Go.Proofs.YtbdmehgbdnninaaDoor
