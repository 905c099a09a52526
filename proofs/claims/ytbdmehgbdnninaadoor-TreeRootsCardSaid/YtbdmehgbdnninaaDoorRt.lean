/- Proved here: any leaves, and any span of them, have the document's root. The table of constants is tied to the program's text. No condition. -/
import Derived.Test.YtbdmehgbdnninaaDoorRs
import Derived.Test.YtbdmehgbdnninaaDoorFTreeRoots
namespace Go.Proofs.YtbdmehgbdnninaaDoor
open Go.RowKit Cop
set_option linter.unusedVariables false
set_option linter.unusedSimpArgs false
theorem names_04r (w : World) : Calls Tryd.prog 18 #[] w fun e w' => e = .returned (.bool true) ∧ w = w' := by
  go_enter Tryd.func18, Tryd.ntmps18
  go_wp2
  go_ret
  exact ⟨rfl, rfl⟩
theorem open_span {H : Type} {enc : TypeId × Value → H} {P : Program} {w : World} {base : Nat} {spare : Nat → Bool} {held : Bool} {t t0 : TypeId} {v : Value} {d : DataW H} {ps : List MemPlace} {r : Reach} {base' : Nat} {f0 f1 : Field} {k : IntKind}
    (ht : P.underlying t = some (.struct #[f0, f1])) (e0 : f0.type = t0) (e1 : f1.type = t0) (o0 : f0.offset = 0) (o1 : f1.offset = 1) (hi : P.underlying t0 = some (.int k)) (hc0 : P.cellsOf t0 = 1) (hc : P.cellsOf t = 2)
    (h : DataW.Trod enc P w base spare held t v d ps) (hok : Value.okWide P w r base' t v) : ∃ m n : Int, v = .agg #[.int k m, .int k n] ∧ (Lit.int k m).wf = true ∧ (Lit.int k n).wf = true := by
  obtain ⟨cs, rfl, hsz⟩ := Go.WideShapes.okWide_struct ht hok
  obtain ⟨fuel, hf⟩ := h
  obtain ⟨y0, y1, n, _, hl, h0, h1⟩ := Go.ChangeShapes.trod_struct2 ht hf
  obtain ⟨l⟩ := cs
  rw [hc] at hsz
  match l, hsz with
  | [a, b], _ =>
    rw [e0, o0, hc0] at h0
    rw [e1, o1, hc0] at h1
    obtain ⟨m, hm, _, w0⟩ := DataW.trod_int hi h0
    obtain ⟨n, hn, _, w1⟩ := DataW.trod_int hi h1
    simp [Value.cells] at hm hn
    exact ⟨m, n, by simp [hm, hn], w0, w1⟩
set_option maxRecDepth 100000 in
set_option maxHeartbeats 4000000 in
theorem treeRoots_walk (l : List (List UInt8)) (v : Value) (b e : Int) (w : World) (hT : Tab w) (hl : AllD l) (hll : l.length ≤ 4398046510976) (hR : Rd w v l.length 32 (dcs l)) :
    Gives 3 #[v, .agg #[.int .i64 b, .int .i64 e]] w (.bool true) := by
  obtain ⟨X, E, hX, h1, h2⟩ := sub_ab l b e w hT hl (by omega)
  have SA := Lib.hid h1
  have SB := Lib.hid h2
  have HXL := Lib.hid hX
  have hrl := root_length l hl
  have RA := Lib.hid (fun w' v (hb : Below w.heap.size w w') hR => root_a l v w' (hT.below hb) hl (by omega) hR)
  have RB := Lib.hid (fun w' v hR => root_b l v w' hl (by omega) hR)
  have CM := Lib.hid (fun w' va vb ha hb => same_a l va vb w' hl (by omega) ha hb)
  obtain ⟨Y, hY⟩ : ∃ y, root nodeD (sha []) l = y := ⟨_, rfl⟩
  rw [hY] at RA RB hrl
  have HEX := Lib.hid (fun w' : World => run_equal_bv (P := Tryd.prog) w' (d := 9998) Tryd.underlying26 Tryd.underlying5 (by kernel_rfl) X X hX hX)
  have HEY := Lib.hid (fun w' : World => run_equal_bv (P := Tryd.prog) w' (d := 9998) Tryd.underlying26 Tryd.underlying5 (by kernel_rfl) Y Y hrl hrl)
  have HS0 := (Sep.start w).arg0 hR
  obtain ⟨A, c, rfl, hc, hcm⟩ := hR.shape
  have hb32 : l.length * 32 ≤ 140737488355328 := by omega
  clear hR h1 h2 hX hY hrl hl
  go_enter Tryd.func3, Tryd.ntmps3
  go_wp2_with (first | refine wl_bx HS0 rfl 24 _ rfl #[.int .i64 b, .int .i64 e] rfl ?_)
  intro g1 w1 HS1
  have HS3 := HS1.built #[] 26 0 32 rfl (by decide)
  go_wp2_with (refine wl_apn HS3 0 rfl _ _ 22 (.agg (bv (List.replicate 32 0))) 32 rfl rfl Tryd.underlying22 dgs_info rfl (by decide) (by decide) (HS3.rd 2 rfl) (dcs_one l) rfl rfl l.length (dcs l) (by simp) rfl hb32 ?_)
  intro v1 w4 HS4 _
  obtain ⟨A1, c1, rfl, _⟩ := (HS4.own 0 rfl).sl
  clear HS0 HS1 HS3
  go_wp2_with (first | refine wl_ld HS4 1 rfl rfl 24 _ rfl rfl Tryd.underlying24 rfl (by kernel_rfl) ?_)
  (with_reducible refine Calls.mono (SA.out w4 _ HS4.hb (HS4.own 0 rfl).rd) ?_)
  rintro e w5 ⟨rfl, b5⟩
  have HS5 := HS4.keep b5
  clear HS4
  go_wp2_with (first | refine wl_al HS5 rfl 26 rfl (bv (List.replicate 32 0)) (by kernel_rfl) ?_)
  intro g6 w6 HS6
  go_wp2_with (first | refine wl_st HS6 0 rfl rfl 26 _ _ rfl rfl rfl (dgS HXL.out) (dgE rfl HXL.out) (bv_one _) ?_)
  intro w7 HS7
  go_wp2_with (first | refine wl_ld HS7 2 rfl rfl 24 _ rfl rfl Tryd.underlying24 rfl (by kernel_rfl) ?_)
  (with_reducible refine Calls.mono (SB.out w7 _ (HS7.rd 3 rfl)) ?_)
  rintro e w8 ⟨rfl, b8⟩
  have HS8 := HS7.keep b8
  clear HS7
  go_wp2_with (first | refine wl_al HS8 rfl 26 rfl (bv (List.replicate 32 0)) (by kernel_rfl) ?_)
  intro g9 w9 HS9
  go_wp2_with (first | refine wl_st HS9 0 rfl rfl 26 _ _ rfl rfl rfl (dgS HXL.out) (dgE rfl HXL.out) (bv_one _) ?_)
  intro wa HSa
  go_wp2_with fail
  (with_reducible refine Calls.mono (RA.out wa _ HSa.hb (HSa.own 2 rfl).rd) ?_)
  rintro e wb ⟨rfl, bb⟩
  have HSb := HSa.keep bb
  clear HSa
  go_wp2_with fail
  (with_reducible refine Calls.mono (RB.out wb _ (HSb.rd 4 rfl)) ?_)
  rintro e wc ⟨rfl, bc⟩
  have HSc := HSb.keep bc
  clear HSb
  have q1 := HEY.out wc
  have q2 := HEX.out wc
  go_wp2_with (first | refine wl_ldg HSc 0 rfl 26 _ rfl rfl Tryd.underlying26 rfl (dgS HXL.out) rfl ?_ | refine wl_ldg HSc 1 rfl 26 _ rfl rfl Tryd.underlying26 rfl (dgS HXL.out) rfl ?_)
  (with_reducible refine Calls.mono (CM.out wc _ _ (HSc.own 2 rfl).rd (HSc.rd 4 rfl)) ?_)
  rintro e wd ⟨rfl, bd⟩
  have HSd := HSc.keep bd
  clear HSc
  go_wp2_with fail
  refine (names_04r wd).mono ?_
  rintro e2 we ⟨rfl, rfl⟩
  go_wp2
  go_ret
  exact ⟨rfl, HSd.hb⟩
set_option maxRecDepth 100000 in
theorem treeRoots_holds : Rows.TreeRootsCardSaid := treeRoots.card_of_walk fun H enc W base v0 v1 d0 d1 p0 p1 h0 k0 h1 k1 hsz hL => by
  obtain ⟨l, hR, hl, hll⟩ := open_dslice Tryd.underlying22 Tryd.underlying26 Tryd.underlying5 (by kernel_rfl) (by kernel_rfl) (by kernel_rfl) h0 k0 hsz 0 rfl rfl
  obtain ⟨b, e, rfl, _⟩ := open_span Tryd.underlying24 rfl rfl rfl rfl Tryd.underlying3 (by kernel_rfl) (by kernel_rfl) h1 k1
  exact treeRoots_walk l v0 b e W (table_of hL) hl hll hR
#print axioms treeRoots_holds
end Go.Proofs.YtbdmehgbdnninaaDoor
