/- Proved here: mirrors that no call made tell nothing, and take nothing (mirror.Mirror's Need, Feed, Known, Leaf, Tile, Synced). No condition. -/
import Derived.Test.YtlhebogbbkjahaaDoorMn
import Derived.Test.YtlhebogbbkjahaaDoorFMirrorNobody
namespace Go.Proofs.YtlhebogbbkjahaaDoor
open Go.RowKit Go.Shelf Cop
set_option linter.unusedVariables false
set_option linter.unusedSimpArgs false
theorem rf_intro {P : Program} {c : Code} {Q : Exit → Act → World → Prop} {a : Act} {w : World} (h : ∀ a0, a0 = a → c.wp P Q a0 w) : c.wp P Q a w := h a rfl
section
variable {w : World} {B : Nat}
theorem own_cellN {g n c : Nat} {e : TypeId} {size : Nat} {xs : List Value} (h : Ow w B e size (.slice (some ⟨g, 0, none⟩) n c) n xs) (j : Nat) {v : Value} (hv : xs[j]? = some v) : w.cell? ⟨g, j, none⟩ = some v := by
  obtain ⟨hl, A, c', he, _, _, _, hcell⟩ := h.rd
  have hn : 0 < n := by
    rcases Nat.eq_zero_or_pos n with h0 | h0
    · subst h0
      have := (List.getElem?_eq_some_iff.1 hv).1
      omega
    · exact h0
  obtain ⟨b, o, h1, hcl⟩ := hcell hn
  injection he with he1 _ _
  rcases h.2 with ⟨A', h2, h3⟩ | ⟨g', cap, cur, hc, h2, h3, h4, h5, h6, h7, h8⟩
  · omega
  · injection h2 with h2 _ _
    rw [← h8] at hv
    rw [List.getElem?_take] at hv
    split at hv
    · have hg : g = g' := by simpa using h2
      subst hg
      rw [cell_of_row _ _ _ _ _ _ h4]
      simpa using hv
    · cases hv
end
theorem ret_tmpDD {P : Program} {F : Fence} {n : Nat} {fn : Func} {R : Ending → World → Prop} {a : Act} {w : World} {p : Tmp} (h : fn.results = #[.tmp p]) (D E : Nat) (hd0 : a.defers = [{ target := .collected D, args := #[] }, { target := .collected E, args := #[] }]) (hD : w.heap[D]? = some (.deferred (some []))) (hE : w.heap[E]? = some (.deferred (some []))) (hne : E ≠ D)
    (hR : R (.returned (a.tmps.getD p undef)) ((w.putObj D (.deferred none)).putObj E (.deferred none))) : bodyPostM F n P fn R .ret a w := by
  show LeavesInM F n P fn a.tmps R a.defers .returning w
  rw [hd0]
  refine ⟨by simp, .inl ⟨_, _, rfl, run_takeDeferred hD, ?_⟩⟩
  refine ⟨by simp, .inl ⟨_, _, rfl, run_takeDeferred ((World.putObj_heap_other hne).trans hE), ?_⟩⟩
  exact ⟨_, results_tmp h _ _ _, hR⟩
theorem fn1_nil (f : FuncId) (bs : Array Value) (w : World) : (binOp .eql 86 (.func (.func f) #[] bs) .nilFunc).run Tryd.prog w = .ok (.bool false) w := by
  simp only [binOp, Op.equal]
  rw [show Op.maxDepth = 9999 + 1 from rfl]
  unfold Op.equalIn
  simp only [Sem.run_bind, run_underlying Tryd.underlying86, Result.andThen_ok, Sem.run_pure]
def ZM : Array Value := #[.int .i64 0, .string ⟨#[]⟩, .int .i64 0, .int .u8 0, .int .u8 0, .int .u8 0, .int .u8 0, .int .u8 0, .int .u8 0, .int .u8 0, .int .u8 0, .int .u8 0, .int .u8 0, .int .u8 0, .int .u8 0, .int .u8 0, .int .u8 0, .int .u8 0, .int .u8 0, .int .u8 0, .int .u8 0, .int .u8 0, .int .u8 0, .int .u8 0, .int .u8 0, .int .u8 0, .int .u8 0, .int .u8 0, .int .u8 0, .int .u8 0, .int .u8 0, .int .u8 0, .int .u8 0, .int .u8 0, .int .u8 0, .slice none 0 0, .map none, .int .i64 0, .bool false]
/-- What stays through the rounds. -/
structure Base (cs : Array Value) (g3 gr gs : Nat) (w : World) : Prop where
  r3 : w.heap[g3]? = some (.cells cs 76 (0, 0))
  rr : w.heap[gr]? = some (.cells ZM 83 (0, 0))
  c0 : w.cell? ⟨gs, 0, none⟩ = some (.pointer none)
  c1 : w.cell? ⟨gs, 1, none⟩ = some (.pointer (some ⟨gr, 0, none⟩))
theorem Base.below {cs : Array Value} {g3 gr gs : Nat} {w w' : World} (h : Base cs g3 gr gs w) (hb : Below w.heap.size w w') : Base cs g3 gr gs w' :=
  ⟨kept_row hb h.r3, kept_row hb h.rr, (World.cell?_of_block (w := w) (a := ⟨gs, 0, none⟩) (hb.block gs (cell_lt h.c0))).trans h.c0, (World.cell?_of_block (w := w) (a := ⟨gs, 1, none⟩) (hb.block gs (cell_lt h.c1))).trans h.c1⟩
set_option maxRecDepth 100000 in
set_option maxHeartbeats 16000000 in
theorem mirrorNobody_walk (t0 t1 t2 t3 bs lf s0 s1 s2 s3 : Value) (w : World) : Calls Tryd.prog 8 #[.agg #[t0, t1, t2, t3, bs, lf, s0, s1, s2, s3]] w fun e w' => e = .returned (.bool true) ∧ Below w.heap.size w w' := by
  have HS0 := Sep.start w
  have HQ := Lib.hid (fun w' : World => run_equal_bv (P := Tryd.prog) w' (d := 9998) Tryd.underlying33 Tryd.underlying5 (by kernel_rfl) (List.replicate 32 0) (List.replicate 32 0) rfl rfl)
  rw [decide_eq_true (rfl : (List.replicate 32 (0 : UInt8)) = List.replicate 32 0)] at HQ
  refine calls_marks Tryd.func8 rfl ?_
  simp only [Tryd.ntmps8, List.size_toArray, List.length_cons, List.length_nil, Nat.reduceAdd, Nat.reduceSub, Array.replicate_succ, Array.replicate_zero, List.push_toArray, List.append_toArray, List.nil_append, List.cons_append]
  go_wp2_with (first | refine wl_bx HS0 rfl 76 _ rfl #[t0, t1, t2, t3, bs, lf, s0, s1, s2, s3] rfl ?_)
  intro g3 v1 HS1
  clear HS0
  go_wp2_with (first | refine wl_bx HS1 rfl 83 _ rfl ZM rfl ?_)
  intro gr v3 HS3
  clear HS1
  go_wp2_with (first | refine wl_bs HS3 rfl 84 77 2 1 _ rfl [.pointer none, .pointer (some ⟨gr, 0, none⟩)] (.pointer none) Tryd.underlying84 (by kernel_rfl) (by decide) (by decide) (by kernel_rfl) rfl ?_)
  intro gs v4 HS4
  clear HS3
  have HK := Lib.hid (Base.mk (cs := #[t0, t1, t2, t3, bs, lf, s0, s1, s2, s3]) (g3 := g3) (gr := gr) (gs := gs) (HS4.row 2 rfl) (HS4.row 1 rfl) (own_cellN (HS4.own 0 rfl) 0 rfl) (own_cellN (HS4.own 0 rfl) 1 rfl))
  have HBX0 := Lib.hid HS4.hb
  clear HS4
  go_wp2
  refine loop_hid 2 ?_
  intro N1 HN1
  have hc0 := HK.out.c0
  have hp0 : NoM v4 none := .inl rfl
  have HA0 := Sep.start v4
  have HP := Lib.hid hp0
  clear hp0
  go_wp2_with (first | refine wlc_al HA0 rfl 3 rfl (.int .i64 0) rfl (by kernel_rfl) ?_)
  intro n0 a1 HA1
  clear HA0
  go_wp2_with (first | refine wl_stc HA1 0 rfl rfl 3 _ _ rfl (by kernel_rfl) 0 (by simp) (y := .int .i64 0) rfl rfl rfl rfl ?_)
  intro a2 HA2
  clear HA1
  go_wp2_with fail
  refine (need_v none a2).mono ?_
  rintro e a3 ⟨rfl, rfl⟩
  have hfn := fun W => fn1_nil 54 #[.pointer (some ⟨a2.heap.size, 0, none⟩)] W
  have HA3 := HA2.skip (.cells #[.pointer none] 77)
  generalize a2.alloc (.cells #[.pointer none] 77) = a4 at HA3 ⊢
  clear HA2
  go_wp2_with fail
  refine (need_v none a4).mono ?_
  rintro e a5 ⟨rfl, rfl⟩
  clear hfn
  have hcb : (a4.alloc (.cells #[.pointer none] 77)).cell? ⟨a4.heap.size, 0, none⟩ = some (.pointer none) := by
    rw [row_cell (heap_alloc_new a4 _) 0]; rfl
  have HA5 := HA3.skip (.cells #[.pointer none] 77)
  have hpx := HP.out.below HA5.hb
  clear HA3
  go_wp2_with fail
  refine rf_intro ?_
  intro a0 ha0
  refine (wpIn_wide (n := 9)).1 ?_
  refine wpIn_rangeFunc_ownH (F := Fence.wide) (α := Empty) rfl (by decide) (gf := 54) (lb := #[.pointer (some ⟨a4.heap.size, 0, none⟩)]) (by rw [ha0]; rfl) trivial (enters_of Tryd.func54 (by kernel_rfl) rfl)
    (need1_stops 8 _ none (fun _ _ => True) _ hcb hpx) (fun _ _ => trivial) (fun _ _ _ _ _ _ _ _ => trivial) (Below.refl _ _) (fun x => x.elim)
    (fun pre W => Sep v4.heap.size v4 W [.row n0 #[.int .i64 0] 3]) (fun _ _ _ => False)
    (ownFrom_sep HA5.hB (fun _ => [.row n0 #[.int .i64 0] 3])) (fun _ _ _ _ _ hs _ _ => hs) HA5 (fun _ _ _ => True) (fun x => x.elim)
    (fun _ _ x => x.elim) (fun _ _ x => x.elim) ?done0 (fun _ _ _ _ _ _ h _ => h.elim)
  case done0 =>
  rintro D0 ys a6 hD0 _ HSq hK
  have HKb := Lib.hid (HK.out.below HSq.hb)
  have HPb := Lib.hid (HP.out.below HSq.hb)
  have cn := (row_cell (HSq.row 0 rfl) 0).trans (show (#[Value.int .i64 0] : Array Value)[0]? = some (.int .i64 0) from rfl)
  have hnl := cell_lt cn
  have HCN := Lib.hid cn
  have HDD0 := Lib.hid hK
  
  have hbx0 := HBX0.out.trans (HSq.hb.mono HBX0.out.size)
  have HBY := Lib.hid hbx0
  have hDw0 : w.heap.size ≤ D0 := Nat.le_trans HBX0.out.size (Nat.le_trans HA5.hB hD0)
  
  clear hc0 hcb HA5 hpx HSq hK cn hbx0 HP hD0
  have HB0 := Sep.start a6
  rw [ha0]
  have cb := (row_cell HKb.out.r3 4).trans (show (#[t0, t1, t2, t3, bs, lf, s0, s1, s2, s3] : Array Value)[4]? = some bs from rfl)
  have HLT := Lib.hid (load_mid (P := Tryd.prog) HKb.out.r3 0 #[t0, t1, t2, t3] (by intro j hj; have : j < 4 := hj; match j, this with | 0, _ => rfl | 1, _ => rfl | 2, _ => rfl | 3, _ => rfl) 74 Tryd.underlying74 rfl (tile4 _ _ _ _))
  go_wp2_with (first | refine wl_ldx rfl 74 _ rfl _ rfl (.agg #[t0, t1, t2, t3]) HLT.out ?_)
  refine (feed_v none t0 t1 t2 t3 bs a6 HPb.out).mono ?_
  rintro e a7 ⟨rfl, b7⟩
  have HB1 := HB0.keep b7
  clear HB0 b7 cb
  go_wp2_with fail
  refine (known_v none a7 (HPb.out.below HB1.hb)).mono ?_
  rintro e a8 ⟨rfl, rfl⟩
  have cl := (row_cell (kept_row HB1.hb HKb.out.r3) 5).trans (show (#[t0, t1, t2, t3, bs, lf, s0, s1, s2, s3] : Array Value)[5]? = some lf from rfl)
  go_wp2_with fail
  refine (leafM_v none lf a8 (HPb.out.below HB1.hb)).mono ?_
  rintro e a9 ⟨rfl, b9⟩
  have HB2 := HB1.keep b9
  clear HB1 b9 cl
  go_wp2_with (first | refine wl_al HB2 rfl 33 rfl (bv (List.replicate 32 0)) (by kernel_rfl) ?_)
  intro d0 a10 HB3
  clear HB2
  go_wp2_with (first | refine wl_st HB3 0 rfl rfl 33 _ _ rfl rfl (cs := (bv (List.replicate 32 0))) rfl (dgz rfl) rfl (bv_one _) ?_)
  intro a11 HB4
  clear HB3
  have HLS := Lib.hid (load_mid (P := Tryd.prog) (kept_row HB4.hb HKb.out.r3) 6 #[s0, s1, s2, s3] (by intro j hj; have : j < 4 := hj; match j, this with | 0, _ => rfl | 1, _ => rfl | 2, _ => rfl | 3, _ => rfl) 74 Tryd.underlying74 rfl (tile4 _ _ _ _))
  go_wp2_with (first | refine wl_ldx rfl 74 _ rfl _ rfl (.agg #[s0, s1, s2, s3]) HLS.out ?_)
  refine (tileM_v none s0 s1 s2 s3 a11 (HPb.out.below HB4.hb)).mono ?_
  rintro e a12 ⟨rfl, b12⟩
  have HB7 := HB4.keep b12
  clear HB4 b12
  have cn := (World.cell?_of_block (w := a6) (a := ⟨n0, 0, none⟩) (HB7.hb.block n0 hnl)).trans HCN.out
  go_wp2_with fail
  refine (synced_v none a12 (HPb.out.below HB7.hb)).mono ?_
  rintro e a15 ⟨rfl, b15⟩
  have HB8 := HB7.keep b15
  clear HB7 b15 cn
  have e1 := HQ.out a15
  have e2 : (Op.equalIn (9998 + 2) 33 (.agg (bv (List.replicate 32 0))) (.agg #[.int .u8 0, .int .u8 0, .int .u8 0, .int .u8 0, .int .u8 0, .int .u8 0, .int .u8 0, .int .u8 0, .int .u8 0, .int .u8 0, .int .u8 0, .int .u8 0, .int .u8 0, .int .u8 0, .int .u8 0, .int .u8 0, .int .u8 0, .int .u8 0, .int .u8 0, .int .u8 0, .int .u8 0, .int .u8 0, .int .u8 0, .int .u8 0, .int .u8 0, .int .u8 0, .int .u8 0, .int .u8 0, .int .u8 0, .int .u8 0, .int .u8 0, .int .u8 0])).run Tryd.prog a15 = .ok true a15 := HQ.out a15
  have e3 : (Op.equalIn (9998 + 2) 33 (.agg #[.int .u8 0, .int .u8 0, .int .u8 0, .int .u8 0, .int .u8 0, .int .u8 0, .int .u8 0, .int .u8 0, .int .u8 0, .int .u8 0, .int .u8 0, .int .u8 0, .int .u8 0, .int .u8 0, .int .u8 0, .int .u8 0, .int .u8 0, .int .u8 0, .int .u8 0, .int .u8 0, .int .u8 0, .int .u8 0, .int .u8 0, .int .u8 0, .int .u8 0, .int .u8 0, .int .u8 0, .int .u8 0, .int .u8 0, .int .u8 0, .int .u8 0, .int .u8 0]) (.agg #[.int .u8 0, .int .u8 0, .int .u8 0, .int .u8 0, .int .u8 0, .int .u8 0, .int .u8 0, .int .u8 0, .int .u8 0, .int .u8 0, .int .u8 0, .int .u8 0, .int .u8 0, .int .u8 0, .int .u8 0, .int .u8 0, .int .u8 0, .int .u8 0, .int .u8 0, .int .u8 0, .int .u8 0, .int .u8 0, .int .u8 0, .int .u8 0, .int .u8 0, .int .u8 0, .int .u8 0, .int .u8 0, .int .u8 0, .int .u8 0, .int .u8 0, .int .u8 0])).run Tryd.prog a15 = .ok true a15 := HQ.out a15
  have e4 : (Op.equalIn (9998 + 2) 33 (.agg (bv [0, 0, 0, 0, 0, 0, 0, 0, 0, 0, 0, 0, 0, 0, 0, 0, 0, 0, 0, 0, 0, 0, 0, 0, 0, 0, 0, 0, 0, 0, 0, 0])) (.agg #[.int .u8 0, .int .u8 0, .int .u8 0, .int .u8 0, .int .u8 0, .int .u8 0, .int .u8 0, .int .u8 0, .int .u8 0, .int .u8 0, .int .u8 0, .int .u8 0, .int .u8 0, .int .u8 0, .int .u8 0, .int .u8 0, .int .u8 0, .int .u8 0, .int .u8 0, .int .u8 0, .int .u8 0, .int .u8 0, .int .u8 0, .int .u8 0, .int .u8 0, .int .u8 0, .int .u8 0, .int .u8 0, .int .u8 0, .int .u8 0, .int .u8 0, .int .u8 0])).run Tryd.prog a15 = .ok true a15 := HQ.out a15
  go_wp2_with (first | refine wl_ldg HB8 0 rfl 33 _ rfl rfl Tryd.underlying33 rfl (dgz rfl) rfl ?_)
  have HKN := Lib.hid (HKb.out.below HB8.hb)
  have HBN := Lib.hid (HBY.out.trans (HB8.hb.mono HBY.out.size))
  have HDX := Lib.hid ((HB8.hb.block D0 (Array.getElem?_eq_some_iff.1 HDD0.out).1).trans HDD0.out)
  
  clear e1 e2 e3 e4 HB8
  generalize a15 = a17 at *
  go_wp2
  refine HN1.out _ _ ?_
  refine rounds_hid 1 ?_
  intro N2 HN2
  have HK1 := HKN
  have HBX1 := HBN
  have hc1 := HK1.out.c1
  have hp1 : NoM a17 (some ⟨gr, 0, none⟩) := .inr ⟨gr, _, rfl, HK1.out.rr, rfl⟩
  have HA0 := Sep.start a17
  have HP := Lib.hid hp1
  clear hp1
  go_wp2_with (first | refine wlc_al HA0 rfl 3 rfl (.int .i64 0) rfl (by kernel_rfl) ?_)
  intro n1 b1 HA1
  clear HA0
  go_wp2_with (first | refine wl_stc HA1 0 rfl rfl 3 _ _ rfl (by kernel_rfl) 0 (by simp) (y := .int .i64 0) rfl rfl rfl rfl ?_)
  intro b2 HA2
  clear HA1
  go_wp2_with fail
  refine (need_v (some ⟨gr, 0, none⟩) b2).mono ?_
  rintro e b3 ⟨rfl, rfl⟩
  have hfn := fun W => fn1_nil 54 #[.pointer (some ⟨b2.heap.size, 0, none⟩)] W
  have HA3 := HA2.skip (.cells #[.pointer (some ⟨gr, 0, none⟩)] 77)
  generalize b2.alloc (.cells #[.pointer (some ⟨gr, 0, none⟩)] 77) = b4 at HA3 ⊢
  clear HA2
  go_wp2_with fail
  refine (need_v (some ⟨gr, 0, none⟩) b4).mono ?_
  rintro e b5 ⟨rfl, rfl⟩
  clear hfn
  have hcb : (b4.alloc (.cells #[.pointer (some ⟨gr, 0, none⟩)] 77)).cell? ⟨b4.heap.size, 0, none⟩ = some (.pointer (some ⟨gr, 0, none⟩)) := by
    rw [row_cell (heap_alloc_new b4 _) 0]; rfl
  have HA5 := HA3.skip (.cells #[.pointer (some ⟨gr, 0, none⟩)] 77)
  have hpx := HP.out.below HA5.hb
  clear HA3
  go_wp2_with fail
  refine rf_intro ?_
  intro a0 ha0
  refine (wpIn_wide (n := 9)).1 ?_
  refine wpIn_rangeFunc_ownH (F := Fence.wide) (α := Empty) rfl (by decide) (gf := 54) (lb := #[.pointer (some ⟨b4.heap.size, 0, none⟩)]) (by rw [ha0]; rfl) trivial (enters_of Tryd.func54 (by kernel_rfl) rfl)
    (need1_stops 8 _ (some ⟨gr, 0, none⟩) (fun _ _ => True) _ hcb hpx) (fun _ _ => trivial) (fun _ _ _ _ _ _ _ _ => trivial) (Below.refl _ _) (fun x => x.elim)
    (fun pre W => Sep a17.heap.size a17 W [.row n1 #[.int .i64 0] 3]) (fun _ _ _ => False)
    (ownFrom_sep HA5.hB (fun _ => [.row n1 #[.int .i64 0] 3])) (fun _ _ _ _ _ hs _ _ => hs) HA5 (fun _ _ _ => True) (fun x => x.elim)
    (fun _ _ x => x.elim) (fun _ _ x => x.elim) ?done1 (fun _ _ _ _ _ _ h _ => h.elim)
  case done1 =>
  rintro D1 ys b6 hD1 _ HSq hK
  have HK1b := Lib.hid (HK1.out.below HSq.hb)
  have HPb := Lib.hid (HP.out.below HSq.hb)
  have cn := (row_cell (HSq.row 0 rfl) 0).trans (show (#[Value.int .i64 0] : Array Value)[0]? = some (.int .i64 0) from rfl)
  have hnl := cell_lt cn
  have HCN := Lib.hid cn
  have HDD1 := Lib.hid hK
  have HDE0 := Lib.hid ((HSq.hb.block D0 (Array.getElem?_eq_some_iff.1 HDX.out).1).trans HDX.out)
  have hbx1 := HBX1.out.trans (HSq.hb.mono HBX1.out.size)
  have HBY := Lib.hid hbx1
  have hDw1 : w.heap.size ≤ D1 := Nat.le_trans HBX1.out.size (Nat.le_trans HA5.hB hD1)
  have hDne := Nat.ne_of_lt (Nat.lt_of_lt_of_le (Array.getElem?_eq_some_iff.1 HDX.out).1 (Nat.le_trans HA5.hB hD1))
  clear hc1 hcb HA5 hpx HSq hK cn hbx1 HP hD1
  have HB0 := Sep.start b6
  rw [ha0]
  have cb := (row_cell HK1b.out.r3 4).trans (show (#[t0, t1, t2, t3, bs, lf, s0, s1, s2, s3] : Array Value)[4]? = some bs from rfl)
  have HLT := Lib.hid (load_mid (P := Tryd.prog) HK1b.out.r3 0 #[t0, t1, t2, t3] (by intro j hj; have : j < 4 := hj; match j, this with | 0, _ => rfl | 1, _ => rfl | 2, _ => rfl | 3, _ => rfl) 74 Tryd.underlying74 rfl (tile4 _ _ _ _))
  go_wp2_with (first | refine wl_ldx rfl 74 _ rfl _ rfl (.agg #[t0, t1, t2, t3]) HLT.out ?_)
  refine (feed_v (some ⟨gr, 0, none⟩) t0 t1 t2 t3 bs b6 HPb.out).mono ?_
  rintro e b7 ⟨rfl, b7⟩
  have HB1 := HB0.keep b7
  clear HB0 b7 cb
  go_wp2_with fail
  refine (known_v (some ⟨gr, 0, none⟩) b7 (HPb.out.below HB1.hb)).mono ?_
  rintro e b8 ⟨rfl, rfl⟩
  have cl := (row_cell (kept_row HB1.hb HK1b.out.r3) 5).trans (show (#[t0, t1, t2, t3, bs, lf, s0, s1, s2, s3] : Array Value)[5]? = some lf from rfl)
  go_wp2_with fail
  refine (leafM_v (some ⟨gr, 0, none⟩) lf b8 (HPb.out.below HB1.hb)).mono ?_
  rintro e b9 ⟨rfl, b9⟩
  have HB2 := HB1.keep b9
  clear HB1 b9 cl
  go_wp2_with (first | refine wl_al HB2 rfl 33 rfl (bv (List.replicate 32 0)) (by kernel_rfl) ?_)
  intro d1 b10 HB3
  clear HB2
  go_wp2_with (first | refine wl_st HB3 0 rfl rfl 33 _ _ rfl rfl (cs := (bv (List.replicate 32 0))) rfl (dgz rfl) rfl (bv_one _) ?_)
  intro b11 HB4
  clear HB3
  have HLS := Lib.hid (load_mid (P := Tryd.prog) (kept_row HB4.hb HK1b.out.r3) 6 #[s0, s1, s2, s3] (by intro j hj; have : j < 4 := hj; match j, this with | 0, _ => rfl | 1, _ => rfl | 2, _ => rfl | 3, _ => rfl) 74 Tryd.underlying74 rfl (tile4 _ _ _ _))
  go_wp2_with (first | refine wl_ldx rfl 74 _ rfl _ rfl (.agg #[s0, s1, s2, s3]) HLS.out ?_)
  refine (tileM_v (some ⟨gr, 0, none⟩) s0 s1 s2 s3 b11 (HPb.out.below HB4.hb)).mono ?_
  rintro e b12 ⟨rfl, b12⟩
  have HB7 := HB4.keep b12
  clear HB4 b12
  have cn := (World.cell?_of_block (w := b6) (a := ⟨n1, 0, none⟩) (HB7.hb.block n1 hnl)).trans HCN.out
  go_wp2_with fail
  refine (synced_v (some ⟨gr, 0, none⟩) b12 (HPb.out.below HB7.hb)).mono ?_
  rintro e b15 ⟨rfl, b15⟩
  have HB8 := HB7.keep b15
  clear HB7 b15 cn
  have e1 := HQ.out b15
  have e2 : (Op.equalIn (9998 + 2) 33 (.agg (bv (List.replicate 32 0))) (.agg #[.int .u8 0, .int .u8 0, .int .u8 0, .int .u8 0, .int .u8 0, .int .u8 0, .int .u8 0, .int .u8 0, .int .u8 0, .int .u8 0, .int .u8 0, .int .u8 0, .int .u8 0, .int .u8 0, .int .u8 0, .int .u8 0, .int .u8 0, .int .u8 0, .int .u8 0, .int .u8 0, .int .u8 0, .int .u8 0, .int .u8 0, .int .u8 0, .int .u8 0, .int .u8 0, .int .u8 0, .int .u8 0, .int .u8 0, .int .u8 0, .int .u8 0, .int .u8 0])).run Tryd.prog b15 = .ok true b15 := HQ.out b15
  have e3 : (Op.equalIn (9998 + 2) 33 (.agg #[.int .u8 0, .int .u8 0, .int .u8 0, .int .u8 0, .int .u8 0, .int .u8 0, .int .u8 0, .int .u8 0, .int .u8 0, .int .u8 0, .int .u8 0, .int .u8 0, .int .u8 0, .int .u8 0, .int .u8 0, .int .u8 0, .int .u8 0, .int .u8 0, .int .u8 0, .int .u8 0, .int .u8 0, .int .u8 0, .int .u8 0, .int .u8 0, .int .u8 0, .int .u8 0, .int .u8 0, .int .u8 0, .int .u8 0, .int .u8 0, .int .u8 0, .int .u8 0]) (.agg #[.int .u8 0, .int .u8 0, .int .u8 0, .int .u8 0, .int .u8 0, .int .u8 0, .int .u8 0, .int .u8 0, .int .u8 0, .int .u8 0, .int .u8 0, .int .u8 0, .int .u8 0, .int .u8 0, .int .u8 0, .int .u8 0, .int .u8 0, .int .u8 0, .int .u8 0, .int .u8 0, .int .u8 0, .int .u8 0, .int .u8 0, .int .u8 0, .int .u8 0, .int .u8 0, .int .u8 0, .int .u8 0, .int .u8 0, .int .u8 0, .int .u8 0, .int .u8 0])).run Tryd.prog b15 = .ok true b15 := HQ.out b15
  have e4 : (Op.equalIn (9998 + 2) 33 (.agg (bv [0, 0, 0, 0, 0, 0, 0, 0, 0, 0, 0, 0, 0, 0, 0, 0, 0, 0, 0, 0, 0, 0, 0, 0, 0, 0, 0, 0, 0, 0, 0, 0])) (.agg #[.int .u8 0, .int .u8 0, .int .u8 0, .int .u8 0, .int .u8 0, .int .u8 0, .int .u8 0, .int .u8 0, .int .u8 0, .int .u8 0, .int .u8 0, .int .u8 0, .int .u8 0, .int .u8 0, .int .u8 0, .int .u8 0, .int .u8 0, .int .u8 0, .int .u8 0, .int .u8 0, .int .u8 0, .int .u8 0, .int .u8 0, .int .u8 0, .int .u8 0, .int .u8 0, .int .u8 0, .int .u8 0, .int .u8 0, .int .u8 0, .int .u8 0, .int .u8 0])).run Tryd.prog b15 = .ok true b15 := HQ.out b15
  go_wp2_with (first | refine wl_ldg HB8 0 rfl 33 _ rfl rfl Tryd.underlying33 rfl (dgz rfl) rfl ?_)
  have HKN := Lib.hid (HK1b.out.below HB8.hb)
  have HBN := Lib.hid (HBY.out.trans (HB8.hb.mono HBY.out.size))
  have HDX0 := Lib.hid ((HB8.hb.block D0 (Array.getElem?_eq_some_iff.1 HDE0.out).1).trans HDE0.out)
  have HDX1 := Lib.hid ((HB8.hb.block D1 (Array.getElem?_eq_some_iff.1 HDD1.out).1).trans HDD1.out)
  clear e1 e2 e3 e4 HB8
  skip
  go_wp2
  refine HN2.out _ _ ?_
  refine rounds_hid 0 ?_
  intro N3 HN3
  go_wp2
  have hE := HDX0.out
  have hD := HDX1.out
  exact ret_tmpDD rfl D1 D0 rfl hD hE hDne ⟨rfl, (HBN.out.trans (belowK_b (n₀ := w.heap.size) (w := w) (Nat.le_refl _) _ D1 _ _ hDw1 hD rfl rfl)).trans (belowK_b (n₀ := w.heap.size) (w := w) (Nat.le_refl _) _ D0 _ _ hDw0 ((World.putObj_heap_other hDne).trans hE) rfl rfl)⟩
set_option maxRecDepth 100000 in
theorem mirrorNobody_holds : Rows.MirrorNobodyCardSaid := mirrorNobody.card_of_walk fun H enc W base v0 d0 p0 h0 k0 hsz hL => by
  obtain ⟨cs1, rfl, hs1⟩ := Go.WideShapes.okWide_struct Tryd.underlying76 k0
  obtain ⟨l⟩ := cs1
  have hs2 : l.length = 10 := by
    have h9 : Tryd.prog.cellsOf 76 = 10 := by kernel_rfl
    rw [h9] at hs1
    simpa using hs1
  match l, hs2 with
  | [t0, t1, t2, t3, bs, lf, s0, s1, s2, s3], _ => exact mirrorNobody_walk t0 t1 t2 t3 bs lf s0 s1 s2 s3 W
#print axioms mirrorNobody_holds
end Go.Proofs.YtlhebogbbkjahaaDoor
