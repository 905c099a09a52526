/- Proved here: ranges that no call made tell nothing, and take nothing (compact.Range's Span, Len, All, Root, Append, AppendNode, Merge, Clone, Bytes). No condition. -/
import Derived.Test.YtlhebogbbkjahaaDoorNn
import Derived.Test.YtlhebogbbkjahaaDoorFCompactNobody
namespace Go.Proofs.YtlhebogbbkjahaaDoor
open Go.RowKit Go.Shelf Cop
set_option linter.unusedVariables false
set_option linter.unusedSimpArgs false
theorem rf_intro {P : Program} {c : Code} {Q : Exit → Act → World → Prop} {a : Act} {w : World} (h : ∀ a0, a0 = a → c.wp P Q a0 w) : c.wp P Q a w := h a rfl
section
variable {w : World} {B : Nat}
theorem own_cellN {g n c : Nat} {e : TypeId} {size : Nat} {xs : List Value} (h : Ow w B e size (.slice (some ⟨g, 0, none⟩) n c) n xs) (j : Nat) {v : Value} (hv : xs[j]? = some v) : w.cell? ⟨g, j, none⟩ = some v := by
  obtain ⟨hl, A, c', he, _, _, _, hcell⟩ := h.rd
  have hn : 0 < n := by
    rcases Nat.eq_zero_or_pos n with h0 | h0
    · subst h0
      have := (List.getElem?_eq_some_iff.1 hv).1
      omega
    · exact h0
  obtain ⟨b, o, h1, hcl⟩ := hcell hn
  injection he with he1 _ _
  rcases h.2 with ⟨A', h2, h3⟩ | ⟨g', cap, cur, hc, h2, h3, h4, h5, h6, h7, h8⟩
  · omega
  · injection h2 with h2 _ _
    rw [← h8] at hv
    rw [List.getElem?_take] at hv
    split at hv
    · have hg : g = g' := by simpa using h2
      subst hg
      rw [cell_of_row _ _ _ _ _ _ h4]
      simpa using hv
    · cases hv
end
theorem ret_tmpDD {P : Program} {F : Fence} {n : Nat} {fn : Func} {R : Ending → World → Prop} {a : Act} {w : World} {p : Tmp} (h : fn.results = #[.tmp p]) (D E : Nat) (hd0 : a.defers = [{ target := .collected D, args := #[] }, { target := .collected E, args := #[] }]) (hD : w.heap[D]? = some (.deferred (some []))) (hE : w.heap[E]? = some (.deferred (some []))) (hne : E ≠ D)
    (hR : R (.returned (a.tmps.getD p undef)) ((w.putObj D (.deferred none)).putObj E (.deferred none))) : bodyPostM F n P fn R .ret a w := by
  show LeavesInM F n P fn a.tmps R a.defers .returning w
  rw [hd0]
  refine ⟨by simp, .inl ⟨_, _, rfl, run_takeDeferred hD, ?_⟩⟩
  refine ⟨by simp, .inl ⟨_, _, rfl, run_takeDeferred ((World.putObj_heap_other hne).trans hE), ?_⟩⟩
  exact ⟨_, results_tmp h _ _ _, hR⟩
theorem fn2_nil (f : FuncId) (bs : Array Value) (w : World) : (binOp .eql 28 (.func (.func f) #[] bs) .nilFunc).run Tryd.prog w = .ok (.bool false) w := by
  simp only [binOp, Op.equal]
  rw [show Op.maxDepth = 9999 + 1 from rfl]
  unfold Op.equalIn
  simp only [Sem.run_bind, run_underlying Tryd.underlying28, Result.andThen_ok, Sem.run_pure]
/-- What stays through the rounds. -/
structure Base (d : List UInt8) (g3 go gr gs : Nat) (w : World) : Prop where
  r3 : w.heap[g3]? = some (.cells (bv d) 33 (0, 0))
  ro : w.heap[go]? = some (.cells #[.bool true, .int .i64 0, .int .i64 0, .slice none 0 0] 61 (0, 0))
  rr : w.heap[gr]? = some (.cells #[.bool false, .int .i64 0, .int .i64 0, .slice none 0 0] 61 (0, 0))
  c0 : w.cell? ⟨gs, 0, none⟩ = some (.pointer none)
  c1 : w.cell? ⟨gs, 1, none⟩ = some (.pointer (some ⟨gr, 0, none⟩))
theorem Base.below {d : List UInt8} {g3 go gr gs : Nat} {w w' : World} (h : Base d g3 go gr gs w) (hb : Below w.heap.size w w') : Base d g3 go gr gs w' :=
  ⟨kept_row hb h.r3, kept_row hb h.ro, kept_row hb h.rr, (World.cell?_of_block (w := w) (a := ⟨gs, 0, none⟩) (hb.block gs (cell_lt h.c0))).trans h.c0, (World.cell?_of_block (w := w) (a := ⟨gs, 1, none⟩) (hb.block gs (cell_lt h.c1))).trans h.c1⟩
theorem len_n (g : Nat) (w : World) (h : w.heap[g]? = some (.cells #[.bool true, .int .i64 0, .int .i64 0, .slice none 0 0] 61 (0, 0))) : Calls Tryd.prog 25 #[.pointer (some ⟨g, 0, none⟩)] w fun e w' => e = .returned (.int .i64 0) ∧ w' = w := by
  have c0 := (row_cell h 0).trans (show (#[.bool true, .int .i64 0, .int .i64 0, .slice none 0 0] : Array Value)[0]? = some (.bool true) from rfl)
  have c3 := (row_cell h 3).trans (show (#[.bool true, .int .i64 0, .int .i64 0, .slice none 0 0] : Array Value)[3]? = some (.slice none 0 0) from rfl)
  have HC := Lib.hid c0
  clear c0 h
  go_enter Tryd.func25, Tryd.ntmps25
  go_wp2_with fail
  refine (none_f g _ HC.out).mono ?_
  rintro e w2 ⟨rfl, rfl⟩
  go_wp2
  go_ret
  exact ⟨rfl, rfl⟩
set_option maxRecDepth 100000 in
set_option maxHeartbeats 8000000 in
theorem compactNobody_walk (level : Int) (d : List UInt8) (hd : d.length = 32) (w : World) : Calls Tryd.prog 5 #[.int .i64 level, .agg (bv d)] w fun e w' => e = .returned (.bool true) ∧ Below w.heap.size w w' := by
  have HS0 := Sep.start w
  have HQ := Lib.hid (fun w' : World => run_equal_bv (P := Tryd.prog) w' (d := 9998) Tryd.underlying33 Tryd.underlying5 (by kernel_rfl) (List.replicate 32 0) (List.replicate 32 0) rfl rfl)
  rw [decide_eq_true (rfl : (List.replicate 32 (0 : UInt8)) = List.replicate 32 0)] at HQ
  have HSP := Lib.hid (fun w' : World => trivial)
  refine calls_marks Tryd.func5 rfl ?_
  simp only [Tryd.ntmps5, List.size_toArray, List.length_cons, List.length_nil, Nat.reduceAdd, Nat.reduceSub, Array.replicate_succ, Array.replicate_zero, List.push_toArray, List.append_toArray, List.nil_append, List.cons_append]
  go_wp2_with (first | refine wl_bx HS0 rfl 33 _ rfl (bv d) rfl ?_)
  intro g3 v1 HS1
  clear HS0
  go_wp2_with fail
  refine (new_c 0 (by decide) (by decide) HS1).mono ?_
  rintro e v2 ⟨go, rfl, HS2⟩
  clear HS1
  go_wp2_with (first | refine wl_bx HS2 rfl 61 _ rfl #[.bool false, .int .i64 0, .int .i64 0, .slice none 0 0] rfl ?_)
  intro gr v3 HS3
  clear HS2
  go_wp2_with (first | refine wl_bs HS3 rfl 62 23 2 1 _ rfl [.pointer none, .pointer (some ⟨gr, 0, none⟩)] (.pointer none) Tryd.underlying62 (by kernel_rfl) (by decide) (by decide) (by kernel_rfl) rfl ?_)
  intro gs v4 HS4
  clear HS3
  have HK := Lib.hid (Base.mk (d := d) (g3 := g3) (go := go) (gr := gr) (gs := gs) (HS4.row 3 rfl) (HS4.row 2 rfl) (HS4.row 1 rfl) (own_cellN (HS4.own 0 rfl) 0 rfl) (own_cellN (HS4.own 0 rfl) 1 rfl))
  have HBX0 := Lib.hid HS4.hb
  clear HS4
  go_wp2
  refine loop_hid 2 ?_
  intro N1 HN1
  have hc0 := HK.out.c0
  have hp0 : NoR v4 none := .inl rfl
  have HA0 := Sep.start v4
  have HP := Lib.hid hp0
  clear hp0
  go_wp2_with (first | refine wlc_al HA0 rfl 3 rfl (.int .i64 0) rfl (by kernel_rfl) ?_)
  intro n0 a1 HA1
  clear HA0
  go_wp2_with (first | refine wl_stc HA1 0 rfl rfl 3 _ _ rfl (by kernel_rfl) 0 (by simp) (y := .int .i64 0) rfl rfl rfl rfl ?_)
  intro a2 HA2
  clear HA1
  go_wp2_with fail
  refine (all_v none a2).mono ?_
  rintro e a3 ⟨rfl, rfl⟩
  have hfn := fun W => fn2_nil 36 #[.pointer (some ⟨a2.heap.size, 0, none⟩)] W
  have HA3 := HA2.skip (.cells #[.pointer none] 23)
  generalize a2.alloc (.cells #[.pointer none] 23) = a4 at HA3 ⊢
  clear HA2
  go_wp2_with fail
  refine (all_v none a4).mono ?_
  rintro e a5 ⟨rfl, rfl⟩
  clear hfn
  have hcb : (a4.alloc (.cells #[.pointer none] 23)).cell? ⟨a4.heap.size, 0, none⟩ = some (.pointer none) := by
    rw [row_cell (heap_alloc_new a4 _) 0]; rfl
  have HA5 := HA3.skip (.cells #[.pointer none] 23)
  have hpx := HP.out.below HA5.hb
  clear HA3
  go_wp2_with fail
  refine rf_intro ?_
  intro a0 ha0
  refine (wpIn_wide (n := 9)).1 ?_
  refine wpIn_rangeFunc_ownH (F := Fence.wide) (α := Empty) rfl (by decide) (gf := 36) (lb := #[.pointer (some ⟨a4.heap.size, 0, none⟩)]) (by rw [ha0]; rfl) trivial (enters_of Tryd.func36 (by kernel_rfl) rfl)
    (all1_stops 8 _ none (fun _ _ => True) _ hcb hpx) (fun _ _ => trivial) (fun _ _ _ _ _ _ _ _ => trivial) (Below.refl _ _) (fun x => x.elim)
    (fun pre W => Sep v4.heap.size v4 W [.row n0 #[.int .i64 0] 3]) (fun _ _ _ => False)
    (ownFrom_sep HA5.hB (fun _ => [.row n0 #[.int .i64 0] 3])) (fun _ _ _ _ _ hs _ _ => hs) HA5 (fun _ _ _ => True) (fun x => x.elim)
    (fun _ _ x => x.elim) (fun _ _ x => x.elim) ?done0 (fun _ _ _ _ _ _ h _ => h.elim)
  case done0 =>
  rintro D0 ys a6 hD0 _ HSq hK
  have HKb := Lib.hid (HK.out.below HSq.hb)
  have HPb := Lib.hid (HP.out.below HSq.hb)
  have cn := (row_cell (HSq.row 0 rfl) 0).trans (show (#[Value.int .i64 0] : Array Value)[0]? = some (.int .i64 0) from rfl)
  have hnl := cell_lt cn
  have HCN := Lib.hid cn
  have HDD0 := Lib.hid hK
  
  have hbx0 := HBX0.out.trans (HSq.hb.mono HBX0.out.size)
  have HBY := Lib.hid hbx0
  have hDw0 : w.heap.size ≤ D0 := Nat.le_trans HBX0.out.size (Nat.le_trans HA5.hB hD0)
  
  clear hc0 hcb HA5 hpx HSq hK cn hbx0 HP hD0
  have HB0 := Sep.start a6
  rw [ha0]
  go_wp2_with fail
  refine (root_v none a6 HPb.out).mono ?_
  rintro e a7 ⟨rfl, b7⟩
  have HB1 := HB0.keep b7
  clear HB0 b7
  go_wp2_with (first | refine wl_al HB1 rfl 33 rfl (bv (List.replicate 32 0)) (by kernel_rfl) ?_)
  intro d0 a8 HB2
  clear HB1
  go_wp2_with (first | refine wl_st HB2 0 rfl rfl 33 _ _ rfl rfl (cs := (bv (List.replicate 32 0))) rfl (dgz rfl) rfl (bv_one _) ?_)
  intro a9 HB3
  clear HB2
  go_wp2_with (first | refine wl_ldx rfl 33 _ rfl _ rfl (.agg (bv d)) (load_row (kept_row HB3.hb HKb.out.r3) 33 Tryd.underlying33 rfl (dgz hd)) ?_)
  refine (append_v none d hd a9 (HPb.out.below HB3.hb)).mono ?_
  rintro e a10 ⟨rfl, b10⟩
  have HB4 := HB3.keep b10
  clear HB3 b10
  go_wp2_with (first | refine wl_ldxg 33 _ rfl _ rfl (.agg (bv d)) (load_row (kept_row HB4.hb HKb.out.r3) 33 Tryd.underlying33 rfl (dgz hd)) rfl ?_)
  refine (appendNode_v none level d hd a10 (HPb.out.below HB4.hb)).mono ?_
  rintro e a11 ⟨rfl, b11⟩
  have HB5 := HB4.keep b11
  clear HB4 b11
  go_wp2_with fail
  refine (merge_vl none _ a11 (HPb.out.below HB5.hb)).mono ?_
  rintro e a12 ⟨rfl, b12⟩
  have HB6 := HB5.keep b12
  clear HB5 b12
  go_wp2_with fail
  refine (merge_vr go none a12 (by rw [row_cell (kept_row HB6.hb HKb.out.ro)]; rfl) (HPb.out.below HB6.hb)).mono ?_
  rintro e a13 ⟨rfl, b13⟩
  have HB7 := HB6.keep b13
  clear HB6 b13
  go_wp2_with fail
  refine (span_v none a13 (HPb.out.below HB7.hb)).mono ?_
  rintro e a14 ⟨rfl, b14⟩
  have HB8 := HB7.keep b14
  clear HB7 b14
  have hsp := HSP.out a14
  go_wp2_with fail
  refine (len_v none a14 (HPb.out.below HB8.hb)).mono ?_
  rintro e a15 ⟨rfl, rfl⟩
  have cn := (World.cell?_of_block (w := a6) (a := ⟨n0, 0, none⟩) (HB8.hb.block n0 hnl)).trans HCN.out
  have e1 := HQ.out a15
  have e2 : (Op.equalIn (9998 + 2) 33 (.agg (bv (List.replicate 32 0))) (.agg #[.int .u8 0, .int .u8 0, .int .u8 0, .int .u8 0, .int .u8 0, .int .u8 0, .int .u8 0, .int .u8 0, .int .u8 0, .int .u8 0, .int .u8 0, .int .u8 0, .int .u8 0, .int .u8 0, .int .u8 0, .int .u8 0, .int .u8 0, .int .u8 0, .int .u8 0, .int .u8 0, .int .u8 0, .int .u8 0, .int .u8 0, .int .u8 0, .int .u8 0, .int .u8 0, .int .u8 0, .int .u8 0, .int .u8 0, .int .u8 0, .int .u8 0, .int .u8 0])).run Tryd.prog a15 = .ok true a15 := HQ.out a15
  have e3 : (Op.equalIn (9998 + 2) 33 (.agg #[.int .u8 0, .int .u8 0, .int .u8 0, .int .u8 0, .int .u8 0, .int .u8 0, .int .u8 0, .int .u8 0, .int .u8 0, .int .u8 0, .int .u8 0, .int .u8 0, .int .u8 0, .int .u8 0, .int .u8 0, .int .u8 0, .int .u8 0, .int .u8 0, .int .u8 0, .int .u8 0, .int .u8 0, .int .u8 0, .int .u8 0, .int .u8 0, .int .u8 0, .int .u8 0, .int .u8 0, .int .u8 0, .int .u8 0, .int .u8 0, .int .u8 0, .int .u8 0]) (.agg #[.int .u8 0, .int .u8 0, .int .u8 0, .int .u8 0, .int .u8 0, .int .u8 0, .int .u8 0, .int .u8 0, .int .u8 0, .int .u8 0, .int .u8 0, .int .u8 0, .int .u8 0, .int .u8 0, .int .u8 0, .int .u8 0, .int .u8 0, .int .u8 0, .int .u8 0, .int .u8 0, .int .u8 0, .int .u8 0, .int .u8 0, .int .u8 0, .int .u8 0, .int .u8 0, .int .u8 0, .int .u8 0, .int .u8 0, .int .u8 0, .int .u8 0, .int .u8 0])).run Tryd.prog a15 = .ok true a15 := HQ.out a15
  have e4 : (Op.equalIn (9998 + 2) 33 (.agg (bv [0, 0, 0, 0, 0, 0, 0, 0, 0, 0, 0, 0, 0, 0, 0, 0, 0, 0, 0, 0, 0, 0, 0, 0, 0, 0, 0, 0, 0, 0, 0, 0])) (.agg #[.int .u8 0, .int .u8 0, .int .u8 0, .int .u8 0, .int .u8 0, .int .u8 0, .int .u8 0, .int .u8 0, .int .u8 0, .int .u8 0, .int .u8 0, .int .u8 0, .int .u8 0, .int .u8 0, .int .u8 0, .int .u8 0, .int .u8 0, .int .u8 0, .int .u8 0, .int .u8 0, .int .u8 0, .int .u8 0, .int .u8 0, .int .u8 0, .int .u8 0, .int .u8 0, .int .u8 0, .int .u8 0, .int .u8 0, .int .u8 0, .int .u8 0, .int .u8 0])).run Tryd.prog a15 = .ok true a15 := HQ.out a15
  go_wp2_with (first | refine wl_ldg HB8 0 rfl 33 _ rfl rfl Tryd.underlying33 rfl (dgz rfl) rfl ?_)
  refine (clone_v none a15 (HPb.out.below HB8.hb)).mono ?_
  rintro e a16 ⟨rfl, rfl⟩
  go_wp2_with fail
  refine (bytes_v none a16 (HPb.out.below HB8.hb)).mono ?_
  rintro e a17 ⟨rfl, rfl⟩
  have HKN := Lib.hid (HKb.out.below HB8.hb)
  have HBN := Lib.hid (HBY.out.trans (HB8.hb.mono HBY.out.size))
  have HDX := Lib.hid ((HB8.hb.block D0 (Array.getElem?_eq_some_iff.1 HDD0.out).1).trans HDD0.out)
  
  clear e1 e2 e3 e4 cn HB8 hsp
  go_wp2
  refine HN1.out _ _ ?_
  refine rounds_hid 1 ?_
  intro N2 HN2
  have HK1 := HKN
  have HBX1 := HBN
  have hc1 := HK1.out.c1
  have hp1 : NoR a17 (some ⟨gr, 0, none⟩) := .inr ⟨gr, rfl, HK1.out.rr⟩
  have HA0 := Sep.start a17
  have HP := Lib.hid hp1
  clear hp1
  go_wp2_with (first | refine wlc_al HA0 rfl 3 rfl (.int .i64 0) rfl (by kernel_rfl) ?_)
  intro n1 b1 HA1
  clear HA0
  go_wp2_with (first | refine wl_stc HA1 0 rfl rfl 3 _ _ rfl (by kernel_rfl) 0 (by simp) (y := .int .i64 0) rfl rfl rfl rfl ?_)
  intro b2 HA2
  clear HA1
  go_wp2_with fail
  refine (all_v (some ⟨gr, 0, none⟩) b2).mono ?_
  rintro e b3 ⟨rfl, rfl⟩
  have hfn := fun W => fn2_nil 36 #[.pointer (some ⟨b2.heap.size, 0, none⟩)] W
  have HA3 := HA2.skip (.cells #[.pointer (some ⟨gr, 0, none⟩)] 23)
  generalize b2.alloc (.cells #[.pointer (some ⟨gr, 0, none⟩)] 23) = b4 at HA3 ⊢
  clear HA2
  go_wp2_with fail
  refine (all_v (some ⟨gr, 0, none⟩) b4).mono ?_
  rintro e b5 ⟨rfl, rfl⟩
  clear hfn
  have hcb : (b4.alloc (.cells #[.pointer (some ⟨gr, 0, none⟩)] 23)).cell? ⟨b4.heap.size, 0, none⟩ = some (.pointer (some ⟨gr, 0, none⟩)) := by
    rw [row_cell (heap_alloc_new b4 _) 0]; rfl
  have HA5 := HA3.skip (.cells #[.pointer (some ⟨gr, 0, none⟩)] 23)
  have hpx := HP.out.below HA5.hb
  clear HA3
  go_wp2_with fail
  refine rf_intro ?_
  intro a0 ha0
  refine (wpIn_wide (n := 9)).1 ?_
  refine wpIn_rangeFunc_ownH (F := Fence.wide) (α := Empty) rfl (by decide) (gf := 36) (lb := #[.pointer (some ⟨b4.heap.size, 0, none⟩)]) (by rw [ha0]; rfl) trivial (enters_of Tryd.func36 (by kernel_rfl) rfl)
    (all1_stops 8 _ (some ⟨gr, 0, none⟩) (fun _ _ => True) _ hcb hpx) (fun _ _ => trivial) (fun _ _ _ _ _ _ _ _ => trivial) (Below.refl _ _) (fun x => x.elim)
    (fun pre W => Sep a17.heap.size a17 W [.row n1 #[.int .i64 0] 3]) (fun _ _ _ => False)
    (ownFrom_sep HA5.hB (fun _ => [.row n1 #[.int .i64 0] 3])) (fun _ _ _ _ _ hs _ _ => hs) HA5 (fun _ _ _ => True) (fun x => x.elim)
    (fun _ _ x => x.elim) (fun _ _ x => x.elim) ?done1 (fun _ _ _ _ _ _ h _ => h.elim)
  case done1 =>
  rintro D1 ys b6 hD1 _ HSq hK
  have HK1b := Lib.hid (HK1.out.below HSq.hb)
  have HPb := Lib.hid (HP.out.below HSq.hb)
  have cn := (row_cell (HSq.row 0 rfl) 0).trans (show (#[Value.int .i64 0] : Array Value)[0]? = some (.int .i64 0) from rfl)
  have hnl := cell_lt cn
  have HCN := Lib.hid cn
  have HDD1 := Lib.hid hK
  have HDE0 := Lib.hid ((HSq.hb.block D0 (Array.getElem?_eq_some_iff.1 HDX.out).1).trans HDX.out)
  have hbx1 := HBX1.out.trans (HSq.hb.mono HBX1.out.size)
  have HBY := Lib.hid hbx1
  have hDw1 : w.heap.size ≤ D1 := Nat.le_trans HBX1.out.size (Nat.le_trans HA5.hB hD1)
  have hDne := Nat.ne_of_lt (Nat.lt_of_lt_of_le (Array.getElem?_eq_some_iff.1 HDX.out).1 (Nat.le_trans HA5.hB hD1))
  clear hc1 hcb HA5 hpx HSq hK cn hbx1 HP hD1
  have HB0 := Sep.start b6
  rw [ha0]
  go_wp2_with fail
  refine (root_v (some ⟨gr, 0, none⟩) b6 HPb.out).mono ?_
  rintro e b7 ⟨rfl, b7⟩
  have HB1 := HB0.keep b7
  clear HB0 b7
  go_wp2_with (first | refine wl_al HB1 rfl 33 rfl (bv (List.replicate 32 0)) (by kernel_rfl) ?_)
  intro d1 b8 HB2
  clear HB1
  go_wp2_with (first | refine wl_st HB2 0 rfl rfl 33 _ _ rfl rfl (cs := (bv (List.replicate 32 0))) rfl (dgz rfl) rfl (bv_one _) ?_)
  intro b9 HB3
  clear HB2
  go_wp2_with (first | refine wl_ldx rfl 33 _ rfl _ rfl (.agg (bv d)) (load_row (kept_row HB3.hb HK1b.out.r3) 33 Tryd.underlying33 rfl (dgz hd)) ?_)
  refine (append_v (some ⟨gr, 0, none⟩) d hd b9 (HPb.out.below HB3.hb)).mono ?_
  rintro e b10 ⟨rfl, b10⟩
  have HB4 := HB3.keep b10
  clear HB3 b10
  go_wp2_with (first | refine wl_ldxg 33 _ rfl _ rfl (.agg (bv d)) (load_row (kept_row HB4.hb HK1b.out.r3) 33 Tryd.underlying33 rfl (dgz hd)) rfl ?_)
  refine (appendNode_v (some ⟨gr, 0, none⟩) level d hd b10 (HPb.out.below HB4.hb)).mono ?_
  rintro e b11 ⟨rfl, b11⟩
  have HB5 := HB4.keep b11
  clear HB4 b11
  go_wp2_with fail
  refine (merge_vl (some ⟨gr, 0, none⟩) _ b11 (HPb.out.below HB5.hb)).mono ?_
  rintro e b12 ⟨rfl, b12⟩
  have HB6 := HB5.keep b12
  clear HB5 b12
  go_wp2_with fail
  refine (merge_vr go (some ⟨gr, 0, none⟩) b12 (by rw [row_cell (kept_row HB6.hb HK1b.out.ro)]; rfl) (HPb.out.below HB6.hb)).mono ?_
  rintro e b13 ⟨rfl, b13⟩
  have HB7 := HB6.keep b13
  clear HB6 b13
  go_wp2_with fail
  refine (span_v (some ⟨gr, 0, none⟩) b13 (HPb.out.below HB7.hb)).mono ?_
  rintro e b14 ⟨rfl, b14⟩
  have HB8 := HB7.keep b14
  clear HB7 b14
  have hsp := HSP.out b14
  go_wp2_with fail
  refine (len_v (some ⟨gr, 0, none⟩) b14 (HPb.out.below HB8.hb)).mono ?_
  rintro e b15 ⟨rfl, rfl⟩
  have cn := (World.cell?_of_block (w := b6) (a := ⟨n1, 0, none⟩) (HB8.hb.block n1 hnl)).trans HCN.out
  have e1 := HQ.out b15
  have e2 : (Op.equalIn (9998 + 2) 33 (.agg (bv (List.replicate 32 0))) (.agg #[.int .u8 0, .int .u8 0, .int .u8 0, .int .u8 0, .int .u8 0, .int .u8 0, .int .u8 0, .int .u8 0, .int .u8 0, .int .u8 0, .int .u8 0, .int .u8 0, .int .u8 0, .int .u8 0, .int .u8 0, .int .u8 0, .int .u8 0, .int .u8 0, .int .u8 0, .int .u8 0, .int .u8 0, .int .u8 0, .int .u8 0, .int .u8 0, .int .u8 0, .int .u8 0, .int .u8 0, .int .u8 0, .int .u8 0, .int .u8 0, .int .u8 0, .int .u8 0])).run Tryd.prog b15 = .ok true b15 := HQ.out b15
  have e3 : (Op.equalIn (9998 + 2) 33 (.agg #[.int .u8 0, .int .u8 0, .int .u8 0, .int .u8 0, .int .u8 0, .int .u8 0, .int .u8 0, .int .u8 0, .int .u8 0, .int .u8 0, .int .u8 0, .int .u8 0, .int .u8 0, .int .u8 0, .int .u8 0, .int .u8 0, .int .u8 0, .int .u8 0, .int .u8 0, .int .u8 0, .int .u8 0, .int .u8 0, .int .u8 0, .int .u8 0, .int .u8 0, .int .u8 0, .int .u8 0, .int .u8 0, .int .u8 0, .int .u8 0, .int .u8 0, .int .u8 0]) (.agg #[.int .u8 0, .int .u8 0, .int .u8 0, .int .u8 0, .int .u8 0, .int .u8 0, .int .u8 0, .int .u8 0, .int .u8 0, .int .u8 0, .int .u8 0, .int .u8 0, .int .u8 0, .int .u8 0, .int .u8 0, .int .u8 0, .int .u8 0, .int .u8 0, .int .u8 0, .int .u8 0, .int .u8 0, .int .u8 0, .int .u8 0, .int .u8 0, .int .u8 0, .int .u8 0, .int .u8 0, .int .u8 0, .int .u8 0, .int .u8 0, .int .u8 0, .int .u8 0])).run Tryd.prog b15 = .ok true b15 := HQ.out b15
  have e4 : (Op.equalIn (9998 + 2) 33 (.agg (bv [0, 0, 0, 0, 0, 0, 0, 0, 0, 0, 0, 0, 0, 0, 0, 0, 0, 0, 0, 0, 0, 0, 0, 0, 0, 0, 0, 0, 0, 0, 0, 0])) (.agg #[.int .u8 0, .int .u8 0, .int .u8 0, .int .u8 0, .int .u8 0, .int .u8 0, .int .u8 0, .int .u8 0, .int .u8 0, .int .u8 0, .int .u8 0, .int .u8 0, .int .u8 0, .int .u8 0, .int .u8 0, .int .u8 0, .int .u8 0, .int .u8 0, .int .u8 0, .int .u8 0, .int .u8 0, .int .u8 0, .int .u8 0, .int .u8 0, .int .u8 0, .int .u8 0, .int .u8 0, .int .u8 0, .int .u8 0, .int .u8 0, .int .u8 0, .int .u8 0])).run Tryd.prog b15 = .ok true b15 := HQ.out b15
  go_wp2_with (first | refine wl_ldg HB8 0 rfl 33 _ rfl rfl Tryd.underlying33 rfl (dgz rfl) rfl ?_)
  refine (clone_v (some ⟨gr, 0, none⟩) b15 (HPb.out.below HB8.hb)).mono ?_
  rintro e b16 ⟨rfl, rfl⟩
  go_wp2_with fail
  refine (bytes_v (some ⟨gr, 0, none⟩) b16 (HPb.out.below HB8.hb)).mono ?_
  rintro e b17 ⟨rfl, rfl⟩
  have HKN := Lib.hid (HK1b.out.below HB8.hb)
  have HBN := Lib.hid (HBY.out.trans (HB8.hb.mono HBY.out.size))
  have HDX0 := Lib.hid ((HB8.hb.block D0 (Array.getElem?_eq_some_iff.1 HDE0.out).1).trans HDE0.out)
  have HDX1 := Lib.hid ((HB8.hb.block D1 (Array.getElem?_eq_some_iff.1 HDD1.out).1).trans HDD1.out)
  clear e1 e2 e3 e4 cn HB8 hsp
  go_wp2
  refine HN2.out _ _ ?_
  refine rounds_hid 0 ?_
  intro N3 HN3
  go_wp2_with fail
  refine (len_n go _ HKN.out.ro).mono ?_
  rintro e z1 ⟨rfl, rfl⟩
  go_wp2
  have hE := HDX0.out
  have hD := HDX1.out
  exact ret_tmpDD rfl D1 D0 rfl hD hE hDne ⟨rfl, (HBN.out.trans (belowK_b (n₀ := w.heap.size) (w := w) (Nat.le_refl _) _ D1 _ _ hDw1 hD rfl rfl)).trans (belowK_b (n₀ := w.heap.size) (w := w) (Nat.le_refl _) _ D0 _ _ hDw0 ((World.putObj_heap_other hDne).trans hE) rfl rfl)⟩
set_option maxRecDepth 100000 in
theorem compactNobody_holds : Rows.CompactNobodyCardSaid := compactNobody.card_of_walk fun H enc W base v0 v1 d0 d1 p0 p1 h0 k0 h1 k1 hsz hL => by
  obtain ⟨a, rfl, _, _, _⟩ := Go.ChangeShapes.open_int Tryd.underlying3 k0 h0
  obtain ⟨d, hd, rfl⟩ := open_bytes Tryd.underlying33 Tryd.underlying5 (by kernel_rfl) (by kernel_rfl) h1 k1
  exact compactNobody_walk a d hd W
#print axioms compactNobody_holds
end Go.Proofs.YtlhebogbbkjahaaDoor
