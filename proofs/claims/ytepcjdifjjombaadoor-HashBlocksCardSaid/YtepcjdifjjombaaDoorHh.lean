/- Proved here: for any eight words and any block of 64 bytes the program's first words, schedule and compression are the document's; the table of constants is tied to the program's text. No condition. -/
import Derived.Test.YtepcjdifjjombaaDoorHg
import Derived.Test.YtepcjdifjjombaaDoorFHashBlocks
namespace Go.Proofs.YtepcjdifjjombaaDoor
open Go.RowKit Cop
set_option linter.unusedVariables false
set_option linter.unusedSimpArgs false
theorem begin_a (w : World) : Calls Tryd.prog 14 #[] w fun e w' => e = .returned (.agg (hv hbegin)) ∧ Below w.heap.size w w' := by
  go_enter Tryd.func14, Tryd.ntmps14
  go_wp2
  exact ret_row rfl rfl w.heap.size rfl 23 (hv hbegin) (0, 0) _ (at_new _ _ _ rfl) Tryd.underlying23 rfl info_h8 ⟨rfl, (Below.refl _ _).alloc (Nat.le_refl _) _⟩
theorem begin_b (w : World) : Calls Tryd.prog 15 #[] w fun e w' => e = .returned (.agg (hv hbegin)) ∧ Below w.heap.size w w' := by
  go_enter Tryd.func15, Tryd.ntmps15
  go_wp2
  exact ret_row rfl rfl w.heap.size rfl 23 (hv hbegin) (0, 0) _ (at_new _ _ _ rfl) Tryd.underlying23 rfl info_h8 ⟨rfl, (Below.refl _ _).alloc (Nat.le_refl _) _⟩
theorem eq_wv (w : World) {d : Nat} {t e : TypeId} {n : Nat} (ht : Tryd.prog.underlying t = some (.array n e)) (he : Tryd.prog.underlying e = some (.int .u32)) (hs : (Tryd.prog.info? e).map (·.size) = some 1) (l : List UInt32) (hl : l.length = n) :
    (Op.equalIn (d + 2) t (.agg (wv l)) (.agg (wv l))).run Tryd.prog w = .ok true w := by
  have h : wv l = nmv .u32 (l.map fun b => (b.toNat : Int)) := by simp [wv, nmv]
  rw [h, run_equal_nmv w ht he hs _ _ (by simpa using hl) (by simpa using hl)]
  simp
theorem u32_of_wf {n : Int} (h : (Lit.int .u32 n).wf = true) : ∃ b : UInt32, n = (b.toNat : Int) := by
  simp only [Lit.wf, Bool.and_eq_true, decide_eq_true_eq] at h
  have h1 : (0 : Int) ≤ n := h.1
  have h2 : n ≤ 4294967295 := h.2
  exact ⟨UInt32.ofNat n.toNat, by rw [UInt32.toNat_ofNat']; omega⟩
/-- Eight words that came in. -/
theorem open_h8 {H : Type} {enc : TypeId × Value → H} {P : Program} {w : World} {base : Nat} {spare : Nat → Bool} {held : Bool} {t e : TypeId} {v : Value} {d : DataW H} {ps : List MemPlace} {r : Reach} {base' : Nat} (ht : P.underlying t = some (.array 8 e)) (he : P.underlying e = some (.int .u32)) (hce : P.cellsOf e = 1) (hc : P.cellsOf t = 8)
    (h : DataW.Trod enc P w base spare held t v d ps) (hok : Value.okWide P w r base' t v) : ∃ s : H8, v = .agg (hv s) := by
  unfold Value.okWide at hok
  rw [ht] at hok
  obtain ⟨cs, rfl, hsz, _⟩ := hok
  obtain ⟨fuel, hf⟩ := h
  obtain ⟨xs, m, _, _, hl, hxs, hget⟩ := DataW.trod_array ht hf
  have hlen : cs.toList.length = 8 := hl.trans hc
  have key : ∀ i, i < 8 → ∃ b : UInt32, cs.toList[i]? = some (.int .u32 (b.toNat : Int)) := fun i hi => by
    have := hget i hi
    rw [hce, Nat.mul_one, List.getElem?_eq_getElem (by omega)] at this
    obtain ⟨k, hk, _, hwf⟩ := DataW.trod_int he this
    obtain ⟨b, rfl⟩ := u32_of_wf hwf
    refine ⟨b, ?_⟩
    have := congrArg (fun l : List Value => l[0]?) hk
    simpa [List.getElem?_take, List.getElem?_drop, Value.cells] using this
  obtain ⟨a, h0⟩ := key 0 (by omega)
  obtain ⟨b, h1⟩ := key 1 (by omega)
  obtain ⟨c, h2⟩ := key 2 (by omega)
  obtain ⟨d, h3⟩ := key 3 (by omega)
  obtain ⟨e, h4⟩ := key 4 (by omega)
  obtain ⟨f, h5⟩ := key 5 (by omega)
  obtain ⟨g, h6⟩ := key 6 (by omega)
  obtain ⟨k, h7⟩ := key 7 (by omega)
  refine ⟨⟨a, b, c, d, e, f, g, k⟩, ?_⟩
  obtain ⟨l⟩ := cs
  simp only [Value.agg.injEq]
  match l, hlen with
  | [x0, x1, x2, x3, x4, x5, x6, x7], _ =>
    simp at h0 h1 h2 h3 h4 h5 h6 h7
    simp [h0, h1, h2, h3, h4, h5, h6, h7, hv]
set_option maxRecDepth 100000 in
set_option maxHeartbeats 4000000 in
theorem hashBlocks_walk {tt : TypeId} (h : H8) (b : List UInt8) (w : World) (hb : b.length = 64) (hT : w.heap[0]? = some (.cells (wv kst) tt (0, 0))) :
    Calls Tryd.prog 3 #[.agg (hv h), .agg (bv b)] w fun e w' => e = .returned (.bool true) ∧ Below w.heap.size w w' := by
  have heq8 : ∀ (w' : World) (s : H8), (Op.equalIn (9998 + 2) 23 (.agg (hv s)) (.agg (hv s))).run Tryd.prog w' = .ok true w' := fun w' s => eq_wv w' Tryd.underlying23 Tryd.underlying22 (by kernel_rfl) s.l rfl
  have heq64 : ∀ (w' : World), (Op.equalIn (9998 + 2) 26 (.agg (wv (sched b 64))) (.agg (wv (sched b 64)))).run Tryd.prog w' = .ok true w' := fun w' => eq_wv w' Tryd.underlying26 Tryd.underlying22 (by kernel_rfl) _ (sched_length _ _)
  have hsb : (Tryd.prog.info? 24).map (·.size) = some (bv b).size := by rw [bv_size, hb]; exact info_b64
  have HT := Lib.hid hT
  have HB := Lib.hid hb
  clear hT hb
  obtain ⟨S, hS⟩ : ∃ S : Array Value, wv (sched b 64) = S := ⟨_, rfl⟩
  obtain ⟨C, hC⟩ : ∃ C : Array Value, hv (compress h b) = C := ⟨_, rfl⟩
  obtain ⟨G, hG⟩ : ∃ G : Array Value, hv hbegin = G := ⟨_, rfl⟩
  have eS : ∀ (w' : World), (Op.equalIn (9998 + 2) 26 (.agg S) (.agg S)).run Tryd.prog w' = .ok true w' := by rw [← hS]; exact heq64
  have eC : ∀ (w' : World), (Op.equalIn (9998 + 2) 23 (.agg C) (.agg C)).run Tryd.prog w' = .ok true w' := by rw [← hC]; exact fun w' => heq8 w' _
  have eG : ∀ (w' : World), (Op.equalIn (9998 + 2) 23 (.agg G) (.agg G)).run Tryd.prog w' = .ok true w' := by rw [← hG]; exact fun w' => heq8 w' _
  have HS := Lib.hid hS
  have HC := Lib.hid hC
  have HG := Lib.hid hG
  clear hS hC hG heq8 heq64
  go_enter Tryd.func3, Tryd.ntmps3
  go_wp2
  first | refine Cop.wl_world fun w1 hw1 => ?_ | refine Cop.calls_world fun w1 hw1 => ?_ | refine Cop.exit_world fun w1 hw1 => ?_ | refine Cop.code_world fun w1 hw1 => ?_
  have r0 : w1.heap[w.heap.size]? = some (.cells (hv h) 23 (0, 0)) := by rw [← hw1]; (repeat (first | refine Cop.at_new _ _ _ (by simp) | refine Cop.at_old _ _ _ (by simp <;> omega) ?_ | refine Cop.at_old _ _ _ (by simp) ?_))
  have r1 : w1.heap[w.heap.size + 1]? = some (.cells (bv b) 24 (0, 0)) := by rw [← hw1]; (repeat (first | refine Cop.at_new _ _ _ (by simp) | refine Cop.at_old _ _ _ (by simp <;> omega) ?_ | refine Cop.at_old _ _ _ (by simp) ?_))
  have bb : Below w.heap.size w w1 := by rw [← hw1]; exact ((Below.refl _ _).alloc (Nat.le_refl _) _).alloc (by simp) _
  have h0 := (Array.getElem?_eq_some_iff.1 HT.out).1
  have rT : w1.heap[0]? = some (.cells (wv kst) tt (0, 0)) := (bb.block 0 h0).trans HT.out
  have h01 : 0 < w1.heap.size := (Array.getElem?_eq_some_iff.1 rT).1
  clear hw1
  refine wp_region_grow (by kernel_rfl) (by kernel_rfl) ?_
  refine wq_call (.agg G) _ 14 #[] rfl (fun w' => by go_simp) (fun w' hw' => by rw [← HG.out]; exact begin_a w') (by simp only [Act.put, List.setIfInBounds_toArray, List.set_cons_succ, List.set_cons_zero]; rfl) ?_
  refine wq_call (.agg G) _ 15 #[] rfl (fun w' => by go_simp) (fun w' hw' => by rw [← HG.out]; exact begin_b w') (by simp only [Act.put, List.setIfInBounds_toArray, List.set_cons_succ, List.set_cons_zero]; rfl) ?_
  refine wq_val (.bool true) _ rfl (fun w' hw' => by go_simp) (by simp only [Act.put, List.setIfInBounds_toArray, List.set_cons_succ, List.set_cons_zero]; rfl) ?_
  refine wq_val (.bool true) _ rfl (fun w' hw' => by go_simp) (by simp only [Act.put, List.setIfInBounds_toArray, List.set_cons_succ, List.set_cons_zero]; rfl) ?_
  refine wq_load_row 24 _ rfl (w.heap.size + 1) rfl 24 (bv b) (0, 0) _ r1 Tryd.underlying24 rfl hsb _ rfl (by simp only [Act.put, List.setIfInBounds_toArray, List.set_cons_succ, List.set_cons_zero]; rfl) ?_
  refine wq_call (.agg S) _ 16 #[.agg (bv b)] rfl (fun w' => by go_simp) (fun w' hw' => by rw [← HS.out]; exact schedule_a b w' HB.out) (by simp only [Act.put, List.setIfInBounds_toArray, List.set_cons_succ, List.set_cons_zero]; rfl) ?_
  refine wq_load_row 24 _ rfl (w.heap.size + 1) rfl 24 (bv b) (0, 0) _ r1 Tryd.underlying24 rfl hsb _ rfl (by simp only [Act.put, List.setIfInBounds_toArray, List.set_cons_succ, List.set_cons_zero]; rfl) ?_
  refine wq_call (.agg S) _ 17 #[.agg (bv b)] rfl (fun w' => by go_simp) (fun w' hw' => by rw [← HS.out]; exact schedule_b b w' HB.out) (by simp only [Act.put, List.setIfInBounds_toArray, List.set_cons_succ, List.set_cons_zero]; rfl) ?_
  refine wq_val (.bool true) _ rfl (fun w' hw' => by go_simp) (by simp only [Act.put, List.setIfInBounds_toArray, List.set_cons_succ, List.set_cons_zero]; rfl) ?_
  refine wq_val (.bool true) _ rfl (fun w' hw' => by go_simp) (by simp only [Act.put, List.setIfInBounds_toArray, List.set_cons_succ, List.set_cons_zero]; rfl) ?_
  refine wq_val (.bool true) _ rfl (fun w' hw' => by go_simp) (by simp only [Act.put, List.setIfInBounds_toArray, List.set_cons_succ, List.set_cons_zero]; rfl) ?_
  refine wq_load_row 23 _ rfl w.heap.size rfl 23 (hv h) (0, 0) _ r0 Tryd.underlying23 rfl info_h8 _ rfl (by simp only [Act.put, List.setIfInBounds_toArray, List.set_cons_succ, List.set_cons_zero]; rfl) ?_
  refine wq_load_row 24 _ rfl (w.heap.size + 1) rfl 24 (bv b) (0, 0) _ r1 Tryd.underlying24 rfl hsb _ rfl (by simp only [Act.put, List.setIfInBounds_toArray, List.set_cons_succ, List.set_cons_zero]; rfl) ?_
  refine wq_call (.agg C) _ 18 #[.agg (hv h), .agg (bv b)] rfl (fun w' => by go_simp) (fun w' hw' => by rw [← HC.out]; exact compress_a h b w' HB.out ((hw'.block 0 h01).trans rT)) (by simp only [Act.put, List.setIfInBounds_toArray, List.set_cons_succ, List.set_cons_zero]; rfl) ?_
  refine wq_load_row 23 _ rfl w.heap.size rfl 23 (hv h) (0, 0) _ r0 Tryd.underlying23 rfl info_h8 _ rfl (by simp only [Act.put, List.setIfInBounds_toArray, List.set_cons_succ, List.set_cons_zero]; rfl) ?_
  refine wq_load_row 24 _ rfl (w.heap.size + 1) rfl 24 (bv b) (0, 0) _ r1 Tryd.underlying24 rfl hsb _ rfl (by simp only [Act.put, List.setIfInBounds_toArray, List.set_cons_succ, List.set_cons_zero]; rfl) ?_
  refine wq_call (.agg C) _ 19 #[.agg (hv h), .agg (bv b)] rfl (fun w' => by go_simp) (fun w' hw' => by rw [← HC.out]; exact compress_b h b w' HB.out) (by simp only [Act.put, List.setIfInBounds_toArray, List.set_cons_succ, List.set_cons_zero]; rfl) ?_
  refine wq_val (.bool true) _ rfl (fun w' hw' => by go_simp) (by simp only [Act.put, List.setIfInBounds_toArray, List.set_cons_succ, List.set_cons_zero]; rfl) ?_
  refine wq_val (.bool true) _ rfl (fun w' hw' => by go_simp) (by simp only [Act.put, List.setIfInBounds_toArray, List.set_cons_succ, List.set_cons_zero]; rfl) ?_
  refine wq_val (.bool true) _ rfl (fun w' hw' => by go_simp) (by simp only [Act.put, List.setIfInBounds_toArray, List.set_cons_succ, List.set_cons_zero]; rfl) ?_
  refine wq_done (fun w2 hb2 => ?_)
  go_wp2
  go_ret
  exact ⟨rfl, bb.trans (hb2.mono bb.size)⟩
/-- An array of words that reads as given. -/
theorem words_of_trod {H : Type} {enc : TypeId × Value → H} {P : Program} {w : World} {base : Nat} {spare : Nat → Bool} {held : Bool} {t e : TypeId} {n fuel : Nat} {cs : Array Value} {l : List UInt32} {p : List MemPlace} (ht : P.underlying t = some (.array n e)) (he : P.underlying e = some (.int .u32)) (hce : P.cellsOf e = 1) (hc : P.cellsOf t = n)
    (h : DataW.trod enc P w base spare held fuel t cs.toList = some (.agg (l.map fun x => .lit (.int .u32 (x.toNat : Int))), p)) : cs = wv l := by
  obtain ⟨xs, m, _, hx, hl, hxs, hget⟩ := DataW.trod_array ht h
  simp only [Prod.mk.injEq, DataW.agg.injEq] at hx
  have hln : l.length = n := by have := congrArg List.length hx.1; simpa [hxs] using this
  have hlen : cs.toList.length = n := hl.trans hc
  obtain ⟨cl⟩ := cs
  simp only at hlen hget
  have : cl = l.map fun x => Value.int .u32 (x.toNat : Int) := by
    refine List.ext_getElem (by simp [hlen, hln]) fun i h1 h2 => ?_
    have hi : i < n := by omega
    have hg := hget i hi
    rw [hce, Nat.mul_one, List.getElem?_eq_getElem (by omega)] at hg
    obtain ⟨k, hk, hx2, _⟩ := DataW.trod_int he hg
    have hk0 := congrArg (fun l : List Value => l[0]?) hk
    simp [List.getElem?_take, List.getElem?_drop, h1] at hk0
    have h3 := congrArg (fun l : List (DataW H) => l[i]?) hx.1
    simp [show i < l.length from by omega, show i < xs.length from by omega, hx2] at h3
    simp [hk0, h3]
  rw [this]; rfl
theorem laid_kst {H : Type} : (Rows.laid_coppice_hash_constants : DataW H) = .agg (kst.map fun x => .lit (.int .u32 (x.toNat : Int))) := rfl
/-- What the condition gives: the table of constants lies at block 0. -/
theorem table_of {W : World} (h : laidMetH Tryd.prog Rows.hashBlocksRow.laid W) : ∃ tt, W.heap[0]? = some (.cells (wv kst) tt (0, 0)) := by
  have g0 : Tryd.prog.globalNamed "coppice/hash.constants" = some 0 := by kernel_rfl
  have t0 : (Tryd.prog.globals[0]?).map (·.type) = some 26 := by kernel_rfl
  rw [MakeChecks.laidMetH_plain _ _ _ (by kernel_rfl)] at h
  obtain ⟨ps, ⟨g, t, cs, f, p, q, hg, ht, hv, hd, _, hps⟩, _, hrow⟩ := h
  obtain rfl := Option.some.inj (g0.symm.trans hg)
  obtain rfl := Option.some.inj (t0.symm.trans ht)
  have hcs : cs = wv kst := by
    rw [laid_kst] at hd
    exact words_of_trod Tryd.underlying26 Tryd.underlying22 (by kernel_rfl) (by kernel_rfl) hd
  have hsz : cs.size = 64 := by rw [hcs]; rfl
  have hheap : ∃ tt fr, W.heap[0]? = some (.cells cs tt fr) := by
    unfold World.var? at hv
    rw [g0] at hv
    simp only [Option.bind_some] at hv
    split at hv
    · rename_i c t f hh
      have : c = cs := by simpa using hv
      subst this
      exact ⟨_, _, hh⟩
    · simp at hv
  obtain ⟨tt, fr, hh⟩ := hheap
  have hfr : fr = (0, 0) := by
    obtain ⟨⟨c, t, h1⟩, _⟩ := hrow 0 0 (by rw [hps]; simp [MemPlace.row, hsz])
    rw [hh] at h1
    simpa using (Option.some.inj h1 |> Obj.cells.inj).2.2
  subst hfr
  refine ⟨tt, ?_⟩
  rw [hh, hcs]
theorem hashBlocks_holds : Rows.HashBlocksCardSaid := hashBlocks.card_of_walk fun H enc W base v0 v1 d0 d1 p0 p1 h0 k0 h1 k1 _ hL => by
  obtain ⟨h, rfl⟩ := open_h8 Tryd.underlying23 Tryd.underlying22 (by kernel_rfl) (by kernel_rfl) h0 k0
  obtain ⟨b, hb, rfl⟩ := open_bytes Tryd.underlying24 Tryd.underlying5 (by kernel_rfl) (by kernel_rfl) h1 k1
  obtain ⟨tt, hT⟩ := table_of hL
  exact hashBlocks_walk h b W hb hT
#print axioms hashBlocks_holds
end Go.Proofs.YtepcjdifjjombaaDoor
