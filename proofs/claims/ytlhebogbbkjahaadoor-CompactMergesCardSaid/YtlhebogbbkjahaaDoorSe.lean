import Derived.Test.YtlhebogbbkjahaaDoorSd
import Derived.Test.YtlhebogbbkjahaaDoorIv
namespace Go.Proofs.YtlhebogbbkjahaaDoor
open Go.RowKit Cop
set_option linter.unusedVariables false
set_option linter.unusedSimpArgs false
/-- The digest of what had these words behind its whole blocks. -/
def endOf (h : H8) (n : Nat) (r : List UInt8) : List UInt8 := wb (over h (r ++ pad n)).l
/-- What the region of End has done. -/
structure EF (B : Nat) (w0 : World) (h H : H8) (sv xv : Value) (r p D : List UInt8) (vD zz : Array Value) (tup : Value) (b0 b1 b2 b3 b4 b5 b6 b7 b8 b9 b10 b11 b12 b13 b14 b15 b16 : Bool)
    (v18 v19 v20 v21 v22 v23 v24 v25 v26 v17 v27 v28 v29 v9 v10 v11 : Value) (w : World) : Prop where
  hB : Below B w0 w
  f0 : b0 = true → v18 = .agg (hv h)
  f1 : b1 = true → b3 = false → w.ownsRow B 5 1 v19 0 []
  f2 : b2 = true → v20 = sv
  f3 : b3 = true → b5 = false → w.ownsRow B 5 1 v21 r.length (bl r)
  f4 : b4 = true → v22 = xv
  f5 : b5 = true → b6 = false → w.ownsRow B 5 1 v23 (r.length + p.length) (bl r ++ bl p)
  f6 : b6 = true → v24 = .agg (hv H)
  f7 : b7 = true → b8 = false → Rd w v25 32 1 (bl D)
  f8 : b8 = true → v26 = tup
  f9 : b9 = true → v17 = tup
  f10 : b10 = true → v27 = .agg vD
  f13 : b13 = true → ∃ g, v9 = .pointer (some ⟨g, 0, none⟩) ∧ B ≤ g ∧ (b14 = false → w.heap[g]? = some (.cells zz 32 (0, 0))) ∧ (b14 = true → w.heap[g]? = some (.cells vD 32 (0, 0)))
  d14 : b14 = true → b13 = true
  d5 : b5 = true → b3 = true
  d6 : b6 = true → b5 = true
  d7 : b7 = true → b6 = true
  e0 : B = w0.heap.size
section
variable {B : Nat} {w0 : World} {h H : H8} {sv xv : Value} {r p D : List UInt8} {vD zz : Array Value} {tup : Value} {b0 b1 b2 b3 b4 b5 b6 b7 b8 b9 b10 b11 b12 b13 b14 b15 b16 : Bool}
    {v18 v19 v20 v21 v22 v23 v24 v25 v26 v17 v27 v28 v29 v9 v10 v11 : Value} {w w' : World}
theorem EF.sz (e : EF B w0 h H sv xv r p D vD zz tup b0 b1 b2 b3 b4 b5 b6 b7 b8 b9 b10 b11 b12 b13 b14 b15 b16 v18 v19 v20 v21 v22 v23 v24 v25 v26 v17 v27 v28 v29 v9 v10 v11 w) : B ≤ w.heap.size := by rw [e.e0]; exact e.hB.size
theorem EF.keep (e : EF B w0 h H sv xv r p D vD zz tup b0 b1 b2 b3 b4 b5 b6 b7 b8 b9 b10 b11 b12 b13 b14 b15 b16 v18 v19 v20 v21 v22 v23 v24 v25 v26 v17 v27 v28 v29 v9 v10 v11 w) (hb : Below w.heap.size w w') :
    EF B w0 h H sv xv r p D vD zz tup b0 b1 b2 b3 b4 b5 b6 b7 b8 b9 b10 b11 b12 b13 b14 b15 b16 v18 v19 v20 v21 v22 v23 v24 v25 v26 v17 v27 v28 v29 v9 v10 v11 w' :=
  ⟨e.hB.trans (hb.mono e.sz), e.f0, fun a b => own_below (e.f1 a b) hb, e.f2, fun a b => own_below (e.f3 a b) hb, e.f4, fun a b => own_below (e.f5 a b) hb, e.f6, fun a b => (e.f7 a b).below hb, e.f8, e.f9, e.f10,
   fun a => (e.f13 a).imp fun g ⟨x, y, z, t⟩ => ⟨x, y, fun c => kept_row hb (z c), fun c => kept_row hb (t c)⟩, e.d14, e.d5, e.d6, e.d7, e.e0⟩
/-- An own row is no row of another type. -/
theorem own_other_type {base n size : Nat} {e t : TypeId} {v : Value} {xs : List Value} (ho : w.ownsRow base e size v n xs) {g : Nat} {cs : Array Value} {fr : Nat × Nat} (hg : w.heap[g]? = some (.cells cs t fr)) (hne : e ≠ t) : some g ≠ v.ownBlock := by
  rcases ho.2 with ⟨rfl, _⟩ | ⟨k, cap, cur, rfl, _, hk, _⟩
  · simp [Value.ownBlock]
  · simp only [Value.ownBlock, ne_eq, Option.some.injEq]
    rintro rfl
    rw [hg] at hk
    simp at hk
    exact hne hk.2.1.symm
/-- Behind an append to a row of its own. -/
theorem EF.grow {n : Nat} {xs : List Value} {v : Value} (e : EF B w0 h H sv xv r p D vD zz tup b0 b1 b2 b3 b4 b5 b6 b7 b8 b9 b10 b11 b12 b13 b14 b15 b16 v18 v19 v20 v21 v22 v23 v24 v25 v26 v17 v27 v28 v29 v9 v10 v11 w)
    (ho : w.ownsRow B 5 1 v n xs) (hb : Below B w0 w') (hg : w.grownBy w' v.ownBlock) (c : b13 = true) :
    ∃ g, v9 = .pointer (some ⟨g, 0, none⟩) ∧ B ≤ g ∧ (b14 = false → w'.heap[g]? = some (.cells zz 32 (0, 0))) ∧ (b14 = true → w'.heap[g]? = some (.cells vD 32 (0, 0))) := by
  obtain ⟨g, x, y, z, t⟩ := e.f13 c
  refine ⟨g, x, y, fun d => ?_, fun d => ?_⟩
  · exact (hg.block g (Array.getElem?_eq_some_iff.1 (z d)).1 (own_other_type ho (z d) (by decide))).trans (z d)
  · exact (hg.block g (Array.getElem?_eq_some_iff.1 (t d)).1 (own_other_type ho (t d) (by decide))).trans (t d)
end
set_option maxRecDepth 100000 in
set_option maxHeartbeats 4000000 in
theorem end_gen (over : H8 → List UInt8 → H8) (wb : List UInt32 → List UInt8) (pad : Nat → List UInt8) (wb_length : ∀ l, (wb l).length = 4 * l.length) (pad_length : ∀ n, (pad n).length ≤ 72)
    (over_b : ∀ (h : H8) (l : List UInt8) (v : Value) (w : World) (hR : Rd w v l.length 1 (bl l)), Calls Tryd.prog 95 #[.agg (hv h), v] w fun e w' => e = .returned (.agg (hv (over h l))) ∧ Below w.heap.size w w')
    (words_b : ∀ (h : H8) (w : World), Calls Tryd.prog 94 #[.agg (hv h)] w fun e w' => ∃ x, e = .returned x ∧ Below w.heap.size w w' ∧ w'.ownsRow w.heap.size 5 1 x 32 (bl (wb h.l)))
    (padding_b : ∀ (n : Nat) (w : World) (hn : n ≤ 2305843009213693951), Calls Tryd.prog 93 #[.int .i64 n] w fun e w' => ∃ x, e = .returned (.tuple #[x, .int .i64 0]) ∧ Below w.heap.size w w' ∧ w'.ownsRow w.heap.size 5 1 x (pad n).length (bl (pad n)))
    (h : H8) (n : Nat) (r : List UInt8) (v : Value) (w : World) (hR : Rd w v r.length 1 (bl r)) (hn : n ≤ 2305843009213693951) (hr : r.length ≤ 140737488355000) :
    Calls Tryd.prog 80 #[.agg (hv h), .int .i64 n, v] w fun e w' => e = .returned (.agg (bv (wb (over h (r ++ pad n)).l))) ∧ Below w.heap.size w w' := by
  have WL := Lib.hid wb_length
  have PL := Lib.hid pad_length
  have OB := Lib.hid over_b
  have WB := Lib.hid words_b
  have PB := Lib.hid padding_b
  have HR := Lib.hid hR
  obtain ⟨A, c, rfl, hc, hcm⟩ := hR.shape
  clear wb_length pad_length over_b words_b padding_b hR
  go_enter Tryd.func80, Tryd.ntmps80
  go_wp2_with fail
  first | refine Cop.wl_world fun w1 hw1 => ?_ | refine Cop.calls_world fun w1 hw1 => ?_ | refine Cop.exit_world fun w1 hw1 => ?_ | refine Cop.code_world fun w1 hw1 => ?_
  have r3 : w1.heap[w.heap.size]? = some (.cells (hv h) 157 (0, 0)) := by rw [← hw1]; (repeat (first | refine Cop.at_new _ _ _ (by simp) | refine Cop.at_old _ _ _ (by simp <;> omega) ?_ | refine Cop.at_old _ _ _ (by simp) ?_))
  have r6 : w1.heap[w.heap.size + 1]? = some (.cells (bv (List.replicate 32 0)) 32 (0, 0)) := by rw [← hw1]; exact at_new _ _ _ (by simp)
  have b1 : Below w.heap.size w w1 := by rw [← hw1]; exact ((Below.refl _ _).alloc (Nat.le_refl _) _).alloc (by simp) _
  have z1 : w1.heap.size = w.heap.size + 2 := by rw [← hw1]; simp
  clear hw1
  refine (PB.out n _ hn).mono ?_
  rintro e w2 ⟨x, rfl, b2, hox⟩
  have r3 := kept_row b2 r3
  have r6 := kept_row b2 r6
  obtain ⟨A1, c1, rfl⟩ := own_slice hox
  have HX := Lib.hid hox
  clear hox
  go_wp2
  have b2' : Below w.heap.size w w2 := b1.trans (b2.mono (by omega))
  have HR2 := Lib.hid (HR.out.below b2')
  have HXR := Lib.hid (Rd.of_own HX.out)
  have zl : w.heap.size + 2 ≤ w2.heap.size := by have := b2.size; omega
  have K3 : ∀ w', Below w2.heap.size w2 w' → w'.heap[w.heap.size]? = some (.cells (hv h) 157 (0, 0)) := fun w' h => kept_row h r3
  have K6 : ∀ w', Below w2.heap.size w2 w' → w'.heap[w.heap.size + 1]? = some (.cells (bv (List.replicate 32 0)) 32 (0, 0)) := fun w' h => kept_row h r6
  obtain ⟨p, hp⟩ : ∃ p, pad n = p := ⟨_, rfl⟩
  have hp72 : p.length ≤ 72 := by rw [← hp]; exact PL.out n
  obtain ⟨H, hH⟩ : ∃ H, over h (r ++ p) = H := ⟨_, rfl⟩
  obtain ⟨D, hD⟩ : ∃ D, wb H.l = D := ⟨_, rfl⟩
  have hD32 : D.length = 32 := by rw [← hD, WL.out]; rfl
  have CO := Lib.hid (fun (v : Value) (w : World) (hr : Rd w v (r ++ p).length 1 (bl (r ++ p))) => OB.out h (r ++ p) v w hr)
  rw [hH] at CO
  have CW := Lib.hid (fun w => WB.out H w)
  rw [hD] at CW
  have CD := Lib.hid (fun (v : Value) (w : World) (hr : Rd w v 32 1 (bl D)) => digest_b D 0 v w (by rw [hD32]; exact hr) (by omega) (by omega))
  rw [List.drop_zero, List.take_of_length_le (show D.length ≤ 32 by omega)] at CD
  have hvs : (bv D).size = 32 := by rw [bv_size, hD32]
  have hzs : (bv (List.replicate 32 0)).size = 32 := by rw [bv_size]; rfl
  have hv1 := bv_one D
  have HG := Lib.hid (show bv (wb (over h (r ++ pad n)).l) = bv D by rw [hp, hH, hD])
  obtain ⟨vD, hvD⟩ : ∃ x, bv D = x := ⟨_, rfl⟩
  obtain ⟨zz, hzz⟩ : ∃ x, bv (List.replicate 32 0) = x := ⟨_, rfl⟩
  rw [hp] at HX HXR ⊢
  rw [hvD] at CD hvs hv1 HG
  rw [hzz] at hzs K6
  have hz0 : ∀ w, (zeroValue 32).run Tryd.prog w = .ok (.agg zz) w := by rw [← hzz]; intro w; kernel_rfl
  refine region_inv2 (fun a0 L a' w' => ∃ v18 v19 v20 v21 v22 v23 v24 v25 v26 v17 v27 v28 v29 v9 v10 v11 : Value, a' = ((((((((((((((((a0.put (some 18) v18).put (some 19) v19).put (some 20) v20).put (some 21) v21).put (some 22) v22).put (some 23) v23).put (some 24) v24).put (some 25) v25).put (some 26) v26).put (some 17) v17).put (some 27) v27).put (some 28) v28).put (some 29) v29).put (some 9) v9).put (some 10) v10).put (some 11) v11) ∧
      EF w2.heap.size w2 h H (.slice A r.length c) (.slice A1 p.length c1) r p D vD zz (.tuple #[.agg vD, .int .i64 ((0 + 32 : Nat) : Int), .int .i64 0]) (L 0) (L 1) (L 2) (L 3) (L 4) (L 5) (L 6) (L 7) (L 8) (L 9) (L 10) (L 11) (L 12) (L 13) (L 14) (L 15) (L 16) v18 v19 v20 v21 v22 v23 v24 v25 v26 v17 v27 v28 v29 v9 v10 v11 w') (by kernel_rfl) (by kernel_rfl) ?_ ?_ ?_
  · refine ⟨undef, undef, undef, undef, undef, undef, undef, undef, undef, undef, undef, undef, undef, undef, undef, undef, by simp only [Act.put, List.setIfInBounds_toArray, List.set_cons_succ, List.set_cons_zero], ⟨⟨rfl, rfl, rfl, Nat.le_refl _, fun _ _ => rfl⟩, ?_, ?_, ?_, ?_, ?_, ?_, ?_, ?_, ?_, ?_, ?_, ?_, ?_, ?_, ?_, ?_, rfl⟩⟩ <;> (intro h; cases h)
  · rintro L a' w3 i o ho ⟨v18, v19, v20, v21, v22, v23, v24, v25, v26, v17, v27, v28, v29, v9, v10, v11, hA, F⟩ hL hdeps
    simp only [Act.put, List.setIfInBounds_toArray, List.set_cons_succ, List.set_cons_zero] at hA
    subst hA
    have hi : i < 17 := by have := (List.getElem?_eq_some_iff.1 ho).1; simpa using this
    rcases i with _ | _ | _ | _ | _ | _ | _ | _ | _ | _ | _ | _ | _ | _ | _ | _ | _ | i
    · simp at ho
      subst ho
      simp [Region.binds] at hdeps
      refine iv_want rfl ?_
      refine ow_load_row 157 _ rfl w.heap.size rfl 157 (hv h) (0, 0) _ (K3 _ F.hB) Tryd.underlying157 rfl info_h8 ?_
      refine ⟨.agg (hv h), v19, v20, v21, v22, v23, v24, v25, v26, v17, v27, v28, v29, v9, v10, v11, by simp only [Act.put, List.setIfInBounds_toArray, List.set_cons_succ, List.set_cons_zero], ?_⟩
      simp only [also, Nat.zero_add, Nat.reduceAdd, Nat.reduceBEq, Bool.or_true, Bool.or_false]
      exact { F with f0 := fun _ => rfl }
    · simp at ho
      subst ho
      simp [Region.binds] at hdeps
      refine iv_want rfl ?_
      refine ow_val (.slice (some ⟨w3.heap.size, 0, none⟩) 0 0) (w3.alloc (.cells #[] 5)) (by go_simp) ?_
      refine ⟨v18, .slice (some ⟨w3.heap.size, 0, none⟩) 0 0, v20, v21, v22, v23, v24, v25, v26, v17, v27, v28, v29, v9, v10, v11, by simp only [Act.put, List.setIfInBounds_toArray, List.set_cons_succ, List.set_cons_zero], ?_⟩
      simp only [also, Nat.zero_add, Nat.reduceAdd, Nat.reduceBEq, Bool.or_true, Bool.or_false]
      exact { F.keep ((Below.refl _ _).alloc (Nat.le_refl _) (.cells #[] 5)) with f1 := fun _ _ => own_mono (own_built w3 #[] 5 0 1 rfl (by omega)) F.sz }
    · simp at ho
      subst ho
      simp [Region.binds] at hdeps
      refine iv_want rfl ?_
      refine ow_val (.slice A r.length c) w3 (by go_simp) ?_
      refine ⟨v18, v19, .slice A r.length c, v21, v22, v23, v24, v25, v26, v17, v27, v28, v29, v9, v10, v11, by simp only [Act.put, List.setIfInBounds_toArray, List.set_cons_succ, List.set_cons_zero], ?_⟩
      simp only [also, Nat.zero_add, Nat.reduceAdd, Nat.reduceBEq, Bool.or_true, Bool.or_false]
      exact { F with f2 := fun _ => rfl }
    · simp at ho
      subst ho
      simp [Region.binds] at hdeps
      refine iv_want rfl ?_
      obtain rfl := F.f2 hdeps.2
      have HO := F.f1 hdeps.1 hL
      refine wp_append_rd (w0 := w2) w2.heap.size (.tmp 19) (.tmp 20) 65 5 (.int .u8 0) 1 1 rfl Tryd.underlying65 info_u8 rfl (by decide) (by decide) v19 _ _ HO F.hB F.sz _ _ _ (HR2.out.below F.hB) (bl_one _) rfl rfl (by omega) (fun v1 w1' ho1 hb1 hg1 => ?_)
      refine ⟨v18, v19, .slice A r.length c, v1, v22, v23, v24, v25, v26, v17, v27, v28, v29, v9, v10, v11, by simp only [Act.put, List.setIfInBounds_toArray, List.set_cons_succ, List.set_cons_zero], ?_⟩
      simp only [also, Nat.zero_add, Nat.reduceAdd, Nat.reduceBEq, Bool.or_true, Bool.or_false]
      refine { F with hB := hb1, f1 := fun _ h => by (cases h), f3 := fun _ _ => by simpa using ho1, f5 := fun h => ?_, f7 := fun h => ?_, f13 := F.grow HO hb1 hg1, d5 := fun _ => rfl }
      · have := F.d5 h; rw [hL] at this; cases this
      · have := F.d5 (F.d6 (F.d7 h)); rw [hL] at this; cases this
    · simp at ho
      subst ho
      simp [Region.binds] at hdeps
      refine iv_want rfl ?_
      refine ow_val (.slice A1 p.length c1) w3 (by go_simp) ?_
      refine ⟨v18, v19, v20, v21, .slice A1 p.length c1, v23, v24, v25, v26, v17, v27, v28, v29, v9, v10, v11, by simp only [Act.put, List.setIfInBounds_toArray, List.set_cons_succ, List.set_cons_zero], ?_⟩
      simp only [also, Nat.zero_add, Nat.reduceAdd, Nat.reduceBEq, Bool.or_true, Bool.or_false]
      exact { F with f4 := fun _ => rfl }
    · simp at ho
      subst ho
      simp [Region.binds] at hdeps
      refine iv_want rfl ?_
      obtain rfl := F.f4 hdeps.2.1
      have HO := F.f3 hdeps.1 hL
      refine wp_append_rd (w0 := w2) w2.heap.size (.tmp 21) (.tmp 22) 65 5 (.int .u8 0) 1 1 rfl Tryd.underlying65 info_u8 rfl (by decide) (by decide) v21 _ _ HO F.hB F.sz _ _ _ (HXR.out.below F.hB) (bl_one _) rfl rfl (by omega) (fun v1 w1' ho1 hb1 hg1 => ?_)
      refine ⟨v18, v19, v20, v21, .slice A1 p.length c1, v1, v24, v25, v26, v17, v27, v28, v29, v9, v10, v11, by simp only [Act.put, List.setIfInBounds_toArray, List.set_cons_succ, List.set_cons_zero], ?_⟩
      simp only [also, Nat.zero_add, Nat.reduceAdd, Nat.reduceBEq, Bool.or_true, Bool.or_false]
      refine { F with hB := hb1, f1 := fun _ h => ?_, f3 := fun _ h => by (cases h), f5 := fun _ _ => ho1, f7 := fun h => ?_, f13 := F.grow HO hb1 hg1, d5 := fun _ => hdeps.1, d6 := fun _ => rfl }
      · rw [hdeps.1] at h; cases h
      · have := F.d6 (F.d7 h); rw [hL] at this; cases this
    · simp at ho
      subst ho
      simp [Region.binds] at hdeps
      refine iv_want rfl ?_
      obtain rfl := F.f0 hdeps.1
      have HO := F.f5 hdeps.2 hL
      refine ow_call 95 #[.agg (hv h), v23] (.agg (hv H)) (fun w' => Below w3.heap.size w3 w') (by go_simp) (CO.out v23 w3 (by rw [List.length_append, bl_append]; exact Rd.of_own HO)) (fun w4 b4 => ?_)
      refine ⟨.agg (hv h), v19, v20, v21, v22, v23, .agg (hv H), v25, v26, v17, v27, v28, v29, v9, v10, v11, by simp only [Act.put, List.setIfInBounds_toArray, List.set_cons_succ, List.set_cons_zero], ?_⟩
      simp only [also, Nat.zero_add, Nat.reduceAdd, Nat.reduceBEq, Bool.or_true, Bool.or_false]
      exact { F.keep b4 with f5 := fun _ h => by (cases h), f6 := fun _ => rfl, d6 := fun _ => hdeps.2, d7 := fun _ => rfl }
    · simp at ho
      subst ho
      simp [Region.binds] at hdeps
      refine iv_want rfl ?_
      obtain rfl := F.f6 hdeps
      refine ow_call_ex 94 #[.agg (hv H)] (fun x w' => Below w3.heap.size w3 w' ∧ w'.ownsRow w3.heap.size 5 1 x 32 (bl D)) (by go_simp) (CW.out w3) (fun x w4 ⟨b4, ho4⟩ => ?_)
      refine ⟨v18, v19, v20, v21, v22, v23, .agg (hv H), x, v26, v17, v27, v28, v29, v9, v10, v11, by simp only [Act.put, List.setIfInBounds_toArray, List.set_cons_succ, List.set_cons_zero], ?_⟩
      simp only [also, Nat.zero_add, Nat.reduceAdd, Nat.reduceBEq, Bool.or_true, Bool.or_false]
      exact { F.keep b4 with f7 := fun _ _ => Rd.of_own ho4, d7 := fun _ => hdeps }
    · simp at ho
      subst ho
      simp [Region.binds] at hdeps
      refine iv_want rfl ?_
      have HO := F.f7 hdeps hL
      refine ow_call 53 #[v25, .int .i64 0] (.tuple #[.agg vD, .int .i64 ((0 + 32 : Nat) : Int), .int .i64 0]) (fun w' => Below w3.heap.size w3 w') (by go_simp) (CD.out v25 w3 HO) (fun w4 b4 => ?_)
      refine ⟨v18, v19, v20, v21, v22, v23, v24, v25, .tuple #[.agg vD, .int .i64 ((0 + 32 : Nat) : Int), .int .i64 0], v17, v27, v28, v29, v9, v10, v11, by simp only [Act.put, List.setIfInBounds_toArray, List.set_cons_succ, List.set_cons_zero], ?_⟩
      simp only [also, Nat.zero_add, Nat.reduceAdd, Nat.reduceBEq, Bool.or_true, Bool.or_false]
      exact { F.keep b4 with f7 := fun _ h => by (cases h), f8 := fun _ => rfl }
    · simp at ho
      subst ho
      simp [Region.binds] at hdeps
      refine iv_want rfl ?_
      obtain rfl := F.f8 hdeps
      refine ow_val (.tuple #[.agg vD, .int .i64 ((0 + 32 : Nat) : Int), .int .i64 0]) w3 (by go_simp) ?_
      refine ⟨v18, v19, v20, v21, v22, v23, v24, v25, .tuple #[.agg vD, .int .i64 ((0 + 32 : Nat) : Int), .int .i64 0], .tuple #[.agg vD, .int .i64 ((0 + 32 : Nat) : Int), .int .i64 0], v27, v28, v29, v9, v10, v11, by simp only [Act.put, List.setIfInBounds_toArray, List.set_cons_succ, List.set_cons_zero], ?_⟩
      simp only [also, Nat.zero_add, Nat.reduceAdd, Nat.reduceBEq, Bool.or_true, Bool.or_false]
      exact { F with f9 := fun _ => rfl }
    · simp at ho
      subst ho
      simp [Region.binds] at hdeps
      refine iv_want rfl ?_
      obtain rfl := F.f9 hdeps
      refine ow_val (.agg vD) w3 (by go_simp) ?_
      refine ⟨v18, v19, v20, v21, v22, v23, v24, v25, v26, .tuple #[.agg vD, .int .i64 ((0 + 32 : Nat) : Int), .int .i64 0], .agg vD, v28, v29, v9, v10, v11, by simp only [Act.put, List.setIfInBounds_toArray, List.set_cons_succ, List.set_cons_zero], ?_⟩
      simp only [also, Nat.zero_add, Nat.reduceAdd, Nat.reduceBEq, Bool.or_true, Bool.or_false]
      exact { F with f10 := fun _ => rfl }
    · simp at ho
      subst ho
      simp [Region.binds] at hdeps
      refine iv_want rfl ?_
      obtain rfl := F.f9 hdeps
      refine ow_val (.int .i64 ((0 + 32 : Nat) : Int)) w3 (by go_simp) ?_
      refine ⟨v18, v19, v20, v21, v22, v23, v24, v25, v26, .tuple #[.agg vD, .int .i64 ((0 + 32 : Nat) : Int), .int .i64 0], v27, .int .i64 ((0 + 32 : Nat) : Int), v29, v9, v10, v11, by simp only [Act.put, List.setIfInBounds_toArray, List.set_cons_succ, List.set_cons_zero], ?_⟩
      simp only [also, Nat.zero_add, Nat.reduceAdd, Nat.reduceBEq, Bool.or_true, Bool.or_false]
      exact { F with }
    · simp at ho
      subst ho
      simp [Region.binds] at hdeps
      refine iv_want rfl ?_
      obtain rfl := F.f9 hdeps
      refine ow_val (.int .i64 0) w3 (by go_simp) ?_
      refine ⟨v18, v19, v20, v21, v22, v23, v24, v25, v26, .tuple #[.agg vD, .int .i64 ((0 + 32 : Nat) : Int), .int .i64 0], v27, v28, .int .i64 0, v9, v10, v11, by simp only [Act.put, List.setIfInBounds_toArray, List.set_cons_succ, List.set_cons_zero], ?_⟩
      simp only [also, Nat.zero_add, Nat.reduceAdd, Nat.reduceBEq, Bool.or_true, Bool.or_false]
      exact { F with }
    · simp at ho
      subst ho
      simp [Region.binds] at hdeps
      refine iv_want rfl ?_
      refine ow_alloc 32 rfl zz (hz0 _) ?_
      refine ⟨v18, v19, v20, v21, v22, v23, v24, v25, v26, v17, v27, v28, v29, (.pointer (some ⟨w3.heap.size, 0, none⟩)), v10, v11, by simp only [Act.put, List.setIfInBounds_toArray, List.set_cons_succ, List.set_cons_zero], ?_⟩
      simp only [also, Nat.zero_add, Nat.reduceAdd, Nat.reduceBEq, Bool.or_true, Bool.or_false]
      refine { F.keep ((Below.refl _ _).alloc (Nat.le_refl _) (.cells zz 32)) with f13 := fun _ => ⟨_, rfl, F.sz, fun _ => at_new _ _ _ rfl, fun h => ?_⟩, d14 := fun _ => rfl }
      have := F.d14 h; rw [hL] at this; cases this
    · simp at ho
      subst ho
      simp [Region.binds] at hdeps
      refine iv_want rfl ?_
      obtain rfl := F.f10 (by simp [hdeps])
      have l13 : L 13 = true := by simp [hdeps]
      have l3 : L 3 = true := by simp [hdeps]
      have l5 : L 5 = true := by simp [hdeps]
      have l6 : L 6 = true := by simp [hdeps]
      have l8 : L 8 = true := by simp [hdeps]
      obtain ⟨g, rfl, hg, h0, _⟩ := F.f13 l13
      have hr := h0 hL
      refine ow_store_row 32 _ _ rfl g rfl 32 zz vD rfl hr (by rw [hvs]; exact info_d32) (by rw [hzs, hvs]) hv1 ?_
      refine ⟨v18, v19, v20, v21, v22, v23, v24, v25, v26, v17, .agg vD, v28, v29, .pointer (some ⟨g, 0, none⟩), v10, v11, by simp only [Act.put, List.setIfInBounds_toArray, List.set_cons_succ, List.set_cons_zero], ?_⟩
      simp only [also, Nat.zero_add, Nat.reduceAdd, Nat.reduceBEq, Bool.or_true, Bool.or_false]
      refine { F with hB := below_setRow F.hB hg _, f1 := fun _ h => ?_, f3 := fun _ h => ?_, f5 := fun _ h => ?_, f7 := fun _ h => ?_, f13 := fun _ => ⟨g, rfl, hg, fun h => by (cases h), fun _ => setRow_heap _ _ _ _ _ _ hr⟩, d14 := fun _ => l13 }
      · rw [l3] at h; cases h
      · rw [l5] at h; cases h
      · rw [l6] at h; cases h
      · rw [l8] at h; cases h
    · simp at ho
      subst ho
      simp [Region.binds] at hdeps
      refine iv_want rfl ?_
      refine ow_val v28 w3 (by go_simp) ?_
      refine ⟨v18, v19, v20, v21, v22, v23, v24, v25, v26, v17, v27, v28, v29, v9, v28, v11, by simp only [Act.put, List.setIfInBounds_toArray, List.set_cons_succ, List.set_cons_zero], ?_⟩
      simp only [also, Nat.zero_add, Nat.reduceAdd, Nat.reduceBEq, Bool.or_true, Bool.or_false]
      exact { F with }
    · simp at ho
      subst ho
      simp [Region.binds] at hdeps
      refine iv_want rfl ?_
      refine ow_val v29 w3 (by go_simp) ?_
      refine ⟨v18, v19, v20, v21, v22, v23, v24, v25, v26, v17, v27, v28, v29, v9, v10, v29, by simp only [Act.put, List.setIfInBounds_toArray, List.set_cons_succ, List.set_cons_zero], ?_⟩
      simp only [also, Nat.zero_add, Nat.reduceAdd, Nat.reduceBEq, Bool.or_true, Bool.or_false]
      exact { F with }
    · omega
  · rintro L a' w3 ⟨v18, v19, v20, v21, v22, v23, v24, v25, v26, v17, v27, v28, v29, v9, v10, v11, hA, F⟩ hall
    simp only [Act.put, List.setIfInBounds_toArray, List.set_cons_succ, List.set_cons_zero] at hA
    subst hA
    have hall' : ∀ i, i < 17 → L i = true := fun i hi => hall i (by simpa using hi)
    obtain ⟨g, rfl, hg, _, hr⟩ := F.f13 (hall' 13 (by omega))
    replace hr := hr (hall' 14 (by omega))
    have q6 := K6 _ F.hB
    have b3 := b2'.trans (F.hB.mono (by omega))
    have Q6 := Lib.hid q6
    have HR9 := Lib.hid hr
    have HVS := Lib.hid (show (Tryd.prog.info? 32).map (·.size) = some vD.size by rw [hvs]; exact info_d32)
    have HZS := Lib.hid (show zz.size = vD.size by rw [hzs, hvs])
    have HV1 := Lib.hid hv1
    clear F hall hall' K3 K6 q6 hr hvs hzs hv1 hz0 CO CW CD
    go_wp2_with (first | refine wl_load_row rfl 32 _ rfl g rfl 32 vD (0, 0) _ HR9.out Tryd.underlying32 rfl HVS.out ?_ | refine wl_store_row rfl 32 _ _ rfl (w.heap.size + 1) rfl 32 zz vD rfl Q6.out HVS.out HZS.out HV1.out ?_)
    exact ret_row rfl rfl (w.heap.size + 1) rfl 32 vD (0, 0) _ (setRow_heap _ _ _ _ _ _ Q6.out) Tryd.underlying32 rfl HVS.out ⟨by rw [HG.out], below_setRow b3 (by omega) _⟩
/-- The reference's End. -/
theorem end_b (h : H8) (n : Nat) (r : List UInt8) (v : Value) (w : World) (hR : Rd w v r.length 1 (bl r)) (hn : n ≤ 2305843009213693951) (hr : r.length ≤ 140737488355000) :
    Calls Tryd.prog 80 #[.agg (hv h), .int .i64 n, v] w fun e w' => e = .returned (.agg (bv (endOf h n r))) ∧ Below w.heap.size w w' :=
  end_gen over wb pad wb_length (fun n => by rw [pad_length]; omega) over_b words_b padding_b h n r v w hR hn hr
end Go.Proofs.YtlhebogbbkjahaaDoor
