/- Proved here: of two unlike digests each has a digit that is less than the other's at the same place, and like ones have none; each digit is from 0 to 3 (onetime.Digits); without condition. -/
import Derived.Test.YtkgdjddcnlkppaaOc
import Derived.Test.YtkgdjddcnlkppaaIv
import Derived.Test.YtkgdjddcnlkppaaFOnetimeLess
namespace Go.Proofs.Ytkgdjddcnlkppaa
open Go.RowKit Cop
set_option linter.unusedVariables false
set_option linter.unusedSimpArgs false
/-- What the first region of the law has done. -/
structure LF (B : Nat) (w0 : World) (va vb : Array Value) (Da Db zz : Array Value) (b0 b1 b2 b3 b4 b5 b6 b7 : Bool) (v10 v11 v12 v13 v5 v6 : Value) (w : World) : Prop where
  hB : Below B w0 w
  f0 : b0 = true → v10 = .agg va
  f1 : b1 = true → v11 = .agg Da
  f2 : b2 = true → v12 = .agg vb
  f3 : b3 = true → v13 = .agg Db
  f4 : b4 = true → ∃ g, v5 = .pointer (some ⟨g, 0, none⟩) ∧ B ≤ g ∧ (b6 = false → w.heap[g]? = some (.cells zz 24 (0, 0))) ∧ (b6 = true → w.heap[g]? = some (.cells Da 24 (0, 0)))
  f5 : b5 = true → ∃ g, v6 = .pointer (some ⟨g, 0, none⟩) ∧ B ≤ g ∧ (b7 = false → w.heap[g]? = some (.cells zz 24 (0, 0))) ∧ (b7 = true → w.heap[g]? = some (.cells Db 24 (0, 0)))
  f45 : b4 = true → b5 = true → v5 ≠ v6
  d64 : b6 = true → b4 = true
  d75 : b7 = true → b5 = true
  e0 : B = w0.heap.size
theorem LF.keep {B : Nat} {w0 : World} {va vb Da Db zz : Array Value} {b0 b1 b2 b3 b4 b5 b6 b7 : Bool} {v10 v11 v12 v13 v5 v6 : Value} {w w' : World} (h : LF B w0 va vb Da Db zz b0 b1 b2 b3 b4 b5 b6 b7 v10 v11 v12 v13 v5 v6 w) (hb : Below B w0 w') (hk : ∀ (g : Nat) (o : Obj), w.heap[g]? = some o → w'.heap[g]? = some o) :
    LF B w0 va vb Da Db zz b0 b1 b2 b3 b4 b5 b6 b7 v10 v11 v12 v13 v5 v6 w' :=
  ⟨hb, h.f0, h.f1, h.f2, h.f3, fun e => (h.f4 e).imp fun g ⟨p, q, r, s⟩ => ⟨p, q, fun e => hk _ _ (r e), fun e => hk _ _ (s e)⟩, fun e => (h.f5 e).imp fun g ⟨p, q, r, s⟩ => ⟨p, q, fun e => hk _ _ (r e), fun e => hk _ _ (s e)⟩, h.f45, h.d64, h.d75, h.e0⟩
theorem bcall' {B : Nat} {w0 w w' : World} (h : Below B w0 w) (k : Below w.heap.size w w') (hB : B ≤ w.heap.size) : Below B w0 w' := h.trans (k.mono hB)
theorem below_keep {w w' : World} (h : Below w.heap.size w w') (g : Nat) (o : Obj) (hg : w.heap[g]? = some o) : w'.heap[g]? = some o := kept_row h hg
theorem LF.sz {B : Nat} {w0 : World} {va vb Da Db zz : Array Value} {b0 b1 b2 b3 b4 b5 b6 b7 : Bool} {v10 v11 v12 v13 v5 v6 : Value} {w : World} (h : LF B w0 va vb Da Db zz b0 b1 b2 b3 b4 b5 b6 b7 v10 v11 v12 v13 v5 v6 w) : B ≤ w.heap.size := by rw [h.e0]; exact h.hB.size
theorem LF.lt5 {B : Nat} {w0 : World} {va vb Da Db zz : Array Value} {b0 b1 b2 b3 b4 b5 b6 b7 : Bool} {v10 v11 v12 v13 v5 v6 : Value} {w : World} (h : LF B w0 va vb Da Db zz b0 b1 b2 b3 b4 b5 b6 b7 v10 v11 v12 v13 v5 v6 w) (e : b4 = true) (k : Nat) (hk : w.heap.size ≤ k) : v5 ≠ .pointer (some ⟨k, 0, none⟩) := by
  obtain ⟨g, rfl, _, h0, h1⟩ := h.f4 e
  have : g < w.heap.size := by
    cases b6 with
    | false => exact (Array.getElem?_eq_some_iff.1 (h0 rfl)).1
    | true => exact (Array.getElem?_eq_some_iff.1 (h1 rfl)).1
  intro hh
  simp only [Value.pointer.injEq, Option.some.injEq, Addr.mk.injEq, and_true, true_and] at hh
  omega
theorem LF.lt6 {B : Nat} {w0 : World} {va vb Da Db zz : Array Value} {b0 b1 b2 b3 b4 b5 b6 b7 : Bool} {v10 v11 v12 v13 v5 v6 : Value} {w : World} (h : LF B w0 va vb Da Db zz b0 b1 b2 b3 b4 b5 b6 b7 v10 v11 v12 v13 v5 v6 w) (e : b5 = true) (k : Nat) (hk : w.heap.size ≤ k) : v6 ≠ .pointer (some ⟨k, 0, none⟩) := by
  obtain ⟨g, rfl, _, h0, h1⟩ := h.f5 e
  have : g < w.heap.size := by
    cases b7 with
    | false => exact (Array.getElem?_eq_some_iff.1 (h0 rfl)).1
    | true => exact (Array.getElem?_eq_some_iff.1 (h1 rfl)).1
  intro hh
  simp only [Value.pointer.injEq, Option.some.injEq, Addr.mk.injEq, and_true, true_and] at hh
  omega
theorem alloc_keep (w : World) (x : Obj) (g : Nat) (o : Obj) (hg : w.heap[g]? = some o) : (w.alloc x).heap[g]? = some o := at_old _ _ _ (Array.getElem?_eq_some_iff.1 hg).1 hg
theorem LF.alloc5 {B : Nat} {w0 : World} {va vb Da Db zz : Array Value} {b0 b1 b2 b3 b4 b5 b6 b7 : Bool} {v10 v11 v12 v13 v5 v6 : Value} {w : World} (h : LF B w0 va vb Da Db zz b0 b1 b2 b3 b4 b5 b6 b7 v10 v11 v12 v13 v5 v6 w) (h4 : b4 = false) : LF B w0 va vb Da Db zz b0 b1 b2 b3 true b5 b6 b7 v10 v11 v12 v13 (.pointer (some ⟨w.heap.size, 0, none⟩)) v6 (w.alloc (.cells zz 24)) := by
  have K := h.keep (h.hB.alloc h.sz (.cells zz 24)) (alloc_keep w _)
  have h6 : b6 = false := by cases b6 with
    | false => rfl
    | true => exact absurd (h.d64 rfl) (by rw [h4]; decide)
  exact ⟨K.hB, K.f0, K.f1, K.f2, K.f3, fun _ => ⟨_, rfl, h.sz, fun _ => at_new _ _ _ rfl, fun e => by rw [h6] at e; cases e⟩, K.f5, fun _ e => (h.lt6 e _ (Nat.le_refl _)).symm, fun _ => rfl, K.d75, h.e0⟩
theorem LF.alloc6 {B : Nat} {w0 : World} {va vb Da Db zz : Array Value} {b0 b1 b2 b3 b4 b5 b6 b7 : Bool} {v10 v11 v12 v13 v5 v6 : Value} {w : World} (h : LF B w0 va vb Da Db zz b0 b1 b2 b3 b4 b5 b6 b7 v10 v11 v12 v13 v5 v6 w) (h5 : b5 = false) : LF B w0 va vb Da Db zz b0 b1 b2 b3 b4 true b6 b7 v10 v11 v12 v13 v5 (.pointer (some ⟨w.heap.size, 0, none⟩)) (w.alloc (.cells zz 24)) := by
  have K := h.keep (h.hB.alloc h.sz (.cells zz 24)) (alloc_keep w _)
  have h7 : b7 = false := by cases b7 with
    | false => rfl
    | true => exact absurd (h.d75 rfl) (by rw [h5]; decide)
  exact ⟨K.hB, K.f0, K.f1, K.f2, K.f3, K.f4, fun _ => ⟨_, rfl, h.sz, fun _ => at_new _ _ _ rfl, fun e => by rw [h7] at e; cases e⟩, fun e _ => h.lt5 e _ (Nat.le_refl _), K.d64, fun _ => rfl, h.e0⟩
theorem LF.store5 {g : Nat} {B : Nat} {w0 : World} {va vb Da Db zz : Array Value} {b0 b1 b2 b3 b4 b5 b6 b7 : Bool} {v10 v11 v12 v13 v5 v6 : Value} {w : World} (h : LF B w0 va vb Da Db zz b0 b1 b2 b3 b4 b5 b6 b7 v10 v11 v12 v13 (.pointer (some ⟨g, 0, none⟩)) v6 w) (h4 : b4 = true) (hg : B ≤ g) (hz : w.heap[g]? = some (.cells zz 24 (0, 0))) : LF B w0 va vb Da Db zz b0 b1 b2 b3 b4 b5 true b7 v10 v11 v12 v13 (.pointer (some ⟨g, 0, none⟩)) v6 (w.setRow g Da) := by
  have hb := below_setRow h.hB hg Da
  refine ⟨hb, h.f0, h.f1, h.f2, h.f3, fun _ => ⟨g, rfl, hg, fun e => (Bool.noConfusion e), fun _ => setRow_heap _ _ _ _ _ _ hz⟩, fun e => ?_, h.f45, fun _ => h4, h.d75, h.e0⟩
  obtain ⟨k, rfl, hk, h0, h1⟩ := h.f5 e
  have hne : k ≠ g := by have := h.f45 h4 e; simp at this; omega
  exact ⟨k, rfl, hk, fun e => set_other _ hne (h0 e), fun e => set_other _ hne (h1 e)⟩
theorem LF.store6 {g : Nat} {B : Nat} {w0 : World} {va vb Da Db zz : Array Value} {b0 b1 b2 b3 b4 b5 b6 b7 : Bool} {v10 v11 v12 v13 v5 v6 : Value} {w : World} (h : LF B w0 va vb Da Db zz b0 b1 b2 b3 b4 b5 b6 b7 v10 v11 v12 v13 v5 (.pointer (some ⟨g, 0, none⟩)) w) (h5 : b5 = true) (hg : B ≤ g) (hz : w.heap[g]? = some (.cells zz 24 (0, 0))) : LF B w0 va vb Da Db zz b0 b1 b2 b3 b4 b5 b6 true v10 v11 v12 v13 v5 (.pointer (some ⟨g, 0, none⟩)) (w.setRow g Db) := by
  have hb := below_setRow h.hB hg Db
  refine ⟨hb, h.f0, h.f1, h.f2, h.f3, fun e => ?_, fun _ => ⟨g, rfl, hg, fun e => (Bool.noConfusion e), fun _ => setRow_heap _ _ _ _ _ _ hz⟩, h.f45, h.d64, fun _ => h5, h.e0⟩
  obtain ⟨k, rfl, hk, h0, h1⟩ := h.f4 e
  have hne : k ≠ g := by have := h.f45 e h5; simp at this; omega
  exact ⟨k, rfl, hk, fun e => set_other _ hne (h0 e), fun e => set_other _ hne (h1 e)⟩
set_option maxRecDepth 100000 in
set_option maxHeartbeats 4000000 in
theorem onetimeLess_walk (a b : List UInt8) (ha : a.length = 32) (hb : b.length = 32) (w : World) :
    Calls Try.prog 4 #[.agg (bv a), .agg (bv b)] w fun e w' => e = .returned (.bool true) ∧ Below w.heap.size w w' := by
  have hsa : (Try.prog.info? 23).map (·.size) = some (bv a).size := by rw [bv_size, ha]; kernel_rfl
  have hsb : (Try.prog.info? 23).map (·.size) = some (bv b).size := by rw [bv_size, hb]; kernel_rfl
  have HSA := Lib.hid hsa
  have HSB := Lib.hid hsb
  have DA := Lib.hid (digits_a a ha)
  have DB := Lib.hid (digits_a b hb)
  have HA := Lib.hid ha
  have HB := Lib.hid hb
  clear hsa hsb ha hb
  go_enter Try.func4, Try.ntmps4
  go_wp2
  first | refine Cop.wl_world fun w1 hw1 => ?_ | refine Cop.calls_world fun w1 hw1 => ?_ | refine Cop.exit_world fun w1 hw1 => ?_ | refine Cop.code_world fun w1 hw1 => ?_
  have r1 : w1.heap[w.heap.size]? = some (.cells (bv a) 23 (0, 0)) := by rw [← hw1]; (repeat (first | refine Cop.at_new _ _ _ (by simp) | refine Cop.at_old _ _ _ (by simp <;> omega) ?_ | refine Cop.at_old _ _ _ (by simp) ?_))
  have r2 : w1.heap[w.heap.size + 1]? = some (.cells (bv b) 23 (0, 0)) := by rw [← hw1]; (repeat (first | refine Cop.at_new _ _ _ (by simp) | refine Cop.at_old _ _ _ (by simp <;> omega) ?_ | refine Cop.at_old _ _ _ (by simp) ?_))
  have bb : Below w.heap.size w w1 := by rw [← hw1]; exact bal (bal (Below.refl _ _) _) _
  have zw : w.heap.size + 2 = w1.heap.size := by rw [← hw1]; simp
  clear hw1
  have K1 : ∀ w', Below w1.heap.size w1 w' → w'.heap[w.heap.size]? = some (.cells (bv a) 23 (0, 0)) := fun w' h => kept_row h r1
  have K2 : ∀ w', Below w1.heap.size w1 w' → w'.heap[w.heap.size + 1]? = some (.cells (bv b) 23 (0, 0)) := fun w' h => kept_row h r2
  have hD : (nv (dgts a 133)).size = 133 := by rw [nv_size, dgts_length]
  have hD2 : (nv (dgts b 133)).size = 133 := by rw [nv_size, dgts_length]
  have hZ : (nv (List.replicate 133 0)).size = 133 := by rw [nv_size]; rfl
  have hz := zero133
  have ho1 := nv_one (dgts a 133)
  have ho2 := nv_one (dgts b 133)
  obtain ⟨Da, hDa⟩ : ∃ D, nv (dgts a 133) = D := ⟨_, rfl⟩
  obtain ⟨Db, hDb⟩ : ∃ D, nv (dgts b 133) = D := ⟨_, rfl⟩
  obtain ⟨zz, hzz⟩ : ∃ D, nv (List.replicate 133 0) = D := ⟨_, rfl⟩
  rw [hDa] at DA hD ho1
  rw [hDb] at DB hD2 ho2
  rw [hzz] at hz hZ
  obtain ⟨va, hva⟩ : ∃ D, bv a = D := ⟨_, rfl⟩
  obtain ⟨vb, hvb⟩ : ∃ D, bv b = D := ⟨_, rfl⟩
  rw [hva] at r1 K1 DA HSA ⊢
  rw [hvb] at r2 K2 DB HSB ⊢
  refine region_inv2 (fun a0 L a' w' => ∃ v10 v11 v12 v13 v5 v6 : Value, a' = ((((((a0.put (some 10) v10).put (some 11) v11).put (some 12) v12).put (some 13) v13).put (some 5) v5).put (some 6) v6) ∧
      LF w1.heap.size w1 va vb Da Db zz (L 0) (L 1) (L 2) (L 3) (L 4) (L 5) (L 6) (L 7) v10 v11 v12 v13 v5 v6 w') (by kernel_rfl) (by kernel_rfl) ?_ ?_ ?_
  · refine ⟨undef, undef, undef, undef, undef, undef, rfl, ⟨⟨rfl, rfl, rfl, Nat.le_refl _, fun _ _ => rfl⟩, ?_, ?_, ?_, ?_, ?_, ?_, ?_, ?_, ?_, rfl⟩⟩ <;> (intro h; cases h)
  · rintro L a' w2 i o ho ⟨v10, v11, v12, v13, v5, v6, hA, F⟩ hL hdeps
    simp only [Act.put, List.setIfInBounds_toArray, List.set_cons_succ, List.set_cons_zero] at hA
    subst hA
    have hi : i < 8 := by have := (List.getElem?_eq_some_iff.1 ho).1; simpa using this
    rcases i with _ | _ | _ | _ | _ | _ | _ | _ | i
    · simp at ho
      subst ho
      simp [Region.binds] at hdeps
      refine iv_want rfl ?_
      refine ow_load_row 23 _ rfl (w.heap.size) rfl 23 va (0, 0) _ (K1 _ F.hB) Try.underlying23 rfl HSA.out ?_
      refine ⟨.agg va, v11, v12, v13, v5, v6, by simp only [Act.put, List.setIfInBounds_toArray, List.set_cons_succ, List.set_cons_zero], ?_⟩
      simp only [also, Nat.zero_add, Nat.reduceAdd, Nat.reduceBEq, Bool.or_true, Bool.or_false]
      exact { F with f0 := fun _ => rfl }
    · simp at ho
      subst ho
      simp [Region.binds] at hdeps
      refine iv_want rfl ?_
      obtain rfl := F.f0 hdeps
      refine ow_call 5 #[.agg va] (.agg Da) (fun w' => Below w2.heap.size w2 w') (by go_simp) (DA.out w2) (fun w3 b3 => ?_)
      refine ⟨.agg va, .agg Da, v12, v13, v5, v6, by simp only [Act.put, List.setIfInBounds_toArray, List.set_cons_succ, List.set_cons_zero], ?_⟩
      simp only [also, Nat.zero_add, Nat.reduceAdd, Nat.reduceBEq, Bool.or_true, Bool.or_false]
      exact { F.keep (bcall' F.hB b3 F.hB.size) (below_keep b3) with f1 := fun _ => rfl }
    · simp at ho
      subst ho
      simp [Region.binds] at hdeps
      refine iv_want rfl ?_
      refine ow_load_row 23 _ rfl (w.heap.size + 1) rfl 23 vb (0, 0) _ (K2 _ F.hB) Try.underlying23 rfl HSB.out ?_
      refine ⟨v10, v11, .agg vb, v13, v5, v6, by simp only [Act.put, List.setIfInBounds_toArray, List.set_cons_succ, List.set_cons_zero], ?_⟩
      simp only [also, Nat.zero_add, Nat.reduceAdd, Nat.reduceBEq, Bool.or_true, Bool.or_false]
      exact { F with f2 := fun _ => rfl }
    · simp at ho
      subst ho
      simp [Region.binds] at hdeps
      refine iv_want rfl ?_
      obtain rfl := F.f2 hdeps.1
      refine ow_call 5 #[.agg vb] (.agg Db) (fun w' => Below w2.heap.size w2 w') (by go_simp) (DB.out w2) (fun w3 b3 => ?_)
      refine ⟨v10, v11, .agg vb, .agg Db, v5, v6, by simp only [Act.put, List.setIfInBounds_toArray, List.set_cons_succ, List.set_cons_zero], ?_⟩
      simp only [also, Nat.zero_add, Nat.reduceAdd, Nat.reduceBEq, Bool.or_true, Bool.or_false]
      exact { F.keep (bcall' F.hB b3 F.hB.size) (below_keep b3) with f3 := fun _ => rfl }
    · simp at ho
      subst ho
      simp [Region.binds] at hdeps
      refine iv_want rfl ?_
      refine ow_alloc 24 rfl zz (hz _) ?_
      refine ⟨v10, v11, v12, v13, (.pointer (some ⟨w2.heap.size, 0, none⟩)), v6, by simp only [Act.put, List.setIfInBounds_toArray, List.set_cons_succ, List.set_cons_zero], ?_⟩
      simp only [also, Nat.zero_add, Nat.reduceAdd, Nat.reduceBEq, Bool.or_true, Bool.or_false]
      exact F.alloc5 hL
    · simp at ho
      subst ho
      simp [Region.binds] at hdeps
      refine iv_want rfl ?_
      refine ow_alloc 24 rfl zz (hz _) ?_
      refine ⟨v10, v11, v12, v13, v5, (.pointer (some ⟨w2.heap.size, 0, none⟩)), by simp only [Act.put, List.setIfInBounds_toArray, List.set_cons_succ, List.set_cons_zero], ?_⟩
      simp only [also, Nat.zero_add, Nat.reduceAdd, Nat.reduceBEq, Bool.or_true, Bool.or_false]
      exact F.alloc6 hL
    · simp at ho
      subst ho
      simp [Region.binds] at hdeps
      refine iv_want rfl ?_
      have l4 : L 4 = true := by simp [hdeps]
      obtain rfl := F.f1 (by simp [hdeps])
      obtain ⟨g, rfl, hg, h0, _⟩ := F.f4 l4
      have hr := h0 hL
      refine ow_store_row 24 _ _ rfl g rfl 24 zz Da rfl hr (by rw [hD]; exact info_n133) (by rw [hZ, hD]) ho1 ?_
      refine ⟨v10, .agg Da, v12, v13, .pointer (some ⟨g, 0, none⟩), v6, by simp only [Act.put, List.setIfInBounds_toArray, List.set_cons_succ, List.set_cons_zero], ?_⟩
      simp only [also, Nat.zero_add, Nat.reduceAdd, Nat.reduceBEq, Bool.or_true, Bool.or_false]
      exact LF.store5 (v5 := undef) F l4 hg hr
    · simp at ho
      subst ho
      simp [Region.binds] at hdeps
      refine iv_want rfl ?_
      have l5 : L 5 = true := by simp [hdeps]
      obtain rfl := F.f3 (by simp [hdeps])
      obtain ⟨g, rfl, hg, h0, _⟩ := F.f5 l5
      have hr := h0 hL
      refine ow_store_row 24 _ _ rfl g rfl 24 zz Db rfl hr (by rw [hD2]; exact info_n133) (by rw [hZ, hD2]) ho2 ?_
      refine ⟨v10, v11, v12, .agg Db, v5, .pointer (some ⟨g, 0, none⟩), by simp only [Act.put, List.setIfInBounds_toArray, List.set_cons_succ, List.set_cons_zero], ?_⟩
      simp only [also, Nat.zero_add, Nat.reduceAdd, Nat.reduceBEq, Bool.or_true, Bool.or_false]
      exact LF.store6 (v6 := undef) F l5 hg hr
    · omega
  · rintro L a' w2 ⟨v10, v11, v12, v13, v5, v6, hA, F⟩ hall
    simp only [Act.put, List.setIfInBounds_toArray, List.set_cons_succ, List.set_cons_zero] at hA
    subst hA
    have hall' : ∀ i, i < 8 → L i = true := fun i hi => hall i (by simpa using hi)
    rw [hall' 0 (by omega), hall' 1 (by omega), hall' 2 (by omega), hall' 3 (by omega), hall' 4 (by omega), hall' 5 (by omega), hall' 6 (by omega), hall' 7 (by omega)] at F
    obtain rfl := F.f0 rfl
    obtain rfl := F.f1 rfl
    obtain rfl := F.f2 rfl
    obtain rfl := F.f3 rfl
    obtain ⟨g, rfl, hg, _, r5⟩ := F.f4 rfl
    obtain ⟨k, rfl, hk, _, r6⟩ := F.f5 rfl
    replace r5 := r5 rfl
    replace r6 := r6 rfl
    have r1 := K1 _ F.hB
    have r2 := K2 _ F.hB
    have b2 : Below w.heap.size w w2 := bb.trans (F.hB.mono (by omega))
    clear F hall hall' K1 K2 hz DA DB bb hg hk hD hD2 hZ ho1 ho2
    have hx : ∀ i, i < 133 → (nv (dgts a 133))[i]? = some (.int .i64 (dgt a i : Nat)) := fun i hi => by rw [nv_get _ _ (by rw [dgts_length]; exact hi)]; simp [List.getD, dgts_get _ _ _ hi]
    have hy : ∀ i, i < 133 → (nv (dgts b 133))[i]? = some (.int .i64 (dgt b i : Nat)) := fun i hi => by rw [nv_get _ _ (by rw [dgts_length]; exact hi)]; simp [List.getD, dgts_get _ _ _ hi]
    rw [hDa] at hx
    rw [hDb] at hy
    have HX := Lib.hid hx
    have HY := Lib.hid hy
    have HEQ := Lib.hid (fun w' : World => run_equal_bv (P := Try.prog) w' (d := 9998) Try.underlying23 Try.underlying5 (by kernel_rfl) a b HA.out HB.out)
    rw [hva, hvb] at HEQ
    clear hx hy hDa hDb hzz hva hvb zw
    go_wp2
    go_loopw [7, 8, 9] (fun s7 s8 s9 wr => ∃ i : Nat, i ≤ 133 ∧ s9 = .int .i64 i ∧ s7 = .bool (les a b i) ∧ s8 = .bool (les b a i) ∧ Below w.heap.size w wr ∧ wr.heap[g]? = some (.cells Da 24 (0, 0)) ∧ wr.heap[k]? = some (.cells Db 24 (0, 0)) ∧
      wr.heap[w.heap.size]? = some (.cells va 23 (0, 0)) ∧ wr.heap[w.heap.size + 1]? = some (.cells vb 23 (0, 0))) (fun _ _ s9 _ => 133 - (intOf s9).toNat)
    case atStart => exact ⟨0, by omega, rfl, rfl, rfl, b2, r5, r6, r1, r2⟩
    case round =>
      clear r5 r6 r1 r2 b2
      obtain ⟨i, hi, rfl, rfl, rfl, bb, r5, r6, r1, r2⟩ := hrel
      by_cases hlt : i < 133
      · have cx : wr.cell? ⟨g, i, none⟩ = some (.int .i64 (dgt a i : Nat)) := by rw [row_cell r5]; exact HX.out i hlt
        have cy : wr.cell? ⟨k, i, none⟩ = some (.int .i64 (dgt b i : Nat)) := by rw [row_cell r6]; exact HY.out i hlt
        have HL := Lib.hid (show les a b (i + 1) = (les a b i || decide (dgt a i < dgt b i)) from rfl)
        have HM := Lib.hid (show les b a (i + 1) = (les b a i || decide (dgt b i < dgt a i)) from rfl)
        have hx4 := dgt_lt a i
        have hy4 := dgt_lt b i
        generalize dgt a i = x at cx HL HM hx4
        generalize dgt b i = y at cy HL HM hy4
        generalize les a b i = l at HL ⊢
        generalize les b a i = m at HM ⊢
        have R5 := Lib.hid r5
        have R6 := Lib.hid r6
        have R1 := Lib.hid r1
        have R2 := Lib.hid r2
        clear r5 r6 r1 r2
        have hi1 : (i : Int) < 133 := by omega
        have n1 : ¬ (x : Int) < 0 := by omega
        have n2 : ¬ (3 : Int) < (x : Int) := by omega
        obtain ⟨p, hp⟩ : ∃ p, decide ((x : Int) < (y : Int)) = p := ⟨_, rfl⟩
        obtain ⟨q, hq⟩ : ∃ q, decide ((y : Int) < (x : Int)) = q := ⟨_, rfl⟩
        have HP := Lib.hid (show decide (x < y) = p by rw [← hp]; simp)
        have HQ := Lib.hid (show decide (y < x) = q by rw [← hq]; simp)
        go_wp2
        clear HSA HSB HX HY HEQ
        cases l with
        | false =>
          (refine Cop.region_shut_tail 10 (by kernel_rfl) (by kernel_rfl) ?_; simp only [List.take_succ_cons, List.take_zero, List.drop_succ_cons, List.drop_zero]; repeat (refine Cop.shut_step (fun K hK => ?_); go_simp; refine hK _ ?_; clear hK K); try refine Cop.shut_list ?_)
          go_wp2
          first | refine Cop.wl_world fun w3 hw3 => ?_ | refine Cop.calls_world fun w3 hw3 => ?_ | refine Cop.exit_world fun w3 hw3 => ?_ | refine Cop.code_world fun w3 hw3 => ?_
          have dx : w3.cell? ⟨g, i, none⟩ = some (.int .i64 x) := by rw [← hw3]; exact cx
          have dy : w3.cell? ⟨k, i, none⟩ = some (.int .i64 y) := by rw [← hw3]; exact cy
          have HW3 := Lib.hid hw3
          clear cx cy hw3
          cases m with
          | false =>
            (refine Cop.region_shut_tail 10 (by kernel_rfl) (by kernel_rfl) ?_; simp only [List.take_succ_cons, List.take_zero, List.drop_succ_cons, List.drop_zero]; repeat (refine Cop.shut_step (fun K hK => ?_); go_simp; refine hK _ ?_; clear hK K); try refine Cop.shut_list ?_)
            go_wp2
            go_roundw
            case rel => exact ⟨i + 1, by omega, by go_num, by rw [HL.out, HP.out]; simp, by rw [HM.out, HQ.out]; simp, (below_d HW3.out bb).drew, row_of_drew HW3.out R5.out, row_of_drew HW3.out R6.out, row_of_drew HW3.out R1.out, row_of_drew HW3.out R2.out⟩
            case measure => simp [intOf]; omega
          | true =>
            (refine Cop.region_shut_tail 10 (by kernel_rfl) (by kernel_rfl) ?_; simp only [List.take_succ_cons, List.take_zero, List.drop_succ_cons, List.drop_zero]; repeat (refine Cop.shut_step (fun K hK => ?_); go_simp; refine hK _ ?_; clear hK K); try refine Cop.shut_list ?_)
            go_wp2
            go_roundw
            case rel => exact ⟨i + 1, by omega, by go_num, by rw [HL.out, HP.out]; simp, by rw [HM.out, HQ.out]; simp, (below_d HW3.out bb).drew, row_of_drew HW3.out R5.out, row_of_drew HW3.out R6.out, row_of_drew HW3.out R1.out, row_of_drew HW3.out R2.out⟩
            case measure => simp [intOf]; omega
        | true =>
          (refine Cop.region_shut_tail 10 (by kernel_rfl) (by kernel_rfl) ?_; simp only [List.take_succ_cons, List.take_zero, List.drop_succ_cons, List.drop_zero]; repeat (refine Cop.shut_step (fun K hK => ?_); go_simp; refine hK _ ?_; clear hK K); try refine Cop.shut_list ?_)
          go_wp2
          first | refine Cop.wl_world fun w3 hw3 => ?_ | refine Cop.calls_world fun w3 hw3 => ?_ | refine Cop.exit_world fun w3 hw3 => ?_ | refine Cop.code_world fun w3 hw3 => ?_
          have dx : w3.cell? ⟨g, i, none⟩ = some (.int .i64 x) := by rw [← hw3]; exact cx
          have dy : w3.cell? ⟨k, i, none⟩ = some (.int .i64 y) := by rw [← hw3]; exact cy
          have HW3 := Lib.hid hw3
          clear cx cy hw3
          cases m with
          | false =>
            (refine Cop.region_shut_tail 10 (by kernel_rfl) (by kernel_rfl) ?_; simp only [List.take_succ_cons, List.take_zero, List.drop_succ_cons, List.drop_zero]; repeat (refine Cop.shut_step (fun K hK => ?_); go_simp; refine hK _ ?_; clear hK K); try refine Cop.shut_list ?_)
            go_wp2
            go_roundw
            case rel => exact ⟨i + 1, by omega, by go_num, by rw [HL.out, HP.out]; simp, by rw [HM.out, HQ.out]; simp, (below_d HW3.out bb).drew, row_of_drew HW3.out R5.out, row_of_drew HW3.out R6.out, row_of_drew HW3.out R1.out, row_of_drew HW3.out R2.out⟩
            case measure => simp [intOf]; omega
          | true =>
            (refine Cop.region_shut_tail 10 (by kernel_rfl) (by kernel_rfl) ?_; simp only [List.take_succ_cons, List.take_zero, List.drop_succ_cons, List.drop_zero]; repeat (refine Cop.shut_step (fun K hK => ?_); go_simp; refine hK _ ?_; clear hK K); try refine Cop.shut_list ?_)
            go_wp2
            go_roundw
            case rel => exact ⟨i + 1, by omega, by go_num, by rw [HL.out, HP.out]; simp, by rw [HM.out, HQ.out]; simp, (below_d HW3.out bb).drew, row_of_drew HW3.out R5.out, row_of_drew HW3.out R6.out, row_of_drew HW3.out R1.out, row_of_drew HW3.out R2.out⟩
            case measure => simp [intOf]; omega
      · have hi133 : i = 133 := by omega
        subst hi133
        clear hlt hi
        rw [show ((133 : Nat) : Int) = 133 from rfl]
        have HR1 := Lib.hid r1
        have HR2 := Lib.hid r2
        by_cases hab : a = b
        · subst hab
          rw [les_self]
          have heq : ∀ w' : World, (Op.equalIn (9998 + 2) 23 (.agg va) (.agg vb)).run Try.prog w' = .ok true w' := by simpa using HEQ.out
          clear r1 r2 r5 r6 HX HY
          go_wp2_with (refine wl_load_row rfl 23 (.tmp 2) rfl w.heap.size rfl 23 va (0, 0) _ HR1.out Try.underlying23 rfl HSA.out ?_; refine Cop.wl_unstop ?_)
          refine Cop.restop ?_
          refine wl_load_row rfl 23 (.tmp 3) rfl (w.heap.size + 1) rfl 23 vb (0, 0) _ HR2.out Try.underlying23 rfl HSB.out ?_
          clear HR1 HR2 HSA HSB HEQ HA HB
          go_wp2
          go_ret
          exact ⟨rfl, bb⟩
        · rw [les_ne a b HA.out HB.out hab, les_ne b a HB.out HA.out (Ne.symm hab)]
          have heq : ∀ w' : World, (Op.equalIn (9998 + 2) 23 (.agg va) (.agg vb)).run Try.prog w' = .ok false w' := by simpa [hab] using HEQ.out
          clear r1 r2 r5 r6 HX HY hab
          go_wp2_with (refine wl_load_row rfl 23 (.tmp 2) rfl w.heap.size rfl 23 va (0, 0) _ HR1.out Try.underlying23 rfl HSA.out ?_; refine Cop.wl_unstop ?_)
          refine Cop.restop ?_
          refine Cop.ws_in 22 ?_
          (iterate 21 (first | (refine Cop.ws_skip rfl _ (by simp only [Act.put, List.setIfInBounds_toArray, List.set_cons_succ, List.set_cons_zero]; rfl) ?_) | (refine Cop.ws_load rfl 23 (.tmp 2) rfl w.heap.size rfl 23 va (0, 0) _ HR1.out Try.underlying23 rfl HSA.out _ (by simp only [Act.put, List.setIfInBounds_toArray, List.set_cons_succ, List.set_cons_zero]; rfl) ?_) | (refine Cop.ws_load rfl 23 (.tmp 3) rfl (w.heap.size + 1) rfl 23 vb (0, 0) _ HR2.out Try.underlying23 rfl HSB.out _ (by simp only [Act.put, List.setIfInBounds_toArray, List.set_cons_succ, List.set_cons_zero]; rfl) ?_) | (refine Cop.ws_want rfl ?_; apply Exists.intro; refine ⟨?_, _, by simp only [Act.put, List.setIfInBounds_toArray, List.set_cons_succ, List.set_cons_zero]; rfl, ?_⟩; (go_simp; first | done | with_reducible rfl))))
          refine Cop.Shut.mk ?_
          go_wp2
          go_ret
          exact ⟨rfl, bb⟩
theorem onetimeLess_holds : Rows.OnetimeLessSaid := onetimeLess.row_of_walk fun H enc W base v0 v1 d0 d1 p0 p1 h0 k0 h1 k1 _ => by
  obtain ⟨a, ha, rfl⟩ := open_bytes Try.underlying23 Try.underlying5 (by kernel_rfl) (by kernel_rfl) h0 k0
  obtain ⟨b, hb, rfl⟩ := open_bytes Try.underlying23 Try.underlying5 (by kernel_rfl) (by kernel_rfl) h1 k1
  exact onetimeLess_walk a b ha hb W
#print axioms onetimeLess_holds
end Go.Proofs.Ytkgdjddcnlkppaa
