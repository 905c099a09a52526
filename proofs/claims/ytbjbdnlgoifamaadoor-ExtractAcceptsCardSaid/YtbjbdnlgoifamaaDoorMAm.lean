/- Proved here: any claim is accepted just if the document accepts it. The table of constants is tied to the program's text. No condition. -/
import Derived.Test.YtbjbdnlgoifamaaDoorTz
import Derived.Test.YtbjbdnlgoifamaaDoorMAm0
import Derived.Test.YtbjbdnlgoifamaaDoorOg
import Derived.Test.YtbjbdnlgoifamaaDoorRz
import Derived.Deep.DeepCutAuto
import Derived.Test.YtbjbdnlgoifamaaDoorOd
import Derived.Test.YtbjbdnlgoifamaaDoorFExtractAccepts
namespace Go.Proofs.YtbjbdnlgoifamaaDoor
open Go.RowKit Cop
set_option linter.unusedVariables false
set_option linter.unusedSimpArgs false
/-- The cells of a claim. -/
def clv (m n : Int) (older newer : List UInt8) (s : Value) (i : Int) (x y p q : Value) : Array Value :=
  ([Value.int .i64 m, .int .i64 n] ++ (bl older ++ (bl newer ++ [s, .int .i64 i, x, y, p, q]))).toArray
section
variable {m n i : Int} {older newer : List UInt8} {s x y p q : Value}
theorem clv_o (ho : older.length = 32) (j : Nat) (hj : j < (bv older).size) : (clv m n older newer s i x y p q)[2 + j]? = (bv older)[j]? := by
  have hb : (bl older).length = 32 := by rw [bl_length, ho]
  have hj2 : j < 32 := by rw [← ho]; simpa [bv] using hj
  rw [show bv older = (bl older).toArray from rfl]
  simp only [clv, List.getElem?_toArray]
  rw [List.getElem?_append_right (by simp), List.getElem?_append_left (by simp; omega)]
  simp
theorem clv_n (ho : older.length = 32) (hn : newer.length = 32) (j : Nat) (hj : j < (bv newer).size) : (clv m n older newer s i x y p q)[34 + j]? = (bv newer)[j]? := by
  have hb : (bl older).length = 32 := by rw [bl_length, ho]
  have hc : (bl newer).length = 32 := by rw [bl_length, hn]
  have hj2 : j < 32 := by rw [← hn]; simpa [bv] using hj
  rw [show bv newer = (bl newer).toArray from rfl]
  simp only [clv, List.getElem?_toArray]
  rw [List.getElem?_append_right (by simp; omega), List.getElem?_append_right (by simp; omega), List.getElem?_append_left (by simp; omega)]
  simp [hb]
  congr 1
  omega
theorem clv_t (ho : older.length = 32) (hn : newer.length = 32) (j : Nat) : (clv m n older newer s i x y p q)[66 + j]? = [s, .int .i64 i, x, y, p, q][j]? := by
  have hb : (bl older).length = 32 := by rw [bl_length, ho]
  have hc : (bl newer).length = 32 := by rw [bl_length, hn]
  simp only [clv, List.getElem?_toArray]
  rw [List.getElem?_append_right (by simp; omega), List.getElem?_append_right (by simp; omega), List.getElem?_append_right (by simp; omega)]
  simp [hb, hc]
  congr 1
  omega
theorem clv_size (ho : older.length = 32) (hn : newer.length = 32) : (clv m n older newer s i x y p q).size = 72 := by
  simp [clv, bl_length, ho, hn]
theorem clm_cells {w : World} {g : Nat} {t : TypeId} (ho : older.length = 32) (hn : newer.length = 32) (h : w.heap[g]? = some (.cells (clv m n older newer s i x y p q) t (0, 0))) :
    w.cell? ⟨g, 0, none⟩ = some (.int .i64 m) ∧ w.cell? ⟨g, 1, none⟩ = some (.int .i64 n) ∧ w.cell? ⟨g, 66, none⟩ = some s ∧ w.cell? ⟨g, 67, none⟩ = some (.int .i64 i) ∧ w.cell? ⟨g, 68, none⟩ = some x ∧ w.cell? ⟨g, 69, none⟩ = some y ∧ w.cell? ⟨g, 70, none⟩ = some p ∧ w.cell? ⟨g, 71, none⟩ = some q :=
  ⟨by rw [row_cell h]; rfl, by rw [row_cell h]; rfl, by rw [row_cell h]; exact clv_t ho hn 0, by rw [row_cell h]; exact clv_t ho hn 1, by rw [row_cell h]; exact clv_t ho hn 2, by rw [row_cell h]; exact clv_t ho hn 3, by rw [row_cell h]; exact clv_t ho hn 4, by rw [row_cell h]; exact clv_t ho hn 5⟩
end
/-- Both Inclusions. -/
theorem incl_ab9 (leaf root : List UInt8) (path : List (List UInt8)) (i n : Int) (w : World) (hT : Tab w) (hlf : leaf.length = 32) (hrt : root.length = 32) (hp : AllD path) (hpl : path.length ≤ 4398046511104) : ∃ F : Int,
    (∀ w' v, Below w.heap.size w w' → Rd w' v path.length 32 (dcs path) → Gives 32 #[.agg (bv leaf), .int .i64 i, .int .i64 n, v, .agg (bv root)] w' (.int .i64 F)) ∧
    (∀ w' v, Rd w' v path.length 32 (dcs path) → Gives 43 #[.agg (bv leaf), .int .i64 i, .int .i64 n, v, .agg (bv root)] w' (.int .i64 F)) := by
  obtain ⟨X, E, hX, h1, h2⟩ := root_ab7 leaf path i n w hT hlf hp hpl
  obtain ⟨F, hF⟩ : ∃ F : Int, (E ≠ 0 ∧ F = E) ∨ (E = 0 ∧ X = root ∧ F = 0) ∨ (E = 0 ∧ X ≠ root ∧ F = 71) := by
    by_cases hE : E = 0
    · by_cases hx : X = root
      · exact ⟨0, .inr (.inl ⟨hE, hx, rfl⟩)⟩
      · exact ⟨71, .inr (.inr ⟨hE, hx, rfl⟩)⟩
    · exact ⟨E, .inl ⟨hE, rfl⟩⟩
  exact ⟨F, fun w' v hb hR => vincl leaf root X E F i n v w' hlf hrt hX hF (fun w2 hb2 => h1 w2 v (bcall hb hb2) (hR.below hb2)),
    fun w' v hR => rincl leaf root X E F i n v w' hlf hrt hX hF (fun w2 hb2 => h2 w2 v (hR.below hb2))⟩
set_option maxRecDepth 100000 in
set_option maxHeartbeats 4000000 in
theorem acc_gen (m n i : Int) (older newer x y LX LY : List UInt8) (s p q : List (List UInt8)) (As Ap Aq Ax Ay : Option Addr) (cs cp cq cx cy : Nat) (F G K : Int) (w : World) (ho : older.length = 32) (hn : newer.length = 32) (hlx : LX.length = 32) (hly : LY.length = 32)
    (hs : Rd w (.slice As s.length cs) s.length 32 (dcs s)) (hx : Rd w (.slice Ax x.length cx) x.length 1 (bl x)) (hy : Rd w (.slice Ay y.length cy) y.length 1 (bl y)) (hp : Rd w (.slice Ap p.length cp) p.length 32 (dcs p)) (hq : Rd w (.slice Aq q.length cq) q.length 32 (dcs q))
    (h1 : ∀ w' v, Below w.heap.size w w' → Rd w' v s.length 32 (dcs s) → Gives 31 #[.int .i64 m, .int .i64 n, .agg (bv older), .agg (bv newer), v] w' (.int .i64 F))
    (h2 : ∀ w' v, Below w.heap.size w w' → Rd w' v p.length 32 (dcs p) → Gives 32 #[.agg (bv LX), .int .i64 i, .int .i64 m, v, .agg (bv older)] w' (.int .i64 G))
    (h3 : ∀ w' v, Below w.heap.size w w' → Rd w' v q.length 32 (dcs q) → Gives 32 #[.agg (bv LY), .int .i64 i, .int .i64 n, v, .agg (bv newer)] w' (.int .i64 K))
    (h4 : ∀ w' v, Below w.heap.size w w' → Rd w' v x.length 1 (bl x) → Gives 12 #[v] w' (.agg (bv LX)))
    (h5 : ∀ w' v, Below w.heap.size w w' → Rd w' v y.length 1 (bl y) → Gives 12 #[v] w' (.agg (bv LY))) :
    Gives 14 #[.agg (clv m n older newer (.slice As s.length cs) i (.slice Ax x.length cx) (.slice Ay y.length cy) (.slice Ap p.length cp) (.slice Aq q.length cq))] w (.bool ((F == 0) && ((G == 0) && (K == 0)))) := by
  have H1 := Lib.hid h1
  have H2 := Lib.hid h2
  have H3 := Lib.hid h3
  have H4 := Lib.hid h4
  have H5 := Lib.hid h5
  have HS0 := (((((Sep.start w).arg0 hq).arg0 hp).arg0 hy).arg0 hx).arg0 hs
  clear h1 h2 h3 h4 h5 hs hx hy hp hq
  obtain ⟨b, hb⟩ : ∃ b, ((F == 0) && ((G == 0) && (K == 0))) = b := ⟨_, rfl⟩
  rw [hb]
  have HB := Lib.hid hb
  clear hb
  go_enter Tryd.func14, Tryd.ntmps14
  go_wp2_with (first | refine wl_bx HS0 rfl 37 _ rfl (clv m n older newer (.slice As s.length cs) i (.slice Ax x.length cx) (.slice Ay y.length cy) (.slice Ap p.length cp) (.slice Aq q.length cq)) rfl ?_)
  intro g w1 HS1
  clear HS0
  go_wp2
  refine Cop.region_ord (fun w' => Sep w.heap.size w w' [.row g (clv m n older newer (.slice As s.length cs) i (.slice Ax x.length cx) (.slice Ay y.length cy) (.slice Ap p.length cp) (.slice Aq q.length cq)) 37, .rd (.slice As s.length cs) s.length 32 (dcs s), .rd (.slice Ax x.length cx) x.length 1 (bl x), .rd (.slice Ay y.length cy) y.length 1 (bl y), .rd (.slice Ap p.length cp) p.length 32 (dcs p), .rd (.slice Aq q.length cq) q.length 32 (dcs q)]) 42 (.take 0 (.take 1 (.take 2 (.take 3 (.take 4 (.take 5 (.take 6 (.take 7 (.take 8 (.take 9 (.run 10 (.take 11 (.take 12 (.take 13 (.take 14 (.take 16 (.take 17 (.take 18 (.take 19 (.take 20 (.take 21 (.take 22 (.take 23 (.run 15 (.run 24 (.take 25 (.take 26 (.take 27 (.take 28 (.take 29 (.take 31 (.take 32 (.take 33 (.take 34 (.take 35 (.take 36 (.take 37 (.take 38 (.run 30 (.run 39 (.take 40 (.take 41 (.take 42 Cop.Ord.fin))))))))))))))))))))))))))))))))))))))))))) (by kernel_rfl) (by kernel_rfl) (fun _ _ d _ _ h => by cases d <;> exact h) ?_
  intro wa hda
  have HSa := HS1.keep hda
  clear HS1
  (repeat (first | (refine Cop.og_skip rfl rfl HSa _ (by (simp only [Act.put, List.setIfInBounds_toArray, List.set_cons_succ, List.set_cons_zero]; rfl)) ?_) | (refine Cop.og_ld rfl rfl HSa 24 _ rfl (.pointer (some ⟨g, 2, none⟩)) rfl (.agg (bv older)) (fun w9 h9 => load_mid (h9.row 0 rfl) 2 (bv older) (clv_o ho) 24 Tryd.underlying24 rfl (dgS ho)) _ (by (simp only [Act.put, List.setIfInBounds_toArray, List.set_cons_succ, List.set_cons_zero]; rfl)) ?_) | (refine Cop.og_ld rfl rfl HSa 24 _ rfl (.pointer (some ⟨g, 34, none⟩)) rfl (.agg (bv newer)) (fun w9 h9 => load_mid (h9.row 0 rfl) 34 (bv newer) (clv_n ho hn) 24 Tryd.underlying24 rfl (dgS hn)) _ (by (simp only [Act.put, List.setIfInBounds_toArray, List.set_cons_succ, List.set_cons_zero]; rfl)) ?_) | (refine Cop.og_take rfl rfl HSa ?_; apply Exists.intro; refine ⟨fun w9 h9 => ?_, _, by (simp only [Act.put, List.setIfInBounds_toArray, List.set_cons_succ, List.set_cons_zero]; rfl), ?_⟩; (obtain ⟨c0, c1, c2, c3, c4, c5, c6, c7⟩ := clm_cells ho hn (h9.row 0 rfl); go_simp; with_reducible rfl))))
  refine Cop.og_run rfl rfl ?_
  refine ow_call 31 _ _ (fun w' => Below wa.heap.size wa w') (by go_simp) (H1.out wa _ HSa.hb (HSa.rd 1 rfl)) ?_
  intro wb bb
  have HSb := HSa.keep bb
  clear HSa
  refine ⟨fun _ => HSb, ?_⟩
  by_cases hF : F = 0
  · subst hF
    (repeat (first | (refine Cop.og_skip rfl rfl HSb _ (by (simp only [Act.put, List.setIfInBounds_toArray, List.set_cons_succ, List.set_cons_zero]; rfl)) ?_) | (refine Cop.og_ld rfl rfl HSb 24 _ rfl (.pointer (some ⟨g, 2, none⟩)) rfl (.agg (bv older)) (fun w9 h9 => load_mid (h9.row 0 rfl) 2 (bv older) (clv_o ho) 24 Tryd.underlying24 rfl (dgS ho)) _ (by (simp only [Act.put, List.setIfInBounds_toArray, List.set_cons_succ, List.set_cons_zero]; rfl)) ?_) | (refine Cop.og_ld rfl rfl HSb 24 _ rfl (.pointer (some ⟨g, 34, none⟩)) rfl (.agg (bv newer)) (fun w9 h9 => load_mid (h9.row 0 rfl) 34 (bv newer) (clv_n ho hn) 24 Tryd.underlying24 rfl (dgS hn)) _ (by (simp only [Act.put, List.setIfInBounds_toArray, List.set_cons_succ, List.set_cons_zero]; rfl)) ?_) | (refine Cop.og_take rfl rfl HSb ?_; apply Exists.intro; refine ⟨fun w9 h9 => ?_, _, by (simp only [Act.put, List.setIfInBounds_toArray, List.set_cons_succ, List.set_cons_zero]; rfl), ?_⟩; (obtain ⟨c0, c1, c2, c3, c4, c5, c6, c7⟩ := clm_cells ho hn (h9.row 0 rfl); go_simp; with_reducible rfl))))
    refine Cop.og_run rfl rfl ?_
    refine ow_call 12 _ _ (fun w' => Below wb.heap.size wb w') (by go_simp) (H4.out wb _ HSb.hb (HSb.rd 2 rfl)) ?_
    intro wc bc
    have HSc := HSb.keep bc
    clear HSb
    refine ⟨fun _ => HSc, ?_⟩
    (repeat (first | (refine Cop.og_skip rfl rfl HSc _ (by (simp only [Act.put, List.setIfInBounds_toArray, List.set_cons_succ, List.set_cons_zero]; rfl)) ?_) | (refine Cop.og_ld rfl rfl HSc 24 _ rfl (.pointer (some ⟨g, 2, none⟩)) rfl (.agg (bv older)) (fun w9 h9 => load_mid (h9.row 0 rfl) 2 (bv older) (clv_o ho) 24 Tryd.underlying24 rfl (dgS ho)) _ (by (simp only [Act.put, List.setIfInBounds_toArray, List.set_cons_succ, List.set_cons_zero]; rfl)) ?_) | (refine Cop.og_ld rfl rfl HSc 24 _ rfl (.pointer (some ⟨g, 34, none⟩)) rfl (.agg (bv newer)) (fun w9 h9 => load_mid (h9.row 0 rfl) 34 (bv newer) (clv_n ho hn) 24 Tryd.underlying24 rfl (dgS hn)) _ (by (simp only [Act.put, List.setIfInBounds_toArray, List.set_cons_succ, List.set_cons_zero]; rfl)) ?_) | (refine Cop.og_take rfl rfl HSc ?_; apply Exists.intro; refine ⟨fun w9 h9 => ?_, _, by (simp only [Act.put, List.setIfInBounds_toArray, List.set_cons_succ, List.set_cons_zero]; rfl), ?_⟩; (obtain ⟨c0, c1, c2, c3, c4, c5, c6, c7⟩ := clm_cells ho hn (h9.row 0 rfl); go_simp; with_reducible rfl))))
    refine Cop.og_run rfl rfl ?_
    refine ow_call 32 _ _ (fun w' => Below wc.heap.size wc w') (by go_simp) (H2.out wc _ HSc.hb (HSc.rd 4 rfl)) ?_
    intro wd bd
    have HSd := HSc.keep bd
    clear HSc
    refine ⟨fun _ => HSd, ?_⟩
    by_cases hG : G = 0
    · subst hG
      (repeat (first | (refine Cop.og_skip rfl rfl HSd _ (by (simp only [Act.put, List.setIfInBounds_toArray, List.set_cons_succ, List.set_cons_zero]; rfl)) ?_) | (refine Cop.og_ld rfl rfl HSd 24 _ rfl (.pointer (some ⟨g, 2, none⟩)) rfl (.agg (bv older)) (fun w9 h9 => load_mid (h9.row 0 rfl) 2 (bv older) (clv_o ho) 24 Tryd.underlying24 rfl (dgS ho)) _ (by (simp only [Act.put, List.setIfInBounds_toArray, List.set_cons_succ, List.set_cons_zero]; rfl)) ?_) | (refine Cop.og_ld rfl rfl HSd 24 _ rfl (.pointer (some ⟨g, 34, none⟩)) rfl (.agg (bv newer)) (fun w9 h9 => load_mid (h9.row 0 rfl) 34 (bv newer) (clv_n ho hn) 24 Tryd.underlying24 rfl (dgS hn)) _ (by (simp only [Act.put, List.setIfInBounds_toArray, List.set_cons_succ, List.set_cons_zero]; rfl)) ?_) | (refine Cop.og_take rfl rfl HSd ?_; apply Exists.intro; refine ⟨fun w9 h9 => ?_, _, by (simp only [Act.put, List.setIfInBounds_toArray, List.set_cons_succ, List.set_cons_zero]; rfl), ?_⟩; (obtain ⟨c0, c1, c2, c3, c4, c5, c6, c7⟩ := clm_cells ho hn (h9.row 0 rfl); go_simp; with_reducible rfl))))
      refine Cop.og_run rfl rfl ?_
      refine ow_call 12 _ _ (fun w' => Below wd.heap.size wd w') (by go_simp) (H5.out wd _ HSd.hb (HSd.rd 3 rfl)) ?_
      intro we be
      have HSe := HSd.keep be
      clear HSd
      refine ⟨fun _ => HSe, ?_⟩
      (repeat (first | (refine Cop.og_skip rfl rfl HSe _ (by (simp only [Act.put, List.setIfInBounds_toArray, List.set_cons_succ, List.set_cons_zero]; rfl)) ?_) | (refine Cop.og_ld rfl rfl HSe 24 _ rfl (.pointer (some ⟨g, 2, none⟩)) rfl (.agg (bv older)) (fun w9 h9 => load_mid (h9.row 0 rfl) 2 (bv older) (clv_o ho) 24 Tryd.underlying24 rfl (dgS ho)) _ (by (simp only [Act.put, List.setIfInBounds_toArray, List.set_cons_succ, List.set_cons_zero]; rfl)) ?_) | (refine Cop.og_ld rfl rfl HSe 24 _ rfl (.pointer (some ⟨g, 34, none⟩)) rfl (.agg (bv newer)) (fun w9 h9 => load_mid (h9.row 0 rfl) 34 (bv newer) (clv_n ho hn) 24 Tryd.underlying24 rfl (dgS hn)) _ (by (simp only [Act.put, List.setIfInBounds_toArray, List.set_cons_succ, List.set_cons_zero]; rfl)) ?_) | (refine Cop.og_take rfl rfl HSe ?_; apply Exists.intro; refine ⟨fun w9 h9 => ?_, _, by (simp only [Act.put, List.setIfInBounds_toArray, List.set_cons_succ, List.set_cons_zero]; rfl), ?_⟩; (obtain ⟨c0, c1, c2, c3, c4, c5, c6, c7⟩ := clm_cells ho hn (h9.row 0 rfl); go_simp; with_reducible rfl))))
      refine Cop.og_run rfl rfl ?_
      refine ow_call 32 _ _ (fun w' => Below we.heap.size we w') (by go_simp) (H3.out we _ HSe.hb (HSe.rd 5 rfl)) ?_
      intro wf bf
      have HSf := HSe.keep bf
      clear HSe
      refine ⟨fun _ => HSf, ?_⟩
      (repeat (first | (refine Cop.og_skip rfl rfl HSf _ (by (simp only [Act.put, List.setIfInBounds_toArray, List.set_cons_succ, List.set_cons_zero]; rfl)) ?_) | (refine Cop.og_ld rfl rfl HSf 24 _ rfl (.pointer (some ⟨g, 2, none⟩)) rfl (.agg (bv older)) (fun w9 h9 => load_mid (h9.row 0 rfl) 2 (bv older) (clv_o ho) 24 Tryd.underlying24 rfl (dgS ho)) _ (by (simp only [Act.put, List.setIfInBounds_toArray, List.set_cons_succ, List.set_cons_zero]; rfl)) ?_) | (refine Cop.og_ld rfl rfl HSf 24 _ rfl (.pointer (some ⟨g, 34, none⟩)) rfl (.agg (bv newer)) (fun w9 h9 => load_mid (h9.row 0 rfl) 34 (bv newer) (clv_n ho hn) 24 Tryd.underlying24 rfl (dgS hn)) _ (by (simp only [Act.put, List.setIfInBounds_toArray, List.set_cons_succ, List.set_cons_zero]; rfl)) ?_) | (refine Cop.og_take rfl rfl HSf ?_; apply Exists.intro; refine ⟨fun w9 h9 => ?_, _, by (simp only [Act.put, List.setIfInBounds_toArray, List.set_cons_succ, List.set_cons_zero]; rfl), ?_⟩; (obtain ⟨c0, c1, c2, c3, c4, c5, c6, c7⟩ := clm_cells ho hn (h9.row 0 rfl); go_simp; with_reducible rfl))))
      refine og_fin ?_
      have hb := HB.out
      simp only [beq_self_eq_true, Bool.true_and] at hb
      subst hb
      go_wp2
      go_ret
      exact ⟨rfl, HSf.hb⟩
    · have HG := Lib.hid (beq_eq_false_iff_ne.2 hG)
      (repeat (first | (refine Cop.og_skip rfl rfl HSd _ (by (simp only [Act.put, List.setIfInBounds_toArray, List.set_cons_succ, List.set_cons_zero]; rfl)) ?_) | (refine Cop.og_ld rfl rfl HSd 24 _ rfl (.pointer (some ⟨g, 2, none⟩)) rfl (.agg (bv older)) (fun w9 h9 => load_mid (h9.row 0 rfl) 2 (bv older) (clv_o ho) 24 Tryd.underlying24 rfl (dgS ho)) _ (by (simp only [Act.put, List.setIfInBounds_toArray, List.set_cons_succ, List.set_cons_zero]; rfl)) ?_) | (refine Cop.og_ld rfl rfl HSd 24 _ rfl (.pointer (some ⟨g, 34, none⟩)) rfl (.agg (bv newer)) (fun w9 h9 => load_mid (h9.row 0 rfl) 34 (bv newer) (clv_n ho hn) 24 Tryd.underlying24 rfl (dgS hn)) _ (by (simp only [Act.put, List.setIfInBounds_toArray, List.set_cons_succ, List.set_cons_zero]; rfl)) ?_) | (refine Cop.og_take rfl rfl HSd ?_; apply Exists.intro; refine ⟨fun w9 h9 => ?_, _, by (simp only [Act.put, List.setIfInBounds_toArray, List.set_cons_succ, List.set_cons_zero]; rfl), ?_⟩; (have hd := HG.out; obtain ⟨c0, c1, c2, c3, c4, c5, c6, c7⟩ := clm_cells ho hn (h9.row 0 rfl); go_simp; with_reducible rfl))))
      refine Cop.og_rskip rfl rfl HSd _ (by (simp only [Act.put, List.setIfInBounds_toArray, List.set_cons_succ, List.set_cons_zero]; rfl)) ?_
      (repeat (first | (refine Cop.og_skip rfl rfl HSd _ (by (simp only [Act.put, List.setIfInBounds_toArray, List.set_cons_succ, List.set_cons_zero]; rfl)) ?_) | (refine Cop.og_ld rfl rfl HSd 24 _ rfl (.pointer (some ⟨g, 2, none⟩)) rfl (.agg (bv older)) (fun w9 h9 => load_mid (h9.row 0 rfl) 2 (bv older) (clv_o ho) 24 Tryd.underlying24 rfl (dgS ho)) _ (by (simp only [Act.put, List.setIfInBounds_toArray, List.set_cons_succ, List.set_cons_zero]; rfl)) ?_) | (refine Cop.og_ld rfl rfl HSd 24 _ rfl (.pointer (some ⟨g, 34, none⟩)) rfl (.agg (bv newer)) (fun w9 h9 => load_mid (h9.row 0 rfl) 34 (bv newer) (clv_n ho hn) 24 Tryd.underlying24 rfl (dgS hn)) _ (by (simp only [Act.put, List.setIfInBounds_toArray, List.set_cons_succ, List.set_cons_zero]; rfl)) ?_) | (refine Cop.og_take rfl rfl HSd ?_; apply Exists.intro; refine ⟨fun w9 h9 => ?_, _, by (simp only [Act.put, List.setIfInBounds_toArray, List.set_cons_succ, List.set_cons_zero]; rfl), ?_⟩; (obtain ⟨c0, c1, c2, c3, c4, c5, c6, c7⟩ := clm_cells ho hn (h9.row 0 rfl); go_simp; with_reducible rfl))))
      refine Cop.og_rskip rfl rfl HSd _ (by (simp only [Act.put, List.setIfInBounds_toArray, List.set_cons_succ, List.set_cons_zero]; rfl)) ?_
      (repeat (first | (refine Cop.og_skip rfl rfl HSd _ (by (simp only [Act.put, List.setIfInBounds_toArray, List.set_cons_succ, List.set_cons_zero]; rfl)) ?_) | (refine Cop.og_ld rfl rfl HSd 24 _ rfl (.pointer (some ⟨g, 2, none⟩)) rfl (.agg (bv older)) (fun w9 h9 => load_mid (h9.row 0 rfl) 2 (bv older) (clv_o ho) 24 Tryd.underlying24 rfl (dgS ho)) _ (by (simp only [Act.put, List.setIfInBounds_toArray, List.set_cons_succ, List.set_cons_zero]; rfl)) ?_) | (refine Cop.og_ld rfl rfl HSd 24 _ rfl (.pointer (some ⟨g, 34, none⟩)) rfl (.agg (bv newer)) (fun w9 h9 => load_mid (h9.row 0 rfl) 34 (bv newer) (clv_n ho hn) 24 Tryd.underlying24 rfl (dgS hn)) _ (by (simp only [Act.put, List.setIfInBounds_toArray, List.set_cons_succ, List.set_cons_zero]; rfl)) ?_) | (refine Cop.og_take rfl rfl HSd ?_; apply Exists.intro; refine ⟨fun w9 h9 => ?_, _, by (simp only [Act.put, List.setIfInBounds_toArray, List.set_cons_succ, List.set_cons_zero]; rfl), ?_⟩; (obtain ⟨c0, c1, c2, c3, c4, c5, c6, c7⟩ := clm_cells ho hn (h9.row 0 rfl); go_simp; with_reducible rfl))))
      refine og_fin ?_
      have hb := HB.out
      simp only [HG.out, beq_self_eq_true, Bool.true_and, Bool.false_and] at hb
      subst hb
      go_wp2
      go_ret
      exact ⟨rfl, HSd.hb⟩
  · have HF := Lib.hid (beq_eq_false_iff_ne.2 hF)
    (repeat (first | (refine Cop.og_skip rfl rfl HSb _ (by (simp only [Act.put, List.setIfInBounds_toArray, List.set_cons_succ, List.set_cons_zero]; rfl)) ?_) | (refine Cop.og_ld rfl rfl HSb 24 _ rfl (.pointer (some ⟨g, 2, none⟩)) rfl (.agg (bv older)) (fun w9 h9 => load_mid (h9.row 0 rfl) 2 (bv older) (clv_o ho) 24 Tryd.underlying24 rfl (dgS ho)) _ (by (simp only [Act.put, List.setIfInBounds_toArray, List.set_cons_succ, List.set_cons_zero]; rfl)) ?_) | (refine Cop.og_ld rfl rfl HSb 24 _ rfl (.pointer (some ⟨g, 34, none⟩)) rfl (.agg (bv newer)) (fun w9 h9 => load_mid (h9.row 0 rfl) 34 (bv newer) (clv_n ho hn) 24 Tryd.underlying24 rfl (dgS hn)) _ (by (simp only [Act.put, List.setIfInBounds_toArray, List.set_cons_succ, List.set_cons_zero]; rfl)) ?_) | (refine Cop.og_take rfl rfl HSb ?_; apply Exists.intro; refine ⟨fun w9 h9 => ?_, _, by (simp only [Act.put, List.setIfInBounds_toArray, List.set_cons_succ, List.set_cons_zero]; rfl), ?_⟩; (have hd := HF.out; obtain ⟨c0, c1, c2, c3, c4, c5, c6, c7⟩ := clm_cells ho hn (h9.row 0 rfl); go_simp; with_reducible rfl))))
    refine Cop.og_rskip rfl rfl HSb _ (by (simp only [Act.put, List.setIfInBounds_toArray, List.set_cons_succ, List.set_cons_zero]; rfl)) ?_
    (repeat (first | (refine Cop.og_skip rfl rfl HSb _ (by (simp only [Act.put, List.setIfInBounds_toArray, List.set_cons_succ, List.set_cons_zero]; rfl)) ?_) | (refine Cop.og_ld rfl rfl HSb 24 _ rfl (.pointer (some ⟨g, 2, none⟩)) rfl (.agg (bv older)) (fun w9 h9 => load_mid (h9.row 0 rfl) 2 (bv older) (clv_o ho) 24 Tryd.underlying24 rfl (dgS ho)) _ (by (simp only [Act.put, List.setIfInBounds_toArray, List.set_cons_succ, List.set_cons_zero]; rfl)) ?_) | (refine Cop.og_ld rfl rfl HSb 24 _ rfl (.pointer (some ⟨g, 34, none⟩)) rfl (.agg (bv newer)) (fun w9 h9 => load_mid (h9.row 0 rfl) 34 (bv newer) (clv_n ho hn) 24 Tryd.underlying24 rfl (dgS hn)) _ (by (simp only [Act.put, List.setIfInBounds_toArray, List.set_cons_succ, List.set_cons_zero]; rfl)) ?_) | (refine Cop.og_take rfl rfl HSb ?_; apply Exists.intro; refine ⟨fun w9 h9 => ?_, _, by (simp only [Act.put, List.setIfInBounds_toArray, List.set_cons_succ, List.set_cons_zero]; rfl), ?_⟩; (obtain ⟨c0, c1, c2, c3, c4, c5, c6, c7⟩ := clm_cells ho hn (h9.row 0 rfl); go_simp; with_reducible rfl))))
    refine Cop.og_rskip rfl rfl HSb _ (by (simp only [Act.put, List.setIfInBounds_toArray, List.set_cons_succ, List.set_cons_zero]; rfl)) ?_
    (repeat (first | (refine Cop.og_skip rfl rfl HSb _ (by (simp only [Act.put, List.setIfInBounds_toArray, List.set_cons_succ, List.set_cons_zero]; rfl)) ?_) | (refine Cop.og_ld rfl rfl HSb 24 _ rfl (.pointer (some ⟨g, 2, none⟩)) rfl (.agg (bv older)) (fun w9 h9 => load_mid (h9.row 0 rfl) 2 (bv older) (clv_o ho) 24 Tryd.underlying24 rfl (dgS ho)) _ (by (simp only [Act.put, List.setIfInBounds_toArray, List.set_cons_succ, List.set_cons_zero]; rfl)) ?_) | (refine Cop.og_ld rfl rfl HSb 24 _ rfl (.pointer (some ⟨g, 34, none⟩)) rfl (.agg (bv newer)) (fun w9 h9 => load_mid (h9.row 0 rfl) 34 (bv newer) (clv_n ho hn) 24 Tryd.underlying24 rfl (dgS hn)) _ (by (simp only [Act.put, List.setIfInBounds_toArray, List.set_cons_succ, List.set_cons_zero]; rfl)) ?_) | (refine Cop.og_take rfl rfl HSb ?_; apply Exists.intro; refine ⟨fun w9 h9 => ?_, _, by (simp only [Act.put, List.setIfInBounds_toArray, List.set_cons_succ, List.set_cons_zero]; rfl), ?_⟩; (obtain ⟨c0, c1, c2, c3, c4, c5, c6, c7⟩ := clm_cells ho hn (h9.row 0 rfl); go_simp; with_reducible rfl))))
    refine Cop.og_rskip rfl rfl HSb _ (by (simp only [Act.put, List.setIfInBounds_toArray, List.set_cons_succ, List.set_cons_zero]; rfl)) ?_
    (repeat (first | (refine Cop.og_skip rfl rfl HSb _ (by (simp only [Act.put, List.setIfInBounds_toArray, List.set_cons_succ, List.set_cons_zero]; rfl)) ?_) | (refine Cop.og_ld rfl rfl HSb 24 _ rfl (.pointer (some ⟨g, 2, none⟩)) rfl (.agg (bv older)) (fun w9 h9 => load_mid (h9.row 0 rfl) 2 (bv older) (clv_o ho) 24 Tryd.underlying24 rfl (dgS ho)) _ (by (simp only [Act.put, List.setIfInBounds_toArray, List.set_cons_succ, List.set_cons_zero]; rfl)) ?_) | (refine Cop.og_ld rfl rfl HSb 24 _ rfl (.pointer (some ⟨g, 34, none⟩)) rfl (.agg (bv newer)) (fun w9 h9 => load_mid (h9.row 0 rfl) 34 (bv newer) (clv_n ho hn) 24 Tryd.underlying24 rfl (dgS hn)) _ (by (simp only [Act.put, List.setIfInBounds_toArray, List.set_cons_succ, List.set_cons_zero]; rfl)) ?_) | (refine Cop.og_take rfl rfl HSb ?_; apply Exists.intro; refine ⟨fun w9 h9 => ?_, _, by (simp only [Act.put, List.setIfInBounds_toArray, List.set_cons_succ, List.set_cons_zero]; rfl), ?_⟩; (obtain ⟨c0, c1, c2, c3, c4, c5, c6, c7⟩ := clm_cells ho hn (h9.row 0 rfl); go_simp; with_reducible rfl))))
    refine Cop.og_rskip rfl rfl HSb _ (by (simp only [Act.put, List.setIfInBounds_toArray, List.set_cons_succ, List.set_cons_zero]; rfl)) ?_
    (repeat (first | (refine Cop.og_skip rfl rfl HSb _ (by (simp only [Act.put, List.setIfInBounds_toArray, List.set_cons_succ, List.set_cons_zero]; rfl)) ?_) | (refine Cop.og_ld rfl rfl HSb 24 _ rfl (.pointer (some ⟨g, 2, none⟩)) rfl (.agg (bv older)) (fun w9 h9 => load_mid (h9.row 0 rfl) 2 (bv older) (clv_o ho) 24 Tryd.underlying24 rfl (dgS ho)) _ (by (simp only [Act.put, List.setIfInBounds_toArray, List.set_cons_succ, List.set_cons_zero]; rfl)) ?_) | (refine Cop.og_ld rfl rfl HSb 24 _ rfl (.pointer (some ⟨g, 34, none⟩)) rfl (.agg (bv newer)) (fun w9 h9 => load_mid (h9.row 0 rfl) 34 (bv newer) (clv_n ho hn) 24 Tryd.underlying24 rfl (dgS hn)) _ (by (simp only [Act.put, List.setIfInBounds_toArray, List.set_cons_succ, List.set_cons_zero]; rfl)) ?_) | (refine Cop.og_take rfl rfl HSb ?_; apply Exists.intro; refine ⟨fun w9 h9 => ?_, _, by (simp only [Act.put, List.setIfInBounds_toArray, List.set_cons_succ, List.set_cons_zero]; rfl), ?_⟩; (obtain ⟨c0, c1, c2, c3, c4, c5, c6, c7⟩ := clm_cells ho hn (h9.row 0 rfl); go_simp; with_reducible rfl))))
    refine og_fin ?_
    have hb := HB.out
    simp only [HF.out, Bool.false_and] at hb
    subst hb
    go_wp2
    go_ret
    exact ⟨rfl, HSb.hb⟩
set_option maxRecDepth 100000 in
set_option maxHeartbeats 4000000 in
theorem accr_gen (m n i : Int) (older newer x y LX LY : List UInt8) (s p q : List (List UInt8)) (As Ap Aq Ax Ay : Option Addr) (cs cp cq cx cy : Nat) (F G K : Int) (w : World) (ho : older.length = 32) (hn : newer.length = 32) (hlx : LX.length = 32) (hly : LY.length = 32)
    (hs : Rd w (.slice As s.length cs) s.length 32 (dcs s)) (hx : Rd w (.slice Ax x.length cx) x.length 1 (bl x)) (hy : Rd w (.slice Ay y.length cy) y.length 1 (bl y)) (hp : Rd w (.slice Ap p.length cp) p.length 32 (dcs p)) (hq : Rd w (.slice Aq q.length cq) q.length 32 (dcs q))
    (h1 : ∀ w' v, Below w.heap.size w w' → Rd w' v s.length 32 (dcs s) → Gives 42 #[.int .i64 m, .int .i64 n, .agg (bv older), .agg (bv newer), v] w' (.int .i64 F))
    (h2 : ∀ w' v, Below w.heap.size w w' → Rd w' v p.length 32 (dcs p) → Gives 43 #[.agg (bv LX), .int .i64 i, .int .i64 m, v, .agg (bv older)] w' (.int .i64 G))
    (h3 : ∀ w' v, Below w.heap.size w w' → Rd w' v q.length 32 (dcs q) → Gives 43 #[.agg (bv LY), .int .i64 i, .int .i64 n, v, .agg (bv newer)] w' (.int .i64 K))
    (h4 : ∀ w' v, Below w.heap.size w w' → Rd w' v x.length 1 (bl x) → Gives 44 #[v] w' (.agg (bv LX)))
    (h5 : ∀ w' v, Below w.heap.size w w' → Rd w' v y.length 1 (bl y) → Gives 44 #[v] w' (.agg (bv LY))) :
    Gives 17 #[.agg (clv m n older newer (.slice As s.length cs) i (.slice Ax x.length cx) (.slice Ay y.length cy) (.slice Ap p.length cp) (.slice Aq q.length cq))] w (.bool ((F == 0) && ((G == 0) && (K == 0)))) := by
  have H1 := Lib.hid h1
  have H2 := Lib.hid h2
  have H3 := Lib.hid h3
  have H4 := Lib.hid h4
  have H5 := Lib.hid h5
  have HS0 := (((((Sep.start w).arg0 hq).arg0 hp).arg0 hy).arg0 hx).arg0 hs
  clear h1 h2 h3 h4 h5 hs hx hy hp hq
  obtain ⟨b, hb⟩ : ∃ b, ((F == 0) && ((G == 0) && (K == 0))) = b := ⟨_, rfl⟩
  rw [hb]
  have HB := Lib.hid hb
  clear hb
  go_enter Tryd.func17, Tryd.ntmps17
  go_wp2_with (first | refine wl_bx HS0 rfl 37 _ rfl (clv m n older newer (.slice As s.length cs) i (.slice Ax x.length cx) (.slice Ay y.length cy) (.slice Ap p.length cp) (.slice Aq q.length cq)) rfl ?_)
  intro g w1 HS1
  clear HS0
  go_wp2
  refine Cop.region_ord (fun w' => Sep w.heap.size w w' [.row g (clv m n older newer (.slice As s.length cs) i (.slice Ax x.length cx) (.slice Ay y.length cy) (.slice Ap p.length cp) (.slice Aq q.length cq)) 37, .rd (.slice As s.length cs) s.length 32 (dcs s), .rd (.slice Ax x.length cx) x.length 1 (bl x), .rd (.slice Ay y.length cy) y.length 1 (bl y), .rd (.slice Ap p.length cp) p.length 32 (dcs p), .rd (.slice Aq q.length cq) q.length 32 (dcs q)]) 42 (.take 0 (.take 1 (.take 2 (.take 3 (.take 4 (.take 5 (.take 6 (.take 7 (.take 8 (.take 9 (.run 10 (.take 11 (.take 12 (.take 13 (.take 14 (.take 16 (.take 17 (.take 18 (.take 19 (.take 20 (.take 21 (.take 22 (.take 23 (.run 15 (.run 24 (.take 25 (.take 26 (.take 27 (.take 28 (.take 29 (.take 31 (.take 32 (.take 33 (.take 34 (.take 35 (.take 36 (.take 37 (.take 38 (.run 30 (.run 39 (.take 40 (.take 41 (.take 42 Cop.Ord.fin))))))))))))))))))))))))))))))))))))))))))) (by kernel_rfl) (by kernel_rfl) (fun _ _ d _ _ h => by cases d <;> exact h) ?_
  intro wa hda
  have HSa := HS1.keep hda
  clear HS1
  (repeat (first | (refine Cop.og_skip rfl rfl HSa _ (by (simp only [Act.put, List.setIfInBounds_toArray, List.set_cons_succ, List.set_cons_zero]; rfl)) ?_) | (refine Cop.og_ld rfl rfl HSa 24 _ rfl (.pointer (some ⟨g, 2, none⟩)) rfl (.agg (bv older)) (fun w9 h9 => load_mid (h9.row 0 rfl) 2 (bv older) (clv_o ho) 24 Tryd.underlying24 rfl (dgS ho)) _ (by (simp only [Act.put, List.setIfInBounds_toArray, List.set_cons_succ, List.set_cons_zero]; rfl)) ?_) | (refine Cop.og_ld rfl rfl HSa 24 _ rfl (.pointer (some ⟨g, 34, none⟩)) rfl (.agg (bv newer)) (fun w9 h9 => load_mid (h9.row 0 rfl) 34 (bv newer) (clv_n ho hn) 24 Tryd.underlying24 rfl (dgS hn)) _ (by (simp only [Act.put, List.setIfInBounds_toArray, List.set_cons_succ, List.set_cons_zero]; rfl)) ?_) | (refine Cop.og_take rfl rfl HSa ?_; apply Exists.intro; refine ⟨fun w9 h9 => ?_, _, by (simp only [Act.put, List.setIfInBounds_toArray, List.set_cons_succ, List.set_cons_zero]; rfl), ?_⟩; (obtain ⟨c0, c1, c2, c3, c4, c5, c6, c7⟩ := clm_cells ho hn (h9.row 0 rfl); go_simp; with_reducible rfl))))
  refine Cop.og_run rfl rfl ?_
  refine ow_call 42 _ _ (fun w' => Below wa.heap.size wa w') (by go_simp) (H1.out wa _ HSa.hb (HSa.rd 1 rfl)) ?_
  intro wb bb
  have HSb := HSa.keep bb
  clear HSa
  refine ⟨fun _ => HSb, ?_⟩
  by_cases hF : F = 0
  · subst hF
    (repeat (first | (refine Cop.og_skip rfl rfl HSb _ (by (simp only [Act.put, List.setIfInBounds_toArray, List.set_cons_succ, List.set_cons_zero]; rfl)) ?_) | (refine Cop.og_ld rfl rfl HSb 24 _ rfl (.pointer (some ⟨g, 2, none⟩)) rfl (.agg (bv older)) (fun w9 h9 => load_mid (h9.row 0 rfl) 2 (bv older) (clv_o ho) 24 Tryd.underlying24 rfl (dgS ho)) _ (by (simp only [Act.put, List.setIfInBounds_toArray, List.set_cons_succ, List.set_cons_zero]; rfl)) ?_) | (refine Cop.og_ld rfl rfl HSb 24 _ rfl (.pointer (some ⟨g, 34, none⟩)) rfl (.agg (bv newer)) (fun w9 h9 => load_mid (h9.row 0 rfl) 34 (bv newer) (clv_n ho hn) 24 Tryd.underlying24 rfl (dgS hn)) _ (by (simp only [Act.put, List.setIfInBounds_toArray, List.set_cons_succ, List.set_cons_zero]; rfl)) ?_) | (refine Cop.og_take rfl rfl HSb ?_; apply Exists.intro; refine ⟨fun w9 h9 => ?_, _, by (simp only [Act.put, List.setIfInBounds_toArray, List.set_cons_succ, List.set_cons_zero]; rfl), ?_⟩; (obtain ⟨c0, c1, c2, c3, c4, c5, c6, c7⟩ := clm_cells ho hn (h9.row 0 rfl); go_simp; with_reducible rfl))))
    refine Cop.og_run rfl rfl ?_
    refine ow_call 44 _ _ (fun w' => Below wb.heap.size wb w') (by go_simp) (H4.out wb _ HSb.hb (HSb.rd 2 rfl)) ?_
    intro wc bc
    have HSc := HSb.keep bc
    clear HSb
    refine ⟨fun _ => HSc, ?_⟩
    (repeat (first | (refine Cop.og_skip rfl rfl HSc _ (by (simp only [Act.put, List.setIfInBounds_toArray, List.set_cons_succ, List.set_cons_zero]; rfl)) ?_) | (refine Cop.og_ld rfl rfl HSc 24 _ rfl (.pointer (some ⟨g, 2, none⟩)) rfl (.agg (bv older)) (fun w9 h9 => load_mid (h9.row 0 rfl) 2 (bv older) (clv_o ho) 24 Tryd.underlying24 rfl (dgS ho)) _ (by (simp only [Act.put, List.setIfInBounds_toArray, List.set_cons_succ, List.set_cons_zero]; rfl)) ?_) | (refine Cop.og_ld rfl rfl HSc 24 _ rfl (.pointer (some ⟨g, 34, none⟩)) rfl (.agg (bv newer)) (fun w9 h9 => load_mid (h9.row 0 rfl) 34 (bv newer) (clv_n ho hn) 24 Tryd.underlying24 rfl (dgS hn)) _ (by (simp only [Act.put, List.setIfInBounds_toArray, List.set_cons_succ, List.set_cons_zero]; rfl)) ?_) | (refine Cop.og_take rfl rfl HSc ?_; apply Exists.intro; refine ⟨fun w9 h9 => ?_, _, by (simp only [Act.put, List.setIfInBounds_toArray, List.set_cons_succ, List.set_cons_zero]; rfl), ?_⟩; (obtain ⟨c0, c1, c2, c3, c4, c5, c6, c7⟩ := clm_cells ho hn (h9.row 0 rfl); go_simp; with_reducible rfl))))
    refine Cop.og_run rfl rfl ?_
    refine ow_call 43 _ _ (fun w' => Below wc.heap.size wc w') (by go_simp) (H2.out wc _ HSc.hb (HSc.rd 4 rfl)) ?_
    intro wd bd
    have HSd := HSc.keep bd
    clear HSc
    refine ⟨fun _ => HSd, ?_⟩
    by_cases hG : G = 0
    · subst hG
      (repeat (first | (refine Cop.og_skip rfl rfl HSd _ (by (simp only [Act.put, List.setIfInBounds_toArray, List.set_cons_succ, List.set_cons_zero]; rfl)) ?_) | (refine Cop.og_ld rfl rfl HSd 24 _ rfl (.pointer (some ⟨g, 2, none⟩)) rfl (.agg (bv older)) (fun w9 h9 => load_mid (h9.row 0 rfl) 2 (bv older) (clv_o ho) 24 Tryd.underlying24 rfl (dgS ho)) _ (by (simp only [Act.put, List.setIfInBounds_toArray, List.set_cons_succ, List.set_cons_zero]; rfl)) ?_) | (refine Cop.og_ld rfl rfl HSd 24 _ rfl (.pointer (some ⟨g, 34, none⟩)) rfl (.agg (bv newer)) (fun w9 h9 => load_mid (h9.row 0 rfl) 34 (bv newer) (clv_n ho hn) 24 Tryd.underlying24 rfl (dgS hn)) _ (by (simp only [Act.put, List.setIfInBounds_toArray, List.set_cons_succ, List.set_cons_zero]; rfl)) ?_) | (refine Cop.og_take rfl rfl HSd ?_; apply Exists.intro; refine ⟨fun w9 h9 => ?_, _, by (simp only [Act.put, List.setIfInBounds_toArray, List.set_cons_succ, List.set_cons_zero]; rfl), ?_⟩; (obtain ⟨c0, c1, c2, c3, c4, c5, c6, c7⟩ := clm_cells ho hn (h9.row 0 rfl); go_simp; with_reducible rfl))))
      refine Cop.og_run rfl rfl ?_
      refine ow_call 44 _ _ (fun w' => Below wd.heap.size wd w') (by go_simp) (H5.out wd _ HSd.hb (HSd.rd 3 rfl)) ?_
      intro we be
      have HSe := HSd.keep be
      clear HSd
      refine ⟨fun _ => HSe, ?_⟩
      (repeat (first | (refine Cop.og_skip rfl rfl HSe _ (by (simp only [Act.put, List.setIfInBounds_toArray, List.set_cons_succ, List.set_cons_zero]; rfl)) ?_) | (refine Cop.og_ld rfl rfl HSe 24 _ rfl (.pointer (some ⟨g, 2, none⟩)) rfl (.agg (bv older)) (fun w9 h9 => load_mid (h9.row 0 rfl) 2 (bv older) (clv_o ho) 24 Tryd.underlying24 rfl (dgS ho)) _ (by (simp only [Act.put, List.setIfInBounds_toArray, List.set_cons_succ, List.set_cons_zero]; rfl)) ?_) | (refine Cop.og_ld rfl rfl HSe 24 _ rfl (.pointer (some ⟨g, 34, none⟩)) rfl (.agg (bv newer)) (fun w9 h9 => load_mid (h9.row 0 rfl) 34 (bv newer) (clv_n ho hn) 24 Tryd.underlying24 rfl (dgS hn)) _ (by (simp only [Act.put, List.setIfInBounds_toArray, List.set_cons_succ, List.set_cons_zero]; rfl)) ?_) | (refine Cop.og_take rfl rfl HSe ?_; apply Exists.intro; refine ⟨fun w9 h9 => ?_, _, by (simp only [Act.put, List.setIfInBounds_toArray, List.set_cons_succ, List.set_cons_zero]; rfl), ?_⟩; (obtain ⟨c0, c1, c2, c3, c4, c5, c6, c7⟩ := clm_cells ho hn (h9.row 0 rfl); go_simp; with_reducible rfl))))
      refine Cop.og_run rfl rfl ?_
      refine ow_call 43 _ _ (fun w' => Below we.heap.size we w') (by go_simp) (H3.out we _ HSe.hb (HSe.rd 5 rfl)) ?_
      intro wf bf
      have HSf := HSe.keep bf
      clear HSe
      refine ⟨fun _ => HSf, ?_⟩
      (repeat (first | (refine Cop.og_skip rfl rfl HSf _ (by (simp only [Act.put, List.setIfInBounds_toArray, List.set_cons_succ, List.set_cons_zero]; rfl)) ?_) | (refine Cop.og_ld rfl rfl HSf 24 _ rfl (.pointer (some ⟨g, 2, none⟩)) rfl (.agg (bv older)) (fun w9 h9 => load_mid (h9.row 0 rfl) 2 (bv older) (clv_o ho) 24 Tryd.underlying24 rfl (dgS ho)) _ (by (simp only [Act.put, List.setIfInBounds_toArray, List.set_cons_succ, List.set_cons_zero]; rfl)) ?_) | (refine Cop.og_ld rfl rfl HSf 24 _ rfl (.pointer (some ⟨g, 34, none⟩)) rfl (.agg (bv newer)) (fun w9 h9 => load_mid (h9.row 0 rfl) 34 (bv newer) (clv_n ho hn) 24 Tryd.underlying24 rfl (dgS hn)) _ (by (simp only [Act.put, List.setIfInBounds_toArray, List.set_cons_succ, List.set_cons_zero]; rfl)) ?_) | (refine Cop.og_take rfl rfl HSf ?_; apply Exists.intro; refine ⟨fun w9 h9 => ?_, _, by (simp only [Act.put, List.setIfInBounds_toArray, List.set_cons_succ, List.set_cons_zero]; rfl), ?_⟩; (obtain ⟨c0, c1, c2, c3, c4, c5, c6, c7⟩ := clm_cells ho hn (h9.row 0 rfl); go_simp; with_reducible rfl))))
      refine og_fin ?_
      have hb := HB.out
      simp only [beq_self_eq_true, Bool.true_and] at hb
      subst hb
      go_wp2
      go_ret
      exact ⟨rfl, HSf.hb⟩
    · have HG := Lib.hid (beq_eq_false_iff_ne.2 hG)
      (repeat (first | (refine Cop.og_skip rfl rfl HSd _ (by (simp only [Act.put, List.setIfInBounds_toArray, List.set_cons_succ, List.set_cons_zero]; rfl)) ?_) | (refine Cop.og_ld rfl rfl HSd 24 _ rfl (.pointer (some ⟨g, 2, none⟩)) rfl (.agg (bv older)) (fun w9 h9 => load_mid (h9.row 0 rfl) 2 (bv older) (clv_o ho) 24 Tryd.underlying24 rfl (dgS ho)) _ (by (simp only [Act.put, List.setIfInBounds_toArray, List.set_cons_succ, List.set_cons_zero]; rfl)) ?_) | (refine Cop.og_ld rfl rfl HSd 24 _ rfl (.pointer (some ⟨g, 34, none⟩)) rfl (.agg (bv newer)) (fun w9 h9 => load_mid (h9.row 0 rfl) 34 (bv newer) (clv_n ho hn) 24 Tryd.underlying24 rfl (dgS hn)) _ (by (simp only [Act.put, List.setIfInBounds_toArray, List.set_cons_succ, List.set_cons_zero]; rfl)) ?_) | (refine Cop.og_take rfl rfl HSd ?_; apply Exists.intro; refine ⟨fun w9 h9 => ?_, _, by (simp only [Act.put, List.setIfInBounds_toArray, List.set_cons_succ, List.set_cons_zero]; rfl), ?_⟩; (have hd := HG.out; obtain ⟨c0, c1, c2, c3, c4, c5, c6, c7⟩ := clm_cells ho hn (h9.row 0 rfl); go_simp; with_reducible rfl))))
      refine Cop.og_rskip rfl rfl HSd _ (by (simp only [Act.put, List.setIfInBounds_toArray, List.set_cons_succ, List.set_cons_zero]; rfl)) ?_
      (repeat (first | (refine Cop.og_skip rfl rfl HSd _ (by (simp only [Act.put, List.setIfInBounds_toArray, List.set_cons_succ, List.set_cons_zero]; rfl)) ?_) | (refine Cop.og_ld rfl rfl HSd 24 _ rfl (.pointer (some ⟨g, 2, none⟩)) rfl (.agg (bv older)) (fun w9 h9 => load_mid (h9.row 0 rfl) 2 (bv older) (clv_o ho) 24 Tryd.underlying24 rfl (dgS ho)) _ (by (simp only [Act.put, List.setIfInBounds_toArray, List.set_cons_succ, List.set_cons_zero]; rfl)) ?_) | (refine Cop.og_ld rfl rfl HSd 24 _ rfl (.pointer (some ⟨g, 34, none⟩)) rfl (.agg (bv newer)) (fun w9 h9 => load_mid (h9.row 0 rfl) 34 (bv newer) (clv_n ho hn) 24 Tryd.underlying24 rfl (dgS hn)) _ (by (simp only [Act.put, List.setIfInBounds_toArray, List.set_cons_succ, List.set_cons_zero]; rfl)) ?_) | (refine Cop.og_take rfl rfl HSd ?_; apply Exists.intro; refine ⟨fun w9 h9 => ?_, _, by (simp only [Act.put, List.setIfInBounds_toArray, List.set_cons_succ, List.set_cons_zero]; rfl), ?_⟩; (obtain ⟨c0, c1, c2, c3, c4, c5, c6, c7⟩ := clm_cells ho hn (h9.row 0 rfl); go_simp; with_reducible rfl))))
      refine Cop.og_rskip rfl rfl HSd _ (by (simp only [Act.put, List.setIfInBounds_toArray, List.set_cons_succ, List.set_cons_zero]; rfl)) ?_
      (repeat (first | (refine Cop.og_skip rfl rfl HSd _ (by (simp only [Act.put, List.setIfInBounds_toArray, List.set_cons_succ, List.set_cons_zero]; rfl)) ?_) | (refine Cop.og_ld rfl rfl HSd 24 _ rfl (.pointer (some ⟨g, 2, none⟩)) rfl (.agg (bv older)) (fun w9 h9 => load_mid (h9.row 0 rfl) 2 (bv older) (clv_o ho) 24 Tryd.underlying24 rfl (dgS ho)) _ (by (simp only [Act.put, List.setIfInBounds_toArray, List.set_cons_succ, List.set_cons_zero]; rfl)) ?_) | (refine Cop.og_ld rfl rfl HSd 24 _ rfl (.pointer (some ⟨g, 34, none⟩)) rfl (.agg (bv newer)) (fun w9 h9 => load_mid (h9.row 0 rfl) 34 (bv newer) (clv_n ho hn) 24 Tryd.underlying24 rfl (dgS hn)) _ (by (simp only [Act.put, List.setIfInBounds_toArray, List.set_cons_succ, List.set_cons_zero]; rfl)) ?_) | (refine Cop.og_take rfl rfl HSd ?_; apply Exists.intro; refine ⟨fun w9 h9 => ?_, _, by (simp only [Act.put, List.setIfInBounds_toArray, List.set_cons_succ, List.set_cons_zero]; rfl), ?_⟩; (obtain ⟨c0, c1, c2, c3, c4, c5, c6, c7⟩ := clm_cells ho hn (h9.row 0 rfl); go_simp; with_reducible rfl))))
      refine og_fin ?_
      have hb := HB.out
      simp only [HG.out, beq_self_eq_true, Bool.true_and, Bool.false_and] at hb
      subst hb
      go_wp2
      go_ret
      exact ⟨rfl, HSd.hb⟩
  · have HF := Lib.hid (beq_eq_false_iff_ne.2 hF)
    (repeat (first | (refine Cop.og_skip rfl rfl HSb _ (by (simp only [Act.put, List.setIfInBounds_toArray, List.set_cons_succ, List.set_cons_zero]; rfl)) ?_) | (refine Cop.og_ld rfl rfl HSb 24 _ rfl (.pointer (some ⟨g, 2, none⟩)) rfl (.agg (bv older)) (fun w9 h9 => load_mid (h9.row 0 rfl) 2 (bv older) (clv_o ho) 24 Tryd.underlying24 rfl (dgS ho)) _ (by (simp only [Act.put, List.setIfInBounds_toArray, List.set_cons_succ, List.set_cons_zero]; rfl)) ?_) | (refine Cop.og_ld rfl rfl HSb 24 _ rfl (.pointer (some ⟨g, 34, none⟩)) rfl (.agg (bv newer)) (fun w9 h9 => load_mid (h9.row 0 rfl) 34 (bv newer) (clv_n ho hn) 24 Tryd.underlying24 rfl (dgS hn)) _ (by (simp only [Act.put, List.setIfInBounds_toArray, List.set_cons_succ, List.set_cons_zero]; rfl)) ?_) | (refine Cop.og_take rfl rfl HSb ?_; apply Exists.intro; refine ⟨fun w9 h9 => ?_, _, by (simp only [Act.put, List.setIfInBounds_toArray, List.set_cons_succ, List.set_cons_zero]; rfl), ?_⟩; (have hd := HF.out; obtain ⟨c0, c1, c2, c3, c4, c5, c6, c7⟩ := clm_cells ho hn (h9.row 0 rfl); go_simp; with_reducible rfl))))
    refine Cop.og_rskip rfl rfl HSb _ (by (simp only [Act.put, List.setIfInBounds_toArray, List.set_cons_succ, List.set_cons_zero]; rfl)) ?_
    (repeat (first | (refine Cop.og_skip rfl rfl HSb _ (by (simp only [Act.put, List.setIfInBounds_toArray, List.set_cons_succ, List.set_cons_zero]; rfl)) ?_) | (refine Cop.og_ld rfl rfl HSb 24 _ rfl (.pointer (some ⟨g, 2, none⟩)) rfl (.agg (bv older)) (fun w9 h9 => load_mid (h9.row 0 rfl) 2 (bv older) (clv_o ho) 24 Tryd.underlying24 rfl (dgS ho)) _ (by (simp only [Act.put, List.setIfInBounds_toArray, List.set_cons_succ, List.set_cons_zero]; rfl)) ?_) | (refine Cop.og_ld rfl rfl HSb 24 _ rfl (.pointer (some ⟨g, 34, none⟩)) rfl (.agg (bv newer)) (fun w9 h9 => load_mid (h9.row 0 rfl) 34 (bv newer) (clv_n ho hn) 24 Tryd.underlying24 rfl (dgS hn)) _ (by (simp only [Act.put, List.setIfInBounds_toArray, List.set_cons_succ, List.set_cons_zero]; rfl)) ?_) | (refine Cop.og_take rfl rfl HSb ?_; apply Exists.intro; refine ⟨fun w9 h9 => ?_, _, by (simp only [Act.put, List.setIfInBounds_toArray, List.set_cons_succ, List.set_cons_zero]; rfl), ?_⟩; (obtain ⟨c0, c1, c2, c3, c4, c5, c6, c7⟩ := clm_cells ho hn (h9.row 0 rfl); go_simp; with_reducible rfl))))
    refine Cop.og_rskip rfl rfl HSb _ (by (simp only [Act.put, List.setIfInBounds_toArray, List.set_cons_succ, List.set_cons_zero]; rfl)) ?_
    (repeat (first | (refine Cop.og_skip rfl rfl HSb _ (by (simp only [Act.put, List.setIfInBounds_toArray, List.set_cons_succ, List.set_cons_zero]; rfl)) ?_) | (refine Cop.og_ld rfl rfl HSb 24 _ rfl (.pointer (some ⟨g, 2, none⟩)) rfl (.agg (bv older)) (fun w9 h9 => load_mid (h9.row 0 rfl) 2 (bv older) (clv_o ho) 24 Tryd.underlying24 rfl (dgS ho)) _ (by (simp only [Act.put, List.setIfInBounds_toArray, List.set_cons_succ, List.set_cons_zero]; rfl)) ?_) | (refine Cop.og_ld rfl rfl HSb 24 _ rfl (.pointer (some ⟨g, 34, none⟩)) rfl (.agg (bv newer)) (fun w9 h9 => load_mid (h9.row 0 rfl) 34 (bv newer) (clv_n ho hn) 24 Tryd.underlying24 rfl (dgS hn)) _ (by (simp only [Act.put, List.setIfInBounds_toArray, List.set_cons_succ, List.set_cons_zero]; rfl)) ?_) | (refine Cop.og_take rfl rfl HSb ?_; apply Exists.intro; refine ⟨fun w9 h9 => ?_, _, by (simp only [Act.put, List.setIfInBounds_toArray, List.set_cons_succ, List.set_cons_zero]; rfl), ?_⟩; (obtain ⟨c0, c1, c2, c3, c4, c5, c6, c7⟩ := clm_cells ho hn (h9.row 0 rfl); go_simp; with_reducible rfl))))
    refine Cop.og_rskip rfl rfl HSb _ (by (simp only [Act.put, List.setIfInBounds_toArray, List.set_cons_succ, List.set_cons_zero]; rfl)) ?_
    (repeat (first | (refine Cop.og_skip rfl rfl HSb _ (by (simp only [Act.put, List.setIfInBounds_toArray, List.set_cons_succ, List.set_cons_zero]; rfl)) ?_) | (refine Cop.og_ld rfl rfl HSb 24 _ rfl (.pointer (some ⟨g, 2, none⟩)) rfl (.agg (bv older)) (fun w9 h9 => load_mid (h9.row 0 rfl) 2 (bv older) (clv_o ho) 24 Tryd.underlying24 rfl (dgS ho)) _ (by (simp only [Act.put, List.setIfInBounds_toArray, List.set_cons_succ, List.set_cons_zero]; rfl)) ?_) | (refine Cop.og_ld rfl rfl HSb 24 _ rfl (.pointer (some ⟨g, 34, none⟩)) rfl (.agg (bv newer)) (fun w9 h9 => load_mid (h9.row 0 rfl) 34 (bv newer) (clv_n ho hn) 24 Tryd.underlying24 rfl (dgS hn)) _ (by (simp only [Act.put, List.setIfInBounds_toArray, List.set_cons_succ, List.set_cons_zero]; rfl)) ?_) | (refine Cop.og_take rfl rfl HSb ?_; apply Exists.intro; refine ⟨fun w9 h9 => ?_, _, by (simp only [Act.put, List.setIfInBounds_toArray, List.set_cons_succ, List.set_cons_zero]; rfl), ?_⟩; (obtain ⟨c0, c1, c2, c3, c4, c5, c6, c7⟩ := clm_cells ho hn (h9.row 0 rfl); go_simp; with_reducible rfl))))
    refine Cop.og_rskip rfl rfl HSb _ (by (simp only [Act.put, List.setIfInBounds_toArray, List.set_cons_succ, List.set_cons_zero]; rfl)) ?_
    (repeat (first | (refine Cop.og_skip rfl rfl HSb _ (by (simp only [Act.put, List.setIfInBounds_toArray, List.set_cons_succ, List.set_cons_zero]; rfl)) ?_) | (refine Cop.og_ld rfl rfl HSb 24 _ rfl (.pointer (some ⟨g, 2, none⟩)) rfl (.agg (bv older)) (fun w9 h9 => load_mid (h9.row 0 rfl) 2 (bv older) (clv_o ho) 24 Tryd.underlying24 rfl (dgS ho)) _ (by (simp only [Act.put, List.setIfInBounds_toArray, List.set_cons_succ, List.set_cons_zero]; rfl)) ?_) | (refine Cop.og_ld rfl rfl HSb 24 _ rfl (.pointer (some ⟨g, 34, none⟩)) rfl (.agg (bv newer)) (fun w9 h9 => load_mid (h9.row 0 rfl) 34 (bv newer) (clv_n ho hn) 24 Tryd.underlying24 rfl (dgS hn)) _ (by (simp only [Act.put, List.setIfInBounds_toArray, List.set_cons_succ, List.set_cons_zero]; rfl)) ?_) | (refine Cop.og_take rfl rfl HSb ?_; apply Exists.intro; refine ⟨fun w9 h9 => ?_, _, by (simp only [Act.put, List.setIfInBounds_toArray, List.set_cons_succ, List.set_cons_zero]; rfl), ?_⟩; (obtain ⟨c0, c1, c2, c3, c4, c5, c6, c7⟩ := clm_cells ho hn (h9.row 0 rfl); go_simp; with_reducible rfl))))
    refine og_fin ?_
    have hb := HB.out
    simp only [HF.out, Bool.false_and] at hb
    subst hb
    go_wp2
    go_ret
    exact ⟨rfl, HSb.hb⟩
end Go.Proofs.YtbjbdnlgoifamaaDoor
set_option linter.unusedVariables false
namespace Cop
open Go Go.RowKit
section
variable {P : Program} {ops : Array Oper} {Q : Exit → Act → World → Prop} {md : Region.Mode} {S : World → Prop} {z : Nat}
/-- Number i comes ahead of z. -/
def reachB (md : Region.Mode) (ops : Array Oper) (i : Nat) : Nat → Nat → Bool
  | 0, _ => false
  | f + 1, z => match ops[z]? with
    | some o => o.after.any fun e => Region.binds md e && (e.on == i || reachB md ops i f e.on)
    | none => false
/-- Number z comes ahead of those above. -/
def upB (md : Region.Mode) (ops : Array Oper) (z : Nat) : Bool :=
  (List.range' (z + 1) (ops.size - (z + 1))).all fun j => (List.range' z (j - z)).any fun k => match ops[j]? with
    | some o => o.after.any fun e => Region.binds md e && e.on == k
    | none => false
theorem reach_spec {listed : Array Bool} (hc : Closed md ops listed) {i : Nat} : ∀ (f z : Nat), reachB md ops i f z = true → Ahead md ops listed z → listed.getD i false = true
  | 0, _, h, _ => by cases h
  | f + 1, z, h, ⟨o, ho, hall⟩ => by
    unfold reachB at h
    rw [ho] at h
    obtain ⟨e, he, hb⟩ := Array.any_eq_true'.1 h
    simp only [Bool.and_eq_true, Bool.or_eq_true, beq_iff_eq] at hb
    have hl := hall e he hb.1
    rcases hb.2 with hb2 | hb2
    · rw [← hb2]; exact hl
    · have hs : e.on < ops.size := by
        rcases Nat.lt_or_ge e.on ops.size with h' | h'
        · exact h'
        · cases f with
          | zero => cases hb2
          | succ f => unfold reachB at hb2; rw [Array.getElem?_eq_none h'] at hb2; cases hb2
      exact reach_spec hc f e.on hb2 (ahead_listed hc hs hl)
theorem up_spec (h : upB md ops z = true) {listed : Array Bool} (hc : Closed md ops listed) : ∀ (n j : Nat), j ≤ n → z < j → Ahead md ops listed j → listed.getD z false = true := by
  intro n
  induction n with
  | zero => intro j h1 h2; omega
  | succ n ih =>
    rintro j h1 h2 ⟨o, ho, hall⟩
    have hj := (Array.getElem?_eq_some_iff.1 ho).1
    obtain ⟨k, hk, hk2⟩ := List.any_eq_true.1 (List.all_eq_true.1 h j (List.mem_range'.2 ⟨j - (z + 1), by omega, by omega⟩))
    obtain ⟨t, ht, rfl⟩ := List.mem_range'.1 hk
    rw [ho] at hk2
    obtain ⟨e, he, hb⟩ := Array.any_eq_true'.1 hk2
    simp only [Bool.and_eq_true, beq_iff_eq] at hb
    have hl := hall e he hb.1
    rw [hb.2] at hl
    by_cases h0 : t = 0
    · subst h0; simpa using hl
    · exact ih (z + 1 * t) (by omega) (by omega) (ahead_listed hc (by omega) hl)
theorem reach_all (h : upB md ops z = true) (hzs : z < ops.size) {listed : Array Bool} (hc : Closed md ops listed) {i j f : Nat} (hi : reachB md ops i f z = true) (hj : j ∈ Region.ready md ops listed) (hzj : z ≤ j) : listed.getD i false = true := by
  by_cases e : j = z
  · subst e; exact reach_spec hc f j hi (ahead_ready hj)
  · exact reach_spec hc f z hi (ahead_listed hc hzs (up_spec h hc j j (Nat.le_refl _) (by omega) (ahead_ready hj)))
/-- Whatever order is picked, S holding behind each operation but z. -/
def wpAnyY (P : Program) (md : Region.Mode) (ops : Array Oper) (Q : Exit → Act → World → Prop) (S : World → Prop) (z : Nat) : Nat → Array Bool → Act → World → Prop
  | 0, listed, a, w => Region.ready md ops listed = [] ∧ Q .normal a w
  | fuel + 1, listed, a, w =>
    (Region.ready md ops listed = [] → Q .normal a w) ∧
    ∀ i ∈ Region.ready md ops listed, wpOp P ops Q i (fun a' w' => (S w → i < z → S w') ∧ wpAnyY P md ops Q S z fuel (listed.setIfInBounds i true) a' w') a w
theorem wpAny_of_Y : ∀ (fuel : Nat) (listed : Array Bool) (a : Act) (w : World), wpAnyY P md ops Q S z fuel listed a w → wpAny P md ops Q fuel listed a w
  | 0, _, _, _, h => h
  | fuel + 1, _, _, _, h => ⟨h.1, fun i hi => wpOp_mono (fun a' w' h' => wpAny_of_Y fuel _ a' w' h'.2) (h.2 i hi)⟩
theorem wpAnyY_first {i : Nat} {oi : Oper} {v : Value} (hi : ops[i]? = some oi) (hsel : ∀ (j : Nat) (o : Oper) cs b, ops[j]? = some o → o.op ≠ .select cs b)
    (hQ : ∀ c a w, Q (.panic c) (a.put oi.dst v) w → Q (.panic c) a w) (hz : upB md ops z = true) (hzs : z < ops.size) {f0 : Nat} (hiz : reachB md ops i f0 z = true) :
    ∀ (fuel : Nat) (listed : Array Bool) (a : Act) (w : World), Closed md ops listed →
      (∀ j oj, ops[j]? = some oj → j ≠ i → listed.getD j true = false → (∀ e ∈ oj.after, Region.binds md e = true → e.on ≠ i) → oi.apart ops oj = true) →
      i ∈ Region.ready md ops listed → YieldsIf P ops S oi v a → S w →
      wpAnyY P md ops Q S z fuel (listed.setIfInBounds i true) (a.put oi.dst v) w → wpAnyY P md ops Q S z (fuel + 1) listed a w := by
  intro fuel
  induction fuel with
  | zero =>
    intro listed a w _ _ hr hy hS H
    refine ⟨fun h => (by rw [h] at hr; cases hr), fun j hj => ?_⟩
    by_cases hji : j = i
    · subst hji; exact hy.wpOp hi hS ⟨fun _ _ => hS, H⟩
    · have := ready_mono hj hji
      rw [H.1] at this
      cases this
  | succ fuel ih =>
    intro listed a w hcl hfree hr hy hS H
    refine ⟨fun h => (by rw [h] at hr; cases hr), fun j hj => ?_⟩
    by_cases hji : j = i
    · subst hji; exact hy.wpOp hi hS ⟨fun _ _ => hS, H⟩
    · have h1 := H.2 j (ready_mono hj hji)
      obtain ⟨hjun, oj, hoj, hall⟩ := mem_ready.1 hj
      have hun := (mem_ready.1 hr).1
      have hisz : i < listed.size := by
        rcases Nat.lt_or_ge i listed.size with h' | h'
        · exact h'
        · simp [Array.getElem?_eq_none h'] at hun
      have hif : listed.getD i false = false := by
        simp [hisz] at hun ⊢
        exact hun
      have hnot : ∀ e ∈ oj.after, Region.binds md e = true → e.on ≠ i := fun e he hb heq => by
        have h1 := hall e he hb
        rw [heq, hif] at h1
        cases h1
      have hjz : j < z := by
        rcases Nat.lt_or_ge j z with h' | h'
        · exact h'
        · have := reach_all hz hzs hcl hiz hj h'
          rw [hif] at this
          cases this
      have h2 := wpOp_putIf hoj (hfree j oj hoj hji hjun hnot) (fun cs b => hsel i oi cs b hi) (fun cs b => hsel j oj cs b hoj) hQ hy h1
      have hfree' : ∀ k ok, ops[k]? = some ok → k ≠ i → (listed.setIfInBounds j true).getD k true = false →
          (∀ e ∈ ok.after, Region.binds md e = true → e.on ≠ i) → oi.apart ops ok = true := fun k ok hk hki hun hno => by
        refine hfree k ok hk hki ?_ hno
        by_cases hjk : j = k
        · subst hjk; exact hjun
        · rw [getD_set_ne true hjk] at hun; exact hun
      refine wpOp_mono (fun a' w' h3 => ⟨fun _ _ => h3.2.1 hS hjz, ih (listed.setIfInBounds j true) a' w' (closed_set hcl hj) hfree' (ready_mono hr (Ne.symm hji)) h3.1 (h3.2.1 hS hjz) ?_⟩) h2
      rw [Array.setIfInBounds_comm _ _ hji]
      exact h3.2.2
theorem wpAnyY_pure {i : Nat} {oi : Oper} {v : Value} (hi : ops[i]? = some oi) (hsel : ∀ (j : Nat) (o : Oper) cs b, ops[j]? = some o → o.op ≠ .select cs b)
    (hQ : ∀ c a w, Q (.panic c) (a.put oi.dst v) w → Q (.panic c) a w)  :
    ∀ (fuel : Nat) (listed : Array Bool) (a : Act) (w : World), Closed md ops listed →
      (∀ j oj, ops[j]? = some oj → j ≠ i → listed.getD j true = false → (∀ e ∈ oj.after, Region.binds md e = true → e.on ≠ i) → oi.apart ops oj = true) →
      i ∈ Region.ready md ops listed → YieldsIf P ops (fun _ => True) oi v a →
      wpAnyY P md ops Q S z fuel (listed.setIfInBounds i true) (a.put oi.dst v) w → wpAnyY P md ops Q S z (fuel + 1) listed a w := by
  intro fuel
  induction fuel with
  | zero =>
    intro listed a w _ _ hr hy H
    refine ⟨fun h => (by rw [h] at hr; cases hr), fun j hj => ?_⟩
    by_cases hji : j = i
    · subst hji; exact hy.wpOp hi trivial ⟨fun h _ => h, H⟩
    · have := ready_mono hj hji
      rw [H.1] at this
      cases this
  | succ fuel ih =>
    intro listed a w hcl hfree hr hy H
    refine ⟨fun h => (by rw [h] at hr; cases hr), fun j hj => ?_⟩
    by_cases hji : j = i
    · subst hji; exact hy.wpOp hi trivial ⟨fun h _ => h, H⟩
    · have h1 := H.2 j (ready_mono hj hji)
      obtain ⟨hjun, oj, hoj, hall⟩ := mem_ready.1 hj
      have hun := (mem_ready.1 hr).1
      have hisz : i < listed.size := by
        rcases Nat.lt_or_ge i listed.size with h' | h'
        · exact h'
        · simp [Array.getElem?_eq_none h'] at hun
      have hif : listed.getD i false = false := by
        simp [hisz] at hun ⊢
        exact hun
      have hnot : ∀ e ∈ oj.after, Region.binds md e = true → e.on ≠ i := fun e he hb heq => by
        have h1 := hall e he hb
        rw [heq, hif] at h1
        cases h1
      have h2 := wpOp_putIf hoj (hfree j oj hoj hji hjun hnot) (fun cs b => hsel i oi cs b hi) (fun cs b => hsel j oj cs b hoj) hQ hy h1
      have hfree' : ∀ k ok, ops[k]? = some ok → k ≠ i → (listed.setIfInBounds j true).getD k true = false →
          (∀ e ∈ ok.after, Region.binds md e = true → e.on ≠ i) → oi.apart ops ok = true := fun k ok hk hki hun hno => by
        refine hfree k ok hk hki ?_ hno
        by_cases hjk : j = k
        · subst hjk; exact hjun
        · rw [getD_set_ne true hjk] at hun; exact hun
      refine wpOp_mono (fun a' w' h3 => ⟨h3.2.1, ih (listed.setIfInBounds j true) a' w' (closed_set hcl hj) hfree' (ready_mono hr (Ne.symm hji)) h3.1 ?_⟩) h2
      rw [Array.setIfInBounds_comm _ _ hji]
      exact h3.2.2
/-- What is to be shown along an order. -/
def wpOrdY (P : Program) (md : Region.Mode) (ops : Array Oper) (Q : Exit → Act → World → Prop) (S : World → Prop) (z : Nat) : Ord → Act → World → Prop
  | .fin, a, w => Q .normal a w
  | .take i k, a, w => ∃ v o, ops[i]? = some o ∧ (YieldsIf P ops (fun _ => True) o v a ∨ reachB md ops i ops.size z = true ∧ S w ∧ YieldsIf P ops S o v a) ∧ wpOrdY P md ops Q S z k (a.put o.dst v) w
  | .run i k, a, w => wpOp P ops Q i (fun a' w' => (i < z → S w') ∧ wpOrdY P md ops Q S z k a' w') a w
  | .run2 i k i2 k2, a, w => wpOp P ops Q i (fun a' w' => (i < z → S w') ∧ wpOrdY P md ops Q S z k a' w') a w ∧ wpOp P ops Q i2 (fun a' w' => (i2 < z → S w') ∧ wpOrdY P md ops Q S z k2 a' w') a w
  | .run3 i k i2 k2 i3 k3, a, w => wpOp P ops Q i (fun a' w' => (i < z → S w') ∧ wpOrdY P md ops Q S z k a' w') a w ∧ wpOp P ops Q i2 (fun a' w' => (i2 < z → S w') ∧ wpOrdY P md ops Q S z k2 a' w') a w ∧ wpOp P ops Q i3 (fun a' w' => (i3 < z → S w') ∧ wpOrdY P md ops Q S z k3 a' w') a w
theorem wpAnyY_ord (hs : Region.noSelect ops = true) (hQ : ∀ c a d v w, Q (.panic c) (a.put d v) w → Q (.panic c) a w) (hz : upB md ops z = true) (hzs : z < ops.size) :
    ∀ (ord : Ord) (fuel : Nat) (l : Array Bool) (a : Act) (w : World), Closed md ops l → ord.chk md ops fuel l = true → wpOrdY P md ops Q S z ord a w → wpAnyY P md ops Q S z fuel l a w := by
  intro ord
  induction ord with
  | fin =>
    intro fuel l a w _ hc h
    have hr : Region.ready md ops l = [] := by
      unfold Ord.chk at hc
      simpa using hc
    cases fuel with
    | zero => exact ⟨hr, h⟩
    | succ f => exact ⟨fun _ => h, by rw [hr]; simp⟩
  | take i k ih =>
    intro fuel l a w hcl hc h
    cases fuel with
    | zero => simp [Ord.chk] at hc
    | succ f =>
      simp only [Ord.chk, Bool.and_eq_true] at hc
      obtain ⟨v, o, ho, hy, h⟩ := h
      have hr : i ∈ Region.ready md ops l := by simpa using hc.1.1
      rcases hy with hy | ⟨hiz, hS, hy⟩
      · exact wpAnyY_pure ho (Region.noSelect_spec hs) (fun c a w => hQ c a o.dst v w) f l a w hcl (Region.free_spec ho hc.1.2) hr hy (ih f _ _ w (closed_set hcl hr) hc.2 h)
      exact wpAnyY_first ho (Region.noSelect_spec hs) (fun c a w => hQ c a o.dst v w) hz hzs hiz f l a w hcl (Region.free_spec ho hc.1.2) hr hy hS (ih f _ _ w (closed_set hcl hr) hc.2 h)
  | run i k ih =>
    intro fuel l a w hcl hc h
    cases fuel with
    | zero => simp [Ord.chk] at hc
    | succ f =>
      simp only [Ord.chk, Bool.and_eq_true] at hc
      have hr : i ∈ Region.ready md ops l := by simpa using hc.1.2
      refine ⟨fun h0 => (by rw [h0] at hr; cases hr), fun j hj => ?_⟩
      have hji : j = i := by simpa using List.all_eq_true.1 hc.1.1 j hj
      subst hji
      exact wpOp_mono (fun a' w' h' => ⟨fun _ => h'.1, ih f _ a' w' (closed_set hcl hr) hc.2 h'.2⟩) h
  | run2 i k i2 k2 ih ih2 =>
    intro fuel l a w hcl hc h
    cases fuel with
    | zero => simp [Ord.chk] at hc
    | succ f =>
      simp only [Ord.chk, Bool.and_eq_true] at hc
      have hr : i ∈ Region.ready md ops l := by simpa using hc.1.1.1.2
      have hr2 : i2 ∈ Region.ready md ops l := by simpa using hc.1.1.2
      refine ⟨fun h0 => (by rw [h0] at hr; cases hr), fun j hj => ?_⟩
      have hji : j = i ∨ j = i2 := by simpa using List.all_eq_true.1 hc.1.1.1.1 j hj
      rcases hji with rfl | rfl
      · exact wpOp_mono (fun a' w' h' => ⟨fun _ => h'.1, ih f _ a' w' (closed_set hcl hr) hc.1.2 h'.2⟩) h.1
      · exact wpOp_mono (fun a' w' h' => ⟨fun _ => h'.1, ih2 f _ a' w' (closed_set hcl hr2) hc.2 h'.2⟩) h.2
  | run3 i k i2 k2 i3 k3 ih ih2 ih3 =>
    intro fuel l a w hcl hc h
    cases fuel with
    | zero => simp [Ord.chk] at hc
    | succ f =>
      simp only [Ord.chk, Bool.and_eq_true] at hc
      have hr : i ∈ Region.ready md ops l := by simpa using hc.1.1.1.1.1.2
      have hr2 : i2 ∈ Region.ready md ops l := by simpa using hc.1.1.1.1.2
      have hr3 : i3 ∈ Region.ready md ops l := by simpa using hc.1.1.1.2
      refine ⟨fun h0 => (by rw [h0] at hr; cases hr), fun j hj => ?_⟩
      have hji : j = i ∨ j = i2 ∨ j = i3 := by simpa [or_assoc] using List.all_eq_true.1 hc.1.1.1.1.1.1 j hj
      rcases hji with rfl | rfl | rfl
      · exact wpOp_mono (fun a' w' h' => ⟨fun _ => h'.1, ih f _ a' w' (closed_set hcl hr) hc.1.1.2 h'.2⟩) h.1
      · exact wpOp_mono (fun a' w' h' => ⟨fun _ => h'.1, ih2 f _ a' w' (closed_set hcl hr2) hc.1.2 h'.2⟩) h.2.1
      · exact wpOp_mono (fun a' w' h' => ⟨fun _ => h'.1, ih3 f _ a' w' (closed_set hcl hr3) hc.2 h'.2⟩) h.2.2
/-- The region by an order; S holds behind each number under z. -/
theorem region_ordy {id : Nat} {a : Act} {w : World} {l : List Oper} (S : World → Prop) (z : Nat) (ord : Ord) (hm : P.follows .mixedOrders = true)
    (hc : (Region.noSelect l.toArray && upB .any l.toArray z && decide (z < l.length) && ord.chk .any l.toArray l.length (Array.replicate l.length false)) = true)
    (hQ : ∀ c a d v w, Q (.panic c) (a.put d v) w → Q (.panic c) a w)
    (h : ∀ w1, Below w.heap.size w w1 → Shut 0 (wpOrdY P .any l.toArray Q S z ord a w1)) : (Code.region id l.toArray true).wp P Q a w := by
  simp only [Bool.and_eq_true, decide_eq_true_eq] at hc
  exact wp_region_any hm (wpAny_of_Y _ _ _ _ (wpAnyY_ord hc.1.1.1 hQ hc.1.1.2 (by simpa using hc.1.2) ord _ _ a _ (closed_none _) (by simpa using hc.2) (h _ (bdraw w)).out))
section
variable {l : List Oper} {a : Act} {w : World} {i : Nat} {k : Ord} {o : Oper}
theorem ogy_take (ho : l[i]? = some o) (hw : Region.wanted o (yielded l.toArray a.tmps) = true) (hS : S w) (hiz : reachB .any l.toArray i l.toArray.size z = true) (h : ∃ v, (∀ w', S w' → (execOp a.eval o).run P w' = .ok (.value v) w') ∧ ∃ a', a.put o.dst v = a' ∧ Shut 0 (wpOrdY P .any l.toArray Q S z k a' w)) :
    Shut 0 (wpOrdY P .any l.toArray Q S z (.take i k) a w) := by
  obtain ⟨v, h1, _, rfl, h2⟩ := h
  exact ⟨v, o, by simpa using ho, .inr ⟨hiz, hS, .inl ⟨hw, h1⟩⟩, h2.out⟩
theorem ogy_pure (ho : l[i]? = some o) (hw : Region.wanted o (yielded l.toArray a.tmps) = true) (h : ∃ v, (∀ w', (execOp a.eval o).run P w' = .ok (.value v) w') ∧ ∃ a', a.put o.dst v = a' ∧ Shut 0 (wpOrdY P .any l.toArray Q S z k a' w)) :
    Shut 0 (wpOrdY P .any l.toArray Q S z (.take i k) a w) := by
  obtain ⟨v, h1, _, rfl, h2⟩ := h
  exact ⟨v, o, by simpa using ho, .inl (.inl ⟨hw, fun w' _ => h1 w'⟩), h2.out⟩
theorem ogy_skip (ho : l[i]? = some o) (hw : Region.wanted o (yielded l.toArray a.tmps) = false) (a' : Act) (ha : a.put o.dst undef = a') (h : Shut 0 (wpOrdY P .any l.toArray Q S z k a' w)) :
    Shut 0 (wpOrdY P .any l.toArray Q S z (.take i k) a w) := by
  subst ha
  exact ⟨undef, o, by simpa using ho, .inl (.inr ⟨hw, rfl⟩), h.out⟩
theorem ogy_run (ho : l[i]? = some o) (hw : Region.wanted o (yielded l.toArray a.tmps) = true) (h : o.wp P a w (fun a' w' => (i < z → S w') ∧ Shut 0 (wpOrdY P .any l.toArray Q S z k a' w')) Q) :
    Shut 0 (wpOrdY P .any l.toArray Q S z (.run i k) a w) := by
  refine ⟨?_⟩
  unfold wpOrdY wpOp
  rw [show l.toArray[i]? = some o by simpa using ho]
  simp only [hw, if_true]
  exact .inl (Oper.wp_mono (fun a' w' h => ⟨h.1, h.2.out⟩) h)
theorem ogy_run2 {i2 : Nat} {k2 : Ord} (h : Shut 0 (wpOrdY P .any l.toArray Q S z (.run i k) a w)) (h2 : Shut 0 (wpOrdY P .any l.toArray Q S z (.run i2 k2) a w)) : Shut 0 (wpOrdY P .any l.toArray Q S z (.run2 i k i2 k2) a w) := ⟨h.out, h2.out⟩
theorem ogy_run3 {i2 i3 : Nat} {k2 k3 : Ord} (h : Shut 0 (wpOrdY P .any l.toArray Q S z (.run i k) a w)) (h2 : Shut 0 (wpOrdY P .any l.toArray Q S z (.run i2 k2) a w)) (h3 : Shut 0 (wpOrdY P .any l.toArray Q S z (.run i3 k3) a w)) : Shut 0 (wpOrdY P .any l.toArray Q S z (.run3 i k i2 k2 i3 k3) a w) := ⟨h.out, h2.out, h3.out⟩
theorem ogy_fin (h : Q .normal a w) : Shut 0 (wpOrdY P .any l.toArray Q S z .fin a w) := ⟨h⟩
theorem ogy_ld (ho : l[i]? = some o) (hw : Region.wanted o (yielded l.toArray a.tmps) = true) (hS : S w) (hiz : reachB .any l.toArray i l.toArray.size z = true) (ty : TypeId) (x : Operand) (hop : o.op = .load ty x) (p : Value) (hx : a.eval x = p) (v : Value) (hl : ∀ w', S w' → (Instr.loadAt ty p).run P w' = .ok v w')
    (a' : Act) (ha : a.put o.dst v = a') (h : Shut 0 (wpOrdY P .any l.toArray Q S z k a' w)) : Shut 0 (wpOrdY P .any l.toArray Q S z (.take i k) a w) := by
  subst ha
  refine ⟨v, o, by simpa using ho, .inr ⟨hiz, hS, .inl ⟨hw, fun w' h' => ?_⟩⟩, h.out⟩
  simp only [execOp, hop, hx, Sem.run_bind, hl w' h', Result.andThen_ok, Sem.run_pure]
end
end
end Cop
namespace Go.Proofs.YtbjbdnlgoifamaaDoor
open Go.RowKit Cop
set_option linter.unusedVariables false
set_option linter.unusedSimpArgs false
section
variable {P : Program} {w0 w : World} {B : Nat} {R : List Pc} {o : Oper} {a : Act}
/-- An empty slice literal. -/
theorem ow_bz {K : Act → World → Prop} {Q : Exit → Act → World → Prop} (HS : Sep B w0 w R) (t e : TypeId) (size : Nat) (ho : o.op = .buildSlice t 0 #[]) (hu : P.underlying t = some (.slice e)) (hie : (P.info? e).map (·.size) = some size)
    (h : ∀ g w1, Sep B w0 w1 (.own (.slice (some ⟨g, 0, none⟩) 0 0) e size 0 [] :: R) → K (a.put o.dst (.slice (some ⟨g, 0, none⟩) 0 0)) w1) : o.wp P a w K Q := by
  obtain ⟨ie, hi, rfl⟩ := Option.map_eq_some_iff.1 hie
  have hr : (Instr.buildSlice t 0 #[]).run P w = .ok (.slice (some ⟨w.heap.size, 0, none⟩) 0 0) (w.alloc (.cells #[] e)) := by
    simp [Instr.buildSlice, run_underlying hu, sizeOf, typeInfo, hi, newRow, Instr.fill, show Array.range 0 = #[] from rfl]
  unfold Oper.wp execOp
  simp only [ho, Sem.run_bind, List.map_toArray, List.map_nil, hr, Result.andThen_ok]
  exact h _ _ (HS.built #[] e 0 ie.size (by simp) (by decide))
theorem wl_bz {ops : Array Oper} {rest : List Oper} {Q : Exit → Act → World → Prop} (HS : Sep B w0 w R) (hgd : o.guard = none) (t e : TypeId) (size : Nat) (ho : o.op = .buildSlice t 0 #[]) (hu : P.underlying t = some (.slice e)) (hie : (P.info? e).map (·.size) = some size)
    (h : ∀ g w1, Sep B w0 w1 (.own (.slice (some ⟨g, 0, none⟩) 0 0) e size 0 [] :: R) → wpList P ops Q rest (a.put o.dst (.slice (some ⟨g, 0, none⟩) 0 0)) w1) : wpList P ops Q (o :: rest) a w :=
  wpList_plain hgd fun _ hK => ow_bz HS t e size ho hu hie fun g w1 h2 => hK _ _ (h g w1 h2)
theorem arr1 {a b c d : Pc} (h : Sep B w0 w (a :: b :: c :: d :: R)) : Sep B w0 w (c :: d :: a :: b :: R) := (h.front 3).front 3
theorem arr2 {a b c d : Pc} (h : Sep B w0 w (a :: b :: c :: d :: R)) : Sep B w0 w (c :: d :: b :: a :: R) := (((h.front 1).front 3).front 3)
end
section
variable {w0 w : World} {B : Nat} {R : List Pc} {o : Oper} {a : Act} {K : Act → World → Prop} {Q : Exit → Act → World → Prop}
theorem ow_apd9 (HS : Sep B w0 w R) (i : Nat) {v : Value} {p : List (List UInt8)} {n : Nat} (hi : R[i]? = some (.own v 24 32 n (dcs p))) {s x : Operand} (ho : o.op = .call { callee := .builtin .append, args := #[s, x], argTypes := #[28, 28] })
    {u : Value} {m : Nat} {q : List (List UInt8)} (HR : Rd w u m 32 (dcs q)) (hs : a.eval s = v) (hx : a.eval x = u) (k : Nat) (r : List (List UInt8)) (hk : n + m = k) (hr : p ++ q = r) (hl : k * 32 ≤ 140737488355328)
    (h : ∀ v1 w1, Sep B w0 w1 (R.set i (.own v1 24 32 k (dcs r))) → K (a.put o.dst v1) w1) : o.wp Tryd.prog a w K Q :=
  ow_apn HS i hi s x 28 _ 32 ho Tryd.underlying28 dgs_info rfl (by decide) (by decide) HR (dcs_one q) hs hx k (dcs r) hk (by rw [← hr, dcs_append]) hl fun v1 w1 h1 _ => h v1 w1 h1
end
section
variable {m n i : Int} {older newer : List UInt8} {s x y p q u : Value}
theorem clv_set (ho : older.length = 32) (hn : newer.length = 32) (j : Nat) : (clv m n older newer s i x y p q).setIfInBounds (66 + j) u = ([Value.int .i64 m, .int .i64 n] ++ (bl older ++ (bl newer ++ [s, .int .i64 i, x, y, p, q].set j u))).toArray := by
  have hb : (bl older).length = 32 := by rw [bl_length, ho]
  have hc : (bl newer).length = 32 := by rw [bl_length, hn]
  simp only [clv, List.setIfInBounds_toArray]
  rw [List.set_append_right _ _ (by simp; omega), List.set_append_right _ _ (by simp; omega), List.set_append_right _ _ (by simp; omega)]
  congr 5
  simp [hb, hc]
  omega
theorem clv_set66 (ho : older.length = 32) (hn : newer.length = 32) : (clv m n older newer s i x y p q).setIfInBounds 66 u = clv m n older newer u i x y p q := clv_set ho hn 0
theorem clv_set68 (ho : older.length = 32) (hn : newer.length = 32) : (clv m n older newer s i x y p q).setIfInBounds 68 u = clv m n older newer s i u y p q := clv_set ho hn 2
theorem clv_set69 (ho : older.length = 32) (hn : newer.length = 32) : (clv m n older newer s i x y p q).setIfInBounds 69 u = clv m n older newer s i x u p q := clv_set ho hn 3
theorem clv_set70 (ho : older.length = 32) (hn : newer.length = 32) : (clv m n older newer s i x y p q).setIfInBounds 70 u = clv m n older newer s i x y u q := clv_set ho hn 4
theorem clv_set71 (ho : older.length = 32) (hn : newer.length = 32) : (clv m n older newer s i x y p q).setIfInBounds 71 u = clv m n older newer s i x y p u := clv_set ho hn 5
theorem clv_info (ho : older.length = 32) (hn : newer.length = 32) : (Tryd.prog.info? 37).map (·.size) = some (clv m n older newer s i x y p q).size := by
  rw [clv_size ho hn]
  kernel_rfl
theorem clv_one {As Ax Ay Ap Aq : Option Addr} {ns nx ny np nq cs cx cy cp cq : Nat} (ho : older.length = 32) (hn : newer.length = 32) : (clv m n older newer (.slice As ns cs) i (.slice Ax nx cx) (.slice Ay ny cy) (.slice Ap np cp) (.slice Aq nq cq)).all (·.oneCell') = true := by
  have h : ∀ l : List UInt8, (bl l).all (·.oneCell') = true := fun l => by
    have := bv_one l
    rw [show bv l = (bl l).toArray from rfl, List.all_toArray] at this
    exact this
  simp only [clv, List.all_toArray, List.all_append, h]
  rfl
end
set_option maxRecDepth 100000 in
set_option maxHeartbeats 8000000 in
theorem lent9 (m n i : Int) (older newer x y : List UInt8) (s p q : List (List UInt8)) (As Ap Aq Ax Ay : Option Addr) (cs cp cq cx cy : Nat) (w : World) (ho : older.length = 32) (hn : newer.length = 32) (hxl : x.length ≤ 140737488351232) (hyl : y.length ≤ 140737488351232) (hsl : s.length ≤ 4398046510976) (hpl : p.length ≤ 4398046510976) (hql : q.length ≤ 4398046510976)
    (hs : Rd w (.slice As s.length cs) s.length 32 (dcs s)) (hx : Rd w (.slice Ax x.length cx) x.length 1 (bl x)) (hy : Rd w (.slice Ay y.length cy) y.length 1 (bl y)) (hp : Rd w (.slice Ap p.length cp) p.length 32 (dcs p)) (hq : Rd w (.slice Aq q.length cq) q.length 32 (dcs q)) :
    Calls Tryd.prog 16 #[.agg (clv m n older newer (.slice As s.length cs) i (.slice Ax x.length cx) (.slice Ay y.length cy) (.slice Ap p.length cp) (.slice Aq q.length cq))] w fun e w' => ∃ (As1 Ap1 Aq1 Ax1 Ay1 : Option Addr) (cs1 cp1 cq1 cx1 cy1 : Nat), e = .returned (.agg (clv m n older newer (.slice As1 s.length cs1) i (.slice Ax1 x.length cx1) (.slice Ay1 y.length cy1) (.slice Ap1 p.length cp1) (.slice Aq1 q.length cq1))) ∧ Below w.heap.size w w' ∧
      Rd w' (.slice As1 s.length cs1) s.length 32 (dcs s) ∧ Rd w' (.slice Ax1 x.length cx1) x.length 1 (bl x) ∧ Rd w' (.slice Ay1 y.length cy1) y.length 1 (bl y) ∧ Rd w' (.slice Ap1 p.length cp1) p.length 32 (dcs p) ∧ Rd w' (.slice Aq1 q.length cq1) q.length 32 (dcs q) := by
  have HO := Lib.hid ho
  have HN := Lib.hid hn
  have HXL := Lib.hid hxl
  have HYL := Lib.hid hyl
  have HSL := Lib.hid hsl
  have HPL := Lib.hid hpl
  have HQL := Lib.hid hql
  have HS0 := (((((Sep.start w).arg0 hq).arg0 hp).arg0 hy).arg0 hx).arg0 hs
  clear hs hx hy hp hq ho hn hxl hyl hsl hpl hql
  go_enter Tryd.func16, Tryd.ntmps16
  go_wp2_with (first | refine wl_bx HS0 rfl 37 _ rfl (clv m n older newer (.slice As s.length cs) i (.slice Ax x.length cx) (.slice Ay y.length cy) (.slice Ap p.length cp) (.slice Aq q.length cq)) rfl ?_)
  intro g1 w1 HS1
  go_wp2_with (first | refine wl_al HS1 rfl 37 rfl (clv 0 0 (List.replicate 32 0) (List.replicate 32 0) (.slice none 0 0) 0 (.slice none 0 0) (.slice none 0 0) (.slice none 0 0) (.slice none 0 0)) (by kernel_rfl) ?_)
  intro g2 w2 HS2
  go_wp2_with (first | refine wl_bz HS2 rfl 28 24 32 rfl Tryd.underlying28 (by kernel_rfl) ?_)
  intro g3 w3 HS3
  clear HS0 HS1 HS2
  obtain ⟨c0, c1, c2, c3, c4, c5, c6, c7⟩ := clm_cells HO.out HN.out (HS3.row 2 rfl)
  go_wp2_with (first | refine wl_apn HS3 0 rfl _ _ 28 (.agg (bv (List.replicate 32 0))) 32 rfl rfl Tryd.underlying28 dgs_info rfl (by decide) (by decide) (HS3.rd 3 rfl) (dcs_one s) rfl rfl s.length (dcs s) (by simp) rfl (by have := HSL.out; omega) ?_)
  intro v1 w4 HS4 _
  obtain ⟨As1, cs1, rfl, _⟩ := (HS4.own 0 rfl).sl
  clear HS3 c0 c1 c2 c3 c4 c5 c6 c7
  go_wp2_with (first | refine wl_stc HS4 2 rfl rfl 28 _ _ rfl (by kernel_rfl) 66 (by rw [clv_size HO.out HN.out]; decide) rfl rfl rfl rfl ?_)
  intro w5 HS5
  rw [clv_set66 HO.out HN.out] at HS5
  have HS : Sep w.heap.size w w5 [.row g1 (clv m n older newer (.slice As1 s.length cs1) i (.slice Ax x.length cx) (.slice Ay y.length cy) (.slice Ap p.length cp) (.slice Aq q.length cq)) 37, .row g2 (clv 0 0 (List.replicate 32 0) (List.replicate 32 0) (.slice none 0 0) 0 (.slice none 0 0) (.slice none 0 0) (.slice none 0 0) (.slice none 0 0)) 37, .own (.slice As1 s.length cs1) 24 32 s.length (dcs s), .rd (.slice As s.length cs) s.length 32 (dcs s), .rd (.slice Ax x.length cx) x.length 1 (bl x), .rd (.slice Ay y.length cy) y.length 1 (bl y), .rd (.slice Ap p.length cp) p.length 32 (dcs p), .rd (.slice Aq q.length cq) q.length 32 (dcs q)] := (HS5.front 1).front 2
  clear HS4 HS5
  go_upto_region 2 with fail
  go_cut [17] (fun s17 wx => ∃ (Ax1 Ay1 : Option Addr) (cx1 cy1 : Nat), s17 = .pointer (some ⟨g1, 69, none⟩) ∧ Sep w.heap.size w wx [.row g1 (clv m n older newer (.slice As1 s.length cs1) i (.slice Ax1 x.length cx1) (.slice Ay1 y.length cy1) (.slice Ap p.length cp) (.slice Aq q.length cq)) 37, .row g2 (clv 0 0 (List.replicate 32 0) (List.replicate 32 0) (.slice none 0 0) 0 (.slice none 0 0) (.slice none 0 0) (.slice none 0 0) (.slice none 0 0)) 37, .own (.slice Ax1 x.length cx1) 5 1 x.length (bl x), .own (.slice Ay1 y.length cy1) 5 1 y.length (bl y), .own (.slice As1 s.length cs1) 24 32 s.length (dcs s), .rd (.slice As s.length cs) s.length 32 (dcs s), .rd (.slice Ax x.length cx) x.length 1 (bl x), .rd (.slice Ay y.length cy) y.length 1 (bl y), .rd (.slice Ap p.length cp) p.length 32 (dcs p), .rd (.slice Aq q.length cq) q.length 32 (dcs q)])
  case first =>
    refine Cop.region_ordy (fun w' => Sep w.heap.size w w' [.row g1 (clv m n older newer (.slice As1 s.length cs1) i (.slice Ax x.length cx) (.slice Ay y.length cy) (.slice Ap p.length cp) (.slice Aq q.length cq)) 37, .row g2 (clv 0 0 (List.replicate 32 0) (List.replicate 32 0) (.slice none 0 0) 0 (.slice none 0 0) (.slice none 0 0) (.slice none 0 0) (.slice none 0 0)) 37, .own (.slice As1 s.length cs1) 24 32 s.length (dcs s), .rd (.slice As s.length cs) s.length 32 (dcs s), .rd (.slice Ax x.length cx) x.length 1 (bl x), .rd (.slice Ay y.length cy) y.length 1 (bl y), .rd (.slice Ap p.length cp) p.length 32 (dcs p), .rd (.slice Aq q.length cq) q.length 32 (dcs q)]) 9 (.take 1 (.take 2 (.take 5 (.take 6 (.run2 0 (.run2 3 (.take 8 (.run 4 (.run 7 (.run 9 (.take 10 (.run 11 Cop.Ord.fin)))))) 4 (.run 3 (.take 8 (.run 7 (.run 9 (.take 10 (.run 11 Cop.Ord.fin))))))) 4 (.run 0 (.run 3 (.take 8 (.run 7 (.run 9 (.take 10 (.run 11 Cop.Ord.fin)))))))))))) (by kernel_rfl) (by kernel_rfl) (fun _ _ d _ _ h => by cases d <;> exact h) ?_
    intro wa hda
    have H0 := HS.keep hda
    clear HS
    (repeat (first | (refine Cop.ogy_skip rfl rfl _ (by (simp only [Act.put, List.setIfInBounds_toArray, List.set_cons_succ, List.set_cons_zero]; rfl)) ?_) | (refine Cop.ogy_pure rfl rfl ?_; apply Exists.intro; refine ⟨fun w9 => ?_, _, by (simp only [Act.put, List.setIfInBounds_toArray, List.set_cons_succ, List.set_cons_zero]; rfl), ?_⟩; (go_simp; with_reducible rfl)) | (refine Cop.ogy_take rfl rfl H0 (by kernel_rfl) ?_; apply Exists.intro; refine ⟨fun w9 h9 => ?_, _, by (simp only [Act.put, List.setIfInBounds_toArray, List.set_cons_succ, List.set_cons_zero]; rfl), ?_⟩; (obtain ⟨c0, c1, c2, c3, c4, c5, c6, c7⟩ := clm_cells HO.out HN.out (h9.row 0 rfl); go_simp; with_reducible rfl))))
    refine Cop.ogy_run2 ?_ ?_
    · skip
      refine Cop.ogy_run rfl rfl ?_
      refine ow_bz H0 22 5 1 rfl Tryd.underlying22 (by kernel_rfl) ?_
      intro e0 w20 H1
      have HB1 : Sep w.heap.size w w20 [.row g1 (clv m n older newer (.slice As1 s.length cs1) i (.slice Ax x.length cx) (.slice Ay y.length cy) (.slice Ap p.length cp) (.slice Aq q.length cq)) 37, .row g2 (clv 0 0 (List.replicate 32 0) (List.replicate 32 0) (.slice none 0 0) 0 (.slice none 0 0) (.slice none 0 0) (.slice none 0 0) (.slice none 0 0)) 37, .own (.slice As1 s.length cs1) 24 32 s.length (dcs s), .rd (.slice As s.length cs) s.length 32 (dcs s), .rd (.slice Ax x.length cx) x.length 1 (bl x), .rd (.slice Ay y.length cy) y.length 1 (bl y), .rd (.slice Ap p.length cp) p.length 32 (dcs p), .rd (.slice Aq q.length cq) q.length 32 (dcs q)] := H1.sub (by repeat (first | exact List.nil_sublist _ | exact List.Sublist.refl _ | apply List.Sublist.cons_cons | apply List.Sublist.cons))
      refine ⟨fun _ => HB1, ?_⟩
      (repeat (first | (refine Cop.ogy_skip rfl rfl _ (by (simp only [Act.put, List.setIfInBounds_toArray, List.set_cons_succ, List.set_cons_zero]; rfl)) ?_) | (refine Cop.ogy_pure rfl rfl ?_; apply Exists.intro; refine ⟨fun w9 => ?_, _, by (simp only [Act.put, List.setIfInBounds_toArray, List.set_cons_succ, List.set_cons_zero]; rfl), ?_⟩; (go_simp; with_reducible rfl)) | (refine Cop.ogy_take rfl rfl HB1 (by kernel_rfl) ?_; apply Exists.intro; refine ⟨fun w9 h9 => ?_, _, by (simp only [Act.put, List.setIfInBounds_toArray, List.set_cons_succ, List.set_cons_zero]; rfl), ?_⟩; (obtain ⟨c0, c1, c2, c3, c4, c5, c6, c7⟩ := clm_cells HO.out HN.out (h9.row 0 rfl); go_simp; with_reducible rfl))))
      refine Cop.ogy_run2 ?_ ?_
      · skip
        refine Cop.ogy_run rfl rfl ?_
        refine ow_apb (xs := []) H1 0 rfl rfl (H1.rd 5 rfl) rfl rfl x.length x (by omega) rfl (by have := HXL.out; omega) ?_
        intro u0 w21 H2 _
        obtain ⟨Ax1, cx1, rfl, _⟩ := (H2.own 0 rfl).sl
        have HB2 : Sep w.heap.size w w21 [.row g1 (clv m n older newer (.slice As1 s.length cs1) i (.slice Ax x.length cx) (.slice Ay y.length cy) (.slice Ap p.length cp) (.slice Aq q.length cq)) 37, .row g2 (clv 0 0 (List.replicate 32 0) (List.replicate 32 0) (.slice none 0 0) 0 (.slice none 0 0) (.slice none 0 0) (.slice none 0 0) (.slice none 0 0)) 37, .own (.slice As1 s.length cs1) 24 32 s.length (dcs s), .rd (.slice As s.length cs) s.length 32 (dcs s), .rd (.slice Ax x.length cx) x.length 1 (bl x), .rd (.slice Ay y.length cy) y.length 1 (bl y), .rd (.slice Ap p.length cp) p.length 32 (dcs p), .rd (.slice Aq q.length cq) q.length 32 (dcs q)] := H2.sub (by repeat (first | exact List.nil_sublist _ | exact List.Sublist.refl _ | apply List.Sublist.cons_cons | apply List.Sublist.cons))
        refine ⟨fun _ => HB2, ?_⟩
        (repeat (first | (refine Cop.ogy_skip rfl rfl _ (by (simp only [Act.put, List.setIfInBounds_toArray, List.set_cons_succ, List.set_cons_zero]; rfl)) ?_) | (refine Cop.ogy_pure rfl rfl ?_; apply Exists.intro; refine ⟨fun w9 => ?_, _, by (simp only [Act.put, List.setIfInBounds_toArray, List.set_cons_succ, List.set_cons_zero]; rfl), ?_⟩; (go_simp; with_reducible rfl)) | (refine Cop.ogy_take rfl rfl HB2 (by kernel_rfl) ?_; apply Exists.intro; refine ⟨fun w9 h9 => ?_, _, by (simp only [Act.put, List.setIfInBounds_toArray, List.set_cons_succ, List.set_cons_zero]; rfl), ?_⟩; (obtain ⟨c0, c1, c2, c3, c4, c5, c6, c7⟩ := clm_cells HO.out HN.out (h9.row 0 rfl); go_simp; with_reducible rfl))))
        refine Cop.ogy_run rfl rfl ?_
        refine ow_bz H2 22 5 1 rfl Tryd.underlying22 (by kernel_rfl) ?_
        intro e1 w22 H3
        have HB3 : Sep w.heap.size w w22 [.row g1 (clv m n older newer (.slice As1 s.length cs1) i (.slice Ax x.length cx) (.slice Ay y.length cy) (.slice Ap p.length cp) (.slice Aq q.length cq)) 37, .row g2 (clv 0 0 (List.replicate 32 0) (List.replicate 32 0) (.slice none 0 0) 0 (.slice none 0 0) (.slice none 0 0) (.slice none 0 0) (.slice none 0 0)) 37, .own (.slice As1 s.length cs1) 24 32 s.length (dcs s), .rd (.slice As s.length cs) s.length 32 (dcs s), .rd (.slice Ax x.length cx) x.length 1 (bl x), .rd (.slice Ay y.length cy) y.length 1 (bl y), .rd (.slice Ap p.length cp) p.length 32 (dcs p), .rd (.slice Aq q.length cq) q.length 32 (dcs q)] := H3.sub (by repeat (first | exact List.nil_sublist _ | exact List.Sublist.refl _ | apply List.Sublist.cons_cons | apply List.Sublist.cons))
        refine ⟨fun _ => HB3, ?_⟩
        (repeat (first | (refine Cop.ogy_skip rfl rfl _ (by (simp only [Act.put, List.setIfInBounds_toArray, List.set_cons_succ, List.set_cons_zero]; rfl)) ?_) | (refine Cop.ogy_pure rfl rfl ?_; apply Exists.intro; refine ⟨fun w9 => ?_, _, by (simp only [Act.put, List.setIfInBounds_toArray, List.set_cons_succ, List.set_cons_zero]; rfl), ?_⟩; (go_simp; with_reducible rfl)) | (refine Cop.ogy_take rfl rfl HB3 (by kernel_rfl) ?_; apply Exists.intro; refine ⟨fun w9 h9 => ?_, _, by (simp only [Act.put, List.setIfInBounds_toArray, List.set_cons_succ, List.set_cons_zero]; rfl), ?_⟩; (obtain ⟨c0, c1, c2, c3, c4, c5, c6, c7⟩ := clm_cells HO.out HN.out (h9.row 0 rfl); go_simp; with_reducible rfl))))
        refine Cop.ogy_run rfl rfl ?_
        refine ow_apb (xs := []) H3 0 rfl rfl (H3.rd 7 rfl) rfl rfl y.length y (by omega) rfl (by have := HYL.out; omega) ?_
        intro u1 w23 H4 _
        obtain ⟨Ay1, cy1, rfl, _⟩ := (H4.own 0 rfl).sl
        have HB4 : Sep w.heap.size w w23 [.row g1 (clv m n older newer (.slice As1 s.length cs1) i (.slice Ax x.length cx) (.slice Ay y.length cy) (.slice Ap p.length cp) (.slice Aq q.length cq)) 37, .row g2 (clv 0 0 (List.replicate 32 0) (List.replicate 32 0) (.slice none 0 0) 0 (.slice none 0 0) (.slice none 0 0) (.slice none 0 0) (.slice none 0 0)) 37, .own (.slice As1 s.length cs1) 24 32 s.length (dcs s), .rd (.slice As s.length cs) s.length 32 (dcs s), .rd (.slice Ax x.length cx) x.length 1 (bl x), .rd (.slice Ay y.length cy) y.length 1 (bl y), .rd (.slice Ap p.length cp) p.length 32 (dcs p), .rd (.slice Aq q.length cq) q.length 32 (dcs q)] := H4.sub (by repeat (first | exact List.nil_sublist _ | exact List.Sublist.refl _ | apply List.Sublist.cons_cons | apply List.Sublist.cons))
        refine ⟨fun _ => HB4, ?_⟩
        (repeat (first | (refine Cop.ogy_skip rfl rfl _ (by (simp only [Act.put, List.setIfInBounds_toArray, List.set_cons_succ, List.set_cons_zero]; rfl)) ?_) | (refine Cop.ogy_pure rfl rfl ?_; apply Exists.intro; refine ⟨fun w9 => ?_, _, by (simp only [Act.put, List.setIfInBounds_toArray, List.set_cons_succ, List.set_cons_zero]; rfl), ?_⟩; (go_simp; with_reducible rfl)) | (refine Cop.ogy_take rfl rfl HB4 (by kernel_rfl) ?_; apply Exists.intro; refine ⟨fun w9 h9 => ?_, _, by (simp only [Act.put, List.setIfInBounds_toArray, List.set_cons_succ, List.set_cons_zero]; rfl), ?_⟩; (obtain ⟨c0, c1, c2, c3, c4, c5, c6, c7⟩ := clm_cells HO.out HN.out (h9.row 0 rfl); go_simp; with_reducible rfl))))
        refine Cop.ogy_run rfl rfl ?_
        refine ow_stc H4 2 rfl 22 _ _ rfl (by kernel_rfl) 68 (by rw [clv_size HO.out HN.out]; decide) rfl rfl rfl rfl ?_
        intro w24 H5
        rw [clv_set68 HO.out HN.out] at H5
        refine ⟨fun h => absurd h (by decide), ?_⟩
        (repeat (first | (refine Cop.ogy_skip rfl rfl _ (by (simp only [Act.put, List.setIfInBounds_toArray, List.set_cons_succ, List.set_cons_zero]; rfl)) ?_) | (refine Cop.ogy_pure rfl rfl ?_; apply Exists.intro; refine ⟨fun w9 => ?_, _, by (simp only [Act.put, List.setIfInBounds_toArray, List.set_cons_succ, List.set_cons_zero]; rfl), ?_⟩; (go_simp; with_reducible rfl)) | (refine Cop.ogy_take rfl rfl H5 (by kernel_rfl) ?_; apply Exists.intro; refine ⟨fun w9 h9 => ?_, _, by (simp only [Act.put, List.setIfInBounds_toArray, List.set_cons_succ, List.set_cons_zero]; rfl), ?_⟩; (go_simp; with_reducible rfl))))
        refine Cop.ogy_run rfl rfl ?_
        refine ow_stc H5 2 rfl 22 _ _ rfl (by kernel_rfl) 69 (by rw [clv_size HO.out HN.out]; decide) rfl rfl rfl rfl ?_
        intro w25 H6
        rw [clv_set69 HO.out HN.out] at H6
        refine ⟨fun h => absurd h (by decide), ?_⟩
        refine ogy_fin ?_
        go_wp2
        go_meet
        case rel => exact ⟨_, _, _, _, rfl, arr2 H6⟩
      · skip
        refine Cop.ogy_run rfl rfl ?_
        refine ow_bz H1 22 5 1 rfl Tryd.underlying22 (by kernel_rfl) ?_
        intro e1 w21 H2
        have HB2 : Sep w.heap.size w w21 [.row g1 (clv m n older newer (.slice As1 s.length cs1) i (.slice Ax x.length cx) (.slice Ay y.length cy) (.slice Ap p.length cp) (.slice Aq q.length cq)) 37, .row g2 (clv 0 0 (List.replicate 32 0) (List.replicate 32 0) (.slice none 0 0) 0 (.slice none 0 0) (.slice none 0 0) (.slice none 0 0) (.slice none 0 0)) 37, .own (.slice As1 s.length cs1) 24 32 s.length (dcs s), .rd (.slice As s.length cs) s.length 32 (dcs s), .rd (.slice Ax x.length cx) x.length 1 (bl x), .rd (.slice Ay y.length cy) y.length 1 (bl y), .rd (.slice Ap p.length cp) p.length 32 (dcs p), .rd (.slice Aq q.length cq) q.length 32 (dcs q)] := H2.sub (by repeat (first | exact List.nil_sublist _ | exact List.Sublist.refl _ | apply List.Sublist.cons_cons | apply List.Sublist.cons))
        refine ⟨fun _ => HB2, ?_⟩
        (repeat (first | (refine Cop.ogy_skip rfl rfl _ (by (simp only [Act.put, List.setIfInBounds_toArray, List.set_cons_succ, List.set_cons_zero]; rfl)) ?_) | (refine Cop.ogy_pure rfl rfl ?_; apply Exists.intro; refine ⟨fun w9 => ?_, _, by (simp only [Act.put, List.setIfInBounds_toArray, List.set_cons_succ, List.set_cons_zero]; rfl), ?_⟩; (go_simp; with_reducible rfl)) | (refine Cop.ogy_take rfl rfl HB2 (by kernel_rfl) ?_; apply Exists.intro; refine ⟨fun w9 h9 => ?_, _, by (simp only [Act.put, List.setIfInBounds_toArray, List.set_cons_succ, List.set_cons_zero]; rfl), ?_⟩; (obtain ⟨c0, c1, c2, c3, c4, c5, c6, c7⟩ := clm_cells HO.out HN.out (h9.row 0 rfl); go_simp; with_reducible rfl))))
        refine Cop.ogy_run rfl rfl ?_
        refine ow_apb (xs := []) H2 1 rfl rfl (H2.rd 6 rfl) rfl rfl x.length x (by omega) rfl (by have := HXL.out; omega) ?_
        intro u0 w22 H3 _
        obtain ⟨Ax1, cx1, rfl, _⟩ := (H3.own 1 rfl).sl
        have HB3 : Sep w.heap.size w w22 [.row g1 (clv m n older newer (.slice As1 s.length cs1) i (.slice Ax x.length cx) (.slice Ay y.length cy) (.slice Ap p.length cp) (.slice Aq q.length cq)) 37, .row g2 (clv 0 0 (List.replicate 32 0) (List.replicate 32 0) (.slice none 0 0) 0 (.slice none 0 0) (.slice none 0 0) (.slice none 0 0) (.slice none 0 0)) 37, .own (.slice As1 s.length cs1) 24 32 s.length (dcs s), .rd (.slice As s.length cs) s.length 32 (dcs s), .rd (.slice Ax x.length cx) x.length 1 (bl x), .rd (.slice Ay y.length cy) y.length 1 (bl y), .rd (.slice Ap p.length cp) p.length 32 (dcs p), .rd (.slice Aq q.length cq) q.length 32 (dcs q)] := H3.sub (by repeat (first | exact List.nil_sublist _ | exact List.Sublist.refl _ | apply List.Sublist.cons_cons | apply List.Sublist.cons))
        refine ⟨fun _ => HB3, ?_⟩
        (repeat (first | (refine Cop.ogy_skip rfl rfl _ (by (simp only [Act.put, List.setIfInBounds_toArray, List.set_cons_succ, List.set_cons_zero]; rfl)) ?_) | (refine Cop.ogy_pure rfl rfl ?_; apply Exists.intro; refine ⟨fun w9 => ?_, _, by (simp only [Act.put, List.setIfInBounds_toArray, List.set_cons_succ, List.set_cons_zero]; rfl), ?_⟩; (go_simp; with_reducible rfl)) | (refine Cop.ogy_take rfl rfl HB3 (by kernel_rfl) ?_; apply Exists.intro; refine ⟨fun w9 h9 => ?_, _, by (simp only [Act.put, List.setIfInBounds_toArray, List.set_cons_succ, List.set_cons_zero]; rfl), ?_⟩; (obtain ⟨c0, c1, c2, c3, c4, c5, c6, c7⟩ := clm_cells HO.out HN.out (h9.row 0 rfl); go_simp; with_reducible rfl))))
        refine Cop.ogy_run rfl rfl ?_
        refine ow_apb (xs := []) H3 0 rfl rfl (H3.rd 7 rfl) rfl rfl y.length y (by omega) rfl (by have := HYL.out; omega) ?_
        intro u1 w23 H4 _
        obtain ⟨Ay1, cy1, rfl, _⟩ := (H4.own 0 rfl).sl
        have HB4 : Sep w.heap.size w w23 [.row g1 (clv m n older newer (.slice As1 s.length cs1) i (.slice Ax x.length cx) (.slice Ay y.length cy) (.slice Ap p.length cp) (.slice Aq q.length cq)) 37, .row g2 (clv 0 0 (List.replicate 32 0) (List.replicate 32 0) (.slice none 0 0) 0 (.slice none 0 0) (.slice none 0 0) (.slice none 0 0) (.slice none 0 0)) 37, .own (.slice As1 s.length cs1) 24 32 s.length (dcs s), .rd (.slice As s.length cs) s.length 32 (dcs s), .rd (.slice Ax x.length cx) x.length 1 (bl x), .rd (.slice Ay y.length cy) y.length 1 (bl y), .rd (.slice Ap p.length cp) p.length 32 (dcs p), .rd (.slice Aq q.length cq) q.length 32 (dcs q)] := H4.sub (by repeat (first | exact List.nil_sublist _ | exact List.Sublist.refl _ | apply List.Sublist.cons_cons | apply List.Sublist.cons))
        refine ⟨fun _ => HB4, ?_⟩
        (repeat (first | (refine Cop.ogy_skip rfl rfl _ (by (simp only [Act.put, List.setIfInBounds_toArray, List.set_cons_succ, List.set_cons_zero]; rfl)) ?_) | (refine Cop.ogy_pure rfl rfl ?_; apply Exists.intro; refine ⟨fun w9 => ?_, _, by (simp only [Act.put, List.setIfInBounds_toArray, List.set_cons_succ, List.set_cons_zero]; rfl), ?_⟩; (go_simp; with_reducible rfl)) | (refine Cop.ogy_take rfl rfl HB4 (by kernel_rfl) ?_; apply Exists.intro; refine ⟨fun w9 h9 => ?_, _, by (simp only [Act.put, List.setIfInBounds_toArray, List.set_cons_succ, List.set_cons_zero]; rfl), ?_⟩; (obtain ⟨c0, c1, c2, c3, c4, c5, c6, c7⟩ := clm_cells HO.out HN.out (h9.row 0 rfl); go_simp; with_reducible rfl))))
        refine Cop.ogy_run rfl rfl ?_
        refine ow_stc H4 2 rfl 22 _ _ rfl (by kernel_rfl) 68 (by rw [clv_size HO.out HN.out]; decide) rfl rfl rfl rfl ?_
        intro w24 H5
        rw [clv_set68 HO.out HN.out] at H5
        refine ⟨fun h => absurd h (by decide), ?_⟩
        (repeat (first | (refine Cop.ogy_skip rfl rfl _ (by (simp only [Act.put, List.setIfInBounds_toArray, List.set_cons_succ, List.set_cons_zero]; rfl)) ?_) | (refine Cop.ogy_pure rfl rfl ?_; apply Exists.intro; refine ⟨fun w9 => ?_, _, by (simp only [Act.put, List.setIfInBounds_toArray, List.set_cons_succ, List.set_cons_zero]; rfl), ?_⟩; (go_simp; with_reducible rfl)) | (refine Cop.ogy_take rfl rfl H5 (by kernel_rfl) ?_; apply Exists.intro; refine ⟨fun w9 h9 => ?_, _, by (simp only [Act.put, List.setIfInBounds_toArray, List.set_cons_succ, List.set_cons_zero]; rfl), ?_⟩; (go_simp; with_reducible rfl))))
        refine Cop.ogy_run rfl rfl ?_
        refine ow_stc H5 2 rfl 22 _ _ rfl (by kernel_rfl) 69 (by rw [clv_size HO.out HN.out]; decide) rfl rfl rfl rfl ?_
        intro w25 H6
        rw [clv_set69 HO.out HN.out] at H6
        refine ⟨fun h => absurd h (by decide), ?_⟩
        refine ogy_fin ?_
        go_wp2
        go_meet
        case rel => exact ⟨_, _, _, _, rfl, arr2 H6⟩
    · skip
      refine Cop.ogy_run rfl rfl ?_
      refine ow_bz H0 22 5 1 rfl Tryd.underlying22 (by kernel_rfl) ?_
      intro e1 w20 H1
      have HB1 : Sep w.heap.size w w20 [.row g1 (clv m n older newer (.slice As1 s.length cs1) i (.slice Ax x.length cx) (.slice Ay y.length cy) (.slice Ap p.length cp) (.slice Aq q.length cq)) 37, .row g2 (clv 0 0 (List.replicate 32 0) (List.replicate 32 0) (.slice none 0 0) 0 (.slice none 0 0) (.slice none 0 0) (.slice none 0 0) (.slice none 0 0)) 37, .own (.slice As1 s.length cs1) 24 32 s.length (dcs s), .rd (.slice As s.length cs) s.length 32 (dcs s), .rd (.slice Ax x.length cx) x.length 1 (bl x), .rd (.slice Ay y.length cy) y.length 1 (bl y), .rd (.slice Ap p.length cp) p.length 32 (dcs p), .rd (.slice Aq q.length cq) q.length 32 (dcs q)] := H1.sub (by repeat (first | exact List.nil_sublist _ | exact List.Sublist.refl _ | apply List.Sublist.cons_cons | apply List.Sublist.cons))
      refine ⟨fun _ => HB1, ?_⟩
      (repeat (first | (refine Cop.ogy_skip rfl rfl _ (by (simp only [Act.put, List.setIfInBounds_toArray, List.set_cons_succ, List.set_cons_zero]; rfl)) ?_) | (refine Cop.ogy_pure rfl rfl ?_; apply Exists.intro; refine ⟨fun w9 => ?_, _, by (simp only [Act.put, List.setIfInBounds_toArray, List.set_cons_succ, List.set_cons_zero]; rfl), ?_⟩; (go_simp; with_reducible rfl)) | (refine Cop.ogy_take rfl rfl HB1 (by kernel_rfl) ?_; apply Exists.intro; refine ⟨fun w9 h9 => ?_, _, by (simp only [Act.put, List.setIfInBounds_toArray, List.set_cons_succ, List.set_cons_zero]; rfl), ?_⟩; (obtain ⟨c0, c1, c2, c3, c4, c5, c6, c7⟩ := clm_cells HO.out HN.out (h9.row 0 rfl); go_simp; with_reducible rfl))))
      refine Cop.ogy_run rfl rfl ?_
      refine ow_bz H1 22 5 1 rfl Tryd.underlying22 (by kernel_rfl) ?_
      intro e0 w21 H2
      have HB2 : Sep w.heap.size w w21 [.row g1 (clv m n older newer (.slice As1 s.length cs1) i (.slice Ax x.length cx) (.slice Ay y.length cy) (.slice Ap p.length cp) (.slice Aq q.length cq)) 37, .row g2 (clv 0 0 (List.replicate 32 0) (List.replicate 32 0) (.slice none 0 0) 0 (.slice none 0 0) (.slice none 0 0) (.slice none 0 0) (.slice none 0 0)) 37, .own (.slice As1 s.length cs1) 24 32 s.length (dcs s), .rd (.slice As s.length cs) s.length 32 (dcs s), .rd (.slice Ax x.length cx) x.length 1 (bl x), .rd (.slice Ay y.length cy) y.length 1 (bl y), .rd (.slice Ap p.length cp) p.length 32 (dcs p), .rd (.slice Aq q.length cq) q.length 32 (dcs q)] := H2.sub (by repeat (first | exact List.nil_sublist _ | exact List.Sublist.refl _ | apply List.Sublist.cons_cons | apply List.Sublist.cons))
      refine ⟨fun _ => HB2, ?_⟩
      (repeat (first | (refine Cop.ogy_skip rfl rfl _ (by (simp only [Act.put, List.setIfInBounds_toArray, List.set_cons_succ, List.set_cons_zero]; rfl)) ?_) | (refine Cop.ogy_pure rfl rfl ?_; apply Exists.intro; refine ⟨fun w9 => ?_, _, by (simp only [Act.put, List.setIfInBounds_toArray, List.set_cons_succ, List.set_cons_zero]; rfl), ?_⟩; (go_simp; with_reducible rfl)) | (refine Cop.ogy_take rfl rfl HB2 (by kernel_rfl) ?_; apply Exists.intro; refine ⟨fun w9 h9 => ?_, _, by (simp only [Act.put, List.setIfInBounds_toArray, List.set_cons_succ, List.set_cons_zero]; rfl), ?_⟩; (obtain ⟨c0, c1, c2, c3, c4, c5, c6, c7⟩ := clm_cells HO.out HN.out (h9.row 0 rfl); go_simp; with_reducible rfl))))
      refine Cop.ogy_run rfl rfl ?_
      refine ow_apb (xs := []) H2 0 rfl rfl (H2.rd 6 rfl) rfl rfl x.length x (by omega) rfl (by have := HXL.out; omega) ?_
      intro u0 w22 H3 _
      obtain ⟨Ax1, cx1, rfl, _⟩ := (H3.own 0 rfl).sl
      have HB3 : Sep w.heap.size w w22 [.row g1 (clv m n older newer (.slice As1 s.length cs1) i (.slice Ax x.length cx) (.slice Ay y.length cy) (.slice Ap p.length cp) (.slice Aq q.length cq)) 37, .row g2 (clv 0 0 (List.replicate 32 0) (List.replicate 32 0) (.slice none 0 0) 0 (.slice none 0 0) (.slice none 0 0) (.slice none 0 0) (.slice none 0 0)) 37, .own (.slice As1 s.length cs1) 24 32 s.length (dcs s), .rd (.slice As s.length cs) s.length 32 (dcs s), .rd (.slice Ax x.length cx) x.length 1 (bl x), .rd (.slice Ay y.length cy) y.length 1 (bl y), .rd (.slice Ap p.length cp) p.length 32 (dcs p), .rd (.slice Aq q.length cq) q.length 32 (dcs q)] := H3.sub (by repeat (first | exact List.nil_sublist _ | exact List.Sublist.refl _ | apply List.Sublist.cons_cons | apply List.Sublist.cons))
      refine ⟨fun _ => HB3, ?_⟩
      (repeat (first | (refine Cop.ogy_skip rfl rfl _ (by (simp only [Act.put, List.setIfInBounds_toArray, List.set_cons_succ, List.set_cons_zero]; rfl)) ?_) | (refine Cop.ogy_pure rfl rfl ?_; apply Exists.intro; refine ⟨fun w9 => ?_, _, by (simp only [Act.put, List.setIfInBounds_toArray, List.set_cons_succ, List.set_cons_zero]; rfl), ?_⟩; (go_simp; with_reducible rfl)) | (refine Cop.ogy_take rfl rfl HB3 (by kernel_rfl) ?_; apply Exists.intro; refine ⟨fun w9 h9 => ?_, _, by (simp only [Act.put, List.setIfInBounds_toArray, List.set_cons_succ, List.set_cons_zero]; rfl), ?_⟩; (obtain ⟨c0, c1, c2, c3, c4, c5, c6, c7⟩ := clm_cells HO.out HN.out (h9.row 0 rfl); go_simp; with_reducible rfl))))
      refine Cop.ogy_run rfl rfl ?_
      refine ow_apb (xs := []) H3 1 rfl rfl (H3.rd 7 rfl) rfl rfl y.length y (by omega) rfl (by have := HYL.out; omega) ?_
      intro u1 w23 H4 _
      obtain ⟨Ay1, cy1, rfl, _⟩ := (H4.own 1 rfl).sl
      have HB4 : Sep w.heap.size w w23 [.row g1 (clv m n older newer (.slice As1 s.length cs1) i (.slice Ax x.length cx) (.slice Ay y.length cy) (.slice Ap p.length cp) (.slice Aq q.length cq)) 37, .row g2 (clv 0 0 (List.replicate 32 0) (List.replicate 32 0) (.slice none 0 0) 0 (.slice none 0 0) (.slice none 0 0) (.slice none 0 0) (.slice none 0 0)) 37, .own (.slice As1 s.length cs1) 24 32 s.length (dcs s), .rd (.slice As s.length cs) s.length 32 (dcs s), .rd (.slice Ax x.length cx) x.length 1 (bl x), .rd (.slice Ay y.length cy) y.length 1 (bl y), .rd (.slice Ap p.length cp) p.length 32 (dcs p), .rd (.slice Aq q.length cq) q.length 32 (dcs q)] := H4.sub (by repeat (first | exact List.nil_sublist _ | exact List.Sublist.refl _ | apply List.Sublist.cons_cons | apply List.Sublist.cons))
      refine ⟨fun _ => HB4, ?_⟩
      (repeat (first | (refine Cop.ogy_skip rfl rfl _ (by (simp only [Act.put, List.setIfInBounds_toArray, List.set_cons_succ, List.set_cons_zero]; rfl)) ?_) | (refine Cop.ogy_pure rfl rfl ?_; apply Exists.intro; refine ⟨fun w9 => ?_, _, by (simp only [Act.put, List.setIfInBounds_toArray, List.set_cons_succ, List.set_cons_zero]; rfl), ?_⟩; (go_simp; with_reducible rfl)) | (refine Cop.ogy_take rfl rfl HB4 (by kernel_rfl) ?_; apply Exists.intro; refine ⟨fun w9 h9 => ?_, _, by (simp only [Act.put, List.setIfInBounds_toArray, List.set_cons_succ, List.set_cons_zero]; rfl), ?_⟩; (obtain ⟨c0, c1, c2, c3, c4, c5, c6, c7⟩ := clm_cells HO.out HN.out (h9.row 0 rfl); go_simp; with_reducible rfl))))
      refine Cop.ogy_run rfl rfl ?_
      refine ow_stc H4 2 rfl 22 _ _ rfl (by kernel_rfl) 68 (by rw [clv_size HO.out HN.out]; decide) rfl rfl rfl rfl ?_
      intro w24 H5
      rw [clv_set68 HO.out HN.out] at H5
      refine ⟨fun h => absurd h (by decide), ?_⟩
      (repeat (first | (refine Cop.ogy_skip rfl rfl _ (by (simp only [Act.put, List.setIfInBounds_toArray, List.set_cons_succ, List.set_cons_zero]; rfl)) ?_) | (refine Cop.ogy_pure rfl rfl ?_; apply Exists.intro; refine ⟨fun w9 => ?_, _, by (simp only [Act.put, List.setIfInBounds_toArray, List.set_cons_succ, List.set_cons_zero]; rfl), ?_⟩; (go_simp; with_reducible rfl)) | (refine Cop.ogy_take rfl rfl H5 (by kernel_rfl) ?_; apply Exists.intro; refine ⟨fun w9 h9 => ?_, _, by (simp only [Act.put, List.setIfInBounds_toArray, List.set_cons_succ, List.set_cons_zero]; rfl), ?_⟩; (go_simp; with_reducible rfl))))
      refine Cop.ogy_run rfl rfl ?_
      refine ow_stc H5 2 rfl 22 _ _ rfl (by kernel_rfl) 69 (by rw [clv_size HO.out HN.out]; decide) rfl rfl rfl rfl ?_
      intro w25 H6
      rw [clv_set69 HO.out HN.out] at H6
      refine ⟨fun h => absurd h (by decide), ?_⟩
      refine ogy_fin ?_
      go_wp2
      go_meet
      case rel => exact ⟨_, _, _, _, rfl, arr1 H6⟩
  obtain ⟨Ax1, Ay1, cx1, cy1, rfl, HS⟩ := hcut
  go_upto_region 3 with fail
  go_cut [27] (fun s27 wx => ∃ (Ap1 Aq1 : Option Addr) (cp1 cq1 : Nat), s27 = .pointer (some ⟨g1, 71, none⟩) ∧ Sep w.heap.size w wx [.row g1 (clv m n older newer (.slice As1 s.length cs1) i (.slice Ax1 x.length cx1) (.slice Ay1 y.length cy1) (.slice Ap1 p.length cp1) (.slice Aq1 q.length cq1)) 37, .row g2 (clv 0 0 (List.replicate 32 0) (List.replicate 32 0) (.slice none 0 0) 0 (.slice none 0 0) (.slice none 0 0) (.slice none 0 0) (.slice none 0 0)) 37, .own (.slice Ap1 p.length cp1) 24 32 p.length (dcs p), .own (.slice Aq1 q.length cq1) 24 32 q.length (dcs q), .own (.slice Ax1 x.length cx1) 5 1 x.length (bl x), .own (.slice Ay1 y.length cy1) 5 1 y.length (bl y), .own (.slice As1 s.length cs1) 24 32 s.length (dcs s), .rd (.slice As s.length cs) s.length 32 (dcs s), .rd (.slice Ax x.length cx) x.length 1 (bl x), .rd (.slice Ay y.length cy) y.length 1 (bl y), .rd (.slice Ap p.length cp) p.length 32 (dcs p), .rd (.slice Aq q.length cq) q.length 32 (dcs q)])
  case first =>
    refine Cop.region_ordy (fun w' => Sep w.heap.size w w' [.row g1 (clv m n older newer (.slice As1 s.length cs1) i (.slice Ax1 x.length cx1) (.slice Ay1 y.length cy1) (.slice Ap p.length cp) (.slice Aq q.length cq)) 37, .row g2 (clv 0 0 (List.replicate 32 0) (List.replicate 32 0) (.slice none 0 0) 0 (.slice none 0 0) (.slice none 0 0) (.slice none 0 0) (.slice none 0 0)) 37, .own (.slice Ax1 x.length cx1) 5 1 x.length (bl x), .own (.slice Ay1 y.length cy1) 5 1 y.length (bl y), .own (.slice As1 s.length cs1) 24 32 s.length (dcs s), .rd (.slice As s.length cs) s.length 32 (dcs s), .rd (.slice Ax x.length cx) x.length 1 (bl x), .rd (.slice Ay y.length cy) y.length 1 (bl y), .rd (.slice Ap p.length cp) p.length 32 (dcs p), .rd (.slice Aq q.length cq) q.length 32 (dcs q)]) 9 (.take 1 (.take 2 (.take 5 (.take 6 (.run2 0 (.run2 3 (.take 8 (.run 4 (.run 7 (.run 9 (.take 10 (.run 11 Cop.Ord.fin)))))) 4 (.run 3 (.take 8 (.run 7 (.run 9 (.take 10 (.run 11 Cop.Ord.fin))))))) 4 (.run 0 (.run 3 (.take 8 (.run 7 (.run 9 (.take 10 (.run 11 Cop.Ord.fin)))))))))))) (by kernel_rfl) (by kernel_rfl) (fun _ _ d _ _ h => by cases d <;> exact h) ?_
    intro wa hda
    have H0 := HS.keep hda
    clear HS
    (repeat (first | (refine Cop.ogy_skip rfl rfl _ (by (simp only [Act.put, List.setIfInBounds_toArray, List.set_cons_succ, List.set_cons_zero]; rfl)) ?_) | (refine Cop.ogy_pure rfl rfl ?_; apply Exists.intro; refine ⟨fun w9 => ?_, _, by (simp only [Act.put, List.setIfInBounds_toArray, List.set_cons_succ, List.set_cons_zero]; rfl), ?_⟩; (go_simp; with_reducible rfl)) | (refine Cop.ogy_take rfl rfl H0 (by kernel_rfl) ?_; apply Exists.intro; refine ⟨fun w9 h9 => ?_, _, by (simp only [Act.put, List.setIfInBounds_toArray, List.set_cons_succ, List.set_cons_zero]; rfl), ?_⟩; (obtain ⟨c0, c1, c2, c3, c4, c5, c6, c7⟩ := clm_cells HO.out HN.out (h9.row 0 rfl); go_simp; with_reducible rfl))))
    refine Cop.ogy_run2 ?_ ?_
    · skip
      refine Cop.ogy_run rfl rfl ?_
      refine ow_bz H0 28 24 32 rfl Tryd.underlying28 (by kernel_rfl) ?_
      intro e0 w20 H1
      have HB1 : Sep w.heap.size w w20 [.row g1 (clv m n older newer (.slice As1 s.length cs1) i (.slice Ax1 x.length cx1) (.slice Ay1 y.length cy1) (.slice Ap p.length cp) (.slice Aq q.length cq)) 37, .row g2 (clv 0 0 (List.replicate 32 0) (List.replicate 32 0) (.slice none 0 0) 0 (.slice none 0 0) (.slice none 0 0) (.slice none 0 0) (.slice none 0 0)) 37, .own (.slice Ax1 x.length cx1) 5 1 x.length (bl x), .own (.slice Ay1 y.length cy1) 5 1 y.length (bl y), .own (.slice As1 s.length cs1) 24 32 s.length (dcs s), .rd (.slice As s.length cs) s.length 32 (dcs s), .rd (.slice Ax x.length cx) x.length 1 (bl x), .rd (.slice Ay y.length cy) y.length 1 (bl y), .rd (.slice Ap p.length cp) p.length 32 (dcs p), .rd (.slice Aq q.length cq) q.length 32 (dcs q)] := H1.sub (by repeat (first | exact List.nil_sublist _ | exact List.Sublist.refl _ | apply List.Sublist.cons_cons | apply List.Sublist.cons))
      refine ⟨fun _ => HB1, ?_⟩
      (repeat (first | (refine Cop.ogy_skip rfl rfl _ (by (simp only [Act.put, List.setIfInBounds_toArray, List.set_cons_succ, List.set_cons_zero]; rfl)) ?_) | (refine Cop.ogy_pure rfl rfl ?_; apply Exists.intro; refine ⟨fun w9 => ?_, _, by (simp only [Act.put, List.setIfInBounds_toArray, List.set_cons_succ, List.set_cons_zero]; rfl), ?_⟩; (go_simp; with_reducible rfl)) | (refine Cop.ogy_take rfl rfl HB1 (by kernel_rfl) ?_; apply Exists.intro; refine ⟨fun w9 h9 => ?_, _, by (simp only [Act.put, List.setIfInBounds_toArray, List.set_cons_succ, List.set_cons_zero]; rfl), ?_⟩; (obtain ⟨c0, c1, c2, c3, c4, c5, c6, c7⟩ := clm_cells HO.out HN.out (h9.row 0 rfl); go_simp; with_reducible rfl))))
      refine Cop.ogy_run2 ?_ ?_
      · skip
        refine Cop.ogy_run rfl rfl ?_
        refine ow_apd9 (p := []) H1 0 rfl rfl (H1.rd 9 rfl) rfl rfl p.length p (by omega) rfl (by have := HPL.out; omega) ?_
        intro u0 w21 H2
        obtain ⟨Ap1, cp1, rfl, _⟩ := (H2.own 0 rfl).sl
        have HB2 : Sep w.heap.size w w21 [.row g1 (clv m n older newer (.slice As1 s.length cs1) i (.slice Ax1 x.length cx1) (.slice Ay1 y.length cy1) (.slice Ap p.length cp) (.slice Aq q.length cq)) 37, .row g2 (clv 0 0 (List.replicate 32 0) (List.replicate 32 0) (.slice none 0 0) 0 (.slice none 0 0) (.slice none 0 0) (.slice none 0 0) (.slice none 0 0)) 37, .own (.slice Ax1 x.length cx1) 5 1 x.length (bl x), .own (.slice Ay1 y.length cy1) 5 1 y.length (bl y), .own (.slice As1 s.length cs1) 24 32 s.length (dcs s), .rd (.slice As s.length cs) s.length 32 (dcs s), .rd (.slice Ax x.length cx) x.length 1 (bl x), .rd (.slice Ay y.length cy) y.length 1 (bl y), .rd (.slice Ap p.length cp) p.length 32 (dcs p), .rd (.slice Aq q.length cq) q.length 32 (dcs q)] := H2.sub (by repeat (first | exact List.nil_sublist _ | exact List.Sublist.refl _ | apply List.Sublist.cons_cons | apply List.Sublist.cons))
        refine ⟨fun _ => HB2, ?_⟩
        (repeat (first | (refine Cop.ogy_skip rfl rfl _ (by (simp only [Act.put, List.setIfInBounds_toArray, List.set_cons_succ, List.set_cons_zero]; rfl)) ?_) | (refine Cop.ogy_pure rfl rfl ?_; apply Exists.intro; refine ⟨fun w9 => ?_, _, by (simp only [Act.put, List.setIfInBounds_toArray, List.set_cons_succ, List.set_cons_zero]; rfl), ?_⟩; (go_simp; with_reducible rfl)) | (refine Cop.ogy_take rfl rfl HB2 (by kernel_rfl) ?_; apply Exists.intro; refine ⟨fun w9 h9 => ?_, _, by (simp only [Act.put, List.setIfInBounds_toArray, List.set_cons_succ, List.set_cons_zero]; rfl), ?_⟩; (obtain ⟨c0, c1, c2, c3, c4, c5, c6, c7⟩ := clm_cells HO.out HN.out (h9.row 0 rfl); go_simp; with_reducible rfl))))
        refine Cop.ogy_run rfl rfl ?_
        refine ow_bz H2 28 24 32 rfl Tryd.underlying28 (by kernel_rfl) ?_
        intro e1 w22 H3
        have HB3 : Sep w.heap.size w w22 [.row g1 (clv m n older newer (.slice As1 s.length cs1) i (.slice Ax1 x.length cx1) (.slice Ay1 y.length cy1) (.slice Ap p.length cp) (.slice Aq q.length cq)) 37, .row g2 (clv 0 0 (List.replicate 32 0) (List.replicate 32 0) (.slice none 0 0) 0 (.slice none 0 0) (.slice none 0 0) (.slice none 0 0) (.slice none 0 0)) 37, .own (.slice Ax1 x.length cx1) 5 1 x.length (bl x), .own (.slice Ay1 y.length cy1) 5 1 y.length (bl y), .own (.slice As1 s.length cs1) 24 32 s.length (dcs s), .rd (.slice As s.length cs) s.length 32 (dcs s), .rd (.slice Ax x.length cx) x.length 1 (bl x), .rd (.slice Ay y.length cy) y.length 1 (bl y), .rd (.slice Ap p.length cp) p.length 32 (dcs p), .rd (.slice Aq q.length cq) q.length 32 (dcs q)] := H3.sub (by repeat (first | exact List.nil_sublist _ | exact List.Sublist.refl _ | apply List.Sublist.cons_cons | apply List.Sublist.cons))
        refine ⟨fun _ => HB3, ?_⟩
        (repeat (first | (refine Cop.ogy_skip rfl rfl _ (by (simp only [Act.put, List.setIfInBounds_toArray, List.set_cons_succ, List.set_cons_zero]; rfl)) ?_) | (refine Cop.ogy_pure rfl rfl ?_; apply Exists.intro; refine ⟨fun w9 => ?_, _, by (simp only [Act.put, List.setIfInBounds_toArray, List.set_cons_succ, List.set_cons_zero]; rfl), ?_⟩; (go_simp; with_reducible rfl)) | (refine Cop.ogy_take rfl rfl HB3 (by kernel_rfl) ?_; apply Exists.intro; refine ⟨fun w9 h9 => ?_, _, by (simp only [Act.put, List.setIfInBounds_toArray, List.set_cons_succ, List.set_cons_zero]; rfl), ?_⟩; (obtain ⟨c0, c1, c2, c3, c4, c5, c6, c7⟩ := clm_cells HO.out HN.out (h9.row 0 rfl); go_simp; with_reducible rfl))))
        refine Cop.ogy_run rfl rfl ?_
        refine ow_apd9 (p := []) H3 0 rfl rfl (H3.rd 11 rfl) rfl rfl q.length q (by omega) rfl (by have := HQL.out; omega) ?_
        intro u1 w23 H4
        obtain ⟨Aq1, cq1, rfl, _⟩ := (H4.own 0 rfl).sl
        have HB4 : Sep w.heap.size w w23 [.row g1 (clv m n older newer (.slice As1 s.length cs1) i (.slice Ax1 x.length cx1) (.slice Ay1 y.length cy1) (.slice Ap p.length cp) (.slice Aq q.length cq)) 37, .row g2 (clv 0 0 (List.replicate 32 0) (List.replicate 32 0) (.slice none 0 0) 0 (.slice none 0 0) (.slice none 0 0) (.slice none 0 0) (.slice none 0 0)) 37, .own (.slice Ax1 x.length cx1) 5 1 x.length (bl x), .own (.slice Ay1 y.length cy1) 5 1 y.length (bl y), .own (.slice As1 s.length cs1) 24 32 s.length (dcs s), .rd (.slice As s.length cs) s.length 32 (dcs s), .rd (.slice Ax x.length cx) x.length 1 (bl x), .rd (.slice Ay y.length cy) y.length 1 (bl y), .rd (.slice Ap p.length cp) p.length 32 (dcs p), .rd (.slice Aq q.length cq) q.length 32 (dcs q)] := H4.sub (by repeat (first | exact List.nil_sublist _ | exact List.Sublist.refl _ | apply List.Sublist.cons_cons | apply List.Sublist.cons))
        refine ⟨fun _ => HB4, ?_⟩
        (repeat (first | (refine Cop.ogy_skip rfl rfl _ (by (simp only [Act.put, List.setIfInBounds_toArray, List.set_cons_succ, List.set_cons_zero]; rfl)) ?_) | (refine Cop.ogy_pure rfl rfl ?_; apply Exists.intro; refine ⟨fun w9 => ?_, _, by (simp only [Act.put, List.setIfInBounds_toArray, List.set_cons_succ, List.set_cons_zero]; rfl), ?_⟩; (go_simp; with_reducible rfl)) | (refine Cop.ogy_take rfl rfl HB4 (by kernel_rfl) ?_; apply Exists.intro; refine ⟨fun w9 h9 => ?_, _, by (simp only [Act.put, List.setIfInBounds_toArray, List.set_cons_succ, List.set_cons_zero]; rfl), ?_⟩; (obtain ⟨c0, c1, c2, c3, c4, c5, c6, c7⟩ := clm_cells HO.out HN.out (h9.row 0 rfl); go_simp; with_reducible rfl))))
        refine Cop.ogy_run rfl rfl ?_
        refine ow_stc H4 2 rfl 28 _ _ rfl (by kernel_rfl) 70 (by rw [clv_size HO.out HN.out]; decide) rfl rfl rfl rfl ?_
        intro w24 H5
        rw [clv_set70 HO.out HN.out] at H5
        refine ⟨fun h => absurd h (by decide), ?_⟩
        (repeat (first | (refine Cop.ogy_skip rfl rfl _ (by (simp only [Act.put, List.setIfInBounds_toArray, List.set_cons_succ, List.set_cons_zero]; rfl)) ?_) | (refine Cop.ogy_pure rfl rfl ?_; apply Exists.intro; refine ⟨fun w9 => ?_, _, by (simp only [Act.put, List.setIfInBounds_toArray, List.set_cons_succ, List.set_cons_zero]; rfl), ?_⟩; (go_simp; with_reducible rfl)) | (refine Cop.ogy_take rfl rfl H5 (by kernel_rfl) ?_; apply Exists.intro; refine ⟨fun w9 h9 => ?_, _, by (simp only [Act.put, List.setIfInBounds_toArray, List.set_cons_succ, List.set_cons_zero]; rfl), ?_⟩; (go_simp; with_reducible rfl))))
        refine Cop.ogy_run rfl rfl ?_
        refine ow_stc H5 2 rfl 28 _ _ rfl (by kernel_rfl) 71 (by rw [clv_size HO.out HN.out]; decide) rfl rfl rfl rfl ?_
        intro w25 H6
        rw [clv_set71 HO.out HN.out] at H6
        refine ⟨fun h => absurd h (by decide), ?_⟩
        refine ogy_fin ?_
        go_wp2
        go_meet
        case rel => exact ⟨_, _, _, _, rfl, arr2 H6⟩
      · skip
        refine Cop.ogy_run rfl rfl ?_
        refine ow_bz H1 28 24 32 rfl Tryd.underlying28 (by kernel_rfl) ?_
        intro e1 w21 H2
        have HB2 : Sep w.heap.size w w21 [.row g1 (clv m n older newer (.slice As1 s.length cs1) i (.slice Ax1 x.length cx1) (.slice Ay1 y.length cy1) (.slice Ap p.length cp) (.slice Aq q.length cq)) 37, .row g2 (clv 0 0 (List.replicate 32 0) (List.replicate 32 0) (.slice none 0 0) 0 (.slice none 0 0) (.slice none 0 0) (.slice none 0 0) (.slice none 0 0)) 37, .own (.slice Ax1 x.length cx1) 5 1 x.length (bl x), .own (.slice Ay1 y.length cy1) 5 1 y.length (bl y), .own (.slice As1 s.length cs1) 24 32 s.length (dcs s), .rd (.slice As s.length cs) s.length 32 (dcs s), .rd (.slice Ax x.length cx) x.length 1 (bl x), .rd (.slice Ay y.length cy) y.length 1 (bl y), .rd (.slice Ap p.length cp) p.length 32 (dcs p), .rd (.slice Aq q.length cq) q.length 32 (dcs q)] := H2.sub (by repeat (first | exact List.nil_sublist _ | exact List.Sublist.refl _ | apply List.Sublist.cons_cons | apply List.Sublist.cons))
        refine ⟨fun _ => HB2, ?_⟩
        (repeat (first | (refine Cop.ogy_skip rfl rfl _ (by (simp only [Act.put, List.setIfInBounds_toArray, List.set_cons_succ, List.set_cons_zero]; rfl)) ?_) | (refine Cop.ogy_pure rfl rfl ?_; apply Exists.intro; refine ⟨fun w9 => ?_, _, by (simp only [Act.put, List.setIfInBounds_toArray, List.set_cons_succ, List.set_cons_zero]; rfl), ?_⟩; (go_simp; with_reducible rfl)) | (refine Cop.ogy_take rfl rfl HB2 (by kernel_rfl) ?_; apply Exists.intro; refine ⟨fun w9 h9 => ?_, _, by (simp only [Act.put, List.setIfInBounds_toArray, List.set_cons_succ, List.set_cons_zero]; rfl), ?_⟩; (obtain ⟨c0, c1, c2, c3, c4, c5, c6, c7⟩ := clm_cells HO.out HN.out (h9.row 0 rfl); go_simp; with_reducible rfl))))
        refine Cop.ogy_run rfl rfl ?_
        refine ow_apd9 (p := []) H2 1 rfl rfl (H2.rd 10 rfl) rfl rfl p.length p (by omega) rfl (by have := HPL.out; omega) ?_
        intro u0 w22 H3
        obtain ⟨Ap1, cp1, rfl, _⟩ := (H3.own 1 rfl).sl
        have HB3 : Sep w.heap.size w w22 [.row g1 (clv m n older newer (.slice As1 s.length cs1) i (.slice Ax1 x.length cx1) (.slice Ay1 y.length cy1) (.slice Ap p.length cp) (.slice Aq q.length cq)) 37, .row g2 (clv 0 0 (List.replicate 32 0) (List.replicate 32 0) (.slice none 0 0) 0 (.slice none 0 0) (.slice none 0 0) (.slice none 0 0) (.slice none 0 0)) 37, .own (.slice Ax1 x.length cx1) 5 1 x.length (bl x), .own (.slice Ay1 y.length cy1) 5 1 y.length (bl y), .own (.slice As1 s.length cs1) 24 32 s.length (dcs s), .rd (.slice As s.length cs) s.length 32 (dcs s), .rd (.slice Ax x.length cx) x.length 1 (bl x), .rd (.slice Ay y.length cy) y.length 1 (bl y), .rd (.slice Ap p.length cp) p.length 32 (dcs p), .rd (.slice Aq q.length cq) q.length 32 (dcs q)] := H3.sub (by repeat (first | exact List.nil_sublist _ | exact List.Sublist.refl _ | apply List.Sublist.cons_cons | apply List.Sublist.cons))
        refine ⟨fun _ => HB3, ?_⟩
        (repeat (first | (refine Cop.ogy_skip rfl rfl _ (by (simp only [Act.put, List.setIfInBounds_toArray, List.set_cons_succ, List.set_cons_zero]; rfl)) ?_) | (refine Cop.ogy_pure rfl rfl ?_; apply Exists.intro; refine ⟨fun w9 => ?_, _, by (simp only [Act.put, List.setIfInBounds_toArray, List.set_cons_succ, List.set_cons_zero]; rfl), ?_⟩; (go_simp; with_reducible rfl)) | (refine Cop.ogy_take rfl rfl HB3 (by kernel_rfl) ?_; apply Exists.intro; refine ⟨fun w9 h9 => ?_, _, by (simp only [Act.put, List.setIfInBounds_toArray, List.set_cons_succ, List.set_cons_zero]; rfl), ?_⟩; (obtain ⟨c0, c1, c2, c3, c4, c5, c6, c7⟩ := clm_cells HO.out HN.out (h9.row 0 rfl); go_simp; with_reducible rfl))))
        refine Cop.ogy_run rfl rfl ?_
        refine ow_apd9 (p := []) H3 0 rfl rfl (H3.rd 11 rfl) rfl rfl q.length q (by omega) rfl (by have := HQL.out; omega) ?_
        intro u1 w23 H4
        obtain ⟨Aq1, cq1, rfl, _⟩ := (H4.own 0 rfl).sl
        have HB4 : Sep w.heap.size w w23 [.row g1 (clv m n older newer (.slice As1 s.length cs1) i (.slice Ax1 x.length cx1) (.slice Ay1 y.length cy1) (.slice Ap p.length cp) (.slice Aq q.length cq)) 37, .row g2 (clv 0 0 (List.replicate 32 0) (List.replicate 32 0) (.slice none 0 0) 0 (.slice none 0 0) (.slice none 0 0) (.slice none 0 0) (.slice none 0 0)) 37, .own (.slice Ax1 x.length cx1) 5 1 x.length (bl x), .own (.slice Ay1 y.length cy1) 5 1 y.length (bl y), .own (.slice As1 s.length cs1) 24 32 s.length (dcs s), .rd (.slice As s.length cs) s.length 32 (dcs s), .rd (.slice Ax x.length cx) x.length 1 (bl x), .rd (.slice Ay y.length cy) y.length 1 (bl y), .rd (.slice Ap p.length cp) p.length 32 (dcs p), .rd (.slice Aq q.length cq) q.length 32 (dcs q)] := H4.sub (by repeat (first | exact List.nil_sublist _ | exact List.Sublist.refl _ | apply List.Sublist.cons_cons | apply List.Sublist.cons))
        refine ⟨fun _ => HB4, ?_⟩
        (repeat (first | (refine Cop.ogy_skip rfl rfl _ (by (simp only [Act.put, List.setIfInBounds_toArray, List.set_cons_succ, List.set_cons_zero]; rfl)) ?_) | (refine Cop.ogy_pure rfl rfl ?_; apply Exists.intro; refine ⟨fun w9 => ?_, _, by (simp only [Act.put, List.setIfInBounds_toArray, List.set_cons_succ, List.set_cons_zero]; rfl), ?_⟩; (go_simp; with_reducible rfl)) | (refine Cop.ogy_take rfl rfl HB4 (by kernel_rfl) ?_; apply Exists.intro; refine ⟨fun w9 h9 => ?_, _, by (simp only [Act.put, List.setIfInBounds_toArray, List.set_cons_succ, List.set_cons_zero]; rfl), ?_⟩; (obtain ⟨c0, c1, c2, c3, c4, c5, c6, c7⟩ := clm_cells HO.out HN.out (h9.row 0 rfl); go_simp; with_reducible rfl))))
        refine Cop.ogy_run rfl rfl ?_
        refine ow_stc H4 2 rfl 28 _ _ rfl (by kernel_rfl) 70 (by rw [clv_size HO.out HN.out]; decide) rfl rfl rfl rfl ?_
        intro w24 H5
        rw [clv_set70 HO.out HN.out] at H5
        refine ⟨fun h => absurd h (by decide), ?_⟩
        (repeat (first | (refine Cop.ogy_skip rfl rfl _ (by (simp only [Act.put, List.setIfInBounds_toArray, List.set_cons_succ, List.set_cons_zero]; rfl)) ?_) | (refine Cop.ogy_pure rfl rfl ?_; apply Exists.intro; refine ⟨fun w9 => ?_, _, by (simp only [Act.put, List.setIfInBounds_toArray, List.set_cons_succ, List.set_cons_zero]; rfl), ?_⟩; (go_simp; with_reducible rfl)) | (refine Cop.ogy_take rfl rfl H5 (by kernel_rfl) ?_; apply Exists.intro; refine ⟨fun w9 h9 => ?_, _, by (simp only [Act.put, List.setIfInBounds_toArray, List.set_cons_succ, List.set_cons_zero]; rfl), ?_⟩; (go_simp; with_reducible rfl))))
        refine Cop.ogy_run rfl rfl ?_
        refine ow_stc H5 2 rfl 28 _ _ rfl (by kernel_rfl) 71 (by rw [clv_size HO.out HN.out]; decide) rfl rfl rfl rfl ?_
        intro w25 H6
        rw [clv_set71 HO.out HN.out] at H6
        refine ⟨fun h => absurd h (by decide), ?_⟩
        refine ogy_fin ?_
        go_wp2
        go_meet
        case rel => exact ⟨_, _, _, _, rfl, arr2 H6⟩
    · skip
      refine Cop.ogy_run rfl rfl ?_
      refine ow_bz H0 28 24 32 rfl Tryd.underlying28 (by kernel_rfl) ?_
      intro e1 w20 H1
      have HB1 : Sep w.heap.size w w20 [.row g1 (clv m n older newer (.slice As1 s.length cs1) i (.slice Ax1 x.length cx1) (.slice Ay1 y.length cy1) (.slice Ap p.length cp) (.slice Aq q.length cq)) 37, .row g2 (clv 0 0 (List.replicate 32 0) (List.replicate 32 0) (.slice none 0 0) 0 (.slice none 0 0) (.slice none 0 0) (.slice none 0 0) (.slice none 0 0)) 37, .own (.slice Ax1 x.length cx1) 5 1 x.length (bl x), .own (.slice Ay1 y.length cy1) 5 1 y.length (bl y), .own (.slice As1 s.length cs1) 24 32 s.length (dcs s), .rd (.slice As s.length cs) s.length 32 (dcs s), .rd (.slice Ax x.length cx) x.length 1 (bl x), .rd (.slice Ay y.length cy) y.length 1 (bl y), .rd (.slice Ap p.length cp) p.length 32 (dcs p), .rd (.slice Aq q.length cq) q.length 32 (dcs q)] := H1.sub (by repeat (first | exact List.nil_sublist _ | exact List.Sublist.refl _ | apply List.Sublist.cons_cons | apply List.Sublist.cons))
      refine ⟨fun _ => HB1, ?_⟩
      (repeat (first | (refine Cop.ogy_skip rfl rfl _ (by (simp only [Act.put, List.setIfInBounds_toArray, List.set_cons_succ, List.set_cons_zero]; rfl)) ?_) | (refine Cop.ogy_pure rfl rfl ?_; apply Exists.intro; refine ⟨fun w9 => ?_, _, by (simp only [Act.put, List.setIfInBounds_toArray, List.set_cons_succ, List.set_cons_zero]; rfl), ?_⟩; (go_simp; with_reducible rfl)) | (refine Cop.ogy_take rfl rfl HB1 (by kernel_rfl) ?_; apply Exists.intro; refine ⟨fun w9 h9 => ?_, _, by (simp only [Act.put, List.setIfInBounds_toArray, List.set_cons_succ, List.set_cons_zero]; rfl), ?_⟩; (obtain ⟨c0, c1, c2, c3, c4, c5, c6, c7⟩ := clm_cells HO.out HN.out (h9.row 0 rfl); go_simp; with_reducible rfl))))
      refine Cop.ogy_run rfl rfl ?_
      refine ow_bz H1 28 24 32 rfl Tryd.underlying28 (by kernel_rfl) ?_
      intro e0 w21 H2
      have HB2 : Sep w.heap.size w w21 [.row g1 (clv m n older newer (.slice As1 s.length cs1) i (.slice Ax1 x.length cx1) (.slice Ay1 y.length cy1) (.slice Ap p.length cp) (.slice Aq q.length cq)) 37, .row g2 (clv 0 0 (List.replicate 32 0) (List.replicate 32 0) (.slice none 0 0) 0 (.slice none 0 0) (.slice none 0 0) (.slice none 0 0) (.slice none 0 0)) 37, .own (.slice Ax1 x.length cx1) 5 1 x.length (bl x), .own (.slice Ay1 y.length cy1) 5 1 y.length (bl y), .own (.slice As1 s.length cs1) 24 32 s.length (dcs s), .rd (.slice As s.length cs) s.length 32 (dcs s), .rd (.slice Ax x.length cx) x.length 1 (bl x), .rd (.slice Ay y.length cy) y.length 1 (bl y), .rd (.slice Ap p.length cp) p.length 32 (dcs p), .rd (.slice Aq q.length cq) q.length 32 (dcs q)] := H2.sub (by repeat (first | exact List.nil_sublist _ | exact List.Sublist.refl _ | apply List.Sublist.cons_cons | apply List.Sublist.cons))
      refine ⟨fun _ => HB2, ?_⟩
      (repeat (first | (refine Cop.ogy_skip rfl rfl _ (by (simp only [Act.put, List.setIfInBounds_toArray, List.set_cons_succ, List.set_cons_zero]; rfl)) ?_) | (refine Cop.ogy_pure rfl rfl ?_; apply Exists.intro; refine ⟨fun w9 => ?_, _, by (simp only [Act.put, List.setIfInBounds_toArray, List.set_cons_succ, List.set_cons_zero]; rfl), ?_⟩; (go_simp; with_reducible rfl)) | (refine Cop.ogy_take rfl rfl HB2 (by kernel_rfl) ?_; apply Exists.intro; refine ⟨fun w9 h9 => ?_, _, by (simp only [Act.put, List.setIfInBounds_toArray, List.set_cons_succ, List.set_cons_zero]; rfl), ?_⟩; (obtain ⟨c0, c1, c2, c3, c4, c5, c6, c7⟩ := clm_cells HO.out HN.out (h9.row 0 rfl); go_simp; with_reducible rfl))))
      refine Cop.ogy_run rfl rfl ?_
      refine ow_apd9 (p := []) H2 0 rfl rfl (H2.rd 10 rfl) rfl rfl p.length p (by omega) rfl (by have := HPL.out; omega) ?_
      intro u0 w22 H3
      obtain ⟨Ap1, cp1, rfl, _⟩ := (H3.own 0 rfl).sl
      have HB3 : Sep w.heap.size w w22 [.row g1 (clv m n older newer (.slice As1 s.length cs1) i (.slice Ax1 x.length cx1) (.slice Ay1 y.length cy1) (.slice Ap p.length cp) (.slice Aq q.length cq)) 37, .row g2 (clv 0 0 (List.replicate 32 0) (List.replicate 32 0) (.slice none 0 0) 0 (.slice none 0 0) (.slice none 0 0) (.slice none 0 0) (.slice none 0 0)) 37, .own (.slice Ax1 x.length cx1) 5 1 x.length (bl x), .own (.slice Ay1 y.length cy1) 5 1 y.length (bl y), .own (.slice As1 s.length cs1) 24 32 s.length (dcs s), .rd (.slice As s.length cs) s.length 32 (dcs s), .rd (.slice Ax x.length cx) x.length 1 (bl x), .rd (.slice Ay y.length cy) y.length 1 (bl y), .rd (.slice Ap p.length cp) p.length 32 (dcs p), .rd (.slice Aq q.length cq) q.length 32 (dcs q)] := H3.sub (by repeat (first | exact List.nil_sublist _ | exact List.Sublist.refl _ | apply List.Sublist.cons_cons | apply List.Sublist.cons))
      refine ⟨fun _ => HB3, ?_⟩
      (repeat (first | (refine Cop.ogy_skip rfl rfl _ (by (simp only [Act.put, List.setIfInBounds_toArray, List.set_cons_succ, List.set_cons_zero]; rfl)) ?_) | (refine Cop.ogy_pure rfl rfl ?_; apply Exists.intro; refine ⟨fun w9 => ?_, _, by (simp only [Act.put, List.setIfInBounds_toArray, List.set_cons_succ, List.set_cons_zero]; rfl), ?_⟩; (go_simp; with_reducible rfl)) | (refine Cop.ogy_take rfl rfl HB3 (by kernel_rfl) ?_; apply Exists.intro; refine ⟨fun w9 h9 => ?_, _, by (simp only [Act.put, List.setIfInBounds_toArray, List.set_cons_succ, List.set_cons_zero]; rfl), ?_⟩; (obtain ⟨c0, c1, c2, c3, c4, c5, c6, c7⟩ := clm_cells HO.out HN.out (h9.row 0 rfl); go_simp; with_reducible rfl))))
      refine Cop.ogy_run rfl rfl ?_
      refine ow_apd9 (p := []) H3 1 rfl rfl (H3.rd 11 rfl) rfl rfl q.length q (by omega) rfl (by have := HQL.out; omega) ?_
      intro u1 w23 H4
      obtain ⟨Aq1, cq1, rfl, _⟩ := (H4.own 1 rfl).sl
      have HB4 : Sep w.heap.size w w23 [.row g1 (clv m n older newer (.slice As1 s.length cs1) i (.slice Ax1 x.length cx1) (.slice Ay1 y.length cy1) (.slice Ap p.length cp) (.slice Aq q.length cq)) 37, .row g2 (clv 0 0 (List.replicate 32 0) (List.replicate 32 0) (.slice none 0 0) 0 (.slice none 0 0) (.slice none 0 0) (.slice none 0 0) (.slice none 0 0)) 37, .own (.slice Ax1 x.length cx1) 5 1 x.length (bl x), .own (.slice Ay1 y.length cy1) 5 1 y.length (bl y), .own (.slice As1 s.length cs1) 24 32 s.length (dcs s), .rd (.slice As s.length cs) s.length 32 (dcs s), .rd (.slice Ax x.length cx) x.length 1 (bl x), .rd (.slice Ay y.length cy) y.length 1 (bl y), .rd (.slice Ap p.length cp) p.length 32 (dcs p), .rd (.slice Aq q.length cq) q.length 32 (dcs q)] := H4.sub (by repeat (first | exact List.nil_sublist _ | exact List.Sublist.refl _ | apply List.Sublist.cons_cons | apply List.Sublist.cons))
      refine ⟨fun _ => HB4, ?_⟩
      (repeat (first | (refine Cop.ogy_skip rfl rfl _ (by (simp only [Act.put, List.setIfInBounds_toArray, List.set_cons_succ, List.set_cons_zero]; rfl)) ?_) | (refine Cop.ogy_pure rfl rfl ?_; apply Exists.intro; refine ⟨fun w9 => ?_, _, by (simp only [Act.put, List.setIfInBounds_toArray, List.set_cons_succ, List.set_cons_zero]; rfl), ?_⟩; (go_simp; with_reducible rfl)) | (refine Cop.ogy_take rfl rfl HB4 (by kernel_rfl) ?_; apply Exists.intro; refine ⟨fun w9 h9 => ?_, _, by (simp only [Act.put, List.setIfInBounds_toArray, List.set_cons_succ, List.set_cons_zero]; rfl), ?_⟩; (obtain ⟨c0, c1, c2, c3, c4, c5, c6, c7⟩ := clm_cells HO.out HN.out (h9.row 0 rfl); go_simp; with_reducible rfl))))
      refine Cop.ogy_run rfl rfl ?_
      refine ow_stc H4 2 rfl 28 _ _ rfl (by kernel_rfl) 70 (by rw [clv_size HO.out HN.out]; decide) rfl rfl rfl rfl ?_
      intro w24 H5
      rw [clv_set70 HO.out HN.out] at H5
      refine ⟨fun h => absurd h (by decide), ?_⟩
      (repeat (first | (refine Cop.ogy_skip rfl rfl _ (by (simp only [Act.put, List.setIfInBounds_toArray, List.set_cons_succ, List.set_cons_zero]; rfl)) ?_) | (refine Cop.ogy_pure rfl rfl ?_; apply Exists.intro; refine ⟨fun w9 => ?_, _, by (simp only [Act.put, List.setIfInBounds_toArray, List.set_cons_succ, List.set_cons_zero]; rfl), ?_⟩; (go_simp; with_reducible rfl)) | (refine Cop.ogy_take rfl rfl H5 (by kernel_rfl) ?_; apply Exists.intro; refine ⟨fun w9 h9 => ?_, _, by (simp only [Act.put, List.setIfInBounds_toArray, List.set_cons_succ, List.set_cons_zero]; rfl), ?_⟩; (go_simp; with_reducible rfl))))
      refine Cop.ogy_run rfl rfl ?_
      refine ow_stc H5 2 rfl 28 _ _ rfl (by kernel_rfl) 71 (by rw [clv_size HO.out HN.out]; decide) rfl rfl rfl rfl ?_
      intro w25 H6
      rw [clv_set71 HO.out HN.out] at H6
      refine ⟨fun h => absurd h (by decide), ?_⟩
      refine ogy_fin ?_
      go_wp2
      go_meet
      case rel => exact ⟨_, _, _, _, rfl, arr1 H6⟩
  obtain ⟨Ap1, Aq1, cp1, cq1, rfl, HS⟩ := hcut
  go_wp2_with (first | refine wl_ld HS 0 rfl rfl 37 _ rfl rfl Tryd.underlying37 rfl (clv_info HO.out HN.out) ?_ | refine wl_st HS 1 rfl rfl 37 _ _ rfl rfl rfl (clv_info HO.out HN.out) (by exact (clv_size rfl rfl).trans (clv_size HO.out HN.out).symm) (clv_one HO.out HN.out) ?_)
  intro w9 HS9
  go_wp2
  exact ret_row rfl rfl g2 rfl 37 (clv m n older newer (.slice As1 s.length cs1) i (.slice Ax1 x.length cx1) (.slice Ay1 y.length cy1) (.slice Ap1 p.length cp1) (.slice Aq1 q.length cq1)) (0, 0) _ (HS9.row 1 rfl) Tryd.underlying37 rfl (clv_info HO.out HN.out) ⟨_, _, _, _, _, _, _, _, _, _, rfl, HS9.hb, (HS9.own 6 rfl).rd, (HS9.own 4 rfl).rd, (HS9.own 5 rfl).rd, (HS9.own 2 rfl).rd, (HS9.own 3 rfl).rd⟩
end Go.Proofs.YtbjbdnlgoifamaaDoor
namespace Go.Proofs.YtbjbdnlgoifamaaDoor
open Go.RowKit Cop
set_option linter.unusedVariables false
theorem ask_cells {w : World} {g : Nat} {i n : Int} {v : Value} {t : TypeId} (h : w.heap[g]? = some (.cells #[.int .i64 i, .int .i64 n, v] t (0, 0))) :
    w.cell? ⟨g, 0, none⟩ = some (.int .i64 i) ∧ w.cell? ⟨g, 1, none⟩ = some (.int .i64 n) ∧ w.cell? ⟨g, 2, none⟩ = some v :=
  ⟨by rw [row_cell h]; rfl, by rw [row_cell h]; rfl, by rw [row_cell h]; rfl⟩
section
variable {H : Type} {enc : TypeId × Value → H} {P : Program} {w : World} {t e u : TypeId} {c : Value} {d : DataW H} {ps : List MemPlace}
theorem open_dslice2 (ht : P.underlying t = some (.slice e)) (he : P.underlying e = some (.array 32 u)) (hu : P.underlying u = some (.int .u8)) (hcu : P.cellsOf u = 1) (hce : P.cellsOf e = 32) (hbe : P.bytesOf e = 32)
    {fuel : Nat} (hf : DataW.trod enc P w 0 (fun _ => true) true fuel t [c] = some (d, ps)) (hsz : ∀ e ∈ d.weights P t, e ≤ reachBytes) :
    ∃ l : List (List UInt8), Rd w c l.length 32 (dcs l) ∧ AllD l ∧ l.length ≤ 4398046510976 := by
  rcases DataW.trod_slice ht hf with ⟨hcs, _⟩ | ⟨a, len, cap, elems, rest, n, _, hcs, hx, _, hlc, hm, hel, hget, hsp, _⟩
  · simp at hcs
    subst hcs
    exact ⟨[], Rd.nil w 32, (by intro x hx; cases hx), by simp⟩
  · simp at hcs
    subst hcs
    have hrl := (hsp rfl).1
    have hbytes : cap * 32 ≤ 140737488351232 := by
      simp only [Prod.mk.injEq] at hx
      have := hsz ((elems.length + rest.length) * P.bytesOf e) (by rw [hx.1]; simp [DataW.weights, ht])
      rw [hbe] at this
      simp only [reachBytes, hel, hrl] at this
      rw [show len + (cap - len) = cap from by omega] at this
      exact this
    have each : ∀ i, i < len → ∃ x : List UInt8, x.length = 32 ∧ ∀ k, k < 32 → w.cell? (a.add (i * 32 + k)) = (bl x)[k]? := by
      intro i hi
      have hg := hget i hi
      rw [hce, List.getElem?_eq_getElem (by omega)] at hg
      obtain ⟨cs, h1, h2⟩ := Option.bind_eq_some_iff.1 hg
      obtain ⟨h3, h4, h5⟩ := World.cells?_some h1
      obtain ⟨xs, m, _, _, hl, hxs, hxi⟩ := DataW.trod_array he h2
      obtain ⟨x, hx1, hx2⟩ := bytes_of_list cs 32 (by rw [h4]) (fun k hk => by
        have := hxi k hk
        rw [hcu, Nat.mul_one, List.getElem?_eq_getElem (by omega)] at this
        obtain ⟨z, hz, _, hwf⟩ := DataW.trod_int hu this
        obtain ⟨b, rfl⟩ := u8_of_wf hwf
        refine ⟨b, ?_⟩
        have := congrArg (fun l : List Value => l[0]?) hz
        simpa [List.getElem?_take, List.getElem?_drop] using this)
      refine ⟨x, hx1, fun k hk => ?_⟩
      have e1 : bl x = cs := by
        have := congrArg Array.toList hx2
        rw [bv_toList] at this
        exact this.symm
      rw [e1, ← h5 k hk]
      show w.cell? (a.add (i * 32 + k)) = w.cell? ((a.add (i * 32)).add k)
      congr 1
      obtain ⟨b, o, s⟩ := a
      have e2 : ∀ p q : Nat, (⟨b, o, s⟩ : Addr).add (p + q) = ((⟨b, o, s⟩ : Addr).add p).add q := by
        intro p q
        rcases Nat.eq_zero_or_pos p with rfl | hp
        · simp [Addr.add]
        · rcases Nat.eq_zero_or_pos q with rfl | hq
          · simp [Addr.add]
          · simp [Addr.add, Nat.add_assoc, show p ≠ 0 from by omega, show q ≠ 0 from by omega]
      exact e2 _ _
    obtain ⟨l, hll, hp⟩ := list_of_each len each
    have hal : AllD l := fun x hx => by
      obtain ⟨i, hi⟩ := List.mem_iff_getElem?.1 hx
      exact (hp i x hi).1
    refine ⟨l, ⟨dcs_length hal, some a, cap, by rw [hll], by omega, by omega, by simp, fun h0 => ?_⟩, hal, by omega⟩
    have hcell : ∀ q, q < l.length * 32 → w.cell? (a.add q) = (dcs l)[q]? := by
      intro q hq
      have h1 : q / 32 < l.length := by omega
      have h2 := (hp (q / 32) l[q / 32] (by simp [h1])).2 (q % 32) (by omega)
      rw [show q / 32 * 32 + q % 32 = q from by omega] at h2
      have h3 := dcs_at hal (q / 32) h1 (q % 32) (by omega)
      rw [show q / 32 * 32 + q % 32 = q from by omega] at h3
      rw [h2, h3]
      simp [List.getD, h1]
    obtain ⟨b, o, s⟩ := a
    have hs : s = none := by
      have h1 := hcell 0 (by omega)
      rw [List.getElem?_eq_getElem (by rw [dcs_length hal]; omega)] at h1
      have h2 : (⟨b, o, s⟩ : Addr).add 0 = ⟨b, o, s⟩ := by cases s <;> rfl
      rw [h2] at h1
      simpa using World.cell?_spot h1
    subst hs
    refine ⟨b, o, rfl, fun i u hu => ?_⟩
    have hi := (List.getElem?_eq_some_iff.1 hu).1
    rw [dcs_length hal] at hi
    have := hcell i hi
    rw [add_plain] at this
    rw [this, hu]

theorem open_ask {r : Reach} {base' : Nat} {ta ti : TypeId} {f0 f1 f2 : Field} {k : IntKind} {v : Value} (hta : P.underlying ta = some (.struct #[f0, f1, f2])) (e0 : f0.type = ti) (e1 : f1.type = ti) (e2 : f2.type = t) (o0 : f0.offset = 0) (o1 : f1.offset = 1) (o2 : f2.offset = 2) (hi : P.underlying ti = some (.int k)) (hci : P.cellsOf ti = 1) (hct : P.cellsOf t = 1) (hca : P.cellsOf ta = 3)
    (ht : P.underlying t = some (.slice e)) (he : P.underlying e = some (.array 32 u)) (hu : P.underlying u = some (.int .u8)) (hcu : P.cellsOf u = 1) (hce : P.cellsOf e = 32) (hbe : P.bytesOf e = 32)
    (h : DataW.Trod enc P w 0 (fun _ => true) true ta v d ps) (hv : Value.okWide P w r base' ta v)
    {ts : List TypeId} {ds : List (DataW H)} (hsz : (DataW.weightsEach P ts ds).all (· ≤ reachBytes) = true) (j : Nat) (hj : ts[j]? = some ta) (hd : ds[j]? = some d) :
    ∃ (m n : Int) (c : Value) (l : List (List UInt8)), v = .agg #[.int k m, .int k n, c] ∧ Rd w c l.length 32 (dcs l) ∧ AllD l ∧ l.length ≤ 4398046510976 := by
  obtain ⟨cs, rfl, hcsz⟩ := Go.WideShapes.okWide_struct hta hv
  obtain ⟨fuel, hf⟩ := h
  obtain ⟨xs, n, _, hx, hl, hlen, hff⟩ := DataW.trod_struct hta hf
  obtain ⟨y0, y1, y2, rfl⟩ : ∃ y0 y1 y2, xs = [y0, y1, y2] := by
    match xs, hlen with
    | [y0, y1, y2], _ => exact ⟨_, _, _, rfl⟩
  have h0 := hff 0 f0 rfl
  have h1 := hff 1 f1 rfl
  have h2 := hff 2 f2 rfl
  simp only [List.getElem?_cons_zero, List.getElem?_cons_succ] at h0 h1 h2
  obtain ⟨l⟩ := cs
  rw [hca] at hcsz
  match l, hcsz with
  | [a, b, c], _ =>
    rw [e0, o0, hci] at h0
    rw [e1, o1, hci] at h1
    rw [e2, o2, hct] at h2
    obtain ⟨m, hm, _, w0⟩ := DataW.trod_int hi h0
    obtain ⟨n, hn, _, w1⟩ := DataW.trod_int hi h1
    simp [Value.cells] at hm hn
    obtain ⟨fu, h2⟩ : ∃ fu, DataW.trod enc P w 0 (fun _ => true) true fu t [c] = some (y2.1, y2.2) := ⟨_, by simpa [Value.cells] using h2⟩
    simp only [Prod.mk.injEq] at hx
    have hw : ∀ z ∈ y2.1.weights P t, z ≤ reachBytes := fun z hz => by
      have := List.all_eq_true.1 hsz _ (DataW.weights_mem_each hj hd z (by
        rw [hx.1]
        simp only [DataW.weights, hta]
        exact DataW.weights_mem_each (j := 2) (t := t) (d := y2.1) (by simp [e2]) (by simp) z hz))
      simpa using this
    obtain ⟨l, h3, h4, h5⟩ := open_dslice2 ht he hu hcu hce hbe h2 hw
    exact ⟨m, n, c, l, by simp [hm, hn], h3, h4, h5⟩
end
end Go.Proofs.YtbjbdnlgoifamaaDoor
namespace Go.Proofs.YtbjbdnlgoifamaaDoor
open Go.ChangeShapes Go.RowKit Cop
set_option linter.unusedVariables false
section
variable {H : Type} {enc : TypeId × Value → H} {P : Program} {w : World}
theorem open_bslice2 {t e : TypeId} {c : Value} {d : DataW H} {ps : List MemPlace} (ht : P.underlying t = some (.slice e)) (he : P.underlying e = some (.int .u8)) (hce : P.cellsOf e = 1) (hbe : P.bytesOf e = 1)
    {fuel : Nat} (hf : DataW.trod enc P w 0 (fun _ => true) true fuel t [c] = some (d, ps)) (hsz : ∀ e ∈ d.weights P t, e ≤ reachBytes) :
    ∃ l : List UInt8, Rd w c l.length 1 (bl l) ∧ l.length ≤ 140737488351232 := by
  rcases open_ints ht he hce hf with ⟨hcs, _⟩ | ⟨a, len, cap, zs, hcs, _, hl, hm, hz, hx, hcell, hwz⟩
  · simp at hcs
    subst hcs
    exact ⟨[], Rd.nil w 1, by simp⟩
  · simp at hcs
    subst hcs
    have hz : zs.length = cap := by simpa using hz
    obtain ⟨l, hl2, hc2⟩ := bytes_of_list ((zs.take len).map (Value.int .u8)) len (by simp; omega) (fun i hi => by
      have : i < zs.length := by omega
      obtain ⟨b, hb⟩ := u8_of_wf (hwz zs[i] (List.getElem_mem _))
      refine ⟨b, ?_⟩
      rw [List.getElem?_map, List.getElem?_take, if_pos hi, List.getElem?_eq_getElem this, hb]
      rfl)
    have hcs : (zs.take len).map (Value.int .u8) = bl l := by
      have := congrArg Array.toList hc2
      simpa [bv_toList] using this
    have hbytes : cap ≤ 140737488351232 := by
      simp only [Prod.mk.injEq] at hx
      have := hsz (len * P.bytesOf e + (cap - len) * P.bytesOf e) (by
        rw [hx.1]
        simp [DataW.weights, ht, lits, hz]
        first | done | exact .inl (by rw [← Nat.add_mul]; congr 1; omega) | (rw [← Nat.add_mul]; congr 1; omega))
      rw [hbe] at this
      simp only [reachBytes] at this
      omega
    refine ⟨l, ⟨by simp [bl_length], some a, cap, by rw [hl2], by omega, by omega, by simp, fun h0 => ?_⟩, by omega⟩
    obtain ⟨b, o, s⟩ := a
    have h1 := hcell 0 (by omega)
    have hs : s = none := by
      have h2 : (⟨b, o, s⟩ : Addr).add 0 = ⟨b, o, s⟩ := rfl
      rw [h2] at h1
      simpa using World.cell?_spot h1
    subst hs
    refine ⟨b, o, rfl, fun i u hu => ?_⟩
    rw [← hcs, List.getElem?_map, List.getElem?_take] at hu
    have hi : i < len := by
      have := (List.getElem?_eq_some_iff.1 (by rw [← List.getElem?_take, ← List.getElem?_map] at hu; exact hu)).1
      simp at this; omega
    rw [if_pos hi, List.getElem?_eq_getElem (by omega)] at hu
    have h3 := hcell i (by omega)
    rw [add_plain] at h3
    rw [h3, ← hu]
    simp [List.getD, show i < zs.length from by omega]
theorem open_arr2 {t u : TypeId} {cl : List Value} {x : DataW H × List MemPlace} {base : Nat} {spare : Nat → Bool} {held : Bool} (he : P.underlying t = some (.array 32 u)) (hu : P.underlying u = some (.int .u8)) (hcu : P.cellsOf u = 1) (hct : P.cellsOf t = 32)
    {fuel : Nat} (hf : DataW.trod enc P w base spare held fuel t cl = some x) : ∃ l : List UInt8, l.length = 32 ∧ cl = bl l := by
  obtain ⟨xs, m, _, _, hl, hxs, hget⟩ := DataW.trod_array he hf
  have hlen : cl.length = 32 := hl.trans hct
  obtain ⟨l, hl2, hc2⟩ := bytes_of_list cl 32 hlen (fun i hi => by
    have := hget i hi
    rw [hcu, Nat.mul_one, List.getElem?_eq_getElem (by omega)] at this
    obtain ⟨k, hk, _, hwf⟩ := DataW.trod_int hu this
    obtain ⟨b, rfl⟩ := u8_of_wf hwf
    refine ⟨b, ?_⟩
    have := congrArg (fun l : List Value => l[0]?) hk
    simpa [List.getElem?_take, List.getElem?_drop] using this)
  refine ⟨l, hl2, ?_⟩
  have := congrArg Array.toList hc2
  rw [bv_toList] at this
  exact this
theorem open_int2 {t : TypeId} {cl : List Value} {x : DataW H × List MemPlace} {base : Nat} {spare : Nat → Bool} {held : Bool} (ht : P.underlying t = some (.int .i64)) {fuel : Nat} (hf : DataW.trod enc P w base spare held fuel t cl = some x) : ∃ m : Int, cl = [.int .i64 m] := by
  obtain ⟨m, hm, _, _⟩ := DataW.trod_int ht hf
  exact ⟨m, hm⟩
theorem one_of {l : List Value} {a : Nat} (h : a < l.length) : ∃ c, (l.drop a).take 1 = [c] := by
  refine ⟨l[a], ?_⟩
  rw [List.drop_eq_getElem_cons h]
  rfl
theorem cut_at {l p : List Value} {a k b : Nat} (h : (l.drop a).take k = p) (hb : a + k = b) : l.drop a = p ++ l.drop b := by
  subst hb h
  rw [← List.drop_drop, List.take_append_drop]
theorem open_clm {r : Reach} {base' : Nat} {ta ti td ts tb tu : TypeId} {f0 f1 f2 f3 f4 f5 f6 f7 f8 f9 : Field} {v : Value} {d : DataW H} {ps : List MemPlace} (hta : P.underlying ta = some (.struct #[f0, f1, f2, f3, f4, f5, f6, f7, f8, f9]))
    (e0 : f0.type = ti) (o0 : f0.offset = 0) (e1 : f1.type = ti) (o1 : f1.offset = 1) (e2 : f2.type = td) (o2 : f2.offset = 2) (e3 : f3.type = td) (o3 : f3.offset = 34) (e4 : f4.type = ts) (o4 : f4.offset = 66) (e5 : f5.type = ti) (o5 : f5.offset = 67) (e6 : f6.type = tb) (o6 : f6.offset = 68) (e7 : f7.type = tb) (o7 : f7.offset = 69) (e8 : f8.type = ts) (o8 : f8.offset = 70) (e9 : f9.type = ts) (o9 : f9.offset = 71)
    (hi : P.underlying ti = some (.int .i64)) (hci : P.cellsOf ti = 1) (hcs : P.cellsOf ts = 1) (hcb : P.cellsOf tb = 1) (hca : P.cellsOf ta = 72)
    (hts : P.underlying ts = some (.slice td)) (htb : P.underlying tb = some (.slice tu)) (htd : P.underlying td = some (.array 32 tu)) (hu : P.underlying tu = some (.int .u8)) (hcu : P.cellsOf tu = 1) (hbu : P.bytesOf tu = 1) (hcd : P.cellsOf td = 32) (hbd : P.bytesOf td = 32)
    (h : DataW.Trod enc P w 0 (fun _ => true) true ta v d ps) (hv : Value.okWide P w r base' ta v)
    {tts : List TypeId} {ds : List (DataW H)} (hsz : (DataW.weightsEach P tts ds).all (· ≤ reachBytes) = true) (j : Nat) (hj : tts[j]? = some ta) (hd : ds[j]? = some d) :
    ∃ (m n i : Int) (older newer x y : List UInt8) (s p q : List (List UInt8)) (vs vx vy vp vq : Value), v = .agg (clv m n older newer vs i vx vy vp vq) ∧ older.length = 32 ∧ newer.length = 32 ∧
      (Rd w vs s.length 32 (dcs s) ∧ AllD s ∧ s.length ≤ 4398046510976) ∧ (Rd w vx x.length 1 (bl x) ∧ x.length ≤ 140737488351232) ∧ (Rd w vy y.length 1 (bl y) ∧ y.length ≤ 140737488351232) ∧
      (Rd w vp p.length 32 (dcs p) ∧ AllD p ∧ p.length ≤ 4398046510976) ∧ (Rd w vq q.length 32 (dcs q) ∧ AllD q ∧ q.length ≤ 4398046510976) := by
  obtain ⟨cs, rfl, hcsz⟩ := Go.WideShapes.okWide_struct hta hv
  obtain ⟨fuel, hf⟩ := h
  obtain ⟨xs, n, _, hx, hl, hlen, hff⟩ := DataW.trod_struct hta hf
  obtain ⟨y0, y1, y2, y3, y4, y5, y6, y7, y8, y9, rfl⟩ : ∃ y0 y1 y2 y3 y4 y5 y6 y7 y8 y9, xs = [y0, y1, y2, y3, y4, y5, y6, y7, y8, y9] := by
    match xs, hlen with
    | [y0, y1, y2, y3, y4, y5, y6, y7, y8, y9], _ => exact ⟨_, _, _, _, _, _, _, _, _, _, rfl⟩
  simp only [Prod.mk.injEq] at hx
  obtain ⟨l⟩ := cs
  rw [hca] at hcsz
  have hl72 : l.length = 72 := hcsz
  have hw : ∀ (k : Nat) (t : TypeId) (y : DataW H × List MemPlace), ([f0, f1, f2, f3, f4, f5, f6, f7, f8, f9].map (·.type))[k]? = some t → ([y0, y1, y2, y3, y4, y5, y6, y7, y8, y9].map (·.1))[k]? = some y.1 → ∀ z ∈ y.1.weights P t, z ≤ reachBytes := fun k t y h1 h2 z hz => by
    have := List.all_eq_true.1 hsz _ (DataW.weights_mem_each hj hd z (by
      rw [hx.1]
      simp only [DataW.weights, hta]
      exact DataW.weights_mem_each (j := k) (t := t) (d := y.1) h1 h2 z hz))
    simpa using this
  have h0 := hff 0 f0 rfl
  have h1 := hff 1 f1 rfl
  have h2 := hff 2 f2 rfl
  have h3 := hff 3 f3 rfl
  have h4 := hff 4 f4 rfl
  have h5 := hff 5 f5 rfl
  have h6 := hff 6 f6 rfl
  have h7 := hff 7 f7 rfl
  have h8 := hff 8 f8 rfl
  have h9 := hff 9 f9 rfl
  simp only [List.getElem?_cons_zero, List.getElem?_cons_succ] at h0 h1 h2 h3 h4 h5 h6 h7 h8 h9
  rw [e0, o0, hci] at h0
  rw [e1, o1, hci] at h1
  rw [e2, o2, hcd] at h2
  rw [e3, o3, hcd] at h3
  rw [e4, o4, hcs] at h4
  rw [e5, o5, hci] at h5
  rw [e6, o6, hcb] at h6
  rw [e7, o7, hcb] at h7
  rw [e8, o8, hcs] at h8
  rw [e9, o9, hcs] at h9
  obtain ⟨m, g0⟩ := open_int2 hi (x := y0) (by first | exact h0 | exact h0.symm | simpa using h0)
  obtain ⟨nn, g1⟩ := open_int2 hi (x := y1) (by first | exact h1 | exact h1.symm | simpa using h1)
  obtain ⟨older, l2, g2⟩ := open_arr2 htd hu hcu hcd (x := y2) (by first | exact h2 | simpa using h2)
  obtain ⟨newer, l3, g3⟩ := open_arr2 htd hu hcu hcd (x := y3) (by first | exact h3 | simpa using h3)
  obtain ⟨c4, g4⟩ := one_of (l := l) (a := 66) (by omega)
  replace h4 : ∃ fu, DataW.trod enc P w 0 (fun _ => true) true fu ts [c4] = some (y4.1, y4.2) := ⟨_, by rw [← g4]; simpa [Value.cells] using h4⟩
  obtain ⟨fu4, h4⟩ := h4
  obtain ⟨s4, r4, a4, b4⟩ := open_dslice2 hts htd hu hcu hcd hbd h4 (hw 4 _ y4 (by simp [e4]) (by simp))
  obtain ⟨ii, g5⟩ := open_int2 hi (x := y5) (by first | exact h5 | exact h5.symm | simpa using h5)
  obtain ⟨c6, g6⟩ := one_of (l := l) (a := 68) (by omega)
  replace h6 : ∃ fu, DataW.trod enc P w 0 (fun _ => true) true fu tb [c6] = some (y6.1, y6.2) := ⟨_, by rw [← g6]; simpa [Value.cells] using h6⟩
  obtain ⟨fu6, h6⟩ := h6
  obtain ⟨s6, r6, b6⟩ := open_bslice2 htb hu hcu hbu h6 (hw 6 _ y6 (by simp [e6]) (by simp))
  obtain ⟨c7, g7⟩ := one_of (l := l) (a := 69) (by omega)
  replace h7 : ∃ fu, DataW.trod enc P w 0 (fun _ => true) true fu tb [c7] = some (y7.1, y7.2) := ⟨_, by rw [← g7]; simpa [Value.cells] using h7⟩
  obtain ⟨fu7, h7⟩ := h7
  obtain ⟨s7, r7, b7⟩ := open_bslice2 htb hu hcu hbu h7 (hw 7 _ y7 (by simp [e7]) (by simp))
  obtain ⟨c8, g8⟩ := one_of (l := l) (a := 70) (by omega)
  replace h8 : ∃ fu, DataW.trod enc P w 0 (fun _ => true) true fu ts [c8] = some (y8.1, y8.2) := ⟨_, by rw [← g8]; simpa [Value.cells] using h8⟩
  obtain ⟨fu8, h8⟩ := h8
  obtain ⟨s8, r8, a8, b8⟩ := open_dslice2 hts htd hu hcu hcd hbd h8 (hw 8 _ y8 (by simp [e8]) (by simp))
  obtain ⟨c9, g9⟩ := one_of (l := l) (a := 71) (by omega)
  replace h9 : ∃ fu, DataW.trod enc P w 0 (fun _ => true) true fu ts [c9] = some (y9.1, y9.2) := ⟨_, by rw [← g9]; simpa [Value.cells] using h9⟩
  obtain ⟨fu9, h9⟩ := h9
  obtain ⟨s9, r9, a9, b9⟩ := open_dslice2 hts htd hu hcu hcd hbd h9 (hw 9 _ y9 (by simp [e9]) (by simp))
  refine ⟨m, nn, ii, older, newer, s6, s7, s4, s8, s9, c4, c6, c7, c8, c9, ?_, l2, l3, ⟨r4, a4, b4⟩, ⟨r6, b6⟩, ⟨r7, b7⟩, ⟨r8, a8, b8⟩, ⟨r9, a9, b9⟩⟩
  have e : l = [Value.int .i64 m, .int .i64 nn] ++ (bl older ++ (bl newer ++ [c4, .int .i64 ii, c6, c7, c8, c9])) := by
    have k0 := cut_at (l := l) (a := 0) (k := 1) (b := 1) (by first | exact g0 | simpa [Value.cells] using g0) rfl
    have k1 := cut_at (l := l) (a := 1) (k := 1) (b := 2) (by first | exact g1 | simpa [Value.cells] using g1) rfl
    have k2 := cut_at (l := l) (a := 2) (k := 32) (b := 34) (by first | exact g2 | simpa [Value.cells] using g2) rfl
    have k3 := cut_at (l := l) (a := 34) (k := 32) (b := 66) (by first | exact g3 | simpa [Value.cells] using g3) rfl
    have k4 := cut_at (l := l) (a := 66) (k := 1) (b := 67) (by first | exact g4 | simpa [Value.cells] using g4) rfl
    have k5 := cut_at (l := l) (a := 67) (k := 1) (b := 68) (by first | exact g5 | simpa [Value.cells] using g5) rfl
    have k6 := cut_at (l := l) (a := 68) (k := 1) (b := 69) (by first | exact g6 | simpa [Value.cells] using g6) rfl
    have k7 := cut_at (l := l) (a := 69) (k := 1) (b := 70) (by first | exact g7 | simpa [Value.cells] using g7) rfl
    have k8 := cut_at (l := l) (a := 70) (k := 1) (b := 71) (by first | exact g8 | simpa [Value.cells] using g8) rfl
    have k9 := cut_at (l := l) (a := 71) (k := 1) (b := 72) (by first | exact g9 | simpa [Value.cells] using g9) rfl
    have k10 : l.drop 72 = [] := List.drop_eq_nil_of_le (by omega)
    rw [← List.drop_zero (l := l), k0, k1, k2, k3, k4, k5, k6, k7, k8, k9, k10]
    simp
  rw [e]
  rfl
end
end Go.Proofs.YtbjbdnlgoifamaaDoor
namespace Go.Proofs.YtbjbdnlgoifamaaDoor
open Go.RowKit Cop
set_option linter.unusedVariables false
set_option linter.unusedSimpArgs false
set_option maxRecDepth 100000 in
set_option maxHeartbeats 8000000 in
theorem extractAccepts_walk (m n i : Int) (older newer x y : List UInt8) (s p q : List (List UInt8)) (As Ap Aq Ax Ay : Option Addr) (cs cp cq cx cy : Nat) (w : World) (hT : Tab w) (ho : older.length = 32) (hn : newer.length = 32) (hxl : x.length ≤ 140737488351232) (hyl : y.length ≤ 140737488351232) (hsl : s.length ≤ 4398046510976) (hpl : p.length ≤ 4398046510976) (hql : q.length ≤ 4398046510976) (has : AllD s) (hap : AllD p) (haq : AllD q)
    (hs : Rd w (.slice As s.length cs) s.length 32 (dcs s)) (hx : Rd w (.slice Ax x.length cx) x.length 1 (bl x)) (hy : Rd w (.slice Ay y.length cy) y.length 1 (bl y)) (hp : Rd w (.slice Ap p.length cp) p.length 32 (dcs p)) (hq : Rd w (.slice Aq q.length cq) q.length 32 (dcs q)) :
    Gives 4 #[.agg (clv m n older newer (.slice As s.length cs) i (.slice Ax x.length cx) (.slice Ay y.length cy) (.slice Ap p.length cp) (.slice Aq q.length cq))] w (.bool true) := by
  have hlx := leafD_length x
  have hly := leafD_length y
  have LXA := Lib.hid (fun (w' : World) v (hb : Below w.heap.size w w') (hR : Rd w' v x.length 1 (bl x)) => leaf_a x v w' (hT.below hb) hR (by omega))
  have LYA := Lib.hid (fun (w' : World) v (hb : Below w.heap.size w w') (hR : Rd w' v y.length 1 (bl y)) => leaf_a y v w' (hT.below hb) hR (by omega))
  have LXB := Lib.hid (fun (w' : World) v (hR : Rd w' v x.length 1 (bl x)) => leaf_b x v w' hR (by omega))
  have LYB := Lib.hid (fun (w' : World) v (hR : Rd w' v y.length 1 (bl y)) => leaf_b y v w' hR (by omega))
  obtain ⟨LX, hLX⟩ : ∃ l, leafD x = l := ⟨_, rfl⟩
  obtain ⟨LY, hLY⟩ : ∃ l, leafD y = l := ⟨_, rfl⟩
  rw [hLX] at hlx LXA LXB
  rw [hLY] at hly LYA LYB
  clear hLX hLY
  obtain ⟨F, f1, f2⟩ := cons_ab7 older newer s m n w hT ho hn has (by omega)
  obtain ⟨G, g1, g2⟩ := incl_ab9 LX older p i m w hT hlx ho hap (by omega)
  obtain ⟨K, k1, k2⟩ := incl_ab9 LY newer q i n w hT hly hn haq (by omega)
  have CL := Lib.hid (fun (w' : World) (hs : Rd w' (.slice As s.length cs) s.length 32 (dcs s)) (hx : Rd w' (.slice Ax x.length cx) x.length 1 (bl x)) (hy : Rd w' (.slice Ay y.length cy) y.length 1 (bl y)) (hp : Rd w' (.slice Ap p.length cp) p.length 32 (dcs p)) (hq : Rd w' (.slice Aq q.length cq) q.length 32 (dcs q)) => lent9 m n i older newer x y s p q As Ap Aq Ax Ay cs cp cq cx cy w' ho hn hxl hyl hsl hpl hql hs hx hy hp hq)
  have CA := Lib.hid (fun (w' : World) (hb : Below w.heap.size w w') (As1 Ap1 Aq1 Ax1 Ay1 : Option Addr) (cs1 cp1 cq1 cx1 cy1 : Nat) (hs : Rd w' (.slice As1 s.length cs1) s.length 32 (dcs s)) (hx : Rd w' (.slice Ax1 x.length cx1) x.length 1 (bl x)) (hy : Rd w' (.slice Ay1 y.length cy1) y.length 1 (bl y)) (hp : Rd w' (.slice Ap1 p.length cp1) p.length 32 (dcs p)) (hq : Rd w' (.slice Aq1 q.length cq1) q.length 32 (dcs q)) => acc_gen m n i older newer x y LX LY s p q As1 Ap1 Aq1 Ax1 Ay1 cs1 cp1 cq1 cx1 cy1 F G K w' ho hn hlx hly hs hx hy hp hq
    (fun w2 v b2 h => f1 w2 v (bcall hb b2) h) (fun w2 v b2 h => g1 w2 v (bcall hb b2) h) (fun w2 v b2 h => k1 w2 v (bcall hb b2) h) (fun w2 v b2 h => LXA.out w2 v (bcall hb b2) h) (fun w2 v b2 h => LYA.out w2 v (bcall hb b2) h))
  have CB := Lib.hid (fun (w' : World) (hs : Rd w' (.slice As s.length cs) s.length 32 (dcs s)) (hx : Rd w' (.slice Ax x.length cx) x.length 1 (bl x)) (hy : Rd w' (.slice Ay y.length cy) y.length 1 (bl y)) (hp : Rd w' (.slice Ap p.length cp) p.length 32 (dcs p)) (hq : Rd w' (.slice Aq q.length cq) q.length 32 (dcs q)) => accr_gen m n i older newer x y LX LY s p q As Ap Aq Ax Ay cs cp cq cx cy F G K w' ho hn hlx hly hs hx hy hp hq
    (fun w2 v _ h => f2 w2 v h) (fun w2 v _ h => g2 w2 v h) (fun w2 v _ h => k2 w2 v h) (fun w2 v _ h => LXB.out w2 v h) (fun w2 v _ h => LYB.out w2 v h))
  obtain ⟨b, hb⟩ : ∃ b, ((F == 0) && ((G == 0) && (K == 0))) = b := ⟨_, rfl⟩
  rw [hb] at CA CB
  have HS0 := (((((Sep.start w).arg0 hq).arg0 hp).arg0 hy).arg0 hx).arg0 hs
  have HO := Lib.hid ho
  have HN := Lib.hid hn
  clear hb hs hx hy hp hq f1 f2 g1 g2 k1 k2 LXA LXB LYA LYB hlx hly ho hn hxl hyl hsl hpl hql has hap haq
  go_enter Tryd.func4, Tryd.ntmps4
  go_wp2_with (first | refine wl_bx HS0 rfl 37 _ rfl (clv m n older newer (.slice As s.length cs) i (.slice Ax x.length cx) (.slice Ay y.length cy) (.slice Ap p.length cp) (.slice Aq q.length cq)) rfl ?_)
  intro g w1 HS1
  clear HS0
  go_wp2
  refine Cop.region_ord (fun w' => Sep w.heap.size w w' [.row g (clv m n older newer (.slice As s.length cs) i (.slice Ax x.length cx) (.slice Ay y.length cy) (.slice Ap p.length cp) (.slice Aq q.length cq)) 37, .rd (.slice As s.length cs) s.length 32 (dcs s), .rd (.slice Ax x.length cx) x.length 1 (bl x), .rd (.slice Ay y.length cy) y.length 1 (bl y), .rd (.slice Ap p.length cp) p.length 32 (dcs p), .rd (.slice Aq q.length cq) q.length 32 (dcs q)]) 6 (.take 0 (.take 3 (.run 1 (.run 2 (.run 4 (.take 5 (.take 6 Cop.Ord.fin))))))) (by kernel_rfl) (by kernel_rfl) (fun _ _ d _ _ h => by cases d <;> exact h) ?_
  intro wa hda
  have HSa := HS1.keep hda
  clear HS1
  (repeat (first | (refine Cop.og_skip rfl rfl HSa _ (by (simp only [Act.put, List.setIfInBounds_toArray, List.set_cons_succ, List.set_cons_zero]; rfl)) ?_) | (refine Cop.og_ld rfl rfl HSa 37 _ rfl (.pointer (some ⟨g, 0, none⟩)) rfl _ (fun w9 h9 => load_row (h9.row 0 rfl) 37 Tryd.underlying37 rfl (clv_info HO.out HN.out)) _ (by (simp only [Act.put, List.setIfInBounds_toArray, List.set_cons_succ, List.set_cons_zero]; rfl)) ?_) | (refine Cop.og_take rfl rfl HSa ?_; apply Exists.intro; refine ⟨fun w9 h9 => ?_, _, by (simp only [Act.put, List.setIfInBounds_toArray, List.set_cons_succ, List.set_cons_zero]; rfl), ?_⟩; (go_simp; with_reducible rfl))))
  refine Cop.og_run rfl rfl ?_
  refine ow_call_ex 16 _ (fun v w' => ∃ (As1 Ap1 Aq1 Ax1 Ay1 : Option Addr) (cs1 cp1 cq1 cx1 cy1 : Nat), v = .agg (clv m n older newer (.slice As1 s.length cs1) i (.slice Ax1 x.length cx1) (.slice Ay1 y.length cy1) (.slice Ap1 p.length cp1) (.slice Aq1 q.length cq1)) ∧ Below wa.heap.size wa w' ∧ Rd w' (.slice As1 s.length cs1) s.length 32 (dcs s) ∧ Rd w' (.slice Ax1 x.length cx1) x.length 1 (bl x) ∧ Rd w' (.slice Ay1 y.length cy1) y.length 1 (bl y) ∧ Rd w' (.slice Ap1 p.length cp1) p.length 32 (dcs p) ∧ Rd w' (.slice Aq1 q.length cq1) q.length 32 (dcs q)) (by go_simp) ((CL.out wa (HSa.rd 1 rfl) (HSa.rd 2 rfl) (HSa.rd 3 rfl) (HSa.rd 4 rfl) (HSa.rd 5 rfl)).mono ?_) ?_
  · rintro e w' ⟨As1, Ap1, Aq1, Ax1, Ay1, cs1, cp1, cq1, cx1, cy1, h1, h2⟩
    exact ⟨_, h1, As1, Ap1, Aq1, Ax1, Ay1, cs1, cp1, cq1, cx1, cy1, rfl, h2⟩
  rintro v wb ⟨As1, Ap1, Aq1, Ax1, Ay1, cs1, cp1, cq1, cx1, cy1, rfl, bb, hs, hx, hy, hp, hq⟩
  have HSb := HSa.keep bb
  clear HSa
  refine ⟨fun _ => HSb, ?_⟩
  (repeat (first | (refine Cop.og_skip rfl rfl HSb _ (by (simp only [Act.put, List.setIfInBounds_toArray, List.set_cons_succ, List.set_cons_zero]; rfl)) ?_) | (refine Cop.og_ld rfl rfl HSb 37 _ rfl (.pointer (some ⟨g, 0, none⟩)) rfl _ (fun w9 h9 => load_row (h9.row 0 rfl) 37 Tryd.underlying37 rfl (clv_info HO.out HN.out)) _ (by (simp only [Act.put, List.setIfInBounds_toArray, List.set_cons_succ, List.set_cons_zero]; rfl)) ?_) | (refine Cop.og_take rfl rfl HSb ?_; apply Exists.intro; refine ⟨fun w9 h9 => ?_, _, by (simp only [Act.put, List.setIfInBounds_toArray, List.set_cons_succ, List.set_cons_zero]; rfl), ?_⟩; (go_simp; with_reducible rfl))))
  refine Cop.og_run rfl rfl ?_
  refine ow_call 14 _ _ (fun w' => Below wb.heap.size wb w') (by go_simp) (CA.out wb HSb.hb As1 Ap1 Aq1 Ax1 Ay1 cs1 cp1 cq1 cx1 cy1 hs hx hy hp hq) ?_
  intro wc bc
  have HSc := HSb.keep bc
  refine ⟨fun _ => HSc, ?_⟩
  (repeat (first | (refine Cop.og_skip rfl rfl HSc _ (by (simp only [Act.put, List.setIfInBounds_toArray, List.set_cons_succ, List.set_cons_zero]; rfl)) ?_) | (refine Cop.og_ld rfl rfl HSc 37 _ rfl (.pointer (some ⟨g, 0, none⟩)) rfl _ (fun w9 h9 => load_row (h9.row 0 rfl) 37 Tryd.underlying37 rfl (clv_info HO.out HN.out)) _ (by (simp only [Act.put, List.setIfInBounds_toArray, List.set_cons_succ, List.set_cons_zero]; rfl)) ?_) | (refine Cop.og_take rfl rfl HSc ?_; apply Exists.intro; refine ⟨fun w9 h9 => ?_, _, by (simp only [Act.put, List.setIfInBounds_toArray, List.set_cons_succ, List.set_cons_zero]; rfl), ?_⟩; (go_simp; with_reducible rfl))))
  refine Cop.og_run rfl rfl ?_
  refine ow_call 17 _ _ (fun w' => Below wc.heap.size wc w') (by go_simp) (CB.out wc (HSc.rd 1 rfl) (HSc.rd 2 rfl) (HSc.rd 3 rfl) (HSc.rd 4 rfl) (HSc.rd 5 rfl)) ?_
  intro wd bd
  have HSd := HSc.keep bd
  refine ⟨fun _ => HSd, ?_⟩
  cases b <;>
  · (repeat (first | (refine Cop.og_skip rfl rfl HSd _ (by (simp only [Act.put, List.setIfInBounds_toArray, List.set_cons_succ, List.set_cons_zero]; rfl)) ?_) | (refine Cop.og_take rfl rfl HSd ?_; apply Exists.intro; refine ⟨fun w9 h9 => ?_, _, by (simp only [Act.put, List.setIfInBounds_toArray, List.set_cons_succ, List.set_cons_zero]; rfl), ?_⟩; (go_simp; with_reducible rfl))))
    refine og_fin ?_
    go_wp2
    go_ret
    exact ⟨rfl, HSd.hb⟩
set_option maxRecDepth 100000 in
theorem extractAccepts_holds : Rows.ExtractAcceptsCardSaid := extractAccepts.card_of_walk fun H enc W base v0 d0 p0 h0 k0 hsz hL => by
  obtain ⟨m, n, i, older, newer, x, y, s, p, q, vs, vx, vy, vp, vq, rfl, ho, hn, ⟨hs, has, hsl⟩, ⟨hx, hxl⟩, ⟨hy, hyl⟩, ⟨hp, hap, hpl⟩, ⟨hq, haq, hql⟩⟩ := open_clm Tryd.underlying37 rfl rfl rfl rfl rfl rfl rfl rfl rfl rfl rfl rfl rfl rfl rfl rfl rfl rfl rfl rfl Tryd.underlying3 (by kernel_rfl) (by kernel_rfl) (by kernel_rfl) (by kernel_rfl) Tryd.underlying28 Tryd.underlying22 Tryd.underlying24 Tryd.underlying5 (by kernel_rfl) (by kernel_rfl) (by kernel_rfl) (by kernel_rfl) h0 k0 hsz 0 rfl rfl
  obtain ⟨As, cs, rfl, _, _⟩ := hs.shape
  obtain ⟨Ax, cx, rfl, _, _⟩ := hx.shape
  obtain ⟨Ay, cy, rfl, _, _⟩ := hy.shape
  obtain ⟨Ap, cp, rfl, _, _⟩ := hp.shape
  obtain ⟨Aq, cq, rfl, _, _⟩ := hq.shape
  exact extractAccepts_walk m n i older newer x y s p q As Ap Aq Ax Ay cs cp cq cx cy W (table_of hL) ho hn hxl hyl hsl hpl hql has hap haq hs hx hy hp hq
#print axioms extractAccepts_holds
end Go.Proofs.YtbjbdnlgoifamaaDoor
