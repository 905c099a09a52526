/- Proved here: a log that tells of one list of leaves makes claims that are accepted, and gives nothing away; of arguments of a bulk of at most 1048576 values. The table of constants is tied to the program's text. -/
import Derived.Test.YtbjbdnlgoifamaaDoorTz
import Derived.Test.YtbjbdnlgoifamaaDoorMEi0
import Derived.Test.YtbjbdnlgoifamaaDoorOg
import Derived.Test.YtbjbdnlgoifamaaDoorRz
import Derived.Deep.DeepCutAuto
import Derived.Test.YtbjbdnlgoifamaaDoorMEi1
import Derived.Test.YtbjbdnlgoifamaaDoorSs
import Derived.OpenShut
import Derived.Test.YtbjbdnlgoifamaaDoorRows
import Derived.Test.YtbjbdnlgoifamaaDoorFExtractHonestUpto
namespace Go.Proofs.YtbjbdnlgoifamaaDoor
open Go.RowKit Cop
set_option linter.unusedVariables false
set_option linter.unusedSimpArgs false
/-- The cells of a claim. -/
def clv (m n : Int) (older newer : List UInt8) (s : Value) (i : Int) (x y p q : Value) : Array Value :=
  ([Value.int .i64 m, .int .i64 n] ++ (bl older ++ (bl newer ++ [s, .int .i64 i, x, y, p, q]))).toArray
section
variable {m n i : Int} {older newer : List UInt8} {s x y p q : Value}
theorem clv_o (ho : older.length = 32) (j : Nat) (hj : j < (bv older).size) : (clv m n older newer s i x y p q)[2 + j]? = (bv older)[j]? := by
  have hb : (bl older).length = 32 := by rw [bl_length, ho]
  have hj2 : j < 32 := by rw [← ho]; simpa [bv] using hj
  rw [show bv older = (bl older).toArray from rfl]
  simp only [clv, List.getElem?_toArray]
  rw [List.getElem?_append_right (by simp), List.getElem?_append_left (by simp; omega)]
  simp
theorem clv_n (ho : older.length = 32) (hn : newer.length = 32) (j : Nat) (hj : j < (bv newer).size) : (clv m n older newer s i x y p q)[34 + j]? = (bv newer)[j]? := by
  have hb : (bl older).length = 32 := by rw [bl_length, ho]
  have hc : (bl newer).length = 32 := by rw [bl_length, hn]
  have hj2 : j < 32 := by rw [← hn]; simpa [bv] using hj
  rw [show bv newer = (bl newer).toArray from rfl]
  simp only [clv, List.getElem?_toArray]
  rw [List.getElem?_append_right (by simp; omega), List.getElem?_append_right (by simp; omega), List.getElem?_append_left (by simp; omega)]
  simp [hb]
  congr 1
  omega
theorem clv_t (ho : older.length = 32) (hn : newer.length = 32) (j : Nat) : (clv m n older newer s i x y p q)[66 + j]? = [s, .int .i64 i, x, y, p, q][j]? := by
  have hb : (bl older).length = 32 := by rw [bl_length, ho]
  have hc : (bl newer).length = 32 := by rw [bl_length, hn]
  simp only [clv, List.getElem?_toArray]
  rw [List.getElem?_append_right (by simp; omega), List.getElem?_append_right (by simp; omega), List.getElem?_append_right (by simp; omega)]
  simp [hb, hc]
  congr 1
  omega
theorem clv_size (ho : older.length = 32) (hn : newer.length = 32) : (clv m n older newer s i x y p q).size = 72 := by
  simp [clv, bl_length, ho, hn]
theorem clm_cells {w : World} {g : Nat} {t : TypeId} (ho : older.length = 32) (hn : newer.length = 32) (h : w.heap[g]? = some (.cells (clv m n older newer s i x y p q) t (0, 0))) :
    w.cell? ⟨g, 0, none⟩ = some (.int .i64 m) ∧ w.cell? ⟨g, 1, none⟩ = some (.int .i64 n) ∧ w.cell? ⟨g, 66, none⟩ = some s ∧ w.cell? ⟨g, 67, none⟩ = some (.int .i64 i) ∧ w.cell? ⟨g, 68, none⟩ = some x ∧ w.cell? ⟨g, 69, none⟩ = some y ∧ w.cell? ⟨g, 70, none⟩ = some p ∧ w.cell? ⟨g, 71, none⟩ = some q :=
  ⟨by rw [row_cell h]; rfl, by rw [row_cell h]; rfl, by rw [row_cell h]; exact clv_t ho hn 0, by rw [row_cell h]; exact clv_t ho hn 1, by rw [row_cell h]; exact clv_t ho hn 2, by rw [row_cell h]; exact clv_t ho hn 3, by rw [row_cell h]; exact clv_t ho hn 4, by rw [row_cell h]; exact clv_t ho hn 5⟩
end
/-- Both Inclusions. -/
theorem incl_ab9 (leaf root : List UInt8) (path : List (List UInt8)) (i n : Int) (w : World) (hT : Tab w) (hlf : leaf.length = 32) (hrt : root.length = 32) (hp : AllD path) (hpl : path.length ≤ 4398046511104) : ∃ F : Int,
    (∀ w' v, Below w.heap.size w w' → Rd w' v path.length 32 (dcs path) → Gives 32 #[.agg (bv leaf), .int .i64 i, .int .i64 n, v, .agg (bv root)] w' (.int .i64 F)) ∧
    (∀ w' v, Rd w' v path.length 32 (dcs path) → Gives 43 #[.agg (bv leaf), .int .i64 i, .int .i64 n, v, .agg (bv root)] w' (.int .i64 F)) := by
  obtain ⟨X, E, hX, h1, h2⟩ := root_ab7 leaf path i n w hT hlf hp hpl
  obtain ⟨F, hF⟩ : ∃ F : Int, (E ≠ 0 ∧ F = E) ∨ (E = 0 ∧ X = root ∧ F = 0) ∨ (E = 0 ∧ X ≠ root ∧ F = 71) := by
    by_cases hE : E = 0
    · by_cases hx : X = root
      · exact ⟨0, .inr (.inl ⟨hE, hx, rfl⟩)⟩
      · exact ⟨71, .inr (.inr ⟨hE, hx, rfl⟩)⟩
    · exact ⟨E, .inl ⟨hE, rfl⟩⟩
  exact ⟨F, fun w' v hb hR => vincl leaf root X E F i n v w' hlf hrt hX hF (fun w2 hb2 => h1 w2 v (bcall hb hb2) (hR.below hb2)),
    fun w' v hR => rincl leaf root X E F i n v w' hlf hrt hX hF (fun w2 hb2 => h2 w2 v (hR.below hb2))⟩
set_option maxRecDepth 100000 in
set_option maxHeartbeats 4000000 in
theorem acc_gen (m n i : Int) (older newer x y LX LY : List UInt8) (s p q : List (List UInt8)) (As Ap Aq Ax Ay : Option Addr) (cs cp cq cx cy : Nat) (F G K : Int) (w : World) (ho : older.length = 32) (hn : newer.length = 32) (hlx : LX.length = 32) (hly : LY.length = 32)
    (hs : Rd w (.slice As s.length cs) s.length 32 (dcs s)) (hx : Rd w (.slice Ax x.length cx) x.length 1 (bl x)) (hy : Rd w (.slice Ay y.length cy) y.length 1 (bl y)) (hp : Rd w (.slice Ap p.length cp) p.length 32 (dcs p)) (hq : Rd w (.slice Aq q.length cq) q.length 32 (dcs q))
    (h1 : ∀ w' v, Below w.heap.size w w' → Rd w' v s.length 32 (dcs s) → Gives 31 #[.int .i64 m, .int .i64 n, .agg (bv older), .agg (bv newer), v] w' (.int .i64 F))
    (h2 : ∀ w' v, Below w.heap.size w w' → Rd w' v p.length 32 (dcs p) → Gives 32 #[.agg (bv LX), .int .i64 i, .int .i64 m, v, .agg (bv older)] w' (.int .i64 G))
    (h3 : ∀ w' v, Below w.heap.size w w' → Rd w' v q.length 32 (dcs q) → Gives 32 #[.agg (bv LY), .int .i64 i, .int .i64 n, v, .agg (bv newer)] w' (.int .i64 K))
    (h4 : ∀ w' v, Below w.heap.size w w' → Rd w' v x.length 1 (bl x) → Gives 12 #[v] w' (.agg (bv LX)))
    (h5 : ∀ w' v, Below w.heap.size w w' → Rd w' v y.length 1 (bl y) → Gives 12 #[v] w' (.agg (bv LY))) :
    Gives 14 #[.agg (clv m n older newer (.slice As s.length cs) i (.slice Ax x.length cx) (.slice Ay y.length cy) (.slice Ap p.length cp) (.slice Aq q.length cq))] w (.bool ((F == 0) && ((G == 0) && (K == 0)))) := by
  have H1 := Lib.hid h1
  have H2 := Lib.hid h2
  have H3 := Lib.hid h3
  have H4 := Lib.hid h4
  have H5 := Lib.hid h5
  have HS0 := (((((Sep.start w).arg0 hq).arg0 hp).arg0 hy).arg0 hx).arg0 hs
  clear h1 h2 h3 h4 h5 hs hx hy hp hq
  obtain ⟨b, hb⟩ : ∃ b, ((F == 0) && ((G == 0) && (K == 0))) = b := ⟨_, rfl⟩
  rw [hb]
  have HB := Lib.hid hb
  clear hb
  go_enter Tryd.func14, Tryd.ntmps14
  go_wp2_with (first | refine wl_bx HS0 rfl 37 _ rfl (clv m n older newer (.slice As s.length cs) i (.slice Ax x.length cx) (.slice Ay y.length cy) (.slice Ap p.length cp) (.slice Aq q.length cq)) rfl ?_)
  intro g w1 HS1
  clear HS0
  go_wp2
  refine Cop.region_ord (fun w' => Sep w.heap.size w w' [.row g (clv m n older newer (.slice As s.length cs) i (.slice Ax x.length cx) (.slice Ay y.length cy) (.slice Ap p.length cp) (.slice Aq q.length cq)) 37, .rd (.slice As s.length cs) s.length 32 (dcs s), .rd (.slice Ax x.length cx) x.length 1 (bl x), .rd (.slice Ay y.length cy) y.length 1 (bl y), .rd (.slice Ap p.length cp) p.length 32 (dcs p), .rd (.slice Aq q.length cq) q.length 32 (dcs q)]) 42 (.take 0 (.take 1 (.take 2 (.take 3 (.take 4 (.take 5 (.take 6 (.take 7 (.take 8 (.take 9 (.run 10 (.take 11 (.take 12 (.take 13 (.take 14 (.take 16 (.take 17 (.take 18 (.take 19 (.take 20 (.take 21 (.take 22 (.take 23 (.run 15 (.run 24 (.take 25 (.take 26 (.take 27 (.take 28 (.take 29 (.take 31 (.take 32 (.take 33 (.take 34 (.take 35 (.take 36 (.take 37 (.take 38 (.run 30 (.run 39 (.take 40 (.take 41 (.take 42 Cop.Ord.fin))))))))))))))))))))))))))))))))))))))))))) (by kernel_rfl) (by kernel_rfl) (fun _ _ d _ _ h => by cases d <;> exact h) ?_
  intro wa hda
  have HSa := HS1.keep hda
  clear HS1
  (repeat (first | (refine Cop.og_skip rfl rfl HSa _ (by (simp only [Act.put, List.setIfInBounds_toArray, List.set_cons_succ, List.set_cons_zero]; rfl)) ?_) | (refine Cop.og_ld rfl rfl HSa 24 _ rfl (.pointer (some ⟨g, 2, none⟩)) rfl (.agg (bv older)) (fun w9 h9 => load_mid (h9.row 0 rfl) 2 (bv older) (clv_o ho) 24 Tryd.underlying24 rfl (dgS ho)) _ (by (simp only [Act.put, List.setIfInBounds_toArray, List.set_cons_succ, List.set_cons_zero]; rfl)) ?_) | (refine Cop.og_ld rfl rfl HSa 24 _ rfl (.pointer (some ⟨g, 34, none⟩)) rfl (.agg (bv newer)) (fun w9 h9 => load_mid (h9.row 0 rfl) 34 (bv newer) (clv_n ho hn) 24 Tryd.underlying24 rfl (dgS hn)) _ (by (simp only [Act.put, List.setIfInBounds_toArray, List.set_cons_succ, List.set_cons_zero]; rfl)) ?_) | (refine Cop.og_take rfl rfl HSa ?_; apply Exists.intro; refine ⟨fun w9 h9 => ?_, _, by (simp only [Act.put, List.setIfInBounds_toArray, List.set_cons_succ, List.set_cons_zero]; rfl), ?_⟩; (obtain ⟨c0, c1, c2, c3, c4, c5, c6, c7⟩ := clm_cells ho hn (h9.row 0 rfl); go_simp; with_reducible rfl))))
  refine Cop.og_run rfl rfl ?_
  refine ow_call 31 _ _ (fun w' => Below wa.heap.size wa w') (by go_simp) (H1.out wa _ HSa.hb (HSa.rd 1 rfl)) ?_
  intro wb bb
  have HSb := HSa.keep bb
  clear HSa
  refine ⟨fun _ => HSb, ?_⟩
  by_cases hF : F = 0
  · subst hF
    (repeat (first | (refine Cop.og_skip rfl rfl HSb _ (by (simp only [Act.put, List.setIfInBounds_toArray, List.set_cons_succ, List.set_cons_zero]; rfl)) ?_) | (refine Cop.og_ld rfl rfl HSb 24 _ rfl (.pointer (some ⟨g, 2, none⟩)) rfl (.agg (bv older)) (fun w9 h9 => load_mid (h9.row 0 rfl) 2 (bv older) (clv_o ho) 24 Tryd.underlying24 rfl (dgS ho)) _ (by (simp only [Act.put, List.setIfInBounds_toArray, List.set_cons_succ, List.set_cons_zero]; rfl)) ?_) | (refine Cop.og_ld rfl rfl HSb 24 _ rfl (.pointer (some ⟨g, 34, none⟩)) rfl (.agg (bv newer)) (fun w9 h9 => load_mid (h9.row 0 rfl) 34 (bv newer) (clv_n ho hn) 24 Tryd.underlying24 rfl (dgS hn)) _ (by (simp only [Act.put, List.setIfInBounds_toArray, List.set_cons_succ, List.set_cons_zero]; rfl)) ?_) | (refine Cop.og_take rfl rfl HSb ?_; apply Exists.intro; refine ⟨fun w9 h9 => ?_, _, by (simp only [Act.put, List.setIfInBounds_toArray, List.set_cons_succ, List.set_cons_zero]; rfl), ?_⟩; (obtain ⟨c0, c1, c2, c3, c4, c5, c6, c7⟩ := clm_cells ho hn (h9.row 0 rfl); go_simp; with_reducible rfl))))
    refine Cop.og_run rfl rfl ?_
    refine ow_call 12 _ _ (fun w' => Below wb.heap.size wb w') (by go_simp) (H4.out wb _ HSb.hb (HSb.rd 2 rfl)) ?_
    intro wc bc
    have HSc := HSb.keep bc
    clear HSb
    refine ⟨fun _ => HSc, ?_⟩
    (repeat (first | (refine Cop.og_skip rfl rfl HSc _ (by (simp only [Act.put, List.setIfInBounds_toArray, List.set_cons_succ, List.set_cons_zero]; rfl)) ?_) | (refine Cop.og_ld rfl rfl HSc 24 _ rfl (.pointer (some ⟨g, 2, none⟩)) rfl (.agg (bv older)) (fun w9 h9 => load_mid (h9.row 0 rfl) 2 (bv older) (clv_o ho) 24 Tryd.underlying24 rfl (dgS ho)) _ (by (simp only [Act.put, List.setIfInBounds_toArray, List.set_cons_succ, List.set_cons_zero]; rfl)) ?_) | (refine Cop.og_ld rfl rfl HSc 24 _ rfl (.pointer (some ⟨g, 34, none⟩)) rfl (.agg (bv newer)) (fun w9 h9 => load_mid (h9.row 0 rfl) 34 (bv newer) (clv_n ho hn) 24 Tryd.underlying24 rfl (dgS hn)) _ (by (simp only [Act.put, List.setIfInBounds_toArray, List.set_cons_succ, List.set_cons_zero]; rfl)) ?_) | (refine Cop.og_take rfl rfl HSc ?_; apply Exists.intro; refine ⟨fun w9 h9 => ?_, _, by (simp only [Act.put, List.setIfInBounds_toArray, List.set_cons_succ, List.set_cons_zero]; rfl), ?_⟩; (obtain ⟨c0, c1, c2, c3, c4, c5, c6, c7⟩ := clm_cells ho hn (h9.row 0 rfl); go_simp; with_reducible rfl))))
    refine Cop.og_run rfl rfl ?_
    refine ow_call 32 _ _ (fun w' => Below wc.heap.size wc w') (by go_simp) (H2.out wc _ HSc.hb (HSc.rd 4 rfl)) ?_
    intro wd bd
    have HSd := HSc.keep bd
    clear HSc
    refine ⟨fun _ => HSd, ?_⟩
    by_cases hG : G = 0
    · subst hG
      (repeat (first | (refine Cop.og_skip rfl rfl HSd _ (by (simp only [Act.put, List.setIfInBounds_toArray, List.set_cons_succ, List.set_cons_zero]; rfl)) ?_) | (refine Cop.og_ld rfl rfl HSd 24 _ rfl (.pointer (some ⟨g, 2, none⟩)) rfl (.agg (bv older)) (fun w9 h9 => load_mid (h9.row 0 rfl) 2 (bv older) (clv_o ho) 24 Tryd.underlying24 rfl (dgS ho)) _ (by (simp only [Act.put, List.setIfInBounds_toArray, List.set_cons_succ, List.set_cons_zero]; rfl)) ?_) | (refine Cop.og_ld rfl rfl HSd 24 _ rfl (.pointer (some ⟨g, 34, none⟩)) rfl (.agg (bv newer)) (fun w9 h9 => load_mid (h9.row 0 rfl) 34 (bv newer) (clv_n ho hn) 24 Tryd.underlying24 rfl (dgS hn)) _ (by (simp only [Act.put, List.setIfInBounds_toArray, List.set_cons_succ, List.set_cons_zero]; rfl)) ?_) | (refine Cop.og_take rfl rfl HSd ?_; apply Exists.intro; refine ⟨fun w9 h9 => ?_, _, by (simp only [Act.put, List.setIfInBounds_toArray, List.set_cons_succ, List.set_cons_zero]; rfl), ?_⟩; (obtain ⟨c0, c1, c2, c3, c4, c5, c6, c7⟩ := clm_cells ho hn (h9.row 0 rfl); go_simp; with_reducible rfl))))
      refine Cop.og_run rfl rfl ?_
      refine ow_call 12 _ _ (fun w' => Below wd.heap.size wd w') (by go_simp) (H5.out wd _ HSd.hb (HSd.rd 3 rfl)) ?_
      intro we be
      have HSe := HSd.keep be
      clear HSd
      refine ⟨fun _ => HSe, ?_⟩
      (repeat (first | (refine Cop.og_skip rfl rfl HSe _ (by (simp only [Act.put, List.setIfInBounds_toArray, List.set_cons_succ, List.set_cons_zero]; rfl)) ?_) | (refine Cop.og_ld rfl rfl HSe 24 _ rfl (.pointer (some ⟨g, 2, none⟩)) rfl (.agg (bv older)) (fun w9 h9 => load_mid (h9.row 0 rfl) 2 (bv older) (clv_o ho) 24 Tryd.underlying24 rfl (dgS ho)) _ (by (simp only [Act.put, List.setIfInBounds_toArray, List.set_cons_succ, List.set_cons_zero]; rfl)) ?_) | (refine Cop.og_ld rfl rfl HSe 24 _ rfl (.pointer (some ⟨g, 34, none⟩)) rfl (.agg (bv newer)) (fun w9 h9 => load_mid (h9.row 0 rfl) 34 (bv newer) (clv_n ho hn) 24 Tryd.underlying24 rfl (dgS hn)) _ (by (simp only [Act.put, List.setIfInBounds_toArray, List.set_cons_succ, List.set_cons_zero]; rfl)) ?_) | (refine Cop.og_take rfl rfl HSe ?_; apply Exists.intro; refine ⟨fun w9 h9 => ?_, _, by (simp only [Act.put, List.setIfInBounds_toArray, List.set_cons_succ, List.set_cons_zero]; rfl), ?_⟩; (obtain ⟨c0, c1, c2, c3, c4, c5, c6, c7⟩ := clm_cells ho hn (h9.row 0 rfl); go_simp; with_reducible rfl))))
      refine Cop.og_run rfl rfl ?_
      refine ow_call 32 _ _ (fun w' => Below we.heap.size we w') (by go_simp) (H3.out we _ HSe.hb (HSe.rd 5 rfl)) ?_
      intro wf bf
      have HSf := HSe.keep bf
      clear HSe
      refine ⟨fun _ => HSf, ?_⟩
      (repeat (first | (refine Cop.og_skip rfl rfl HSf _ (by (simp only [Act.put, List.setIfInBounds_toArray, List.set_cons_succ, List.set_cons_zero]; rfl)) ?_) | (refine Cop.og_ld rfl rfl HSf 24 _ rfl (.pointer (some ⟨g, 2, none⟩)) rfl (.agg (bv older)) (fun w9 h9 => load_mid (h9.row 0 rfl) 2 (bv older) (clv_o ho) 24 Tryd.underlying24 rfl (dgS ho)) _ (by (simp only [Act.put, List.setIfInBounds_toArray, List.set_cons_succ, List.set_cons_zero]; rfl)) ?_) | (refine Cop.og_ld rfl rfl HSf 24 _ rfl (.pointer (some ⟨g, 34, none⟩)) rfl (.agg (bv newer)) (fun w9 h9 => load_mid (h9.row 0 rfl) 34 (bv newer) (clv_n ho hn) 24 Tryd.underlying24 rfl (dgS hn)) _ (by (simp only [Act.put, List.setIfInBounds_toArray, List.set_cons_succ, List.set_cons_zero]; rfl)) ?_) | (refine Cop.og_take rfl rfl HSf ?_; apply Exists.intro; refine ⟨fun w9 h9 => ?_, _, by (simp only [Act.put, List.setIfInBounds_toArray, List.set_cons_succ, List.set_cons_zero]; rfl), ?_⟩; (obtain ⟨c0, c1, c2, c3, c4, c5, c6, c7⟩ := clm_cells ho hn (h9.row 0 rfl); go_simp; with_reducible rfl))))
      refine og_fin ?_
      have hb := HB.out
      simp only [beq_self_eq_true, Bool.true_and] at hb
      subst hb
      go_wp2
      go_ret
      exact ⟨rfl, HSf.hb⟩
    · have HG := Lib.hid (beq_eq_false_iff_ne.2 hG)
      (repeat (first | (refine Cop.og_skip rfl rfl HSd _ (by (simp only [Act.put, List.setIfInBounds_toArray, List.set_cons_succ, List.set_cons_zero]; rfl)) ?_) | (refine Cop.og_ld rfl rfl HSd 24 _ rfl (.pointer (some ⟨g, 2, none⟩)) rfl (.agg (bv older)) (fun w9 h9 => load_mid (h9.row 0 rfl) 2 (bv older) (clv_o ho) 24 Tryd.underlying24 rfl (dgS ho)) _ (by (simp only [Act.put, List.setIfInBounds_toArray, List.set_cons_succ, List.set_cons_zero]; rfl)) ?_) | (refine Cop.og_ld rfl rfl HSd 24 _ rfl (.pointer (some ⟨g, 34, none⟩)) rfl (.agg (bv newer)) (fun w9 h9 => load_mid (h9.row 0 rfl) 34 (bv newer) (clv_n ho hn) 24 Tryd.underlying24 rfl (dgS hn)) _ (by (simp only [Act.put, List.setIfInBounds_toArray, List.set_cons_succ, List.set_cons_zero]; rfl)) ?_) | (refine Cop.og_take rfl rfl HSd ?_; apply Exists.intro; refine ⟨fun w9 h9 => ?_, _, by (simp only [Act.put, List.setIfInBounds_toArray, List.set_cons_succ, List.set_cons_zero]; rfl), ?_⟩; (have hd := HG.out; obtain ⟨c0, c1, c2, c3, c4, c5, c6, c7⟩ := clm_cells ho hn (h9.row 0 rfl); go_simp; with_reducible rfl))))
      refine Cop.og_rskip rfl rfl HSd _ (by (simp only [Act.put, List.setIfInBounds_toArray, List.set_cons_succ, List.set_cons_zero]; rfl)) ?_
      (repeat (first | (refine Cop.og_skip rfl rfl HSd _ (by (simp only [Act.put, List.setIfInBounds_toArray, List.set_cons_succ, List.set_cons_zero]; rfl)) ?_) | (refine Cop.og_ld rfl rfl HSd 24 _ rfl (.pointer (some ⟨g, 2, none⟩)) rfl (.agg (bv older)) (fun w9 h9 => load_mid (h9.row 0 rfl) 2 (bv older) (clv_o ho) 24 Tryd.underlying24 rfl (dgS ho)) _ (by (simp only [Act.put, List.setIfInBounds_toArray, List.set_cons_succ, List.set_cons_zero]; rfl)) ?_) | (refine Cop.og_ld rfl rfl HSd 24 _ rfl (.pointer (some ⟨g, 34, none⟩)) rfl (.agg (bv newer)) (fun w9 h9 => load_mid (h9.row 0 rfl) 34 (bv newer) (clv_n ho hn) 24 Tryd.underlying24 rfl (dgS hn)) _ (by (simp only [Act.put, List.setIfInBounds_toArray, List.set_cons_succ, List.set_cons_zero]; rfl)) ?_) | (refine Cop.og_take rfl rfl HSd ?_; apply Exists.intro; refine ⟨fun w9 h9 => ?_, _, by (simp only [Act.put, List.setIfInBounds_toArray, List.set_cons_succ, List.set_cons_zero]; rfl), ?_⟩; (obtain ⟨c0, c1, c2, c3, c4, c5, c6, c7⟩ := clm_cells ho hn (h9.row 0 rfl); go_simp; with_reducible rfl))))
      refine Cop.og_rskip rfl rfl HSd _ (by (simp only [Act.put, List.setIfInBounds_toArray, List.set_cons_succ, List.set_cons_zero]; rfl)) ?_
      (repeat (first | (refine Cop.og_skip rfl rfl HSd _ (by (simp only [Act.put, List.setIfInBounds_toArray, List.set_cons_succ, List.set_cons_zero]; rfl)) ?_) | (refine Cop.og_ld rfl rfl HSd 24 _ rfl (.pointer (some ⟨g, 2, none⟩)) rfl (.agg (bv older)) (fun w9 h9 => load_mid (h9.row 0 rfl) 2 (bv older) (clv_o ho) 24 Tryd.underlying24 rfl (dgS ho)) _ (by (simp only [Act.put, List.setIfInBounds_toArray, List.set_cons_succ, List.set_cons_zero]; rfl)) ?_) | (refine Cop.og_ld rfl rfl HSd 24 _ rfl (.pointer (some ⟨g, 34, none⟩)) rfl (.agg (bv newer)) (fun w9 h9 => load_mid (h9.row 0 rfl) 34 (bv newer) (clv_n ho hn) 24 Tryd.underlying24 rfl (dgS hn)) _ (by (simp only [Act.put, List.setIfInBounds_toArray, List.set_cons_succ, List.set_cons_zero]; rfl)) ?_) | (refine Cop.og_take rfl rfl HSd ?_; apply Exists.intro; refine ⟨fun w9 h9 => ?_, _, by (simp only [Act.put, List.setIfInBounds_toArray, List.set_cons_succ, List.set_cons_zero]; rfl), ?_⟩; (obtain ⟨c0, c1, c2, c3, c4, c5, c6, c7⟩ := clm_cells ho hn (h9.row 0 rfl); go_simp; with_reducible rfl))))
      refine og_fin ?_
      have hb := HB.out
      simp only [HG.out, beq_self_eq_true, Bool.true_and, Bool.false_and] at hb
      subst hb
      go_wp2
      go_ret
      exact ⟨rfl, HSd.hb⟩
  · have HF := Lib.hid (beq_eq_false_iff_ne.2 hF)
    (repeat (first | (refine Cop.og_skip rfl rfl HSb _ (by (simp only [Act.put, List.setIfInBounds_toArray, List.set_cons_succ, List.set_cons_zero]; rfl)) ?_) | (refine Cop.og_ld rfl rfl HSb 24 _ rfl (.pointer (some ⟨g, 2, none⟩)) rfl (.agg (bv older)) (fun w9 h9 => load_mid (h9.row 0 rfl) 2 (bv older) (clv_o ho) 24 Tryd.underlying24 rfl (dgS ho)) _ (by (simp only [Act.put, List.setIfInBounds_toArray, List.set_cons_succ, List.set_cons_zero]; rfl)) ?_) | (refine Cop.og_ld rfl rfl HSb 24 _ rfl (.pointer (some ⟨g, 34, none⟩)) rfl (.agg (bv newer)) (fun w9 h9 => load_mid (h9.row 0 rfl) 34 (bv newer) (clv_n ho hn) 24 Tryd.underlying24 rfl (dgS hn)) _ (by (simp only [Act.put, List.setIfInBounds_toArray, List.set_cons_succ, List.set_cons_zero]; rfl)) ?_) | (refine Cop.og_take rfl rfl HSb ?_; apply Exists.intro; refine ⟨fun w9 h9 => ?_, _, by (simp only [Act.put, List.setIfInBounds_toArray, List.set_cons_succ, List.set_cons_zero]; rfl), ?_⟩; (have hd := HF.out; obtain ⟨c0, c1, c2, c3, c4, c5, c6, c7⟩ := clm_cells ho hn (h9.row 0 rfl); go_simp; with_reducible rfl))))
    refine Cop.og_rskip rfl rfl HSb _ (by (simp only [Act.put, List.setIfInBounds_toArray, List.set_cons_succ, List.set_cons_zero]; rfl)) ?_
    (repeat (first | (refine Cop.og_skip rfl rfl HSb _ (by (simp only [Act.put, List.setIfInBounds_toArray, List.set_cons_succ, List.set_cons_zero]; rfl)) ?_) | (refine Cop.og_ld rfl rfl HSb 24 _ rfl (.pointer (some ⟨g, 2, none⟩)) rfl (.agg (bv older)) (fun w9 h9 => load_mid (h9.row 0 rfl) 2 (bv older) (clv_o ho) 24 Tryd.underlying24 rfl (dgS ho)) _ (by (simp only [Act.put, List.setIfInBounds_toArray, List.set_cons_succ, List.set_cons_zero]; rfl)) ?_) | (refine Cop.og_ld rfl rfl HSb 24 _ rfl (.pointer (some ⟨g, 34, none⟩)) rfl (.agg (bv newer)) (fun w9 h9 => load_mid (h9.row 0 rfl) 34 (bv newer) (clv_n ho hn) 24 Tryd.underlying24 rfl (dgS hn)) _ (by (simp only [Act.put, List.setIfInBounds_toArray, List.set_cons_succ, List.set_cons_zero]; rfl)) ?_) | (refine Cop.og_take rfl rfl HSb ?_; apply Exists.intro; refine ⟨fun w9 h9 => ?_, _, by (simp only [Act.put, List.setIfInBounds_toArray, List.set_cons_succ, List.set_cons_zero]; rfl), ?_⟩; (obtain ⟨c0, c1, c2, c3, c4, c5, c6, c7⟩ := clm_cells ho hn (h9.row 0 rfl); go_simp; with_reducible rfl))))
    refine Cop.og_rskip rfl rfl HSb _ (by (simp only [Act.put, List.setIfInBounds_toArray, List.set_cons_succ, List.set_cons_zero]; rfl)) ?_
    (repeat (first | (refine Cop.og_skip rfl rfl HSb _ (by (simp only [Act.put, List.setIfInBounds_toArray, List.set_cons_succ, List.set_cons_zero]; rfl)) ?_) | (refine Cop.og_ld rfl rfl HSb 24 _ rfl (.pointer (some ⟨g, 2, none⟩)) rfl (.agg (bv older)) (fun w9 h9 => load_mid (h9.row 0 rfl) 2 (bv older) (clv_o ho) 24 Tryd.underlying24 rfl (dgS ho)) _ (by (simp only [Act.put, List.setIfInBounds_toArray, List.set_cons_succ, List.set_cons_zero]; rfl)) ?_) | (refine Cop.og_ld rfl rfl HSb 24 _ rfl (.pointer (some ⟨g, 34, none⟩)) rfl (.agg (bv newer)) (fun w9 h9 => load_mid (h9.row 0 rfl) 34 (bv newer) (clv_n ho hn) 24 Tryd.underlying24 rfl (dgS hn)) _ (by (simp only [Act.put, List.setIfInBounds_toArray, List.set_cons_succ, List.set_cons_zero]; rfl)) ?_) | (refine Cop.og_take rfl rfl HSb ?_; apply Exists.intro; refine ⟨fun w9 h9 => ?_, _, by (simp only [Act.put, List.setIfInBounds_toArray, List.set_cons_succ, List.set_cons_zero]; rfl), ?_⟩; (obtain ⟨c0, c1, c2, c3, c4, c5, c6, c7⟩ := clm_cells ho hn (h9.row 0 rfl); go_simp; with_reducible rfl))))
    refine Cop.og_rskip rfl rfl HSb _ (by (simp only [Act.put, List.setIfInBounds_toArray, List.set_cons_succ, List.set_cons_zero]; rfl)) ?_
    (repeat (first | (refine Cop.og_skip rfl rfl HSb _ (by (simp only [Act.put, List.setIfInBounds_toArray, List.set_cons_succ, List.set_cons_zero]; rfl)) ?_) | (refine Cop.og_ld rfl rfl HSb 24 _ rfl (.pointer (some ⟨g, 2, none⟩)) rfl (.agg (bv older)) (fun w9 h9 => load_mid (h9.row 0 rfl) 2 (bv older) (clv_o ho) 24 Tryd.underlying24 rfl (dgS ho)) _ (by (simp only [Act.put, List.setIfInBounds_toArray, List.set_cons_succ, List.set_cons_zero]; rfl)) ?_) | (refine Cop.og_ld rfl rfl HSb 24 _ rfl (.pointer (some ⟨g, 34, none⟩)) rfl (.agg (bv newer)) (fun w9 h9 => load_mid (h9.row 0 rfl) 34 (bv newer) (clv_n ho hn) 24 Tryd.underlying24 rfl (dgS hn)) _ (by (simp only [Act.put, List.setIfInBounds_toArray, List.set_cons_succ, List.set_cons_zero]; rfl)) ?_) | (refine Cop.og_take rfl rfl HSb ?_; apply Exists.intro; refine ⟨fun w9 h9 => ?_, _, by (simp only [Act.put, List.setIfInBounds_toArray, List.set_cons_succ, List.set_cons_zero]; rfl), ?_⟩; (obtain ⟨c0, c1, c2, c3, c4, c5, c6, c7⟩ := clm_cells ho hn (h9.row 0 rfl); go_simp; with_reducible rfl))))
    refine Cop.og_rskip rfl rfl HSb _ (by (simp only [Act.put, List.setIfInBounds_toArray, List.set_cons_succ, List.set_cons_zero]; rfl)) ?_
    (repeat (first | (refine Cop.og_skip rfl rfl HSb _ (by (simp only [Act.put, List.setIfInBounds_toArray, List.set_cons_succ, List.set_cons_zero]; rfl)) ?_) | (refine Cop.og_ld rfl rfl HSb 24 _ rfl (.pointer (some ⟨g, 2, none⟩)) rfl (.agg (bv older)) (fun w9 h9 => load_mid (h9.row 0 rfl) 2 (bv older) (clv_o ho) 24 Tryd.underlying24 rfl (dgS ho)) _ (by (simp only [Act.put, List.setIfInBounds_toArray, List.set_cons_succ, List.set_cons_zero]; rfl)) ?_) | (refine Cop.og_ld rfl rfl HSb 24 _ rfl (.pointer (some ⟨g, 34, none⟩)) rfl (.agg (bv newer)) (fun w9 h9 => load_mid (h9.row 0 rfl) 34 (bv newer) (clv_n ho hn) 24 Tryd.underlying24 rfl (dgS hn)) _ (by (simp only [Act.put, List.setIfInBounds_toArray, List.set_cons_succ, List.set_cons_zero]; rfl)) ?_) | (refine Cop.og_take rfl rfl HSb ?_; apply Exists.intro; refine ⟨fun w9 h9 => ?_, _, by (simp only [Act.put, List.setIfInBounds_toArray, List.set_cons_succ, List.set_cons_zero]; rfl), ?_⟩; (obtain ⟨c0, c1, c2, c3, c4, c5, c6, c7⟩ := clm_cells ho hn (h9.row 0 rfl); go_simp; with_reducible rfl))))
    refine og_fin ?_
    have hb := HB.out
    simp only [HF.out, Bool.false_and] at hb
    subst hb
    go_wp2
    go_ret
    exact ⟨rfl, HSb.hb⟩
set_option maxRecDepth 100000 in
set_option maxHeartbeats 4000000 in
theorem accr_gen (m n i : Int) (older newer x y LX LY : List UInt8) (s p q : List (List UInt8)) (As Ap Aq Ax Ay : Option Addr) (cs cp cq cx cy : Nat) (F G K : Int) (w : World) (ho : older.length = 32) (hn : newer.length = 32) (hlx : LX.length = 32) (hly : LY.length = 32)
    (hs : Rd w (.slice As s.length cs) s.length 32 (dcs s)) (hx : Rd w (.slice Ax x.length cx) x.length 1 (bl x)) (hy : Rd w (.slice Ay y.length cy) y.length 1 (bl y)) (hp : Rd w (.slice Ap p.length cp) p.length 32 (dcs p)) (hq : Rd w (.slice Aq q.length cq) q.length 32 (dcs q))
    (h1 : ∀ w' v, Below w.heap.size w w' → Rd w' v s.length 32 (dcs s) → Gives 42 #[.int .i64 m, .int .i64 n, .agg (bv older), .agg (bv newer), v] w' (.int .i64 F))
    (h2 : ∀ w' v, Below w.heap.size w w' → Rd w' v p.length 32 (dcs p) → Gives 43 #[.agg (bv LX), .int .i64 i, .int .i64 m, v, .agg (bv older)] w' (.int .i64 G))
    (h3 : ∀ w' v, Below w.heap.size w w' → Rd w' v q.length 32 (dcs q) → Gives 43 #[.agg (bv LY), .int .i64 i, .int .i64 n, v, .agg (bv newer)] w' (.int .i64 K))
    (h4 : ∀ w' v, Below w.heap.size w w' → Rd w' v x.length 1 (bl x) → Gives 44 #[v] w' (.agg (bv LX)))
    (h5 : ∀ w' v, Below w.heap.size w w' → Rd w' v y.length 1 (bl y) → Gives 44 #[v] w' (.agg (bv LY))) :
    Gives 17 #[.agg (clv m n older newer (.slice As s.length cs) i (.slice Ax x.length cx) (.slice Ay y.length cy) (.slice Ap p.length cp) (.slice Aq q.length cq))] w (.bool ((F == 0) && ((G == 0) && (K == 0)))) := by
  have H1 := Lib.hid h1
  have H2 := Lib.hid h2
  have H3 := Lib.hid h3
  have H4 := Lib.hid h4
  have H5 := Lib.hid h5
  have HS0 := (((((Sep.start w).arg0 hq).arg0 hp).arg0 hy).arg0 hx).arg0 hs
  clear h1 h2 h3 h4 h5 hs hx hy hp hq
  obtain ⟨b, hb⟩ : ∃ b, ((F == 0) && ((G == 0) && (K == 0))) = b := ⟨_, rfl⟩
  rw [hb]
  have HB := Lib.hid hb
  clear hb
  go_enter Tryd.func17, Tryd.ntmps17
  go_wp2_with (first | refine wl_bx HS0 rfl 37 _ rfl (clv m n older newer (.slice As s.length cs) i (.slice Ax x.length cx) (.slice Ay y.length cy) (.slice Ap p.length cp) (.slice Aq q.length cq)) rfl ?_)
  intro g w1 HS1
  clear HS0
  go_wp2
  refine Cop.region_ord (fun w' => Sep w.heap.size w w' [.row g (clv m n older newer (.slice As s.length cs) i (.slice Ax x.length cx) (.slice Ay y.length cy) (.slice Ap p.length cp) (.slice Aq q.length cq)) 37, .rd (.slice As s.length cs) s.length 32 (dcs s), .rd (.slice Ax x.length cx) x.length 1 (bl x), .rd (.slice Ay y.length cy) y.length 1 (bl y), .rd (.slice Ap p.length cp) p.length 32 (dcs p), .rd (.slice Aq q.length cq) q.length 32 (dcs q)]) 42 (.take 0 (.take 1 (.take 2 (.take 3 (.take 4 (.take 5 (.take 6 (.take 7 (.take 8 (.take 9 (.run 10 (.take 11 (.take 12 (.take 13 (.take 14 (.take 16 (.take 17 (.take 18 (.take 19 (.take 20 (.take 21 (.take 22 (.take 23 (.run 15 (.run 24 (.take 25 (.take 26 (.take 27 (.take 28 (.take 29 (.take 31 (.take 32 (.take 33 (.take 34 (.take 35 (.take 36 (.take 37 (.take 38 (.run 30 (.run 39 (.take 40 (.take 41 (.take 42 Cop.Ord.fin))))))))))))))))))))))))))))))))))))))))))) (by kernel_rfl) (by kernel_rfl) (fun _ _ d _ _ h => by cases d <;> exact h) ?_
  intro wa hda
  have HSa := HS1.keep hda
  clear HS1
  (repeat (first | (refine Cop.og_skip rfl rfl HSa _ (by (simp only [Act.put, List.setIfInBounds_toArray, List.set_cons_succ, List.set_cons_zero]; rfl)) ?_) | (refine Cop.og_ld rfl rfl HSa 24 _ rfl (.pointer (some ⟨g, 2, none⟩)) rfl (.agg (bv older)) (fun w9 h9 => load_mid (h9.row 0 rfl) 2 (bv older) (clv_o ho) 24 Tryd.underlying24 rfl (dgS ho)) _ (by (simp only [Act.put, List.setIfInBounds_toArray, List.set_cons_succ, List.set_cons_zero]; rfl)) ?_) | (refine Cop.og_ld rfl rfl HSa 24 _ rfl (.pointer (some ⟨g, 34, none⟩)) rfl (.agg (bv newer)) (fun w9 h9 => load_mid (h9.row 0 rfl) 34 (bv newer) (clv_n ho hn) 24 Tryd.underlying24 rfl (dgS hn)) _ (by (simp only [Act.put, List.setIfInBounds_toArray, List.set_cons_succ, List.set_cons_zero]; rfl)) ?_) | (refine Cop.og_take rfl rfl HSa ?_; apply Exists.intro; refine ⟨fun w9 h9 => ?_, _, by (simp only [Act.put, List.setIfInBounds_toArray, List.set_cons_succ, List.set_cons_zero]; rfl), ?_⟩; (obtain ⟨c0, c1, c2, c3, c4, c5, c6, c7⟩ := clm_cells ho hn (h9.row 0 rfl); go_simp; with_reducible rfl))))
  refine Cop.og_run rfl rfl ?_
  refine ow_call 42 _ _ (fun w' => Below wa.heap.size wa w') (by go_simp) (H1.out wa _ HSa.hb (HSa.rd 1 rfl)) ?_
  intro wb bb
  have HSb := HSa.keep bb
  clear HSa
  refine ⟨fun _ => HSb, ?_⟩
  by_cases hF : F = 0
  · subst hF
    (repeat (first | (refine Cop.og_skip rfl rfl HSb _ (by (simp only [Act.put, List.setIfInBounds_toArray, List.set_cons_succ, List.set_cons_zero]; rfl)) ?_) | (refine Cop.og_ld rfl rfl HSb 24 _ rfl (.pointer (some ⟨g, 2, none⟩)) rfl (.agg (bv older)) (fun w9 h9 => load_mid (h9.row 0 rfl) 2 (bv older) (clv_o ho) 24 Tryd.underlying24 rfl (dgS ho)) _ (by (simp only [Act.put, List.setIfInBounds_toArray, List.set_cons_succ, List.set_cons_zero]; rfl)) ?_) | (refine Cop.og_ld rfl rfl HSb 24 _ rfl (.pointer (some ⟨g, 34, none⟩)) rfl (.agg (bv newer)) (fun w9 h9 => load_mid (h9.row 0 rfl) 34 (bv newer) (clv_n ho hn) 24 Tryd.underlying24 rfl (dgS hn)) _ (by (simp only [Act.put, List.setIfInBounds_toArray, List.set_cons_succ, List.set_cons_zero]; rfl)) ?_) | (refine Cop.og_take rfl rfl HSb ?_; apply Exists.intro; refine ⟨fun w9 h9 => ?_, _, by (simp only [Act.put, List.setIfInBounds_toArray, List.set_cons_succ, List.set_cons_zero]; rfl), ?_⟩; (obtain ⟨c0, c1, c2, c3, c4, c5, c6, c7⟩ := clm_cells ho hn (h9.row 0 rfl); go_simp; with_reducible rfl))))
    refine Cop.og_run rfl rfl ?_
    refine ow_call 44 _ _ (fun w' => Below wb.heap.size wb w') (by go_simp) (H4.out wb _ HSb.hb (HSb.rd 2 rfl)) ?_
    intro wc bc
    have HSc := HSb.keep bc
    clear HSb
    refine ⟨fun _ => HSc, ?_⟩
    (repeat (first | (refine Cop.og_skip rfl rfl HSc _ (by (simp only [Act.put, List.setIfInBounds_toArray, List.set_cons_succ, List.set_cons_zero]; rfl)) ?_) | (refine Cop.og_ld rfl rfl HSc 24 _ rfl (.pointer (some ⟨g, 2, none⟩)) rfl (.agg (bv older)) (fun w9 h9 => load_mid (h9.row 0 rfl) 2 (bv older) (clv_o ho) 24 Tryd.underlying24 rfl (dgS ho)) _ (by (simp only [Act.put, List.setIfInBounds_toArray, List.set_cons_succ, List.set_cons_zero]; rfl)) ?_) | (refine Cop.og_ld rfl rfl HSc 24 _ rfl (.pointer (some ⟨g, 34, none⟩)) rfl (.agg (bv newer)) (fun w9 h9 => load_mid (h9.row 0 rfl) 34 (bv newer) (clv_n ho hn) 24 Tryd.underlying24 rfl (dgS hn)) _ (by (simp only [Act.put, List.setIfInBounds_toArray, List.set_cons_succ, List.set_cons_zero]; rfl)) ?_) | (refine Cop.og_take rfl rfl HSc ?_; apply Exists.intro; refine ⟨fun w9 h9 => ?_, _, by (simp only [Act.put, List.setIfInBounds_toArray, List.set_cons_succ, List.set_cons_zero]; rfl), ?_⟩; (obtain ⟨c0, c1, c2, c3, c4, c5, c6, c7⟩ := clm_cells ho hn (h9.row 0 rfl); go_simp; with_reducible rfl))))
    refine Cop.og_run rfl rfl ?_
    refine ow_call 43 _ _ (fun w' => Below wc.heap.size wc w') (by go_simp) (H2.out wc _ HSc.hb (HSc.rd 4 rfl)) ?_
    intro wd bd
    have HSd := HSc.keep bd
    clear HSc
    refine ⟨fun _ => HSd, ?_⟩
    by_cases hG : G = 0
    · subst hG
      (repeat (first | (refine Cop.og_skip rfl rfl HSd _ (by (simp only [Act.put, List.setIfInBounds_toArray, List.set_cons_succ, List.set_cons_zero]; rfl)) ?_) | (refine Cop.og_ld rfl rfl HSd 24 _ rfl (.pointer (some ⟨g, 2, none⟩)) rfl (.agg (bv older)) (fun w9 h9 => load_mid (h9.row 0 rfl) 2 (bv older) (clv_o ho) 24 Tryd.underlying24 rfl (dgS ho)) _ (by (simp only [Act.put, List.setIfInBounds_toArray, List.set_cons_succ, List.set_cons_zero]; rfl)) ?_) | (refine Cop.og_ld rfl rfl HSd 24 _ rfl (.pointer (some ⟨g, 34, none⟩)) rfl (.agg (bv newer)) (fun w9 h9 => load_mid (h9.row 0 rfl) 34 (bv newer) (clv_n ho hn) 24 Tryd.underlying24 rfl (dgS hn)) _ (by (simp only [Act.put, List.setIfInBounds_toArray, List.set_cons_succ, List.set_cons_zero]; rfl)) ?_) | (refine Cop.og_take rfl rfl HSd ?_; apply Exists.intro; refine ⟨fun w9 h9 => ?_, _, by (simp only [Act.put, List.setIfInBounds_toArray, List.set_cons_succ, List.set_cons_zero]; rfl), ?_⟩; (obtain ⟨c0, c1, c2, c3, c4, c5, c6, c7⟩ := clm_cells ho hn (h9.row 0 rfl); go_simp; with_reducible rfl))))
      refine Cop.og_run rfl rfl ?_
      refine ow_call 44 _ _ (fun w' => Below wd.heap.size wd w') (by go_simp) (H5.out wd _ HSd.hb (HSd.rd 3 rfl)) ?_
      intro we be
      have HSe := HSd.keep be
      clear HSd
      refine ⟨fun _ => HSe, ?_⟩
      (repeat (first | (refine Cop.og_skip rfl rfl HSe _ (by (simp only [Act.put, List.setIfInBounds_toArray, List.set_cons_succ, List.set_cons_zero]; rfl)) ?_) | (refine Cop.og_ld rfl rfl HSe 24 _ rfl (.pointer (some ⟨g, 2, none⟩)) rfl (.agg (bv older)) (fun w9 h9 => load_mid (h9.row 0 rfl) 2 (bv older) (clv_o ho) 24 Tryd.underlying24 rfl (dgS ho)) _ (by (simp only [Act.put, List.setIfInBounds_toArray, List.set_cons_succ, List.set_cons_zero]; rfl)) ?_) | (refine Cop.og_ld rfl rfl HSe 24 _ rfl (.pointer (some ⟨g, 34, none⟩)) rfl (.agg (bv newer)) (fun w9 h9 => load_mid (h9.row 0 rfl) 34 (bv newer) (clv_n ho hn) 24 Tryd.underlying24 rfl (dgS hn)) _ (by (simp only [Act.put, List.setIfInBounds_toArray, List.set_cons_succ, List.set_cons_zero]; rfl)) ?_) | (refine Cop.og_take rfl rfl HSe ?_; apply Exists.intro; refine ⟨fun w9 h9 => ?_, _, by (simp only [Act.put, List.setIfInBounds_toArray, List.set_cons_succ, List.set_cons_zero]; rfl), ?_⟩; (obtain ⟨c0, c1, c2, c3, c4, c5, c6, c7⟩ := clm_cells ho hn (h9.row 0 rfl); go_simp; with_reducible rfl))))
      refine Cop.og_run rfl rfl ?_
      refine ow_call 43 _ _ (fun w' => Below we.heap.size we w') (by go_simp) (H3.out we _ HSe.hb (HSe.rd 5 rfl)) ?_
      intro wf bf
      have HSf := HSe.keep bf
      clear HSe
      refine ⟨fun _ => HSf, ?_⟩
      (repeat (first | (refine Cop.og_skip rfl rfl HSf _ (by (simp only [Act.put, List.setIfInBounds_toArray, List.set_cons_succ, List.set_cons_zero]; rfl)) ?_) | (refine Cop.og_ld rfl rfl HSf 24 _ rfl (.pointer (some ⟨g, 2, none⟩)) rfl (.agg (bv older)) (fun w9 h9 => load_mid (h9.row 0 rfl) 2 (bv older) (clv_o ho) 24 Tryd.underlying24 rfl (dgS ho)) _ (by (simp only [Act.put, List.setIfInBounds_toArray, List.set_cons_succ, List.set_cons_zero]; rfl)) ?_) | (refine Cop.og_ld rfl rfl HSf 24 _ rfl (.pointer (some ⟨g, 34, none⟩)) rfl (.agg (bv newer)) (fun w9 h9 => load_mid (h9.row 0 rfl) 34 (bv newer) (clv_n ho hn) 24 Tryd.underlying24 rfl (dgS hn)) _ (by (simp only [Act.put, List.setIfInBounds_toArray, List.set_cons_succ, List.set_cons_zero]; rfl)) ?_) | (refine Cop.og_take rfl rfl HSf ?_; apply Exists.intro; refine ⟨fun w9 h9 => ?_, _, by (simp only [Act.put, List.setIfInBounds_toArray, List.set_cons_succ, List.set_cons_zero]; rfl), ?_⟩; (obtain ⟨c0, c1, c2, c3, c4, c5, c6, c7⟩ := clm_cells ho hn (h9.row 0 rfl); go_simp; with_reducible rfl))))
      refine og_fin ?_
      have hb := HB.out
      simp only [beq_self_eq_true, Bool.true_and] at hb
      subst hb
      go_wp2
      go_ret
      exact ⟨rfl, HSf.hb⟩
    · have HG := Lib.hid (beq_eq_false_iff_ne.2 hG)
      (repeat (first | (refine Cop.og_skip rfl rfl HSd _ (by (simp only [Act.put, List.setIfInBounds_toArray, List.set_cons_succ, List.set_cons_zero]; rfl)) ?_) | (refine Cop.og_ld rfl rfl HSd 24 _ rfl (.pointer (some ⟨g, 2, none⟩)) rfl (.agg (bv older)) (fun w9 h9 => load_mid (h9.row 0 rfl) 2 (bv older) (clv_o ho) 24 Tryd.underlying24 rfl (dgS ho)) _ (by (simp only [Act.put, List.setIfInBounds_toArray, List.set_cons_succ, List.set_cons_zero]; rfl)) ?_) | (refine Cop.og_ld rfl rfl HSd 24 _ rfl (.pointer (some ⟨g, 34, none⟩)) rfl (.agg (bv newer)) (fun w9 h9 => load_mid (h9.row 0 rfl) 34 (bv newer) (clv_n ho hn) 24 Tryd.underlying24 rfl (dgS hn)) _ (by (simp only [Act.put, List.setIfInBounds_toArray, List.set_cons_succ, List.set_cons_zero]; rfl)) ?_) | (refine Cop.og_take rfl rfl HSd ?_; apply Exists.intro; refine ⟨fun w9 h9 => ?_, _, by (simp only [Act.put, List.setIfInBounds_toArray, List.set_cons_succ, List.set_cons_zero]; rfl), ?_⟩; (have hd := HG.out; obtain ⟨c0, c1, c2, c3, c4, c5, c6, c7⟩ := clm_cells ho hn (h9.row 0 rfl); go_simp; with_reducible rfl))))
      refine Cop.og_rskip rfl rfl HSd _ (by (simp only [Act.put, List.setIfInBounds_toArray, List.set_cons_succ, List.set_cons_zero]; rfl)) ?_
      (repeat (first | (refine Cop.og_skip rfl rfl HSd _ (by (simp only [Act.put, List.setIfInBounds_toArray, List.set_cons_succ, List.set_cons_zero]; rfl)) ?_) | (refine Cop.og_ld rfl rfl HSd 24 _ rfl (.pointer (some ⟨g, 2, none⟩)) rfl (.agg (bv older)) (fun w9 h9 => load_mid (h9.row 0 rfl) 2 (bv older) (clv_o ho) 24 Tryd.underlying24 rfl (dgS ho)) _ (by (simp only [Act.put, List.setIfInBounds_toArray, List.set_cons_succ, List.set_cons_zero]; rfl)) ?_) | (refine Cop.og_ld rfl rfl HSd 24 _ rfl (.pointer (some ⟨g, 34, none⟩)) rfl (.agg (bv newer)) (fun w9 h9 => load_mid (h9.row 0 rfl) 34 (bv newer) (clv_n ho hn) 24 Tryd.underlying24 rfl (dgS hn)) _ (by (simp only [Act.put, List.setIfInBounds_toArray, List.set_cons_succ, List.set_cons_zero]; rfl)) ?_) | (refine Cop.og_take rfl rfl HSd ?_; apply Exists.intro; refine ⟨fun w9 h9 => ?_, _, by (simp only [Act.put, List.setIfInBounds_toArray, List.set_cons_succ, List.set_cons_zero]; rfl), ?_⟩; (obtain ⟨c0, c1, c2, c3, c4, c5, c6, c7⟩ := clm_cells ho hn (h9.row 0 rfl); go_simp; with_reducible rfl))))
      refine Cop.og_rskip rfl rfl HSd _ (by (simp only [Act.put, List.setIfInBounds_toArray, List.set_cons_succ, List.set_cons_zero]; rfl)) ?_
      (repeat (first | (refine Cop.og_skip rfl rfl HSd _ (by (simp only [Act.put, List.setIfInBounds_toArray, List.set_cons_succ, List.set_cons_zero]; rfl)) ?_) | (refine Cop.og_ld rfl rfl HSd 24 _ rfl (.pointer (some ⟨g, 2, none⟩)) rfl (.agg (bv older)) (fun w9 h9 => load_mid (h9.row 0 rfl) 2 (bv older) (clv_o ho) 24 Tryd.underlying24 rfl (dgS ho)) _ (by (simp only [Act.put, List.setIfInBounds_toArray, List.set_cons_succ, List.set_cons_zero]; rfl)) ?_) | (refine Cop.og_ld rfl rfl HSd 24 _ rfl (.pointer (some ⟨g, 34, none⟩)) rfl (.agg (bv newer)) (fun w9 h9 => load_mid (h9.row 0 rfl) 34 (bv newer) (clv_n ho hn) 24 Tryd.underlying24 rfl (dgS hn)) _ (by (simp only [Act.put, List.setIfInBounds_toArray, List.set_cons_succ, List.set_cons_zero]; rfl)) ?_) | (refine Cop.og_take rfl rfl HSd ?_; apply Exists.intro; refine ⟨fun w9 h9 => ?_, _, by (simp only [Act.put, List.setIfInBounds_toArray, List.set_cons_succ, List.set_cons_zero]; rfl), ?_⟩; (obtain ⟨c0, c1, c2, c3, c4, c5, c6, c7⟩ := clm_cells ho hn (h9.row 0 rfl); go_simp; with_reducible rfl))))
      refine og_fin ?_
      have hb := HB.out
      simp only [HG.out, beq_self_eq_true, Bool.true_and, Bool.false_and] at hb
      subst hb
      go_wp2
      go_ret
      exact ⟨rfl, HSd.hb⟩
  · have HF := Lib.hid (beq_eq_false_iff_ne.2 hF)
    (repeat (first | (refine Cop.og_skip rfl rfl HSb _ (by (simp only [Act.put, List.setIfInBounds_toArray, List.set_cons_succ, List.set_cons_zero]; rfl)) ?_) | (refine Cop.og_ld rfl rfl HSb 24 _ rfl (.pointer (some ⟨g, 2, none⟩)) rfl (.agg (bv older)) (fun w9 h9 => load_mid (h9.row 0 rfl) 2 (bv older) (clv_o ho) 24 Tryd.underlying24 rfl (dgS ho)) _ (by (simp only [Act.put, List.setIfInBounds_toArray, List.set_cons_succ, List.set_cons_zero]; rfl)) ?_) | (refine Cop.og_ld rfl rfl HSb 24 _ rfl (.pointer (some ⟨g, 34, none⟩)) rfl (.agg (bv newer)) (fun w9 h9 => load_mid (h9.row 0 rfl) 34 (bv newer) (clv_n ho hn) 24 Tryd.underlying24 rfl (dgS hn)) _ (by (simp only [Act.put, List.setIfInBounds_toArray, List.set_cons_succ, List.set_cons_zero]; rfl)) ?_) | (refine Cop.og_take rfl rfl HSb ?_; apply Exists.intro; refine ⟨fun w9 h9 => ?_, _, by (simp only [Act.put, List.setIfInBounds_toArray, List.set_cons_succ, List.set_cons_zero]; rfl), ?_⟩; (have hd := HF.out; obtain ⟨c0, c1, c2, c3, c4, c5, c6, c7⟩ := clm_cells ho hn (h9.row 0 rfl); go_simp; with_reducible rfl))))
    refine Cop.og_rskip rfl rfl HSb _ (by (simp only [Act.put, List.setIfInBounds_toArray, List.set_cons_succ, List.set_cons_zero]; rfl)) ?_
    (repeat (first | (refine Cop.og_skip rfl rfl HSb _ (by (simp only [Act.put, List.setIfInBounds_toArray, List.set_cons_succ, List.set_cons_zero]; rfl)) ?_) | (refine Cop.og_ld rfl rfl HSb 24 _ rfl (.pointer (some ⟨g, 2, none⟩)) rfl (.agg (bv older)) (fun w9 h9 => load_mid (h9.row 0 rfl) 2 (bv older) (clv_o ho) 24 Tryd.underlying24 rfl (dgS ho)) _ (by (simp only [Act.put, List.setIfInBounds_toArray, List.set_cons_succ, List.set_cons_zero]; rfl)) ?_) | (refine Cop.og_ld rfl rfl HSb 24 _ rfl (.pointer (some ⟨g, 34, none⟩)) rfl (.agg (bv newer)) (fun w9 h9 => load_mid (h9.row 0 rfl) 34 (bv newer) (clv_n ho hn) 24 Tryd.underlying24 rfl (dgS hn)) _ (by (simp only [Act.put, List.setIfInBounds_toArray, List.set_cons_succ, List.set_cons_zero]; rfl)) ?_) | (refine Cop.og_take rfl rfl HSb ?_; apply Exists.intro; refine ⟨fun w9 h9 => ?_, _, by (simp only [Act.put, List.setIfInBounds_toArray, List.set_cons_succ, List.set_cons_zero]; rfl), ?_⟩; (obtain ⟨c0, c1, c2, c3, c4, c5, c6, c7⟩ := clm_cells ho hn (h9.row 0 rfl); go_simp; with_reducible rfl))))
    refine Cop.og_rskip rfl rfl HSb _ (by (simp only [Act.put, List.setIfInBounds_toArray, List.set_cons_succ, List.set_cons_zero]; rfl)) ?_
    (repeat (first | (refine Cop.og_skip rfl rfl HSb _ (by (simp only [Act.put, List.setIfInBounds_toArray, List.set_cons_succ, List.set_cons_zero]; rfl)) ?_) | (refine Cop.og_ld rfl rfl HSb 24 _ rfl (.pointer (some ⟨g, 2, none⟩)) rfl (.agg (bv older)) (fun w9 h9 => load_mid (h9.row 0 rfl) 2 (bv older) (clv_o ho) 24 Tryd.underlying24 rfl (dgS ho)) _ (by (simp only [Act.put, List.setIfInBounds_toArray, List.set_cons_succ, List.set_cons_zero]; rfl)) ?_) | (refine Cop.og_ld rfl rfl HSb 24 _ rfl (.pointer (some ⟨g, 34, none⟩)) rfl (.agg (bv newer)) (fun w9 h9 => load_mid (h9.row 0 rfl) 34 (bv newer) (clv_n ho hn) 24 Tryd.underlying24 rfl (dgS hn)) _ (by (simp only [Act.put, List.setIfInBounds_toArray, List.set_cons_succ, List.set_cons_zero]; rfl)) ?_) | (refine Cop.og_take rfl rfl HSb ?_; apply Exists.intro; refine ⟨fun w9 h9 => ?_, _, by (simp only [Act.put, List.setIfInBounds_toArray, List.set_cons_succ, List.set_cons_zero]; rfl), ?_⟩; (obtain ⟨c0, c1, c2, c3, c4, c5, c6, c7⟩ := clm_cells ho hn (h9.row 0 rfl); go_simp; with_reducible rfl))))
    refine Cop.og_rskip rfl rfl HSb _ (by (simp only [Act.put, List.setIfInBounds_toArray, List.set_cons_succ, List.set_cons_zero]; rfl)) ?_
    (repeat (first | (refine Cop.og_skip rfl rfl HSb _ (by (simp only [Act.put, List.setIfInBounds_toArray, List.set_cons_succ, List.set_cons_zero]; rfl)) ?_) | (refine Cop.og_ld rfl rfl HSb 24 _ rfl (.pointer (some ⟨g, 2, none⟩)) rfl (.agg (bv older)) (fun w9 h9 => load_mid (h9.row 0 rfl) 2 (bv older) (clv_o ho) 24 Tryd.underlying24 rfl (dgS ho)) _ (by (simp only [Act.put, List.setIfInBounds_toArray, List.set_cons_succ, List.set_cons_zero]; rfl)) ?_) | (refine Cop.og_ld rfl rfl HSb 24 _ rfl (.pointer (some ⟨g, 34, none⟩)) rfl (.agg (bv newer)) (fun w9 h9 => load_mid (h9.row 0 rfl) 34 (bv newer) (clv_n ho hn) 24 Tryd.underlying24 rfl (dgS hn)) _ (by (simp only [Act.put, List.setIfInBounds_toArray, List.set_cons_succ, List.set_cons_zero]; rfl)) ?_) | (refine Cop.og_take rfl rfl HSb ?_; apply Exists.intro; refine ⟨fun w9 h9 => ?_, _, by (simp only [Act.put, List.setIfInBounds_toArray, List.set_cons_succ, List.set_cons_zero]; rfl), ?_⟩; (obtain ⟨c0, c1, c2, c3, c4, c5, c6, c7⟩ := clm_cells ho hn (h9.row 0 rfl); go_simp; with_reducible rfl))))
    refine Cop.og_rskip rfl rfl HSb _ (by (simp only [Act.put, List.setIfInBounds_toArray, List.set_cons_succ, List.set_cons_zero]; rfl)) ?_
    (repeat (first | (refine Cop.og_skip rfl rfl HSb _ (by (simp only [Act.put, List.setIfInBounds_toArray, List.set_cons_succ, List.set_cons_zero]; rfl)) ?_) | (refine Cop.og_ld rfl rfl HSb 24 _ rfl (.pointer (some ⟨g, 2, none⟩)) rfl (.agg (bv older)) (fun w9 h9 => load_mid (h9.row 0 rfl) 2 (bv older) (clv_o ho) 24 Tryd.underlying24 rfl (dgS ho)) _ (by (simp only [Act.put, List.setIfInBounds_toArray, List.set_cons_succ, List.set_cons_zero]; rfl)) ?_) | (refine Cop.og_ld rfl rfl HSb 24 _ rfl (.pointer (some ⟨g, 34, none⟩)) rfl (.agg (bv newer)) (fun w9 h9 => load_mid (h9.row 0 rfl) 34 (bv newer) (clv_n ho hn) 24 Tryd.underlying24 rfl (dgS hn)) _ (by (simp only [Act.put, List.setIfInBounds_toArray, List.set_cons_succ, List.set_cons_zero]; rfl)) ?_) | (refine Cop.og_take rfl rfl HSb ?_; apply Exists.intro; refine ⟨fun w9 h9 => ?_, _, by (simp only [Act.put, List.setIfInBounds_toArray, List.set_cons_succ, List.set_cons_zero]; rfl), ?_⟩; (obtain ⟨c0, c1, c2, c3, c4, c5, c6, c7⟩ := clm_cells ho hn (h9.row 0 rfl); go_simp; with_reducible rfl))))
    refine og_fin ?_
    have hb := HB.out
    simp only [HF.out, Bool.false_and] at hb
    subst hb
    go_wp2
    go_ret
    exact ⟨rfl, HSb.hb⟩
end Go.Proofs.YtbjbdnlgoifamaaDoor
set_option linter.unusedVariables false
namespace Cop
open Go Go.RowKit
section
variable {P : Program} {ops : Array Oper} {Q : Exit → Act → World → Prop} {md : Region.Mode} {S : World → Prop} {z : Nat}
/-- Number i comes ahead of z. -/
def reachB (md : Region.Mode) (ops : Array Oper) (i : Nat) : Nat → Nat → Bool
  | 0, _ => false
  | f + 1, z => match ops[z]? with
    | some o => o.after.any fun e => Region.binds md e && (e.on == i || reachB md ops i f e.on)
    | none => false
/-- Number z comes ahead of those above. -/
def upB (md : Region.Mode) (ops : Array Oper) (z : Nat) : Bool :=
  (List.range' (z + 1) (ops.size - (z + 1))).all fun j => (List.range' z (j - z)).any fun k => match ops[j]? with
    | some o => o.after.any fun e => Region.binds md e && e.on == k
    | none => false
theorem reach_spec {listed : Array Bool} (hc : Closed md ops listed) {i : Nat} : ∀ (f z : Nat), reachB md ops i f z = true → Ahead md ops listed z → listed.getD i false = true
  | 0, _, h, _ => by cases h
  | f + 1, z, h, ⟨o, ho, hall⟩ => by
    unfold reachB at h
    rw [ho] at h
    obtain ⟨e, he, hb⟩ := Array.any_eq_true'.1 h
    simp only [Bool.and_eq_true, Bool.or_eq_true, beq_iff_eq] at hb
    have hl := hall e he hb.1
    rcases hb.2 with hb2 | hb2
    · rw [← hb2]; exact hl
    · have hs : e.on < ops.size := by
        rcases Nat.lt_or_ge e.on ops.size with h' | h'
        · exact h'
        · cases f with
          | zero => cases hb2
          | succ f => unfold reachB at hb2; rw [Array.getElem?_eq_none h'] at hb2; cases hb2
      exact reach_spec hc f e.on hb2 (ahead_listed hc hs hl)
theorem up_spec (h : upB md ops z = true) {listed : Array Bool} (hc : Closed md ops listed) : ∀ (n j : Nat), j ≤ n → z < j → Ahead md ops listed j → listed.getD z false = true := by
  intro n
  induction n with
  | zero => intro j h1 h2; omega
  | succ n ih =>
    rintro j h1 h2 ⟨o, ho, hall⟩
    have hj := (Array.getElem?_eq_some_iff.1 ho).1
    obtain ⟨k, hk, hk2⟩ := List.any_eq_true.1 (List.all_eq_true.1 h j (List.mem_range'.2 ⟨j - (z + 1), by omega, by omega⟩))
    obtain ⟨t, ht, rfl⟩ := List.mem_range'.1 hk
    rw [ho] at hk2
    obtain ⟨e, he, hb⟩ := Array.any_eq_true'.1 hk2
    simp only [Bool.and_eq_true, beq_iff_eq] at hb
    have hl := hall e he hb.1
    rw [hb.2] at hl
    by_cases h0 : t = 0
    · subst h0; simpa using hl
    · exact ih (z + 1 * t) (by omega) (by omega) (ahead_listed hc (by omega) hl)
theorem reach_all (h : upB md ops z = true) (hzs : z < ops.size) {listed : Array Bool} (hc : Closed md ops listed) {i j f : Nat} (hi : reachB md ops i f z = true) (hj : j ∈ Region.ready md ops listed) (hzj : z ≤ j) : listed.getD i false = true := by
  by_cases e : j = z
  · subst e; exact reach_spec hc f j hi (ahead_ready hj)
  · exact reach_spec hc f z hi (ahead_listed hc hzs (up_spec h hc j j (Nat.le_refl _) (by omega) (ahead_ready hj)))
/-- Whatever order is picked, S holding behind each operation but z. -/
def wpAnyY (P : Program) (md : Region.Mode) (ops : Array Oper) (Q : Exit → Act → World → Prop) (S : World → Prop) (z : Nat) : Nat → Array Bool → Act → World → Prop
  | 0, listed, a, w => Region.ready md ops listed = [] ∧ Q .normal a w
  | fuel + 1, listed, a, w =>
    (Region.ready md ops listed = [] → Q .normal a w) ∧
    ∀ i ∈ Region.ready md ops listed, wpOp P ops Q i (fun a' w' => (S w → i < z → S w') ∧ wpAnyY P md ops Q S z fuel (listed.setIfInBounds i true) a' w') a w
theorem wpAny_of_Y : ∀ (fuel : Nat) (listed : Array Bool) (a : Act) (w : World), wpAnyY P md ops Q S z fuel listed a w → wpAny P md ops Q fuel listed a w
  | 0, _, _, _, h => h
  | fuel + 1, _, _, _, h => ⟨h.1, fun i hi => wpOp_mono (fun a' w' h' => wpAny_of_Y fuel _ a' w' h'.2) (h.2 i hi)⟩
theorem wpAnyY_first {i : Nat} {oi : Oper} {v : Value} (hi : ops[i]? = some oi) (hsel : ∀ (j : Nat) (o : Oper) cs b, ops[j]? = some o → o.op ≠ .select cs b)
    (hQ : ∀ c a w, Q (.panic c) (a.put oi.dst v) w → Q (.panic c) a w) (hz : upB md ops z = true) (hzs : z < ops.size) {f0 : Nat} (hiz : reachB md ops i f0 z = true) :
    ∀ (fuel : Nat) (listed : Array Bool) (a : Act) (w : World), Closed md ops listed →
      (∀ j oj, ops[j]? = some oj → j ≠ i → listed.getD j true = false → (∀ e ∈ oj.after, Region.binds md e = true → e.on ≠ i) → oi.apart ops oj = true) →
      i ∈ Region.ready md ops listed → YieldsIf P ops S oi v a → S w →
      wpAnyY P md ops Q S z fuel (listed.setIfInBounds i true) (a.put oi.dst v) w → wpAnyY P md ops Q S z (fuel + 1) listed a w := by
  intro fuel
  induction fuel with
  | zero =>
    intro listed a w _ _ hr hy hS H
    refine ⟨fun h => (by rw [h] at hr; cases hr), fun j hj => ?_⟩
    by_cases hji : j = i
    · subst hji; exact hy.wpOp hi hS ⟨fun _ _ => hS, H⟩
    · have := ready_mono hj hji
      rw [H.1] at this
      cases this
  | succ fuel ih =>
    intro listed a w hcl hfree hr hy hS H
    refine ⟨fun h => (by rw [h] at hr; cases hr), fun j hj => ?_⟩
    by_cases hji : j = i
    · subst hji; exact hy.wpOp hi hS ⟨fun _ _ => hS, H⟩
    · have h1 := H.2 j (ready_mono hj hji)
      obtain ⟨hjun, oj, hoj, hall⟩ := mem_ready.1 hj
      have hun := (mem_ready.1 hr).1
      have hisz : i < listed.size := by
        rcases Nat.lt_or_ge i listed.size with h' | h'
        · exact h'
        · simp [Array.getElem?_eq_none h'] at hun
      have hif : listed.getD i false = false := by
        simp [hisz] at hun ⊢
        exact hun
      have hnot : ∀ e ∈ oj.after, Region.binds md e = true → e.on ≠ i := fun e he hb heq => by
        have h1 := hall e he hb
        rw [heq, hif] at h1
        cases h1
      have hjz : j < z := by
        rcases Nat.lt_or_ge j z with h' | h'
        · exact h'
        · have := reach_all hz hzs hcl hiz hj h'
          rw [hif] at this
          cases this
      have h2 := wpOp_putIf hoj (hfree j oj hoj hji hjun hnot) (fun cs b => hsel i oi cs b hi) (fun cs b => hsel j oj cs b hoj) hQ hy h1
      have hfree' : ∀ k ok, ops[k]? = some ok → k ≠ i → (listed.setIfInBounds j true).getD k true = false →
          (∀ e ∈ ok.after, Region.binds md e = true → e.on ≠ i) → oi.apart ops ok = true := fun k ok hk hki hun hno => by
        refine hfree k ok hk hki ?_ hno
        by_cases hjk : j = k
        · subst hjk; exact hjun
        · rw [getD_set_ne true hjk] at hun; exact hun
      refine wpOp_mono (fun a' w' h3 => ⟨fun _ _ => h3.2.1 hS hjz, ih (listed.setIfInBounds j true) a' w' (closed_set hcl hj) hfree' (ready_mono hr (Ne.symm hji)) h3.1 (h3.2.1 hS hjz) ?_⟩) h2
      rw [Array.setIfInBounds_comm _ _ hji]
      exact h3.2.2
theorem wpAnyY_pure {i : Nat} {oi : Oper} {v : Value} (hi : ops[i]? = some oi) (hsel : ∀ (j : Nat) (o : Oper) cs b, ops[j]? = some o → o.op ≠ .select cs b)
    (hQ : ∀ c a w, Q (.panic c) (a.put oi.dst v) w → Q (.panic c) a w)  :
    ∀ (fuel : Nat) (listed : Array Bool) (a : Act) (w : World), Closed md ops listed →
      (∀ j oj, ops[j]? = some oj → j ≠ i → listed.getD j true = false → (∀ e ∈ oj.after, Region.binds md e = true → e.on ≠ i) → oi.apart ops oj = true) →
      i ∈ Region.ready md ops listed → YieldsIf P ops (fun _ => True) oi v a →
      wpAnyY P md ops Q S z fuel (listed.setIfInBounds i true) (a.put oi.dst v) w → wpAnyY P md ops Q S z (fuel + 1) listed a w := by
  intro fuel
  induction fuel with
  | zero =>
    intro listed a w _ _ hr hy H
    refine ⟨fun h => (by rw [h] at hr; cases hr), fun j hj => ?_⟩
    by_cases hji : j = i
    · subst hji; exact hy.wpOp hi trivial ⟨fun h _ => h, H⟩
    · have := ready_mono hj hji
      rw [H.1] at this
      cases this
  | succ fuel ih =>
    intro listed a w hcl hfree hr hy H
    refine ⟨fun h => (by rw [h] at hr; cases hr), fun j hj => ?_⟩
    by_cases hji : j = i
    · subst hji; exact hy.wpOp hi trivial ⟨fun h _ => h, H⟩
    · have h1 := H.2 j (ready_mono hj hji)
      obtain ⟨hjun, oj, hoj, hall⟩ := mem_ready.1 hj
      have hun := (mem_ready.1 hr).1
      have hisz : i < listed.size := by
        rcases Nat.lt_or_ge i listed.size with h' | h'
        · exact h'
        · simp [Array.getElem?_eq_none h'] at hun
      have hif : listed.getD i false = false := by
        simp [hisz] at hun ⊢
        exact hun
      have hnot : ∀ e ∈ oj.after, Region.binds md e = true → e.on ≠ i := fun e he hb heq => by
        have h1 := hall e he hb
        rw [heq, hif] at h1
        cases h1
      have h2 := wpOp_putIf hoj (hfree j oj hoj hji hjun hnot) (fun cs b => hsel i oi cs b hi) (fun cs b => hsel j oj cs b hoj) hQ hy h1
      have hfree' : ∀ k ok, ops[k]? = some ok → k ≠ i → (listed.setIfInBounds j true).getD k true = false →
          (∀ e ∈ ok.after, Region.binds md e = true → e.on ≠ i) → oi.apart ops ok = true := fun k ok hk hki hun hno => by
        refine hfree k ok hk hki ?_ hno
        by_cases hjk : j = k
        · subst hjk; exact hjun
        · rw [getD_set_ne true hjk] at hun; exact hun
      refine wpOp_mono (fun a' w' h3 => ⟨h3.2.1, ih (listed.setIfInBounds j true) a' w' (closed_set hcl hj) hfree' (ready_mono hr (Ne.symm hji)) h3.1 ?_⟩) h2
      rw [Array.setIfInBounds_comm _ _ hji]
      exact h3.2.2
/-- What is to be shown along an order. -/
def wpOrdY (P : Program) (md : Region.Mode) (ops : Array Oper) (Q : Exit → Act → World → Prop) (S : World → Prop) (z : Nat) : Ord → Act → World → Prop
  | .fin, a, w => Q .normal a w
  | .take i k, a, w => ∃ v o, ops[i]? = some o ∧ (YieldsIf P ops (fun _ => True) o v a ∨ reachB md ops i ops.size z = true ∧ S w ∧ YieldsIf P ops S o v a) ∧ wpOrdY P md ops Q S z k (a.put o.dst v) w
  | .run i k, a, w => wpOp P ops Q i (fun a' w' => (i < z → S w') ∧ wpOrdY P md ops Q S z k a' w') a w
  | .run2 i k i2 k2, a, w => wpOp P ops Q i (fun a' w' => (i < z → S w') ∧ wpOrdY P md ops Q S z k a' w') a w ∧ wpOp P ops Q i2 (fun a' w' => (i2 < z → S w') ∧ wpOrdY P md ops Q S z k2 a' w') a w
  | .run3 i k i2 k2 i3 k3, a, w => wpOp P ops Q i (fun a' w' => (i < z → S w') ∧ wpOrdY P md ops Q S z k a' w') a w ∧ wpOp P ops Q i2 (fun a' w' => (i2 < z → S w') ∧ wpOrdY P md ops Q S z k2 a' w') a w ∧ wpOp P ops Q i3 (fun a' w' => (i3 < z → S w') ∧ wpOrdY P md ops Q S z k3 a' w') a w
theorem wpAnyY_ord (hs : Region.noSelect ops = true) (hQ : ∀ c a d v w, Q (.panic c) (a.put d v) w → Q (.panic c) a w) (hz : upB md ops z = true) (hzs : z < ops.size) :
    ∀ (ord : Ord) (fuel : Nat) (l : Array Bool) (a : Act) (w : World), Closed md ops l → ord.chk md ops fuel l = true → wpOrdY P md ops Q S z ord a w → wpAnyY P md ops Q S z fuel l a w := by
  intro ord
  induction ord with
  | fin =>
    intro fuel l a w _ hc h
    have hr : Region.ready md ops l = [] := by
      unfold Ord.chk at hc
      simpa using hc
    cases fuel with
    | zero => exact ⟨hr, h⟩
    | succ f => exact ⟨fun _ => h, by rw [hr]; simp⟩
  | take i k ih =>
    intro fuel l a w hcl hc h
    cases fuel with
    | zero => simp [Ord.chk] at hc
    | succ f =>
      simp only [Ord.chk, Bool.and_eq_true] at hc
      obtain ⟨v, o, ho, hy, h⟩ := h
      have hr : i ∈ Region.ready md ops l := by simpa using hc.1.1
      rcases hy with hy | ⟨hiz, hS, hy⟩
      · exact wpAnyY_pure ho (Region.noSelect_spec hs) (fun c a w => hQ c a o.dst v w) f l a w hcl (Region.free_spec ho hc.1.2) hr hy (ih f _ _ w (closed_set hcl hr) hc.2 h)
      exact wpAnyY_first ho (Region.noSelect_spec hs) (fun c a w => hQ c a o.dst v w) hz hzs hiz f l a w hcl (Region.free_spec ho hc.1.2) hr hy hS (ih f _ _ w (closed_set hcl hr) hc.2 h)
  | run i k ih =>
    intro fuel l a w hcl hc h
    cases fuel with
    | zero => simp [Ord.chk] at hc
    | succ f =>
      simp only [Ord.chk, Bool.and_eq_true] at hc
      have hr : i ∈ Region.ready md ops l := by simpa using hc.1.2
      refine ⟨fun h0 => (by rw [h0] at hr; cases hr), fun j hj => ?_⟩
      have hji : j = i := by simpa using List.all_eq_true.1 hc.1.1 j hj
      subst hji
      exact wpOp_mono (fun a' w' h' => ⟨fun _ => h'.1, ih f _ a' w' (closed_set hcl hr) hc.2 h'.2⟩) h
  | run2 i k i2 k2 ih ih2 =>
    intro fuel l a w hcl hc h
    cases fuel with
    | zero => simp [Ord.chk] at hc
    | succ f =>
      simp only [Ord.chk, Bool.and_eq_true] at hc
      have hr : i ∈ Region.ready md ops l := by simpa using hc.1.1.1.2
      have hr2 : i2 ∈ Region.ready md ops l := by simpa using hc.1.1.2
      refine ⟨fun h0 => (by rw [h0] at hr; cases hr), fun j hj => ?_⟩
      have hji : j = i ∨ j = i2 := by simpa using List.all_eq_true.1 hc.1.1.1.1 j hj
      rcases hji with rfl | rfl
      · exact wpOp_mono (fun a' w' h' => ⟨fun _ => h'.1, ih f _ a' w' (closed_set hcl hr) hc.1.2 h'.2⟩) h.1
      · exact wpOp_mono (fun a' w' h' => ⟨fun _ => h'.1, ih2 f _ a' w' (closed_set hcl hr2) hc.2 h'.2⟩) h.2
  | run3 i k i2 k2 i3 k3 ih ih2 ih3 =>
    intro fuel l a w hcl hc h
    cases fuel with
    | zero => simp [Ord.chk] at hc
    | succ f =>
      simp only [Ord.chk, Bool.and_eq_true] at hc
      have hr : i ∈ Region.ready md ops l := by simpa using hc.1.1.1.1.1.2
      have hr2 : i2 ∈ Region.ready md ops l := by simpa using hc.1.1.1.1.2
      have hr3 : i3 ∈ Region.ready md ops l := by simpa using hc.1.1.1.2
      refine ⟨fun h0 => (by rw [h0] at hr; cases hr), fun j hj => ?_⟩
      have hji : j = i ∨ j = i2 ∨ j = i3 := by simpa [or_assoc] using List.all_eq_true.1 hc.1.1.1.1.1.1 j hj
      rcases hji with rfl | rfl | rfl
      · exact wpOp_mono (fun a' w' h' => ⟨fun _ => h'.1, ih f _ a' w' (closed_set hcl hr) hc.1.1.2 h'.2⟩) h.1
      · exact wpOp_mono (fun a' w' h' => ⟨fun _ => h'.1, ih2 f _ a' w' (closed_set hcl hr2) hc.1.2 h'.2⟩) h.2.1
      · exact wpOp_mono (fun a' w' h' => ⟨fun _ => h'.1, ih3 f _ a' w' (closed_set hcl hr3) hc.2 h'.2⟩) h.2.2
/-- The region by an order; S holds behind each number under z. -/
theorem region_ordy {id : Nat} {a : Act} {w : World} {l : List Oper} (S : World → Prop) (z : Nat) (ord : Ord) (hm : P.follows .mixedOrders = true)
    (hc : (Region.noSelect l.toArray && upB .any l.toArray z && decide (z < l.length) && ord.chk .any l.toArray l.length (Array.replicate l.length false)) = true)
    (hQ : ∀ c a d v w, Q (.panic c) (a.put d v) w → Q (.panic c) a w)
    (h : ∀ w1, Below w.heap.size w w1 → Shut 0 (wpOrdY P .any l.toArray Q S z ord a w1)) : (Code.region id l.toArray true).wp P Q a w := by
  simp only [Bool.and_eq_true, decide_eq_true_eq] at hc
  exact wp_region_any hm (wpAny_of_Y _ _ _ _ (wpAnyY_ord hc.1.1.1 hQ hc.1.1.2 (by simpa using hc.1.2) ord _ _ a _ (closed_none _) (by simpa using hc.2) (h _ (bdraw w)).out))
section
variable {l : List Oper} {a : Act} {w : World} {i : Nat} {k : Ord} {o : Oper}
theorem ogy_take (ho : l[i]? = some o) (hw : Region.wanted o (yielded l.toArray a.tmps) = true) (hS : S w) (hiz : reachB .any l.toArray i l.toArray.size z = true) (h : ∃ v, (∀ w', S w' → (execOp a.eval o).run P w' = .ok (.value v) w') ∧ ∃ a', a.put o.dst v = a' ∧ Shut 0 (wpOrdY P .any l.toArray Q S z k a' w)) :
    Shut 0 (wpOrdY P .any l.toArray Q S z (.take i k) a w) := by
  obtain ⟨v, h1, _, rfl, h2⟩ := h
  exact ⟨v, o, by simpa using ho, .inr ⟨hiz, hS, .inl ⟨hw, h1⟩⟩, h2.out⟩
theorem ogy_pure (ho : l[i]? = some o) (hw : Region.wanted o (yielded l.toArray a.tmps) = true) (h : ∃ v, (∀ w', (execOp a.eval o).run P w' = .ok (.value v) w') ∧ ∃ a', a.put o.dst v = a' ∧ Shut 0 (wpOrdY P .any l.toArray Q S z k a' w)) :
    Shut 0 (wpOrdY P .any l.toArray Q S z (.take i k) a w) := by
  obtain ⟨v, h1, _, rfl, h2⟩ := h
  exact ⟨v, o, by simpa using ho, .inl (.inl ⟨hw, fun w' _ => h1 w'⟩), h2.out⟩
theorem ogy_skip (ho : l[i]? = some o) (hw : Region.wanted o (yielded l.toArray a.tmps) = false) (a' : Act) (ha : a.put o.dst undef = a') (h : Shut 0 (wpOrdY P .any l.toArray Q S z k a' w)) :
    Shut 0 (wpOrdY P .any l.toArray Q S z (.take i k) a w) := by
  subst ha
  exact ⟨undef, o, by simpa using ho, .inl (.inr ⟨hw, rfl⟩), h.out⟩
theorem ogy_run (ho : l[i]? = some o) (hw : Region.wanted o (yielded l.toArray a.tmps) = true) (h : o.wp P a w (fun a' w' => (i < z → S w') ∧ Shut 0 (wpOrdY P .any l.toArray Q S z k a' w')) Q) :
    Shut 0 (wpOrdY P .any l.toArray Q S z (.run i k) a w) := by
  refine ⟨?_⟩
  unfold wpOrdY wpOp
  rw [show l.toArray[i]? = some o by simpa using ho]
  simp only [hw, if_true]
  exact .inl (Oper.wp_mono (fun a' w' h => ⟨h.1, h.2.out⟩) h)
theorem ogy_run2 {i2 : Nat} {k2 : Ord} (h : Shut 0 (wpOrdY P .any l.toArray Q S z (.run i k) a w)) (h2 : Shut 0 (wpOrdY P .any l.toArray Q S z (.run i2 k2) a w)) : Shut 0 (wpOrdY P .any l.toArray Q S z (.run2 i k i2 k2) a w) := ⟨h.out, h2.out⟩
theorem ogy_run3 {i2 i3 : Nat} {k2 k3 : Ord} (h : Shut 0 (wpOrdY P .any l.toArray Q S z (.run i k) a w)) (h2 : Shut 0 (wpOrdY P .any l.toArray Q S z (.run i2 k2) a w)) (h3 : Shut 0 (wpOrdY P .any l.toArray Q S z (.run i3 k3) a w)) : Shut 0 (wpOrdY P .any l.toArray Q S z (.run3 i k i2 k2 i3 k3) a w) := ⟨h.out, h2.out, h3.out⟩
theorem ogy_fin (h : Q .normal a w) : Shut 0 (wpOrdY P .any l.toArray Q S z .fin a w) := ⟨h⟩
theorem ogy_ld (ho : l[i]? = some o) (hw : Region.wanted o (yielded l.toArray a.tmps) = true) (hS : S w) (hiz : reachB .any l.toArray i l.toArray.size z = true) (ty : TypeId) (x : Operand) (hop : o.op = .load ty x) (p : Value) (hx : a.eval x = p) (v : Value) (hl : ∀ w', S w' → (Instr.loadAt ty p).run P w' = .ok v w')
    (a' : Act) (ha : a.put o.dst v = a') (h : Shut 0 (wpOrdY P .any l.toArray Q S z k a' w)) : Shut 0 (wpOrdY P .any l.toArray Q S z (.take i k) a w) := by
  subst ha
  refine ⟨v, o, by simpa using ho, .inr ⟨hiz, hS, .inl ⟨hw, fun w' h' => ?_⟩⟩, h.out⟩
  simp only [execOp, hop, hx, Sem.run_bind, hl w' h', Result.andThen_ok, Sem.run_pure]
end
end
end Cop
namespace Go.Proofs.YtbjbdnlgoifamaaDoor
open Go.RowKit Cop
set_option linter.unusedVariables false
set_option linter.unusedSimpArgs false
section
variable {P : Program} {w0 w : World} {B : Nat} {R : List Pc} {o : Oper} {a : Act}
/-- An empty slice literal. -/
theorem ow_bz {K : Act → World → Prop} {Q : Exit → Act → World → Prop} (HS : Sep B w0 w R) (t e : TypeId) (size : Nat) (ho : o.op = .buildSlice t 0 #[]) (hu : P.underlying t = some (.slice e)) (hie : (P.info? e).map (·.size) = some size)
    (h : ∀ g w1, Sep B w0 w1 (.own (.slice (some ⟨g, 0, none⟩) 0 0) e size 0 [] :: R) → K (a.put o.dst (.slice (some ⟨g, 0, none⟩) 0 0)) w1) : o.wp P a w K Q := by
  obtain ⟨ie, hi, rfl⟩ := Option.map_eq_some_iff.1 hie
  have hr : (Instr.buildSlice t 0 #[]).run P w = .ok (.slice (some ⟨w.heap.size, 0, none⟩) 0 0) (w.alloc (.cells #[] e)) := by
    simp [Instr.buildSlice, run_underlying hu, sizeOf, typeInfo, hi, newRow, Instr.fill, show Array.range 0 = #[] from rfl]
  unfold Oper.wp execOp
  simp only [ho, Sem.run_bind, List.map_toArray, List.map_nil, hr, Result.andThen_ok]
  exact h _ _ (HS.built #[] e 0 ie.size (by simp) (by decide))
theorem wl_bz {ops : Array Oper} {rest : List Oper} {Q : Exit → Act → World → Prop} (HS : Sep B w0 w R) (hgd : o.guard = none) (t e : TypeId) (size : Nat) (ho : o.op = .buildSlice t 0 #[]) (hu : P.underlying t = some (.slice e)) (hie : (P.info? e).map (·.size) = some size)
    (h : ∀ g w1, Sep B w0 w1 (.own (.slice (some ⟨g, 0, none⟩) 0 0) e size 0 [] :: R) → wpList P ops Q rest (a.put o.dst (.slice (some ⟨g, 0, none⟩) 0 0)) w1) : wpList P ops Q (o :: rest) a w :=
  wpList_plain hgd fun _ hK => ow_bz HS t e size ho hu hie fun g w1 h2 => hK _ _ (h g w1 h2)
theorem arr1 {a b c d : Pc} (h : Sep B w0 w (a :: b :: c :: d :: R)) : Sep B w0 w (c :: d :: a :: b :: R) := (h.front 3).front 3
theorem arr2 {a b c d : Pc} (h : Sep B w0 w (a :: b :: c :: d :: R)) : Sep B w0 w (c :: d :: b :: a :: R) := (((h.front 1).front 3).front 3)
end
section
variable {w0 w : World} {B : Nat} {R : List Pc} {o : Oper} {a : Act} {K : Act → World → Prop} {Q : Exit → Act → World → Prop}
theorem ow_apd9 (HS : Sep B w0 w R) (i : Nat) {v : Value} {p : List (List UInt8)} {n : Nat} (hi : R[i]? = some (.own v 24 32 n (dcs p))) {s x : Operand} (ho : o.op = .call { callee := .builtin .append, args := #[s, x], argTypes := #[28, 28] })
    {u : Value} {m : Nat} {q : List (List UInt8)} (HR : Rd w u m 32 (dcs q)) (hs : a.eval s = v) (hx : a.eval x = u) (k : Nat) (r : List (List UInt8)) (hk : n + m = k) (hr : p ++ q = r) (hl : k * 32 ≤ 140737488355328)
    (h : ∀ v1 w1, Sep B w0 w1 (R.set i (.own v1 24 32 k (dcs r))) → K (a.put o.dst v1) w1) : o.wp Tryd.prog a w K Q :=
  ow_apn HS i hi s x 28 _ 32 ho Tryd.underlying28 dgs_info rfl (by decide) (by decide) HR (dcs_one q) hs hx k (dcs r) hk (by rw [← hr, dcs_append]) hl fun v1 w1 h1 _ => h v1 w1 h1
end
section
variable {m n i : Int} {older newer : List UInt8} {s x y p q u : Value}
theorem clv_set (ho : older.length = 32) (hn : newer.length = 32) (j : Nat) : (clv m n older newer s i x y p q).setIfInBounds (66 + j) u = ([Value.int .i64 m, .int .i64 n] ++ (bl older ++ (bl newer ++ [s, .int .i64 i, x, y, p, q].set j u))).toArray := by
  have hb : (bl older).length = 32 := by rw [bl_length, ho]
  have hc : (bl newer).length = 32 := by rw [bl_length, hn]
  simp only [clv, List.setIfInBounds_toArray]
  rw [List.set_append_right _ _ (by simp; omega), List.set_append_right _ _ (by simp; omega), List.set_append_right _ _ (by simp; omega)]
  congr 5
  simp [hb, hc]
  omega
theorem clv_set66 (ho : older.length = 32) (hn : newer.length = 32) : (clv m n older newer s i x y p q).setIfInBounds 66 u = clv m n older newer u i x y p q := clv_set ho hn 0
theorem clv_set68 (ho : older.length = 32) (hn : newer.length = 32) : (clv m n older newer s i x y p q).setIfInBounds 68 u = clv m n older newer s i u y p q := clv_set ho hn 2
theorem clv_set69 (ho : older.length = 32) (hn : newer.length = 32) : (clv m n older newer s i x y p q).setIfInBounds 69 u = clv m n older newer s i x u p q := clv_set ho hn 3
theorem clv_set70 (ho : older.length = 32) (hn : newer.length = 32) : (clv m n older newer s i x y p q).setIfInBounds 70 u = clv m n older newer s i x y u q := clv_set ho hn 4
theorem clv_set71 (ho : older.length = 32) (hn : newer.length = 32) : (clv m n older newer s i x y p q).setIfInBounds 71 u = clv m n older newer s i x y p u := clv_set ho hn 5
theorem clv_info (ho : older.length = 32) (hn : newer.length = 32) : (Tryd.prog.info? 37).map (·.size) = some (clv m n older newer s i x y p q).size := by
  rw [clv_size ho hn]
  kernel_rfl
theorem clv_one {As Ax Ay Ap Aq : Option Addr} {ns nx ny np nq cs cx cy cp cq : Nat} (ho : older.length = 32) (hn : newer.length = 32) : (clv m n older newer (.slice As ns cs) i (.slice Ax nx cx) (.slice Ay ny cy) (.slice Ap np cp) (.slice Aq nq cq)).all (·.oneCell') = true := by
  have h : ∀ l : List UInt8, (bl l).all (·.oneCell') = true := fun l => by
    have := bv_one l
    rw [show bv l = (bl l).toArray from rfl, List.all_toArray] at this
    exact this
  simp only [clv, List.all_toArray, List.all_append, h]
  rfl
end
set_option maxRecDepth 100000 in
set_option maxHeartbeats 8000000 in
theorem lent9 (m n i : Int) (older newer x y : List UInt8) (s p q : List (List UInt8)) (As Ap Aq Ax Ay : Option Addr) (cs cp cq cx cy : Nat) (w : World) (ho : older.length = 32) (hn : newer.length = 32) (hxl : x.length ≤ 140737488351232) (hyl : y.length ≤ 140737488351232) (hsl : s.length ≤ 4398046510976) (hpl : p.length ≤ 4398046510976) (hql : q.length ≤ 4398046510976)
    (hs : Rd w (.slice As s.length cs) s.length 32 (dcs s)) (hx : Rd w (.slice Ax x.length cx) x.length 1 (bl x)) (hy : Rd w (.slice Ay y.length cy) y.length 1 (bl y)) (hp : Rd w (.slice Ap p.length cp) p.length 32 (dcs p)) (hq : Rd w (.slice Aq q.length cq) q.length 32 (dcs q)) :
    Calls Tryd.prog 16 #[.agg (clv m n older newer (.slice As s.length cs) i (.slice Ax x.length cx) (.slice Ay y.length cy) (.slice Ap p.length cp) (.slice Aq q.length cq))] w fun e w' => ∃ (As1 Ap1 Aq1 Ax1 Ay1 : Option Addr) (cs1 cp1 cq1 cx1 cy1 : Nat), e = .returned (.agg (clv m n older newer (.slice As1 s.length cs1) i (.slice Ax1 x.length cx1) (.slice Ay1 y.length cy1) (.slice Ap1 p.length cp1) (.slice Aq1 q.length cq1))) ∧ Below w.heap.size w w' ∧
      Rd w' (.slice As1 s.length cs1) s.length 32 (dcs s) ∧ Rd w' (.slice Ax1 x.length cx1) x.length 1 (bl x) ∧ Rd w' (.slice Ay1 y.length cy1) y.length 1 (bl y) ∧ Rd w' (.slice Ap1 p.length cp1) p.length 32 (dcs p) ∧ Rd w' (.slice Aq1 q.length cq1) q.length 32 (dcs q) := by
  have HO := Lib.hid ho
  have HN := Lib.hid hn
  have HXL := Lib.hid hxl
  have HYL := Lib.hid hyl
  have HSL := Lib.hid hsl
  have HPL := Lib.hid hpl
  have HQL := Lib.hid hql
  have HS0 := (((((Sep.start w).arg0 hq).arg0 hp).arg0 hy).arg0 hx).arg0 hs
  clear hs hx hy hp hq ho hn hxl hyl hsl hpl hql
  go_enter Tryd.func16, Tryd.ntmps16
  go_wp2_with (first | refine wl_bx HS0 rfl 37 _ rfl (clv m n older newer (.slice As s.length cs) i (.slice Ax x.length cx) (.slice Ay y.length cy) (.slice Ap p.length cp) (.slice Aq q.length cq)) rfl ?_)
  intro g1 w1 HS1
  go_wp2_with (first | refine wl_al HS1 rfl 37 rfl (clv 0 0 (List.replicate 32 0) (List.replicate 32 0) (.slice none 0 0) 0 (.slice none 0 0) (.slice none 0 0) (.slice none 0 0) (.slice none 0 0)) (by kernel_rfl) ?_)
  intro g2 w2 HS2
  go_wp2_with (first | refine wl_bz HS2 rfl 28 24 32 rfl Tryd.underlying28 (by kernel_rfl) ?_)
  intro g3 w3 HS3
  clear HS0 HS1 HS2
  obtain ⟨c0, c1, c2, c3, c4, c5, c6, c7⟩ := clm_cells HO.out HN.out (HS3.row 2 rfl)
  go_wp2_with (first | refine wl_apn HS3 0 rfl _ _ 28 (.agg (bv (List.replicate 32 0))) 32 rfl rfl Tryd.underlying28 dgs_info rfl (by decide) (by decide) (HS3.rd 3 rfl) (dcs_one s) rfl rfl s.length (dcs s) (by simp) rfl (by have := HSL.out; omega) ?_)
  intro v1 w4 HS4 _
  obtain ⟨As1, cs1, rfl, _⟩ := (HS4.own 0 rfl).sl
  clear HS3 c0 c1 c2 c3 c4 c5 c6 c7
  go_wp2_with (first | refine wl_stc HS4 2 rfl rfl 28 _ _ rfl (by kernel_rfl) 66 (by rw [clv_size HO.out HN.out]; decide) rfl rfl rfl rfl ?_)
  intro w5 HS5
  rw [clv_set66 HO.out HN.out] at HS5
  have HS : Sep w.heap.size w w5 [.row g1 (clv m n older newer (.slice As1 s.length cs1) i (.slice Ax x.length cx) (.slice Ay y.length cy) (.slice Ap p.length cp) (.slice Aq q.length cq)) 37, .row g2 (clv 0 0 (List.replicate 32 0) (List.replicate 32 0) (.slice none 0 0) 0 (.slice none 0 0) (.slice none 0 0) (.slice none 0 0) (.slice none 0 0)) 37, .own (.slice As1 s.length cs1) 24 32 s.length (dcs s), .rd (.slice As s.length cs) s.length 32 (dcs s), .rd (.slice Ax x.length cx) x.length 1 (bl x), .rd (.slice Ay y.length cy) y.length 1 (bl y), .rd (.slice Ap p.length cp) p.length 32 (dcs p), .rd (.slice Aq q.length cq) q.length 32 (dcs q)] := (HS5.front 1).front 2
  clear HS4 HS5
  go_upto_region 2 with fail
  go_cut [17] (fun s17 wx => ∃ (Ax1 Ay1 : Option Addr) (cx1 cy1 : Nat), s17 = .pointer (some ⟨g1, 69, none⟩) ∧ Sep w.heap.size w wx [.row g1 (clv m n older newer (.slice As1 s.length cs1) i (.slice Ax1 x.length cx1) (.slice Ay1 y.length cy1) (.slice Ap p.length cp) (.slice Aq q.length cq)) 37, .row g2 (clv 0 0 (List.replicate 32 0) (List.replicate 32 0) (.slice none 0 0) 0 (.slice none 0 0) (.slice none 0 0) (.slice none 0 0) (.slice none 0 0)) 37, .own (.slice Ax1 x.length cx1) 5 1 x.length (bl x), .own (.slice Ay1 y.length cy1) 5 1 y.length (bl y), .own (.slice As1 s.length cs1) 24 32 s.length (dcs s), .rd (.slice As s.length cs) s.length 32 (dcs s), .rd (.slice Ax x.length cx) x.length 1 (bl x), .rd (.slice Ay y.length cy) y.length 1 (bl y), .rd (.slice Ap p.length cp) p.length 32 (dcs p), .rd (.slice Aq q.length cq) q.length 32 (dcs q)])
  case first =>
    refine Cop.region_ordy (fun w' => Sep w.heap.size w w' [.row g1 (clv m n older newer (.slice As1 s.length cs1) i (.slice Ax x.length cx) (.slice Ay y.length cy) (.slice Ap p.length cp) (.slice Aq q.length cq)) 37, .row g2 (clv 0 0 (List.replicate 32 0) (List.replicate 32 0) (.slice none 0 0) 0 (.slice none 0 0) (.slice none 0 0) (.slice none 0 0) (.slice none 0 0)) 37, .own (.slice As1 s.length cs1) 24 32 s.length (dcs s), .rd (.slice As s.length cs) s.length 32 (dcs s), .rd (.slice Ax x.length cx) x.length 1 (bl x), .rd (.slice Ay y.length cy) y.length 1 (bl y), .rd (.slice Ap p.length cp) p.length 32 (dcs p), .rd (.slice Aq q.length cq) q.length 32 (dcs q)]) 9 (.take 1 (.take 2 (.take 5 (.take 6 (.run2 0 (.run2 3 (.take 8 (.run 4 (.run 7 (.run 9 (.take 10 (.run 11 Cop.Ord.fin)))))) 4 (.run 3 (.take 8 (.run 7 (.run 9 (.take 10 (.run 11 Cop.Ord.fin))))))) 4 (.run 0 (.run 3 (.take 8 (.run 7 (.run 9 (.take 10 (.run 11 Cop.Ord.fin)))))))))))) (by kernel_rfl) (by kernel_rfl) (fun _ _ d _ _ h => by cases d <;> exact h) ?_
    intro wa hda
    have H0 := HS.keep hda
    clear HS
    (repeat (first | (refine Cop.ogy_skip rfl rfl _ (by (simp only [Act.put, List.setIfInBounds_toArray, List.set_cons_succ, List.set_cons_zero]; rfl)) ?_) | (refine Cop.ogy_pure rfl rfl ?_; apply Exists.intro; refine ⟨fun w9 => ?_, _, by (simp only [Act.put, List.setIfInBounds_toArray, List.set_cons_succ, List.set_cons_zero]; rfl), ?_⟩; (go_simp; with_reducible rfl)) | (refine Cop.ogy_take rfl rfl H0 (by kernel_rfl) ?_; apply Exists.intro; refine ⟨fun w9 h9 => ?_, _, by (simp only [Act.put, List.setIfInBounds_toArray, List.set_cons_succ, List.set_cons_zero]; rfl), ?_⟩; (obtain ⟨c0, c1, c2, c3, c4, c5, c6, c7⟩ := clm_cells HO.out HN.out (h9.row 0 rfl); go_simp; with_reducible rfl))))
    refine Cop.ogy_run2 ?_ ?_
    · skip
      refine Cop.ogy_run rfl rfl ?_
      refine ow_bz H0 22 5 1 rfl Tryd.underlying22 (by kernel_rfl) ?_
      intro e0 w20 H1
      have HB1 : Sep w.heap.size w w20 [.row g1 (clv m n older newer (.slice As1 s.length cs1) i (.slice Ax x.length cx) (.slice Ay y.length cy) (.slice Ap p.length cp) (.slice Aq q.length cq)) 37, .row g2 (clv 0 0 (List.replicate 32 0) (List.replicate 32 0) (.slice none 0 0) 0 (.slice none 0 0) (.slice none 0 0) (.slice none 0 0) (.slice none 0 0)) 37, .own (.slice As1 s.length cs1) 24 32 s.length (dcs s), .rd (.slice As s.length cs) s.length 32 (dcs s), .rd (.slice Ax x.length cx) x.length 1 (bl x), .rd (.slice Ay y.length cy) y.length 1 (bl y), .rd (.slice Ap p.length cp) p.length 32 (dcs p), .rd (.slice Aq q.length cq) q.length 32 (dcs q)] := H1.sub (by repeat (first | exact List.nil_sublist _ | exact List.Sublist.refl _ | apply List.Sublist.cons_cons | apply List.Sublist.cons))
      refine ⟨fun _ => HB1, ?_⟩
      (repeat (first | (refine Cop.ogy_skip rfl rfl _ (by (simp only [Act.put, List.setIfInBounds_toArray, List.set_cons_succ, List.set_cons_zero]; rfl)) ?_) | (refine Cop.ogy_pure rfl rfl ?_; apply Exists.intro; refine ⟨fun w9 => ?_, _, by (simp only [Act.put, List.setIfInBounds_toArray, List.set_cons_succ, List.set_cons_zero]; rfl), ?_⟩; (go_simp; with_reducible rfl)) | (refine Cop.ogy_take rfl rfl HB1 (by kernel_rfl) ?_; apply Exists.intro; refine ⟨fun w9 h9 => ?_, _, by (simp only [Act.put, List.setIfInBounds_toArray, List.set_cons_succ, List.set_cons_zero]; rfl), ?_⟩; (obtain ⟨c0, c1, c2, c3, c4, c5, c6, c7⟩ := clm_cells HO.out HN.out (h9.row 0 rfl); go_simp; with_reducible rfl))))
      refine Cop.ogy_run2 ?_ ?_
      · skip
        refine Cop.ogy_run rfl rfl ?_
        refine ow_apb (xs := []) H1 0 rfl rfl (H1.rd 5 rfl) rfl rfl x.length x (by omega) rfl (by have := HXL.out; omega) ?_
        intro u0 w21 H2 _
        obtain ⟨Ax1, cx1, rfl, _⟩ := (H2.own 0 rfl).sl
        have HB2 : Sep w.heap.size w w21 [.row g1 (clv m n older newer (.slice As1 s.length cs1) i (.slice Ax x.length cx) (.slice Ay y.length cy) (.slice Ap p.length cp) (.slice Aq q.length cq)) 37, .row g2 (clv 0 0 (List.replicate 32 0) (List.replicate 32 0) (.slice none 0 0) 0 (.slice none 0 0) (.slice none 0 0) (.slice none 0 0) (.slice none 0 0)) 37, .own (.slice As1 s.length cs1) 24 32 s.length (dcs s), .rd (.slice As s.length cs) s.length 32 (dcs s), .rd (.slice Ax x.length cx) x.length 1 (bl x), .rd (.slice Ay y.length cy) y.length 1 (bl y), .rd (.slice Ap p.length cp) p.length 32 (dcs p), .rd (.slice Aq q.length cq) q.length 32 (dcs q)] := H2.sub (by repeat (first | exact List.nil_sublist _ | exact List.Sublist.refl _ | apply List.Sublist.cons_cons | apply List.Sublist.cons))
        refine ⟨fun _ => HB2, ?_⟩
        (repeat (first | (refine Cop.ogy_skip rfl rfl _ (by (simp only [Act.put, List.setIfInBounds_toArray, List.set_cons_succ, List.set_cons_zero]; rfl)) ?_) | (refine Cop.ogy_pure rfl rfl ?_; apply Exists.intro; refine ⟨fun w9 => ?_, _, by (simp only [Act.put, List.setIfInBounds_toArray, List.set_cons_succ, List.set_cons_zero]; rfl), ?_⟩; (go_simp; with_reducible rfl)) | (refine Cop.ogy_take rfl rfl HB2 (by kernel_rfl) ?_; apply Exists.intro; refine ⟨fun w9 h9 => ?_, _, by (simp only [Act.put, List.setIfInBounds_toArray, List.set_cons_succ, List.set_cons_zero]; rfl), ?_⟩; (obtain ⟨c0, c1, c2, c3, c4, c5, c6, c7⟩ := clm_cells HO.out HN.out (h9.row 0 rfl); go_simp; with_reducible rfl))))
        refine Cop.ogy_run rfl rfl ?_
        refine ow_bz H2 22 5 1 rfl Tryd.underlying22 (by kernel_rfl) ?_
        intro e1 w22 H3
        have HB3 : Sep w.heap.size w w22 [.row g1 (clv m n older newer (.slice As1 s.length cs1) i (.slice Ax x.length cx) (.slice Ay y.length cy) (.slice Ap p.length cp) (.slice Aq q.length cq)) 37, .row g2 (clv 0 0 (List.replicate 32 0) (List.replicate 32 0) (.slice none 0 0) 0 (.slice none 0 0) (.slice none 0 0) (.slice none 0 0) (.slice none 0 0)) 37, .own (.slice As1 s.length cs1) 24 32 s.length (dcs s), .rd (.slice As s.length cs) s.length 32 (dcs s), .rd (.slice Ax x.length cx) x.length 1 (bl x), .rd (.slice Ay y.length cy) y.length 1 (bl y), .rd (.slice Ap p.length cp) p.length 32 (dcs p), .rd (.slice Aq q.length cq) q.length 32 (dcs q)] := H3.sub (by repeat (first | exact List.nil_sublist _ | exact List.Sublist.refl _ | apply List.Sublist.cons_cons | apply List.Sublist.cons))
        refine ⟨fun _ => HB3, ?_⟩
        (repeat (first | (refine Cop.ogy_skip rfl rfl _ (by (simp only [Act.put, List.setIfInBounds_toArray, List.set_cons_succ, List.set_cons_zero]; rfl)) ?_) | (refine Cop.ogy_pure rfl rfl ?_; apply Exists.intro; refine ⟨fun w9 => ?_, _, by (simp only [Act.put, List.setIfInBounds_toArray, List.set_cons_succ, List.set_cons_zero]; rfl), ?_⟩; (go_simp; with_reducible rfl)) | (refine Cop.ogy_take rfl rfl HB3 (by kernel_rfl) ?_; apply Exists.intro; refine ⟨fun w9 h9 => ?_, _, by (simp only [Act.put, List.setIfInBounds_toArray, List.set_cons_succ, List.set_cons_zero]; rfl), ?_⟩; (obtain ⟨c0, c1, c2, c3, c4, c5, c6, c7⟩ := clm_cells HO.out HN.out (h9.row 0 rfl); go_simp; with_reducible rfl))))
        refine Cop.ogy_run rfl rfl ?_
        refine ow_apb (xs := []) H3 0 rfl rfl (H3.rd 7 rfl) rfl rfl y.length y (by omega) rfl (by have := HYL.out; omega) ?_
        intro u1 w23 H4 _
        obtain ⟨Ay1, cy1, rfl, _⟩ := (H4.own 0 rfl).sl
        have HB4 : Sep w.heap.size w w23 [.row g1 (clv m n older newer (.slice As1 s.length cs1) i (.slice Ax x.length cx) (.slice Ay y.length cy) (.slice Ap p.length cp) (.slice Aq q.length cq)) 37, .row g2 (clv 0 0 (List.replicate 32 0) (List.replicate 32 0) (.slice none 0 0) 0 (.slice none 0 0) (.slice none 0 0) (.slice none 0 0) (.slice none 0 0)) 37, .own (.slice As1 s.length cs1) 24 32 s.length (dcs s), .rd (.slice As s.length cs) s.length 32 (dcs s), .rd (.slice Ax x.length cx) x.length 1 (bl x), .rd (.slice Ay y.length cy) y.length 1 (bl y), .rd (.slice Ap p.length cp) p.length 32 (dcs p), .rd (.slice Aq q.length cq) q.length 32 (dcs q)] := H4.sub (by repeat (first | exact List.nil_sublist _ | exact List.Sublist.refl _ | apply List.Sublist.cons_cons | apply List.Sublist.cons))
        refine ⟨fun _ => HB4, ?_⟩
        (repeat (first | (refine Cop.ogy_skip rfl rfl _ (by (simp only [Act.put, List.setIfInBounds_toArray, List.set_cons_succ, List.set_cons_zero]; rfl)) ?_) | (refine Cop.ogy_pure rfl rfl ?_; apply Exists.intro; refine ⟨fun w9 => ?_, _, by (simp only [Act.put, List.setIfInBounds_toArray, List.set_cons_succ, List.set_cons_zero]; rfl), ?_⟩; (go_simp; with_reducible rfl)) | (refine Cop.ogy_take rfl rfl HB4 (by kernel_rfl) ?_; apply Exists.intro; refine ⟨fun w9 h9 => ?_, _, by (simp only [Act.put, List.setIfInBounds_toArray, List.set_cons_succ, List.set_cons_zero]; rfl), ?_⟩; (obtain ⟨c0, c1, c2, c3, c4, c5, c6, c7⟩ := clm_cells HO.out HN.out (h9.row 0 rfl); go_simp; with_reducible rfl))))
        refine Cop.ogy_run rfl rfl ?_
        refine ow_stc H4 2 rfl 22 _ _ rfl (by kernel_rfl) 68 (by rw [clv_size HO.out HN.out]; decide) rfl rfl rfl rfl ?_
        intro w24 H5
        rw [clv_set68 HO.out HN.out] at H5
        refine ⟨fun h => absurd h (by decide), ?_⟩
        (repeat (first | (refine Cop.ogy_skip rfl rfl _ (by (simp only [Act.put, List.setIfInBounds_toArray, List.set_cons_succ, List.set_cons_zero]; rfl)) ?_) | (refine Cop.ogy_pure rfl rfl ?_; apply Exists.intro; refine ⟨fun w9 => ?_, _, by (simp only [Act.put, List.setIfInBounds_toArray, List.set_cons_succ, List.set_cons_zero]; rfl), ?_⟩; (go_simp; with_reducible rfl)) | (refine Cop.ogy_take rfl rfl H5 (by kernel_rfl) ?_; apply Exists.intro; refine ⟨fun w9 h9 => ?_, _, by (simp only [Act.put, List.setIfInBounds_toArray, List.set_cons_succ, List.set_cons_zero]; rfl), ?_⟩; (go_simp; with_reducible rfl))))
        refine Cop.ogy_run rfl rfl ?_
        refine ow_stc H5 2 rfl 22 _ _ rfl (by kernel_rfl) 69 (by rw [clv_size HO.out HN.out]; decide) rfl rfl rfl rfl ?_
        intro w25 H6
        rw [clv_set69 HO.out HN.out] at H6
        refine ⟨fun h => absurd h (by decide), ?_⟩
        refine ogy_fin ?_
        go_wp2
        go_meet
        case rel => exact ⟨_, _, _, _, rfl, arr2 H6⟩
      · skip
        refine Cop.ogy_run rfl rfl ?_
        refine ow_bz H1 22 5 1 rfl Tryd.underlying22 (by kernel_rfl) ?_
        intro e1 w21 H2
        have HB2 : Sep w.heap.size w w21 [.row g1 (clv m n older newer (.slice As1 s.length cs1) i (.slice Ax x.length cx) (.slice Ay y.length cy) (.slice Ap p.length cp) (.slice Aq q.length cq)) 37, .row g2 (clv 0 0 (List.replicate 32 0) (List.replicate 32 0) (.slice none 0 0) 0 (.slice none 0 0) (.slice none 0 0) (.slice none 0 0) (.slice none 0 0)) 37, .own (.slice As1 s.length cs1) 24 32 s.length (dcs s), .rd (.slice As s.length cs) s.length 32 (dcs s), .rd (.slice Ax x.length cx) x.length 1 (bl x), .rd (.slice Ay y.length cy) y.length 1 (bl y), .rd (.slice Ap p.length cp) p.length 32 (dcs p), .rd (.slice Aq q.length cq) q.length 32 (dcs q)] := H2.sub (by repeat (first | exact List.nil_sublist _ | exact List.Sublist.refl _ | apply List.Sublist.cons_cons | apply List.Sublist.cons))
        refine ⟨fun _ => HB2, ?_⟩
        (repeat (first | (refine Cop.ogy_skip rfl rfl _ (by (simp only [Act.put, List.setIfInBounds_toArray, List.set_cons_succ, List.set_cons_zero]; rfl)) ?_) | (refine Cop.ogy_pure rfl rfl ?_; apply Exists.intro; refine ⟨fun w9 => ?_, _, by (simp only [Act.put, List.setIfInBounds_toArray, List.set_cons_succ, List.set_cons_zero]; rfl), ?_⟩; (go_simp; with_reducible rfl)) | (refine Cop.ogy_take rfl rfl HB2 (by kernel_rfl) ?_; apply Exists.intro; refine ⟨fun w9 h9 => ?_, _, by (simp only [Act.put, List.setIfInBounds_toArray, List.set_cons_succ, List.set_cons_zero]; rfl), ?_⟩; (obtain ⟨c0, c1, c2, c3, c4, c5, c6, c7⟩ := clm_cells HO.out HN.out (h9.row 0 rfl); go_simp; with_reducible rfl))))
        refine Cop.ogy_run rfl rfl ?_
        refine ow_apb (xs := []) H2 1 rfl rfl (H2.rd 6 rfl) rfl rfl x.length x (by omega) rfl (by have := HXL.out; omega) ?_
        intro u0 w22 H3 _
        obtain ⟨Ax1, cx1, rfl, _⟩ := (H3.own 1 rfl).sl
        have HB3 : Sep w.heap.size w w22 [.row g1 (clv m n older newer (.slice As1 s.length cs1) i (.slice Ax x.length cx) (.slice Ay y.length cy) (.slice Ap p.length cp) (.slice Aq q.length cq)) 37, .row g2 (clv 0 0 (List.replicate 32 0) (List.replicate 32 0) (.slice none 0 0) 0 (.slice none 0 0) (.slice none 0 0) (.slice none 0 0) (.slice none 0 0)) 37, .own (.slice As1 s.length cs1) 24 32 s.length (dcs s), .rd (.slice As s.length cs) s.length 32 (dcs s), .rd (.slice Ax x.length cx) x.length 1 (bl x), .rd (.slice Ay y.length cy) y.length 1 (bl y), .rd (.slice Ap p.length cp) p.length 32 (dcs p), .rd (.slice Aq q.length cq) q.length 32 (dcs q)] := H3.sub (by repeat (first | exact List.nil_sublist _ | exact List.Sublist.refl _ | apply List.Sublist.cons_cons | apply List.Sublist.cons))
        refine ⟨fun _ => HB3, ?_⟩
        (repeat (first | (refine Cop.ogy_skip rfl rfl _ (by (simp only [Act.put, List.setIfInBounds_toArray, List.set_cons_succ, List.set_cons_zero]; rfl)) ?_) | (refine Cop.ogy_pure rfl rfl ?_; apply Exists.intro; refine ⟨fun w9 => ?_, _, by (simp only [Act.put, List.setIfInBounds_toArray, List.set_cons_succ, List.set_cons_zero]; rfl), ?_⟩; (go_simp; with_reducible rfl)) | (refine Cop.ogy_take rfl rfl HB3 (by kernel_rfl) ?_; apply Exists.intro; refine ⟨fun w9 h9 => ?_, _, by (simp only [Act.put, List.setIfInBounds_toArray, List.set_cons_succ, List.set_cons_zero]; rfl), ?_⟩; (obtain ⟨c0, c1, c2, c3, c4, c5, c6, c7⟩ := clm_cells HO.out HN.out (h9.row 0 rfl); go_simp; with_reducible rfl))))
        refine Cop.ogy_run rfl rfl ?_
        refine ow_apb (xs := []) H3 0 rfl rfl (H3.rd 7 rfl) rfl rfl y.length y (by omega) rfl (by have := HYL.out; omega) ?_
        intro u1 w23 H4 _
        obtain ⟨Ay1, cy1, rfl, _⟩ := (H4.own 0 rfl).sl
        have HB4 : Sep w.heap.size w w23 [.row g1 (clv m n older newer (.slice As1 s.length cs1) i (.slice Ax x.length cx) (.slice Ay y.length cy) (.slice Ap p.length cp) (.slice Aq q.length cq)) 37, .row g2 (clv 0 0 (List.replicate 32 0) (List.replicate 32 0) (.slice none 0 0) 0 (.slice none 0 0) (.slice none 0 0) (.slice none 0 0) (.slice none 0 0)) 37, .own (.slice As1 s.length cs1) 24 32 s.length (dcs s), .rd (.slice As s.length cs) s.length 32 (dcs s), .rd (.slice Ax x.length cx) x.length 1 (bl x), .rd (.slice Ay y.length cy) y.length 1 (bl y), .rd (.slice Ap p.length cp) p.length 32 (dcs p), .rd (.slice Aq q.length cq) q.length 32 (dcs q)] := H4.sub (by repeat (first | exact List.nil_sublist _ | exact List.Sublist.refl _ | apply List.Sublist.cons_cons | apply List.Sublist.cons))
        refine ⟨fun _ => HB4, ?_⟩
        (repeat (first | (refine Cop.ogy_skip rfl rfl _ (by (simp only [Act.put, List.setIfInBounds_toArray, List.set_cons_succ, List.set_cons_zero]; rfl)) ?_) | (refine Cop.ogy_pure rfl rfl ?_; apply Exists.intro; refine ⟨fun w9 => ?_, _, by (simp only [Act.put, List.setIfInBounds_toArray, List.set_cons_succ, List.set_cons_zero]; rfl), ?_⟩; (go_simp; with_reducible rfl)) | (refine Cop.ogy_take rfl rfl HB4 (by kernel_rfl) ?_; apply Exists.intro; refine ⟨fun w9 h9 => ?_, _, by (simp only [Act.put, List.setIfInBounds_toArray, List.set_cons_succ, List.set_cons_zero]; rfl), ?_⟩; (obtain ⟨c0, c1, c2, c3, c4, c5, c6, c7⟩ := clm_cells HO.out HN.out (h9.row 0 rfl); go_simp; with_reducible rfl))))
        refine Cop.ogy_run rfl rfl ?_
        refine ow_stc H4 2 rfl 22 _ _ rfl (by kernel_rfl) 68 (by rw [clv_size HO.out HN.out]; decide) rfl rfl rfl rfl ?_
        intro w24 H5
        rw [clv_set68 HO.out HN.out] at H5
        refine ⟨fun h => absurd h (by decide), ?_⟩
        (repeat (first | (refine Cop.ogy_skip rfl rfl _ (by (simp only [Act.put, List.setIfInBounds_toArray, List.set_cons_succ, List.set_cons_zero]; rfl)) ?_) | (refine Cop.ogy_pure rfl rfl ?_; apply Exists.intro; refine ⟨fun w9 => ?_, _, by (simp only [Act.put, List.setIfInBounds_toArray, List.set_cons_succ, List.set_cons_zero]; rfl), ?_⟩; (go_simp; with_reducible rfl)) | (refine Cop.ogy_take rfl rfl H5 (by kernel_rfl) ?_; apply Exists.intro; refine ⟨fun w9 h9 => ?_, _, by (simp only [Act.put, List.setIfInBounds_toArray, List.set_cons_succ, List.set_cons_zero]; rfl), ?_⟩; (go_simp; with_reducible rfl))))
        refine Cop.ogy_run rfl rfl ?_
        refine ow_stc H5 2 rfl 22 _ _ rfl (by kernel_rfl) 69 (by rw [clv_size HO.out HN.out]; decide) rfl rfl rfl rfl ?_
        intro w25 H6
        rw [clv_set69 HO.out HN.out] at H6
        refine ⟨fun h => absurd h (by decide), ?_⟩
        refine ogy_fin ?_
        go_wp2
        go_meet
        case rel => exact ⟨_, _, _, _, rfl, arr2 H6⟩
    · skip
      refine Cop.ogy_run rfl rfl ?_
      refine ow_bz H0 22 5 1 rfl Tryd.underlying22 (by kernel_rfl) ?_
      intro e1 w20 H1
      have HB1 : Sep w.heap.size w w20 [.row g1 (clv m n older newer (.slice As1 s.length cs1) i (.slice Ax x.length cx) (.slice Ay y.length cy) (.slice Ap p.length cp) (.slice Aq q.length cq)) 37, .row g2 (clv 0 0 (List.replicate 32 0) (List.replicate 32 0) (.slice none 0 0) 0 (.slice none 0 0) (.slice none 0 0) (.slice none 0 0) (.slice none 0 0)) 37, .own (.slice As1 s.length cs1) 24 32 s.length (dcs s), .rd (.slice As s.length cs) s.length 32 (dcs s), .rd (.slice Ax x.length cx) x.length 1 (bl x), .rd (.slice Ay y.length cy) y.length 1 (bl y), .rd (.slice Ap p.length cp) p.length 32 (dcs p), .rd (.slice Aq q.length cq) q.length 32 (dcs q)] := H1.sub (by repeat (first | exact List.nil_sublist _ | exact List.Sublist.refl _ | apply List.Sublist.cons_cons | apply List.Sublist.cons))
      refine ⟨fun _ => HB1, ?_⟩
      (repeat (first | (refine Cop.ogy_skip rfl rfl _ (by (simp only [Act.put, List.setIfInBounds_toArray, List.set_cons_succ, List.set_cons_zero]; rfl)) ?_) | (refine Cop.ogy_pure rfl rfl ?_; apply Exists.intro; refine ⟨fun w9 => ?_, _, by (simp only [Act.put, List.setIfInBounds_toArray, List.set_cons_succ, List.set_cons_zero]; rfl), ?_⟩; (go_simp; with_reducible rfl)) | (refine Cop.ogy_take rfl rfl HB1 (by kernel_rfl) ?_; apply Exists.intro; refine ⟨fun w9 h9 => ?_, _, by (simp only [Act.put, List.setIfInBounds_toArray, List.set_cons_succ, List.set_cons_zero]; rfl), ?_⟩; (obtain ⟨c0, c1, c2, c3, c4, c5, c6, c7⟩ := clm_cells HO.out HN.out (h9.row 0 rfl); go_simp; with_reducible rfl))))
      refine Cop.ogy_run rfl rfl ?_
      refine ow_bz H1 22 5 1 rfl Tryd.underlying22 (by kernel_rfl) ?_
      intro e0 w21 H2
      have HB2 : Sep w.heap.size w w21 [.row g1 (clv m n older newer (.slice As1 s.length cs1) i (.slice Ax x.length cx) (.slice Ay y.length cy) (.slice Ap p.length cp) (.slice Aq q.length cq)) 37, .row g2 (clv 0 0 (List.replicate 32 0) (List.replicate 32 0) (.slice none 0 0) 0 (.slice none 0 0) (.slice none 0 0) (.slice none 0 0) (.slice none 0 0)) 37, .own (.slice As1 s.length cs1) 24 32 s.length (dcs s), .rd (.slice As s.length cs) s.length 32 (dcs s), .rd (.slice Ax x.length cx) x.length 1 (bl x), .rd (.slice Ay y.length cy) y.length 1 (bl y), .rd (.slice Ap p.length cp) p.length 32 (dcs p), .rd (.slice Aq q.length cq) q.length 32 (dcs q)] := H2.sub (by repeat (first | exact List.nil_sublist _ | exact List.Sublist.refl _ | apply List.Sublist.cons_cons | apply List.Sublist.cons))
      refine ⟨fun _ => HB2, ?_⟩
      (repeat (first | (refine Cop.ogy_skip rfl rfl _ (by (simp only [Act.put, List.setIfInBounds_toArray, List.set_cons_succ, List.set_cons_zero]; rfl)) ?_) | (refine Cop.ogy_pure rfl rfl ?_; apply Exists.intro; refine ⟨fun w9 => ?_, _, by (simp only [Act.put, List.setIfInBounds_toArray, List.set_cons_succ, List.set_cons_zero]; rfl), ?_⟩; (go_simp; with_reducible rfl)) | (refine Cop.ogy_take rfl rfl HB2 (by kernel_rfl) ?_; apply Exists.intro; refine ⟨fun w9 h9 => ?_, _, by (simp only [Act.put, List.setIfInBounds_toArray, List.set_cons_succ, List.set_cons_zero]; rfl), ?_⟩; (obtain ⟨c0, c1, c2, c3, c4, c5, c6, c7⟩ := clm_cells HO.out HN.out (h9.row 0 rfl); go_simp; with_reducible rfl))))
      refine Cop.ogy_run rfl rfl ?_
      refine ow_apb (xs := []) H2 0 rfl rfl (H2.rd 6 rfl) rfl rfl x.length x (by omega) rfl (by have := HXL.out; omega) ?_
      intro u0 w22 H3 _
      obtain ⟨Ax1, cx1, rfl, _⟩ := (H3.own 0 rfl).sl
      have HB3 : Sep w.heap.size w w22 [.row g1 (clv m n older newer (.slice As1 s.length cs1) i (.slice Ax x.length cx) (.slice Ay y.length cy) (.slice Ap p.length cp) (.slice Aq q.length cq)) 37, .row g2 (clv 0 0 (List.replicate 32 0) (List.replicate 32 0) (.slice none 0 0) 0 (.slice none 0 0) (.slice none 0 0) (.slice none 0 0) (.slice none 0 0)) 37, .own (.slice As1 s.length cs1) 24 32 s.length (dcs s), .rd (.slice As s.length cs) s.length 32 (dcs s), .rd (.slice Ax x.length cx) x.length 1 (bl x), .rd (.slice Ay y.length cy) y.length 1 (bl y), .rd (.slice Ap p.length cp) p.length 32 (dcs p), .rd (.slice Aq q.length cq) q.length 32 (dcs q)] := H3.sub (by repeat (first | exact List.nil_sublist _ | exact List.Sublist.refl _ | apply List.Sublist.cons_cons | apply List.Sublist.cons))
      refine ⟨fun _ => HB3, ?_⟩
      (repeat (first | (refine Cop.ogy_skip rfl rfl _ (by (simp only [Act.put, List.setIfInBounds_toArray, List.set_cons_succ, List.set_cons_zero]; rfl)) ?_) | (refine Cop.ogy_pure rfl rfl ?_; apply Exists.intro; refine ⟨fun w9 => ?_, _, by (simp only [Act.put, List.setIfInBounds_toArray, List.set_cons_succ, List.set_cons_zero]; rfl), ?_⟩; (go_simp; with_reducible rfl)) | (refine Cop.ogy_take rfl rfl HB3 (by kernel_rfl) ?_; apply Exists.intro; refine ⟨fun w9 h9 => ?_, _, by (simp only [Act.put, List.setIfInBounds_toArray, List.set_cons_succ, List.set_cons_zero]; rfl), ?_⟩; (obtain ⟨c0, c1, c2, c3, c4, c5, c6, c7⟩ := clm_cells HO.out HN.out (h9.row 0 rfl); go_simp; with_reducible rfl))))
      refine Cop.ogy_run rfl rfl ?_
      refine ow_apb (xs := []) H3 1 rfl rfl (H3.rd 7 rfl) rfl rfl y.length y (by omega) rfl (by have := HYL.out; omega) ?_
      intro u1 w23 H4 _
      obtain ⟨Ay1, cy1, rfl, _⟩ := (H4.own 1 rfl).sl
      have HB4 : Sep w.heap.size w w23 [.row g1 (clv m n older newer (.slice As1 s.length cs1) i (.slice Ax x.length cx) (.slice Ay y.length cy) (.slice Ap p.length cp) (.slice Aq q.length cq)) 37, .row g2 (clv 0 0 (List.replicate 32 0) (List.replicate 32 0) (.slice none 0 0) 0 (.slice none 0 0) (.slice none 0 0) (.slice none 0 0) (.slice none 0 0)) 37, .own (.slice As1 s.length cs1) 24 32 s.length (dcs s), .rd (.slice As s.length cs) s.length 32 (dcs s), .rd (.slice Ax x.length cx) x.length 1 (bl x), .rd (.slice Ay y.length cy) y.length 1 (bl y), .rd (.slice Ap p.length cp) p.length 32 (dcs p), .rd (.slice Aq q.length cq) q.length 32 (dcs q)] := H4.sub (by repeat (first | exact List.nil_sublist _ | exact List.Sublist.refl _ | apply List.Sublist.cons_cons | apply List.Sublist.cons))
      refine ⟨fun _ => HB4, ?_⟩
      (repeat (first | (refine Cop.ogy_skip rfl rfl _ (by (simp only [Act.put, List.setIfInBounds_toArray, List.set_cons_succ, List.set_cons_zero]; rfl)) ?_) | (refine Cop.ogy_pure rfl rfl ?_; apply Exists.intro; refine ⟨fun w9 => ?_, _, by (simp only [Act.put, List.setIfInBounds_toArray, List.set_cons_succ, List.set_cons_zero]; rfl), ?_⟩; (go_simp; with_reducible rfl)) | (refine Cop.ogy_take rfl rfl HB4 (by kernel_rfl) ?_; apply Exists.intro; refine ⟨fun w9 h9 => ?_, _, by (simp only [Act.put, List.setIfInBounds_toArray, List.set_cons_succ, List.set_cons_zero]; rfl), ?_⟩; (obtain ⟨c0, c1, c2, c3, c4, c5, c6, c7⟩ := clm_cells HO.out HN.out (h9.row 0 rfl); go_simp; with_reducible rfl))))
      refine Cop.ogy_run rfl rfl ?_
      refine ow_stc H4 2 rfl 22 _ _ rfl (by kernel_rfl) 68 (by rw [clv_size HO.out HN.out]; decide) rfl rfl rfl rfl ?_
      intro w24 H5
      rw [clv_set68 HO.out HN.out] at H5
      refine ⟨fun h => absurd h (by decide), ?_⟩
      (repeat (first | (refine Cop.ogy_skip rfl rfl _ (by (simp only [Act.put, List.setIfInBounds_toArray, List.set_cons_succ, List.set_cons_zero]; rfl)) ?_) | (refine Cop.ogy_pure rfl rfl ?_; apply Exists.intro; refine ⟨fun w9 => ?_, _, by (simp only [Act.put, List.setIfInBounds_toArray, List.set_cons_succ, List.set_cons_zero]; rfl), ?_⟩; (go_simp; with_reducible rfl)) | (refine Cop.ogy_take rfl rfl H5 (by kernel_rfl) ?_; apply Exists.intro; refine ⟨fun w9 h9 => ?_, _, by (simp only [Act.put, List.setIfInBounds_toArray, List.set_cons_succ, List.set_cons_zero]; rfl), ?_⟩; (go_simp; with_reducible rfl))))
      refine Cop.ogy_run rfl rfl ?_
      refine ow_stc H5 2 rfl 22 _ _ rfl (by kernel_rfl) 69 (by rw [clv_size HO.out HN.out]; decide) rfl rfl rfl rfl ?_
      intro w25 H6
      rw [clv_set69 HO.out HN.out] at H6
      refine ⟨fun h => absurd h (by decide), ?_⟩
      refine ogy_fin ?_
      go_wp2
      go_meet
      case rel => exact ⟨_, _, _, _, rfl, arr1 H6⟩
  obtain ⟨Ax1, Ay1, cx1, cy1, rfl, HS⟩ := hcut
  go_upto_region 3 with fail
  go_cut [27] (fun s27 wx => ∃ (Ap1 Aq1 : Option Addr) (cp1 cq1 : Nat), s27 = .pointer (some ⟨g1, 71, none⟩) ∧ Sep w.heap.size w wx [.row g1 (clv m n older newer (.slice As1 s.length cs1) i (.slice Ax1 x.length cx1) (.slice Ay1 y.length cy1) (.slice Ap1 p.length cp1) (.slice Aq1 q.length cq1)) 37, .row g2 (clv 0 0 (List.replicate 32 0) (List.replicate 32 0) (.slice none 0 0) 0 (.slice none 0 0) (.slice none 0 0) (.slice none 0 0) (.slice none 0 0)) 37, .own (.slice Ap1 p.length cp1) 24 32 p.length (dcs p), .own (.slice Aq1 q.length cq1) 24 32 q.length (dcs q), .own (.slice Ax1 x.length cx1) 5 1 x.length (bl x), .own (.slice Ay1 y.length cy1) 5 1 y.length (bl y), .own (.slice As1 s.length cs1) 24 32 s.length (dcs s), .rd (.slice As s.length cs) s.length 32 (dcs s), .rd (.slice Ax x.length cx) x.length 1 (bl x), .rd (.slice Ay y.length cy) y.length 1 (bl y), .rd (.slice Ap p.length cp) p.length 32 (dcs p), .rd (.slice Aq q.length cq) q.length 32 (dcs q)])
  case first =>
    refine Cop.region_ordy (fun w' => Sep w.heap.size w w' [.row g1 (clv m n older newer (.slice As1 s.length cs1) i (.slice Ax1 x.length cx1) (.slice Ay1 y.length cy1) (.slice Ap p.length cp) (.slice Aq q.length cq)) 37, .row g2 (clv 0 0 (List.replicate 32 0) (List.replicate 32 0) (.slice none 0 0) 0 (.slice none 0 0) (.slice none 0 0) (.slice none 0 0) (.slice none 0 0)) 37, .own (.slice Ax1 x.length cx1) 5 1 x.length (bl x), .own (.slice Ay1 y.length cy1) 5 1 y.length (bl y), .own (.slice As1 s.length cs1) 24 32 s.length (dcs s), .rd (.slice As s.length cs) s.length 32 (dcs s), .rd (.slice Ax x.length cx) x.length 1 (bl x), .rd (.slice Ay y.length cy) y.length 1 (bl y), .rd (.slice Ap p.length cp) p.length 32 (dcs p), .rd (.slice Aq q.length cq) q.length 32 (dcs q)]) 9 (.take 1 (.take 2 (.take 5 (.take 6 (.run2 0 (.run2 3 (.take 8 (.run 4 (.run 7 (.run 9 (.take 10 (.run 11 Cop.Ord.fin)))))) 4 (.run 3 (.take 8 (.run 7 (.run 9 (.take 10 (.run 11 Cop.Ord.fin))))))) 4 (.run 0 (.run 3 (.take 8 (.run 7 (.run 9 (.take 10 (.run 11 Cop.Ord.fin)))))))))))) (by kernel_rfl) (by kernel_rfl) (fun _ _ d _ _ h => by cases d <;> exact h) ?_
    intro wa hda
    have H0 := HS.keep hda
    clear HS
    (repeat (first | (refine Cop.ogy_skip rfl rfl _ (by (simp only [Act.put, List.setIfInBounds_toArray, List.set_cons_succ, List.set_cons_zero]; rfl)) ?_) | (refine Cop.ogy_pure rfl rfl ?_; apply Exists.intro; refine ⟨fun w9 => ?_, _, by (simp only [Act.put, List.setIfInBounds_toArray, List.set_cons_succ, List.set_cons_zero]; rfl), ?_⟩; (go_simp; with_reducible rfl)) | (refine Cop.ogy_take rfl rfl H0 (by kernel_rfl) ?_; apply Exists.intro; refine ⟨fun w9 h9 => ?_, _, by (simp only [Act.put, List.setIfInBounds_toArray, List.set_cons_succ, List.set_cons_zero]; rfl), ?_⟩; (obtain ⟨c0, c1, c2, c3, c4, c5, c6, c7⟩ := clm_cells HO.out HN.out (h9.row 0 rfl); go_simp; with_reducible rfl))))
    refine Cop.ogy_run2 ?_ ?_
    · skip
      refine Cop.ogy_run rfl rfl ?_
      refine ow_bz H0 28 24 32 rfl Tryd.underlying28 (by kernel_rfl) ?_
      intro e0 w20 H1
      have HB1 : Sep w.heap.size w w20 [.row g1 (clv m n older newer (.slice As1 s.length cs1) i (.slice Ax1 x.length cx1) (.slice Ay1 y.length cy1) (.slice Ap p.length cp) (.slice Aq q.length cq)) 37, .row g2 (clv 0 0 (List.replicate 32 0) (List.replicate 32 0) (.slice none 0 0) 0 (.slice none 0 0) (.slice none 0 0) (.slice none 0 0) (.slice none 0 0)) 37, .own (.slice Ax1 x.length cx1) 5 1 x.length (bl x), .own (.slice Ay1 y.length cy1) 5 1 y.length (bl y), .own (.slice As1 s.length cs1) 24 32 s.length (dcs s), .rd (.slice As s.length cs) s.length 32 (dcs s), .rd (.slice Ax x.length cx) x.length 1 (bl x), .rd (.slice Ay y.length cy) y.length 1 (bl y), .rd (.slice Ap p.length cp) p.length 32 (dcs p), .rd (.slice Aq q.length cq) q.length 32 (dcs q)] := H1.sub (by repeat (first | exact List.nil_sublist _ | exact List.Sublist.refl _ | apply List.Sublist.cons_cons | apply List.Sublist.cons))
      refine ⟨fun _ => HB1, ?_⟩
      (repeat (first | (refine Cop.ogy_skip rfl rfl _ (by (simp only [Act.put, List.setIfInBounds_toArray, List.set_cons_succ, List.set_cons_zero]; rfl)) ?_) | (refine Cop.ogy_pure rfl rfl ?_; apply Exists.intro; refine ⟨fun w9 => ?_, _, by (simp only [Act.put, List.setIfInBounds_toArray, List.set_cons_succ, List.set_cons_zero]; rfl), ?_⟩; (go_simp; with_reducible rfl)) | (refine Cop.ogy_take rfl rfl HB1 (by kernel_rfl) ?_; apply Exists.intro; refine ⟨fun w9 h9 => ?_, _, by (simp only [Act.put, List.setIfInBounds_toArray, List.set_cons_succ, List.set_cons_zero]; rfl), ?_⟩; (obtain ⟨c0, c1, c2, c3, c4, c5, c6, c7⟩ := clm_cells HO.out HN.out (h9.row 0 rfl); go_simp; with_reducible rfl))))
      refine Cop.ogy_run2 ?_ ?_
      · skip
        refine Cop.ogy_run rfl rfl ?_
        refine ow_apd9 (p := []) H1 0 rfl rfl (H1.rd 9 rfl) rfl rfl p.length p (by omega) rfl (by have := HPL.out; omega) ?_
        intro u0 w21 H2
        obtain ⟨Ap1, cp1, rfl, _⟩ := (H2.own 0 rfl).sl
        have HB2 : Sep w.heap.size w w21 [.row g1 (clv m n older newer (.slice As1 s.length cs1) i (.slice Ax1 x.length cx1) (.slice Ay1 y.length cy1) (.slice Ap p.length cp) (.slice Aq q.length cq)) 37, .row g2 (clv 0 0 (List.replicate 32 0) (List.replicate 32 0) (.slice none 0 0) 0 (.slice none 0 0) (.slice none 0 0) (.slice none 0 0) (.slice none 0 0)) 37, .own (.slice Ax1 x.length cx1) 5 1 x.length (bl x), .own (.slice Ay1 y.length cy1) 5 1 y.length (bl y), .own (.slice As1 s.length cs1) 24 32 s.length (dcs s), .rd (.slice As s.length cs) s.length 32 (dcs s), .rd (.slice Ax x.length cx) x.length 1 (bl x), .rd (.slice Ay y.length cy) y.length 1 (bl y), .rd (.slice Ap p.length cp) p.length 32 (dcs p), .rd (.slice Aq q.length cq) q.length 32 (dcs q)] := H2.sub (by repeat (first | exact List.nil_sublist _ | exact List.Sublist.refl _ | apply List.Sublist.cons_cons | apply List.Sublist.cons))
        refine ⟨fun _ => HB2, ?_⟩
        (repeat (first | (refine Cop.ogy_skip rfl rfl _ (by (simp only [Act.put, List.setIfInBounds_toArray, List.set_cons_succ, List.set_cons_zero]; rfl)) ?_) | (refine Cop.ogy_pure rfl rfl ?_; apply Exists.intro; refine ⟨fun w9 => ?_, _, by (simp only [Act.put, List.setIfInBounds_toArray, List.set_cons_succ, List.set_cons_zero]; rfl), ?_⟩; (go_simp; with_reducible rfl)) | (refine Cop.ogy_take rfl rfl HB2 (by kernel_rfl) ?_; apply Exists.intro; refine ⟨fun w9 h9 => ?_, _, by (simp only [Act.put, List.setIfInBounds_toArray, List.set_cons_succ, List.set_cons_zero]; rfl), ?_⟩; (obtain ⟨c0, c1, c2, c3, c4, c5, c6, c7⟩ := clm_cells HO.out HN.out (h9.row 0 rfl); go_simp; with_reducible rfl))))
        refine Cop.ogy_run rfl rfl ?_
        refine ow_bz H2 28 24 32 rfl Tryd.underlying28 (by kernel_rfl) ?_
        intro e1 w22 H3
        have HB3 : Sep w.heap.size w w22 [.row g1 (clv m n older newer (.slice As1 s.length cs1) i (.slice Ax1 x.length cx1) (.slice Ay1 y.length cy1) (.slice Ap p.length cp) (.slice Aq q.length cq)) 37, .row g2 (clv 0 0 (List.replicate 32 0) (List.replicate 32 0) (.slice none 0 0) 0 (.slice none 0 0) (.slice none 0 0) (.slice none 0 0) (.slice none 0 0)) 37, .own (.slice Ax1 x.length cx1) 5 1 x.length (bl x), .own (.slice Ay1 y.length cy1) 5 1 y.length (bl y), .own (.slice As1 s.length cs1) 24 32 s.length (dcs s), .rd (.slice As s.length cs) s.length 32 (dcs s), .rd (.slice Ax x.length cx) x.length 1 (bl x), .rd (.slice Ay y.length cy) y.length 1 (bl y), .rd (.slice Ap p.length cp) p.length 32 (dcs p), .rd (.slice Aq q.length cq) q.length 32 (dcs q)] := H3.sub (by repeat (first | exact List.nil_sublist _ | exact List.Sublist.refl _ | apply List.Sublist.cons_cons | apply List.Sublist.cons))
        refine ⟨fun _ => HB3, ?_⟩
        (repeat (first | (refine Cop.ogy_skip rfl rfl _ (by (simp only [Act.put, List.setIfInBounds_toArray, List.set_cons_succ, List.set_cons_zero]; rfl)) ?_) | (refine Cop.ogy_pure rfl rfl ?_; apply Exists.intro; refine ⟨fun w9 => ?_, _, by (simp only [Act.put, List.setIfInBounds_toArray, List.set_cons_succ, List.set_cons_zero]; rfl), ?_⟩; (go_simp; with_reducible rfl)) | (refine Cop.ogy_take rfl rfl HB3 (by kernel_rfl) ?_; apply Exists.intro; refine ⟨fun w9 h9 => ?_, _, by (simp only [Act.put, List.setIfInBounds_toArray, List.set_cons_succ, List.set_cons_zero]; rfl), ?_⟩; (obtain ⟨c0, c1, c2, c3, c4, c5, c6, c7⟩ := clm_cells HO.out HN.out (h9.row 0 rfl); go_simp; with_reducible rfl))))
        refine Cop.ogy_run rfl rfl ?_
        refine ow_apd9 (p := []) H3 0 rfl rfl (H3.rd 11 rfl) rfl rfl q.length q (by omega) rfl (by have := HQL.out; omega) ?_
        intro u1 w23 H4
        obtain ⟨Aq1, cq1, rfl, _⟩ := (H4.own 0 rfl).sl
        have HB4 : Sep w.heap.size w w23 [.row g1 (clv m n older newer (.slice As1 s.length cs1) i (.slice Ax1 x.length cx1) (.slice Ay1 y.length cy1) (.slice Ap p.length cp) (.slice Aq q.length cq)) 37, .row g2 (clv 0 0 (List.replicate 32 0) (List.replicate 32 0) (.slice none 0 0) 0 (.slice none 0 0) (.slice none 0 0) (.slice none 0 0) (.slice none 0 0)) 37, .own (.slice Ax1 x.length cx1) 5 1 x.length (bl x), .own (.slice Ay1 y.length cy1) 5 1 y.length (bl y), .own (.slice As1 s.length cs1) 24 32 s.length (dcs s), .rd (.slice As s.length cs) s.length 32 (dcs s), .rd (.slice Ax x.length cx) x.length 1 (bl x), .rd (.slice Ay y.length cy) y.length 1 (bl y), .rd (.slice Ap p.length cp) p.length 32 (dcs p), .rd (.slice Aq q.length cq) q.length 32 (dcs q)] := H4.sub (by repeat (first | exact List.nil_sublist _ | exact List.Sublist.refl _ | apply List.Sublist.cons_cons | apply List.Sublist.cons))
        refine ⟨fun _ => HB4, ?_⟩
        (repeat (first | (refine Cop.ogy_skip rfl rfl _ (by (simp only [Act.put, List.setIfInBounds_toArray, List.set_cons_succ, List.set_cons_zero]; rfl)) ?_) | (refine Cop.ogy_pure rfl rfl ?_; apply Exists.intro; refine ⟨fun w9 => ?_, _, by (simp only [Act.put, List.setIfInBounds_toArray, List.set_cons_succ, List.set_cons_zero]; rfl), ?_⟩; (go_simp; with_reducible rfl)) | (refine Cop.ogy_take rfl rfl HB4 (by kernel_rfl) ?_; apply Exists.intro; refine ⟨fun w9 h9 => ?_, _, by (simp only [Act.put, List.setIfInBounds_toArray, List.set_cons_succ, List.set_cons_zero]; rfl), ?_⟩; (obtain ⟨c0, c1, c2, c3, c4, c5, c6, c7⟩ := clm_cells HO.out HN.out (h9.row 0 rfl); go_simp; with_reducible rfl))))
        refine Cop.ogy_run rfl rfl ?_
        refine ow_stc H4 2 rfl 28 _ _ rfl (by kernel_rfl) 70 (by rw [clv_size HO.out HN.out]; decide) rfl rfl rfl rfl ?_
        intro w24 H5
        rw [clv_set70 HO.out HN.out] at H5
        refine ⟨fun h => absurd h (by decide), ?_⟩
        (repeat (first | (refine Cop.ogy_skip rfl rfl _ (by (simp only [Act.put, List.setIfInBounds_toArray, List.set_cons_succ, List.set_cons_zero]; rfl)) ?_) | (refine Cop.ogy_pure rfl rfl ?_; apply Exists.intro; refine ⟨fun w9 => ?_, _, by (simp only [Act.put, List.setIfInBounds_toArray, List.set_cons_succ, List.set_cons_zero]; rfl), ?_⟩; (go_simp; with_reducible rfl)) | (refine Cop.ogy_take rfl rfl H5 (by kernel_rfl) ?_; apply Exists.intro; refine ⟨fun w9 h9 => ?_, _, by (simp only [Act.put, List.setIfInBounds_toArray, List.set_cons_succ, List.set_cons_zero]; rfl), ?_⟩; (go_simp; with_reducible rfl))))
        refine Cop.ogy_run rfl rfl ?_
        refine ow_stc H5 2 rfl 28 _ _ rfl (by kernel_rfl) 71 (by rw [clv_size HO.out HN.out]; decide) rfl rfl rfl rfl ?_
        intro w25 H6
        rw [clv_set71 HO.out HN.out] at H6
        refine ⟨fun h => absurd h (by decide), ?_⟩
        refine ogy_fin ?_
        go_wp2
        go_meet
        case rel => exact ⟨_, _, _, _, rfl, arr2 H6⟩
      · skip
        refine Cop.ogy_run rfl rfl ?_
        refine ow_bz H1 28 24 32 rfl Tryd.underlying28 (by kernel_rfl) ?_
        intro e1 w21 H2
        have HB2 : Sep w.heap.size w w21 [.row g1 (clv m n older newer (.slice As1 s.length cs1) i (.slice Ax1 x.length cx1) (.slice Ay1 y.length cy1) (.slice Ap p.length cp) (.slice Aq q.length cq)) 37, .row g2 (clv 0 0 (List.replicate 32 0) (List.replicate 32 0) (.slice none 0 0) 0 (.slice none 0 0) (.slice none 0 0) (.slice none 0 0) (.slice none 0 0)) 37, .own (.slice Ax1 x.length cx1) 5 1 x.length (bl x), .own (.slice Ay1 y.length cy1) 5 1 y.length (bl y), .own (.slice As1 s.length cs1) 24 32 s.length (dcs s), .rd (.slice As s.length cs) s.length 32 (dcs s), .rd (.slice Ax x.length cx) x.length 1 (bl x), .rd (.slice Ay y.length cy) y.length 1 (bl y), .rd (.slice Ap p.length cp) p.length 32 (dcs p), .rd (.slice Aq q.length cq) q.length 32 (dcs q)] := H2.sub (by repeat (first | exact List.nil_sublist _ | exact List.Sublist.refl _ | apply List.Sublist.cons_cons | apply List.Sublist.cons))
        refine ⟨fun _ => HB2, ?_⟩
        (repeat (first | (refine Cop.ogy_skip rfl rfl _ (by (simp only [Act.put, List.setIfInBounds_toArray, List.set_cons_succ, List.set_cons_zero]; rfl)) ?_) | (refine Cop.ogy_pure rfl rfl ?_; apply Exists.intro; refine ⟨fun w9 => ?_, _, by (simp only [Act.put, List.setIfInBounds_toArray, List.set_cons_succ, List.set_cons_zero]; rfl), ?_⟩; (go_simp; with_reducible rfl)) | (refine Cop.ogy_take rfl rfl HB2 (by kernel_rfl) ?_; apply Exists.intro; refine ⟨fun w9 h9 => ?_, _, by (simp only [Act.put, List.setIfInBounds_toArray, List.set_cons_succ, List.set_cons_zero]; rfl), ?_⟩; (obtain ⟨c0, c1, c2, c3, c4, c5, c6, c7⟩ := clm_cells HO.out HN.out (h9.row 0 rfl); go_simp; with_reducible rfl))))
        refine Cop.ogy_run rfl rfl ?_
        refine ow_apd9 (p := []) H2 1 rfl rfl (H2.rd 10 rfl) rfl rfl p.length p (by omega) rfl (by have := HPL.out; omega) ?_
        intro u0 w22 H3
        obtain ⟨Ap1, cp1, rfl, _⟩ := (H3.own 1 rfl).sl
        have HB3 : Sep w.heap.size w w22 [.row g1 (clv m n older newer (.slice As1 s.length cs1) i (.slice Ax1 x.length cx1) (.slice Ay1 y.length cy1) (.slice Ap p.length cp) (.slice Aq q.length cq)) 37, .row g2 (clv 0 0 (List.replicate 32 0) (List.replicate 32 0) (.slice none 0 0) 0 (.slice none 0 0) (.slice none 0 0) (.slice none 0 0) (.slice none 0 0)) 37, .own (.slice Ax1 x.length cx1) 5 1 x.length (bl x), .own (.slice Ay1 y.length cy1) 5 1 y.length (bl y), .own (.slice As1 s.length cs1) 24 32 s.length (dcs s), .rd (.slice As s.length cs) s.length 32 (dcs s), .rd (.slice Ax x.length cx) x.length 1 (bl x), .rd (.slice Ay y.length cy) y.length 1 (bl y), .rd (.slice Ap p.length cp) p.length 32 (dcs p), .rd (.slice Aq q.length cq) q.length 32 (dcs q)] := H3.sub (by repeat (first | exact List.nil_sublist _ | exact List.Sublist.refl _ | apply List.Sublist.cons_cons | apply List.Sublist.cons))
        refine ⟨fun _ => HB3, ?_⟩
        (repeat (first | (refine Cop.ogy_skip rfl rfl _ (by (simp only [Act.put, List.setIfInBounds_toArray, List.set_cons_succ, List.set_cons_zero]; rfl)) ?_) | (refine Cop.ogy_pure rfl rfl ?_; apply Exists.intro; refine ⟨fun w9 => ?_, _, by (simp only [Act.put, List.setIfInBounds_toArray, List.set_cons_succ, List.set_cons_zero]; rfl), ?_⟩; (go_simp; with_reducible rfl)) | (refine Cop.ogy_take rfl rfl HB3 (by kernel_rfl) ?_; apply Exists.intro; refine ⟨fun w9 h9 => ?_, _, by (simp only [Act.put, List.setIfInBounds_toArray, List.set_cons_succ, List.set_cons_zero]; rfl), ?_⟩; (obtain ⟨c0, c1, c2, c3, c4, c5, c6, c7⟩ := clm_cells HO.out HN.out (h9.row 0 rfl); go_simp; with_reducible rfl))))
        refine Cop.ogy_run rfl rfl ?_
        refine ow_apd9 (p := []) H3 0 rfl rfl (H3.rd 11 rfl) rfl rfl q.length q (by omega) rfl (by have := HQL.out; omega) ?_
        intro u1 w23 H4
        obtain ⟨Aq1, cq1, rfl, _⟩ := (H4.own 0 rfl).sl
        have HB4 : Sep w.heap.size w w23 [.row g1 (clv m n older newer (.slice As1 s.length cs1) i (.slice Ax1 x.length cx1) (.slice Ay1 y.length cy1) (.slice Ap p.length cp) (.slice Aq q.length cq)) 37, .row g2 (clv 0 0 (List.replicate 32 0) (List.replicate 32 0) (.slice none 0 0) 0 (.slice none 0 0) (.slice none 0 0) (.slice none 0 0) (.slice none 0 0)) 37, .own (.slice Ax1 x.length cx1) 5 1 x.length (bl x), .own (.slice Ay1 y.length cy1) 5 1 y.length (bl y), .own (.slice As1 s.length cs1) 24 32 s.length (dcs s), .rd (.slice As s.length cs) s.length 32 (dcs s), .rd (.slice Ax x.length cx) x.length 1 (bl x), .rd (.slice Ay y.length cy) y.length 1 (bl y), .rd (.slice Ap p.length cp) p.length 32 (dcs p), .rd (.slice Aq q.length cq) q.length 32 (dcs q)] := H4.sub (by repeat (first | exact List.nil_sublist _ | exact List.Sublist.refl _ | apply List.Sublist.cons_cons | apply List.Sublist.cons))
        refine ⟨fun _ => HB4, ?_⟩
        (repeat (first | (refine Cop.ogy_skip rfl rfl _ (by (simp only [Act.put, List.setIfInBounds_toArray, List.set_cons_succ, List.set_cons_zero]; rfl)) ?_) | (refine Cop.ogy_pure rfl rfl ?_; apply Exists.intro; refine ⟨fun w9 => ?_, _, by (simp only [Act.put, List.setIfInBounds_toArray, List.set_cons_succ, List.set_cons_zero]; rfl), ?_⟩; (go_simp; with_reducible rfl)) | (refine Cop.ogy_take rfl rfl HB4 (by kernel_rfl) ?_; apply Exists.intro; refine ⟨fun w9 h9 => ?_, _, by (simp only [Act.put, List.setIfInBounds_toArray, List.set_cons_succ, List.set_cons_zero]; rfl), ?_⟩; (obtain ⟨c0, c1, c2, c3, c4, c5, c6, c7⟩ := clm_cells HO.out HN.out (h9.row 0 rfl); go_simp; with_reducible rfl))))
        refine Cop.ogy_run rfl rfl ?_
        refine ow_stc H4 2 rfl 28 _ _ rfl (by kernel_rfl) 70 (by rw [clv_size HO.out HN.out]; decide) rfl rfl rfl rfl ?_
        intro w24 H5
        rw [clv_set70 HO.out HN.out] at H5
        refine ⟨fun h => absurd h (by decide), ?_⟩
        (repeat (first | (refine Cop.ogy_skip rfl rfl _ (by (simp only [Act.put, List.setIfInBounds_toArray, List.set_cons_succ, List.set_cons_zero]; rfl)) ?_) | (refine Cop.ogy_pure rfl rfl ?_; apply Exists.intro; refine ⟨fun w9 => ?_, _, by (simp only [Act.put, List.setIfInBounds_toArray, List.set_cons_succ, List.set_cons_zero]; rfl), ?_⟩; (go_simp; with_reducible rfl)) | (refine Cop.ogy_take rfl rfl H5 (by kernel_rfl) ?_; apply Exists.intro; refine ⟨fun w9 h9 => ?_, _, by (simp only [Act.put, List.setIfInBounds_toArray, List.set_cons_succ, List.set_cons_zero]; rfl), ?_⟩; (go_simp; with_reducible rfl))))
        refine Cop.ogy_run rfl rfl ?_
        refine ow_stc H5 2 rfl 28 _ _ rfl (by kernel_rfl) 71 (by rw [clv_size HO.out HN.out]; decide) rfl rfl rfl rfl ?_
        intro w25 H6
        rw [clv_set71 HO.out HN.out] at H6
        refine ⟨fun h => absurd h (by decide), ?_⟩
        refine ogy_fin ?_
        go_wp2
        go_meet
        case rel => exact ⟨_, _, _, _, rfl, arr2 H6⟩
    · skip
      refine Cop.ogy_run rfl rfl ?_
      refine ow_bz H0 28 24 32 rfl Tryd.underlying28 (by kernel_rfl) ?_
      intro e1 w20 H1
      have HB1 : Sep w.heap.size w w20 [.row g1 (clv m n older newer (.slice As1 s.length cs1) i (.slice Ax1 x.length cx1) (.slice Ay1 y.length cy1) (.slice Ap p.length cp) (.slice Aq q.length cq)) 37, .row g2 (clv 0 0 (List.replicate 32 0) (List.replicate 32 0) (.slice none 0 0) 0 (.slice none 0 0) (.slice none 0 0) (.slice none 0 0) (.slice none 0 0)) 37, .own (.slice Ax1 x.length cx1) 5 1 x.length (bl x), .own (.slice Ay1 y.length cy1) 5 1 y.length (bl y), .own (.slice As1 s.length cs1) 24 32 s.length (dcs s), .rd (.slice As s.length cs) s.length 32 (dcs s), .rd (.slice Ax x.length cx) x.length 1 (bl x), .rd (.slice Ay y.length cy) y.length 1 (bl y), .rd (.slice Ap p.length cp) p.length 32 (dcs p), .rd (.slice Aq q.length cq) q.length 32 (dcs q)] := H1.sub (by repeat (first | exact List.nil_sublist _ | exact List.Sublist.refl _ | apply List.Sublist.cons_cons | apply List.Sublist.cons))
      refine ⟨fun _ => HB1, ?_⟩
      (repeat (first | (refine Cop.ogy_skip rfl rfl _ (by (simp only [Act.put, List.setIfInBounds_toArray, List.set_cons_succ, List.set_cons_zero]; rfl)) ?_) | (refine Cop.ogy_pure rfl rfl ?_; apply Exists.intro; refine ⟨fun w9 => ?_, _, by (simp only [Act.put, List.setIfInBounds_toArray, List.set_cons_succ, List.set_cons_zero]; rfl), ?_⟩; (go_simp; with_reducible rfl)) | (refine Cop.ogy_take rfl rfl HB1 (by kernel_rfl) ?_; apply Exists.intro; refine ⟨fun w9 h9 => ?_, _, by (simp only [Act.put, List.setIfInBounds_toArray, List.set_cons_succ, List.set_cons_zero]; rfl), ?_⟩; (obtain ⟨c0, c1, c2, c3, c4, c5, c6, c7⟩ := clm_cells HO.out HN.out (h9.row 0 rfl); go_simp; with_reducible rfl))))
      refine Cop.ogy_run rfl rfl ?_
      refine ow_bz H1 28 24 32 rfl Tryd.underlying28 (by kernel_rfl) ?_
      intro e0 w21 H2
      have HB2 : Sep w.heap.size w w21 [.row g1 (clv m n older newer (.slice As1 s.length cs1) i (.slice Ax1 x.length cx1) (.slice Ay1 y.length cy1) (.slice Ap p.length cp) (.slice Aq q.length cq)) 37, .row g2 (clv 0 0 (List.replicate 32 0) (List.replicate 32 0) (.slice none 0 0) 0 (.slice none 0 0) (.slice none 0 0) (.slice none 0 0) (.slice none 0 0)) 37, .own (.slice Ax1 x.length cx1) 5 1 x.length (bl x), .own (.slice Ay1 y.length cy1) 5 1 y.length (bl y), .own (.slice As1 s.length cs1) 24 32 s.length (dcs s), .rd (.slice As s.length cs) s.length 32 (dcs s), .rd (.slice Ax x.length cx) x.length 1 (bl x), .rd (.slice Ay y.length cy) y.length 1 (bl y), .rd (.slice Ap p.length cp) p.length 32 (dcs p), .rd (.slice Aq q.length cq) q.length 32 (dcs q)] := H2.sub (by repeat (first | exact List.nil_sublist _ | exact List.Sublist.refl _ | apply List.Sublist.cons_cons | apply List.Sublist.cons))
      refine ⟨fun _ => HB2, ?_⟩
      (repeat (first | (refine Cop.ogy_skip rfl rfl _ (by (simp only [Act.put, List.setIfInBounds_toArray, List.set_cons_succ, List.set_cons_zero]; rfl)) ?_) | (refine Cop.ogy_pure rfl rfl ?_; apply Exists.intro; refine ⟨fun w9 => ?_, _, by (simp only [Act.put, List.setIfInBounds_toArray, List.set_cons_succ, List.set_cons_zero]; rfl), ?_⟩; (go_simp; with_reducible rfl)) | (refine Cop.ogy_take rfl rfl HB2 (by kernel_rfl) ?_; apply Exists.intro; refine ⟨fun w9 h9 => ?_, _, by (simp only [Act.put, List.setIfInBounds_toArray, List.set_cons_succ, List.set_cons_zero]; rfl), ?_⟩; (obtain ⟨c0, c1, c2, c3, c4, c5, c6, c7⟩ := clm_cells HO.out HN.out (h9.row 0 rfl); go_simp; with_reducible rfl))))
      refine Cop.ogy_run rfl rfl ?_
      refine ow_apd9 (p := []) H2 0 rfl rfl (H2.rd 10 rfl) rfl rfl p.length p (by omega) rfl (by have := HPL.out; omega) ?_
      intro u0 w22 H3
      obtain ⟨Ap1, cp1, rfl, _⟩ := (H3.own 0 rfl).sl
      have HB3 : Sep w.heap.size w w22 [.row g1 (clv m n older newer (.slice As1 s.length cs1) i (.slice Ax1 x.length cx1) (.slice Ay1 y.length cy1) (.slice Ap p.length cp) (.slice Aq q.length cq)) 37, .row g2 (clv 0 0 (List.replicate 32 0) (List.replicate 32 0) (.slice none 0 0) 0 (.slice none 0 0) (.slice none 0 0) (.slice none 0 0) (.slice none 0 0)) 37, .own (.slice Ax1 x.length cx1) 5 1 x.length (bl x), .own (.slice Ay1 y.length cy1) 5 1 y.length (bl y), .own (.slice As1 s.length cs1) 24 32 s.length (dcs s), .rd (.slice As s.length cs) s.length 32 (dcs s), .rd (.slice Ax x.length cx) x.length 1 (bl x), .rd (.slice Ay y.length cy) y.length 1 (bl y), .rd (.slice Ap p.length cp) p.length 32 (dcs p), .rd (.slice Aq q.length cq) q.length 32 (dcs q)] := H3.sub (by repeat (first | exact List.nil_sublist _ | exact List.Sublist.refl _ | apply List.Sublist.cons_cons | apply List.Sublist.cons))
      refine ⟨fun _ => HB3, ?_⟩
      (repeat (first | (refine Cop.ogy_skip rfl rfl _ (by (simp only [Act.put, List.setIfInBounds_toArray, List.set_cons_succ, List.set_cons_zero]; rfl)) ?_) | (refine Cop.ogy_pure rfl rfl ?_; apply Exists.intro; refine ⟨fun w9 => ?_, _, by (simp only [Act.put, List.setIfInBounds_toArray, List.set_cons_succ, List.set_cons_zero]; rfl), ?_⟩; (go_simp; with_reducible rfl)) | (refine Cop.ogy_take rfl rfl HB3 (by kernel_rfl) ?_; apply Exists.intro; refine ⟨fun w9 h9 => ?_, _, by (simp only [Act.put, List.setIfInBounds_toArray, List.set_cons_succ, List.set_cons_zero]; rfl), ?_⟩; (obtain ⟨c0, c1, c2, c3, c4, c5, c6, c7⟩ := clm_cells HO.out HN.out (h9.row 0 rfl); go_simp; with_reducible rfl))))
      refine Cop.ogy_run rfl rfl ?_
      refine ow_apd9 (p := []) H3 1 rfl rfl (H3.rd 11 rfl) rfl rfl q.length q (by omega) rfl (by have := HQL.out; omega) ?_
      intro u1 w23 H4
      obtain ⟨Aq1, cq1, rfl, _⟩ := (H4.own 1 rfl).sl
      have HB4 : Sep w.heap.size w w23 [.row g1 (clv m n older newer (.slice As1 s.length cs1) i (.slice Ax1 x.length cx1) (.slice Ay1 y.length cy1) (.slice Ap p.length cp) (.slice Aq q.length cq)) 37, .row g2 (clv 0 0 (List.replicate 32 0) (List.replicate 32 0) (.slice none 0 0) 0 (.slice none 0 0) (.slice none 0 0) (.slice none 0 0) (.slice none 0 0)) 37, .own (.slice Ax1 x.length cx1) 5 1 x.length (bl x), .own (.slice Ay1 y.length cy1) 5 1 y.length (bl y), .own (.slice As1 s.length cs1) 24 32 s.length (dcs s), .rd (.slice As s.length cs) s.length 32 (dcs s), .rd (.slice Ax x.length cx) x.length 1 (bl x), .rd (.slice Ay y.length cy) y.length 1 (bl y), .rd (.slice Ap p.length cp) p.length 32 (dcs p), .rd (.slice Aq q.length cq) q.length 32 (dcs q)] := H4.sub (by repeat (first | exact List.nil_sublist _ | exact List.Sublist.refl _ | apply List.Sublist.cons_cons | apply List.Sublist.cons))
      refine ⟨fun _ => HB4, ?_⟩
      (repeat (first | (refine Cop.ogy_skip rfl rfl _ (by (simp only [Act.put, List.setIfInBounds_toArray, List.set_cons_succ, List.set_cons_zero]; rfl)) ?_) | (refine Cop.ogy_pure rfl rfl ?_; apply Exists.intro; refine ⟨fun w9 => ?_, _, by (simp only [Act.put, List.setIfInBounds_toArray, List.set_cons_succ, List.set_cons_zero]; rfl), ?_⟩; (go_simp; with_reducible rfl)) | (refine Cop.ogy_take rfl rfl HB4 (by kernel_rfl) ?_; apply Exists.intro; refine ⟨fun w9 h9 => ?_, _, by (simp only [Act.put, List.setIfInBounds_toArray, List.set_cons_succ, List.set_cons_zero]; rfl), ?_⟩; (obtain ⟨c0, c1, c2, c3, c4, c5, c6, c7⟩ := clm_cells HO.out HN.out (h9.row 0 rfl); go_simp; with_reducible rfl))))
      refine Cop.ogy_run rfl rfl ?_
      refine ow_stc H4 2 rfl 28 _ _ rfl (by kernel_rfl) 70 (by rw [clv_size HO.out HN.out]; decide) rfl rfl rfl rfl ?_
      intro w24 H5
      rw [clv_set70 HO.out HN.out] at H5
      refine ⟨fun h => absurd h (by decide), ?_⟩
      (repeat (first | (refine Cop.ogy_skip rfl rfl _ (by (simp only [Act.put, List.setIfInBounds_toArray, List.set_cons_succ, List.set_cons_zero]; rfl)) ?_) | (refine Cop.ogy_pure rfl rfl ?_; apply Exists.intro; refine ⟨fun w9 => ?_, _, by (simp only [Act.put, List.setIfInBounds_toArray, List.set_cons_succ, List.set_cons_zero]; rfl), ?_⟩; (go_simp; with_reducible rfl)) | (refine Cop.ogy_take rfl rfl H5 (by kernel_rfl) ?_; apply Exists.intro; refine ⟨fun w9 h9 => ?_, _, by (simp only [Act.put, List.setIfInBounds_toArray, List.set_cons_succ, List.set_cons_zero]; rfl), ?_⟩; (go_simp; with_reducible rfl))))
      refine Cop.ogy_run rfl rfl ?_
      refine ow_stc H5 2 rfl 28 _ _ rfl (by kernel_rfl) 71 (by rw [clv_size HO.out HN.out]; decide) rfl rfl rfl rfl ?_
      intro w25 H6
      rw [clv_set71 HO.out HN.out] at H6
      refine ⟨fun h => absurd h (by decide), ?_⟩
      refine ogy_fin ?_
      go_wp2
      go_meet
      case rel => exact ⟨_, _, _, _, rfl, arr1 H6⟩
  obtain ⟨Ap1, Aq1, cp1, cq1, rfl, HS⟩ := hcut
  go_wp2_with (first | refine wl_ld HS 0 rfl rfl 37 _ rfl rfl Tryd.underlying37 rfl (clv_info HO.out HN.out) ?_ | refine wl_st HS 1 rfl rfl 37 _ _ rfl rfl rfl (clv_info HO.out HN.out) (by exact (clv_size rfl rfl).trans (clv_size HO.out HN.out).symm) (clv_one HO.out HN.out) ?_)
  intro w9 HS9
  go_wp2
  exact ret_row rfl rfl g2 rfl 37 (clv m n older newer (.slice As1 s.length cs1) i (.slice Ax1 x.length cx1) (.slice Ay1 y.length cy1) (.slice Ap1 p.length cp1) (.slice Aq1 q.length cq1)) (0, 0) _ (HS9.row 1 rfl) Tryd.underlying37 rfl (clv_info HO.out HN.out) ⟨_, _, _, _, _, _, _, _, _, _, rfl, HS9.hb, (HS9.own 6 rfl).rd, (HS9.own 4 rfl).rd, (HS9.own 5 rfl).rd, (HS9.own 2 rfl).rd, (HS9.own 3 rfl).rd⟩
end Go.Proofs.YtbjbdnlgoifamaaDoor
namespace Go.Proofs.YtbjbdnlgoifamaaDoor
open Go.RowKit Cop
set_option linter.unusedVariables false
set_option linter.unusedSimpArgs false
theorem vroot_val (leaf : List UInt8) (path : List (List UInt8)) (a b : Nat) (v : Value) (w : World) (hT : Tab w) (hlf : leaf.length = 32) (hp : AllD path) (hab : a < b) (hb : b ≤ 281474976710656) (hlen : (way a b).length = path.length) (hR : Rd w v path.length 32 (dcs path)) :
    Gives 56 #[.agg (bv leaf), .int .i64 a, .int .i64 b, v] w (.tuple #[.agg (bv (climb nodeD leaf (way a b) path)), .int .i64 0]) := by
  have hw48 := way_len 48 b a (by omega)
  obtain ⟨D, hD0, hDL, hDl, hDt, hDf⟩ := climb_steps nodeD nodeD_length leaf hlf (way a b) path hlen
  rw [← hDL]
  exact vroot_gen nodeD D (way a b) path leaf a b v w hab hb hw48 hlen hp hlf hR hD0 hDl hDt hDf (fun w2 => way54 a b w2 hab hb) (fun w2 x y hb2 hx hy => node_a x y w2 (hT.below hb2) hx hy)
theorem vroots_val (known : List UInt8) (path : List (List UInt8)) (a b : Nat) (v : Value) (w : World) (hT : Tab w) (hlf : known.length = 32) (hp : AllD path) (ha : 1 ≤ a) (hab : a ≤ b) (hb : b ≤ 281474976710656) (hlen : cnt (steps a b).1 (steps a b).2 = path.length) (hR : Rd w v path.length 32 (dcs path)) :
    Gives 55 #[.agg (bv known), .int .i64 a, .int .i64 b, v] w (.tuple #[.agg (bv (two2 nodeD known a b path true).1), .agg (bv (two2 nodeD known a b path true).2), .int .i64 0]) := by
  have hw48 := steps_len 48 b a (by omega)
  have h57 := fun w2 => steps57 a b w2 ha hab hb
  cases hbb : (steps a b).2 with
  | true =>
    rw [hbb] at hlen h57
    have e : two2 nodeD known a b path true = climb2 nodeD known (steps a b).1 path := by unfold two2; rw [hbb]; rfl
    have hl2 : (steps a b).1.length = path.length := hlen
    obtain ⟨FA, FB, q1, q2, q3, q4, q5, q6, q7, q8⟩ := climb2_steps nodeD nodeD_length known hlf (steps a b).1 path hl2
    rw [e, ← q3, ← q4]
    exact vroots_t nodeD FA FB (steps a b).1 path known a b v w ha hab hb hw48 hl2 hp hlf hR q1 q2 q5 q6 q7 q8 h57 (fun w2 x y hb2 hx hy => node_a x y w2 (hT.below hb2) hx hy)
  | false =>
    rw [hbb] at hlen h57
    cases path with
    | nil => simp [cnt] at hlen
    | cons c r =>
      have e : two2 nodeD known a b (c :: r) true = climb2 nodeD c (steps a b).1 r := by unfold two2; rw [hbb]; rfl
      have hl2 : (steps a b).1.length = r.length := by simpa [cnt] using hlen
      obtain ⟨FA, FB, q1, q2, q3, q4, q5, q6, q7, q8⟩ := climb2_steps nodeD nodeD_length c (hp c (by simp)) (steps a b).1 r hl2
      rw [e, ← q3, ← q4]
      exact vroots_f nodeD FA FB (steps a b).1 r c known a b v w ha hab hb hw48 hl2 hp hlf hR q1 q2 q5 q6 q7 q8 h57 (fun w2 x y hb2 hx hy => node_a x y w2 (hT.below hb2) hx hy)
/-- A consistency proof's length, and where it leads. -/
theorem two2_tsteps (l : List (List UInt8)) (m : Nat) (h1 : 1 ≤ m) (hm : m ≤ l.length) : cnt (steps m l.length).1 (steps m l.length).2 = (tsteps nodeD (sha []) l m true).length ∧
    two2 nodeD (root nodeD (sha []) (l.take m)) m l.length (tsteps nodeD (sha []) l m true) true = (root nodeD (sha []) (l.take m), root nodeD (sha []) l) := by
  obtain ⟨c, r, e1, e2, e3, e4, e5⟩ := steps_tsteps nodeD (sha []) l.length l rfl m h1 hm
  unfold two2
  cases hb : (steps m l.length).2 with
  | true =>
    obtain ⟨f1, f2⟩ := e4 hb
    rw [f1] at e3
    rw [f2]
    exact ⟨by show (steps m l.length).1.length = _; exact e2.symm, by rw [Bool.true_and, if_pos rfl]; exact e3⟩
  | false =>
    rw [e5 hb]
    exact ⟨by show (steps m l.length).1.length + 1 = _; rw [List.length_cons, e2], by rw [Bool.true_and, if_neg (by decide)]; exact e3⟩
/-- A tree's inclusion proof is accepted. -/
theorem back_incl (l : List (List UInt8)) (i : Nat) (d : List UInt8) (v : Value) (w : World) (hT : Tab w) (hl : AllD l) (hll : l.length ≤ 4398046511104) (hd : l[i]? = some d) (hR : Rd w v (tpath nodeD (sha []) l i).length 32 (dcs (tpath nodeD (sha []) l i))) :
    Gives 32 #[.agg (bv d), .int .i64 i, .int .i64 l.length, v, .agg (bv (root nodeD (sha []) l))] w (.int .i64 0) := by
  have hi : i < l.length := (List.getElem?_eq_some_iff.1 hd).1
  have hdl : d.length = 32 := hl d (List.mem_iff_getElem?.2 ⟨i, hd⟩)
  have hrl := root_length l hl
  have hc := climb_tpath nodeD (sha []) l.length l rfl i d hd
  have hlen := (tpath_length nodeD (sha []) l l.length rfl i).symm
  refine vincl d (root nodeD (sha []) l) (root nodeD (sha []) l) 0 0 i l.length v w hdl hrl hrl (.inr (.inl ⟨rfl, rfl, rfl⟩)) (fun w2 hb2 => ?_)
  have := vroot_val d (tpath nodeD (sha []) l i) i l.length v w2 (hT.below hb2) hdl (tpath_all _ l hl rfl i) hi (by omega) hlen (hR.below hb2)
  rw [hc] at this
  exact this
/-- A tree's consistency proof is accepted. -/
theorem back_cons (l : List (List UInt8)) (m : Nat) (v : Value) (w : World) (hT : Tab w) (hl : AllD l) (hll : l.length ≤ 4398046511104) (h1 : 1 ≤ m) (hm : m ≤ l.length) (hR : Rd w v (tsteps nodeD (sha []) l m true).length 32 (dcs (tsteps nodeD (sha []) l m true))) :
    Gives 31 #[.int .i64 m, .int .i64 l.length, .agg (bv (root nodeD (sha []) (l.take m))), .agg (bv (root nodeD (sha []) l)), v] w (.int .i64 0) := by
  obtain ⟨hlen, h2⟩ := two2_tsteps l m h1 hm
  have hr1 := root_length _ (hl.take m)
  have hr2 := root_length l hl
  refine vcons (root nodeD (sha []) (l.take m)) (root nodeD (sha []) l) (root nodeD (sha []) (l.take m)) (root nodeD (sha []) l) 0 0 m l.length v w hr1 hr2 hr1 hr2 (.inr (.inl ⟨rfl, rfl, rfl, rfl⟩)) (fun w2 hb2 => ?_)
  have := vroots_val (root nodeD (sha []) (l.take m)) (tsteps nodeD (sha []) l m true) m l.length v w2 (hT.below hb2) hr1 (tsteps_all _ l hl rfl m true) h1 hm (by omega) hlen (hR.below hb2)
  rw [h2] at this
  exact this
theorem length_25 (w : World) : Gives 77 #[.int .i64 2, .int .i64 5] w (.tuple #[.int .i64 3, .int .i64 0]) := by
  have h1 : way 2 5 = true :: way 2 4 := way_lt (by decide) (show 2 < hf 5 by decide)
  have h2 : way 2 4 = false :: way 0 2 := way_ge (i := 2) (n := 4) (by decide) (show ¬ 2 < hf 4 by decide)
  have h3 : way 0 2 = true :: way 0 1 := way_lt (by decide) (show 0 < hf 2 by decide)
  have h4 : way 0 1 = [] := way_one (by decide)
  have := length_ok 2 5 w (by decide) (by decide)
  rw [h1, h2, h3, h4] at this
  exact this
end Go.Proofs.YtbjbdnlgoifamaaDoor
namespace Go.Proofs.YtbjbdnlgoifamaaDoor
open Go.ChangeShapes Go.RowKit Cop
set_option linter.unusedVariables false
theorem flat_len {α : Type} (f : α → List Value) (c : Nat) (hf : ∀ y, (f y).length = c) : ∀ l : List α, (l.flatMap f).length = l.length * c
  | [] => by simp
  | a :: l => by rw [List.flatMap_cons, List.length_append, hf, flat_len f c hf l, List.length_cons, Nat.succ_mul]; omega
theorem flat_at {α : Type} (f : α → List Value) (c : Nat) (hf : ∀ y, (f y).length = c) : ∀ (l : List α) (i : Nat) (y : α), l[i]? = some y → ∀ k, k < c → (l.flatMap f)[i * c + k]? = (f y)[k]?
  | [], i, y, h, k, hk => by simp at h
  | a :: l, 0, y, h, k, hk => by
    simp at h
    subst h
    rw [List.flatMap_cons, Nat.zero_mul, Nat.zero_add, List.getElem?_append_left (by rw [hf]; exact hk)]
  | a :: l, i + 1, y, h, k, hk => by
    simp at h
    rw [List.flatMap_cons, List.getElem?_append_right (by rw [hf, Nat.succ_mul]; omega), hf, show (i + 1) * c + k - c = i * c + k from by rw [Nat.succ_mul]; omega]
    exact flat_at f c hf l i y h k hk
theorem each_list {α : Type} {Q : Nat → α → Prop} : ∀ (n : Nat), (∀ i, i < n → ∃ x, Q i x) → ∃ l : List α, l.length = n ∧ ∀ i x, l[i]? = some x → Q i x
  | 0, _ => ⟨[], rfl, fun i x h => by simp at h⟩
  | n + 1, h => by
    obtain ⟨l, hl, hp⟩ := each_list n (fun i hi => h i (by omega))
    obtain ⟨x, hx⟩ := h n (by omega)
    refine ⟨l ++ [x], by simp [hl], fun i y hy => ?_⟩
    rw [List.getElem?_append] at hy
    split at hy
    · exact hp i y hy
    · rename_i hlt
      have : i = n := by
        have := (List.getElem?_eq_some_iff.1 hy).1
        simp at this
        omega
      subst this
      simp [hl] at hy
      subst hy
      exact hx
theorem bl_flat : ∀ l : List UInt8, l.flatMap (fun b => [Value.int .u8 (b.toNat : Int)]) = bl l
  | [] => rfl
  | a :: l => by rw [List.flatMap_cons, bl_flat l]; rfl
section
variable {H : Type} {enc : TypeId × Value → H} {P : Program} {w : World} {t e : TypeId} {v : Value} {d : DataW H} {ps : List MemPlace}
/-- A slice that came in, element by element. -/
theorem open_list {α : Type} (f : α → List Value) (OK : α → DataW H → Prop) {c : Nat} {fuel : Nat} (ht : P.underlying t = some (.slice e)) (hce : P.cellsOf e = c) (hc0 : 0 < c) (hcl : ∀ y, (f y).length = c)
    (each : ∀ (fuel : Nat) (cs : List Value) (x : DataW H × List MemPlace), cs.length = c → DataW.trod enc P w 0 (fun _ => true) true fuel e cs = some x → ∃ y, cs = f y ∧ OK y x.1)
    (hf : DataW.trod enc P w 0 (fun _ => true) true fuel t [v] = some (d, ps)) :
    ∃ (l : List α) (ds rest : List (DataW H)), Rd w v l.length c (l.flatMap f) ∧ ds.length = l.length ∧ (∀ (i : Nat) (y : α) (z : DataW H), l[i]? = some y → ds[i]? = some z → OK y z) ∧ ((d = .nil ∧ ds = []) ∨ d = .slice ds rest) := by
  rcases DataW.trod_slice ht hf with ⟨hcs, hx⟩ | ⟨a, len, cap, elems, rest, n, _, hcs, hx, _, hlc, hm, hel, hget, hsp, _⟩
  · simp at hcs
    subst hcs
    simp only [Prod.mk.injEq] at hx
    exact ⟨[], [], [], Rd.nil w c, rfl, fun i y z h => by simp at h, .inl ⟨hx.1, rfl⟩⟩
  · simp at hcs
    subst hcs
    simp only [Prod.mk.injEq] at hx
    have each2 : ∀ i, i < len → ∃ y : α, (∀ k, k < c → w.cell? (a.add (i * c + k)) = (f y)[k]?) ∧ ∀ z, elems[i]? = some z → OK y z.1 := by
      intro i hi
      have hg := hget i hi
      rw [hce, List.getElem?_eq_getElem (by omega)] at hg
      obtain ⟨cs, h1, h2⟩ := Option.bind_eq_some_iff.1 hg
      obtain ⟨h3, h4, h5⟩ := World.cells?_some h1
      obtain ⟨y, hy, ho⟩ := each n cs _ h4 h2
      refine ⟨y, fun k hk => ?_, fun z hz => ?_⟩
      · rw [← hy, ← h5 k hk]
        show w.cell? (a.add (i * c + k)) = w.cell? ((a.add (i * c)).add k)
        congr 1
        obtain ⟨b, o, s⟩ := a
        generalize i * c = p
        rcases Nat.eq_zero_or_pos p with rfl | hp
        · simp [Addr.add]
        · rcases Nat.eq_zero_or_pos k with rfl | hq
          · simp [Addr.add]
          · simp [Addr.add, Nat.add_assoc, show p ≠ 0 from by omega, show k ≠ 0 from by omega]
      · rw [List.getElem?_eq_getElem (by omega)] at hz
        simp at hz
        rw [← hz]
        exact ho
    obtain ⟨l, hll, hp⟩ := each_list len each2
    refine ⟨l, elems.map (·.1), rest.map (·.1), ⟨flat_len f c hcl l, some a, cap, by rw [hll], by omega, hm, by simp, fun h0 => ?_⟩, by simp [hel, hll], fun i y z hy hz => ?_, .inr hx.1⟩
    · have hcell : ∀ q, q < l.length * c → w.cell? (a.add q) = (l.flatMap f)[q]? := by
        intro q hq
        have h1 : q / c < l.length := by
          rw [Nat.div_lt_iff_lt_mul hc0]; exact hq
        have h2 := (hp (q / c) l[q / c] (by simp [h1])).1 (q % c) (Nat.mod_lt _ hc0)
        rw [show q / c * c + q % c = q from by rw [Nat.mul_comm]; exact Nat.div_add_mod q c] at h2
        have h3 := flat_at f c hcl l (q / c) l[q / c] (by simp [h1]) (q % c) (Nat.mod_lt _ hc0)
        rw [show q / c * c + q % c = q from by rw [Nat.mul_comm]; exact Nat.div_add_mod q c] at h3
        rw [h2, h3]
      obtain ⟨b, o, s⟩ := a
      have hpos : 0 < l.length * c := Nat.mul_pos h0 hc0
      have hs : s = none := by
        have h1 := hcell 0 hpos
        rw [List.getElem?_eq_getElem (by rw [flat_len f c hcl]; exact hpos)] at h1
        have h2 : (⟨b, o, s⟩ : Addr).add 0 = ⟨b, o, s⟩ := by cases s <;> rfl
        rw [h2] at h1
        simpa using World.cell?_spot h1
      subst hs
      refine ⟨b, o, rfl, fun i u hu => ?_⟩
      have hi := (List.getElem?_eq_some_iff.1 hu).1
      rw [flat_len f c hcl] at hi
      have := hcell i hi
      rw [add_plain] at this
      rw [this, hu]
    · rw [List.getElem?_map] at hz
      cases he : elems[i]? with
      | none => rw [he] at hz; simp at hz
      | some z' =>
        rw [he] at hz
        simp at hz
        rw [← hz]
        exact (hp i y hy).2 z' he
/-- Bytes that came in. -/
theorem open_bytes3 {u : TypeId} {fuel : Nat} {x : DataW H × List MemPlace} {cs : List Value} (ht : P.underlying t = some (.slice u)) (hu : P.underlying u = some (.int .u8)) (hcu : P.cellsOf u = 1) (hl : cs.length = 1)
    (hf : DataW.trod enc P w 0 (fun _ => true) true fuel t cs = some x) : ∃ (v : Value) (l : List UInt8), cs = [v] ∧ Rd w v l.length 1 (bl l) ∧ ((x.1 = .nil ∧ l = []) ∨ ∃ ds rest, x.1 = .slice ds rest ∧ ds.length = l.length) := by
  match cs, hl with
  | [v], _ =>
  obtain ⟨d, ps⟩ := x
  obtain ⟨l, ds, rest, hR, hd, _, hx⟩ := open_list (α := UInt8) (fun b => [.int .u8 (b.toNat : Int)]) (fun _ _ => True) ht hcu (by decide) (fun _ => rfl)
    (fun fuel cs x hl h => by
      obtain ⟨z, hz, _, hwf⟩ := DataW.trod_int hu h
      obtain ⟨b, rfl⟩ := u8_of_wf hwf
      exact ⟨b, hz, trivial⟩) hf
  have e := bl_flat l
  rw [e] at hR
  refine ⟨v, l, rfl, hR, ?_⟩
  rcases hx with ⟨h1, h2⟩ | h1
  · subst h2
    exact .inl ⟨h1, List.eq_nil_of_length_eq_zero hd.symm⟩
  · exact .inr ⟨ds, rest, h1, hd⟩
end
section
variable {B : Nat} {w0 w w' : World} {R : List Pc} {p q : Pc}
/-- What is owned is lent out to be read; what only reads it gives it back. -/
theorem _root_.Cop.Sep.lendTo {v : Value} {e : TypeId} {size n : Nat} {xs : List Value} (h : Sep B w0 w (.own v e size n xs :: R)) :
    ∃ q : Pc, Sep B w0 w (.rd v n size xs :: q :: R) ∧ ∀ (w1 : World) (R2 R1 : List Pc), (∀ r ∈ R2, r.reads = false) → R1.Sublist R → Sep B w0 w1 (.rd v n size xs :: q :: (R2 ++ R1)) → Sep B w0 w1 (.own v e size n xs :: (R2 ++ R1)) := by
  have ho : Ow w B e size v n xs := h.head
  have hrd : Sep B w0 w (.rd v n size xs :: R) := h.toRd 0 rfl
  have hfar := (List.pairwise_cons.1 h.far).1
  have rb : ∀ k, rblk v xs = some k → vblk v = some k := fun k hk => by
    obtain ⟨A, c, rfl, hc⟩ := ho.sl
    cases A with
    | none => simp [rblk] at hk
    | some a =>
      have hl : xs.length = n * size := ho.rd.1
      cases xs with
      | nil => simp [rblk] at hk
      | cons y ys =>
        have hn : n ≠ 0 := fun h0 => by subst h0; simp at hl
        simp only [rblk] at hk
        simp only [vblk, if_neg (show ¬ c = 0 from by omega)]
        exact hk
  cases hv : vblk v with
  | none =>
    refine ⟨.rd (.slice none 0 0) 0 1 [], (hrd.fresh (Below.refl _ _) (p := .rd (.slice none 0 0) 0 1 []) (Rd.nil w 1) (fun k hk => by simp [Pc.blk, rblk] at hk)).perm (List.Perm.swap _ _ _), fun w1 R2 R1 hR2 hsub h1 => ?_⟩
    have h2 := h1.tail.tail
    exact ⟨h2.hb, h2.hB, fun p hp => by
      rcases List.mem_cons.1 hp with rfl | hp
      · exact Ow.same ho fun k hk => by rw [hv] at hk; cases hk
      · exact h2.all p hp, List.pairwise_cons.2 ⟨fun r _ => .inr (fun k hk => by rw [show (Pc.own v e size n xs).blk = vblk v from rfl, hv] at hk; cases hk), h2.far⟩⟩
  | some k =>
    obtain ⟨cur, hcur⟩ : ∃ cur, w.heap[k]? = some (.cells cur e (0, 0)) := by
      rcases ho.2 with ⟨A, rfl, _⟩ | ⟨g, cap, cur, hc, rfl, _, h2, _⟩
      · cases A <;> simp [vblk] at hv
      · simp [vblk, show cap ≠ 0 from by omega] at hv
        subst hv
        exact ⟨cur, h2⟩
    refine ⟨.held k cur e, ⟨h.hb, h.hB, fun p hp => ?_, ?_⟩, fun w1 R2 R1 hR2 hsub h1 => ?_⟩
    · rcases List.mem_cons.1 hp with rfl | hp
      · exact ho.rd
      · rcases List.mem_cons.1 hp with rfl | hp
        · exact hcur
        · exact h.tail.all p hp
    · refine List.pairwise_cons.2 ⟨fun r hr => ?_, List.pairwise_cons.2 ⟨fun r hr => ?_, h.tail.far⟩⟩
      · rcases List.mem_cons.1 hr with rfl | hr
        · exact .inl ⟨rfl, rfl⟩
        · exact (List.pairwise_cons.1 hrd.far).1 r hr
      · rcases hfar r hr with ⟨h1, _⟩ | h1
        · cases h1
        · exact .inr fun j hj => by cases hj; exact h1 k hv
    · have h2 := h1.tail.tail
      have hh : w1.heap[k]? = some (.cells cur e (0, 0)) := h1.tail.head
      refine ⟨h2.hb, h2.hB, fun p hp => ?_, List.pairwise_cons.2 ⟨fun r hr => ?_, h2.far⟩⟩
      · rcases List.mem_cons.1 hp with rfl | hp
        · exact Ow.same ho fun j hj => by rw [hv] at hj; cases hj; rw [hh, hcur]
        · exact h2.all p hp
      · refine .inr fun j hj => ?_
        rw [show (Pc.own v e size n xs).blk = vblk v from rfl, hv] at hj
        cases hj
        rcases List.mem_append.1 hr with hr | hr
        · rcases (List.pairwise_cons.1 h1.tail.far).1 r (List.mem_append.2 (.inl hr)) with ⟨_, h3⟩ | h3
          · rw [hR2 r hr] at h3; cases h3
          · exact h3 k rfl
        · rcases hfar r (hsub.subset hr) with ⟨h3, _⟩ | h3
          · cases h3
          · exact h3 k hv
end
section
variable {w0 w : World} {R : List Pc}
/-- What came in is read, later. -/
theorem _root_.Cop.Sep.argL (h : Sep w0.heap.size w0 w R) {v : Value} {n size : Nat} {cs : List Value} (hr : Rd w0 v n size cs) : Sep w0.heap.size w0 w (.rd v n size cs :: R) :=
  h.arg (hr.below h.hb) fun k hk => (Rd.cells_rblk hr k hk).1
end
end Go.Proofs.YtbjbdnlgoifamaaDoor
namespace Go.Proofs.YtbjbdnlgoifamaaDoor
open Go.RowKit Cop
set_option linter.unusedVariables false
set_option linter.unusedSimpArgs false
theorem rd_get {w : World} {b o n c size : Nat} {cs : List Value} (h : Rd w (.slice (some ⟨b, o, none⟩) n c) n size cs) (h0 : 0 < n) (j : Nat) (u : Value) (hj : cs[j]? = some u) : w.cell? ⟨b, o + j, none⟩ = some u := by
  obtain ⟨_, A', c', he, _, _, _, hc⟩ := h
  injection he with e1 _ e3
  subst e1 e3
  obtain ⟨b', o', e4, h5⟩ := hc h0
  injection e4 with e4
  injection e4 with e5 e6
  subst e5 e6
  exact h5 j u hj
theorem sum_bulk {H : Type} {α : Type} (f : α → Nat) : ∀ (l : List α) (ds : List (DataW H)), ds.length = l.length → (∀ (i : Nat) (y : α) (z : DataW H), l[i]? = some y → ds[i]? = some z → f y ≤ Rows.uptoBulk z) → (l.map f).sum ≤ Rows.uptoBulkAll ds
  | [], ds, _, _ => by simp
  | a :: l, [], h, _ => by simp at h
  | a :: l, d :: ds, h, hb => by
    have h1 := hb 0 a d rfl rfl
    have h2 := sum_bulk f l ds (by simpa using h) (fun i y z hy hz => hb (i + 1) y z (by simpa using hy) (by simpa using hz))
    simp only [List.map_cons, List.sum_cons, Rows.uptoBulkAll]
    omega
theorem bulk_one {H : Type} (d : DataW H) : 1 ≤ Rows.uptoBulk d := by
  cases d with
  | lit l => cases l <;> simp [Rows.uptoBulk]
  | _ => simp [Rows.uptoBulk]
theorem bulk_len {H : Type} (l : List (DataW H)) : l.length ≤ Rows.uptoBulkAll l := by
  induction l with
  | nil => simp [Rows.uptoBulkAll]
  | cons x r ih => have := bulk_one x; simp only [Rows.uptoBulkAll, List.length_cons]; omega
theorem bulk_bytes {H : Type} {x : DataW H} {l : List UInt8} (h : (x = .nil ∧ l = []) ∨ ∃ ds rest, x = .slice ds rest ∧ ds.length = l.length) : l.length ≤ Rows.uptoBulk x := by
  rcases h with ⟨_, rfl⟩ | ⟨ds, rest, rfl, hl⟩
  · simp
  · have := bulk_len ds
    simp only [Rows.uptoBulk]
    omega
end Go.Proofs.YtbjbdnlgoifamaaDoor
namespace Go.Proofs.YtbjbdnlgoifamaaDoor
open Go.RowKit Cop
set_option linter.unusedVariables false
set_option linter.unusedSimpArgs false
theorem beq_a (x : List UInt8) (va vb : Value) (w : World) (ha : Rd w va x.length 1 (bl x)) (hb : Rd w vb x.length 1 (bl x)) : Gives 34 #[va, vb] w (.bool true) := by
  have s1 := Rd.string (P := Tryd.prog) ha Tryd.underlying22 Tryd.underlying5 Tryd.underlying9
  have s2 := Rd.string (P := Tryd.prog) hb Tryd.underlying22 Tryd.underlying5 Tryd.underlying9
  unfold sv at s1 s2
  obtain ⟨A, c, rfl, _, _⟩ := ha.shape
  obtain ⟨A2, c2, rfl, _, _⟩ := hb.shape
  clear ha hb
  go_enter Tryd.func34, Tryd.ntmps34
  go_wp2
  go_ret
  exact ⟨rfl, Below.refl _ _⟩
set_option maxRecDepth 100000 in
set_option maxHeartbeats 4000000 in
/-- Of an accepted claim with one leaf nothing is extracted. -/
theorem extract_no (m n i : Int) (older newer x : List UInt8) (s p q : List (List UInt8)) (As Ap Aq Ax Ay : Option Addr) (cs cp cq cx cy : Nat) (w : World) (ho : older.length = 32) (hn : newer.length = 32) (hx : Rd w (.slice Ax x.length cx) x.length 1 (bl x)) (hy : Rd w (.slice Ay x.length cy) x.length 1 (bl x))
    (hacc : ∀ w', Below w.heap.size w w' → Gives 14 #[.agg (clv m n older newer (.slice As s.length cs) i (.slice Ax x.length cx) (.slice Ay x.length cy) (.slice Ap p.length cp) (.slice Aq q.length cq))] w' (.bool true)) :
    Gives 13 #[.agg (clv m n older newer (.slice As s.length cs) i (.slice Ax x.length cx) (.slice Ay x.length cy) (.slice Ap p.length cp) (.slice Aq q.length cq))] w (.tuple #[(.slice none 0 0), (.slice none 0 0), .bool false]) := by
  have HO := Lib.hid ho
  have HN := Lib.hid hn
  have HACC := Lib.hid hacc
  have HS0 := ((Sep.start w).arg0 hy).arg0 hx
  clear hx hy ho hn hacc
  go_enter Tryd.func13, Tryd.ntmps13
  go_wp2_with (first | refine wl_bx HS0 rfl 37 _ rfl (clv m n older newer (.slice As s.length cs) i (.slice Ax x.length cx) (.slice Ay x.length cy) (.slice Ap p.length cp) (.slice Aq q.length cq)) rfl ?_)
  intro g1 w1 HS1
  clear HS0
  go_wp2_with (first | refine wl_ld HS1 0 rfl rfl 37 _ rfl rfl Tryd.underlying37 rfl (clv_info HO.out HN.out) ?_)
  (with_reducible refine Calls.mono (HACC.out w1 HS1.hb) ?_)
  rintro e w2 ⟨rfl, b2⟩
  have HS2 := HS1.keep b2
  clear HS1 b2
  obtain ⟨c0, c1, c2, c3, c4, c5, c6, c7⟩ := clm_cells HO.out HN.out (HS2.row 0 rfl)
  go_wp2_with fail
  have h1 := HS2.rd 1 rfl
  have h2 := HS2.rd 2 rfl
  (with_reducible refine Calls.mono (beq_a x _ _ w2 h1 h2) ?_)
  rintro e w3 ⟨rfl, b3⟩
  have HS3 := HS2.keep b3
  clear HS2 b3 c0 c1 c2 c3 c4 c5 c6 c7 h1 h2
  go_wp2
  go_ret3
  exact ⟨rfl, HS3.hb⟩
/-- What a log tells of its leaves is accepted. -/
theorem acc_honest (D : List (List UInt8)) (x : List UInt8) (m i : Nat) (As Ap Aq Ax Ay : Option Addr) (cs cp cq cx cy : Nat) (w0 w : World) (hT : Tab w0) (hb0 : Below w0.heap.size w0 w) (hD : AllD D) (hDl : D.length ≤ 4398046511104) (hxl : x.length ≤ 140737488351232) (h1 : 1 ≤ m) (hm : m ≤ D.length) (hi : i < m) (hd : D[i]? = some (leafD x))
    (hs : Rd w (.slice As (tsteps nodeD (sha []) D m true).length cs) (tsteps nodeD (sha []) D m true).length 32 (dcs (tsteps nodeD (sha []) D m true))) (hx : Rd w (.slice Ax x.length cx) x.length 1 (bl x)) (hy : Rd w (.slice Ay x.length cy) x.length 1 (bl x))
    (hp : Rd w (.slice Ap (tpath nodeD (sha []) (D.take m) i).length cp) (tpath nodeD (sha []) (D.take m) i).length 32 (dcs (tpath nodeD (sha []) (D.take m) i))) (hq : Rd w (.slice Aq (tpath nodeD (sha []) D i).length cq) (tpath nodeD (sha []) D i).length 32 (dcs (tpath nodeD (sha []) D i))) :
    Gives 14 #[.agg (clv m D.length (root nodeD (sha []) (D.take m)) (root nodeD (sha []) D) (.slice As (tsteps nodeD (sha []) D m true).length cs) i (.slice Ax x.length cx) (.slice Ay x.length cy) (.slice Ap (tpath nodeD (sha []) (D.take m) i).length cp) (.slice Aq (tpath nodeD (sha []) D i).length cq))] w (.bool true) := by
  have htl : (D.take m).length = m := by rw [List.length_take]; omega
  have hd2 : (D.take m)[i]? = some (leafD x) := by rw [List.getElem?_take, if_pos hi]; exact hd
  have := acc_gen (m : Int) (D.length : Int) (i : Int) (root nodeD (sha []) (D.take m)) (root nodeD (sha []) D) x x (leafD x) (leafD x) (tsteps nodeD (sha []) D m true) (tpath nodeD (sha []) (D.take m) i) (tpath nodeD (sha []) D i) As Ap Aq Ax Ay cs cp cq cx cy 0 0 0 w (root_length _ (hD.take m)) (root_length _ hD) (leafD_length x) (leafD_length x) hs hx hy hp hq
    (fun w' v hb hR => back_cons D m v w' (hT.below (hb0.trans (hb.mono hb0.size))) hD hDl h1 hm hR)
    (fun w' v hb hR => by
      have h := back_incl (D.take m) i (leafD x) v w' (hT.below (hb0.trans (hb.mono hb0.size))) (hD.take m) (by omega) hd2 hR
      rw [htl] at h
      exact h)
    (fun w' v hb hR => back_incl D i (leafD x) v w' (hT.below (hb0.trans (hb.mono hb0.size))) hD hDl hd hR)
    (fun w' v hb hR => leaf_a x v w' (hT.below (hb0.trans (hb.mono hb0.size))) hR (by omega))
    (fun w' v hb hR => leaf_a x v w' (hT.below (hb0.trans (hb.mono hb0.size))) hR (by omega))
  exact this
set_option maxRecDepth 100000 in
set_option maxHeartbeats 4000000 in
theorem build_clm (O W : List UInt8) (hO : O.length = 32) (hW : W.length = 32) (m n i : Int) (Ax : Option Addr) (nx cx : Nat) (Wd : World) :
    (Instr.build 37 #[(0, .int .i64 m), (1, .int .i64 n), (2, .agg (bv O)), (3, .agg (bv W)), (5, .int .i64 i), (6, .slice Ax nx cx), (7, .slice Ax nx cx)]).run Tryd.prog Wd = .ok (.agg (clv m n O W (.slice none 0 0) i (.slice Ax nx cx) (.slice Ax nx cx) (.slice none 0 0) (.slice none 0 0))) Wd := by
  obtain ⟨a0, a1, a2, a3, a4, a5, a6, a7, b0, b1, b2, b3, b4, b5, b6, b7, c0, c1, c2, c3, c4, c5, c6, c7, d0, d1, d2, d3, d4, d5, d6, d7, rfl⟩ := len32 hO
  obtain ⟨e0, e1, e2, e3, e4, e5, e6, e7, f0, f1, f2, f3, f4, f5, f6, f7, g0, g1, g2, g3, g4, g5, g6, g7, h0, h1, h2, h3, h4, h5, h6, h7, rfl⟩ := len32 hW
  exact run_build _ _ _ _ (by kernel_rfl)
end Go.Proofs.YtbjbdnlgoifamaaDoor
namespace Go.Proofs.YtbjbdnlgoifamaaDoor
open Go.RowKit Cop
set_option linter.unusedVariables false
set_option linter.unusedSimpArgs false
def pcell (x : Value × List UInt8) : List Value := [x.1]
/-- A number, put between 0 and n - 1. -/
theorem into (a : Int) (n : Nat) (h : 0 < n) : ∃ r : Nat, r < n ∧ Int.tmod (Int.tmod a n + n) n = r ∧ (Int.tmod a n + n) % n = (r : Int) ∧ Int.tmod a n % n = (r : Int) ∧ -(n : Int) < Int.tmod a n ∧ Int.tmod a n < n := by
  have h1 : (Int.tmod a n).natAbs < n := by
    rw [Int.natAbs_tmod]
    exact Nat.mod_lt _ h
  have h2 : 0 ≤ Int.tmod a n % n := Int.emod_nonneg _ (by omega)
  have h3 : Int.tmod a n % n < n := Int.emod_lt_of_pos _ (by omega)
  have h4 : (Int.tmod a n + n) % n = Int.tmod a n % n := Int.add_emod_right _ _
  refine ⟨(Int.tmod a n % n).toNat, by omega, ?_, by omega, by omega, by omega, by omega⟩
  rw [Int.tmod_eq_emod_of_nonneg (by omega), h4]
  omega
section
variable {P : Program} {w : World} {o : Oper} {a : Act}
theorem exec_bd9 (t : TypeId) (parts : Array (Nat × Operand)) (hop : o.op = .build t parts) (vs : Array (Nat × Value)) (hvs : (parts.map fun (i, x) => (i, a.eval x)) = vs) (v : Value) (hr : (Instr.build t vs).run P w = .ok v w) : (execOp a.eval o).run P w = .ok (.value v) w := by
  simp only [execOp, hop, hvs, Sem.run_bind, hr, Result.andThen_ok, Sem.run_pure]
end
set_option maxRecDepth 100000 in
set_option maxHeartbeats 16000000 in
theorem honest_walk (l : List (Value × List UInt8)) (v0 : Value) (a b : Int) (w : World) (hT : Tab w) (hR : Rd w v0 l.length 1 (l.flatMap pcell)) (hA : ∀ x ∈ l, Rd w x.1 x.2.length 1 (bl x.2) ∧ x.2.length ≤ 1048576) (hl : l.length ≤ 1048576) :
    Gives 7 #[v0, .int .i64 a, .int .i64 b] w (.bool true) := by
  have HS0 := (Sep.start w).arg0 hR
  rcases Nat.eq_zero_or_pos l.length with hl0 | hl0
  · obtain ⟨A0, c0, rfl, _, _⟩ := hR.shape
    rw [hl0]
    go_enter Tryd.func7, Tryd.ntmps7
    go_wp2
    go_ret
    exact ⟨rfl, Below.refl _ _⟩
  -- the leaves' digests
  obtain ⟨D, hDk⟩ : ∃ D : Nat → List (List UInt8), ∀ k, (l.take k).map (fun x => leafD x.2) = D k := ⟨_, fun _ => rfl⟩
  have hD0 : D 0 = [] := by rw [← hDk]; rfl
  have hDs : ∀ k x, l[k]? = some x → D k ++ [leafD x.2] = D (k + 1) := fun k x hx => by
    obtain ⟨h1, rfl⟩ := List.getElem?_eq_some_iff.1 hx
    rw [← hDk, ← hDk, List.take_succ_eq_append_getElem h1, List.map_append]
    rfl
  have hDn : D l.length = l.map (fun x => leafD x.2) := by rw [← hDk, List.take_length]
  obtain ⟨DD, hDD⟩ : ∃ DD, D l.length = DD := ⟨_, rfl⟩
  have hDDl : DD.length = l.length := by rw [← hDD, hDn, List.length_map]
  have hal : AllD DD := fun d hd => by
    rw [← hDD, hDn] at hd
    obtain ⟨x, _, rfl⟩ := List.mem_map.1 hd
    exact leafD_length _
  -- the numbers
  obtain ⟨m0, hm0, e1, e2, e3, e4, e5⟩ := into a l.length hl0
  obtain ⟨m, hm⟩ : ∃ m, m0 + 1 = m := ⟨_, rfl⟩
  have e6 : 1 + (m0 : Int) = (m : Int) := by omega
  obtain ⟨i, hi, f1, f2, f3, f4, f5⟩ := into b m (by omega)
  have hml : m ≤ DD.length := by omega
  obtain ⟨⟨xv, xs⟩, hx⟩ : ∃ x, l[i]? = some x := ⟨l[i], by simp [show i < l.length from by omega]⟩
  have hdi : DD[i]? = some (leafD xs) := by rw [← hDD, hDn, List.getElem?_map, hx]; rfl
  obtain ⟨hRx, hxl⟩ := hA _ (List.mem_of_getElem? hx)
  have hRx : Rd w xv xs.length 1 (bl xs) := hRx
  have hxl : xs.length ≤ 1048576 := hxl
  obtain ⟨Ax, cx, rfl, _, _⟩ := hRx.shape
  -- what is called
  have HAC := Lib.hid (fun k x (hx : l[k]? = some x) => flat_at pcell 1 (fun _ => rfl) l k x hx 0 (by decide))
  have CLF := Lib.hid (fun (w' : World) (v : Value) (bs : List UInt8) (hb : Below w.heap.size w w') (hR : Rd w' v bs.length 1 (bl bs)) (h : bs.length ≤ 1048576) => leaf_a bs v w' (hT.below hb) hR (by omega))
  have CRM := Lib.hid (fun (w' : World) (v : Value) (hb : Below w.heap.size w w') (hR : Rd w' v m 32 (dcs (DD.take m))) => root_a (DD.take m) v w' (hT.below hb) (hal.take m) (by rw [List.length_take]; omega) (by rw [List.length_take, Nat.min_eq_left hml]; exact hR))
  have CRN := Lib.hid (fun (w' : World) (v : Value) (hb : Below w.heap.size w w') (hR : Rd w' v l.length 32 (dcs DD)) => root_a DD v w' (hT.below hb) hal (by omega) (by rw [hDDl]; exact hR))
  have CCO := Lib.hid (fun (w' : World) (v : Value) (hb : Below w.heap.size w w') (hR : Rd w' v l.length 32 (dcs DD)) => cons_ok DD v m l.length w' (hT.below hb) hal (by omega) (by rw [hDDl]; exact hR) (by omega) (by omega) (by omega))
  have CIM := Lib.hid (fun (w' : World) (v : Value) (hb : Below w.heap.size w w') (hR : Rd w' v l.length 32 (dcs DD)) => incl_ok DD v i m w' (hT.below hb) hal (by omega) (by rw [hDDl]; exact hR) hi hml)
  have CIN := Lib.hid (fun (w' : World) (v : Value) (hb : Below w.heap.size w w') (hR : Rd w' v l.length 32 (dcs DD)) => incl_ok DD v i l.length w' (hT.below hb) hal (by omega) (by rw [hDDl]; exact hR) (by omega) (by omega))
  have hO := root_length _ (hal.take m)
  have hW := root_length _ hal
  have hS64 := tsteps_len64 DD (by omega) m true (by omega) hml
  have hP64 := tpath_len64 (DD.take m) (by rw [List.length_take]; omega) i
  have hQ64 := tpath_len64 DD (by omega) i
  have CAC := Lib.hid (fun (w' : World) (hb : Below w.heap.size w w') (As Ap Aq Ax Ay : Option Addr) (cs cp cq cx cy : Nat) => acc_honest DD xs m i As Ap Aq Ax Ay cs cp cq cx cy w w' hT hb hal (by omega) (by omega) (by omega) hml hi hdi)
  rw [hDDl] at CAC
  rw [show DD.take l.length = DD from List.take_of_length_le (by omega)] at CCO CIN
  obtain ⟨S, hS⟩ : ∃ S, tsteps nodeD (sha []) DD m true = S := ⟨_, rfl⟩
  obtain ⟨P, hP⟩ : ∃ P, tpath nodeD (sha []) (DD.take m) i = P := ⟨_, rfl⟩
  obtain ⟨Q, hQ⟩ : ∃ Q, tpath nodeD (sha []) DD i = Q := ⟨_, rfl⟩
  obtain ⟨O, hOO⟩ : ∃ O, root nodeD (sha []) (DD.take m) = O := ⟨_, rfl⟩
  obtain ⟨W, hWW⟩ : ∃ W, root nodeD (sha []) DD = W := ⟨_, rfl⟩
  rw [hS] at CCO CAC hS64
  rw [hP] at CIM CAC hP64
  rw [hQ] at CIN CAC hQ64
  rw [hOO] at CRM CAC hO
  rw [hWW] at CRN CAC hW
  have HO := Lib.hid hO
  have HW := Lib.hid hW
  have LFL := Lib.hid leafD_length
  generalize leafD = LF at *
  have HA := Lib.hid hA
  have HDS := Lib.hid hDs
  have HD0 := Lib.hid hD0
  have HDN := Lib.hid hDD
  have HAL := Lib.hid hal
  have HBD := Lib.hid (fun Wd : World => build_clm O W HO.out HW.out (m : Int) (l.length : Int) (i : Int) Ax xs.length cx Wd)
  obtain ⟨A0, c0, rfl, _, _⟩ := hR.shape
  obtain ⟨b0, o0, rfl⟩ := rd_some hR hl0
  have HX := Lib.hid (HAC.out i _ hx)
  have HRX := Lib.hid hRx
  have HDDL := Lib.hid hDDl
  have hn0 : ¬ (l.length : Int) = 0 := by omega
  have hn0b : ((l.length : Int) == 0) = false := by rw [beq_eq_false_iff_ne]; exact hn0
  have hm0' : ¬ (m : Int) = 0 := by omega
  have hm0b : ((m : Int) == 0) = false := by rw [beq_eq_false_iff_ne]; exact hm0'
  have hli : (l.length : Int) ≤ 1048576 := by omega
  have hmi : (m : Int) ≤ 1048576 := by omega
  have hil : i < l.length := by omega
  have hili : (i : Int) < (l.length : Int) := by omega
  clear hDk hD0 hDs hDn hDD hDDl hal hm hx hdi hRx hS hP hQ hOO hWW hO hW hA hR
  generalize l.flatMap pcell = PC at *
  have HXP := Lib.hid (show PC[i]? = some (.slice Ax xs.length cx) by
    have := HX.out
    rw [Nat.mul_one, Nat.add_zero] at this
    exact this)
  clear HX
  go_enter Tryd.func7, Tryd.ntmps7
  go_wp2
  go_loopw [7, 8] (fun s7 s8 wr => ∃ (k : Nat) (Ad : Option Addr) (cd : Nat), k ≤ l.length ∧ s7 = .slice Ad k cd ∧ s8 = .int .i64 (k : Int) ∧ Sep w.heap.size w wr (.own (.slice Ad k cd) 24 32 k (dcs (D k)) :: .rd (.slice (some ⟨b0, o0, none⟩) l.length c0) l.length 1 PC :: [])) (fun _ s8 _ => l.length - (intOf s8).toNat)
  case atStart => exact ⟨0, none, 0, by omega, rfl, rfl, by rw [HD0.out]; exact Sep.ownNil HS0 24 32⟩
  case round =>
    clear HS0
    obtain ⟨k, Ad, cd, hk, rfl, rfl, HSi⟩ := hrel
    by_cases hlt : k < l.length
    · have hlti : (k : Int) < (l.length : Int) := by omega
      obtain ⟨⟨vb, bs⟩, hxk⟩ : ∃ x, l[k]? = some x := ⟨l[k], by simp [hlt]⟩
      have hx0 : PC[k]? = some vb := by
        have := HAC.out k _ hxk
        rw [Nat.mul_one, Nat.add_zero] at this
        exact this
      obtain ⟨hRb, hbs⟩ := HA.out _ (List.mem_of_getElem? hxk)
      have hRb : Rd w vb bs.length 1 (bl bs) := hRb
      have hbs : bs.length ≤ 1048576 := hbs
      have hdk : D k ++ [LF bs] = D (k + 1) := HDS.out k _ hxk
      have HDK := Lib.hid hdk
      obtain ⟨Ab, cb, rfl, _, _⟩ := hRb.shape
      have d0 := rd_get (HSi.rd 1 rfl) hl0 _ _ hx0
      have HRB := Lib.hid hRb
      have HSb := HSi.argL hRb
      clear HSi hdk hxk hx0 hRb
      go_wp2_with fail
      have hrd := HSb.rd 0 rfl
      (with_reducible refine Calls.mono (CLF.out wr _ bs HSb.hb hrd hbs) ?_)
      rintro e w2 ⟨rfl, b2⟩
      have HS2 := HSb.keep b2
      clear HSb hrd b2 d0
      go_wp2_with (first | refine wl_bs1 HS2 rfl 28 24 32 _ rfl (.agg (bv (LF bs))) rfl (dcs [LF bs]) (.agg (bv (List.replicate 32 0))) Tryd.underlying28 dgs_info2 (by decide) (by decide) (fill_dg (LFL.out bs)) (by simp [dcs, bl_length, LFL.out bs]) ?_)
      intro g3 w3 HS3
      go_wp2_with (first | refine wl_apn HS3 2 rfl _ _ 28 _ 32 rfl rfl Tryd.underlying28 dgs_info rfl (by decide) (by decide) (HS3.own 0 rfl).rd (dcs_one _) rfl rfl (k + 1) (dcs (D (k + 1))) (by omega) (by rw [← HDK.out, dcs_append]) (by omega) ?_)
      intro v4 w4 HS4 _
      have HS5 : Sep w.heap.size w w4 (.own (.slice (some ⟨g3, 0, none⟩) 1 1) 24 32 1 (dcs [LF bs]) :: .rd (.slice Ab bs.length cb) bs.length 1 (bl bs) :: .own v4 24 32 (k + 1) (dcs (D (k + 1))) :: .rd (.slice (some ⟨b0, o0, none⟩) l.length c0) l.length 1 PC :: []) := HS4
      obtain ⟨A4, c4, rfl, _⟩ := (HS5.own 2 rfl).sl
      clear HS2 HS3 HS4
      go_wp2
      go_roundw
      case rel => exact ⟨k + 1, A4, c4, by omega, rfl, by go_num, HS5.tail.tail⟩
      case measure => simp [intOf]; omega
    · have hkl : k = l.length := by omega
      have hge : ¬ (l.length : Int) < (l.length : Int) := by omega
      subst hkl
      rw [HDN.out] at HSi
      clear hlt hk
      have HSx := HSi.argL HRX.out
      clear HSi
      obtain ⟨Am, cm, HRm, _, _, hsl⟩ := rd_dto (l := DD) (by rw [HDDL.out]; exact (HSx.own 1 rfl).rd) HAL.out m hml
      have HSL := Lib.hid hsl
      have HRM := Lib.hid (fun (w' : World) (h : Rd w' (.slice Ad l.length cd) l.length 32 (dcs DD)) => (show Rd w' (.slice Am m cm) m 32 (dcs (DD.take m)) by
        obtain ⟨A', c', h3, _, _, hs'⟩ := rd_dto (l := DD) (by rw [HDDL.out]; exact h) HAL.out m hml
        have e := (hsl w' .i64).symm.trans (hs' w' .i64)
        injection e with e _
        injection e with e1 _ e3
        rw [e1, e3]
        exact h3))
      clear hsl HRm
      go_upto_region 10 with fail
      go_cut [11] (fun s11 wx => ∃ gc, s11 = .pointer (some ⟨gc, 0, none⟩) ∧ Sep w.heap.size w wx (.row gc (clv (m : Int) (l.length : Int) O W (.slice none 0 0) (i : Int) (.slice Ax xs.length cx) (.slice Ax xs.length cx) (.slice none 0 0) (.slice none 0 0)) 37 :: .rd (.slice Ax xs.length cx) xs.length 1 (bl xs) :: .own (.slice Ad l.length cd) 24 32 l.length (dcs DD) :: .rd (.slice (some ⟨b0, o0, none⟩) l.length c0) l.length 1 PC :: []))
      case first =>
        refine Cop.region_ord (fun w' => Sep w.heap.size w w' [.rd (.slice (some ⟨b0, o0, none⟩) l.length c0) l.length 1 PC]) 20 (.take 0 (.take 1 (.take 2 (.take 3 (.take 4 (.take 5 (.take 7 (.take 9 (.take 10 (.take 11 (.take 12 (.take 13 (.take 14 (.take 15 (.take 16 (.take 17 (.run2 6 (.run2 8 (.take 18 (.run 19 (.run 20 Cop.Ord.fin))) 19 (.run 8 (.take 18 (.run 20 Cop.Ord.fin)))) 19 (.run 6 (.run 8 (.take 18 (.run 20 Cop.Ord.fin))))))))))))))))))))) (by kernel_rfl) (by kernel_rfl) (fun _ _ d _ _ h => by cases d <;> exact h) ?_
        intro wa hda
        have HSa := HSx.keep hda
        clear HSx
        have HT := HSa.one 2 rfl
        (repeat (first | (refine Cop.og_skip rfl rfl HT _ (by (simp only [Act.put, List.setIfInBounds_toArray, List.set_cons_succ, List.set_cons_zero]; rfl)) ?_) | (refine Cop.og_take rfl rfl HT ?_; apply Exists.intro; refine ⟨fun w9 h9 => ?_, _, by (simp only [Act.put, List.setIfInBounds_toArray, List.set_cons_succ, List.set_cons_zero]; rfl), ?_⟩; (have q := HSL.out w9; have d0 := rd_get (h9.rd 0 rfl) hl0 _ _ HXP.out; go_simp; with_reducible rfl))))
        refine og_run2 ?_ ?_
        · refine Cop.og_run rfl rfl ?_
          refine ow_call 21 _ _ (fun w' => Below wa.heap.size wa w') (by go_simp) (CRM.out wa _ HSa.hb (HRM.out wa (HSa.own 1 rfl).rd)) ?_
          intro wb bb
          have HSb := HSa.keep bb
          refine ⟨fun _ => HSb.one 2 rfl, ?_⟩
          refine og_act (by (simp only [Act.put, List.setIfInBounds_toArray, List.set_cons_succ, List.set_cons_zero]; rfl)) ?_
          refine og_run2 ?_ ?_
          · refine Cop.og_run rfl rfl ?_
            refine ow_call 21 _ _ (fun w' => Below wb.heap.size wb w') (by go_simp) (CRN.out wb _ HSb.hb (HSb.own 1 rfl).rd) ?_
            intro wc bc
            have HSc := HSb.keep bc
            refine ⟨fun _ => HSc.one 2 rfl, ?_⟩
            refine og_act (by (simp only [Act.put, List.setIfInBounds_toArray, List.set_cons_succ, List.set_cons_zero]; rfl)) ?_
            have HTz := HSc.one 2 rfl
            refine Cop.og_take rfl rfl HTz ⟨_, fun w9 _ => exec_bd9 37 #[(0, .tmp 50), (1, .tmp 52), (2, .tmp 56), (3, .tmp 58), (5, .tmp 59), (6, .tmp 63), (7, .tmp 67)] rfl #[(0, .int .i64 (m : Int)), (1, .int .i64 (l.length : Int)), (2, .agg (bv O)), (3, .agg (bv W)), (5, .int .i64 (i : Int)), (6, .slice Ax xs.length cx), (7, .slice Ax xs.length cx)] (by simp [Act.eval]) _ (HBD.out w9), _, (by (simp only [Act.put, List.setIfInBounds_toArray, List.set_cons_succ, List.set_cons_zero]; rfl)), ?_⟩
            refine Cop.og_run rfl rfl ?_
            refine ow_al HSc 37 rfl (clv 0 0 (List.replicate 32 0) (List.replicate 32 0) (.slice none 0 0) 0 (.slice none 0 0) (.slice none 0 0) (.slice none 0 0) (.slice none 0 0)) (by kernel_rfl) ?_
            intro gc wd HSd
            refine ⟨fun _ => HSd.one 3 rfl, ?_⟩
            refine og_act (by (simp only [Act.put, List.setIfInBounds_toArray, List.set_cons_succ, List.set_cons_zero]; rfl)) ?_
            refine Cop.og_run rfl rfl ?_
            refine ow_st HSd 0 rfl 37 _ _ rfl rfl (cs := (clv (m : Int) (l.length : Int) O W (.slice none 0 0) (i : Int) (.slice Ax xs.length cx) (.slice Ax xs.length cx) (.slice none 0 0) (.slice none 0 0))) rfl (clv_info HO.out HW.out) (by rw [clv_size HO.out HW.out, clv_size rfl rfl]) (clv_one HO.out HW.out) ?_
            intro wz HSz
            refine ⟨fun h => absurd rfl h, ?_⟩
            refine og_fin ?_
            go_wp2
            go_meet
            case rel => exact ⟨gc, rfl, HSz⟩
          · refine Cop.og_run rfl rfl ?_
            refine ow_al HSb 37 rfl (clv 0 0 (List.replicate 32 0) (List.replicate 32 0) (.slice none 0 0) 0 (.slice none 0 0) (.slice none 0 0) (.slice none 0 0) (.slice none 0 0)) (by kernel_rfl) ?_
            intro gc wc HSc
            refine ⟨fun _ => HSc.one 3 rfl, ?_⟩
            refine og_act (by (simp only [Act.put, List.setIfInBounds_toArray, List.set_cons_succ, List.set_cons_zero]; rfl)) ?_
            refine Cop.og_run rfl rfl ?_
            refine ow_call 21 _ _ (fun w' => Below wc.heap.size wc w') (by go_simp) (CRN.out wc _ HSc.hb (HSc.own 2 rfl).rd) ?_
            intro wd bd
            have HSd := HSc.keep bd
            refine ⟨fun _ => HSd.one 3 rfl, ?_⟩
            refine og_act (by (simp only [Act.put, List.setIfInBounds_toArray, List.set_cons_succ, List.set_cons_zero]; rfl)) ?_
            have HTz := HSd.one 3 rfl
            refine Cop.og_take rfl rfl HTz ⟨_, fun w9 _ => exec_bd9 37 #[(0, .tmp 50), (1, .tmp 52), (2, .tmp 56), (3, .tmp 58), (5, .tmp 59), (6, .tmp 63), (7, .tmp 67)] rfl #[(0, .int .i64 (m : Int)), (1, .int .i64 (l.length : Int)), (2, .agg (bv O)), (3, .agg (bv W)), (5, .int .i64 (i : Int)), (6, .slice Ax xs.length cx), (7, .slice Ax xs.length cx)] (by simp [Act.eval]) _ (HBD.out w9), _, (by (simp only [Act.put, List.setIfInBounds_toArray, List.set_cons_succ, List.set_cons_zero]; rfl)), ?_⟩
            refine Cop.og_run rfl rfl ?_
            refine ow_st HSd 0 rfl 37 _ _ rfl rfl (cs := (clv (m : Int) (l.length : Int) O W (.slice none 0 0) (i : Int) (.slice Ax xs.length cx) (.slice Ax xs.length cx) (.slice none 0 0) (.slice none 0 0))) rfl (clv_info HO.out HW.out) (by rw [clv_size HO.out HW.out, clv_size rfl rfl]) (clv_one HO.out HW.out) ?_
            intro wz HSz
            refine ⟨fun h => absurd rfl h, ?_⟩
            refine og_fin ?_
            go_wp2
            go_meet
            case rel => exact ⟨gc, rfl, HSz⟩
        · refine Cop.og_run rfl rfl ?_
          refine ow_al HSa 37 rfl (clv 0 0 (List.replicate 32 0) (List.replicate 32 0) (.slice none 0 0) 0 (.slice none 0 0) (.slice none 0 0) (.slice none 0 0) (.slice none 0 0)) (by kernel_rfl) ?_
          intro gc wb HSb
          refine ⟨fun _ => HSb.one 3 rfl, ?_⟩
          refine og_act (by (simp only [Act.put, List.setIfInBounds_toArray, List.set_cons_succ, List.set_cons_zero]; rfl)) ?_
          refine Cop.og_run rfl rfl ?_
          refine ow_call 21 _ _ (fun w' => Below wb.heap.size wb w') (by go_simp) (CRM.out wb _ HSb.hb (HRM.out wb (HSb.own 2 rfl).rd)) ?_
          intro wc bc
          have HSc := HSb.keep bc
          refine ⟨fun _ => HSc.one 3 rfl, ?_⟩
          refine og_act (by (simp only [Act.put, List.setIfInBounds_toArray, List.set_cons_succ, List.set_cons_zero]; rfl)) ?_
          refine Cop.og_run rfl rfl ?_
          refine ow_call 21 _ _ (fun w' => Below wc.heap.size wc w') (by go_simp) (CRN.out wc _ HSc.hb (HSc.own 2 rfl).rd) ?_
          intro wd bd
          have HSd := HSc.keep bd
          refine ⟨fun _ => HSd.one 3 rfl, ?_⟩
          refine og_act (by (simp only [Act.put, List.setIfInBounds_toArray, List.set_cons_succ, List.set_cons_zero]; rfl)) ?_
          have HTz := HSd.one 3 rfl
          refine Cop.og_take rfl rfl HTz ⟨_, fun w9 _ => exec_bd9 37 #[(0, .tmp 50), (1, .tmp 52), (2, .tmp 56), (3, .tmp 58), (5, .tmp 59), (6, .tmp 63), (7, .tmp 67)] rfl #[(0, .int .i64 (m : Int)), (1, .int .i64 (l.length : Int)), (2, .agg (bv O)), (3, .agg (bv W)), (5, .int .i64 (i : Int)), (6, .slice Ax xs.length cx), (7, .slice Ax xs.length cx)] (by simp [Act.eval]) _ (HBD.out w9), _, (by (simp only [Act.put, List.setIfInBounds_toArray, List.set_cons_succ, List.set_cons_zero]; rfl)), ?_⟩
          refine Cop.og_run rfl rfl ?_
          refine ow_st HSd 0 rfl 37 _ _ rfl rfl (cs := (clv (m : Int) (l.length : Int) O W (.slice none 0 0) (i : Int) (.slice Ax xs.length cx) (.slice Ax xs.length cx) (.slice none 0 0) (.slice none 0 0))) rfl (clv_info HO.out HW.out) (by rw [clv_size HO.out HW.out, clv_size rfl rfl]) (clv_one HO.out HW.out) ?_
          intro wz HSz
          refine ⟨fun h => absurd rfl h, ?_⟩
          refine og_fin ?_
          go_wp2
          go_meet
          case rel => exact ⟨gc, rfl, HSz⟩
      case rest =>
        obtain ⟨gc, rfl, HSr⟩ := hcut
        go_wp2_with fail
        have hrd := (HSr.own 2 rfl).rd
        (with_reducible refine Calls.mono (CCO.out _ _ HSr.hb hrd) ?_)
        rintro e w3 ⟨x3, rfl, b3, o3⟩
        have HS3 := HSr.made b3 o3
        obtain ⟨As, cs, rfl, _⟩ := (HS3.own 0 rfl).sl
        clear HSr hrd o3 b3
        go_wp2_with (first | refine wl_stc HS3 1 rfl rfl 28 _ _ rfl (by kernel_rfl) 66 (by rw [clv_size HO.out HW.out]; decide) rfl rfl rfl rfl ?_)
        intro w4 HS4
        rw [clv_set66 HO.out HW.out] at HS4
        have HS5 : Sep w.heap.size w w4 (.own (.slice As S.length cs) 24 32 S.length (dcs S) :: .row gc (clv (m : Int) (l.length : Int) O W (.slice As S.length cs) (i : Int) (.slice Ax xs.length cx) (.slice Ax xs.length cx) (.slice none 0 0) (.slice none 0 0)) 37 :: .rd (.slice Ax xs.length cx) xs.length 1 (bl xs) :: .own (.slice Ad l.length cd) 24 32 l.length (dcs DD) :: .rd (.slice (some ⟨b0, o0, none⟩) l.length c0) l.length 1 PC :: []) := HS4
        clear HS3 HS4
        go_wp2_with fail
        have hrd := (HS5.own 3 rfl).rd
        (with_reducible refine Calls.mono (CIM.out _ _ HS5.hb hrd) ?_)
        rintro e w6 ⟨x6, rfl, b6, o6⟩
        have HS6 := HS5.made b6 o6
        obtain ⟨Ap, cp, rfl, _⟩ := (HS6.own 0 rfl).sl
        clear HS5 hrd o6 b6
        go_wp2_with (first | refine wl_stc HS6 2 rfl rfl 28 _ _ rfl (by kernel_rfl) 70 (by rw [clv_size HO.out HW.out]; decide) rfl rfl rfl rfl ?_)
        intro w7 HS7
        rw [clv_set70 HO.out HW.out] at HS7
        have HS8 : Sep w.heap.size w w7 (.own (.slice Ap P.length cp) 24 32 P.length (dcs P) :: .own (.slice As S.length cs) 24 32 S.length (dcs S) :: .row gc (clv (m : Int) (l.length : Int) O W (.slice As S.length cs) (i : Int) (.slice Ax xs.length cx) (.slice Ax xs.length cx) (.slice Ap P.length cp) (.slice none 0 0)) 37 :: .rd (.slice Ax xs.length cx) xs.length 1 (bl xs) :: .own (.slice Ad l.length cd) 24 32 l.length (dcs DD) :: .rd (.slice (some ⟨b0, o0, none⟩) l.length c0) l.length 1 PC :: []) := HS7
        clear HS6 HS7
        go_wp2_with fail
        have hrd := (HS8.own 4 rfl).rd
        (with_reducible refine Calls.mono (CIN.out _ _ HS8.hb hrd) ?_)
        rintro e w9 ⟨x9, rfl, b9, o9⟩
        have HS9 := HS8.made b9 o9
        obtain ⟨Aq, cq, rfl, _⟩ := (HS9.own 0 rfl).sl
        clear HS8 hrd o9 b9
        go_wp2_with (first | refine wl_stc HS9 3 rfl rfl 28 _ _ rfl (by kernel_rfl) 71 (by rw [clv_size HO.out HW.out]; decide) rfl rfl rfl rfl ?_)
        intro w10 HS10
        rw [clv_set71 HO.out HW.out] at HS10
        have HSA : Sep w.heap.size w w10 (.own (.slice Aq Q.length cq) 24 32 Q.length (dcs Q) :: .own (.slice Ap P.length cp) 24 32 P.length (dcs P) :: .own (.slice As S.length cs) 24 32 S.length (dcs S) :: .row gc (clv (m : Int) (l.length : Int) O W (.slice As S.length cs) (i : Int) (.slice Ax xs.length cx) (.slice Ax xs.length cx) (.slice Ap P.length cp) (.slice Aq Q.length cq)) 37 :: .rd (.slice Ax xs.length cx) xs.length 1 (bl xs) :: []) := HS10.sub (by repeat (first | exact List.nil_sublist _ | exact List.Sublist.refl _ | apply List.Sublist.cons_cons | apply List.Sublist.cons))
        clear HS9 HS10
        go_wp2_with (first | refine wl_ld HSA 3 rfl rfl 37 _ rfl rfl Tryd.underlying37 rfl (clv_info HO.out HW.out) ?_)
        have h1 := (HSA.own 0 rfl).rd
        have h2 := (HSA.own 1 rfl).rd
        have h3 := (HSA.own 2 rfl).rd
        have h4 := HSA.rd 4 rfl
        refine (lent9 (m : Int) (l.length : Int) (i : Int) O W xs xs S P Q As Ap Aq Ax Ax cs cp cq cx cx w10 HO.out HW.out (by omega) (by omega) (by omega) (by omega) (by omega) h3 h4 h4 h2 h1).mono ?_
        rintro e w11 ⟨As1, Ap1, Aq1, Ax1, Ay1, cs1, cp1, cq1, cx1, cy1, rfl, b11, hs, hx, hy, hp, hq⟩
        have HSB := HSA.keep b11
        clear HSA h1 h2 h3 h4 b11
        go_wp2_with fail
        refine (extract_no (m : Int) (l.length : Int) (i : Int) O W xs S P Q As1 Ap1 Aq1 Ax1 Ay1 cs1 cp1 cq1 cx1 cy1 w11 HO.out HW.out hx hy (fun w' hb => CAC.out w' (HSB.hb.trans (hb.mono HSB.hb.size)) As1 Ap1 Aq1 Ax1 Ay1 cs1 cp1 cq1 cx1 cy1 (hs.below hb) (hx.below hb) (hy.below hb) (hp.below hb) (hq.below hb))).mono ?_
        rintro e w12 ⟨rfl, b12⟩
        have HSC := HSB.keep b12
        clear HSB hs hx hy hp hq b12
        go_wp2_with (first | refine wl_ld HSC 3 rfl rfl 37 _ rfl rfl Tryd.underlying37 rfl (clv_info HO.out HW.out) ?_)
        have h1 := (HSC.own 0 rfl).rd
        have h2 := (HSC.own 1 rfl).rd
        have h3 := (HSC.own 2 rfl).rd
        have h4 := HSC.rd 4 rfl
        refine (lent9 (m : Int) (l.length : Int) (i : Int) O W xs xs S P Q As Ap Aq Ax Ax cs cp cq cx cx w12 HO.out HW.out (by omega) (by omega) (by omega) (by omega) (by omega) h3 h4 h4 h2 h1).mono ?_
        rintro e w13 ⟨As2, Ap2, Aq2, Ax2, Ay2, cs2, cp2, cq2, cx2, cy2, rfl, b13, hs, hx, hy, hp, hq⟩
        have HSD := HSC.keep b13
        clear HSC h1 h2 h3 h4 b13
        go_wp2_with fail
        refine (CAC.out w13 HSD.hb As2 Ap2 Aq2 Ax2 Ay2 cs2 cp2 cq2 cx2 cy2 hs hx hy hp hq).mono ?_
        rintro e w14 ⟨rfl, b14⟩
        have HSE := HSD.keep b14
        clear HSD hs hx hy hp hq b14
        go_wp2
        go_ret
        exact ⟨rfl, HSE.hb⟩
set_option maxRecDepth 100000 in
theorem extractHonest_holds : Rows.ExtractHonestUptoCardSaid := extractHonest.card_of_walk fun H enc W base v0 v1 v2 d0 d1 d2 p0 p1 p2 h0 k0 h1 k1 h2 k2 hsz hL hbulk => by
  obtain ⟨a1, len1, cap1, rfl⟩ := Go.WideShapes.okWide_slice Tryd.underlying48 k0
  obtain ⟨f1, hf1⟩ := h0
  obtain ⟨a, rfl, _, _, _⟩ := Go.ChangeShapes.open_int Tryd.underlying3 k1 h1
  obtain ⟨b, rfl, _, _, _⟩ := Go.ChangeShapes.open_int Tryd.underlying3 k2 h2
  obtain ⟨l, ds, rest, hR, hd, hOK, hx⟩ := open_list (α := Value × List UInt8) pcell (fun x z => Rd W x.1 x.2.length 1 (bl x.2) ∧ x.2.length ≤ Rows.uptoBulk z) Tryd.underlying48 (c := 1) (by kernel_rfl) (by decide) (fun _ => rfl)
    (fun fuel cs x hl h => by
      obtain ⟨v, l, hv, hR, hb⟩ := open_bytes3 Tryd.underlying22 Tryd.underlying5 (by kernel_rfl) hl h
      exact ⟨(v, l), hv, hR, bulk_bytes hb⟩) hf1
  simp only [Rows.uptoBulkAll] at hbulk
  have hds : Rows.uptoBulkAll ds ≤ 1048576 := by
    rcases hx with ⟨_, rfl⟩ | rfl
    · simp [Rows.uptoBulkAll]
    · simp only [Rows.uptoBulk] at hbulk
      omega
  have hlen := bulk_len ds
  have hone : ∀ (ds : List (DataW H)) (z : DataW H), z ∈ ds → Rows.uptoBulk z ≤ Rows.uptoBulkAll ds := fun ds => by
    induction ds with
    | nil => intro z h; cases h
    | cons d r ih =>
      intro z h
      simp only [Rows.uptoBulkAll]
      rcases List.mem_cons.1 h with rfl | h
      · omega
      · have := ih z h; omega
  refine honest_walk l _ a b W (table_of hL) hR (fun x hx => ?_) (by omega)
  obtain ⟨i, hi⟩ := List.mem_iff_getElem?.1 hx
  have h1 := (List.getElem?_eq_some_iff.1 hi).1
  obtain ⟨o1, o2⟩ := hOK i x _ hi (List.getElem?_eq_getElem (by omega))
  have := hone ds _ (List.getElem_mem (show i < ds.length by omega))
  exact ⟨o1, by omega⟩
#print axioms extractHonest_holds
end Go.Proofs.YtbjbdnlgoifamaaDoor
