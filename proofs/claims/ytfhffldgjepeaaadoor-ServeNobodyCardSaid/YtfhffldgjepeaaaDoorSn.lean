/- Servers and sources of tiles that no call made. -/
import Derived.Test.YtfhffldgjepeaaaDoorKk
import Derived.Test.YtfhffldgjepeaaaDoorGy
namespace Go.Proofs.YtfhffldgjepeaaaDoor
open Go.RowKit Cop
set_option linter.unusedVariables false
set_option linter.unusedSimpArgs false
theorem dgz {l : List UInt8} (h : l.length = 32) : (Tryd.prog.info? 51).map (·.size) = some (bv l).size := by rw [bv_size, h]; kernel_rfl
def prz : Array Value := #[.int .i64 0, .int .i64 0, .int .i64 0, .slice none 0 0]
theorem prz_info : (Tryd.prog.info? 28).map (·.size) = some prz.size := by rw [show prz.size = 4 from rfl]; kernel_rfl
theorem prz_one : prz.all (·.oneCell') = true := by simp [prz, Value.oneCell']
/-- A server that no call made. -/
def NoS (w : World) (p : Option Addr) : Prop := p = none ∨ ∃ g, p = some ⟨g, 0, none⟩ ∧ w.heap[g]? = some (.cells #[.nilIface, .int .i64 0, .int .i64 0, .int .i64 0] 48 (0, 0))
theorem NoS.below {w w' : World} {p : Option Addr} (h : NoS w p) (hb : Below w.heap.size w w') : NoS w' p := by
  rcases h with rfl | ⟨g, rfl, hg⟩
  · exact .inl rfl
  · exact .inr ⟨g, rfl, kept_row hb hg⟩
theorem none_v (p : Option Addr) (w : World) (h : NoS w p) : Calls Tryd.prog 30 #[.pointer p] w fun e w' => e = .returned (.bool true) ∧ w' = w := by
  rcases h with rfl | ⟨g, rfl, hg⟩
  · go_enter Tryd.func30, Tryd.ntmps30
    go_wp2
    go_ret
    exact ⟨rfl, rfl⟩
  · have c0 : w.cell? ⟨g, 0, none⟩ = some .nilIface := by rw [row_cell hg]; rfl
    clear hg
    go_enter Tryd.func30, Tryd.ntmps30
    go_wp2
    go_ret
    exact ⟨rfl, rfl⟩
theorem size_v (p : Option Addr) (w : World) (h : NoS w p) : Calls Tryd.prog 14 #[.pointer p] w fun e w' => e = .returned (.int .i64 0) ∧ w' = w := by
  have HN := Lib.hid h
  clear h
  go_enter Tryd.func14, Tryd.ntmps14
  go_wp2_with fail
  refine (none_v p _ (HN.out)).mono ?_
  rintro e w2 ⟨rfl, rfl⟩
  go_wp2
  go_ret
  exact ⟨rfl, rfl⟩
theorem asked_v (p : Option Addr) (w : World) (h : NoS w p) : Calls Tryd.prog 15 #[.pointer p] w fun e w' => e = .returned (.int .i64 0) ∧ w' = w := by
  have HN := Lib.hid h
  clear h
  go_enter Tryd.func15, Tryd.ntmps15
  go_wp2_with fail
  refine (none_v p _ (HN.out)).mono ?_
  rintro e w2 ⟨rfl, rfl⟩
  go_wp2
  go_ret
  exact ⟨rfl, rfl⟩
theorem leaf_v (p : Option Addr) (n : Int) (w : World) (h : NoS w p) : Calls Tryd.prog 12 #[.pointer p, .int .i64 n] w fun e w' => e = .returned (.tuple #[.agg (bv (List.replicate 32 0)), .int .i64 1]) ∧ Below w.heap.size w w' := by
  have HS0 := Sep.start w
  have HN := Lib.hid h
  clear h
  go_enter Tryd.func12, Tryd.ntmps12
  go_wp2_with (first | refine wl_al HS0 rfl 51 rfl (bv (List.replicate 32 0)) (by kernel_rfl) ?_)
  intro g1 w1 HS1
  have hn := HN.out.below HS1.hb
  clear HS0
  go_wp2_with fail
  refine (none_v p _ (hn)).mono ?_
  rintro e w2 ⟨rfl, rfl⟩
  go_wp2_with (first | refine wl_st HS1 0 rfl rfl 51 _ _ rfl rfl (cs := (bv (List.replicate 32 0))) rfl (dgz rfl) rfl (bv_one _) ?_)
  intro w3 HS3
  go_wp2
  exact ret_row_tmp rfl rfl g1 rfl 51 (bv (List.replicate 32 0)) (0, 0) _ (HS3.row 0 rfl) Tryd.underlying51 rfl (dgz rfl) (.int .i64 1) rfl ⟨rfl, HS3.hb⟩
theorem root_v (p : Option Addr) (n : Int) (w : World) (h : NoS w p) : Calls Tryd.prog 13 #[.pointer p, .int .i64 n] w fun e w' => e = .returned (.tuple #[.agg (bv (List.replicate 32 0)), .int .i64 1]) ∧ Below w.heap.size w w' := by
  have HS0 := Sep.start w
  have HN := Lib.hid h
  clear h
  go_enter Tryd.func13, Tryd.ntmps13
  go_wp2_with (first | refine wl_al HS0 rfl 51 rfl (bv (List.replicate 32 0)) (by kernel_rfl) ?_)
  intro g1 w1 HS1
  have hn := HN.out.below HS1.hb
  clear HS0
  go_wp2_with fail
  refine (none_v p _ (hn)).mono ?_
  rintro e w2 ⟨rfl, rfl⟩
  go_wp2_with (first | refine wl_st HS1 0 rfl rfl 51 _ _ rfl rfl (cs := (bv (List.replicate 32 0))) rfl (dgz rfl) rfl (bv_one _) ?_)
  intro w3 HS3
  go_wp2
  exact ret_row_tmp rfl rfl g1 rfl 51 (bv (List.replicate 32 0)) (0, 0) _ (HS3.row 0 rfl) Tryd.underlying51 rfl (dgz rfl) (.int .i64 1) rfl ⟨rfl, HS3.hb⟩
theorem proof_v (p : Option Addr) (k a n : Int) (f : Value) (w : World) (h : NoS w p) : Calls Tryd.prog 24 #[.pointer p, .int .i64 k, .int .i64 a, .int .i64 n, f] w fun e w' => e = .returned (.tuple #[.agg prz, .int .i64 1]) ∧ Below w.heap.size w w' := by
  have HS0 := Sep.start w
  have HN := Lib.hid h
  clear h
  go_enter Tryd.func24, Tryd.ntmps24
  go_wp2_with (first | refine wl_al HS0 rfl 28 rfl prz (by kernel_rfl) ?_)
  intro g1 w1 HS1
  have hn := HN.out.below HS1.hb
  clear HS0
  go_wp2_with fail
  refine (none_v p _ (hn)).mono ?_
  rintro e w2 ⟨rfl, rfl⟩
  go_wp2_with (first | refine wl_st HS1 0 rfl rfl 28 _ _ rfl rfl (cs := prz) rfl prz_info rfl prz_one ?_)
  intro w3 HS3
  go_wp2
  exact ret_row_tmp rfl rfl g1 rfl 28 prz (0, 0) _ (HS3.row 0 rfl) Tryd.underlying28 rfl prz_info (.int .i64 1) rfl ⟨rfl, HS3.hb⟩
theorem incl_v (p : Option Addr) (a n : Int) (w : World) (h : NoS w p) : Calls Tryd.prog 7 #[.pointer p, .int .i64 a, .int .i64 n] w fun e w' => e = .returned (.tuple #[.agg prz, .int .i64 1]) ∧ Below w.heap.size w w' := by
  have HS0 := Sep.start w
  have HN := Lib.hid h
  have CP := Lib.hid (fun (k : Int) (f : Value) (w' : World) (h : NoS w' p) => proof_v p k a n f w' h)
  clear h
  go_enter Tryd.func7, Tryd.ntmps7
  go_wp2_with (first | refine wl_al HS0 rfl 28 rfl prz (by kernel_rfl) ?_)
  intro g1 w1 HS1
  have hn := HN.out.below HS1.hb
  clear HS0
  go_wp2_with fail
  refine (CP.out _ _ w1 hn).mono ?_
  rintro e w2 ⟨rfl, b2⟩
  have HS2 := HS1.keep b2
  clear HS1 hn
  go_wp2_with (first | refine wl_st HS2 0 rfl rfl 28 _ _ rfl rfl (cs := prz) rfl prz_info rfl prz_one ?_)
  intro w3 HS3
  go_wp2
  exact ret_row_tmp rfl rfl g1 rfl 28 prz (0, 0) _ (HS3.row 0 rfl) Tryd.underlying28 rfl prz_info (.int .i64 1) rfl ⟨rfl, HS3.hb⟩
theorem cons_v (p : Option Addr) (a n : Int) (w : World) (h : NoS w p) : Calls Tryd.prog 8 #[.pointer p, .int .i64 a, .int .i64 n] w fun e w' => e = .returned (.tuple #[.agg prz, .int .i64 1]) ∧ Below w.heap.size w w' := by
  have HS0 := Sep.start w
  have HN := Lib.hid h
  have CP := Lib.hid (fun (k : Int) (f : Value) (w' : World) (h : NoS w' p) => proof_v p k a n f w' h)
  clear h
  go_enter Tryd.func8, Tryd.ntmps8
  go_wp2_with (first | refine wl_al HS0 rfl 28 rfl prz (by kernel_rfl) ?_)
  intro g1 w1 HS1
  have hn := HN.out.below HS1.hb
  clear HS0
  go_wp2_with fail
  refine (CP.out _ _ w1 hn).mono ?_
  rintro e w2 ⟨rfl, b2⟩
  have HS2 := HS1.keep b2
  clear HS1 hn
  go_wp2_with (first | refine wl_st HS2 0 rfl rfl 28 _ _ rfl rfl (cs := prz) rfl prz_info rfl prz_one ?_)
  intro w3 HS3
  go_wp2
  exact ret_row_tmp rfl rfl g1 rfl 28 prz (0, 0) _ (HS3.row 0 rfl) Tryd.underlying28 rfl prz_info (.int .i64 1) rfl ⟨rfl, HS3.hb⟩
theorem prow {w : World} {g : Nat} {t : TypeId} (h : w.heap[g]? = some (.cells prz t (0, 0))) : w.cell? ⟨g, 0, none⟩ = some (.int .i64 0) ∧ w.cell? ⟨g, 1, none⟩ = some (.int .i64 0) ∧ w.cell? ⟨g, 2, none⟩ = some (.int .i64 0) ∧ w.cell? ⟨g, 3, none⟩ = some (.slice none 0 0) :=
  ⟨by rw [row_cell h]; rfl, by rw [row_cell h]; rfl, by rw [row_cell h]; rfl, by rw [row_cell h]; rfl⟩
theorem same_z (w : World) : Calls Tryd.prog 9 #[.agg prz, .agg prz] w fun e w' => e = .returned (.bool true) ∧ Below w.heap.size w w' := by
  have HS0 := Sep.start w
  go_enter Tryd.func9, Tryd.ntmps9
  go_wp2_with (first | refine wl_bx HS0 rfl 28 _ rfl prz rfl ?_)
  intro g1 w1 HS1
  go_wp2_with (first | refine wl_bx HS1 rfl 28 _ rfl prz rfl ?_)
  intro g2 w2 HS2
  clear HS0 HS1
  obtain ⟨a0, a1, a2, a3⟩ := prow (HS2.row 1 rfl)
  obtain ⟨b0, b1, b2, b3⟩ := prow (HS2.row 0 rfl)
  go_wp2
  go_loopw [5] (fun s5 wr => s5 = .int .i64 0 ∧ Sep w.heap.size w wr [.row g2 prz 28, .row g1 prz 28]) (fun s5 _ => 0)
  case atStart => exact ⟨rfl, HS2⟩
  case round =>
    clear HS2 a0 a1 a2 a3 b0 b1 b2 b3
    obtain ⟨rfl, HSi⟩ := hrel
    obtain ⟨a0, a1, a2, a3⟩ := prow (HSi.row 1 rfl)
    go_wp2
    go_ret
    exact ⟨rfl, HSi.hb⟩
theorem newS_nil (w : World) : Calls Tryd.prog 16 #[.nilIface, .int .i64 1, .int .i64 1] w fun e w' => e = .returned (.tuple #[.pointer none, .int .i64 2]) ∧ w' = w := by
  go_enter Tryd.func16, Tryd.ntmps16
  go_wp2
  go_ret2
  exact ⟨rfl, rfl⟩
/-- A source that no call made. -/
def NoK (w : World) (p : Option Addr) : Prop := p = none ∨ ∃ g, p = some ⟨g, 0, none⟩ ∧ w.heap[g]? = some (.cells #[.map none] 39 (0, 0))
theorem NoK.below {w w' : World} {p : Option Addr} (h : NoK w p) (hb : Below w.heap.size w w') : NoK w' p := by
  rcases h with rfl | ⟨g, rfl, hg⟩
  · exact .inl rfl
  · exact .inr ⟨g, rfl, kept_row hb hg⟩
theorem map_nn (w : World) : (binOp .eql 37 (.map none) (.map none)).run Tryd.prog w = .ok (.bool true) w := by
  simp only [binOp, Op.equal]
  rw [show Op.maxDepth = 9999 + 1 from rfl]
  unfold Op.equalIn
  simp [Sem.run_bind, run_underlying Tryd.underlying37, Result.andThen_ok, Sem.run_pure]
set_option maxRecDepth 100000 in
theorem put_none (p : Option Addr) (h L I W : Int) (w : World) (hp : NoK w p) : Calls Tryd.prog 11 #[.pointer p, .agg (tlv h L I W), .slice none 0 0] w fun e w' => e = .returned (.int .i64 1) ∧ Below w.heap.size w w' := by
  have HS0 := Sep.start w
  rcases hp with rfl | ⟨g, rfl, hg⟩
  · go_enter Tryd.func11, Tryd.ntmps11
    go_wp2_with (first | refine wl_bx HS0 rfl 35 _ rfl (tlv h L I W) rfl ?_)
    intro g1 w1 HS1
    go_wp2
    go_ret
    exact ⟨rfl, HS1.hb⟩
  · have HG := Lib.hid hg
    clear hg
    go_enter Tryd.func11, Tryd.ntmps11
    go_wp2_with (first | refine wl_bx HS0 rfl 35 _ rfl (tlv h L I W) rfl ?_)
    intro g1 w1 HS1
    have c0 : w1.cell? ⟨g, 0, none⟩ = some (.map none) := by rw [row_cell (kept_row HS1.hb HG.out)]; rfl
    have hmn := fun W => map_nn W
    go_wp2
    go_ret
    exact ⟨rfl, HS1.hb⟩
theorem cloneNil (w : World) : Calls Tryd.prog 28 #[.slice none 0 0] w fun e w' => e = .returned (.slice none 0 0) ∧ w' = w := by
  have heq := fun w => Lib.run_eql_slice_nil (P := Tryd.prog) (w := w)
  go_enter Tryd.func28, Tryd.ntmps28
  go_wp2
  go_ret
  exact ⟨rfl, rfl⟩
set_option maxRecDepth 100000 in
theorem tile_none (p : Option Addr) (h L I W : Int) (h0 : inI h) (h1 : inI L) (h2 : inI I) (w : World) (hp : NoK w p) : Calls Tryd.prog 10 #[.pointer p, .agg (tlv h L I W)] w fun e w' => e = .returned (.tuple #[.slice none 0 0, .bool false]) ∧ Below w.heap.size w w' := by
  have HS0 := Sep.start w
  have CC := Lib.hid cloneNil
  have CP := Lib.hid (fun w' => place_a h L I W w')
  rcases hp with rfl | ⟨g, rfl, hg⟩
  · go_enter Tryd.func10, Tryd.ntmps10
    go_wp2_with (first | refine wl_bx HS0 rfl 35 _ rfl (tlv h L I W) rfl ?_)
    intro g1 w1 HS1
    go_wp2
    go_ret2
    exact ⟨rfl, HS1.hb⟩
  · obtain ⟨kl, hkey⟩ := tileKey h L I 0 h0 h1 h2 inI_zero
    have HLK := Lib.hid (fun w' : World => (show (Instr.lookup 37 (.map none) (.agg (tlv h L I 0)) true).run Tryd.prog w' = .ok (.tuple #[.slice none 0 0, .bool false]) w' from Maps.look_nil true tileKeyed Tryd.underlying37 (by
      obtain ⟨i, hi, hz⟩ := Option.map_eq_some_iff.1 (show (Tryd.prog.info? 41).map (·.zero) = some (some (.slice none 0 0)) by kernel_rfl)
      simp [zeroValue, typeInfo, hi, hz]) hkey))
    have HG := Lib.hid hg
    clear hg hkey
    go_enter Tryd.func10, Tryd.ntmps10
    go_wp2_with (first | refine wl_bx HS0 rfl 35 _ rfl (tlv h L I W) rfl ?_)
    intro g3 w1 HS1
    clear HS0
    go_wp2
    refine Cop.region_ord (fun w' => Sep w.heap.size w w' [.row g3 (tlv h L I W) 35]) 11 (.take 0 (.take 1 (.take 2 (.take 3 (.take 4 (.run 5 (.take 6 (.take 7 (.take 8 (.take 9 (.take 10 (.take 11 Cop.Ord.fin)))))))))))) (by kernel_rfl) (by kernel_rfl) (fun _ _ d _ _ h => by cases d <;> exact h) ?_
    intro wa hda
    have HSa := HS1.keep hda
    clear HS1
    (repeat (first | (refine Cop.og_skip rfl rfl HSa _ (by (simp only [Act.put, List.setIfInBounds_toArray, List.set_cons_succ, List.set_cons_zero]; rfl)) ?_) | (refine Cop.og_ld rfl rfl HSa 35 _ rfl (.pointer (some ⟨g3, 0, none⟩)) rfl _ (fun w9 h9 => load_row (h9.row 0 rfl) 35 Tryd.underlying35 rfl (tl_info _ _ _ _)) _ (by (simp only [Act.put, List.setIfInBounds_toArray, List.set_cons_succ, List.set_cons_zero]; rfl)) ?_) | (refine Cop.og_take rfl rfl HSa ?_; apply Exists.intro; refine ⟨fun w9 h9 => ?_, _, by (simp only [Act.put, List.setIfInBounds_toArray, List.set_cons_succ, List.set_cons_zero]; rfl), ?_⟩; (have c0 : w9.cell? ⟨g, 0, none⟩ = some (.map none) := (by rw [row_cell (kept_row h9.hb HG.out)]; rfl); have q := HLK.out w9; go_simp; with_reducible rfl))))
    refine Cop.og_run rfl rfl ?_
    refine ow_call 27 _ _ (fun w' => Below wa.heap.size wa w') (by go_simp) (CP.out wa) ?_
    intro wb bb
    have HSb := HSa.keep bb
    refine ⟨fun _ => HSb, ?_⟩
    (repeat (first | (refine Cop.og_skip rfl rfl HSb _ (by (simp only [Act.put, List.setIfInBounds_toArray, List.set_cons_succ, List.set_cons_zero]; rfl)) ?_) | (refine Cop.og_take rfl rfl HSb ?_; apply Exists.intro; refine ⟨fun w9 h9 => ?_, _, by (simp only [Act.put, List.setIfInBounds_toArray, List.set_cons_succ, List.set_cons_zero]; rfl), ?_⟩; (have c0 : w9.cell? ⟨g, 0, none⟩ = some (.map none) := (by rw [row_cell (kept_row h9.hb HG.out)]; rfl); have q := HLK.out w9; go_simp; with_reducible rfl))))
    refine og_fin ?_
    go_wp2_with fail
    refine (CC.out wb).mono ?_
    rintro e w3 ⟨rfl, rfl⟩
    go_wp2
    go_ret2
    exact ⟨rfl, HSb.hb⟩
end Go.Proofs.YtfhffldgjepeaaaDoor
