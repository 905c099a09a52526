/- A source of tiles: Put, Tile; what a list of tiles tells. -/
import Derived.Test.YtfhffldgjepeaaaKp
namespace Go.Proofs.Ytfhffldgjepeaaa
open Go.RowKit Cop
set_option linter.unusedVariables false
set_option linter.unusedSimpArgs false
theorem inI_zero : inI 0 := (by decide : (Lit.int .i64 0).wf = true)
theorem cell_mp {w : World} {g b : Nat} {t : TypeId} (h : w.heap[g]? = some (.cells #[.map (some b)] t (0, 0))) : w.cell? ⟨g, 0, none⟩ = some (.map (some b)) := by rw [row_cell h]; rfl
set_option maxRecDepth 100000 in
theorem map_nil (b : Nat) (w : World) : (binOp .eql 41 (.map (some b)) (.map none)).run Try.prog w = .ok (.bool false) w := by
  simp only [binOp, Op.equal]
  rw [show Op.maxDepth = 9999 + 1 from rfl]
  unfold Op.equalIn
  simp [Sem.run_bind, run_underlying Try.underlying41, Result.andThen_ok, Sem.run_pure]
set_option maxRecDepth 100000 in
theorem tile_a {B : Nat} {w0 w : World} {R : List Pc} (i j : Nat) {g b c : Nat} {es : Array MapEntry} (hi : R[i]? = some (.row g #[.map (some b)] 43)) (hj : R[j]? = some (.mp b es c)) (h L I W : Int) (x : Value) (l : List UInt8) (ok : Bool)
    (hlk : ∀ w' : World, w'.heap[b]? = some (.map es c) → (Instr.lookup 41 (.map (some b)) (.agg (tlv h L I 0)) true).run Try.prog w' = .ok (.tuple #[x, .bool ok]) w')
    (hrd : ∀ w', Sep B w0 w' R → Rd w' x l.length 1 (bl l)) (hll : l.length ≤ 140737488355000) (HS : Sep B w0 w R) :
    Calls Try.prog 5 #[.pointer (some ⟨g, 0, none⟩), .agg (tlv h L I W)] w fun e w' => ∃ y, e = .returned (.tuple #[y, .bool ok]) ∧ Sep B w0 w' (.own y 5 1 l.length (bl l) :: R) := by
  have HI := Lib.hid hi
  have HJ := Lib.hid hj
  have HLK := Lib.hid hlk
  have HRD := Lib.hid hrd
  obtain ⟨A, cx, rfl, _, _⟩ := (hrd w HS).shape
  have CC := Lib.hid (fun w' (hR : Rd w' (.slice A l.length cx) l.length 1 (bl l)) => clone_bytes (.slice A l.length cx) l w' hR hll)
  have CP := Lib.hid (fun w' => place_a h L I W w')
  clear hi hj hlk hrd
  go_enter Try.func5, Try.ntmps5
  go_wp2_with (first | refine wl_bx HS rfl 26 _ rfl (tlv h L I W) rfl ?_)
  intro g3 w1 HS1
  clear HS
  go_wp2
  refine Cop.region_ord (fun w' => Sep B w0 w' (.row g3 (tlv h L I W) 26 :: R)) 11 (.take 0 (.take 1 (.take 2 (.take 3 (.take 4 (.run 5 (.take 6 (.take 7 (.take 8 (.take 9 (.take 10 (.take 11 Cop.Ord.fin)))))))))))) (by kernel_rfl) (by kernel_rfl) (fun _ _ d _ _ h => by cases d <;> exact h) ?_
  intro wa hda
  have HSa := HS1.keep hda
  clear HS1
  (repeat (first | (refine Cop.og_skip rfl rfl HSa _ (by (simp only [Act.put, List.setIfInBounds_toArray, List.set_cons_succ, List.set_cons_zero]; rfl)) ?_) | (refine Cop.og_ld rfl rfl HSa 26 _ rfl (.pointer (some ⟨g3, 0, none⟩)) rfl _ (fun w9 h9 => load_row (h9.row 0 rfl) 26 Try.underlying26 rfl (tl_info _ _ _ _)) _ (by (simp only [Act.put, List.setIfInBounds_toArray, List.set_cons_succ, List.set_cons_zero]; rfl)) ?_) | (refine Cop.og_take rfl rfl HSa ?_; apply Exists.intro; refine ⟨fun w9 h9 => ?_, _, by (simp only [Act.put, List.setIfInBounds_toArray, List.set_cons_succ, List.set_cons_zero]; rfl), ?_⟩; (have c0 := cell_mp (h9.row (i + 1) HI.out); have q := HLK.out w9 (h9.mpAt (j + 1) HJ.out); go_simp; with_reducible rfl))))
  refine Cop.og_run rfl rfl ?_
  refine ow_call 10 _ _ (fun w' => Below wa.heap.size wa w') (by go_simp) (CP.out wa) ?_
  intro wb bb
  have HSb := HSa.keep bb
  refine ⟨fun _ => HSb, ?_⟩
  (repeat (first | (refine Cop.og_skip rfl rfl HSb _ (by (simp only [Act.put, List.setIfInBounds_toArray, List.set_cons_succ, List.set_cons_zero]; rfl)) ?_) | (refine Cop.og_take rfl rfl HSb ?_; apply Exists.intro; refine ⟨fun w9 h9 => ?_, _, by (simp only [Act.put, List.setIfInBounds_toArray, List.set_cons_succ, List.set_cons_zero]; rfl), ?_⟩; (have c0 := cell_mp (h9.row (i + 1) HI.out); have q := HLK.out w9 (h9.mpAt (j + 1) HJ.out); go_simp; with_reducible rfl))))
  refine og_fin ?_
  have hr := HRD.out wb HSb.tail
  go_wp2_with fail
  (with_reducible refine Calls.mono (CC.out wb hr) ?_)
  rintro e w3 ⟨y, rfl, b3, o3⟩
  have HS3 := HSb.tail.made b3 o3
  go_wp2
  go_ret2
  exact ⟨_, rfl, HS3⟩
set_option maxRecDepth 100000 in
theorem put_no {B : Nat} {w0 w : World} {R : List Pc} (i j : Nat) {g b c : Nat} {es : Array MapEntry} (hi : R[i]? = some (.row g #[.map (some b)] 43)) (h L I : Int) (v : Value) (hv : tvo h L I = false) (HS : Sep B w0 w R) :
    Calls Try.prog 8 #[.pointer (some ⟨g, 0, none⟩), .agg (tlv h L I 1), v] w fun e w' => e = .returned (.int .i64 2) ∧ Sep B w0 w' R := by
  have HI := Lib.hid hi
  have CV := Lib.hid (fun w' => tva h L I w')
  rw [hv] at CV
  clear hi hv
  go_enter Try.func8, Try.ntmps8
  go_wp2_with (first | refine wl_bx HS rfl 26 _ rfl (tlv h L I 1) rfl ?_)
  intro g3 w1 HS1
  clear HS
  have c0 := cell_mp (HS1.row (i + 1) HI.out)
  have hmn := fun W => map_nil b W
  go_wp2_with (first | refine wl_ld HS1 0 rfl rfl 26 _ rfl rfl Try.underlying26 rfl (tl_info _ _ _ _) ?_)
  refine (CV.out w1).mono ?_
  rintro e w2 ⟨rfl, b2⟩
  have HS2 := HS1.keep b2
  clear HS1 c0
  go_wp2
  go_ret
  exact ⟨rfl, HS2.tail⟩
set_option maxRecDepth 100000 in
theorem put_yes {B : Nat} {w0 w : World} {R : List Pc} {g b c : Nat} {es : Array MapEntry} (hk : Keys Try.prog 26 es) (h L I : Int) (h0 : inI h) (h1 : inI L) (h2 : inI I) (v : Value) (l : List UInt8) (hll : l.length ≤ 140737488355000) (hv : tvo h L I = true)
    (HS : Sep B w0 w (.row g #[.map (some b)] 43 :: .mp b es c :: .rd v l.length 1 (bl l) :: R)) :
    Calls Try.prog 8 #[.pointer (some ⟨g, 0, none⟩), .agg (tlv h L I 1), v] w fun e w' => e = .returned (.int .i64 0) ∧ ∃ v' es', Keys Try.prog 26 es' ∧ PutIn es es' (.agg (tlv h L I 0)) v' ∧ ∃ c',
      Sep B w0 w' (.row g #[.map (some b)] 43 :: .mp b es' c' :: .own v' 5 1 l.length (bl l) :: .rd v l.length 1 (bl l) :: R) := by
  have CV := Lib.hid (fun w' => tva h L I w')
  rw [hv] at CV
  obtain ⟨kl, hkey⟩ := tileKey h L I 0 h0 h1 h2 inI_zero
  have HKEY := Lib.hid hkey
  have HK := Lib.hid hk
  obtain ⟨A, cx, rfl, _, _⟩ := (HS.rd 2 rfl).shape
  have CC := Lib.hid (fun w' (hR : Rd w' (.slice A l.length cx) l.length 1 (bl l)) => clone_bytes (.slice A l.length cx) l w' hR hll)
  have CP := Lib.hid (fun w' => place_a h L I 1 w')
  clear hv hk hkey
  go_enter Try.func8, Try.ntmps8
  go_wp2_with (first | refine wl_bx HS rfl 26 _ rfl (tlv h L I 1) rfl ?_)
  intro g3 w1 HS1
  clear HS
  have c0 := cell_mp (HS1.row 1 rfl)
  have hmn := fun W => map_nil b W
  go_wp2_with (first | refine wl_ld HS1 0 rfl rfl 26 _ rfl rfl Try.underlying26 rfl (tl_info _ _ _ _) ?_)
  refine (CV.out w1).mono ?_
  rintro e w2 ⟨rfl, b2⟩
  have HS2 := HS1.keep b2
  clear HS1 c0
  go_wp2
  refine Cop.region_ord (fun w' => Sep B w0 w' (.row g3 (tlv h L I 1) 26 :: .row g #[.map (some b)] 43 :: .mp b es c :: .rd (.slice A l.length cx) l.length 1 (bl l) :: R)) 8 (.take 0 (.take 1 (.take 2 (.take 3 (.take 4 (.take 6 (.run 5 (.run 7 (.run 8 Cop.Ord.fin))))))))) (by kernel_rfl) (by kernel_rfl) (fun _ _ d _ _ h => by cases d <;> exact h) ?_
  intro wa hda
  have HSa := HS2.keep hda
  clear HS2
  (repeat (first | (refine Cop.og_skip rfl rfl HSa _ (by (simp only [Act.put, List.setIfInBounds_toArray, List.set_cons_succ, List.set_cons_zero]; rfl)) ?_) | (refine Cop.og_ld rfl rfl HSa 26 _ rfl (.pointer (some ⟨g3, 0, none⟩)) rfl _ (fun w9 h9 => load_row (h9.row 0 rfl) 26 Try.underlying26 rfl (tl_info _ _ _ _)) _ (by (simp only [Act.put, List.setIfInBounds_toArray, List.set_cons_succ, List.set_cons_zero]; rfl)) ?_) | (refine Cop.og_take rfl rfl HSa ?_; apply Exists.intro; refine ⟨fun w9 h9 => ?_, _, by (simp only [Act.put, List.setIfInBounds_toArray, List.set_cons_succ, List.set_cons_zero]; rfl), ?_⟩; (have c0 := cell_mp (h9.row 1 rfl); go_simp; with_reducible rfl))))
  refine Cop.og_run rfl rfl ?_
  refine ow_call 10 _ _ (fun w' => Below wa.heap.size wa w') (by go_simp) (CP.out wa) ?_
  intro wb bb
  have HSb := HSa.keep bb
  refine ⟨fun _ => HSb, ?_⟩
  (repeat (first | (refine Cop.og_skip rfl rfl HSb _ (by (simp only [Act.put, List.setIfInBounds_toArray, List.set_cons_succ, List.set_cons_zero]; rfl)) ?_) | (refine Cop.og_take rfl rfl HSb ?_; apply Exists.intro; refine ⟨fun w9 h9 => ?_, _, by (simp only [Act.put, List.setIfInBounds_toArray, List.set_cons_succ, List.set_cons_zero]; rfl), ?_⟩; (have c0 := cell_mp (h9.row 1 rfl); go_simp; with_reducible rfl))))
  refine Cop.og_run rfl rfl ?_
  have hr := HSb.rd 3 rfl
  refine ow_call_ex 11 _ (fun x w' => Below wb.heap.size wb w' ∧ Ow w' wb.heap.size 5 1 x l.length (bl l)) (by go_simp) ((CC.out wb hr).mono fun e w' ⟨x, h1, h2⟩ => ⟨x, h1, h2⟩) ?_
  rintro v' wc ⟨bc, oc⟩
  have HSc := HSb.made bc oc
  refine ⟨fun _ => HSc.tail, ?_⟩
  have HTc := HSc.tail
  (repeat (first | (refine Cop.og_skip rfl rfl HTc _ (by (simp only [Act.put, List.setIfInBounds_toArray, List.set_cons_succ, List.set_cons_zero]; rfl)) ?_) | (refine Cop.og_take rfl rfl HTc ?_; apply Exists.intro; refine ⟨fun w9 h9 => ?_, _, by (simp only [Act.put, List.setIfInBounds_toArray, List.set_cons_succ, List.set_cons_zero]; rfl), ?_⟩; (have c0 := cell_mp (h9.row 1 rfl); go_simp; with_reducible rfl))))
  refine Cop.og_run rfl rfl ?_
  refine ow_mu HSc 3 rfl tileKeyed HK.out 41 _ _ _ rfl Try.underlying41 rfl rfl rfl HKEY.out ?_
  intro es' c' hk' hp wd HSd
  refine ⟨fun h => absurd rfl h, ?_⟩
  refine og_fin ?_
  have hp2 : PutIn es es' (.agg (tlv h L I 0)) v' := hp
  clear hp
  have HSe : Sep B w0 wd (.row g #[.map (some b)] 43 :: .mp b es' c' :: .own v' 5 1 l.length (bl l) :: .rd (.slice A l.length cx) l.length 1 (bl l) :: R) := ((HSd.front 1).tail.front 2).front 2
  go_wp2
  go_ret
  exact ⟨rfl, v', es', hk', hp2, c', HSe⟩
/-- A tile, as the document keeps it: its place, the slice of its bytes, and these. -/
abbrev Tl := Int × Int × Value × List UInt8
def tcell (x : Tl) : List Value := [.int .i64 x.1, .int .i64 x.2.1, x.2.2.1]
/-- What a list tells. -/
def tfind : List Tl → Int → Int → Option Tl
  | [], _, _ => none
  | x :: r, L, I => if x.1 = L ∧ x.2.1 = I then some x else tfind r L I
def told : Option Tl → Value × Bool
  | none => (.slice none 0 0, false)
  | some x => (x.2.2.1, true)
theorem rd_get {w : World} {b o n c size : Nat} {cs : List Value} (h : Rd w (.slice (some ⟨b, o, none⟩) n c) n size cs) (h0 : 0 < n) (j : Nat) (u : Value) (hj : cs[j]? = some u) : w.cell? ⟨b, o + j, none⟩ = some u := by
  obtain ⟨_, A', c', he, _, _, _, hc⟩ := h
  injection he with e1 _ e3
  subst e1 e3
  obtain ⟨b', o', e4, h5⟩ := hc h0
  injection e4 with e4
  injection e4 with e5 e6
  subst e5 e6
  exact h5 j u hj
end Go.Proofs.Ytfhffldgjepeaaa
