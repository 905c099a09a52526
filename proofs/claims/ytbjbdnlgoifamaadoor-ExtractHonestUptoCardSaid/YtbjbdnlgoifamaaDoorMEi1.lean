/- tree.Inclusion: its inner function, and itself; the reference's path. tree.Inclusion and the reference's. tree.Consistency: its inner function. tree.Consistency and the reference's. -/
import Derived.Test.YtbjbdnlgoifamaaDoorRs
import Derived.Test.YtbjbdnlgoifamaaDoorMEi0
namespace Go.Proofs.YtbjbdnlgoifamaaDoor
open Go.RowKit Cop
set_option linter.unusedVariables false
set_option linter.unusedSimpArgs false
set_option maxRecDepth 100000 in
theorem fill_dg {d : List UInt8} (h : d.length = 32) : Instr.fill (fun i => some (i * 32, 32)) ((Array.range (1 * 32)).map ((Value.agg (bv (List.replicate 32 0))).cells[· % (Value.agg (bv (List.replicate 32 0))).cells.size]!)) [(0, Value.agg (bv d))] = some (dcs [d]).toArray := by
  obtain ⟨a0, a1, a2, a3, a4, a5, a6, a7, b0, b1, b2, b3, b4, b5, b6, b7, c0, c1, c2, c3, c4, c5, c6, c7, d0, d1, d2, d3, d4, d5, d6, d7, rfl⟩ := len32 h
  kernel_rfl
theorem dgs_info2 : (Tryd.prog.info? 24).map (fun i => (i.zero, i.size)) = some (some (.agg (bv (List.replicate 32 0))), 32) := by kernel_rfl
section
variable {w0 w : World} {B : Nat} {R : List Pc} {o : Oper} {a : Act} {K : Act → World → Prop} {Q : Exit → Act → World → Prop}
/-- []api.Digest{d} -/
theorem ow_bd (HS : Sep B w0 w R) (x : Operand) (ho : o.op = .buildSlice 28 1 #[(0, x)]) (d : List UInt8) (hd : d.length = 32) (hx : a.eval x = .agg (bv d))
    (h : ∀ g w1, Sep B w0 w1 (.own (.slice (some ⟨g, 0, none⟩) 1 1) 24 32 1 (dcs [d]) :: R) → K (a.put o.dst (.slice (some ⟨g, 0, none⟩) 1 1)) w1) : o.wp Tryd.prog a w K Q :=
  ow_bs HS 28 24 1 32 _ ho (dcs [d]) _ Tryd.underlying28 dgs_info2 (by decide) (by decide) (by simpa [hx] using fill_dg hd) (by simp [dcs, bl_length, hd]) h
/-- append(v, d) of digests. -/
theorem ow_apd (HS : Sep B w0 w R) (i : Nat) {v : Value} {p : List (List UInt8)} {n : Nat} (hi : R[i]? = some (.own v 24 32 n (dcs p))) {s x : Operand} (ho : o.op = .call { callee := .builtin .append, args := #[s, x], argTypes := #[28, 28] })
    {u : Value} {m : Nat} {q : List (List UInt8)} (HR : Rd w u m 32 (dcs q)) (hs : a.eval s = v) (hx : a.eval x = u) (k : Nat) (r : List (List UInt8)) (hk : n + m = k) (hr : p ++ q = r) (hl : k * 32 ≤ 140737488355328)
    (h : ∀ v1 w1, Sep B w0 w1 (R.set i (.own v1 24 32 k (dcs r))) → K (a.put o.dst v1) w1) : o.wp Tryd.prog a w K Q :=
  ow_apn HS i hi s x 28 _ 32 ho Tryd.underlying28 dgs_info rfl (by decide) (by decide) HR (dcs_one q) hs hx k (dcs r) hk (by rw [← hr, dcs_append]) hl fun v1 w1 h1 _ => h v1 w1 h1
end
theorem tpath_all : ∀ (n : Nat) (l : List (List UInt8)), AllD l → l.length = n → ∀ i, AllD (tpath nodeD (sha []) l i) := by
  intro n
  induction n using Nat.strongRecOn with
  | ind n ih =>
    intro l hl hn i
    rcases Nat.lt_or_ge l.length 2 with h | h
    · rw [tpath_one _ _ h]; intro x hx; cases hx
    · have h1 := hf_lt h
      have h2 := hf_pos l.length
      by_cases hi : i < hf l.length
      · rw [tpath_lt _ _ h hi]
        intro x hx
        rcases List.mem_append.1 hx with hx | hx
        · exact ih (hf l.length) (by omega) _ (hl.take _) (by rw [List.length_take, Nat.min_eq_left (by omega)]) _ x hx
        · simp at hx; subst hx; exact root_length _ (hl.drop _)
      · rw [tpath_ge _ _ h hi]
        intro x hx
        rcases List.mem_append.1 hx with hx | hx
        · exact ih (l.length - hf l.length) (by omega) _ (hl.drop _) (by rw [List.length_drop]) _ x hx
        · simp at hx; subst hx; exact root_length _ (hl.take _)
theorem tpath_len64 (l : List (List UInt8)) (hll : l.length ≤ 4398046511104) (i : Nat) : (tpath nodeD (sha []) l i).length ≤ 64 := by
  rw [tpath_length nodeD (sha []) l l.length rfl]
  exact Nat.le_trans (way_len 42 l.length i (by rw [show 2 ^ 42 = 4398046511104 from rfl]; exact hll)) (by decide)
/-- The leaves from b to e. -/
def seg (l : List (List UInt8)) (b e : Nat) : List (List UInt8) := (l.take e).drop b
theorem seg_length (l : List (List UInt8)) (b e : Nat) (h2 : e ≤ l.length) : (seg l b e).length = e - b := by
  unfold seg; rw [List.length_drop, List.length_take]; omega
theorem seg_all {l : List (List UInt8)} (h : AllD l) (b e : Nat) : AllD (seg l b e) := (h.take e).drop b
theorem seg_take (l : List (List UInt8)) (b e k : Nat) (h : b + k ≤ e) : (seg l b e).take k = seg l b (b + k) := by
  unfold seg
  rw [List.take_drop, List.take_take, Nat.min_eq_left h]
theorem seg_drop (l : List (List UInt8)) (b e k : Nat) : (seg l b e).drop k = seg l (b + k) e := by
  unfold seg
  rw [List.drop_drop]
theorem seg_whole (l : List (List UInt8)) (e : Nat) : seg l 0 e = l.take e := by unfold seg; rw [List.drop_zero]
theorem rd_seg {w : World} {l : List (List UInt8)} {A0 : Option Addr} {n0 c0 : Nat} (hR : Rd w (.slice A0 n0 c0) l.length 32 (dcs l)) (hl : AllD l) (b e : Nat) (h1 : b ≤ e) (h2 : e ≤ l.length) :
    ∃ A c, (∀ W, Rd W (.slice A0 n0 c0) l.length 32 (dcs l) → Rd W (.slice A (e - b) c) (e - b) 32 (dcs (seg l b e))) ∧
      (∀ W kl kh, (Instr.sliceAt 28 (.slice A0 n0 c0) (some (.int kl (b : Int))) (some (.int kh (e : Int))) none).run Tryd.prog W = .ok (.slice A (e - b) c) W) ∧
      (b = 0 → ∀ W kh, (Instr.sliceAt 28 (.slice A0 n0 c0) none (some (.int kh (e : Int))) none).run Tryd.prog W = .ok (.slice A (e - b) c) W) ∧
      (e = l.length → ∀ W kl, (Instr.sliceAt 28 (.slice A0 n0 c0) (some (.int kl (b : Int))) none none).run Tryd.prog W = .ok (.slice A (e - b) c) W) := by
  obtain ⟨A, c, _, _, _, h3, h4, h5⟩ := rd_dsub hR hl b e h1 h2
  refine ⟨A, c, fun W hW => ?_, h3, h4, h5⟩
  obtain ⟨A2, c2, h6, _, _, h7, _, _⟩ := rd_dsub hW hl b e h1 h2
  have e1 := h3 W .i64 .i64
  rw [h7 W .i64 .i64] at e1
  injection e1 with e1
  injection e1 with e1 _ e2
  subst e1 e2
  exact h6
/-- What the inner function of Inclusion knows: the path's variable, the path, itself, the leaf's index, the leaves' variable, the leaves. -/
def incl (gp gw gi gl : Nat) (x : Value) (p l : List (List UInt8)) (i : Nat) (A : Option Addr) (c : Nat) (R : List Pc) : List Pc :=
  .row gp #[x] 28 :: .own x 24 32 p.length (dcs p) :: .row gw #[.func (.func 50) #[] #[.pointer (some ⟨gi, 0, none⟩), .pointer (some ⟨gw, 0, none⟩), .pointer (some ⟨gp, 0, none⟩), .pointer (some ⟨gl, 0, none⟩)]] 90
    :: .row gi #[.int .i64 (i : Int)] 3 :: .row gl #[.slice A l.length c] 28 :: .rd (.slice A l.length c) l.length 32 (dcs l) :: R
set_option maxRecDepth 100000 in
set_option maxHeartbeats 4000000 in
theorem incl_gen (l : List (List UInt8)) (Rt : List (List UInt8) → List UInt8) (Tp : List (List UInt8) → Nat → List (List UInt8)) (A : Option Addr) (c : Nat) (B : Nat) (w0 : World) (i gp gw gi gl : Nat) (R : List Pc) (hl : AllD l) (hll : l.length ≤ 4398046511104)
    (hrl : ∀ l, AllD l → (Rt l).length = 32) (h1 : ∀ l i, l.length < 2 → Tp l i = []) (hlt : ∀ l i, 2 ≤ l.length → i < hf l.length → Tp l i = Tp (l.take (hf l.length)) i ++ [Rt (l.drop (hf l.length))])
    (hge : ∀ l i, 2 ≤ l.length → ¬ i < hf l.length → Tp l i = Tp (l.drop (hf l.length)) (i - hf l.length) ++ [Rt (l.take (hf l.length))])
    (hCR : ∀ l' w' v', Below B w0 w' → AllD l' → l'.length ≤ 4398046511104 → Rd w' v' l'.length 32 (dcs l') → Gives 21 #[v'] w' (.agg (bv (Rt l')))) :
    ∀ (n b e : Nat) (bi ei : Int) (x : Value) (p : List (List UInt8)) (w : World), bi = (b : Int) → ei = (e : Int) → e = b + n → 1 ≤ n → b ≤ i → i < e → e ≤ l.length → (p ++ Tp (seg l b e) (i - b)).length ≤ 1000 →
      Sep B w0 w (incl gp gw gi gl x p l i A c R) →
      Calls Tryd.prog 50 #[.int .i64 bi, .int .i64 ei, .pointer (some ⟨gi, 0, none⟩), .pointer (some ⟨gw, 0, none⟩), .pointer (some ⟨gp, 0, none⟩), .pointer (some ⟨gl, 0, none⟩)] w fun e' w' => e' = .returned (.tuple #[]) ∧ ∃ x', Sep B w0 w' (incl gp gw gi gl x' (p ++ Tp (seg l b e) (i - b)) l i A c R) := by
  have HL := Lib.hid hl
  have HRL := Lib.hid hrl
  have H1 := Lib.hid h1
  have HLT := Lib.hid hlt
  have HGE := Lib.hid hge
  have CR := Lib.hid hCR
  clear hl hrl h1 hlt hge hCR
  intro n
  induction n using Nat.strongRecOn with
  | ind n ih =>
  intro b e bi ei x p w hbi hei hen hn hbi2 hib hbl hq HS0
  have IH := Lib.hid ih
  clear ih
  have hTl := seg_length l b e hbl
  have hb0 : 0 ≤ bi := by omega
  have he0 : ei ≤ 4398046511104 := by omega
  have hbe : bi < ei := by omega
  have he1 : 0 ≤ ei := by omega
  have hb1 : bi ≤ 4398046511104 := by omega
  by_cases hone : n = 1
  · have h1 : ei - bi = 1 := by omega
    rw [H1.out _ _ (by rw [hTl]; omega), List.append_nil]
    clear IH hTl hbi hei hen hone
    go_enter Tryd.func50, Tryd.ntmps50
    go_wp2
    refine bodyPost_ret (results_none rfl _ _ _) rfl ?_
    exact ⟨rfl, x, HS0⟩
  have h2 : 2 ≤ (seg l b e).length := by omega
  have hlt := hf_lt (n := n) (by omega)
  have hps := hf_pos n
  obtain ⟨k, hk⟩ : ∃ k, hf n = k := ⟨_, rfl⟩
  have hkT : hf (seg l b e).length = k := by rw [hTl, show e - b = n from by omega, hk]
  rw [hk] at hlt hps
  have CH := Lib.hid (fun w => half_a (ei - bi) w (by omega) (by omega))
  rw [show (ei - bi).toNat = n from by omega, hk] at CH
  have hT1 := HLT.out (seg l b e) (i - b) h2
  have hT2 := HGE.out (seg l b e) (i - b) h2
  rw [hkT, seg_take l b e k (by omega), seg_drop] at hT1 hT2
  have hR0 : Rd w (.slice A l.length c) l.length 32 (dcs l) := HS0.rd 5 rfl
  have hne : ¬ ei - bi = 1 := by omega
  by_cases him : i - b < k
  · have hTp := hT1 him
    obtain ⟨A1, c1, hR1, hs1, _, _⟩ := rd_seg hR0 HL.out (b + k) e (by omega) hbl
    have HRX := Lib.hid hR1
    have HSLX := Lib.hid (fun W => hs1 W .i64 .i64)
    rw [show ((b + k : Nat) : Int) = bi + (k : Int) from by omega, ← hei] at HSLX
    have hXl := HRL.out _ (seg_all HL.out (b + k) e)
    have hsl := seg_length l (b + k) e hbl
    have CRX := Lib.hid (fun w' (hb : Below B w0 w') (hv : Rd w' (.slice A1 (e - (b + k)) c1) (e - (b + k)) 32 (dcs (seg l (b + k) e))) => CR.out (seg l (b + k) e) w' _ hb (seg_all HL.out _ _) (by omega) (by rw [hsl]; exact hv))
    obtain ⟨X, hX⟩ : ∃ y, Rt (seg l (b + k) e) = y := ⟨_, rfl⟩
    obtain ⟨p1, hp1⟩ : ∃ y, p ++ Tp (seg l b (b + k)) (i - b) = y := ⟨_, rfl⟩
    obtain ⟨q, hqq⟩ : ∃ y, p1 ++ [X] = y := ⟨_, rfl⟩
    have hqe : p ++ Tp (seg l b e) (i - b) = q := by rw [hTp, ← List.append_assoc, hp1, hX, hqq]
    rw [hqe] at hq ⊢
    have HQ := Lib.hid hqq
    have HQL := Lib.hid (show p1.length + 1 = q.length by rw [← hqq, List.length_append]; rfl)
    have HQ64 := Lib.hid hq
    rw [hX] at CRX hXl
    have HXL := Lib.hid hXl
    have hrec := IH.out k hlt b (b + k) bi (bi + (k : Int)) x p w hbi (by omega) rfl (by omega) hbi2 (by omega) (by omega) (by rw [hp1]; have := HQL.out; omega) HS0
    rw [hp1] at hrec
    have HREC := Lib.hid hrec
    have him' : (i : Int) < bi + (k : Int) := by omega
    have hkb : (k : Int) ≤ 4398046511104 := by omega
    have hmb : bi + (k : Int) ≤ 4398046511104 := by omega
    have c0 : w.cell? ⟨gi, 0, none⟩ = some (.int .i64 (i : Int)) := by rw [row_cell (HS0.row 3 rfl)]; rfl
    have c1 : w.cell? ⟨gw, 0, none⟩ = some (.func (.func 50) #[] #[.pointer (some ⟨gi, 0, none⟩), .pointer (some ⟨gw, 0, none⟩), .pointer (some ⟨gp, 0, none⟩), .pointer (some ⟨gl, 0, none⟩)]) := by rw [row_cell (HS0.row 2 rfl)]; rfl
    clear IH hTl h2 hk hkT hT1 hT2 hR0 hTp hR1 hs1 hX hp1 hqq hqe hrec hXl hsl hbi hei hen him
    go_enter Tryd.func50, Tryd.ntmps50
    go_wp2_with fail
    (with_reducible refine Calls.mono (CH.out w) ?_)
    rintro e wh ⟨rfl, rfl⟩
    go_wp2_with fail
    (with_reducible refine Calls.mono HREC.out ?_)
    rintro e' w1 ⟨rfl, hx1⟩
    clear HREC c0 c1 HS0
    obtain ⟨x1, HS1⟩ := hx1
    obtain ⟨Ax1, cx1, rfl, _⟩ := (HS1.own 1 rfl).sl
    go_wp2
    refine Cop.region_ord (fun w' => Sep B w0 w' [.row gp #[.slice Ax1 p1.length cx1] 28, .row gl #[.slice A l.length c] 28]) 8 (.take 0 (.take 1 (.take 2 (.take 3 (.take 4 (.run 5 (.run 6 (.run 7 (.run 8 Cop.Ord.fin))))))))) (by kernel_rfl) (by kernel_rfl) (fun _ _ d _ _ h => by cases d <;> exact h) ?_
    intro wa hda
    have HSa := HS1.keep hda
    have HTa : Sep B w0 wa [.row gp #[.slice Ax1 p1.length cx1] 28, .row gl #[.slice A l.length c] 28] := HSa.sub (by repeat (first | exact List.nil_sublist _ | exact List.Sublist.refl _ | apply List.Sublist.cons_cons | apply List.Sublist.cons))
    (repeat (first | (refine Cop.og_skip rfl rfl HTa _ (by (simp only [Act.put, List.setIfInBounds_toArray, List.set_cons_succ, List.set_cons_zero]; rfl)) ?_) | (refine Cop.og_take rfl rfl HTa ?_; apply Exists.intro; refine ⟨fun w9 h9 => ?_, _, by (simp only [Act.put, List.setIfInBounds_toArray, List.set_cons_succ, List.set_cons_zero]; rfl), ?_⟩; (have c1 := (row_cell (h9.row 0 rfl) 0).trans (show (#[Value.slice Ax1 p1.length cx1] : Array Value)[0]? = some (.slice Ax1 p1.length cx1) from rfl); have c2 := (row_cell (h9.row 1 rfl) 0).trans (show (#[Value.slice A l.length c] : Array Value)[0]? = some (.slice A l.length c) from rfl); have e1 := HSLX.out w9; go_simp; with_reducible rfl))))
    refine Cop.og_run rfl rfl ?_
    refine ow_call 21 _ _ (fun w' => Below wa.heap.size wa w') (by go_simp) (CRX.out wa HSa.hb (HRX.out wa (HSa.rd 5 rfl))) ?_
    intro wb bb
    have HSb := HSa.keep bb
    have HTb := HTa.keep bb
    refine ⟨fun _ => HTb, ?_⟩
    (repeat (first | (refine Cop.og_skip rfl rfl HTb _ (by (simp only [Act.put, List.setIfInBounds_toArray, List.set_cons_succ, List.set_cons_zero]; rfl)) ?_) | (refine Cop.og_take rfl rfl HTb ?_; apply Exists.intro; refine ⟨fun w9 h9 => ?_, _, by (simp only [Act.put, List.setIfInBounds_toArray, List.set_cons_succ, List.set_cons_zero]; rfl), ?_⟩; (go_simp; with_reducible rfl))))
    refine Cop.og_run rfl rfl ?_
    refine ow_bd HSb _ rfl X HXL.out rfl ?_
    intro g5 wc HSc
    have HTc : Sep B w0 wc [.row gp #[.slice Ax1 p1.length cx1] 28, .row gl #[.slice A l.length c] 28] := HSc.sub (by repeat (first | exact List.nil_sublist _ | exact List.Sublist.refl _ | apply List.Sublist.cons_cons | apply List.Sublist.cons))
    refine ⟨fun _ => HTc, ?_⟩
    (repeat (first | (refine Cop.og_skip rfl rfl HTc _ (by (simp only [Act.put, List.setIfInBounds_toArray, List.set_cons_succ, List.set_cons_zero]; rfl)) ?_) | (refine Cop.og_take rfl rfl HTc ?_; apply Exists.intro; refine ⟨fun w9 h9 => ?_, _, by (simp only [Act.put, List.setIfInBounds_toArray, List.set_cons_succ, List.set_cons_zero]; rfl), ?_⟩; (go_simp; with_reducible rfl))))
    refine Cop.og_run rfl rfl ?_
    refine ow_apd HSc 2 rfl rfl (HSc.own 0 rfl).rd rfl rfl q.length q HQL.out HQ.out (by have := HQ64.out; omega) ?_
    intro x6 wd HSd
    obtain ⟨A6, c6, rfl, _⟩ := (HSd.own 2 rfl).sl
    have HTd : Sep B w0 wd [.row gp #[.slice Ax1 p1.length cx1] 28, .row gl #[.slice A l.length c] 28] := HSd.sub (by repeat (first | exact List.nil_sublist _ | exact List.Sublist.refl _ | apply List.Sublist.cons_cons | apply List.Sublist.cons))
    refine ⟨fun _ => HTd, ?_⟩
    (repeat (first | (refine Cop.og_skip rfl rfl HTd _ (by (simp only [Act.put, List.setIfInBounds_toArray, List.set_cons_succ, List.set_cons_zero]; rfl)) ?_) | (refine Cop.og_take rfl rfl HTd ?_; apply Exists.intro; refine ⟨fun w9 h9 => ?_, _, by (simp only [Act.put, List.setIfInBounds_toArray, List.set_cons_succ, List.set_cons_zero]; rfl), ?_⟩; (go_simp; with_reducible rfl))))
    refine Cop.og_run rfl rfl ?_
    refine ow_stc HSd 1 rfl 28 _ _ rfl (by kernel_rfl) 0 (by simp) (y := .slice A6 q.length c6) rfl rfl rfl rfl ?_
    intro we HSe
    refine ⟨fun h => absurd rfl h, ?_⟩
    refine og_fin ?_
    clear HSa HSb HSc HSd HTa HTb HTc HTd
    (go_wp2; refine bodyPost_ret (results_none rfl _ _ _) rfl ?_)
    exact ⟨rfl, .slice A6 q.length c6, HSe.tail⟩
  · have hTp := hT2 him
    obtain ⟨A1, c1, hR1, hs1, _, _⟩ := rd_seg hR0 HL.out b (b + k) (by omega) (by omega)
    have HRX := Lib.hid hR1
    have HSLX := Lib.hid (fun W => hs1 W .i64 .i64)
    rw [show ((b + k : Nat) : Int) = bi + (k : Int) from by omega, ← hbi] at HSLX
    have hXl := HRL.out _ (seg_all HL.out b (b + k))
    have hsl := seg_length l b (b + k) (by omega)
    have CRX := Lib.hid (fun w' (hb : Below B w0 w') (hv : Rd w' (.slice A1 (b + k - b) c1) (b + k - b) 32 (dcs (seg l b (b + k)))) => CR.out (seg l b (b + k)) w' _ hb (seg_all HL.out _ _) (by omega) (by rw [hsl]; exact hv))
    obtain ⟨X, hX⟩ : ∃ y, Rt (seg l b (b + k)) = y := ⟨_, rfl⟩
    obtain ⟨p1, hp1⟩ : ∃ y, p ++ Tp (seg l (b + k) e) (i - (b + k)) = y := ⟨_, rfl⟩
    obtain ⟨q, hqq⟩ : ∃ y, p1 ++ [X] = y := ⟨_, rfl⟩
    have hqe : p ++ Tp (seg l b e) (i - b) = q := by rw [hTp, show i - b - k = i - (b + k) from by omega, ← List.append_assoc, hp1, hX, hqq]
    rw [hqe] at hq ⊢
    have HQ := Lib.hid hqq
    have HQL := Lib.hid (show p1.length + 1 = q.length by rw [← hqq, List.length_append]; rfl)
    have HQ64 := Lib.hid hq
    rw [hX] at CRX hXl
    have HXL := Lib.hid hXl
    have hrec := IH.out (n - k) (by omega) (b + k) e (bi + (k : Int)) ei x p w (by omega) hei (by omega) (by omega) (by omega) hib hbl (by rw [hp1]; have := HQL.out; omega) HS0
    rw [hp1] at hrec
    have HREC := Lib.hid hrec
    have him' : ¬ (i : Int) < bi + (k : Int) := by omega
    have hkb : (k : Int) ≤ 4398046511104 := by omega
    have hmb : bi + (k : Int) ≤ 4398046511104 := by omega
    have c0 : w.cell? ⟨gi, 0, none⟩ = some (.int .i64 (i : Int)) := by rw [row_cell (HS0.row 3 rfl)]; rfl
    have c1 : w.cell? ⟨gw, 0, none⟩ = some (.func (.func 50) #[] #[.pointer (some ⟨gi, 0, none⟩), .pointer (some ⟨gw, 0, none⟩), .pointer (some ⟨gp, 0, none⟩), .pointer (some ⟨gl, 0, none⟩)]) := by rw [row_cell (HS0.row 2 rfl)]; rfl
    clear IH hTl h2 hk hkT hT1 hT2 hR0 hTp hR1 hs1 hX hp1 hqq hqe hrec hXl hsl hbi hei hen him
    go_enter Tryd.func50, Tryd.ntmps50
    go_wp2_with fail
    (with_reducible refine Calls.mono (CH.out w) ?_)
    rintro e wh ⟨rfl, rfl⟩
    go_wp2_with fail
    (with_reducible refine Calls.mono HREC.out ?_)
    rintro e' w1 ⟨rfl, hx1⟩
    clear HREC c0 c1 HS0
    obtain ⟨x1, HS1⟩ := hx1
    obtain ⟨Ax1, cx1, rfl, _⟩ := (HS1.own 1 rfl).sl
    go_wp2
    refine Cop.region_ord (fun w' => Sep B w0 w' [.row gp #[.slice Ax1 p1.length cx1] 28, .row gl #[.slice A l.length c] 28]) 8 (.take 0 (.take 1 (.take 2 (.take 3 (.take 4 (.run 5 (.run 6 (.run 7 (.run 8 Cop.Ord.fin))))))))) (by kernel_rfl) (by kernel_rfl) (fun _ _ d _ _ h => by cases d <;> exact h) ?_
    intro wa hda
    have HSa := HS1.keep hda
    have HTa : Sep B w0 wa [.row gp #[.slice Ax1 p1.length cx1] 28, .row gl #[.slice A l.length c] 28] := HSa.sub (by repeat (first | exact List.nil_sublist _ | exact List.Sublist.refl _ | apply List.Sublist.cons_cons | apply List.Sublist.cons))
    (repeat (first | (refine Cop.og_skip rfl rfl HTa _ (by (simp only [Act.put, List.setIfInBounds_toArray, List.set_cons_succ, List.set_cons_zero]; rfl)) ?_) | (refine Cop.og_take rfl rfl HTa ?_; apply Exists.intro; refine ⟨fun w9 h9 => ?_, _, by (simp only [Act.put, List.setIfInBounds_toArray, List.set_cons_succ, List.set_cons_zero]; rfl), ?_⟩; (have c1 := (row_cell (h9.row 0 rfl) 0).trans (show (#[Value.slice Ax1 p1.length cx1] : Array Value)[0]? = some (.slice Ax1 p1.length cx1) from rfl); have c2 := (row_cell (h9.row 1 rfl) 0).trans (show (#[Value.slice A l.length c] : Array Value)[0]? = some (.slice A l.length c) from rfl); have e1 := HSLX.out w9; go_simp; with_reducible rfl))))
    refine Cop.og_run rfl rfl ?_
    refine ow_call 21 _ _ (fun w' => Below wa.heap.size wa w') (by go_simp) (CRX.out wa HSa.hb (HRX.out wa (HSa.rd 5 rfl))) ?_
    intro wb bb
    have HSb := HSa.keep bb
    have HTb := HTa.keep bb
    refine ⟨fun _ => HTb, ?_⟩
    (repeat (first | (refine Cop.og_skip rfl rfl HTb _ (by (simp only [Act.put, List.setIfInBounds_toArray, List.set_cons_succ, List.set_cons_zero]; rfl)) ?_) | (refine Cop.og_take rfl rfl HTb ?_; apply Exists.intro; refine ⟨fun w9 h9 => ?_, _, by (simp only [Act.put, List.setIfInBounds_toArray, List.set_cons_succ, List.set_cons_zero]; rfl), ?_⟩; (go_simp; with_reducible rfl))))
    refine Cop.og_run rfl rfl ?_
    refine ow_bd HSb _ rfl X HXL.out rfl ?_
    intro g5 wc HSc
    have HTc : Sep B w0 wc [.row gp #[.slice Ax1 p1.length cx1] 28, .row gl #[.slice A l.length c] 28] := HSc.sub (by repeat (first | exact List.nil_sublist _ | exact List.Sublist.refl _ | apply List.Sublist.cons_cons | apply List.Sublist.cons))
    refine ⟨fun _ => HTc, ?_⟩
    (repeat (first | (refine Cop.og_skip rfl rfl HTc _ (by (simp only [Act.put, List.setIfInBounds_toArray, List.set_cons_succ, List.set_cons_zero]; rfl)) ?_) | (refine Cop.og_take rfl rfl HTc ?_; apply Exists.intro; refine ⟨fun w9 h9 => ?_, _, by (simp only [Act.put, List.setIfInBounds_toArray, List.set_cons_succ, List.set_cons_zero]; rfl), ?_⟩; (go_simp; with_reducible rfl))))
    refine Cop.og_run rfl rfl ?_
    refine ow_apd HSc 2 rfl rfl (HSc.own 0 rfl).rd rfl rfl q.length q HQL.out HQ.out (by have := HQ64.out; omega) ?_
    intro x6 wd HSd
    obtain ⟨A6, c6, rfl, _⟩ := (HSd.own 2 rfl).sl
    have HTd : Sep B w0 wd [.row gp #[.slice Ax1 p1.length cx1] 28, .row gl #[.slice A l.length c] 28] := HSd.sub (by repeat (first | exact List.nil_sublist _ | exact List.Sublist.refl _ | apply List.Sublist.cons_cons | apply List.Sublist.cons))
    refine ⟨fun _ => HTd, ?_⟩
    (repeat (first | (refine Cop.og_skip rfl rfl HTd _ (by (simp only [Act.put, List.setIfInBounds_toArray, List.set_cons_succ, List.set_cons_zero]; rfl)) ?_) | (refine Cop.og_take rfl rfl HTd ?_; apply Exists.intro; refine ⟨fun w9 h9 => ?_, _, by (simp only [Act.put, List.setIfInBounds_toArray, List.set_cons_succ, List.set_cons_zero]; rfl), ?_⟩; (go_simp; with_reducible rfl))))
    refine Cop.og_run rfl rfl ?_
    refine ow_stc HSd 1 rfl 28 _ _ rfl (by kernel_rfl) 0 (by simp) (y := .slice A6 q.length c6) rfl rfl rfl rfl ?_
    intro we HSe
    refine ⟨fun h => absurd rfl h, ?_⟩
    refine og_fin ?_
    clear HSa HSb HSc HSd HTa HTb HTc HTd
    (go_wp2; go_end0)
    exact ⟨rfl, .slice A6 q.length c6, HSe.tail⟩
end Go.Proofs.YtbjbdnlgoifamaaDoor
namespace Go.Proofs.YtbjbdnlgoifamaaDoor
open Go.RowKit Cop
set_option linter.unusedVariables false
set_option linter.unusedSimpArgs false
section
variable {P : Program} {w0 w : World} {B : Nat} {R : List Pc} {o : Oper} {a : Act}
/-- A scalar parameter that is boxed. -/
theorem wl_bx1 {ops : Array Oper} {rest : List Oper} {Q : Exit → Act → World → Prop} (HS : Sep B w0 w R) (hgd : o.guard = none) (ty : TypeId) (x : Operand) (hop : o.op = .box ty x) (v : Value) (hv : v.cells = #[v]) (hx : a.eval x = v)
    (h : ∀ g w1, Sep B w0 w1 (.row g #[v] ty :: R) → wpList P ops Q rest (a.put o.dst (.pointer (some ⟨g, 0, none⟩))) w1) : wpList P ops Q (o :: rest) a w := by
  refine wpList_plain hgd fun K hK => ?_
  refine ow_val (.pointer (some ⟨w.heap.size, 0, none⟩)) (w.alloc (.cells #[v] ty)) ?_ (hK _ _ (h _ _ (HS.alloc #[v] ty)))
  simp only [execOp, hop, hx]
  simp [Instr.box, Result.andThen, newVar, newRow, hv]
theorem wl_al1 {ops : Array Oper} {rest : List Oper} {Q : Exit → Act → World → Prop} (HS : Sep B w0 w R) (hgd : o.guard = none) (ty : TypeId) (hop : o.op = .alloc ty) (v : Value) (hv : v.cells = #[v]) (hz : (P.info? ty).map (·.zero) = some (some v))
    (h : ∀ g w1, Sep B w0 w1 (.row g #[v] ty :: R) → wpList P ops Q rest (a.put o.dst (.pointer (some ⟨g, 0, none⟩))) w1) : wpList P ops Q (o :: rest) a w := by
  refine wpList_plain hgd fun K hK => ?_
  obtain ⟨i, hi, hz⟩ := Option.map_eq_some_iff.1 hz
  have hzz : (zeroValue ty).run P w = .ok v w := by simp [zeroValue, typeInfo, hi, hz]
  refine ow_val (.pointer (some ⟨w.heap.size, 0, none⟩)) (w.alloc (.cells #[v] ty)) ?_ (hK _ _ (h _ _ (HS.alloc #[v] ty)))
  simp only [execOp, hop]
  simp [Instr.alloc, Sem.run_bind, hzz, Result.andThen, newVar, newRow, hv]
end
set_option maxRecDepth 100000 in
set_option maxHeartbeats 4000000 in
theorem incl_bad (A : Option Addr) (m c : Nat) (i n : Int) (w : World) (hm : m ≤ 4398046511104) (hno : ¬ (1 ≤ n ∧ n ≤ (m : Int) ∧ 0 ≤ i ∧ i < n)) : Gives 23 #[.slice A m c, .int .i64 i, .int .i64 n] w (.tuple #[.slice none 0 0, .int .i64 40]) := by
  have HS0 := Sep.start w
  have HNO := Lib.hid hno
  clear hno
  go_enter Tryd.func23, Tryd.ntmps23
  go_wp2_with (first | refine wl_bx1 HS0 rfl 28 _ rfl (.slice A m c) rfl rfl ?_)
  intro g1 w1 HS1
  go_wp2_with (first | refine wl_bx1 HS1 rfl 3 _ rfl (.int .i64 i) rfl rfl ?_)
  intro g2 w2 HS2
  have c0 := (row_cell (HS2.row 1 rfl) 0).trans (show (#[Value.slice A m c] : Array Value)[0]? = some (.slice A m c) from rfl)
  have c1 := (row_cell (HS2.row 0 rfl) 0).trans (show (#[Value.int .i64 i] : Array Value)[0]? = some (.int .i64 i) from rfl)
  rcases (show n < 1 ∨ (¬ n < 1 ∧ (m : Int) < n) ∨ (¬ n < 1 ∧ ¬ (m : Int) < n ∧ i < 0) ∨ (¬ n < 1 ∧ ¬ (m : Int) < n ∧ ¬ i < 0 ∧ n ≤ i) from by have := HNO.out; omega) with h1 | ⟨h1, h2⟩ | ⟨h1, h2, h3⟩ | ⟨h1, h2, h3, h4⟩
  all_goals
    go_wp2
    go_ret2
    exact ⟨rfl, HS2.hb⟩
set_option maxRecDepth 100000 in
set_option maxHeartbeats 4000000 in
theorem incl_ok (l : List (List UInt8)) (v : Value) (i n : Nat) (w : World) (hT : Tab w) (hl : AllD l) (hll : l.length ≤ 4398046511104) (hR : Rd w v l.length 32 (dcs l)) (hin : i < n) (hnl : n ≤ l.length) :
    Calls Tryd.prog 23 #[v, .int .i64 i, .int .i64 n] w fun e w' => ∃ x, e = .returned (.tuple #[x, .int .i64 0]) ∧ Below w.heap.size w w' ∧ Ow w' w.heap.size 24 32 x (tpath nodeD (sha []) (l.take n) i).length (dcs (tpath nodeD (sha []) (l.take n) i)) := by
  have htl := tpath_len64 (l.take n) (by rw [List.length_take]; omega) i
  have HS0 := (Sep.start w).arg0 hR
  obtain ⟨A, c, rfl, _, _⟩ := hR.shape
  have CI := Lib.hid (fun gp gw gi gl w1 (HS : Sep w.heap.size w w1 (incl gp gw gi gl (.slice none 0 0) [] l i A c [])) => incl_gen l (root nodeD (sha [])) (tpath nodeD (sha [])) A c w.heap.size w i gp gw gi gl [] hl hll root_length (fun l i h => tpath_one _ _ h) (fun l i h h2 => tpath_lt _ _ h h2) (fun l i h h2 => tpath_ge _ _ h h2)
    (fun l' w' v' hb h1 h2 h3 => root_a l' v' w' (hT.below hb) h1 h2 h3) n 0 n 0 (n : Int) (.slice none 0 0) [] w1 rfl rfl (by omega) (by omega) (by omega) hin hnl (by rw [List.nil_append, seg_whole, Nat.sub_zero]; omega) HS)
  simp only [List.nil_append, seg_whole, Nat.sub_zero] at CI
  obtain ⟨q, hq⟩ : ∃ q, tpath nodeD (sha []) (l.take n) i = q := ⟨_, rfl⟩
  rw [hq] at CI htl ⊢
  have k1 : ¬ (n : Int) < 1 := by omega
  have k2 : ¬ (l.length : Int) < (n : Int) := by omega
  have k3 : ¬ (i : Int) < 0 := by omega
  have k4 : ¬ (n : Int) ≤ (i : Int) := by omega
  clear hR hq hl
  go_enter Tryd.func23, Tryd.ntmps23
  go_wp2_with (first | refine wl_bx1 HS0 rfl 28 _ rfl (.slice A l.length c) rfl rfl ?_)
  intro gl w1 HS1
  go_wp2_with (first | refine wl_bx1 HS1 rfl 3 _ rfl (.int .i64 (i : Int)) rfl rfl ?_)
  intro gi w2 HS2
  have c0 := (row_cell (HS2.row 1 rfl) 0).trans (show (#[Value.slice A l.length c] : Array Value)[0]? = some (.slice A l.length c) from rfl)
  have c1 := (row_cell (HS2.row 0 rfl) 0).trans (show (#[Value.int .i64 (i : Int)] : Array Value)[0]? = some (.int .i64 (i : Int)) from rfl)
  clear HS0 HS1
  go_wp2_with (first | refine wl_al1 HS2 rfl 28 rfl (.slice none 0 0) rfl (by kernel_rfl) ?_)
  intro gp w3 HS3
  clear c0 c1
  go_wp2_with (first | refine wl_al1 HS3 rfl 90 rfl .nilFunc rfl (by kernel_rfl) ?_)
  intro gw w4 HS4
  go_wp2_with (first | refine wl_stc HS4 0 rfl rfl 90 _ _ rfl (by kernel_rfl) 0 (by simp) (y := .func (.func 50) #[] #[.pointer (some ⟨gi, 0, none⟩), .pointer (some ⟨gw, 0, none⟩), .pointer (some ⟨gp, 0, none⟩), .pointer (some ⟨gl, 0, none⟩)]) rfl rfl rfl rfl ?_)
  intro w5 HS5
  have HS6 : Sep w.heap.size w w5 (incl gp gw gi gl (.slice none 0 0) [] l i A c []) := (Sep.ownNil HS5 24 32).front 2
  have HR6 := Lib.hid (CI.out gp gw gi gl w5 HS6)
  have c0 : w5.cell? ⟨gw, 0, none⟩ = some (.func (.func 50) #[] #[.pointer (some ⟨gi, 0, none⟩), .pointer (some ⟨gw, 0, none⟩), .pointer (some ⟨gp, 0, none⟩), .pointer (some ⟨gl, 0, none⟩)]) := by rw [row_cell (HS6.row 2 rfl)]; rfl
  clear HS2 HS3 HS4 HS5 HS6
  go_wp2_with fail
  (with_reducible refine Calls.mono HR6.out ?_)
  rintro e' w6 ⟨rfl, x6, HS7⟩
  clear c0
  obtain ⟨A6, c6, rfl, _⟩ := (HS7.own 1 rfl).sl
  have c0 : w6.cell? ⟨gp, 0, none⟩ = some (.slice A6 q.length c6) := by rw [row_cell (HS7.row 0 rfl)]; rfl
  go_wp2
  go_ret2
  exact ⟨_, rfl, HS7.hb, HS7.own 1 rfl⟩
end Go.Proofs.YtbjbdnlgoifamaaDoor
namespace Go.Proofs.YtbjbdnlgoifamaaDoor
open Go.RowKit Cop
set_option linter.unusedVariables false
set_option linter.unusedSimpArgs false
theorem tsteps_all : ∀ (n : Nat) (l : List (List UInt8)), AllD l → l.length = n → ∀ m wh, AllD (tsteps nodeD (sha []) l m wh) := by
  intro n
  induction n using Nat.strongRecOn with
  | ind n ih =>
    intro l hl hn m wh
    by_cases h : l.length < 2 ∨ m = l.length
    · rw [tsteps_end _ _ h]
      cases wh
      · intro x hx; simp at hx; subst hx; exact root_length _ hl
      · intro x hx; simp at hx
    · have h2 : 2 ≤ l.length := by omega
      have h1 := hf_lt h2
      have hp := hf_pos l.length
      by_cases hi : m ≤ hf l.length
      · rw [tsteps_le _ _ h2 (by omega) hi]
        intro x hx
        rcases List.mem_append.1 hx with hx | hx
        · exact ih (hf l.length) (by omega) _ (hl.take _) (by rw [List.length_take, Nat.min_eq_left (by omega)]) _ _ x hx
        · simp at hx; subst hx; exact root_length _ (hl.drop _)
      · rw [tsteps_gt _ _ h2 (by omega) hi]
        intro x hx
        rcases List.mem_append.1 hx with hx | hx
        · exact ih (l.length - hf l.length) (by omega) _ (hl.drop _) (by rw [List.length_drop]) _ _ x hx
        · simp at hx; subst hx; exact root_length _ (hl.take _)
theorem tsteps_len64 (l : List (List UInt8)) (hll : l.length ≤ 4398046511104) (m : Nat) (wh : Bool) (h1 : 1 ≤ m) (hm : m ≤ l.length) : (tsteps nodeD (sha []) l m wh).length ≤ 64 := by
  obtain ⟨c, r, e1, e2, _, e4, e5⟩ := steps_tsteps nodeD (sha []) l.length l rfl m h1 hm
  have hs := steps_len 42 l.length m (by rw [show 2 ^ 42 = 4398046511104 from rfl]; exact hll)
  cases wh with
  | false => rw [e1]; simp only [List.length_cons]; omega
  | true =>
    cases hw : (steps m l.length).2 with
    | true => rw [(e4 hw).2]; omega
    | false => rw [e5 hw]; simp only [List.length_cons]; omega
/-- What the inner function of Consistency knows. -/
def cons (gp gw gm gl : Nat) (x : Value) (p l : List (List UInt8)) (m : Nat) (A : Option Addr) (c : Nat) (R : List Pc) : List Pc :=
  .row gp #[x] 28 :: .own x 24 32 p.length (dcs p) :: .row gw #[.func (.func 48) #[] #[.pointer (some ⟨gm, 0, none⟩), .pointer (some ⟨gp, 0, none⟩), .pointer (some ⟨gl, 0, none⟩), .pointer (some ⟨gw, 0, none⟩)]] 90
    :: .row gm #[.int .i64 (m : Int)] 3 :: .row gl #[.slice A l.length c] 28 :: .rd (.slice A l.length c) l.length 32 (dcs l) :: R
set_option maxRecDepth 100000 in
set_option maxHeartbeats 8000000 in
theorem cons_gen (l : List (List UInt8)) (Rt : List (List UInt8) → List UInt8) (Ts : List (List UInt8) → Nat → Bool → List (List UInt8)) (A : Option Addr) (c : Nat) (B : Nat) (w0 : World) (m gp gw gm gl : Nat) (R : List Pc) (hl : AllD l) (hll : l.length ≤ 4398046511104)
    (hrl : ∀ l, AllD l → (Rt l).length = 32) (h1 : ∀ l, Ts l l.length true = []) (h1' : ∀ l, Ts l l.length false = [Rt l])
    (hlt : ∀ l m wh, 2 ≤ l.length → m ≠ l.length → m ≤ hf l.length → Ts l m wh = Ts (l.take (hf l.length)) m wh ++ [Rt (l.drop (hf l.length))])
    (hge : ∀ l m wh, 2 ≤ l.length → m ≠ l.length → ¬ m ≤ hf l.length → Ts l m wh = Ts (l.drop (hf l.length)) (m - hf l.length) false ++ [Rt (l.take (hf l.length))])
    (hCR : ∀ l' w' v', Below B w0 w' → AllD l' → l'.length ≤ 4398046511104 → Rd w' v' l'.length 32 (dcs l') → Gives 21 #[v'] w' (.agg (bv (Rt l')))) :
    ∀ (n b e : Nat) (bi ei : Int) (x : Value) (p : List (List UInt8)) (w : World), bi = (b : Int) → ei = (e : Int) → e = b + n → 1 ≤ n → b < m → m ≤ e → e ≤ l.length → (p ++ Ts (seg l b e) (m - b) (decide (b = 0))).length ≤ 1000 →
      Sep B w0 w (cons gp gw gm gl x p l m A c R) →
      Calls Tryd.prog 48 #[.int .i64 bi, .int .i64 ei, .pointer (some ⟨gm, 0, none⟩), .pointer (some ⟨gp, 0, none⟩), .pointer (some ⟨gl, 0, none⟩), .pointer (some ⟨gw, 0, none⟩)] w fun e' w' => e' = .returned (.tuple #[]) ∧ ∃ x', Sep B w0 w' (cons gp gw gm gl x' (p ++ Ts (seg l b e) (m - b) (decide (b = 0))) l m A c R) := by
  have HL := Lib.hid hl
  have HRL := Lib.hid hrl
  have H1 := Lib.hid h1
  have H1' := Lib.hid h1'
  have HLT := Lib.hid hlt
  have HGE := Lib.hid hge
  have CR := Lib.hid hCR
  clear hl hrl h1 h1' hlt hge hCR
  intro n
  induction n using Nat.strongRecOn with
  | ind n ih =>
  intro b e bi ei x p w hbi hei hen hn hbm hme hbl hq HS0
  have IH := Lib.hid ih
  clear ih
  have hTl := seg_length l b e hbl
  have hb0 : 0 ≤ bi := by omega
  have he0 : ei ≤ 4398046511104 := by omega
  have hbe : bi < ei := by omega
  have he1 : 0 ≤ ei := by omega
  have hb1 : bi ≤ 4398046511104 := by omega
  have hm1 : m ≤ 4398046511104 := by omega
  have hR0 : Rd w (.slice A l.length c) l.length 32 (dcs l) := HS0.rd 5 rfl
  have cm : w.cell? ⟨gm, 0, none⟩ = some (.int .i64 (m : Int)) := by rw [row_cell (HS0.row 3 rfl)]; rfl
  by_cases hone : m = e
  · have hme' : (m : Int) = ei := by omega
    have hmb : m - b = (seg l b e).length := by omega
    by_cases hbz : b = 0
    · have hbz' : ¬ 0 < bi := by omega
      rw [hmb, show decide (b = 0) = true from by simpa using hbz, H1.out, List.append_nil]
      clear IH hTl hbi hei hen hone hR0 hq hmb hbz
      go_enter Tryd.func48, Tryd.ntmps48
      go_wp2
      refine bodyPost_ret (results_none rfl _ _ _) rfl ?_
      exact ⟨rfl, x, HS0⟩
    · have hbz' : 0 < bi := by omega
      rw [hmb, show decide (b = 0) = false from by simpa using hbz, H1'.out] at hq ⊢
      obtain ⟨A1, c1, hR1, hs1, _, _⟩ := rd_seg hR0 HL.out b e (by omega) hbl
      have HRX := Lib.hid hR1
      have HSLX := Lib.hid (fun W => hs1 W .i64 .i64)
      rw [← hbi, ← hei] at HSLX
      have hXl := HRL.out _ (seg_all HL.out b e)
      have CRX := Lib.hid (fun w' (hb : Below B w0 w') (hv : Rd w' (.slice A1 (e - b) c1) (e - b) 32 (dcs (seg l b e))) => CR.out (seg l b e) w' _ hb (seg_all HL.out _ _) (by omega) (by rw [hTl]; exact hv))
      obtain ⟨X, hX⟩ : ∃ y, Rt (seg l b e) = y := ⟨_, rfl⟩
      obtain ⟨p1, hp1⟩ : ∃ y, p = y := ⟨_, rfl⟩
      rw [hp1, hX] at hq ⊢
      obtain ⟨q, hqq⟩ : ∃ y, p1 ++ [X] = y := ⟨_, rfl⟩
      rw [hqq] at hq ⊢
      have HQ := Lib.hid hqq
      have HQL := Lib.hid (show p1.length + 1 = q.length by rw [← hqq, List.length_append]; rfl)
      have HQ64 := Lib.hid hq
      rw [hX] at CRX hXl
      have HXL := Lib.hid hXl
      rw [hp1] at HS0
      have hx1 : ∃ x', Sep B w0 w (cons gp gw gm gl x' p1 l m A c R) := ⟨x, HS0⟩
      clear IH hTl hbi hei hen hone hR0 hq hmb hbz hX hp1 hqq hXl hR1 hs1 HS0 hme hbm hn hbl
      go_enter Tryd.func48, Tryd.ntmps48
      obtain ⟨x1, HS1⟩ := hx1
      obtain ⟨Ax1, cx1, rfl, _⟩ := (HS1.own 1 rfl).sl
      go_wp2
      refine Cop.region_ord (fun w' => Sep B w0 w' [.row gp #[.slice Ax1 p1.length cx1] 28, .row gl #[.slice A l.length c] 28]) 8 (.take 0 (.take 1 (.take 2 (.take 3 (.take 4 (.run 5 (.run 6 (.run 7 (.run 8 Cop.Ord.fin))))))))) (by kernel_rfl) (by kernel_rfl) (fun _ _ d _ _ h => by cases d <;> exact h) ?_
      intro wa hda
      have HSa := HS1.keep hda
      have HTa : Sep B w0 wa [.row gp #[.slice Ax1 p1.length cx1] 28, .row gl #[.slice A l.length c] 28] := HSa.sub (by repeat (first | exact List.nil_sublist _ | exact List.Sublist.refl _ | apply List.Sublist.cons_cons | apply List.Sublist.cons))
      (repeat (first | (refine Cop.og_skip rfl rfl HTa _ (by (simp only [Act.put, List.setIfInBounds_toArray, List.set_cons_succ, List.set_cons_zero]; rfl)) ?_) | (refine Cop.og_take rfl rfl HTa ?_; apply Exists.intro; refine ⟨fun w9 h9 => ?_, _, by (simp only [Act.put, List.setIfInBounds_toArray, List.set_cons_succ, List.set_cons_zero]; rfl), ?_⟩; (have c1 := (row_cell (h9.row 0 rfl) 0).trans (show (#[Value.slice Ax1 p1.length cx1] : Array Value)[0]? = some (.slice Ax1 p1.length cx1) from rfl); have c2 := (row_cell (h9.row 1 rfl) 0).trans (show (#[Value.slice A l.length c] : Array Value)[0]? = some (.slice A l.length c) from rfl); have e1 := HSLX.out w9; go_simp; with_reducible rfl))))
      refine Cop.og_run rfl rfl ?_
      refine ow_call 21 _ _ (fun w' => Below wa.heap.size wa w') (by go_simp) (CRX.out wa HSa.hb (HRX.out wa (HSa.rd 5 rfl))) ?_
      intro wb bb
      have HSb := HSa.keep bb
      have HTb := HTa.keep bb
      refine ⟨fun _ => HTb, ?_⟩
      (repeat (first | (refine Cop.og_skip rfl rfl HTb _ (by (simp only [Act.put, List.setIfInBounds_toArray, List.set_cons_succ, List.set_cons_zero]; rfl)) ?_) | (refine Cop.og_take rfl rfl HTb ?_; apply Exists.intro; refine ⟨fun w9 h9 => ?_, _, by (simp only [Act.put, List.setIfInBounds_toArray, List.set_cons_succ, List.set_cons_zero]; rfl), ?_⟩; (go_simp; with_reducible rfl))))
      refine Cop.og_run rfl rfl ?_
      refine ow_bd HSb _ rfl X HXL.out rfl ?_
      intro g5 wc HSc
      have HTc : Sep B w0 wc [.row gp #[.slice Ax1 p1.length cx1] 28, .row gl #[.slice A l.length c] 28] := HSc.sub (by repeat (first | exact List.nil_sublist _ | exact List.Sublist.refl _ | apply List.Sublist.cons_cons | apply List.Sublist.cons))
      refine ⟨fun _ => HTc, ?_⟩
      (repeat (first | (refine Cop.og_skip rfl rfl HTc _ (by (simp only [Act.put, List.setIfInBounds_toArray, List.set_cons_succ, List.set_cons_zero]; rfl)) ?_) | (refine Cop.og_take rfl rfl HTc ?_; apply Exists.intro; refine ⟨fun w9 h9 => ?_, _, by (simp only [Act.put, List.setIfInBounds_toArray, List.set_cons_succ, List.set_cons_zero]; rfl), ?_⟩; (go_simp; with_reducible rfl))))
      refine Cop.og_run rfl rfl ?_
      refine ow_apd HSc 2 rfl rfl (HSc.own 0 rfl).rd rfl rfl q.length q HQL.out HQ.out (by have := HQ64.out; omega) ?_
      intro x6 wd HSd
      obtain ⟨A6, c6, rfl, _⟩ := (HSd.own 2 rfl).sl
      have HTd : Sep B w0 wd [.row gp #[.slice Ax1 p1.length cx1] 28, .row gl #[.slice A l.length c] 28] := HSd.sub (by repeat (first | exact List.nil_sublist _ | exact List.Sublist.refl _ | apply List.Sublist.cons_cons | apply List.Sublist.cons))
      refine ⟨fun _ => HTd, ?_⟩
      (repeat (first | (refine Cop.og_skip rfl rfl HTd _ (by (simp only [Act.put, List.setIfInBounds_toArray, List.set_cons_succ, List.set_cons_zero]; rfl)) ?_) | (refine Cop.og_take rfl rfl HTd ?_; apply Exists.intro; refine ⟨fun w9 h9 => ?_, _, by (simp only [Act.put, List.setIfInBounds_toArray, List.set_cons_succ, List.set_cons_zero]; rfl), ?_⟩; (go_simp; with_reducible rfl))))
      refine Cop.og_run rfl rfl ?_
      refine ow_stc HSd 1 rfl 28 _ _ rfl (by kernel_rfl) 0 (by simp) (y := .slice A6 q.length c6) rfl rfl rfl rfl ?_
      intro we HSe
      refine ⟨fun h => absurd rfl h, ?_⟩
      refine og_fin ?_
      clear HSa HSb HSc HSd HTa HTb HTc HTd
      (go_wp2; refine bodyPost_ret (results_none rfl _ _ _) rfl ?_)
      exact ⟨rfl, .slice A6 q.length c6, HSe.tail⟩
  have h2 : 2 ≤ (seg l b e).length := by omega
  have hlt := hf_lt (n := n) (by omega)
  have hps := hf_pos n
  obtain ⟨k, hk⟩ : ∃ k, hf n = k := ⟨_, rfl⟩
  have hkT : hf (seg l b e).length = k := by rw [hTl, show e - b = n from by omega, hk]
  rw [hk] at hlt hps
  have CH := Lib.hid (fun w => half_a (ei - bi) w (by omega) (by omega))
  rw [show (ei - bi).toNat = n from by omega, hk] at CH
  have hT1 := HLT.out (seg l b e) (m - b) (decide (b = 0)) h2 (by omega)
  have hT2 := HGE.out (seg l b e) (m - b) (decide (b = 0)) h2 (by omega)
  rw [hkT, seg_take l b e k (by omega), seg_drop] at hT1 hT2
  have hne : ¬ (m : Int) = ei := by omega
  have hkb : (k : Int) ≤ 4398046511104 := by omega
  have hmb : bi + (k : Int) ≤ 4398046511104 := by omega
  have cw : w.cell? ⟨gw, 0, none⟩ = some (.func (.func 48) #[] #[.pointer (some ⟨gm, 0, none⟩), .pointer (some ⟨gp, 0, none⟩), .pointer (some ⟨gl, 0, none⟩), .pointer (some ⟨gw, 0, none⟩)]) := by rw [row_cell (HS0.row 2 rfl)]; rfl
  by_cases him : m - b ≤ k
  · have hTp := hT1 him
    obtain ⟨A1, c1, hR1, hs1, _, _⟩ := rd_seg hR0 HL.out (b + k) e (by omega) hbl
    have HRX := Lib.hid hR1
    have HSLX := Lib.hid (fun W => hs1 W .i64 .i64)
    rw [show ((b + k : Nat) : Int) = bi + (k : Int) from by omega, ← hei] at HSLX
    have hXl := HRL.out _ (seg_all HL.out (b + k) e)
    have hsl := seg_length l (b + k) e hbl
    have CRX := Lib.hid (fun w' (hb : Below B w0 w') (hv : Rd w' (.slice A1 (e - (b + k)) c1) (e - (b + k)) 32 (dcs (seg l (b + k) e))) => CR.out (seg l (b + k) e) w' _ hb (seg_all HL.out _ _) (by omega) (by rw [hsl]; exact hv))
    obtain ⟨X, hX⟩ : ∃ y, Rt (seg l (b + k) e) = y := ⟨_, rfl⟩
    obtain ⟨p1, hp1⟩ : ∃ y, p ++ Ts (seg l b (b + k)) (m - b) (decide (b = 0)) = y := ⟨_, rfl⟩
    obtain ⟨q, hqq⟩ : ∃ y, p1 ++ [X] = y := ⟨_, rfl⟩
    have hqe : p ++ Ts (seg l b e) (m - b) (decide (b = 0)) = q := by rw [hTp, ← List.append_assoc, hp1, hX, hqq]
    rw [hqe] at hq ⊢
    have HQ := Lib.hid hqq
    have HQL := Lib.hid (show p1.length + 1 = q.length by rw [← hqq, List.length_append]; rfl)
    have HQ64 := Lib.hid hq
    rw [hX] at CRX hXl
    have HXL := Lib.hid hXl
    have hrec := IH.out k hlt b (b + k) bi (bi + (k : Int)) x p w hbi (by omega) rfl (by omega) hbm (by omega) (by omega) (by rw [hp1]; have := HQL.out; omega) HS0
    rw [hp1] at hrec
    have HREC := Lib.hid hrec
    have him' : (m : Int) ≤ bi + (k : Int) := by omega
    clear IH hTl h2 hk hkT hT1 hT2 hR0 hTp hR1 hs1 hX hp1 hqq hqe hrec hXl hsl hbi hei hen him
    go_enter Tryd.func48, Tryd.ntmps48
    go_wp2_with fail
    (with_reducible refine Calls.mono (CH.out w) ?_)
    rintro e wh ⟨rfl, rfl⟩
    go_wp2_with fail
    (with_reducible refine Calls.mono HREC.out ?_)
    rintro e' w1 ⟨rfl, hx1⟩
    clear HREC cm cw HS0
    obtain ⟨x1, HS1⟩ := hx1
    obtain ⟨Ax1, cx1, rfl, _⟩ := (HS1.own 1 rfl).sl
    go_wp2
    refine Cop.region_ord (fun w' => Sep B w0 w' [.row gp #[.slice Ax1 p1.length cx1] 28, .row gl #[.slice A l.length c] 28]) 8 (.take 0 (.take 1 (.take 2 (.take 3 (.take 4 (.run 5 (.run 6 (.run 7 (.run 8 Cop.Ord.fin))))))))) (by kernel_rfl) (by kernel_rfl) (fun _ _ d _ _ h => by cases d <;> exact h) ?_
    intro wa hda
    have HSa := HS1.keep hda
    have HTa : Sep B w0 wa [.row gp #[.slice Ax1 p1.length cx1] 28, .row gl #[.slice A l.length c] 28] := HSa.sub (by repeat (first | exact List.nil_sublist _ | exact List.Sublist.refl _ | apply List.Sublist.cons_cons | apply List.Sublist.cons))
    (repeat (first | (refine Cop.og_skip rfl rfl HTa _ (by (simp only [Act.put, List.setIfInBounds_toArray, List.set_cons_succ, List.set_cons_zero]; rfl)) ?_) | (refine Cop.og_take rfl rfl HTa ?_; apply Exists.intro; refine ⟨fun w9 h9 => ?_, _, by (simp only [Act.put, List.setIfInBounds_toArray, List.set_cons_succ, List.set_cons_zero]; rfl), ?_⟩; (have c1 := (row_cell (h9.row 0 rfl) 0).trans (show (#[Value.slice Ax1 p1.length cx1] : Array Value)[0]? = some (.slice Ax1 p1.length cx1) from rfl); have c2 := (row_cell (h9.row 1 rfl) 0).trans (show (#[Value.slice A l.length c] : Array Value)[0]? = some (.slice A l.length c) from rfl); have e1 := HSLX.out w9; go_simp; with_reducible rfl))))
    refine Cop.og_run rfl rfl ?_
    refine ow_call 21 _ _ (fun w' => Below wa.heap.size wa w') (by go_simp) (CRX.out wa HSa.hb (HRX.out wa (HSa.rd 5 rfl))) ?_
    intro wb bb
    have HSb := HSa.keep bb
    have HTb := HTa.keep bb
    refine ⟨fun _ => HTb, ?_⟩
    (repeat (first | (refine Cop.og_skip rfl rfl HTb _ (by (simp only [Act.put, List.setIfInBounds_toArray, List.set_cons_succ, List.set_cons_zero]; rfl)) ?_) | (refine Cop.og_take rfl rfl HTb ?_; apply Exists.intro; refine ⟨fun w9 h9 => ?_, _, by (simp only [Act.put, List.setIfInBounds_toArray, List.set_cons_succ, List.set_cons_zero]; rfl), ?_⟩; (go_simp; with_reducible rfl))))
    refine Cop.og_run rfl rfl ?_
    refine ow_bd HSb _ rfl X HXL.out rfl ?_
    intro g5 wc HSc
    have HTc : Sep B w0 wc [.row gp #[.slice Ax1 p1.length cx1] 28, .row gl #[.slice A l.length c] 28] := HSc.sub (by repeat (first | exact List.nil_sublist _ | exact List.Sublist.refl _ | apply List.Sublist.cons_cons | apply List.Sublist.cons))
    refine ⟨fun _ => HTc, ?_⟩
    (repeat (first | (refine Cop.og_skip rfl rfl HTc _ (by (simp only [Act.put, List.setIfInBounds_toArray, List.set_cons_succ, List.set_cons_zero]; rfl)) ?_) | (refine Cop.og_take rfl rfl HTc ?_; apply Exists.intro; refine ⟨fun w9 h9 => ?_, _, by (simp only [Act.put, List.setIfInBounds_toArray, List.set_cons_succ, List.set_cons_zero]; rfl), ?_⟩; (go_simp; with_reducible rfl))))
    refine Cop.og_run rfl rfl ?_
    refine ow_apd HSc 2 rfl rfl (HSc.own 0 rfl).rd rfl rfl q.length q HQL.out HQ.out (by have := HQ64.out; omega) ?_
    intro x6 wd HSd
    obtain ⟨A6, c6, rfl, _⟩ := (HSd.own 2 rfl).sl
    have HTd : Sep B w0 wd [.row gp #[.slice Ax1 p1.length cx1] 28, .row gl #[.slice A l.length c] 28] := HSd.sub (by repeat (first | exact List.nil_sublist _ | exact List.Sublist.refl _ | apply List.Sublist.cons_cons | apply List.Sublist.cons))
    refine ⟨fun _ => HTd, ?_⟩
    (repeat (first | (refine Cop.og_skip rfl rfl HTd _ (by (simp only [Act.put, List.setIfInBounds_toArray, List.set_cons_succ, List.set_cons_zero]; rfl)) ?_) | (refine Cop.og_take rfl rfl HTd ?_; apply Exists.intro; refine ⟨fun w9 h9 => ?_, _, by (simp only [Act.put, List.setIfInBounds_toArray, List.set_cons_succ, List.set_cons_zero]; rfl), ?_⟩; (go_simp; with_reducible rfl))))
    refine Cop.og_run rfl rfl ?_
    refine ow_stc HSd 1 rfl 28 _ _ rfl (by kernel_rfl) 0 (by simp) (y := .slice A6 q.length c6) rfl rfl rfl rfl ?_
    intro we HSe
    refine ⟨fun h => absurd rfl h, ?_⟩
    refine og_fin ?_
    clear HSa HSb HSc HSd HTa HTb HTc HTd
    (go_wp2; refine bodyPost_ret (results_none rfl _ _ _) rfl ?_)
    exact ⟨rfl, .slice A6 q.length c6, HSe.tail⟩
  · have hTp := hT2 him
    obtain ⟨A1, c1, hR1, hs1, _, _⟩ := rd_seg hR0 HL.out b (b + k) (by omega) (by omega)
    have HRX := Lib.hid hR1
    have HSLX := Lib.hid (fun W => hs1 W .i64 .i64)
    rw [show ((b + k : Nat) : Int) = bi + (k : Int) from by omega, ← hbi] at HSLX
    have hXl := HRL.out _ (seg_all HL.out b (b + k))
    have hsl := seg_length l b (b + k) (by omega)
    have CRX := Lib.hid (fun w' (hb : Below B w0 w') (hv : Rd w' (.slice A1 (b + k - b) c1) (b + k - b) 32 (dcs (seg l b (b + k)))) => CR.out (seg l b (b + k)) w' _ hb (seg_all HL.out _ _) (by omega) (by rw [hsl]; exact hv))
    obtain ⟨X, hX⟩ : ∃ y, Rt (seg l b (b + k)) = y := ⟨_, rfl⟩
    obtain ⟨p1, hp1⟩ : ∃ y, p ++ Ts (seg l (b + k) e) (m - (b + k)) false = y := ⟨_, rfl⟩
    obtain ⟨q, hqq⟩ : ∃ y, p1 ++ [X] = y := ⟨_, rfl⟩
    have hqe : p ++ Ts (seg l b e) (m - b) (decide (b = 0)) = q := by rw [hTp, show m - b - k = m - (b + k) from by omega, ← List.append_assoc, hp1, hX, hqq]
    rw [hqe] at hq ⊢
    have HQ := Lib.hid hqq
    have HQL := Lib.hid (show p1.length + 1 = q.length by rw [← hqq, List.length_append]; rfl)
    have HQ64 := Lib.hid hq
    rw [hX] at CRX hXl
    have HXL := Lib.hid hXl
    have hd0 : decide (b + k = 0) = false := by simp; omega
    have hrec := IH.out (n - k) (by omega) (b + k) e (bi + (k : Int)) ei x p w (by omega) hei (by omega) (by omega) (by omega) hme hbl (by rw [hd0, hp1]; have := HQL.out; omega) HS0
    rw [hd0, hp1] at hrec
    have HREC := Lib.hid hrec
    have him' : ¬ (m : Int) ≤ bi + (k : Int) := by omega
    clear IH hTl h2 hk hkT hT1 hT2 hR0 hTp hR1 hs1 hX hp1 hqq hqe hrec hXl hsl hbi hei hen him hd0
    go_enter Tryd.func48, Tryd.ntmps48
    go_wp2_with fail
    (with_reducible refine Calls.mono (CH.out w) ?_)
    rintro e wh ⟨rfl, rfl⟩
    go_wp2_with fail
    (with_reducible refine Calls.mono HREC.out ?_)
    rintro e' w1 ⟨rfl, hx1⟩
    clear HREC cm cw HS0
    obtain ⟨x1, HS1⟩ := hx1
    obtain ⟨Ax1, cx1, rfl, _⟩ := (HS1.own 1 rfl).sl
    go_wp2
    refine Cop.region_ord (fun w' => Sep B w0 w' [.row gp #[.slice Ax1 p1.length cx1] 28, .row gl #[.slice A l.length c] 28]) 8 (.take 0 (.take 1 (.take 2 (.take 3 (.take 4 (.run 5 (.run 6 (.run 7 (.run 8 Cop.Ord.fin))))))))) (by kernel_rfl) (by kernel_rfl) (fun _ _ d _ _ h => by cases d <;> exact h) ?_
    intro wa hda
    have HSa := HS1.keep hda
    have HTa : Sep B w0 wa [.row gp #[.slice Ax1 p1.length cx1] 28, .row gl #[.slice A l.length c] 28] := HSa.sub (by repeat (first | exact List.nil_sublist _ | exact List.Sublist.refl _ | apply List.Sublist.cons_cons | apply List.Sublist.cons))
    (repeat (first | (refine Cop.og_skip rfl rfl HTa _ (by (simp only [Act.put, List.setIfInBounds_toArray, List.set_cons_succ, List.set_cons_zero]; rfl)) ?_) | (refine Cop.og_take rfl rfl HTa ?_; apply Exists.intro; refine ⟨fun w9 h9 => ?_, _, by (simp only [Act.put, List.setIfInBounds_toArray, List.set_cons_succ, List.set_cons_zero]; rfl), ?_⟩; (have c1 := (row_cell (h9.row 0 rfl) 0).trans (show (#[Value.slice Ax1 p1.length cx1] : Array Value)[0]? = some (.slice Ax1 p1.length cx1) from rfl); have c2 := (row_cell (h9.row 1 rfl) 0).trans (show (#[Value.slice A l.length c] : Array Value)[0]? = some (.slice A l.length c) from rfl); have e1 := HSLX.out w9; go_simp; with_reducible rfl))))
    refine Cop.og_run rfl rfl ?_
    refine ow_call 21 _ _ (fun w' => Below wa.heap.size wa w') (by go_simp) (CRX.out wa HSa.hb (HRX.out wa (HSa.rd 5 rfl))) ?_
    intro wb bb
    have HSb := HSa.keep bb
    have HTb := HTa.keep bb
    refine ⟨fun _ => HTb, ?_⟩
    (repeat (first | (refine Cop.og_skip rfl rfl HTb _ (by (simp only [Act.put, List.setIfInBounds_toArray, List.set_cons_succ, List.set_cons_zero]; rfl)) ?_) | (refine Cop.og_take rfl rfl HTb ?_; apply Exists.intro; refine ⟨fun w9 h9 => ?_, _, by (simp only [Act.put, List.setIfInBounds_toArray, List.set_cons_succ, List.set_cons_zero]; rfl), ?_⟩; (go_simp; with_reducible rfl))))
    refine Cop.og_run rfl rfl ?_
    refine ow_bd HSb _ rfl X HXL.out rfl ?_
    intro g5 wc HSc
    have HTc : Sep B w0 wc [.row gp #[.slice Ax1 p1.length cx1] 28, .row gl #[.slice A l.length c] 28] := HSc.sub (by repeat (first | exact List.nil_sublist _ | exact List.Sublist.refl _ | apply List.Sublist.cons_cons | apply List.Sublist.cons))
    refine ⟨fun _ => HTc, ?_⟩
    (repeat (first | (refine Cop.og_skip rfl rfl HTc _ (by (simp only [Act.put, List.setIfInBounds_toArray, List.set_cons_succ, List.set_cons_zero]; rfl)) ?_) | (refine Cop.og_take rfl rfl HTc ?_; apply Exists.intro; refine ⟨fun w9 h9 => ?_, _, by (simp only [Act.put, List.setIfInBounds_toArray, List.set_cons_succ, List.set_cons_zero]; rfl), ?_⟩; (go_simp; with_reducible rfl))))
    refine Cop.og_run rfl rfl ?_
    refine ow_apd HSc 2 rfl rfl (HSc.own 0 rfl).rd rfl rfl q.length q HQL.out HQ.out (by have := HQ64.out; omega) ?_
    intro x6 wd HSd
    obtain ⟨A6, c6, rfl, _⟩ := (HSd.own 2 rfl).sl
    have HTd : Sep B w0 wd [.row gp #[.slice Ax1 p1.length cx1] 28, .row gl #[.slice A l.length c] 28] := HSd.sub (by repeat (first | exact List.nil_sublist _ | exact List.Sublist.refl _ | apply List.Sublist.cons_cons | apply List.Sublist.cons))
    refine ⟨fun _ => HTd, ?_⟩
    (repeat (first | (refine Cop.og_skip rfl rfl HTd _ (by (simp only [Act.put, List.setIfInBounds_toArray, List.set_cons_succ, List.set_cons_zero]; rfl)) ?_) | (refine Cop.og_take rfl rfl HTd ?_; apply Exists.intro; refine ⟨fun w9 h9 => ?_, _, by (simp only [Act.put, List.setIfInBounds_toArray, List.set_cons_succ, List.set_cons_zero]; rfl), ?_⟩; (go_simp; with_reducible rfl))))
    refine Cop.og_run rfl rfl ?_
    refine ow_stc HSd 1 rfl 28 _ _ rfl (by kernel_rfl) 0 (by simp) (y := .slice A6 q.length c6) rfl rfl rfl rfl ?_
    intro we HSe
    refine ⟨fun h => absurd rfl h, ?_⟩
    refine og_fin ?_
    clear HSa HSb HSc HSd HTa HTb HTc HTd
    (go_wp2; go_end0)
    exact ⟨rfl, .slice A6 q.length c6, HSe.tail⟩
end Go.Proofs.YtbjbdnlgoifamaaDoor
namespace Go.Proofs.YtbjbdnlgoifamaaDoor
open Go.RowKit Cop
set_option linter.unusedVariables false
set_option linter.unusedSimpArgs false
set_option maxRecDepth 100000 in
set_option maxHeartbeats 4000000 in
theorem cons_bad (A : Option Addr) (k c : Nat) (m n : Int) (w : World) (hk : k ≤ 4398046511104) (hno : ¬ (1 ≤ m ∧ m ≤ n ∧ n ≤ (k : Int))) : Gives 22 #[.slice A k c, .int .i64 m, .int .i64 n] w (.tuple #[.slice none 0 0, .int .i64 40]) := by
  have HS0 := Sep.start w
  have HNO := Lib.hid hno
  clear hno
  go_enter Tryd.func22, Tryd.ntmps22
  go_wp2_with (first | refine wl_bx1 HS0 rfl 28 _ rfl (.slice A k c) rfl rfl ?_)
  intro g1 w1 HS1
  go_wp2_with (first | refine wl_bx1 HS1 rfl 3 _ rfl (.int .i64 m) rfl rfl ?_)
  intro g2 w2 HS2
  have c0 := (row_cell (HS2.row 1 rfl) 0).trans (show (#[Value.slice A k c] : Array Value)[0]? = some (.slice A k c) from rfl)
  have c1 := (row_cell (HS2.row 0 rfl) 0).trans (show (#[Value.int .i64 m] : Array Value)[0]? = some (.int .i64 m) from rfl)
  rcases (show m < 1 ∨ (¬ m < 1 ∧ n < m) ∨ (¬ m < 1 ∧ ¬ n < m ∧ (k : Int) < n) from by have := HNO.out; omega) with h1 | ⟨h1, h2⟩ | ⟨h1, h2, h3⟩
  all_goals
    go_wp2
    go_ret2
    exact ⟨rfl, HS2.hb⟩
set_option maxRecDepth 100000 in
set_option maxHeartbeats 4000000 in
theorem cons_ok (l : List (List UInt8)) (v : Value) (m n : Nat) (w : World) (hT : Tab w) (hl : AllD l) (hll : l.length ≤ 4398046511104) (hR : Rd w v l.length 32 (dcs l)) (hm1 : 1 ≤ m) (hmn : m ≤ n) (hnl : n ≤ l.length) :
    Calls Tryd.prog 22 #[v, .int .i64 m, .int .i64 n] w fun e w' => ∃ x, e = .returned (.tuple #[x, .int .i64 0]) ∧ Below w.heap.size w w' ∧ Ow w' w.heap.size 24 32 x (tsteps nodeD (sha []) (l.take n) m true).length (dcs (tsteps nodeD (sha []) (l.take n) m true)) := by
  have htl := tsteps_len64 (l.take n) (by rw [List.length_take]; omega) m true hm1 (by rw [List.length_take]; omega)
  have HS0 := (Sep.start w).arg0 hR
  obtain ⟨A, c, rfl, _, _⟩ := hR.shape
  have CI := Lib.hid (fun gp gw gm gl w1 (HS : Sep w.heap.size w w1 (cons gp gw gm gl (.slice none 0 0) [] l m A c [])) => cons_gen l (root nodeD (sha [])) (tsteps nodeD (sha [])) A c w.heap.size w m gp gw gm gl [] hl hll root_length (fun l => tsteps_end _ _ (.inr rfl)) (fun l => tsteps_end _ _ (.inr rfl)) (fun l m wh h h1 h2 => tsteps_le _ _ h h1 h2) (fun l m wh h h1 h2 => tsteps_gt _ _ h h1 h2)
    (fun l' w' v' hb h1 h2 h3 => root_a l' v' w' (hT.below hb) h1 h2 h3) n 0 n 0 (n : Int) (.slice none 0 0) [] w1 rfl rfl (by omega) (by omega) (by omega) hmn hnl (by rw [List.nil_append, seg_whole, Nat.sub_zero, show decide ((0 : Nat) = 0) = true from rfl]; omega) HS)
  simp only [List.nil_append, seg_whole, Nat.sub_zero, decide_true] at CI
  obtain ⟨q, hq⟩ : ∃ q, tsteps nodeD (sha []) (l.take n) m true = q := ⟨_, rfl⟩
  rw [hq] at CI htl ⊢
  have k1 : ¬ (m : Int) < 1 := by omega
  have k2 : ¬ (n : Int) < (m : Int) := by omega
  have k3 : ¬ (l.length : Int) < (n : Int) := by omega
  clear hR hq hl
  go_enter Tryd.func22, Tryd.ntmps22
  go_wp2_with (first | refine wl_bx1 HS0 rfl 28 _ rfl (.slice A l.length c) rfl rfl ?_)
  intro gl w1 HS1
  go_wp2_with (first | refine wl_bx1 HS1 rfl 3 _ rfl (.int .i64 (m : Int)) rfl rfl ?_)
  intro gm w2 HS2
  have c0 := (row_cell (HS2.row 1 rfl) 0).trans (show (#[Value.slice A l.length c] : Array Value)[0]? = some (.slice A l.length c) from rfl)
  have c1 := (row_cell (HS2.row 0 rfl) 0).trans (show (#[Value.int .i64 (m : Int)] : Array Value)[0]? = some (.int .i64 (m : Int)) from rfl)
  clear HS0 HS1
  go_wp2_with (first | refine wl_al1 HS2 rfl 28 rfl (.slice none 0 0) rfl (by kernel_rfl) ?_)
  intro gp w3 HS3
  clear c0 c1
  go_wp2_with (first | refine wl_al1 HS3 rfl 90 rfl .nilFunc rfl (by kernel_rfl) ?_)
  intro gw w4 HS4
  go_wp2_with (first | refine wl_stc HS4 0 rfl rfl 90 _ _ rfl (by kernel_rfl) 0 (by simp) (y := .func (.func 48) #[] #[.pointer (some ⟨gm, 0, none⟩), .pointer (some ⟨gp, 0, none⟩), .pointer (some ⟨gl, 0, none⟩), .pointer (some ⟨gw, 0, none⟩)]) rfl rfl rfl rfl ?_)
  intro w5 HS5
  have HS6 : Sep w.heap.size w w5 (cons gp gw gm gl (.slice none 0 0) [] l m A c []) := (Sep.ownNil HS5 24 32).front 2
  have HR6 := Lib.hid (CI.out gp gw gm gl w5 HS6)
  have c0 : w5.cell? ⟨gw, 0, none⟩ = some (.func (.func 48) #[] #[.pointer (some ⟨gm, 0, none⟩), .pointer (some ⟨gp, 0, none⟩), .pointer (some ⟨gl, 0, none⟩), .pointer (some ⟨gw, 0, none⟩)]) := by rw [row_cell (HS6.row 2 rfl)]; rfl
  clear HS2 HS3 HS4 HS5 HS6
  go_wp2_with fail
  (with_reducible refine Calls.mono HR6.out ?_)
  rintro e' w6 ⟨rfl, x6, HS7⟩
  clear c0
  obtain ⟨A6, c6, rfl, _⟩ := (HS7.own 1 rfl).sl
  have c0 : w6.cell? ⟨gp, 0, none⟩ = some (.slice A6 q.length c6) := by rw [row_cell (HS7.row 0 rfl)]; rfl
  go_wp2
  go_ret2
  exact ⟨_, rfl, HS7.hb, HS7.own 1 rfl⟩
end Go.Proofs.YtbjbdnlgoifamaaDoor
