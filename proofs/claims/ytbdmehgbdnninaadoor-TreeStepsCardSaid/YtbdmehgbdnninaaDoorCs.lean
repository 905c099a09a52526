/- tree.Consistency: its inner function. -/
import Derived.Test.YtbdmehgbdnninaaDoorPb
namespace Go.Proofs.YtbdmehgbdnninaaDoor
open Go.RowKit Cop
set_option linter.unusedVariables false
set_option linter.unusedSimpArgs false
theorem tsteps_all : ∀ (n : Nat) (l : List (List UInt8)), AllD l → l.length = n → ∀ m wh, AllD (tsteps nodeD (sha []) l m wh) := by
  intro n
  induction n using Nat.strongRecOn with
  | ind n ih =>
    intro l hl hn m wh
    by_cases h : l.length < 2 ∨ m = l.length
    · rw [tsteps_end _ _ h]
      cases wh
      · intro x hx; simp at hx; subst hx; exact root_length _ hl
      · intro x hx; simp at hx
    · have h2 : 2 ≤ l.length := by omega
      have h1 := hf_lt h2
      have hp := hf_pos l.length
      by_cases hi : m ≤ hf l.length
      · rw [tsteps_le _ _ h2 (by omega) hi]
        intro x hx
        rcases List.mem_append.1 hx with hx | hx
        · exact ih (hf l.length) (by omega) _ (hl.take _) (by rw [List.length_take, Nat.min_eq_left (by omega)]) _ _ x hx
        · simp at hx; subst hx; exact root_length _ (hl.drop _)
      · rw [tsteps_gt _ _ h2 (by omega) hi]
        intro x hx
        rcases List.mem_append.1 hx with hx | hx
        · exact ih (l.length - hf l.length) (by omega) _ (hl.drop _) (by rw [List.length_drop]) _ _ x hx
        · simp at hx; subst hx; exact root_length _ (hl.take _)
theorem tsteps_len64 (l : List (List UInt8)) (hll : l.length ≤ 4398046511104) (m : Nat) (wh : Bool) (h1 : 1 ≤ m) (hm : m ≤ l.length) : (tsteps nodeD (sha []) l m wh).length ≤ 64 := by
  obtain ⟨c, r, e1, e2, _, e4, e5⟩ := steps_tsteps nodeD (sha []) l.length l rfl m h1 hm
  have hs := steps_len 42 l.length m (by rw [show 2 ^ 42 = 4398046511104 from rfl]; exact hll)
  cases wh with
  | false => rw [e1]; simp only [List.length_cons]; omega
  | true =>
    cases hw : (steps m l.length).2 with
    | true => rw [(e4 hw).2]; omega
    | false => rw [e5 hw]; simp only [List.length_cons]; omega
/-- What the inner function of Consistency knows. -/
def cons (gp gw gm gl : Nat) (x : Value) (p l : List (List UInt8)) (m : Nat) (A : Option Addr) (c : Nat) (R : List Pc) : List Pc :=
  .row gp #[x] 22 :: .own x 26 32 p.length (dcs p) :: .row gw #[.func (.func 64) #[] #[.pointer (some ⟨gm, 0, none⟩), .pointer (some ⟨gp, 0, none⟩), .pointer (some ⟨gl, 0, none⟩), .pointer (some ⟨gw, 0, none⟩)]] 92
    :: .row gm #[.int .i64 (m : Int)] 3 :: .row gl #[.slice A l.length c] 22 :: .rd (.slice A l.length c) l.length 32 (dcs l) :: R
set_option maxRecDepth 100000 in
set_option maxHeartbeats 8000000 in
theorem cons_gen (l : List (List UInt8)) (Rt : List (List UInt8) → List UInt8) (Ts : List (List UInt8) → Nat → Bool → List (List UInt8)) (A : Option Addr) (c : Nat) (B : Nat) (w0 : World) (m gp gw gm gl : Nat) (R : List Pc) (hl : AllD l) (hll : l.length ≤ 4398046511104)
    (hrl : ∀ l, AllD l → (Rt l).length = 32) (h1 : ∀ l, Ts l l.length true = []) (h1' : ∀ l, Ts l l.length false = [Rt l])
    (hlt : ∀ l m wh, 2 ≤ l.length → m ≠ l.length → m ≤ hf l.length → Ts l m wh = Ts (l.take (hf l.length)) m wh ++ [Rt (l.drop (hf l.length))])
    (hge : ∀ l m wh, 2 ≤ l.length → m ≠ l.length → ¬ m ≤ hf l.length → Ts l m wh = Ts (l.drop (hf l.length)) (m - hf l.length) false ++ [Rt (l.take (hf l.length))])
    (hCR : ∀ l' w' v', Below B w0 w' → AllD l' → l'.length ≤ 4398046511104 → Rd w' v' l'.length 32 (dcs l') → Gives 15 #[v'] w' (.agg (bv (Rt l')))) :
    ∀ (n b e : Nat) (bi ei : Int) (x : Value) (p : List (List UInt8)) (w : World), bi = (b : Int) → ei = (e : Int) → e = b + n → 1 ≤ n → b < m → m ≤ e → e ≤ l.length → (p ++ Ts (seg l b e) (m - b) (decide (b = 0))).length ≤ 1000 →
      Sep B w0 w (cons gp gw gm gl x p l m A c R) →
      Calls Tryd.prog 64 #[.int .i64 bi, .int .i64 ei, .pointer (some ⟨gm, 0, none⟩), .pointer (some ⟨gp, 0, none⟩), .pointer (some ⟨gl, 0, none⟩), .pointer (some ⟨gw, 0, none⟩)] w fun e' w' => e' = .returned (.tuple #[]) ∧ ∃ x', Sep B w0 w' (cons gp gw gm gl x' (p ++ Ts (seg l b e) (m - b) (decide (b = 0))) l m A c R) := by
  have HL := Lib.hid hl
  have HRL := Lib.hid hrl
  have H1 := Lib.hid h1
  have H1' := Lib.hid h1'
  have HLT := Lib.hid hlt
  have HGE := Lib.hid hge
  have CR := Lib.hid hCR
  clear hl hrl h1 h1' hlt hge hCR
  intro n
  induction n using Nat.strongRecOn with
  | ind n ih =>
  intro b e bi ei x p w hbi hei hen hn hbm hme hbl hq HS0
  have IH := Lib.hid ih
  clear ih
  have hTl := seg_length l b e hbl
  have hb0 : 0 ≤ bi := by omega
  have he0 : ei ≤ 4398046511104 := by omega
  have hbe : bi < ei := by omega
  have he1 : 0 ≤ ei := by omega
  have hb1 : bi ≤ 4398046511104 := by omega
  have hm1 : m ≤ 4398046511104 := by omega
  have hR0 : Rd w (.slice A l.length c) l.length 32 (dcs l) := HS0.rd 5 rfl
  have cm : w.cell? ⟨gm, 0, none⟩ = some (.int .i64 (m : Int)) := by rw [row_cell (HS0.row 3 rfl)]; rfl
  by_cases hone : m = e
  · have hme' : (m : Int) = ei := by omega
    have hmb : m - b = (seg l b e).length := by omega
    by_cases hbz : b = 0
    · have hbz' : ¬ 0 < bi := by omega
      rw [hmb, show decide (b = 0) = true from by simpa using hbz, H1.out, List.append_nil]
      clear IH hTl hbi hei hen hone hR0 hq hmb hbz
      go_enter Tryd.func64, Tryd.ntmps64
      go_wp2
      refine bodyPost_ret (results_none rfl _ _ _) rfl ?_
      exact ⟨rfl, x, HS0⟩
    · have hbz' : 0 < bi := by omega
      rw [hmb, show decide (b = 0) = false from by simpa using hbz, H1'.out] at hq ⊢
      obtain ⟨A1, c1, hR1, hs1, _, _⟩ := rd_seg hR0 HL.out b e (by omega) hbl
      have HRX := Lib.hid hR1
      have HSLX := Lib.hid (fun W => hs1 W .i64 .i64)
      rw [← hbi, ← hei] at HSLX
      have hXl := HRL.out _ (seg_all HL.out b e)
      have CRX := Lib.hid (fun w' (hb : Below B w0 w') (hv : Rd w' (.slice A1 (e - b) c1) (e - b) 32 (dcs (seg l b e))) => CR.out (seg l b e) w' _ hb (seg_all HL.out _ _) (by omega) (by rw [hTl]; exact hv))
      obtain ⟨X, hX⟩ : ∃ y, Rt (seg l b e) = y := ⟨_, rfl⟩
      obtain ⟨p1, hp1⟩ : ∃ y, p = y := ⟨_, rfl⟩
      rw [hp1, hX] at hq ⊢
      obtain ⟨q, hqq⟩ : ∃ y, p1 ++ [X] = y := ⟨_, rfl⟩
      rw [hqq] at hq ⊢
      have HQ := Lib.hid hqq
      have HQL := Lib.hid (show p1.length + 1 = q.length by rw [← hqq, List.length_append]; rfl)
      have HQ64 := Lib.hid hq
      rw [hX] at CRX hXl
      have HXL := Lib.hid hXl
      rw [hp1] at HS0
      have hx1 : ∃ x', Sep B w0 w (cons gp gw gm gl x' p1 l m A c R) := ⟨x, HS0⟩
      clear IH hTl hbi hei hen hone hR0 hq hmb hbz hX hp1 hqq hXl hR1 hs1 HS0 hme hbm hn hbl
      go_enter Tryd.func64, Tryd.ntmps64
      obtain ⟨x1, HS1⟩ := hx1
      obtain ⟨Ax1, cx1, rfl, _⟩ := (HS1.own 1 rfl).sl
      go_wp2
      refine Cop.region_ord (fun w' => Sep B w0 w' [.row gp #[.slice Ax1 p1.length cx1] 22, .row gl #[.slice A l.length c] 22]) 8 (.take 0 (.take 1 (.take 2 (.take 3 (.take 4 (.run 5 (.run 6 (.run 7 (.run 8 Cop.Ord.fin))))))))) (by kernel_rfl) (by kernel_rfl) (fun _ _ d _ _ h => by cases d <;> exact h) ?_
      intro wa hda
      have HSa := HS1.keep hda
      have HTa : Sep B w0 wa [.row gp #[.slice Ax1 p1.length cx1] 22, .row gl #[.slice A l.length c] 22] := HSa.sub (by repeat (first | exact List.nil_sublist _ | exact List.Sublist.refl _ | apply List.Sublist.cons_cons | apply List.Sublist.cons))
      (repeat (first | (refine Cop.og_skip rfl rfl HTa _ (by (simp only [Act.put, List.setIfInBounds_toArray, List.set_cons_succ, List.set_cons_zero]; rfl)) ?_) | (refine Cop.og_take rfl rfl HTa ?_; apply Exists.intro; refine ⟨fun w9 h9 => ?_, _, by (simp only [Act.put, List.setIfInBounds_toArray, List.set_cons_succ, List.set_cons_zero]; rfl), ?_⟩; (have c1 := (row_cell (h9.row 0 rfl) 0).trans (show (#[Value.slice Ax1 p1.length cx1] : Array Value)[0]? = some (.slice Ax1 p1.length cx1) from rfl); have c2 := (row_cell (h9.row 1 rfl) 0).trans (show (#[Value.slice A l.length c] : Array Value)[0]? = some (.slice A l.length c) from rfl); have e1 := HSLX.out w9; go_simp; with_reducible rfl))))
      refine Cop.og_run rfl rfl ?_
      refine ow_call 15 _ _ (fun w' => Below wa.heap.size wa w') (by go_simp) (CRX.out wa HSa.hb (HRX.out wa (HSa.rd 5 rfl))) ?_
      intro wb bb
      have HSb := HSa.keep bb
      have HTb := HTa.keep bb
      refine ⟨fun _ => HTb, ?_⟩
      (repeat (first | (refine Cop.og_skip rfl rfl HTb _ (by (simp only [Act.put, List.setIfInBounds_toArray, List.set_cons_succ, List.set_cons_zero]; rfl)) ?_) | (refine Cop.og_take rfl rfl HTb ?_; apply Exists.intro; refine ⟨fun w9 h9 => ?_, _, by (simp only [Act.put, List.setIfInBounds_toArray, List.set_cons_succ, List.set_cons_zero]; rfl), ?_⟩; (go_simp; with_reducible rfl))))
      refine Cop.og_run rfl rfl ?_
      refine ow_bd HSb _ rfl X HXL.out rfl ?_
      intro g5 wc HSc
      have HTc : Sep B w0 wc [.row gp #[.slice Ax1 p1.length cx1] 22, .row gl #[.slice A l.length c] 22] := HSc.sub (by repeat (first | exact List.nil_sublist _ | exact List.Sublist.refl _ | apply List.Sublist.cons_cons | apply List.Sublist.cons))
      refine ⟨fun _ => HTc, ?_⟩
      (repeat (first | (refine Cop.og_skip rfl rfl HTc _ (by (simp only [Act.put, List.setIfInBounds_toArray, List.set_cons_succ, List.set_cons_zero]; rfl)) ?_) | (refine Cop.og_take rfl rfl HTc ?_; apply Exists.intro; refine ⟨fun w9 h9 => ?_, _, by (simp only [Act.put, List.setIfInBounds_toArray, List.set_cons_succ, List.set_cons_zero]; rfl), ?_⟩; (go_simp; with_reducible rfl))))
      refine Cop.og_run rfl rfl ?_
      refine ow_apd HSc 2 rfl rfl (HSc.own 0 rfl).rd rfl rfl q.length q HQL.out HQ.out (by have := HQ64.out; omega) ?_
      intro x6 wd HSd
      obtain ⟨A6, c6, rfl, _⟩ := (HSd.own 2 rfl).sl
      have HTd : Sep B w0 wd [.row gp #[.slice Ax1 p1.length cx1] 22, .row gl #[.slice A l.length c] 22] := HSd.sub (by repeat (first | exact List.nil_sublist _ | exact List.Sublist.refl _ | apply List.Sublist.cons_cons | apply List.Sublist.cons))
      refine ⟨fun _ => HTd, ?_⟩
      (repeat (first | (refine Cop.og_skip rfl rfl HTd _ (by (simp only [Act.put, List.setIfInBounds_toArray, List.set_cons_succ, List.set_cons_zero]; rfl)) ?_) | (refine Cop.og_take rfl rfl HTd ?_; apply Exists.intro; refine ⟨fun w9 h9 => ?_, _, by (simp only [Act.put, List.setIfInBounds_toArray, List.set_cons_succ, List.set_cons_zero]; rfl), ?_⟩; (go_simp; with_reducible rfl))))
      refine Cop.og_run rfl rfl ?_
      refine ow_stc HSd 1 rfl 22 _ _ rfl (by kernel_rfl) 0 (by simp) (y := .slice A6 q.length c6) rfl rfl rfl rfl ?_
      intro we HSe
      refine ⟨fun h => absurd rfl h, ?_⟩
      refine og_fin ?_
      clear HSa HSb HSc HSd HTa HTb HTc HTd
      (go_wp2; refine bodyPost_ret (results_none rfl _ _ _) rfl ?_)
      exact ⟨rfl, .slice A6 q.length c6, HSe.tail⟩
  have h2 : 2 ≤ (seg l b e).length := by omega
  have hlt := hf_lt (n := n) (by omega)
  have hps := hf_pos n
  obtain ⟨k, hk⟩ : ∃ k, hf n = k := ⟨_, rfl⟩
  have hkT : hf (seg l b e).length = k := by rw [hTl, show e - b = n from by omega, hk]
  rw [hk] at hlt hps
  have CH := Lib.hid (fun w => half_a (ei - bi) w (by omega) (by omega))
  rw [show (ei - bi).toNat = n from by omega, hk] at CH
  have hT1 := HLT.out (seg l b e) (m - b) (decide (b = 0)) h2 (by omega)
  have hT2 := HGE.out (seg l b e) (m - b) (decide (b = 0)) h2 (by omega)
  rw [hkT, seg_take l b e k (by omega), seg_drop] at hT1 hT2
  have hne : ¬ (m : Int) = ei := by omega
  have hkb : (k : Int) ≤ 4398046511104 := by omega
  have hmb : bi + (k : Int) ≤ 4398046511104 := by omega
  have cw : w.cell? ⟨gw, 0, none⟩ = some (.func (.func 64) #[] #[.pointer (some ⟨gm, 0, none⟩), .pointer (some ⟨gp, 0, none⟩), .pointer (some ⟨gl, 0, none⟩), .pointer (some ⟨gw, 0, none⟩)]) := by rw [row_cell (HS0.row 2 rfl)]; rfl
  by_cases him : m - b ≤ k
  · have hTp := hT1 him
    obtain ⟨A1, c1, hR1, hs1, _, _⟩ := rd_seg hR0 HL.out (b + k) e (by omega) hbl
    have HRX := Lib.hid hR1
    have HSLX := Lib.hid (fun W => hs1 W .i64 .i64)
    rw [show ((b + k : Nat) : Int) = bi + (k : Int) from by omega, ← hei] at HSLX
    have hXl := HRL.out _ (seg_all HL.out (b + k) e)
    have hsl := seg_length l (b + k) e hbl
    have CRX := Lib.hid (fun w' (hb : Below B w0 w') (hv : Rd w' (.slice A1 (e - (b + k)) c1) (e - (b + k)) 32 (dcs (seg l (b + k) e))) => CR.out (seg l (b + k) e) w' _ hb (seg_all HL.out _ _) (by omega) (by rw [hsl]; exact hv))
    obtain ⟨X, hX⟩ : ∃ y, Rt (seg l (b + k) e) = y := ⟨_, rfl⟩
    obtain ⟨p1, hp1⟩ : ∃ y, p ++ Ts (seg l b (b + k)) (m - b) (decide (b = 0)) = y := ⟨_, rfl⟩
    obtain ⟨q, hqq⟩ : ∃ y, p1 ++ [X] = y := ⟨_, rfl⟩
    have hqe : p ++ Ts (seg l b e) (m - b) (decide (b = 0)) = q := by rw [hTp, ← List.append_assoc, hp1, hX, hqq]
    rw [hqe] at hq ⊢
    have HQ := Lib.hid hqq
    have HQL := Lib.hid (show p1.length + 1 = q.length by rw [← hqq, List.length_append]; rfl)
    have HQ64 := Lib.hid hq
    rw [hX] at CRX hXl
    have HXL := Lib.hid hXl
    have hrec := IH.out k hlt b (b + k) bi (bi + (k : Int)) x p w hbi (by omega) rfl (by omega) hbm (by omega) (by omega) (by rw [hp1]; have := HQL.out; omega) HS0
    rw [hp1] at hrec
    have HREC := Lib.hid hrec
    have him' : (m : Int) ≤ bi + (k : Int) := by omega
    clear IH hTl h2 hk hkT hT1 hT2 hR0 hTp hR1 hs1 hX hp1 hqq hqe hrec hXl hsl hbi hei hen him
    go_enter Tryd.func64, Tryd.ntmps64
    go_wp2_with fail
    (with_reducible refine Calls.mono (CH.out w) ?_)
    rintro e wh ⟨rfl, rfl⟩
    go_wp2_with fail
    (with_reducible refine Calls.mono HREC.out ?_)
    rintro e' w1 ⟨rfl, hx1⟩
    clear HREC cm cw HS0
    obtain ⟨x1, HS1⟩ := hx1
    obtain ⟨Ax1, cx1, rfl, _⟩ := (HS1.own 1 rfl).sl
    go_wp2
    refine Cop.region_ord (fun w' => Sep B w0 w' [.row gp #[.slice Ax1 p1.length cx1] 22, .row gl #[.slice A l.length c] 22]) 8 (.take 0 (.take 1 (.take 2 (.take 3 (.take 4 (.run 5 (.run 6 (.run 7 (.run 8 Cop.Ord.fin))))))))) (by kernel_rfl) (by kernel_rfl) (fun _ _ d _ _ h => by cases d <;> exact h) ?_
    intro wa hda
    have HSa := HS1.keep hda
    have HTa : Sep B w0 wa [.row gp #[.slice Ax1 p1.length cx1] 22, .row gl #[.slice A l.length c] 22] := HSa.sub (by repeat (first | exact List.nil_sublist _ | exact List.Sublist.refl _ | apply List.Sublist.cons_cons | apply List.Sublist.cons))
    (repeat (first | (refine Cop.og_skip rfl rfl HTa _ (by (simp only [Act.put, List.setIfInBounds_toArray, List.set_cons_succ, List.set_cons_zero]; rfl)) ?_) | (refine Cop.og_take rfl rfl HTa ?_; apply Exists.intro; refine ⟨fun w9 h9 => ?_, _, by (simp only [Act.put, List.setIfInBounds_toArray, List.set_cons_succ, List.set_cons_zero]; rfl), ?_⟩; (have c1 := (row_cell (h9.row 0 rfl) 0).trans (show (#[Value.slice Ax1 p1.length cx1] : Array Value)[0]? = some (.slice Ax1 p1.length cx1) from rfl); have c2 := (row_cell (h9.row 1 rfl) 0).trans (show (#[Value.slice A l.length c] : Array Value)[0]? = some (.slice A l.length c) from rfl); have e1 := HSLX.out w9; go_simp; with_reducible rfl))))
    refine Cop.og_run rfl rfl ?_
    refine ow_call 15 _ _ (fun w' => Below wa.heap.size wa w') (by go_simp) (CRX.out wa HSa.hb (HRX.out wa (HSa.rd 5 rfl))) ?_
    intro wb bb
    have HSb := HSa.keep bb
    have HTb := HTa.keep bb
    refine ⟨fun _ => HTb, ?_⟩
    (repeat (first | (refine Cop.og_skip rfl rfl HTb _ (by (simp only [Act.put, List.setIfInBounds_toArray, List.set_cons_succ, List.set_cons_zero]; rfl)) ?_) | (refine Cop.og_take rfl rfl HTb ?_; apply Exists.intro; refine ⟨fun w9 h9 => ?_, _, by (simp only [Act.put, List.setIfInBounds_toArray, List.set_cons_succ, List.set_cons_zero]; rfl), ?_⟩; (go_simp; with_reducible rfl))))
    refine Cop.og_run rfl rfl ?_
    refine ow_bd HSb _ rfl X HXL.out rfl ?_
    intro g5 wc HSc
    have HTc : Sep B w0 wc [.row gp #[.slice Ax1 p1.length cx1] 22, .row gl #[.slice A l.length c] 22] := HSc.sub (by repeat (first | exact List.nil_sublist _ | exact List.Sublist.refl _ | apply List.Sublist.cons_cons | apply List.Sublist.cons))
    refine ⟨fun _ => HTc, ?_⟩
    (repeat (first | (refine Cop.og_skip rfl rfl HTc _ (by (simp only [Act.put, List.setIfInBounds_toArray, List.set_cons_succ, List.set_cons_zero]; rfl)) ?_) | (refine Cop.og_take rfl rfl HTc ?_; apply Exists.intro; refine ⟨fun w9 h9 => ?_, _, by (simp only [Act.put, List.setIfInBounds_toArray, List.set_cons_succ, List.set_cons_zero]; rfl), ?_⟩; (go_simp; with_reducible rfl))))
    refine Cop.og_run rfl rfl ?_
    refine ow_apd HSc 2 rfl rfl (HSc.own 0 rfl).rd rfl rfl q.length q HQL.out HQ.out (by have := HQ64.out; omega) ?_
    intro x6 wd HSd
    obtain ⟨A6, c6, rfl, _⟩ := (HSd.own 2 rfl).sl
    have HTd : Sep B w0 wd [.row gp #[.slice Ax1 p1.length cx1] 22, .row gl #[.slice A l.length c] 22] := HSd.sub (by repeat (first | exact List.nil_sublist _ | exact List.Sublist.refl _ | apply List.Sublist.cons_cons | apply List.Sublist.cons))
    refine ⟨fun _ => HTd, ?_⟩
    (repeat (first | (refine Cop.og_skip rfl rfl HTd _ (by (simp only [Act.put, List.setIfInBounds_toArray, List.set_cons_succ, List.set_cons_zero]; rfl)) ?_) | (refine Cop.og_take rfl rfl HTd ?_; apply Exists.intro; refine ⟨fun w9 h9 => ?_, _, by (simp only [Act.put, List.setIfInBounds_toArray, List.set_cons_succ, List.set_cons_zero]; rfl), ?_⟩; (go_simp; with_reducible rfl))))
    refine Cop.og_run rfl rfl ?_
    refine ow_stc HSd 1 rfl 22 _ _ rfl (by kernel_rfl) 0 (by simp) (y := .slice A6 q.length c6) rfl rfl rfl rfl ?_
    intro we HSe
    refine ⟨fun h => absurd rfl h, ?_⟩
    refine og_fin ?_
    clear HSa HSb HSc HSd HTa HTb HTc HTd
    (go_wp2; refine bodyPost_ret (results_none rfl _ _ _) rfl ?_)
    exact ⟨rfl, .slice A6 q.length c6, HSe.tail⟩
  · have hTp := hT2 him
    obtain ⟨A1, c1, hR1, hs1, _, _⟩ := rd_seg hR0 HL.out b (b + k) (by omega) (by omega)
    have HRX := Lib.hid hR1
    have HSLX := Lib.hid (fun W => hs1 W .i64 .i64)
    rw [show ((b + k : Nat) : Int) = bi + (k : Int) from by omega, ← hbi] at HSLX
    have hXl := HRL.out _ (seg_all HL.out b (b + k))
    have hsl := seg_length l b (b + k) (by omega)
    have CRX := Lib.hid (fun w' (hb : Below B w0 w') (hv : Rd w' (.slice A1 (b + k - b) c1) (b + k - b) 32 (dcs (seg l b (b + k)))) => CR.out (seg l b (b + k)) w' _ hb (seg_all HL.out _ _) (by omega) (by rw [hsl]; exact hv))
    obtain ⟨X, hX⟩ : ∃ y, Rt (seg l b (b + k)) = y := ⟨_, rfl⟩
    obtain ⟨p1, hp1⟩ : ∃ y, p ++ Ts (seg l (b + k) e) (m - (b + k)) false = y := ⟨_, rfl⟩
    obtain ⟨q, hqq⟩ : ∃ y, p1 ++ [X] = y := ⟨_, rfl⟩
    have hqe : p ++ Ts (seg l b e) (m - b) (decide (b = 0)) = q := by rw [hTp, show m - b - k = m - (b + k) from by omega, ← List.append_assoc, hp1, hX, hqq]
    rw [hqe] at hq ⊢
    have HQ := Lib.hid hqq
    have HQL := Lib.hid (show p1.length + 1 = q.length by rw [← hqq, List.length_append]; rfl)
    have HQ64 := Lib.hid hq
    rw [hX] at CRX hXl
    have HXL := Lib.hid hXl
    have hd0 : decide (b + k = 0) = false := by simp; omega
    have hrec := IH.out (n - k) (by omega) (b + k) e (bi + (k : Int)) ei x p w (by omega) hei (by omega) (by omega) (by omega) hme hbl (by rw [hd0, hp1]; have := HQL.out; omega) HS0
    rw [hd0, hp1] at hrec
    have HREC := Lib.hid hrec
    have him' : ¬ (m : Int) ≤ bi + (k : Int) := by omega
    clear IH hTl h2 hk hkT hT1 hT2 hR0 hTp hR1 hs1 hX hp1 hqq hqe hrec hXl hsl hbi hei hen him hd0
    go_enter Tryd.func64, Tryd.ntmps64
    go_wp2_with fail
    (with_reducible refine Calls.mono (CH.out w) ?_)
    rintro e wh ⟨rfl, rfl⟩
    go_wp2_with fail
    (with_reducible refine Calls.mono HREC.out ?_)
    rintro e' w1 ⟨rfl, hx1⟩
    clear HREC cm cw HS0
    obtain ⟨x1, HS1⟩ := hx1
    obtain ⟨Ax1, cx1, rfl, _⟩ := (HS1.own 1 rfl).sl
    go_wp2
    refine Cop.region_ord (fun w' => Sep B w0 w' [.row gp #[.slice Ax1 p1.length cx1] 22, .row gl #[.slice A l.length c] 22]) 8 (.take 0 (.take 1 (.take 2 (.take 3 (.take 4 (.run 5 (.run 6 (.run 7 (.run 8 Cop.Ord.fin))))))))) (by kernel_rfl) (by kernel_rfl) (fun _ _ d _ _ h => by cases d <;> exact h) ?_
    intro wa hda
    have HSa := HS1.keep hda
    have HTa : Sep B w0 wa [.row gp #[.slice Ax1 p1.length cx1] 22, .row gl #[.slice A l.length c] 22] := HSa.sub (by repeat (first | exact List.nil_sublist _ | exact List.Sublist.refl _ | apply List.Sublist.cons_cons | apply List.Sublist.cons))
    (repeat (first | (refine Cop.og_skip rfl rfl HTa _ (by (simp only [Act.put, List.setIfInBounds_toArray, List.set_cons_succ, List.set_cons_zero]; rfl)) ?_) | (refine Cop.og_take rfl rfl HTa ?_; apply Exists.intro; refine ⟨fun w9 h9 => ?_, _, by (simp only [Act.put, List.setIfInBounds_toArray, List.set_cons_succ, List.set_cons_zero]; rfl), ?_⟩; (have c1 := (row_cell (h9.row 0 rfl) 0).trans (show (#[Value.slice Ax1 p1.length cx1] : Array Value)[0]? = some (.slice Ax1 p1.length cx1) from rfl); have c2 := (row_cell (h9.row 1 rfl) 0).trans (show (#[Value.slice A l.length c] : Array Value)[0]? = some (.slice A l.length c) from rfl); have e1 := HSLX.out w9; go_simp; with_reducible rfl))))
    refine Cop.og_run rfl rfl ?_
    refine ow_call 15 _ _ (fun w' => Below wa.heap.size wa w') (by go_simp) (CRX.out wa HSa.hb (HRX.out wa (HSa.rd 5 rfl))) ?_
    intro wb bb
    have HSb := HSa.keep bb
    have HTb := HTa.keep bb
    refine ⟨fun _ => HTb, ?_⟩
    (repeat (first | (refine Cop.og_skip rfl rfl HTb _ (by (simp only [Act.put, List.setIfInBounds_toArray, List.set_cons_succ, List.set_cons_zero]; rfl)) ?_) | (refine Cop.og_take rfl rfl HTb ?_; apply Exists.intro; refine ⟨fun w9 h9 => ?_, _, by (simp only [Act.put, List.setIfInBounds_toArray, List.set_cons_succ, List.set_cons_zero]; rfl), ?_⟩; (go_simp; with_reducible rfl))))
    refine Cop.og_run rfl rfl ?_
    refine ow_bd HSb _ rfl X HXL.out rfl ?_
    intro g5 wc HSc
    have HTc : Sep B w0 wc [.row gp #[.slice Ax1 p1.length cx1] 22, .row gl #[.slice A l.length c] 22] := HSc.sub (by repeat (first | exact List.nil_sublist _ | exact List.Sublist.refl _ | apply List.Sublist.cons_cons | apply List.Sublist.cons))
    refine ⟨fun _ => HTc, ?_⟩
    (repeat (first | (refine Cop.og_skip rfl rfl HTc _ (by (simp only [Act.put, List.setIfInBounds_toArray, List.set_cons_succ, List.set_cons_zero]; rfl)) ?_) | (refine Cop.og_take rfl rfl HTc ?_; apply Exists.intro; refine ⟨fun w9 h9 => ?_, _, by (simp only [Act.put, List.setIfInBounds_toArray, List.set_cons_succ, List.set_cons_zero]; rfl), ?_⟩; (go_simp; with_reducible rfl))))
    refine Cop.og_run rfl rfl ?_
    refine ow_apd HSc 2 rfl rfl (HSc.own 0 rfl).rd rfl rfl q.length q HQL.out HQ.out (by have := HQ64.out; omega) ?_
    intro x6 wd HSd
    obtain ⟨A6, c6, rfl, _⟩ := (HSd.own 2 rfl).sl
    have HTd : Sep B w0 wd [.row gp #[.slice Ax1 p1.length cx1] 22, .row gl #[.slice A l.length c] 22] := HSd.sub (by repeat (first | exact List.nil_sublist _ | exact List.Sublist.refl _ | apply List.Sublist.cons_cons | apply List.Sublist.cons))
    refine ⟨fun _ => HTd, ?_⟩
    (repeat (first | (refine Cop.og_skip rfl rfl HTd _ (by (simp only [Act.put, List.setIfInBounds_toArray, List.set_cons_succ, List.set_cons_zero]; rfl)) ?_) | (refine Cop.og_take rfl rfl HTd ?_; apply Exists.intro; refine ⟨fun w9 h9 => ?_, _, by (simp only [Act.put, List.setIfInBounds_toArray, List.set_cons_succ, List.set_cons_zero]; rfl), ?_⟩; (go_simp; with_reducible rfl))))
    refine Cop.og_run rfl rfl ?_
    refine ow_stc HSd 1 rfl 22 _ _ rfl (by kernel_rfl) 0 (by simp) (y := .slice A6 q.length c6) rfl rfl rfl rfl ?_
    intro we HSe
    refine ⟨fun h => absurd rfl h, ?_⟩
    refine og_fin ?_
    clear HSa HSb HSc HSd HTa HTb HTc HTd
    (go_wp2; go_end0)
    exact ⟨rfl, .slice A6 q.length c6, HSe.tail⟩
end Go.Proofs.YtbdmehgbdnninaaDoor
