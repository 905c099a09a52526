/- Proved here: the proofs of any tree lead to its roots, and have the lengths that are told. The table of constants is tied to the program's text. No condition. -/
import Derived.Test.YtbdmehgbdnninaaDoorMVb1
import Derived.Test.YtbdmehgbdnninaaDoorMVb0
import Derived.Test.YtbdmehgbdnninaaDoorTz
import Derived.Deep.DeepCutAuto
import Derived.Test.YtbdmehgbdnninaaDoorFVerifyBack
namespace Go.Proofs.YtbdmehgbdnninaaDoor
open Go.RowKit Cop
set_option linter.unusedVariables false
set_option linter.unusedSimpArgs false
theorem tsteps_all : ∀ (n : Nat) (l : List (List UInt8)), AllD l → l.length = n → ∀ m wh, AllD (tsteps nodeD (sha []) l m wh) := by
  intro n
  induction n using Nat.strongRecOn with
  | ind n ih =>
    intro l hl hn m wh
    by_cases h : l.length < 2 ∨ m = l.length
    · rw [tsteps_end _ _ h]
      cases wh
      · intro x hx; simp at hx; subst hx; exact root_length _ hl
      · intro x hx; simp at hx
    · have h2 : 2 ≤ l.length := by omega
      have h1 := hf_lt h2
      have hp := hf_pos l.length
      by_cases hi : m ≤ hf l.length
      · rw [tsteps_le _ _ h2 (by omega) hi]
        intro x hx
        rcases List.mem_append.1 hx with hx | hx
        · exact ih (hf l.length) (by omega) _ (hl.take _) (by rw [List.length_take, Nat.min_eq_left (by omega)]) _ _ x hx
        · simp at hx; subst hx; exact root_length _ (hl.drop _)
      · rw [tsteps_gt _ _ h2 (by omega) hi]
        intro x hx
        rcases List.mem_append.1 hx with hx | hx
        · exact ih (l.length - hf l.length) (by omega) _ (hl.drop _) (by rw [List.length_drop]) _ _ x hx
        · simp at hx; subst hx; exact root_length _ (hl.take _)
theorem tsteps_len64 (l : List (List UInt8)) (hll : l.length ≤ 4398046511104) (m : Nat) (wh : Bool) (h1 : 1 ≤ m) (hm : m ≤ l.length) : (tsteps nodeD (sha []) l m wh).length ≤ 64 := by
  obtain ⟨c, r, e1, e2, _, e4, e5⟩ := steps_tsteps nodeD (sha []) l.length l rfl m h1 hm
  have hs := steps_len 42 l.length m (by rw [show 2 ^ 42 = 4398046511104 from rfl]; exact hll)
  cases wh with
  | false => rw [e1]; simp only [List.length_cons]; omega
  | true =>
    cases hw : (steps m l.length).2 with
    | true => rw [(e4 hw).2]; omega
    | false => rw [e5 hw]; simp only [List.length_cons]; omega
/-- What the inner function of Consistency knows. -/
def cons (gp gw gm gl : Nat) (x : Value) (p l : List (List UInt8)) (m : Nat) (A : Option Addr) (c : Nat) (R : List Pc) : List Pc :=
  .row gp #[x] 22 :: .own x 26 32 p.length (dcs p) :: .row gw #[.func (.func 64) #[] #[.pointer (some ⟨gm, 0, none⟩), .pointer (some ⟨gp, 0, none⟩), .pointer (some ⟨gl, 0, none⟩), .pointer (some ⟨gw, 0, none⟩)]] 92
    :: .row gm #[.int .i64 (m : Int)] 3 :: .row gl #[.slice A l.length c] 22 :: .rd (.slice A l.length c) l.length 32 (dcs l) :: R
set_option maxRecDepth 100000 in
set_option maxHeartbeats 8000000 in
theorem cons_gen (l : List (List UInt8)) (Rt : List (List UInt8) → List UInt8) (Ts : List (List UInt8) → Nat → Bool → List (List UInt8)) (A : Option Addr) (c : Nat) (B : Nat) (w0 : World) (m gp gw gm gl : Nat) (R : List Pc) (hl : AllD l) (hll : l.length ≤ 4398046511104)
    (hrl : ∀ l, AllD l → (Rt l).length = 32) (h1 : ∀ l, Ts l l.length true = []) (h1' : ∀ l, Ts l l.length false = [Rt l])
    (hlt : ∀ l m wh, 2 ≤ l.length → m ≠ l.length → m ≤ hf l.length → Ts l m wh = Ts (l.take (hf l.length)) m wh ++ [Rt (l.drop (hf l.length))])
    (hge : ∀ l m wh, 2 ≤ l.length → m ≠ l.length → ¬ m ≤ hf l.length → Ts l m wh = Ts (l.drop (hf l.length)) (m - hf l.length) false ++ [Rt (l.take (hf l.length))])
    (hCR : ∀ l' w' v', Below B w0 w' → AllD l' → l'.length ≤ 4398046511104 → Rd w' v' l'.length 32 (dcs l') → Gives 15 #[v'] w' (.agg (bv (Rt l')))) :
    ∀ (n b e : Nat) (bi ei : Int) (x : Value) (p : List (List UInt8)) (w : World), bi = (b : Int) → ei = (e : Int) → e = b + n → 1 ≤ n → b < m → m ≤ e → e ≤ l.length → (p ++ Ts (seg l b e) (m - b) (decide (b = 0))).length ≤ 1000 →
      Sep B w0 w (cons gp gw gm gl x p l m A c R) →
      Calls Tryd.prog 64 #[.int .i64 bi, .int .i64 ei, .pointer (some ⟨gm, 0, none⟩), .pointer (some ⟨gp, 0, none⟩), .pointer (some ⟨gl, 0, none⟩), .pointer (some ⟨gw, 0, none⟩)] w fun e' w' => e' = .returned (.tuple #[]) ∧ ∃ x', Sep B w0 w' (cons gp gw gm gl x' (p ++ Ts (seg l b e) (m - b) (decide (b = 0))) l m A c R) := by
  have HL := Lib.hid hl
  have HRL := Lib.hid hrl
  have H1 := Lib.hid h1
  have H1' := Lib.hid h1'
  have HLT := Lib.hid hlt
  have HGE := Lib.hid hge
  have CR := Lib.hid hCR
  clear hl hrl h1 h1' hlt hge hCR
  intro n
  induction n using Nat.strongRecOn with
  | ind n ih =>
  intro b e bi ei x p w hbi hei hen hn hbm hme hbl hq HS0
  have IH := Lib.hid ih
  clear ih
  have hTl := seg_length l b e hbl
  have hb0 : 0 ≤ bi := by omega
  have he0 : ei ≤ 4398046511104 := by omega
  have hbe : bi < ei := by omega
  have he1 : 0 ≤ ei := by omega
  have hb1 : bi ≤ 4398046511104 := by omega
  have hm1 : m ≤ 4398046511104 := by omega
  have hR0 : Rd w (.slice A l.length c) l.length 32 (dcs l) := HS0.rd 5 rfl
  have cm : w.cell? ⟨gm, 0, none⟩ = some (.int .i64 (m : Int)) := by rw [row_cell (HS0.row 3 rfl)]; rfl
  by_cases hone : m = e
  · have hme' : (m : Int) = ei := by omega
    have hmb : m - b = (seg l b e).length := by omega
    by_cases hbz : b = 0
    · have hbz' : ¬ 0 < bi := by omega
      rw [hmb, show decide (b = 0) = true from by simpa using hbz, H1.out, List.append_nil]
      clear IH hTl hbi hei hen hone hR0 hq hmb hbz
      go_enter Tryd.func64, Tryd.ntmps64
      go_wp2
      refine bodyPost_ret (results_none rfl _ _ _) rfl ?_
      exact ⟨rfl, x, HS0⟩
    · have hbz' : 0 < bi := by omega
      rw [hmb, show decide (b = 0) = false from by simpa using hbz, H1'.out] at hq ⊢
      obtain ⟨A1, c1, hR1, hs1, _, _⟩ := rd_seg hR0 HL.out b e (by omega) hbl
      have HRX := Lib.hid hR1
      have HSLX := Lib.hid (fun W => hs1 W .i64 .i64)
      rw [← hbi, ← hei] at HSLX
      have hXl := HRL.out _ (seg_all HL.out b e)
      have CRX := Lib.hid (fun w' (hb : Below B w0 w') (hv : Rd w' (.slice A1 (e - b) c1) (e - b) 32 (dcs (seg l b e))) => CR.out (seg l b e) w' _ hb (seg_all HL.out _ _) (by omega) (by rw [hTl]; exact hv))
      obtain ⟨X, hX⟩ : ∃ y, Rt (seg l b e) = y := ⟨_, rfl⟩
      obtain ⟨p1, hp1⟩ : ∃ y, p = y := ⟨_, rfl⟩
      rw [hp1, hX] at hq ⊢
      obtain ⟨q, hqq⟩ : ∃ y, p1 ++ [X] = y := ⟨_, rfl⟩
      rw [hqq] at hq ⊢
      have HQ := Lib.hid hqq
      have HQL := Lib.hid (show p1.length + 1 = q.length by rw [← hqq, List.length_append]; rfl)
      have HQ64 := Lib.hid hq
      rw [hX] at CRX hXl
      have HXL := Lib.hid hXl
      rw [hp1] at HS0
      have hx1 : ∃ x', Sep B w0 w (cons gp gw gm gl x' p1 l m A c R) := ⟨x, HS0⟩
      clear IH hTl hbi hei hen hone hR0 hq hmb hbz hX hp1 hqq hXl hR1 hs1 HS0 hme hbm hn hbl
      go_enter Tryd.func64, Tryd.ntmps64
      obtain ⟨x1, HS1⟩ := hx1
      obtain ⟨Ax1, cx1, rfl, _⟩ := (HS1.own 1 rfl).sl
      go_wp2
      refine Cop.region_ord (fun w' => Sep B w0 w' [.row gp #[.slice Ax1 p1.length cx1] 22, .row gl #[.slice A l.length c] 22]) 8 (.take 0 (.take 1 (.take 2 (.take 3 (.take 4 (.run 5 (.run 6 (.run 7 (.run 8 Cop.Ord.fin))))))))) (by kernel_rfl) (by kernel_rfl) (fun _ _ d _ _ h => by cases d <;> exact h) ?_
      intro wa hda
      have HSa := HS1.keep hda
      have HTa : Sep B w0 wa [.row gp #[.slice Ax1 p1.length cx1] 22, .row gl #[.slice A l.length c] 22] := HSa.sub (by repeat (first | exact List.nil_sublist _ | exact List.Sublist.refl _ | apply List.Sublist.cons_cons | apply List.Sublist.cons))
      (repeat (first | (refine Cop.og_skip rfl rfl HTa _ (by (simp only [Act.put, List.setIfInBounds_toArray, List.set_cons_succ, List.set_cons_zero]; rfl)) ?_) | (refine Cop.og_take rfl rfl HTa ?_; apply Exists.intro; refine ⟨fun w9 h9 => ?_, _, by (simp only [Act.put, List.setIfInBounds_toArray, List.set_cons_succ, List.set_cons_zero]; rfl), ?_⟩; (have c1 := (row_cell (h9.row 0 rfl) 0).trans (show (#[Value.slice Ax1 p1.length cx1] : Array Value)[0]? = some (.slice Ax1 p1.length cx1) from rfl); have c2 := (row_cell (h9.row 1 rfl) 0).trans (show (#[Value.slice A l.length c] : Array Value)[0]? = some (.slice A l.length c) from rfl); have e1 := HSLX.out w9; go_simp; with_reducible rfl))))
      refine Cop.og_run rfl rfl ?_
      refine ow_call 15 _ _ (fun w' => Below wa.heap.size wa w') (by go_simp) (CRX.out wa HSa.hb (HRX.out wa (HSa.rd 5 rfl))) ?_
      intro wb bb
      have HSb := HSa.keep bb
      have HTb := HTa.keep bb
      refine ⟨fun _ => HTb, ?_⟩
      (repeat (first | (refine Cop.og_skip rfl rfl HTb _ (by (simp only [Act.put, List.setIfInBounds_toArray, List.set_cons_succ, List.set_cons_zero]; rfl)) ?_) | (refine Cop.og_take rfl rfl HTb ?_; apply Exists.intro; refine ⟨fun w9 h9 => ?_, _, by (simp only [Act.put, List.setIfInBounds_toArray, List.set_cons_succ, List.set_cons_zero]; rfl), ?_⟩; (go_simp; with_reducible rfl))))
      refine Cop.og_run rfl rfl ?_
      refine ow_bd HSb _ rfl X HXL.out rfl ?_
      intro g5 wc HSc
      have HTc : Sep B w0 wc [.row gp #[.slice Ax1 p1.length cx1] 22, .row gl #[.slice A l.length c] 22] := HSc.sub (by repeat (first | exact List.nil_sublist _ | exact List.Sublist.refl _ | apply List.Sublist.cons_cons | apply List.Sublist.cons))
      refine ⟨fun _ => HTc, ?_⟩
      (repeat (first | (refine Cop.og_skip rfl rfl HTc _ (by (simp only [Act.put, List.setIfInBounds_toArray, List.set_cons_succ, List.set_cons_zero]; rfl)) ?_) | (refine Cop.og_take rfl rfl HTc ?_; apply Exists.intro; refine ⟨fun w9 h9 => ?_, _, by (simp only [Act.put, List.setIfInBounds_toArray, List.set_cons_succ, List.set_cons_zero]; rfl), ?_⟩; (go_simp; with_reducible rfl))))
      refine Cop.og_run rfl rfl ?_
      refine ow_apd HSc 2 rfl rfl (HSc.own 0 rfl).rd rfl rfl q.length q HQL.out HQ.out (by have := HQ64.out; omega) ?_
      intro x6 wd HSd
      obtain ⟨A6, c6, rfl, _⟩ := (HSd.own 2 rfl).sl
      have HTd : Sep B w0 wd [.row gp #[.slice Ax1 p1.length cx1] 22, .row gl #[.slice A l.length c] 22] := HSd.sub (by repeat (first | exact List.nil_sublist _ | exact List.Sublist.refl _ | apply List.Sublist.cons_cons | apply List.Sublist.cons))
      refine ⟨fun _ => HTd, ?_⟩
      (repeat (first | (refine Cop.og_skip rfl rfl HTd _ (by (simp only [Act.put, List.setIfInBounds_toArray, List.set_cons_succ, List.set_cons_zero]; rfl)) ?_) | (refine Cop.og_take rfl rfl HTd ?_; apply Exists.intro; refine ⟨fun w9 h9 => ?_, _, by (simp only [Act.put, List.setIfInBounds_toArray, List.set_cons_succ, List.set_cons_zero]; rfl), ?_⟩; (go_simp; with_reducible rfl))))
      refine Cop.og_run rfl rfl ?_
      refine ow_stc HSd 1 rfl 22 _ _ rfl (by kernel_rfl) 0 (by simp) (y := .slice A6 q.length c6) rfl rfl rfl rfl ?_
      intro we HSe
      refine ⟨fun h => absurd rfl h, ?_⟩
      refine og_fin ?_
      clear HSa HSb HSc HSd HTa HTb HTc HTd
      (go_wp2; refine bodyPost_ret (results_none rfl _ _ _) rfl ?_)
      exact ⟨rfl, .slice A6 q.length c6, HSe.tail⟩
  have h2 : 2 ≤ (seg l b e).length := by omega
  have hlt := hf_lt (n := n) (by omega)
  have hps := hf_pos n
  obtain ⟨k, hk⟩ : ∃ k, hf n = k := ⟨_, rfl⟩
  have hkT : hf (seg l b e).length = k := by rw [hTl, show e - b = n from by omega, hk]
  rw [hk] at hlt hps
  have CH := Lib.hid (fun w => half_a (ei - bi) w (by omega) (by omega))
  rw [show (ei - bi).toNat = n from by omega, hk] at CH
  have hT1 := HLT.out (seg l b e) (m - b) (decide (b = 0)) h2 (by omega)
  have hT2 := HGE.out (seg l b e) (m - b) (decide (b = 0)) h2 (by omega)
  rw [hkT, seg_take l b e k (by omega), seg_drop] at hT1 hT2
  have hne : ¬ (m : Int) = ei := by omega
  have hkb : (k : Int) ≤ 4398046511104 := by omega
  have hmb : bi + (k : Int) ≤ 4398046511104 := by omega
  have cw : w.cell? ⟨gw, 0, none⟩ = some (.func (.func 64) #[] #[.pointer (some ⟨gm, 0, none⟩), .pointer (some ⟨gp, 0, none⟩), .pointer (some ⟨gl, 0, none⟩), .pointer (some ⟨gw, 0, none⟩)]) := by rw [row_cell (HS0.row 2 rfl)]; rfl
  by_cases him : m - b ≤ k
  · have hTp := hT1 him
    obtain ⟨A1, c1, hR1, hs1, _, _⟩ := rd_seg hR0 HL.out (b + k) e (by omega) hbl
    have HRX := Lib.hid hR1
    have HSLX := Lib.hid (fun W => hs1 W .i64 .i64)
    rw [show ((b + k : Nat) : Int) = bi + (k : Int) from by omega, ← hei] at HSLX
    have hXl := HRL.out _ (seg_all HL.out (b + k) e)
    have hsl := seg_length l (b + k) e hbl
    have CRX := Lib.hid (fun w' (hb : Below B w0 w') (hv : Rd w' (.slice A1 (e - (b + k)) c1) (e - (b + k)) 32 (dcs (seg l (b + k) e))) => CR.out (seg l (b + k) e) w' _ hb (seg_all HL.out _ _) (by omega) (by rw [hsl]; exact hv))
    obtain ⟨X, hX⟩ : ∃ y, Rt (seg l (b + k) e) = y := ⟨_, rfl⟩
    obtain ⟨p1, hp1⟩ : ∃ y, p ++ Ts (seg l b (b + k)) (m - b) (decide (b = 0)) = y := ⟨_, rfl⟩
    obtain ⟨q, hqq⟩ : ∃ y, p1 ++ [X] = y := ⟨_, rfl⟩
    have hqe : p ++ Ts (seg l b e) (m - b) (decide (b = 0)) = q := by rw [hTp, ← List.append_assoc, hp1, hX, hqq]
    rw [hqe] at hq ⊢
    have HQ := Lib.hid hqq
    have HQL := Lib.hid (show p1.length + 1 = q.length by rw [← hqq, List.length_append]; rfl)
    have HQ64 := Lib.hid hq
    rw [hX] at CRX hXl
    have HXL := Lib.hid hXl
    have hrec := IH.out k hlt b (b + k) bi (bi + (k : Int)) x p w hbi (by omega) rfl (by omega) hbm (by omega) (by omega) (by rw [hp1]; have := HQL.out; omega) HS0
    rw [hp1] at hrec
    have HREC := Lib.hid hrec
    have him' : (m : Int) ≤ bi + (k : Int) := by omega
    clear IH hTl h2 hk hkT hT1 hT2 hR0 hTp hR1 hs1 hX hp1 hqq hqe hrec hXl hsl hbi hei hen him
    go_enter Tryd.func64, Tryd.ntmps64
    go_wp2_with fail
    (with_reducible refine Calls.mono (CH.out w) ?_)
    rintro e wh ⟨rfl, rfl⟩
    go_wp2_with fail
    (with_reducible refine Calls.mono HREC.out ?_)
    rintro e' w1 ⟨rfl, hx1⟩
    clear HREC cm cw HS0
    obtain ⟨x1, HS1⟩ := hx1
    obtain ⟨Ax1, cx1, rfl, _⟩ := (HS1.own 1 rfl).sl
    go_wp2
    refine Cop.region_ord (fun w' => Sep B w0 w' [.row gp #[.slice Ax1 p1.length cx1] 22, .row gl #[.slice A l.length c] 22]) 8 (.take 0 (.take 1 (.take 2 (.take 3 (.take 4 (.run 5 (.run 6 (.run 7 (.run 8 Cop.Ord.fin))))))))) (by kernel_rfl) (by kernel_rfl) (fun _ _ d _ _ h => by cases d <;> exact h) ?_
    intro wa hda
    have HSa := HS1.keep hda
    have HTa : Sep B w0 wa [.row gp #[.slice Ax1 p1.length cx1] 22, .row gl #[.slice A l.length c] 22] := HSa.sub (by repeat (first | exact List.nil_sublist _ | exact List.Sublist.refl _ | apply List.Sublist.cons_cons | apply List.Sublist.cons))
    (repeat (first | (refine Cop.og_skip rfl rfl HTa _ (by (simp only [Act.put, List.setIfInBounds_toArray, List.set_cons_succ, List.set_cons_zero]; rfl)) ?_) | (refine Cop.og_take rfl rfl HTa ?_; apply Exists.intro; refine ⟨fun w9 h9 => ?_, _, by (simp only [Act.put, List.setIfInBounds_toArray, List.set_cons_succ, List.set_cons_zero]; rfl), ?_⟩; (have c1 := (row_cell (h9.row 0 rfl) 0).trans (show (#[Value.slice Ax1 p1.length cx1] : Array Value)[0]? = some (.slice Ax1 p1.length cx1) from rfl); have c2 := (row_cell (h9.row 1 rfl) 0).trans (show (#[Value.slice A l.length c] : Array Value)[0]? = some (.slice A l.length c) from rfl); have e1 := HSLX.out w9; go_simp; with_reducible rfl))))
    refine Cop.og_run rfl rfl ?_
    refine ow_call 15 _ _ (fun w' => Below wa.heap.size wa w') (by go_simp) (CRX.out wa HSa.hb (HRX.out wa (HSa.rd 5 rfl))) ?_
    intro wb bb
    have HSb := HSa.keep bb
    have HTb := HTa.keep bb
    refine ⟨fun _ => HTb, ?_⟩
    (repeat (first | (refine Cop.og_skip rfl rfl HTb _ (by (simp only [Act.put, List.setIfInBounds_toArray, List.set_cons_succ, List.set_cons_zero]; rfl)) ?_) | (refine Cop.og_take rfl rfl HTb ?_; apply Exists.intro; refine ⟨fun w9 h9 => ?_, _, by (simp only [Act.put, List.setIfInBounds_toArray, List.set_cons_succ, List.set_cons_zero]; rfl), ?_⟩; (go_simp; with_reducible rfl))))
    refine Cop.og_run rfl rfl ?_
    refine ow_bd HSb _ rfl X HXL.out rfl ?_
    intro g5 wc HSc
    have HTc : Sep B w0 wc [.row gp #[.slice Ax1 p1.length cx1] 22, .row gl #[.slice A l.length c] 22] := HSc.sub (by repeat (first | exact List.nil_sublist _ | exact List.Sublist.refl _ | apply List.Sublist.cons_cons | apply List.Sublist.cons))
    refine ⟨fun _ => HTc, ?_⟩
    (repeat (first | (refine Cop.og_skip rfl rfl HTc _ (by (simp only [Act.put, List.setIfInBounds_toArray, List.set_cons_succ, List.set_cons_zero]; rfl)) ?_) | (refine Cop.og_take rfl rfl HTc ?_; apply Exists.intro; refine ⟨fun w9 h9 => ?_, _, by (simp only [Act.put, List.setIfInBounds_toArray, List.set_cons_succ, List.set_cons_zero]; rfl), ?_⟩; (go_simp; with_reducible rfl))))
    refine Cop.og_run rfl rfl ?_
    refine ow_apd HSc 2 rfl rfl (HSc.own 0 rfl).rd rfl rfl q.length q HQL.out HQ.out (by have := HQ64.out; omega) ?_
    intro x6 wd HSd
    obtain ⟨A6, c6, rfl, _⟩ := (HSd.own 2 rfl).sl
    have HTd : Sep B w0 wd [.row gp #[.slice Ax1 p1.length cx1] 22, .row gl #[.slice A l.length c] 22] := HSd.sub (by repeat (first | exact List.nil_sublist _ | exact List.Sublist.refl _ | apply List.Sublist.cons_cons | apply List.Sublist.cons))
    refine ⟨fun _ => HTd, ?_⟩
    (repeat (first | (refine Cop.og_skip rfl rfl HTd _ (by (simp only [Act.put, List.setIfInBounds_toArray, List.set_cons_succ, List.set_cons_zero]; rfl)) ?_) | (refine Cop.og_take rfl rfl HTd ?_; apply Exists.intro; refine ⟨fun w9 h9 => ?_, _, by (simp only [Act.put, List.setIfInBounds_toArray, List.set_cons_succ, List.set_cons_zero]; rfl), ?_⟩; (go_simp; with_reducible rfl))))
    refine Cop.og_run rfl rfl ?_
    refine ow_stc HSd 1 rfl 22 _ _ rfl (by kernel_rfl) 0 (by simp) (y := .slice A6 q.length c6) rfl rfl rfl rfl ?_
    intro we HSe
    refine ⟨fun h => absurd rfl h, ?_⟩
    refine og_fin ?_
    clear HSa HSb HSc HSd HTa HTb HTc HTd
    (go_wp2; refine bodyPost_ret (results_none rfl _ _ _) rfl ?_)
    exact ⟨rfl, .slice A6 q.length c6, HSe.tail⟩
  · have hTp := hT2 him
    obtain ⟨A1, c1, hR1, hs1, _, _⟩ := rd_seg hR0 HL.out b (b + k) (by omega) (by omega)
    have HRX := Lib.hid hR1
    have HSLX := Lib.hid (fun W => hs1 W .i64 .i64)
    rw [show ((b + k : Nat) : Int) = bi + (k : Int) from by omega, ← hbi] at HSLX
    have hXl := HRL.out _ (seg_all HL.out b (b + k))
    have hsl := seg_length l b (b + k) (by omega)
    have CRX := Lib.hid (fun w' (hb : Below B w0 w') (hv : Rd w' (.slice A1 (b + k - b) c1) (b + k - b) 32 (dcs (seg l b (b + k)))) => CR.out (seg l b (b + k)) w' _ hb (seg_all HL.out _ _) (by omega) (by rw [hsl]; exact hv))
    obtain ⟨X, hX⟩ : ∃ y, Rt (seg l b (b + k)) = y := ⟨_, rfl⟩
    obtain ⟨p1, hp1⟩ : ∃ y, p ++ Ts (seg l (b + k) e) (m - (b + k)) false = y := ⟨_, rfl⟩
    obtain ⟨q, hqq⟩ : ∃ y, p1 ++ [X] = y := ⟨_, rfl⟩
    have hqe : p ++ Ts (seg l b e) (m - b) (decide (b = 0)) = q := by rw [hTp, show m - b - k = m - (b + k) from by omega, ← List.append_assoc, hp1, hX, hqq]
    rw [hqe] at hq ⊢
    have HQ := Lib.hid hqq
    have HQL := Lib.hid (show p1.length + 1 = q.length by rw [← hqq, List.length_append]; rfl)
    have HQ64 := Lib.hid hq
    rw [hX] at CRX hXl
    have HXL := Lib.hid hXl
    have hd0 : decide (b + k = 0) = false := by simp; omega
    have hrec := IH.out (n - k) (by omega) (b + k) e (bi + (k : Int)) ei x p w (by omega) hei (by omega) (by omega) (by omega) hme hbl (by rw [hd0, hp1]; have := HQL.out; omega) HS0
    rw [hd0, hp1] at hrec
    have HREC := Lib.hid hrec
    have him' : ¬ (m : Int) ≤ bi + (k : Int) := by omega
    clear IH hTl h2 hk hkT hT1 hT2 hR0 hTp hR1 hs1 hX hp1 hqq hqe hrec hXl hsl hbi hei hen him hd0
    go_enter Tryd.func64, Tryd.ntmps64
    go_wp2_with fail
    (with_reducible refine Calls.mono (CH.out w) ?_)
    rintro e wh ⟨rfl, rfl⟩
    go_wp2_with fail
    (with_reducible refine Calls.mono HREC.out ?_)
    rintro e' w1 ⟨rfl, hx1⟩
    clear HREC cm cw HS0
    obtain ⟨x1, HS1⟩ := hx1
    obtain ⟨Ax1, cx1, rfl, _⟩ := (HS1.own 1 rfl).sl
    go_wp2
    refine Cop.region_ord (fun w' => Sep B w0 w' [.row gp #[.slice Ax1 p1.length cx1] 22, .row gl #[.slice A l.length c] 22]) 8 (.take 0 (.take 1 (.take 2 (.take 3 (.take 4 (.run 5 (.run 6 (.run 7 (.run 8 Cop.Ord.fin))))))))) (by kernel_rfl) (by kernel_rfl) (fun _ _ d _ _ h => by cases d <;> exact h) ?_
    intro wa hda
    have HSa := HS1.keep hda
    have HTa : Sep B w0 wa [.row gp #[.slice Ax1 p1.length cx1] 22, .row gl #[.slice A l.length c] 22] := HSa.sub (by repeat (first | exact List.nil_sublist _ | exact List.Sublist.refl _ | apply List.Sublist.cons_cons | apply List.Sublist.cons))
    (repeat (first | (refine Cop.og_skip rfl rfl HTa _ (by (simp only [Act.put, List.setIfInBounds_toArray, List.set_cons_succ, List.set_cons_zero]; rfl)) ?_) | (refine Cop.og_take rfl rfl HTa ?_; apply Exists.intro; refine ⟨fun w9 h9 => ?_, _, by (simp only [Act.put, List.setIfInBounds_toArray, List.set_cons_succ, List.set_cons_zero]; rfl), ?_⟩; (have c1 := (row_cell (h9.row 0 rfl) 0).trans (show (#[Value.slice Ax1 p1.length cx1] : Array Value)[0]? = some (.slice Ax1 p1.length cx1) from rfl); have c2 := (row_cell (h9.row 1 rfl) 0).trans (show (#[Value.slice A l.length c] : Array Value)[0]? = some (.slice A l.length c) from rfl); have e1 := HSLX.out w9; go_simp; with_reducible rfl))))
    refine Cop.og_run rfl rfl ?_
    refine ow_call 15 _ _ (fun w' => Below wa.heap.size wa w') (by go_simp) (CRX.out wa HSa.hb (HRX.out wa (HSa.rd 5 rfl))) ?_
    intro wb bb
    have HSb := HSa.keep bb
    have HTb := HTa.keep bb
    refine ⟨fun _ => HTb, ?_⟩
    (repeat (first | (refine Cop.og_skip rfl rfl HTb _ (by (simp only [Act.put, List.setIfInBounds_toArray, List.set_cons_succ, List.set_cons_zero]; rfl)) ?_) | (refine Cop.og_take rfl rfl HTb ?_; apply Exists.intro; refine ⟨fun w9 h9 => ?_, _, by (simp only [Act.put, List.setIfInBounds_toArray, List.set_cons_succ, List.set_cons_zero]; rfl), ?_⟩; (go_simp; with_reducible rfl))))
    refine Cop.og_run rfl rfl ?_
    refine ow_bd HSb _ rfl X HXL.out rfl ?_
    intro g5 wc HSc
    have HTc : Sep B w0 wc [.row gp #[.slice Ax1 p1.length cx1] 22, .row gl #[.slice A l.length c] 22] := HSc.sub (by repeat (first | exact List.nil_sublist _ | exact List.Sublist.refl _ | apply List.Sublist.cons_cons | apply List.Sublist.cons))
    refine ⟨fun _ => HTc, ?_⟩
    (repeat (first | (refine Cop.og_skip rfl rfl HTc _ (by (simp only [Act.put, List.setIfInBounds_toArray, List.set_cons_succ, List.set_cons_zero]; rfl)) ?_) | (refine Cop.og_take rfl rfl HTc ?_; apply Exists.intro; refine ⟨fun w9 h9 => ?_, _, by (simp only [Act.put, List.setIfInBounds_toArray, List.set_cons_succ, List.set_cons_zero]; rfl), ?_⟩; (go_simp; with_reducible rfl))))
    refine Cop.og_run rfl rfl ?_
    refine ow_apd HSc 2 rfl rfl (HSc.own 0 rfl).rd rfl rfl q.length q HQL.out HQ.out (by have := HQ64.out; omega) ?_
    intro x6 wd HSd
    obtain ⟨A6, c6, rfl, _⟩ := (HSd.own 2 rfl).sl
    have HTd : Sep B w0 wd [.row gp #[.slice Ax1 p1.length cx1] 22, .row gl #[.slice A l.length c] 22] := HSd.sub (by repeat (first | exact List.nil_sublist _ | exact List.Sublist.refl _ | apply List.Sublist.cons_cons | apply List.Sublist.cons))
    refine ⟨fun _ => HTd, ?_⟩
    (repeat (first | (refine Cop.og_skip rfl rfl HTd _ (by (simp only [Act.put, List.setIfInBounds_toArray, List.set_cons_succ, List.set_cons_zero]; rfl)) ?_) | (refine Cop.og_take rfl rfl HTd ?_; apply Exists.intro; refine ⟨fun w9 h9 => ?_, _, by (simp only [Act.put, List.setIfInBounds_toArray, List.set_cons_succ, List.set_cons_zero]; rfl), ?_⟩; (go_simp; with_reducible rfl))))
    refine Cop.og_run rfl rfl ?_
    refine ow_stc HSd 1 rfl 22 _ _ rfl (by kernel_rfl) 0 (by simp) (y := .slice A6 q.length c6) rfl rfl rfl rfl ?_
    intro we HSe
    refine ⟨fun h => absurd rfl h, ?_⟩
    refine og_fin ?_
    clear HSa HSb HSc HSd HTa HTb HTc HTd
    (go_wp2; go_end0)
    exact ⟨rfl, .slice A6 q.length c6, HSe.tail⟩
end Go.Proofs.YtbdmehgbdnninaaDoor
namespace Go.Proofs.YtbdmehgbdnninaaDoor
open Go.RowKit Cop
set_option linter.unusedVariables false
set_option linter.unusedSimpArgs false
set_option maxRecDepth 100000 in
set_option maxHeartbeats 4000000 in
theorem cons_bad (A : Option Addr) (k c : Nat) (m n : Int) (w : World) (hk : k ≤ 4398046511104) (hno : ¬ (1 ≤ m ∧ m ≤ n ∧ n ≤ (k : Int))) : Gives 38 #[.slice A k c, .int .i64 m, .int .i64 n] w (.tuple #[.slice none 0 0, .int .i64 40]) := by
  have HS0 := Sep.start w
  have HNO := Lib.hid hno
  clear hno
  go_enter Tryd.func38, Tryd.ntmps38
  go_wp2_with (first | refine wl_bx1 HS0 rfl 22 _ rfl (.slice A k c) rfl rfl ?_)
  intro g1 w1 HS1
  go_wp2_with (first | refine wl_bx1 HS1 rfl 3 _ rfl (.int .i64 m) rfl rfl ?_)
  intro g2 w2 HS2
  have c0 := (row_cell (HS2.row 1 rfl) 0).trans (show (#[Value.slice A k c] : Array Value)[0]? = some (.slice A k c) from rfl)
  have c1 := (row_cell (HS2.row 0 rfl) 0).trans (show (#[Value.int .i64 m] : Array Value)[0]? = some (.int .i64 m) from rfl)
  rcases (show m < 1 ∨ (¬ m < 1 ∧ n < m) ∨ (¬ m < 1 ∧ ¬ n < m ∧ (k : Int) < n) from by have := HNO.out; omega) with h1 | ⟨h1, h2⟩ | ⟨h1, h2, h3⟩
  all_goals
    go_wp2
    go_ret2
    exact ⟨rfl, HS2.hb⟩
set_option maxRecDepth 100000 in
set_option maxHeartbeats 4000000 in
theorem cons_ok (l : List (List UInt8)) (v : Value) (m n : Nat) (w : World) (hT : Tab w) (hl : AllD l) (hll : l.length ≤ 4398046511104) (hR : Rd w v l.length 32 (dcs l)) (hm1 : 1 ≤ m) (hmn : m ≤ n) (hnl : n ≤ l.length) :
    Calls Tryd.prog 38 #[v, .int .i64 m, .int .i64 n] w fun e w' => ∃ x, e = .returned (.tuple #[x, .int .i64 0]) ∧ Below w.heap.size w w' ∧ Ow w' w.heap.size 26 32 x (tsteps nodeD (sha []) (l.take n) m true).length (dcs (tsteps nodeD (sha []) (l.take n) m true)) := by
  have htl := tsteps_len64 (l.take n) (by rw [List.length_take]; omega) m true hm1 (by rw [List.length_take]; omega)
  have HS0 := (Sep.start w).arg0 hR
  obtain ⟨A, c, rfl, _, _⟩ := hR.shape
  have CI := Lib.hid (fun gp gw gm gl w1 (HS : Sep w.heap.size w w1 (cons gp gw gm gl (.slice none 0 0) [] l m A c [])) => cons_gen l (root nodeD (sha [])) (tsteps nodeD (sha [])) A c w.heap.size w m gp gw gm gl [] hl hll root_length (fun l => tsteps_end _ _ (.inr rfl)) (fun l => tsteps_end _ _ (.inr rfl)) (fun l m wh h h1 h2 => tsteps_le _ _ h h1 h2) (fun l m wh h h1 h2 => tsteps_gt _ _ h h1 h2)
    (fun l' w' v' hb h1 h2 h3 => root_a l' v' w' (hT.below hb) h1 h2 h3) n 0 n 0 (n : Int) (.slice none 0 0) [] w1 rfl rfl (by omega) (by omega) (by omega) hmn hnl (by rw [List.nil_append, seg_whole, Nat.sub_zero, show decide ((0 : Nat) = 0) = true from rfl]; omega) HS)
  simp only [List.nil_append, seg_whole, Nat.sub_zero, decide_true] at CI
  obtain ⟨q, hq⟩ : ∃ q, tsteps nodeD (sha []) (l.take n) m true = q := ⟨_, rfl⟩
  rw [hq] at CI htl ⊢
  have k1 : ¬ (m : Int) < 1 := by omega
  have k2 : ¬ (n : Int) < (m : Int) := by omega
  have k3 : ¬ (l.length : Int) < (n : Int) := by omega
  clear hR hq hl
  go_enter Tryd.func38, Tryd.ntmps38
  go_wp2_with (first | refine wl_bx1 HS0 rfl 22 _ rfl (.slice A l.length c) rfl rfl ?_)
  intro gl w1 HS1
  go_wp2_with (first | refine wl_bx1 HS1 rfl 3 _ rfl (.int .i64 (m : Int)) rfl rfl ?_)
  intro gm w2 HS2
  have c0 := (row_cell (HS2.row 1 rfl) 0).trans (show (#[Value.slice A l.length c] : Array Value)[0]? = some (.slice A l.length c) from rfl)
  have c1 := (row_cell (HS2.row 0 rfl) 0).trans (show (#[Value.int .i64 (m : Int)] : Array Value)[0]? = some (.int .i64 (m : Int)) from rfl)
  clear HS0 HS1
  go_wp2_with (first | refine wl_al1 HS2 rfl 22 rfl (.slice none 0 0) rfl (by kernel_rfl) ?_)
  intro gp w3 HS3
  clear c0 c1
  go_wp2_with (first | refine wl_al1 HS3 rfl 92 rfl .nilFunc rfl (by kernel_rfl) ?_)
  intro gw w4 HS4
  go_wp2_with (first | refine wl_stc HS4 0 rfl rfl 92 _ _ rfl (by kernel_rfl) 0 (by simp) (y := .func (.func 64) #[] #[.pointer (some ⟨gm, 0, none⟩), .pointer (some ⟨gp, 0, none⟩), .pointer (some ⟨gl, 0, none⟩), .pointer (some ⟨gw, 0, none⟩)]) rfl rfl rfl rfl ?_)
  intro w5 HS5
  have HS6 : Sep w.heap.size w w5 (cons gp gw gm gl (.slice none 0 0) [] l m A c []) := (Sep.ownNil HS5 26 32).front 2
  have HR6 := Lib.hid (CI.out gp gw gm gl w5 HS6)
  have c0 : w5.cell? ⟨gw, 0, none⟩ = some (.func (.func 64) #[] #[.pointer (some ⟨gm, 0, none⟩), .pointer (some ⟨gp, 0, none⟩), .pointer (some ⟨gl, 0, none⟩), .pointer (some ⟨gw, 0, none⟩)]) := by rw [row_cell (HS6.row 2 rfl)]; rfl
  clear HS2 HS3 HS4 HS5 HS6
  go_wp2_with fail
  (with_reducible refine Calls.mono HR6.out ?_)
  rintro e' w6 ⟨rfl, x6, HS7⟩
  clear c0
  obtain ⟨A6, c6, rfl, _⟩ := (HS7.own 1 rfl).sl
  have c0 : w6.cell? ⟨gp, 0, none⟩ = some (.slice A6 q.length c6) := by rw [row_cell (HS7.row 0 rfl)]; rfl
  go_wp2
  go_ret2
  exact ⟨_, rfl, HS7.hb, HS7.own 1 rfl⟩
set_option maxRecDepth 100000 in
set_option maxHeartbeats 4000000 in
theorem stepsB_end (l : List (List UInt8)) (X : List UInt8) (v : Value) (n : Nat) (w : World) (hX : X.length = 32) (hn : n ≤ 4398046511104) (hR : Rd w v n 32 (dcs l)) (hCR : ∀ w' v', Rd w' v' n 32 (dcs l) → Gives 16 #[v'] w' (.agg (bv X))) :
    Calls Tryd.prog 65 #[v, .int .i64 n, .bool false] w fun e w' => ∃ x, e = .returned x ∧ Below w.heap.size w w' ∧ Ow w' w.heap.size 26 32 x 1 (dcs [X]) := by
  have CR := Lib.hid hCR
  have HXL := Lib.hid hX
  have HS0 := (Sep.start w).arg0 hR
  obtain ⟨A, c, rfl, _, _⟩ := hR.shape
  clear hCR hX hR
  go_enter Tryd.func65, Tryd.ntmps65
  go_wp2_with fail
  (with_reducible refine Calls.mono (CR.out w _ (HS0.rd 0 rfl)) ?_)
  rintro e w1 ⟨rfl, b1⟩
  have HS1 := HS0.keep b1
  clear HS0
  go_wp2_with (refine wpList_plain rfl fun K hK => ow_bd HS1 _ rfl X HXL.out rfl (fun g w1 h => hK _ _ ?_))
  rename_i g2 w2
  have HS2 := h
  go_wp2
  go_ret
  exact ⟨_, rfl, HS2.hb, HS2.own 0 rfl⟩
theorem stepsB_nil (A : Option Addr) (n c : Nat) (w : World) (hn : n ≤ 4398046511104) : Gives 65 #[.slice A n c, .int .i64 n, .bool true] w (.slice none 0 0) := by
  go_enter Tryd.func65, Tryd.ntmps65
  go_wp2
  go_ret
  exact ⟨rfl, Below.refl _ _⟩
set_option maxRecDepth 100000 in
set_option maxHeartbeats 4000000 in
theorem stepsB_gen (Rt : List (List UInt8) → List UInt8) (Ts : List (List UInt8) → Nat → Bool → List (List UInt8)) (hrl : ∀ l, AllD l → (Rt l).length = 32) (h1 : ∀ l, Ts l l.length true = []) (h1' : ∀ l, Ts l l.length false = [Rt l])
    (hlt : ∀ l m wh, 2 ≤ l.length → m ≠ l.length → m ≤ hf l.length → Ts l m wh = Ts (l.take (hf l.length)) m wh ++ [Rt (l.drop (hf l.length))])
    (hge : ∀ l m wh, 2 ≤ l.length → m ≠ l.length → ¬ m ≤ hf l.length → Ts l m wh = Ts (l.drop (hf l.length)) (m - hf l.length) false ++ [Rt (l.take (hf l.length))])
    (hCR : ∀ l' w' v', AllD l' → l'.length ≤ 4398046511104 → Rd w' v' l'.length 32 (dcs l') → Gives 16 #[v'] w' (.agg (bv (Rt l')))) :
    ∀ (n : Nat) (l : List (List UInt8)) (i : Nat) (ii : Int) (wh : Bool) (v : Value) (w : World), l.length = n → ii = (i : Int) → 1 ≤ i → i ≤ n → AllD l → n ≤ 4398046511104 → (Ts l i wh).length ≤ 1000 → Rd w v n 32 (dcs l) →
      Calls Tryd.prog 65 #[v, .int .i64 ii, .bool wh] w fun e w' => ∃ x, e = .returned x ∧ Below w.heap.size w w' ∧ Ow w' w.heap.size 26 32 x (Ts l i wh).length (dcs (Ts l i wh)) := by
  have HRL := Lib.hid hrl
  have H1 := Lib.hid h1
  have H1' := Lib.hid h1'
  have HLT := Lib.hid hlt
  have HGE := Lib.hid hge
  have CR := Lib.hid hCR
  clear hrl h1 h1' hlt hge hCR
  intro n
  induction n using Nat.strongRecOn with
  | ind n ih =>
  intro l i ii wh v w hln hii hi1' hin hl hn hq hR
  have IH := Lib.hid ih
  have HL := Lib.hid hl
  clear ih hl
  have hi0 : 0 ≤ ii := by omega
  have hi1 : ii ≤ 4398046511104 := by omega
  by_cases hone : i = n
  · subst hone
    cases wh with
    | true =>
      rw [show Ts l i true = [] from by rw [← hln]; exact H1.out l]
      obtain ⟨A, c, rfl, _, _⟩ := hR.shape
      rw [hii]
      exact (stepsB_nil A i c w hn).mono fun e w' ⟨h1, h2⟩ => ⟨_, h1, h2, Ow.nil _ _ _ _ _⟩
    | false =>
      rw [show Ts l i false = [Rt l] from by rw [← hln]; exact H1'.out l, hii]
      exact stepsB_end l (Rt l) v i w (HRL.out l HL.out) hn hR fun w' v' hv => CR.out l w' v' HL.out (by omega) (by rw [hln]; exact hv)
  have h2 : 2 ≤ l.length := by omega
  have hlt := hf_lt h2
  have hps := hf_pos l.length
  have CH := Lib.hid (fun w => half_b l.length w h2 (by omega))
  have hT1 := HLT.out l i wh h2 (by omega)
  have hT2 := HGE.out l i wh h2 (by omega)
  obtain ⟨k, hk⟩ : ∃ k, hf l.length = k := ⟨_, rfl⟩
  rw [hk] at hlt hps CH hT1 hT2
  rw [hln] at CH
  obtain ⟨A, c, rfl, _, _⟩ := hR.shape
  have e1 : (l.take k).length = k := by rw [List.length_take]; omega
  have e2 : (l.drop k).length = n - k := by rw [List.length_drop]; omega
  have hR0 : Rd w (.slice A n c) l.length 32 (dcs l) := by rw [hln]; exact hR
  obtain ⟨A1, c1, hr1, _, hs1, _⟩ := rd_seg hR0 HL.out 0 k (by omega) (by omega)
  obtain ⟨A2, c2, hr2, _, _, hs2⟩ := rd_seg hR0 HL.out k n (by omega) (by omega)
  have hs1 := hs1 rfl
  have hs2 := hs2 hln.symm
  rw [seg_whole, Nat.sub_zero] at hr1
  rw [Nat.sub_zero] at hs1
  rw [show seg l k n = l.drop k from by unfold seg; rw [← hln, List.take_length]] at hr2
  have HR1 := hr1 w hR0
  have HR2 := hr2 w hR0
  have hne : ¬ ii = (n : Int) := by omega
  have hneb : (ii == (n : Int)) = false := by rw [beq_eq_false_iff_ne]; exact hne
  have HA : True := trivial
  have HS0 := ((Sep.start w).arg0 HR1).arg0 HR2
  obtain ⟨m, hm⟩ : ∃ m, n - k = m := ⟨_, rfl⟩
  rw [hm] at HS0 hs2 e2
  have HSL1 := Lib.hid (fun W => hs1 W .i64)
  have HSL2 := Lib.hid (fun W => hs2 W .i64)
  have hkb : (k : Int) ≤ 4398046511104 := by omega
  by_cases hik : i ≤ k
  · have hTp := hT1 hik
    have hXl := HRL.out _ (HL.out.drop k)
    obtain ⟨X, hX⟩ : ∃ y, Rt (l.drop k) = y := ⟨_, rfl⟩
    obtain ⟨p1, hp1⟩ : ∃ y, Ts (l.take k) i wh = y := ⟨_, rfl⟩
    rw [hX, hp1] at hTp
    obtain ⟨q, hqq⟩ : ∃ y, p1 ++ [X] = y := ⟨_, rfl⟩
    rw [hqq] at hTp
    rw [hTp] at hq ⊢
    have HQ := Lib.hid hqq
    have HQL := Lib.hid (show p1.length + 1 = q.length by rw [← hqq, List.length_append]; rfl)
    have HQ64 := Lib.hid hq
    have hrec := fun w' v' hv => IH.out k (by omega) (l.take k) i ii wh v' w' e1 hii hi1' hik (HL.out.take k) (by omega) (by rw [hp1]; have := HQL.out; omega) hv
    rw [hp1] at hrec
    have CRX := Lib.hid (fun w' v' (hv : Rd w' v' m 32 (dcs (l.drop k))) => CR.out (l.drop k) w' v' (HL.out.drop k) (by omega) (by rw [e2]; exact hv))
    rw [hX] at CRX hXl
    obtain ⟨T1, hT1'⟩ : ∃ x, l.take k = x := ⟨_, rfl⟩
    obtain ⟨T2, hT2'⟩ : ∃ x, l.drop k = x := ⟨_, rfl⟩
    rw [hT1', hT2'] at HS0
    rw [hT2'] at CRX
    rw [hT1'] at hrec
    have HREC := Lib.hid hrec
    have HXL := Lib.hid hXl
    have hik' : ii ≤ (k : Int) := by omega
    clear IH h2 hk hT1 hT2 hR0 hTp hX hp1 hqq hrec hXl hik hr1 hr2 hs1 hs2 HR1 HR2 e1 e2 hT1' hT2' hm hR hln hii hone
    go_enter Tryd.func65, Tryd.ntmps65
    go_wp2_with fail
    (with_reducible refine Calls.mono (CH.out w) ?_)
    rintro e wh ⟨rfl, rfl⟩
    go_wp2
    refine Cop.region_ord (fun w' => True) 12 (.take 0 (.take 1 (.take 2 (.take 3 (.take 4 (.take 6 (.take 7 (.take 8 (.run 5 (.run 9 (.run 10 (.run 11 (.take 12 Cop.Ord.fin))))))))))))) (by kernel_rfl) (by kernel_rfl) (fun _ _ d _ _ h => by cases d <;> exact h) ?_
    intro wa hda
    have HSa := HS0.keep hda
    (repeat (first | (refine Cop.og_skip rfl rfl HA _ (by (simp only [Act.put, List.setIfInBounds_toArray, List.set_cons_succ, List.set_cons_zero]; rfl)) ?_) | (refine Cop.og_take rfl rfl HA ?_; apply Exists.intro; refine ⟨fun w9 h9 => ?_, _, by (simp only [Act.put, List.setIfInBounds_toArray, List.set_cons_succ, List.set_cons_zero]; rfl), ?_⟩; (have e1 := HSL1.out w9; have e2 := HSL2.out w9; go_simp; with_reducible rfl))))
    refine Cop.og_run rfl rfl ?_
    refine ow_call_ex 65 _ (fun x w' => Below wa.heap.size wa w' ∧ Ow w' wa.heap.size 26 32 x p1.length (dcs p1)) (by go_simp) (HREC.out wa _ (HSa.rd 1 rfl)) ?_
    rintro x1 wb ⟨bb, ob⟩
    have HSb := HSa.made bb ob
    obtain ⟨Ax, cx, rfl, _⟩ := (HSb.own 0 rfl).sl
    refine ⟨fun _ => HA, ?_⟩
    (repeat (first | (refine Cop.og_skip rfl rfl HA _ (by (simp only [Act.put, List.setIfInBounds_toArray, List.set_cons_succ, List.set_cons_zero]; rfl)) ?_) | (refine Cop.og_take rfl rfl HA ?_; apply Exists.intro; refine ⟨fun w9 h9 => ?_, _, by (simp only [Act.put, List.setIfInBounds_toArray, List.set_cons_succ, List.set_cons_zero]; rfl), ?_⟩; (have e1 := HSL1.out w9; have e2 := HSL2.out w9; go_simp; with_reducible rfl))))
    refine Cop.og_run rfl rfl ?_
    refine ow_call 16 _ _ (fun w' => Below wb.heap.size wb w') (by go_simp) (CRX.out wb _ (HSb.rd 1 rfl)) ?_
    intro wc bc
    have HSc := HSb.keep bc
    refine ⟨fun _ => HA, ?_⟩
    (repeat (first | (refine Cop.og_skip rfl rfl HA _ (by (simp only [Act.put, List.setIfInBounds_toArray, List.set_cons_succ, List.set_cons_zero]; rfl)) ?_) | (refine Cop.og_take rfl rfl HA ?_; apply Exists.intro; refine ⟨fun w9 h9 => ?_, _, by (simp only [Act.put, List.setIfInBounds_toArray, List.set_cons_succ, List.set_cons_zero]; rfl), ?_⟩; (go_simp; with_reducible rfl))))
    refine Cop.og_run rfl rfl ?_
    refine ow_bd HSc _ rfl X HXL.out rfl ?_
    intro g5 wd HSd
    refine ⟨fun _ => HA, ?_⟩
    (repeat (first | (refine Cop.og_skip rfl rfl HA _ (by (simp only [Act.put, List.setIfInBounds_toArray, List.set_cons_succ, List.set_cons_zero]; rfl)) ?_) | (refine Cop.og_take rfl rfl HA ?_; apply Exists.intro; refine ⟨fun w9 h9 => ?_, _, by (simp only [Act.put, List.setIfInBounds_toArray, List.set_cons_succ, List.set_cons_zero]; rfl), ?_⟩; (go_simp; with_reducible rfl))))
    refine Cop.og_run rfl rfl ?_
    refine ow_apd HSd 1 rfl rfl (HSd.own 0 rfl).rd rfl rfl q.length q HQL.out HQ.out (by have := HQ64.out; omega) ?_
    intro x6 we HSe
    refine ⟨fun _ => HA, ?_⟩
    (repeat (first | (refine Cop.og_skip rfl rfl HA _ (by (simp only [Act.put, List.setIfInBounds_toArray, List.set_cons_succ, List.set_cons_zero]; rfl)) ?_) | (refine Cop.og_take rfl rfl HA ?_; apply Exists.intro; refine ⟨fun w9 h9 => ?_, _, by (simp only [Act.put, List.setIfInBounds_toArray, List.set_cons_succ, List.set_cons_zero]; rfl), ?_⟩; (go_simp; with_reducible rfl))))
    refine og_fin ?_
    go_wp2
    go_ret
    exact ⟨_, rfl, HSe.hb, HSe.own 1 rfl⟩
  · have hTp := hT2 hik
    have hXl := HRL.out _ (HL.out.take k)
    obtain ⟨X, hX⟩ : ∃ y, Rt (l.take k) = y := ⟨_, rfl⟩
    obtain ⟨p1, hp1⟩ : ∃ y, Ts (l.drop k) (i - k) false = y := ⟨_, rfl⟩
    rw [hX, hp1] at hTp
    obtain ⟨q, hqq⟩ : ∃ y, p1 ++ [X] = y := ⟨_, rfl⟩
    rw [hqq] at hTp
    rw [hTp] at hq ⊢
    have HQ := Lib.hid hqq
    have HQL := Lib.hid (show p1.length + 1 = q.length by rw [← hqq, List.length_append]; rfl)
    have HQ64 := Lib.hid hq
    have hrec := fun w' v' hv => IH.out m (by omega) (l.drop k) (i - k) (ii - (k : Int)) false v' w' e2 (by omega) (by omega) (by omega) (HL.out.drop k) (by omega) (by rw [hp1]; have := HQL.out; omega) hv
    rw [hp1] at hrec
    have CRX := Lib.hid (fun w' v' (hv : Rd w' v' k 32 (dcs (l.take k))) => CR.out (l.take k) w' v' (HL.out.take k) (by omega) (by rw [e1]; exact hv))
    rw [hX] at CRX hXl
    obtain ⟨T1, hT1'⟩ : ∃ x, l.take k = x := ⟨_, rfl⟩
    obtain ⟨T2, hT2'⟩ : ∃ x, l.drop k = x := ⟨_, rfl⟩
    rw [hT1', hT2'] at HS0
    rw [hT1'] at CRX
    rw [hT2'] at hrec
    have HREC := Lib.hid hrec
    have HXL := Lib.hid hXl
    have hik' : ¬ ii ≤ (k : Int) := by omega
    have HWI := Lib.hid (show IntKind.i64.wrap (ii - (k : Int)) = ii - (k : Int) by rw [IntKind.wrap_i64]; omega)
    clear IH h2 hk hT1 hT2 hR0 hTp hX hp1 hqq hrec hXl hik hr1 hr2 hs1 hs2 HR1 HR2 e1 e2 hT1' hT2' hm hR hln hii hone
    go_enter Tryd.func65, Tryd.ntmps65
    go_wp2_with fail
    (with_reducible refine Calls.mono (CH.out w) ?_)
    rintro e wh ⟨rfl, rfl⟩
    go_wp2
    refine Cop.region_ord (fun w' => True) 13 (.take 0 (.take 1 (.take 2 (.take 3 (.take 4 (.take 5 (.take 7 (.take 8 (.take 9 (.run 6 (.run 10 (.run 11 (.run 12 (.take 13 Cop.Ord.fin)))))))))))))) (by kernel_rfl) (by kernel_rfl) (fun _ _ d _ _ h => by cases d <;> exact h) ?_
    intro wa hda
    have HSa := HS0.keep hda
    (repeat (first | (refine Cop.og_skip rfl rfl HA _ (by (simp only [Act.put, List.setIfInBounds_toArray, List.set_cons_succ, List.set_cons_zero]; rfl)) ?_) | (refine Cop.og_take rfl rfl HA ?_; apply Exists.intro; refine ⟨fun w9 h9 => ?_, _, by (simp only [Act.put, List.setIfInBounds_toArray, List.set_cons_succ, List.set_cons_zero]; rfl), ?_⟩; (have e1 := HSL1.out w9; have e2 := HSL2.out w9; have q1 := HWI.out; go_simp; with_reducible rfl))))
    refine Cop.og_run rfl rfl ?_
    refine ow_call_ex 65 _ (fun x w' => Below wa.heap.size wa w' ∧ Ow w' wa.heap.size 26 32 x p1.length (dcs p1)) (by go_simp) (HREC.out wa _ (HSa.rd 0 rfl)) ?_
    rintro x1 wb ⟨bb, ob⟩
    have HSb := HSa.made bb ob
    obtain ⟨Ax, cx, rfl, _⟩ := (HSb.own 0 rfl).sl
    refine ⟨fun _ => HA, ?_⟩
    (repeat (first | (refine Cop.og_skip rfl rfl HA _ (by (simp only [Act.put, List.setIfInBounds_toArray, List.set_cons_succ, List.set_cons_zero]; rfl)) ?_) | (refine Cop.og_take rfl rfl HA ?_; apply Exists.intro; refine ⟨fun w9 h9 => ?_, _, by (simp only [Act.put, List.setIfInBounds_toArray, List.set_cons_succ, List.set_cons_zero]; rfl), ?_⟩; (have e1 := HSL1.out w9; have e2 := HSL2.out w9; go_simp; with_reducible rfl))))
    refine Cop.og_run rfl rfl ?_
    refine ow_call 16 _ _ (fun w' => Below wb.heap.size wb w') (by go_simp) (CRX.out wb _ (HSb.rd 2 rfl)) ?_
    intro wc bc
    have HSc := HSb.keep bc
    refine ⟨fun _ => HA, ?_⟩
    (repeat (first | (refine Cop.og_skip rfl rfl HA _ (by (simp only [Act.put, List.setIfInBounds_toArray, List.set_cons_succ, List.set_cons_zero]; rfl)) ?_) | (refine Cop.og_take rfl rfl HA ?_; apply Exists.intro; refine ⟨fun w9 h9 => ?_, _, by (simp only [Act.put, List.setIfInBounds_toArray, List.set_cons_succ, List.set_cons_zero]; rfl), ?_⟩; (go_simp; with_reducible rfl))))
    refine Cop.og_run rfl rfl ?_
    refine ow_bd HSc _ rfl X HXL.out rfl ?_
    intro g5 wd HSd
    refine ⟨fun _ => HA, ?_⟩
    (repeat (first | (refine Cop.og_skip rfl rfl HA _ (by (simp only [Act.put, List.setIfInBounds_toArray, List.set_cons_succ, List.set_cons_zero]; rfl)) ?_) | (refine Cop.og_take rfl rfl HA ?_; apply Exists.intro; refine ⟨fun w9 h9 => ?_, _, by (simp only [Act.put, List.setIfInBounds_toArray, List.set_cons_succ, List.set_cons_zero]; rfl), ?_⟩; (go_simp; with_reducible rfl))))
    refine Cop.og_run rfl rfl ?_
    refine ow_apd HSd 1 rfl rfl (HSd.own 0 rfl).rd rfl rfl q.length q HQL.out HQ.out (by have := HQ64.out; omega) ?_
    intro x6 we HSe
    refine ⟨fun _ => HA, ?_⟩
    (repeat (first | (refine Cop.og_skip rfl rfl HA _ (by (simp only [Act.put, List.setIfInBounds_toArray, List.set_cons_succ, List.set_cons_zero]; rfl)) ?_) | (refine Cop.og_take rfl rfl HA ?_; apply Exists.intro; refine ⟨fun w9 h9 => ?_, _, by (simp only [Act.put, List.setIfInBounds_toArray, List.set_cons_succ, List.set_cons_zero]; rfl), ?_⟩; (go_simp; with_reducible rfl))))
    refine og_fin ?_
    go_wp2
    go_ret
    exact ⟨_, rfl, HSe.hb, HSe.own 1 rfl⟩
end Go.Proofs.YtbdmehgbdnninaaDoor
namespace Go.Proofs.YtbdmehgbdnninaaDoor
open Go.RowKit Cop
set_option linter.unusedVariables false
set_option linter.unusedSimpArgs false
theorem vroot_val (leaf : List UInt8) (path : List (List UInt8)) (a b : Nat) (v : Value) (w : World) (hT : Tab w) (hlf : leaf.length = 32) (hp : AllD path) (hab : a < b) (hb : b ≤ 281474976710656) (hlen : (way a b).length = path.length) (hR : Rd w v path.length 32 (dcs path)) :
    Gives 29 #[.agg (bv leaf), .int .i64 a, .int .i64 b, v] w (.tuple #[.agg (bv (climb nodeD leaf (way a b) path)), .int .i64 0]) := by
  have hw48 := way_len 48 b a (by omega)
  obtain ⟨D, hD0, hDL, hDl, hDt, hDf⟩ := climb_steps nodeD nodeD_length leaf hlf (way a b) path hlen
  rw [← hDL]
  exact vroot_gen nodeD D (way a b) path leaf a b v w hab hb hw48 hlen hp hlf hR hD0 hDl hDt hDf (fun w2 => way54 a b w2 hab hb) (fun w2 x y hb2 hx hy => node_a x y w2 (hT.below hb2) hx hy)
theorem vroots_val (known : List UInt8) (path : List (List UInt8)) (a b : Nat) (v : Value) (w : World) (hT : Tab w) (hlf : known.length = 32) (hp : AllD path) (ha : 1 ≤ a) (hab : a ≤ b) (hb : b ≤ 281474976710656) (hlen : cnt (steps a b).1 (steps a b).2 = path.length) (hR : Rd w v path.length 32 (dcs path)) :
    Gives 40 #[.agg (bv known), .int .i64 a, .int .i64 b, v] w (.tuple #[.agg (bv (two2 nodeD known a b path true).1), .agg (bv (two2 nodeD known a b path true).2), .int .i64 0]) := by
  have hw48 := steps_len 48 b a (by omega)
  have h57 := fun w2 => steps57 a b w2 ha hab hb
  cases hbb : (steps a b).2 with
  | true =>
    rw [hbb] at hlen h57
    have e : two2 nodeD known a b path true = climb2 nodeD known (steps a b).1 path := by unfold two2; rw [hbb]; rfl
    have hl2 : (steps a b).1.length = path.length := hlen
    obtain ⟨FA, FB, q1, q2, q3, q4, q5, q6, q7, q8⟩ := climb2_steps nodeD nodeD_length known hlf (steps a b).1 path hl2
    rw [e, ← q3, ← q4]
    exact vroots_t nodeD FA FB (steps a b).1 path known a b v w ha hab hb hw48 hl2 hp hlf hR q1 q2 q5 q6 q7 q8 h57 (fun w2 x y hb2 hx hy => node_a x y w2 (hT.below hb2) hx hy)
  | false =>
    rw [hbb] at hlen h57
    cases path with
    | nil => simp [cnt] at hlen
    | cons c r =>
      have e : two2 nodeD known a b (c :: r) true = climb2 nodeD c (steps a b).1 r := by unfold two2; rw [hbb]; rfl
      have hl2 : (steps a b).1.length = r.length := by simpa [cnt] using hlen
      obtain ⟨FA, FB, q1, q2, q3, q4, q5, q6, q7, q8⟩ := climb2_steps nodeD nodeD_length c (hp c (by simp)) (steps a b).1 r hl2
      rw [e, ← q3, ← q4]
      exact vroots_f nodeD FA FB (steps a b).1 r c known a b v w ha hab hb hw48 hl2 hp hlf hR q1 q2 q5 q6 q7 q8 h57 (fun w2 x y hb2 hx hy => node_a x y w2 (hT.below hb2) hx hy)
/-- A consistency proof's length, and where it leads. -/
theorem two2_tsteps (l : List (List UInt8)) (m : Nat) (h1 : 1 ≤ m) (hm : m ≤ l.length) : cnt (steps m l.length).1 (steps m l.length).2 = (tsteps nodeD (sha []) l m true).length ∧
    two2 nodeD (root nodeD (sha []) (l.take m)) m l.length (tsteps nodeD (sha []) l m true) true = (root nodeD (sha []) (l.take m), root nodeD (sha []) l) := by
  obtain ⟨c, r, e1, e2, e3, e4, e5⟩ := steps_tsteps nodeD (sha []) l.length l rfl m h1 hm
  unfold two2
  cases hb : (steps m l.length).2 with
  | true =>
    obtain ⟨f1, f2⟩ := e4 hb
    rw [f1] at e3
    rw [f2]
    exact ⟨by show (steps m l.length).1.length = _; exact e2.symm, by rw [Bool.true_and, if_pos rfl]; exact e3⟩
  | false =>
    rw [e5 hb]
    exact ⟨by show (steps m l.length).1.length + 1 = _; rw [List.length_cons, e2], by rw [Bool.true_and, if_neg (by decide)]; exact e3⟩
/-- A tree's inclusion proof is accepted. -/
theorem back_incl (l : List (List UInt8)) (i : Nat) (d : List UInt8) (v : Value) (w : World) (hT : Tab w) (hl : AllD l) (hll : l.length ≤ 4398046511104) (hd : l[i]? = some d) (hR : Rd w v (tpath nodeD (sha []) l i).length 32 (dcs (tpath nodeD (sha []) l i))) :
    Gives 31 #[.agg (bv d), .int .i64 i, .int .i64 l.length, v, .agg (bv (root nodeD (sha []) l))] w (.int .i64 0) := by
  have hi : i < l.length := (List.getElem?_eq_some_iff.1 hd).1
  have hdl : d.length = 32 := hl d (List.mem_iff_getElem?.2 ⟨i, hd⟩)
  have hrl := root_length l hl
  have hc := climb_tpath nodeD (sha []) l.length l rfl i d hd
  have hlen := (tpath_length nodeD (sha []) l l.length rfl i).symm
  refine vincl d (root nodeD (sha []) l) (root nodeD (sha []) l) 0 0 i l.length v w hdl hrl hrl (.inr (.inl ⟨rfl, rfl, rfl⟩)) (fun w2 hb2 => ?_)
  have := vroot_val d (tpath nodeD (sha []) l i) i l.length v w2 (hT.below hb2) hdl (tpath_all _ l hl rfl i) hi (by omega) hlen (hR.below hb2)
  rw [hc] at this
  exact this
/-- A tree's consistency proof is accepted. -/
theorem back_cons (l : List (List UInt8)) (m : Nat) (v : Value) (w : World) (hT : Tab w) (hl : AllD l) (hll : l.length ≤ 4398046511104) (h1 : 1 ≤ m) (hm : m ≤ l.length) (hR : Rd w v (tsteps nodeD (sha []) l m true).length 32 (dcs (tsteps nodeD (sha []) l m true))) :
    Gives 42 #[.int .i64 m, .int .i64 l.length, .agg (bv (root nodeD (sha []) (l.take m))), .agg (bv (root nodeD (sha []) l)), v] w (.int .i64 0) := by
  obtain ⟨hlen, h2⟩ := two2_tsteps l m h1 hm
  have hr1 := root_length _ (hl.take m)
  have hr2 := root_length l hl
  refine vcons (root nodeD (sha []) (l.take m)) (root nodeD (sha []) l) (root nodeD (sha []) (l.take m)) (root nodeD (sha []) l) 0 0 m l.length v w hr1 hr2 hr1 hr2 (.inr (.inl ⟨rfl, rfl, rfl, rfl⟩)) (fun w2 hb2 => ?_)
  have := vroots_val (root nodeD (sha []) (l.take m)) (tsteps nodeD (sha []) l m true) m l.length v w2 (hT.below hb2) hr1 (tsteps_all _ l hl rfl m true) h1 hm (by omega) hlen (hR.below hb2)
  rw [h2] at this
  exact this
theorem length_25 (w : World) : Gives 46 #[.int .i64 2, .int .i64 5] w (.tuple #[.int .i64 3, .int .i64 0]) := by
  have h1 : way 2 5 = true :: way 2 4 := way_lt (by decide) (show 2 < hf 5 by decide)
  have h2 : way 2 4 = false :: way 0 2 := way_ge (i := 2) (n := 4) (by decide) (show ¬ 2 < hf 4 by decide)
  have h3 : way 0 2 = true :: way 0 1 := way_lt (by decide) (show 0 < hf 2 by decide)
  have h4 : way 0 1 = [] := way_one (by decide)
  have := length_ok 2 5 w (by decide) (by decide)
  rw [h1, h2, h3, h4] at this
  exact this
end Go.Proofs.YtbdmehgbdnninaaDoor
namespace Go.Proofs.YtbdmehgbdnninaaDoor
open Go.RowKit Cop
set_option linter.unusedVariables false
set_option linter.unusedSimpArgs false
set_option maxRecDepth 100000 in
set_option maxHeartbeats 4000000 in
theorem verifyBack_none (v : Value) (a n : Int) (w : World) (hR : Rd w v 0 32 (dcs [])) : Gives 12 #[v, .int .i64 a, .int .i64 n] w (.bool true) := by
  have C25 := Lib.hid length_25
  have HS0 := (Sep.start w).arg0 hR
  obtain ⟨A, c, rfl, hc, hcm⟩ := hR.shape
  clear hR
  go_enter Tryd.func12, Tryd.ntmps12
  go_wp2_with fail
  (with_reducible refine Calls.mono (C25.out w) ?_)
  rintro e w1 ⟨rfl, b1⟩
  have HS1 := HS0.keep b1
  clear HS0
  go_wp2
  go_ret
  exact ⟨rfl, HS1.hb⟩
set_option maxRecDepth 100000 in
set_option maxHeartbeats 8000000 in
theorem verifyBack_walk (l : List (List UInt8)) (v : Value) (a n : Int) (w : World) (hT : Tab w) (hl : AllD l) (hll : l.length ≤ 4398046511104) (hR : Rd w v l.length 32 (dcs l)) (h0 : 0 < l.length) : Gives 12 #[v, .int .i64 a, .int .i64 n] w (.bool true) := by
  have C25 := Lib.hid length_25
  obtain ⟨N', n1, n2, hw1⟩ := within_a n 1 l.length (by omega) (by omega) (by omega)
  obtain ⟨N, rfl⟩ : ∃ N : Nat, N' = (N : Int) := ⟨N'.toNat, by omega⟩
  obtain ⟨i', i1, i2, hw2⟩ := within_a a 0 ((N : Int) - 1) (by omega) (by omega) (by omega)
  obtain ⟨i, rfl⟩ : ∃ i : Nat, i' = (i : Int) := ⟨i'.toNat, by omega⟩
  obtain ⟨m', m1, m2, hw3⟩ := within_a a 1 N (by omega) (by omega) (by omega)
  obtain ⟨m, rfl⟩ : ∃ m : Nat, m' = (m : Int) := ⟨m'.toNat, by omega⟩
  have hNl : N ≤ l.length := by omega
  have hiN : i < N := by omega
  have hmN : m ≤ N := by omega
  have hm1 : 1 ≤ m := by omega
  have hTN : (l.take N).length = N := by rw [List.length_take]; omega
  have hTm : (l.take m).length = m := by rw [List.length_take]; omega
  have hal := hl.take N
  have ham := hl.take m
  obtain ⟨d, hd⟩ : ∃ d, (l.take N)[i]? = some d := ⟨_, List.getElem?_eq_getElem (by omega)⟩
  have hdl : d.length = 32 := hal d (List.mem_iff_getElem?.2 ⟨i, hd⟩)
  have hdg : l.getD i [] = d := by
    rw [List.getElem?_take, if_pos hiN] at hd
    simp [List.getD, hd]
  have CW1 := Lib.hid hw1
  have CW2 := Lib.hid hw2
  have CW3 := Lib.hid hw3
  have IA := Lib.hid (fun w' v hb hR => incl_ok l v i N w' (hT.below hb) hl hll hR hiN hNl)
  have IC := Lib.hid (fun w' v hb hR => cons_ok l v m N w' (hT.below hb) hl hll hR hm1 hmN hNl)
  have RM := Lib.hid (fun w' v (hb : Below w.heap.size w w') (hR : Rd w' v m 32 (dcs (l.take m))) => root_a (l.take m) v w' (hT.below hb) ham (by omega) (by rw [hTm]; exact hR))
  have RN := Lib.hid (fun w' v (hb : Below w.heap.size w w') (hR : Rd w' v N 32 (dcs (l.take N))) => root_a (l.take N) v w' (hT.below hb) hal (by omega) (by rw [hTN]; exact hR))
  have CL := Lib.hid (fun w' => length_ok i N w' hiN (by omega))
  have CS := Lib.hid (fun w' => stepsV_ok m N w' hm1 hmN (by omega))
  have hpl := tpath_length nodeD (sha []) (l.take N) N hTN i
  have hql := (two2_tsteps (l.take N) m hm1 (by omega)).1
  rw [hTN] at hql
  rw [← hpl] at CL
  rw [hql] at CS
  have BI := Lib.hid (fun w' v (hb : Below w.heap.size w w') hR => back_incl (l.take N) i d v w' (hT.below hb) hal (by omega) hd hR)
  have BC := Lib.hid (fun w' v (hb : Below w.heap.size w w') hR => back_cons (l.take N) m v w' (hT.below hb) hal (by omega) hm1 (by omega) hR)
  rw [hTN] at BI BC
  rw [List.take_take, Nat.min_eq_left hmN] at BC
  have hO := root_length _ ham
  have hW := root_length _ hal
  have hp64 := tpath_len64 (l.take N) (by omega) i
  have hq64 := tsteps_len64 (l.take N) (by omega) m true hm1 (by omega)
  obtain ⟨P, hP⟩ : ∃ P, tpath nodeD (sha []) (l.take N) i = P := ⟨_, rfl⟩
  obtain ⟨Q, hQ⟩ : ∃ Q, tsteps nodeD (sha []) (l.take N) m true = Q := ⟨_, rfl⟩
  obtain ⟨O, hOO⟩ : ∃ O, root nodeD (sha []) (l.take m) = O := ⟨_, rfl⟩
  obtain ⟨W, hWW⟩ : ∃ W, root nodeD (sha []) (l.take N) = W := ⟨_, rfl⟩
  rw [hP] at IA CL BI hp64
  rw [hQ] at IC CS BC hq64
  rw [hOO] at RM BC hO
  rw [hWW] at RN BI BC hW
  obtain ⟨Am, cm, HRm, _, _, hs1⟩ := rd_dto hR hl m (by omega)
  obtain ⟨AN, cN, HRN, _, _, hs2⟩ := rd_dto hR hl N (by omega)
  obtain ⟨TM, hTM⟩ : ∃ T, l.take m = T := ⟨_, rfl⟩
  obtain ⟨TN, hTNN⟩ : ∃ T, l.take N = T := ⟨_, rfl⟩
  rw [hTM] at HRm RM
  rw [hTNN] at HRN RN
  have HSLm := Lib.hid hs1
  have HSLN := Lib.hid hs2
  have HS0 := ((((Sep.start w).arg0 hR).arg0 HRm).arg0 HRN)
  obtain ⟨A, c, rfl, _, _⟩ := hR.shape
  obtain ⟨b0, o0, rfl⟩ := rd_some hR h0
  have HLD := Lib.hid (fun (W' : World) (h : Rd W' (.slice (some ⟨b0, o0, none⟩) l.length c) l.length 32 (dcs l)) => load_dg h rfl hl i (by omega) d hdg)
  have HA : True := trivial
  have hL0 : ¬ (l.length : Int) = 0 := by omega
  have hL0b : ((l.length : Int) == 0) = false := by rw [beq_eq_false_iff_ne]; exact hL0
  have hil : i < l.length := by omega
  have hmb : (m : Int) ≤ 4398046511104 := by omega
  have hNb : (N : Int) ≤ 4398046511104 := by omega
  clear hTM hTNN hP hQ hOO hWW hpl hql hw1 hw2 hw3 hTN hTm hal ham hd hdg hR HRm HRN hs1 hs2 hl h0
  go_enter Tryd.func12, Tryd.ntmps12
  go_wp2_with fail
  (with_reducible refine Calls.mono (C25.out w) ?_)
  rintro e w1 ⟨rfl, b1⟩
  have HS1 := HS0.keep b1
  clear HS0
  go_wp2_with fail
  (with_reducible refine Calls.mono (CW1.out w1) ?_)
  rintro e wx ⟨rfl, rfl⟩
  go_wp2_with fail
  (with_reducible refine Calls.mono (CW2.out w1) ?_)
  rintro e wx ⟨rfl, rfl⟩
  go_wp2_with fail
  (with_reducible refine Calls.mono (CW3.out w1) ?_)
  rintro e wx ⟨rfl, rfl⟩
  go_wp2_with fail
  (with_reducible refine Calls.mono (IA.out w1 _ HS1.hb (HS1.rd 2 rfl)) ?_)
  rintro e2 w2 ⟨x2, rfl, b2, o2⟩
  have HS2 := HS1.made b2 o2
  obtain ⟨A2, c2, rfl, _⟩ := (HS2.own 0 rfl).sl
  clear HS1 o2
  go_wp2_with fail
  (with_reducible refine Calls.mono (IC.out w2 _ HS2.hb (HS2.rd 3 rfl)) ?_)
  rintro e3 w3 ⟨x3, rfl, b3, o3⟩
  have HS3 := HS2.made b3 o3
  obtain ⟨A3, c3, rfl, _⟩ := (HS3.own 0 rfl).sl
  clear HS2 o3
  go_upto_region 10 with fail
  go_cut [15, 16] (fun s15 s16 wx => ∃ g15 g16, s15 = .pointer (some ⟨g15, 0, none⟩) ∧ s16 = .pointer (some ⟨g16, 0, none⟩) ∧ Sep w.heap.size w wx [.row g15 (bv O) 26, .row g16 (bv W) 26, .own (.slice A3 Q.length c3) 26 32 Q.length (dcs Q), .own (.slice A2 P.length c2) 26 32 P.length (dcs P), .rd (.slice AN N cN) N 32 (dcs TN), .rd (.slice Am m cm) m 32 (dcs TM), .rd (.slice (some ⟨b0, o0, none⟩) l.length c) l.length 32 (dcs l)])
  case first =>
    refine Cop.region_ord (fun w' => True) 11 (.take 0 (.take 1 (.take 2 (.take 4 (.take 5 (.take 6 (.run3 3 (.run3 7 (.run2 8 (.run 9 (.run 10 (.run 11 Cop.Ord.fin))) 9 (.run 8 (.run 10 (.run 11 Cop.Ord.fin)))) 8 (.run2 7 (.run 9 (.run 10 (.run 11 Cop.Ord.fin))) 9 (.run 7 (.run 10 (.run 11 Cop.Ord.fin)))) 9 (.run2 7 (.run 8 (.run 10 (.run 11 Cop.Ord.fin))) 8 (.run 7 (.run 10 (.run 11 Cop.Ord.fin))))) 8 (.run2 3 (.run2 7 (.run 9 (.run 10 (.run 11 Cop.Ord.fin))) 9 (.run 7 (.run 10 (.run 11 Cop.Ord.fin)))) 9 (.run 3 (.run 7 (.run 10 (.run 11 Cop.Ord.fin))))) 9 (.run2 3 (.run2 7 (.run 8 (.run 10 (.run 11 Cop.Ord.fin))) 8 (.run 7 (.run 10 (.run 11 Cop.Ord.fin)))) 8 (.run 3 (.run 7 (.run 10 (.run 11 Cop.Ord.fin)))))))))))) (by kernel_rfl) (by kernel_rfl) (fun _ _ d _ _ h => by cases d <;> exact h) ?_
    intro wa0 hda
    have HT0 := HS3.keep hda
    clear HS3
    (repeat (first | (refine Cop.og_skip rfl rfl HA _ (by (simp only [Act.put, List.setIfInBounds_toArray, List.set_cons_succ, List.set_cons_zero]; rfl)) ?_) | (refine Cop.og_take rfl rfl HA ?_; apply Exists.intro; refine ⟨fun w9 h9 => ?_, _, by (simp only [Act.put, List.setIfInBounds_toArray, List.set_cons_succ, List.set_cons_zero]; rfl), ?_⟩; (have e1 := HSLm.out w9; have e2 := HSLN.out w9; go_simp; with_reducible rfl))))
    refine og_run3 ?_ ?_ ?_
    · refine Cop.og_run rfl rfl ?_
      refine ow_call 15 _ _ (fun w' => Below wa0.heap.size wa0 w') (by go_simp) (RM.out wa0 _ HT0.hb (HT0.rd 3 rfl)) ?_
      intro wa1 bw0
      have HT1 := HT0.keep bw0
      refine ⟨fun _ => HA, ?_⟩
      refine og_act (by (simp only [Act.put, List.setIfInBounds_toArray, List.set_cons_succ, List.set_cons_zero]; rfl)) ?_
      refine og_run3 ?_ ?_ ?_
      · refine Cop.og_run rfl rfl ?_
        refine ow_call 15 _ _ (fun w' => Below wa1.heap.size wa1 w') (by go_simp) (RN.out wa1 _ HT1.hb (HT1.rd 2 rfl)) ?_
        intro wa2 bw1
        have HT2 := HT1.keep bw1
        refine ⟨fun _ => HA, ?_⟩
        refine og_act (by (simp only [Act.put, List.setIfInBounds_toArray, List.set_cons_succ, List.set_cons_zero]; rfl)) ?_
        refine og_run2 ?_ ?_
        · refine Cop.og_run rfl rfl ?_
          refine ow_al HT2 26 rfl (bv (List.replicate 32 0)) (by kernel_rfl) ?_
          intro g15 wa3 HT3
          refine ⟨fun _ => HA, ?_⟩
          refine og_act (by (simp only [Act.put, List.setIfInBounds_toArray, List.set_cons_succ, List.set_cons_zero]; rfl)) ?_
          refine Cop.og_run rfl rfl ?_
          refine ow_al HT3 26 rfl (bv (List.replicate 32 0)) (by kernel_rfl) ?_
          intro g16 wa4 HT4
          refine ⟨fun _ => HA, ?_⟩
          refine og_act (by (simp only [Act.put, List.setIfInBounds_toArray, List.set_cons_succ, List.set_cons_zero]; rfl)) ?_
          refine Cop.og_run rfl rfl ?_
          refine ow_st HT4 1 rfl 26 _ _ rfl rfl rfl (dgS hO) (dgE rfl hO) (bv_one _) ?_
          intro wa5 HT5
          refine ⟨fun _ => HA, ?_⟩
          refine og_act (by (simp only [Act.put, List.setIfInBounds_toArray, List.set_cons_succ, List.set_cons_zero]; rfl)) ?_
          refine Cop.og_run rfl rfl ?_
          refine ow_st HT5 0 rfl 26 _ _ rfl rfl rfl (dgS hW) (dgE rfl hW) (bv_one _) ?_
          intro wa6 HT6
          refine ⟨fun _ => HA, ?_⟩
          refine og_fin ?_
          go_wp2
          go_meet
          case rel => exact ⟨g15, g16, rfl, rfl, HT6.front 1⟩
        · refine Cop.og_run rfl rfl ?_
          refine ow_al HT2 26 rfl (bv (List.replicate 32 0)) (by kernel_rfl) ?_
          intro g16 wa3 HT3
          refine ⟨fun _ => HA, ?_⟩
          refine og_act (by (simp only [Act.put, List.setIfInBounds_toArray, List.set_cons_succ, List.set_cons_zero]; rfl)) ?_
          refine Cop.og_run rfl rfl ?_
          refine ow_al HT3 26 rfl (bv (List.replicate 32 0)) (by kernel_rfl) ?_
          intro g15 wa4 HT4
          refine ⟨fun _ => HA, ?_⟩
          refine og_act (by (simp only [Act.put, List.setIfInBounds_toArray, List.set_cons_succ, List.set_cons_zero]; rfl)) ?_
          refine Cop.og_run rfl rfl ?_
          refine ow_st HT4 0 rfl 26 _ _ rfl rfl rfl (dgS hO) (dgE rfl hO) (bv_one _) ?_
          intro wa5 HT5
          refine ⟨fun _ => HA, ?_⟩
          refine og_act (by (simp only [Act.put, List.setIfInBounds_toArray, List.set_cons_succ, List.set_cons_zero]; rfl)) ?_
          refine Cop.og_run rfl rfl ?_
          refine ow_st HT5 1 rfl 26 _ _ rfl rfl rfl (dgS hW) (dgE rfl hW) (bv_one _) ?_
          intro wa6 HT6
          refine ⟨fun _ => HA, ?_⟩
          refine og_fin ?_
          go_wp2
          go_meet
          case rel => exact ⟨g15, g16, rfl, rfl, HT6⟩
      · refine Cop.og_run rfl rfl ?_
        refine ow_al HT1 26 rfl (bv (List.replicate 32 0)) (by kernel_rfl) ?_
        intro g15 wa2 HT2
        refine ⟨fun _ => HA, ?_⟩
        refine og_act (by (simp only [Act.put, List.setIfInBounds_toArray, List.set_cons_succ, List.set_cons_zero]; rfl)) ?_
        refine og_run2 ?_ ?_
        · refine Cop.og_run rfl rfl ?_
          refine ow_call 15 _ _ (fun w' => Below wa2.heap.size wa2 w') (by go_simp) (RN.out wa2 _ HT2.hb (HT2.rd 3 rfl)) ?_
          intro wa3 bw2
          have HT3 := HT2.keep bw2
          refine ⟨fun _ => HA, ?_⟩
          refine og_act (by (simp only [Act.put, List.setIfInBounds_toArray, List.set_cons_succ, List.set_cons_zero]; rfl)) ?_
          refine Cop.og_run rfl rfl ?_
          refine ow_al HT3 26 rfl (bv (List.replicate 32 0)) (by kernel_rfl) ?_
          intro g16 wa4 HT4
          refine ⟨fun _ => HA, ?_⟩
          refine og_act (by (simp only [Act.put, List.setIfInBounds_toArray, List.set_cons_succ, List.set_cons_zero]; rfl)) ?_
          refine Cop.og_run rfl rfl ?_
          refine ow_st HT4 1 rfl 26 _ _ rfl rfl rfl (dgS hO) (dgE rfl hO) (bv_one _) ?_
          intro wa5 HT5
          refine ⟨fun _ => HA, ?_⟩
          refine og_act (by (simp only [Act.put, List.setIfInBounds_toArray, List.set_cons_succ, List.set_cons_zero]; rfl)) ?_
          refine Cop.og_run rfl rfl ?_
          refine ow_st HT5 0 rfl 26 _ _ rfl rfl rfl (dgS hW) (dgE rfl hW) (bv_one _) ?_
          intro wa6 HT6
          refine ⟨fun _ => HA, ?_⟩
          refine og_fin ?_
          go_wp2
          go_meet
          case rel => exact ⟨g15, g16, rfl, rfl, HT6.front 1⟩
        · refine Cop.og_run rfl rfl ?_
          refine ow_al HT2 26 rfl (bv (List.replicate 32 0)) (by kernel_rfl) ?_
          intro g16 wa3 HT3
          refine ⟨fun _ => HA, ?_⟩
          refine og_act (by (simp only [Act.put, List.setIfInBounds_toArray, List.set_cons_succ, List.set_cons_zero]; rfl)) ?_
          refine Cop.og_run rfl rfl ?_
          refine ow_call 15 _ _ (fun w' => Below wa3.heap.size wa3 w') (by go_simp) (RN.out wa3 _ HT3.hb (HT3.rd 4 rfl)) ?_
          intro wa4 bw3
          have HT4 := HT3.keep bw3
          refine ⟨fun _ => HA, ?_⟩
          refine og_act (by (simp only [Act.put, List.setIfInBounds_toArray, List.set_cons_succ, List.set_cons_zero]; rfl)) ?_
          refine Cop.og_run rfl rfl ?_
          refine ow_st HT4 1 rfl 26 _ _ rfl rfl rfl (dgS hO) (dgE rfl hO) (bv_one _) ?_
          intro wa5 HT5
          refine ⟨fun _ => HA, ?_⟩
          refine og_act (by (simp only [Act.put, List.setIfInBounds_toArray, List.set_cons_succ, List.set_cons_zero]; rfl)) ?_
          refine Cop.og_run rfl rfl ?_
          refine ow_st HT5 0 rfl 26 _ _ rfl rfl rfl (dgS hW) (dgE rfl hW) (bv_one _) ?_
          intro wa6 HT6
          refine ⟨fun _ => HA, ?_⟩
          refine og_fin ?_
          go_wp2
          go_meet
          case rel => exact ⟨g15, g16, rfl, rfl, HT6.front 1⟩
      · refine Cop.og_run rfl rfl ?_
        refine ow_al HT1 26 rfl (bv (List.replicate 32 0)) (by kernel_rfl) ?_
        intro g16 wa2 HT2
        refine ⟨fun _ => HA, ?_⟩
        refine og_act (by (simp only [Act.put, List.setIfInBounds_toArray, List.set_cons_succ, List.set_cons_zero]; rfl)) ?_
        refine og_run2 ?_ ?_
        · refine Cop.og_run rfl rfl ?_
          refine ow_call 15 _ _ (fun w' => Below wa2.heap.size wa2 w') (by go_simp) (RN.out wa2 _ HT2.hb (HT2.rd 3 rfl)) ?_
          intro wa3 bw2
          have HT3 := HT2.keep bw2
          refine ⟨fun _ => HA, ?_⟩
          refine og_act (by (simp only [Act.put, List.setIfInBounds_toArray, List.set_cons_succ, List.set_cons_zero]; rfl)) ?_
          refine Cop.og_run rfl rfl ?_
          refine ow_al HT3 26 rfl (bv (List.replicate 32 0)) (by kernel_rfl) ?_
          intro g15 wa4 HT4
          refine ⟨fun _ => HA, ?_⟩
          refine og_act (by (simp only [Act.put, List.setIfInBounds_toArray, List.set_cons_succ, List.set_cons_zero]; rfl)) ?_
          refine Cop.og_run rfl rfl ?_
          refine ow_st HT4 0 rfl 26 _ _ rfl rfl rfl (dgS hO) (dgE rfl hO) (bv_one _) ?_
          intro wa5 HT5
          refine ⟨fun _ => HA, ?_⟩
          refine og_act (by (simp only [Act.put, List.setIfInBounds_toArray, List.set_cons_succ, List.set_cons_zero]; rfl)) ?_
          refine Cop.og_run rfl rfl ?_
          refine ow_st HT5 1 rfl 26 _ _ rfl rfl rfl (dgS hW) (dgE rfl hW) (bv_one _) ?_
          intro wa6 HT6
          refine ⟨fun _ => HA, ?_⟩
          refine og_fin ?_
          go_wp2
          go_meet
          case rel => exact ⟨g15, g16, rfl, rfl, HT6⟩
        · refine Cop.og_run rfl rfl ?_
          refine ow_al HT2 26 rfl (bv (List.replicate 32 0)) (by kernel_rfl) ?_
          intro g15 wa3 HT3
          refine ⟨fun _ => HA, ?_⟩
          refine og_act (by (simp only [Act.put, List.setIfInBounds_toArray, List.set_cons_succ, List.set_cons_zero]; rfl)) ?_
          refine Cop.og_run rfl rfl ?_
          refine ow_call 15 _ _ (fun w' => Below wa3.heap.size wa3 w') (by go_simp) (RN.out wa3 _ HT3.hb (HT3.rd 4 rfl)) ?_
          intro wa4 bw3
          have HT4 := HT3.keep bw3
          refine ⟨fun _ => HA, ?_⟩
          refine og_act (by (simp only [Act.put, List.setIfInBounds_toArray, List.set_cons_succ, List.set_cons_zero]; rfl)) ?_
          refine Cop.og_run rfl rfl ?_
          refine ow_st HT4 0 rfl 26 _ _ rfl rfl rfl (dgS hO) (dgE rfl hO) (bv_one _) ?_
          intro wa5 HT5
          refine ⟨fun _ => HA, ?_⟩
          refine og_act (by (simp only [Act.put, List.setIfInBounds_toArray, List.set_cons_succ, List.set_cons_zero]; rfl)) ?_
          refine Cop.og_run rfl rfl ?_
          refine ow_st HT5 1 rfl 26 _ _ rfl rfl rfl (dgS hW) (dgE rfl hW) (bv_one _) ?_
          intro wa6 HT6
          refine ⟨fun _ => HA, ?_⟩
          refine og_fin ?_
          go_wp2
          go_meet
          case rel => exact ⟨g15, g16, rfl, rfl, HT6⟩
    · refine Cop.og_run rfl rfl ?_
      refine ow_al HT0 26 rfl (bv (List.replicate 32 0)) (by kernel_rfl) ?_
      intro g15 wa1 HT1
      refine ⟨fun _ => HA, ?_⟩
      refine og_act (by (simp only [Act.put, List.setIfInBounds_toArray, List.set_cons_succ, List.set_cons_zero]; rfl)) ?_
      refine og_run2 ?_ ?_
      · refine Cop.og_run rfl rfl ?_
        refine ow_call 15 _ _ (fun w' => Below wa1.heap.size wa1 w') (by go_simp) (RM.out wa1 _ HT1.hb (HT1.rd 4 rfl)) ?_
        intro wa2 bw1
        have HT2 := HT1.keep bw1
        refine ⟨fun _ => HA, ?_⟩
        refine og_act (by (simp only [Act.put, List.setIfInBounds_toArray, List.set_cons_succ, List.set_cons_zero]; rfl)) ?_
        refine og_run2 ?_ ?_
        · refine Cop.og_run rfl rfl ?_
          refine ow_call 15 _ _ (fun w' => Below wa2.heap.size wa2 w') (by go_simp) (RN.out wa2 _ HT2.hb (HT2.rd 3 rfl)) ?_
          intro wa3 bw2
          have HT3 := HT2.keep bw2
          refine ⟨fun _ => HA, ?_⟩
          refine og_act (by (simp only [Act.put, List.setIfInBounds_toArray, List.set_cons_succ, List.set_cons_zero]; rfl)) ?_
          refine Cop.og_run rfl rfl ?_
          refine ow_al HT3 26 rfl (bv (List.replicate 32 0)) (by kernel_rfl) ?_
          intro g16 wa4 HT4
          refine ⟨fun _ => HA, ?_⟩
          refine og_act (by (simp only [Act.put, List.setIfInBounds_toArray, List.set_cons_succ, List.set_cons_zero]; rfl)) ?_
          refine Cop.og_run rfl rfl ?_
          refine ow_st HT4 1 rfl 26 _ _ rfl rfl rfl (dgS hO) (dgE rfl hO) (bv_one _) ?_
          intro wa5 HT5
          refine ⟨fun _ => HA, ?_⟩
          refine og_act (by (simp only [Act.put, List.setIfInBounds_toArray, List.set_cons_succ, List.set_cons_zero]; rfl)) ?_
          refine Cop.og_run rfl rfl ?_
          refine ow_st HT5 0 rfl 26 _ _ rfl rfl rfl (dgS hW) (dgE rfl hW) (bv_one _) ?_
          intro wa6 HT6
          refine ⟨fun _ => HA, ?_⟩
          refine og_fin ?_
          go_wp2
          go_meet
          case rel => exact ⟨g15, g16, rfl, rfl, HT6.front 1⟩
        · refine Cop.og_run rfl rfl ?_
          refine ow_al HT2 26 rfl (bv (List.replicate 32 0)) (by kernel_rfl) ?_
          intro g16 wa3 HT3
          refine ⟨fun _ => HA, ?_⟩
          refine og_act (by (simp only [Act.put, List.setIfInBounds_toArray, List.set_cons_succ, List.set_cons_zero]; rfl)) ?_
          refine Cop.og_run rfl rfl ?_
          refine ow_call 15 _ _ (fun w' => Below wa3.heap.size wa3 w') (by go_simp) (RN.out wa3 _ HT3.hb (HT3.rd 4 rfl)) ?_
          intro wa4 bw3
          have HT4 := HT3.keep bw3
          refine ⟨fun _ => HA, ?_⟩
          refine og_act (by (simp only [Act.put, List.setIfInBounds_toArray, List.set_cons_succ, List.set_cons_zero]; rfl)) ?_
          refine Cop.og_run rfl rfl ?_
          refine ow_st HT4 1 rfl 26 _ _ rfl rfl rfl (dgS hO) (dgE rfl hO) (bv_one _) ?_
          intro wa5 HT5
          refine ⟨fun _ => HA, ?_⟩
          refine og_act (by (simp only [Act.put, List.setIfInBounds_toArray, List.set_cons_succ, List.set_cons_zero]; rfl)) ?_
          refine Cop.og_run rfl rfl ?_
          refine ow_st HT5 0 rfl 26 _ _ rfl rfl rfl (dgS hW) (dgE rfl hW) (bv_one _) ?_
          intro wa6 HT6
          refine ⟨fun _ => HA, ?_⟩
          refine og_fin ?_
          go_wp2
          go_meet
          case rel => exact ⟨g15, g16, rfl, rfl, HT6.front 1⟩
      · refine Cop.og_run rfl rfl ?_
        refine ow_al HT1 26 rfl (bv (List.replicate 32 0)) (by kernel_rfl) ?_
        intro g16 wa2 HT2
        refine ⟨fun _ => HA, ?_⟩
        refine og_act (by (simp only [Act.put, List.setIfInBounds_toArray, List.set_cons_succ, List.set_cons_zero]; rfl)) ?_
        refine Cop.og_run rfl rfl ?_
        refine ow_call 15 _ _ (fun w' => Below wa2.heap.size wa2 w') (by go_simp) (RM.out wa2 _ HT2.hb (HT2.rd 5 rfl)) ?_
        intro wa3 bw2
        have HT3 := HT2.keep bw2
        refine ⟨fun _ => HA, ?_⟩
        refine og_act (by (simp only [Act.put, List.setIfInBounds_toArray, List.set_cons_succ, List.set_cons_zero]; rfl)) ?_
        refine Cop.og_run rfl rfl ?_
        refine ow_call 15 _ _ (fun w' => Below wa3.heap.size wa3 w') (by go_simp) (RN.out wa3 _ HT3.hb (HT3.rd 4 rfl)) ?_
        intro wa4 bw3
        have HT4 := HT3.keep bw3
        refine ⟨fun _ => HA, ?_⟩
        refine og_act (by (simp only [Act.put, List.setIfInBounds_toArray, List.set_cons_succ, List.set_cons_zero]; rfl)) ?_
        refine Cop.og_run rfl rfl ?_
        refine ow_st HT4 1 rfl 26 _ _ rfl rfl rfl (dgS hO) (dgE rfl hO) (bv_one _) ?_
        intro wa5 HT5
        refine ⟨fun _ => HA, ?_⟩
        refine og_act (by (simp only [Act.put, List.setIfInBounds_toArray, List.set_cons_succ, List.set_cons_zero]; rfl)) ?_
        refine Cop.og_run rfl rfl ?_
        refine ow_st HT5 0 rfl 26 _ _ rfl rfl rfl (dgS hW) (dgE rfl hW) (bv_one _) ?_
        intro wa6 HT6
        refine ⟨fun _ => HA, ?_⟩
        refine og_fin ?_
        go_wp2
        go_meet
        case rel => exact ⟨g15, g16, rfl, rfl, HT6.front 1⟩
    · refine Cop.og_run rfl rfl ?_
      refine ow_al HT0 26 rfl (bv (List.replicate 32 0)) (by kernel_rfl) ?_
      intro g16 wa1 HT1
      refine ⟨fun _ => HA, ?_⟩
      refine og_act (by (simp only [Act.put, List.setIfInBounds_toArray, List.set_cons_succ, List.set_cons_zero]; rfl)) ?_
      refine og_run2 ?_ ?_
      · refine Cop.og_run rfl rfl ?_
        refine ow_call 15 _ _ (fun w' => Below wa1.heap.size wa1 w') (by go_simp) (RM.out wa1 _ HT1.hb (HT1.rd 4 rfl)) ?_
        intro wa2 bw1
        have HT2 := HT1.keep bw1
        refine ⟨fun _ => HA, ?_⟩
        refine og_act (by (simp only [Act.put, List.setIfInBounds_toArray, List.set_cons_succ, List.set_cons_zero]; rfl)) ?_
        refine og_run2 ?_ ?_
        · refine Cop.og_run rfl rfl ?_
          refine ow_call 15 _ _ (fun w' => Below wa2.heap.size wa2 w') (by go_simp) (RN.out wa2 _ HT2.hb (HT2.rd 3 rfl)) ?_
          intro wa3 bw2
          have HT3 := HT2.keep bw2
          refine ⟨fun _ => HA, ?_⟩
          refine og_act (by (simp only [Act.put, List.setIfInBounds_toArray, List.set_cons_succ, List.set_cons_zero]; rfl)) ?_
          refine Cop.og_run rfl rfl ?_
          refine ow_al HT3 26 rfl (bv (List.replicate 32 0)) (by kernel_rfl) ?_
          intro g15 wa4 HT4
          refine ⟨fun _ => HA, ?_⟩
          refine og_act (by (simp only [Act.put, List.setIfInBounds_toArray, List.set_cons_succ, List.set_cons_zero]; rfl)) ?_
          refine Cop.og_run rfl rfl ?_
          refine ow_st HT4 0 rfl 26 _ _ rfl rfl rfl (dgS hO) (dgE rfl hO) (bv_one _) ?_
          intro wa5 HT5
          refine ⟨fun _ => HA, ?_⟩
          refine og_act (by (simp only [Act.put, List.setIfInBounds_toArray, List.set_cons_succ, List.set_cons_zero]; rfl)) ?_
          refine Cop.og_run rfl rfl ?_
          refine ow_st HT5 1 rfl 26 _ _ rfl rfl rfl (dgS hW) (dgE rfl hW) (bv_one _) ?_
          intro wa6 HT6
          refine ⟨fun _ => HA, ?_⟩
          refine og_fin ?_
          go_wp2
          go_meet
          case rel => exact ⟨g15, g16, rfl, rfl, HT6⟩
        · refine Cop.og_run rfl rfl ?_
          refine ow_al HT2 26 rfl (bv (List.replicate 32 0)) (by kernel_rfl) ?_
          intro g15 wa3 HT3
          refine ⟨fun _ => HA, ?_⟩
          refine og_act (by (simp only [Act.put, List.setIfInBounds_toArray, List.set_cons_succ, List.set_cons_zero]; rfl)) ?_
          refine Cop.og_run rfl rfl ?_
          refine ow_call 15 _ _ (fun w' => Below wa3.heap.size wa3 w') (by go_simp) (RN.out wa3 _ HT3.hb (HT3.rd 4 rfl)) ?_
          intro wa4 bw3
          have HT4 := HT3.keep bw3
          refine ⟨fun _ => HA, ?_⟩
          refine og_act (by (simp only [Act.put, List.setIfInBounds_toArray, List.set_cons_succ, List.set_cons_zero]; rfl)) ?_
          refine Cop.og_run rfl rfl ?_
          refine ow_st HT4 0 rfl 26 _ _ rfl rfl rfl (dgS hO) (dgE rfl hO) (bv_one _) ?_
          intro wa5 HT5
          refine ⟨fun _ => HA, ?_⟩
          refine og_act (by (simp only [Act.put, List.setIfInBounds_toArray, List.set_cons_succ, List.set_cons_zero]; rfl)) ?_
          refine Cop.og_run rfl rfl ?_
          refine ow_st HT5 1 rfl 26 _ _ rfl rfl rfl (dgS hW) (dgE rfl hW) (bv_one _) ?_
          intro wa6 HT6
          refine ⟨fun _ => HA, ?_⟩
          refine og_fin ?_
          go_wp2
          go_meet
          case rel => exact ⟨g15, g16, rfl, rfl, HT6⟩
      · refine Cop.og_run rfl rfl ?_
        refine ow_al HT1 26 rfl (bv (List.replicate 32 0)) (by kernel_rfl) ?_
        intro g15 wa2 HT2
        refine ⟨fun _ => HA, ?_⟩
        refine og_act (by (simp only [Act.put, List.setIfInBounds_toArray, List.set_cons_succ, List.set_cons_zero]; rfl)) ?_
        refine Cop.og_run rfl rfl ?_
        refine ow_call 15 _ _ (fun w' => Below wa2.heap.size wa2 w') (by go_simp) (RM.out wa2 _ HT2.hb (HT2.rd 5 rfl)) ?_
        intro wa3 bw2
        have HT3 := HT2.keep bw2
        refine ⟨fun _ => HA, ?_⟩
        refine og_act (by (simp only [Act.put, List.setIfInBounds_toArray, List.set_cons_succ, List.set_cons_zero]; rfl)) ?_
        refine Cop.og_run rfl rfl ?_
        refine ow_call 15 _ _ (fun w' => Below wa3.heap.size wa3 w') (by go_simp) (RN.out wa3 _ HT3.hb (HT3.rd 4 rfl)) ?_
        intro wa4 bw3
        have HT4 := HT3.keep bw3
        refine ⟨fun _ => HA, ?_⟩
        refine og_act (by (simp only [Act.put, List.setIfInBounds_toArray, List.set_cons_succ, List.set_cons_zero]; rfl)) ?_
        refine Cop.og_run rfl rfl ?_
        refine ow_st HT4 0 rfl 26 _ _ rfl rfl rfl (dgS hO) (dgE rfl hO) (bv_one _) ?_
        intro wa5 HT5
        refine ⟨fun _ => HA, ?_⟩
        refine og_act (by (simp only [Act.put, List.setIfInBounds_toArray, List.set_cons_succ, List.set_cons_zero]; rfl)) ?_
        refine Cop.og_run rfl rfl ?_
        refine ow_st HT5 1 rfl 26 _ _ rfl rfl rfl (dgS hW) (dgE rfl hW) (bv_one _) ?_
        intro wa6 HT6
        refine ⟨fun _ => HA, ?_⟩
        refine og_fin ?_
        go_wp2
        go_meet
        case rel => exact ⟨g15, g16, rfl, rfl, HT6⟩
  case rest =>
    clear HS3
    obtain ⟨g15, g16, rfl, rfl, HS4⟩ := hcut
    go_wp2_with fail
    (with_reducible refine Calls.mono (CL.out wc) ?_)
    rintro e w5 ⟨rfl, b5⟩
    have HS5 := HS4.keep b5
    clear HS4
    go_wp2_with fail
    (with_reducible refine Calls.mono (CS.out w5) ?_)
    rintro e w6 ⟨rfl, b6⟩
    have HS6 := HS5.keep b6
    clear HS5
    go_wp2
    refine Cop.region_ord (fun w' => Sep w.heap.size w w' [.row g15 (bv O) 26, .row g16 (bv W) 26, .own (.slice A3 Q.length c3) 26 32 Q.length (dcs Q), .own (.slice A2 P.length c2) 26 32 P.length (dcs P), .rd (.slice AN N cN) N 32 (dcs TN), .rd (.slice Am m cm) m 32 (dcs TM), .rd (.slice (some ⟨b0, o0, none⟩) l.length c) l.length 32 (dcs l)]) 47 (.take 0 (.take 1 (.take 2 (.take 3 (.take 4 (.take 5 (.take 6 (.take 7 (.take 8 (.take 9 (.take 10 (.take 11 (.take 12 (.take 13 (.take 14 (.take 15 (.take 16 (.take 17 (.take 18 (.take 19 (.take 20 (.take 21 (.take 22 (.take 23 (.take 24 (.take 25 (.take 26 (.take 27 (.take 28 (.take 29 (.take 30 (.take 31 (.take 32 (.take 33 (.take 34 (.run 35 (.take 36 (.take 37 (.take 38 (.take 39 (.take 40 (.take 41 (.take 42 (.take 43 (.run 44 (.take 45 (.take 46 (.take 47 Cop.Ord.fin)))))))))))))))))))))))))))))))))))))))))))))))) (by kernel_rfl) (by kernel_rfl) (fun _ _ d _ _ h => by cases d <;> exact h) ?_
    intro w7 hd7
    have HS7 := HS6.keep hd7
    clear HS6
    (repeat (first | (refine Cop.og_skip rfl rfl HS7 _ (by (simp only [Act.put, List.setIfInBounds_toArray, List.set_cons_succ, List.set_cons_zero]; rfl)) ?_) | (refine Cop.og_ld rfl rfl HS7 26 _ rfl (.pointer (some ⟨b0, o0 + i * 32, none⟩)) rfl (.agg (bv d)) (fun w9 h9 => HLD.out w9 (h9.rd 6 rfl)) _ (by (simp only [Act.put, List.setIfInBounds_toArray, List.set_cons_succ, List.set_cons_zero]; rfl)) ?_) | (refine Cop.og_ld rfl rfl HS7 26 _ rfl (.pointer (some ⟨g15, 0, none⟩)) rfl _ (fun w9 h9 => load_row (h9.row 0 rfl) 26 Tryd.underlying26 rfl (dgS hO)) _ (by (simp only [Act.put, List.setIfInBounds_toArray, List.set_cons_succ, List.set_cons_zero]; rfl)) ?_) | (refine Cop.og_ld rfl rfl HS7 26 _ rfl (.pointer (some ⟨g16, 0, none⟩)) rfl _ (fun w9 h9 => load_row (h9.row 1 rfl) 26 Tryd.underlying26 rfl (dgS hW)) _ (by (simp only [Act.put, List.setIfInBounds_toArray, List.set_cons_succ, List.set_cons_zero]; rfl)) ?_) | (refine Cop.og_take rfl rfl HS7 ?_; apply Exists.intro; refine ⟨fun w9 h9 => ?_, _, by (simp only [Act.put, List.setIfInBounds_toArray, List.set_cons_succ, List.set_cons_zero]; rfl), ?_⟩; (go_simp; with_reducible rfl))))
    refine Cop.og_run rfl rfl ?_
    refine ow_call 31 _ _ (fun w' => Below w7.heap.size w7 w') (by go_simp) (BI.out w7 _ HS7.hb (HS7.own 3 rfl).rd) ?_
    intro w8 b8
    have HS8 := HS7.keep b8
    refine ⟨fun _ => HS8, ?_⟩
    (repeat (first | (refine Cop.og_skip rfl rfl HS8 _ (by (simp only [Act.put, List.setIfInBounds_toArray, List.set_cons_succ, List.set_cons_zero]; rfl)) ?_) | (refine Cop.og_ld rfl rfl HS8 26 _ rfl (.pointer (some ⟨g15, 0, none⟩)) rfl _ (fun w9 h9 => load_row (h9.row 0 rfl) 26 Tryd.underlying26 rfl (dgS hO)) _ (by (simp only [Act.put, List.setIfInBounds_toArray, List.set_cons_succ, List.set_cons_zero]; rfl)) ?_) | (refine Cop.og_ld rfl rfl HS8 26 _ rfl (.pointer (some ⟨g16, 0, none⟩)) rfl _ (fun w9 h9 => load_row (h9.row 1 rfl) 26 Tryd.underlying26 rfl (dgS hW)) _ (by (simp only [Act.put, List.setIfInBounds_toArray, List.set_cons_succ, List.set_cons_zero]; rfl)) ?_) | (refine Cop.og_take rfl rfl HS8 ?_; apply Exists.intro; refine ⟨fun w9 h9 => ?_, _, by (simp only [Act.put, List.setIfInBounds_toArray, List.set_cons_succ, List.set_cons_zero]; rfl), ?_⟩; (go_simp; with_reducible rfl))))
    refine Cop.og_run rfl rfl ?_
    refine ow_call 42 _ _ (fun w' => Below w8.heap.size w8 w') (by go_simp) (BC.out w8 _ HS8.hb (HS8.own 2 rfl).rd) ?_
    intro wz bz
    have HSz := HS8.keep bz
    refine ⟨fun _ => HSz, ?_⟩
    (repeat (first | (refine Cop.og_skip rfl rfl HSz _ (by (simp only [Act.put, List.setIfInBounds_toArray, List.set_cons_succ, List.set_cons_zero]; rfl)) ?_) | (refine Cop.og_take rfl rfl HSz ?_; apply Exists.intro; refine ⟨fun w9 h9 => ?_, _, by (simp only [Act.put, List.setIfInBounds_toArray, List.set_cons_succ, List.set_cons_zero]; rfl), ?_⟩; (go_simp; with_reducible rfl))))
    refine og_fin ?_
    go_wp2
    go_ret
    exact ⟨rfl, HSz.hb⟩
set_option maxRecDepth 100000 in
theorem verifyBack_holds : Rows.VerifyBackCardSaid := verifyBack.card_of_walk fun H enc W base v0 v1 v2 d0 d1 d2 p0 p1 p2 h0 k0 h1 k1 h2 k2 hsz hL => by
  obtain ⟨l, hR, hl, hll⟩ := open_dslice Tryd.underlying22 Tryd.underlying26 Tryd.underlying5 (by kernel_rfl) (by kernel_rfl) (by kernel_rfl) h0 k0 hsz 0 rfl rfl
  obtain ⟨a, rfl, _, _, _⟩ := Go.ChangeShapes.open_int Tryd.underlying3 k1 h1
  obtain ⟨n, rfl, _, _, _⟩ := Go.ChangeShapes.open_int Tryd.underlying3 k2 h2
  rcases Nat.eq_zero_or_pos l.length with h0 | h0
  · have hl0 : l = [] := List.eq_nil_of_length_eq_zero h0
    subst hl0
    exact verifyBack_none v0 a n W hR
  · exact verifyBack_walk l v0 a n W (table_of hL) hl (by omega) hR h0
#print axioms verifyBack_holds
end Go.Proofs.YtbdmehgbdnninaaDoor
