/- tree.Consistency and the reference's. -/
import Derived.Test.YtbdmehgbdnninaaDoorCs
namespace Go.Proofs.YtbdmehgbdnninaaDoor
open Go.RowKit Cop
set_option linter.unusedVariables false
set_option linter.unusedSimpArgs false
set_option maxRecDepth 100000 in
set_option maxHeartbeats 4000000 in
theorem cons_bad (A : Option Addr) (k c : Nat) (m n : Int) (w : World) (hk : k ≤ 4398046511104) (hno : ¬ (1 ≤ m ∧ m ≤ n ∧ n ≤ (k : Int))) : Gives 38 #[.slice A k c, .int .i64 m, .int .i64 n] w (.tuple #[.slice none 0 0, .int .i64 40]) := by
  have HS0 := Sep.start w
  have HNO := Lib.hid hno
  clear hno
  go_enter Tryd.func38, Tryd.ntmps38
  go_wp2_with (first | refine wl_bx1 HS0 rfl 22 _ rfl (.slice A k c) rfl rfl ?_)
  intro g1 w1 HS1
  go_wp2_with (first | refine wl_bx1 HS1 rfl 3 _ rfl (.int .i64 m) rfl rfl ?_)
  intro g2 w2 HS2
  have c0 := (row_cell (HS2.row 1 rfl) 0).trans (show (#[Value.slice A k c] : Array Value)[0]? = some (.slice A k c) from rfl)
  have c1 := (row_cell (HS2.row 0 rfl) 0).trans (show (#[Value.int .i64 m] : Array Value)[0]? = some (.int .i64 m) from rfl)
  rcases (show m < 1 ∨ (¬ m < 1 ∧ n < m) ∨ (¬ m < 1 ∧ ¬ n < m ∧ (k : Int) < n) from by have := HNO.out; omega) with h1 | ⟨h1, h2⟩ | ⟨h1, h2, h3⟩
  all_goals
    go_wp2
    go_ret2
    exact ⟨rfl, HS2.hb⟩
set_option maxRecDepth 100000 in
set_option maxHeartbeats 4000000 in
theorem cons_ok (l : List (List UInt8)) (v : Value) (m n : Nat) (w : World) (hT : Tab w) (hl : AllD l) (hll : l.length ≤ 4398046511104) (hR : Rd w v l.length 32 (dcs l)) (hm1 : 1 ≤ m) (hmn : m ≤ n) (hnl : n ≤ l.length) :
    Calls Tryd.prog 38 #[v, .int .i64 m, .int .i64 n] w fun e w' => ∃ x, e = .returned (.tuple #[x, .int .i64 0]) ∧ Below w.heap.size w w' ∧ Ow w' w.heap.size 26 32 x (tsteps nodeD (sha []) (l.take n) m true).length (dcs (tsteps nodeD (sha []) (l.take n) m true)) := by
  have htl := tsteps_len64 (l.take n) (by rw [List.length_take]; omega) m true hm1 (by rw [List.length_take]; omega)
  have HS0 := (Sep.start w).arg0 hR
  obtain ⟨A, c, rfl, _, _⟩ := hR.shape
  have CI := Lib.hid (fun gp gw gm gl w1 (HS : Sep w.heap.size w w1 (cons gp gw gm gl (.slice none 0 0) [] l m A c [])) => cons_gen l (root nodeD (sha [])) (tsteps nodeD (sha [])) A c w.heap.size w m gp gw gm gl [] hl hll root_length (fun l => tsteps_end _ _ (.inr rfl)) (fun l => tsteps_end _ _ (.inr rfl)) (fun l m wh h h1 h2 => tsteps_le _ _ h h1 h2) (fun l m wh h h1 h2 => tsteps_gt _ _ h h1 h2)
    (fun l' w' v' hb h1 h2 h3 => root_a l' v' w' (hT.below hb) h1 h2 h3) n 0 n 0 (n : Int) (.slice none 0 0) [] w1 rfl rfl (by omega) (by omega) (by omega) hmn hnl (by rw [List.nil_append, seg_whole, Nat.sub_zero, show decide ((0 : Nat) = 0) = true from rfl]; omega) HS)
  simp only [List.nil_append, seg_whole, Nat.sub_zero, decide_true] at CI
  obtain ⟨q, hq⟩ : ∃ q, tsteps nodeD (sha []) (l.take n) m true = q := ⟨_, rfl⟩
  rw [hq] at CI htl ⊢
  have k1 : ¬ (m : Int) < 1 := by omega
  have k2 : ¬ (n : Int) < (m : Int) := by omega
  have k3 : ¬ (l.length : Int) < (n : Int) := by omega
  clear hR hq hl
  go_enter Tryd.func38, Tryd.ntmps38
  go_wp2_with (first | refine wl_bx1 HS0 rfl 22 _ rfl (.slice A l.length c) rfl rfl ?_)
  intro gl w1 HS1
  go_wp2_with (first | refine wl_bx1 HS1 rfl 3 _ rfl (.int .i64 (m : Int)) rfl rfl ?_)
  intro gm w2 HS2
  have c0 := (row_cell (HS2.row 1 rfl) 0).trans (show (#[Value.slice A l.length c] : Array Value)[0]? = some (.slice A l.length c) from rfl)
  have c1 := (row_cell (HS2.row 0 rfl) 0).trans (show (#[Value.int .i64 (m : Int)] : Array Value)[0]? = some (.int .i64 (m : Int)) from rfl)
  clear HS0 HS1
  go_wp2_with (first | refine wl_al1 HS2 rfl 22 rfl (.slice none 0 0) rfl (by kernel_rfl) ?_)
  intro gp w3 HS3
  clear c0 c1
  go_wp2_with (first | refine wl_al1 HS3 rfl 92 rfl .nilFunc rfl (by kernel_rfl) ?_)
  intro gw w4 HS4
  go_wp2_with (first | refine wl_stc HS4 0 rfl rfl 92 _ _ rfl (by kernel_rfl) 0 (by simp) (y := .func (.func 64) #[] #[.pointer (some ⟨gm, 0, none⟩), .pointer (some ⟨gp, 0, none⟩), .pointer (some ⟨gl, 0, none⟩), .pointer (some ⟨gw, 0, none⟩)]) rfl rfl rfl rfl ?_)
  intro w5 HS5
  have HS6 : Sep w.heap.size w w5 (cons gp gw gm gl (.slice none 0 0) [] l m A c []) := (Sep.ownNil HS5 26 32).front 2
  have HR6 := Lib.hid (CI.out gp gw gm gl w5 HS6)
  have c0 : w5.cell? ⟨gw, 0, none⟩ = some (.func (.func 64) #[] #[.pointer (some ⟨gm, 0, none⟩), .pointer (some ⟨gp, 0, none⟩), .pointer (some ⟨gl, 0, none⟩), .pointer (some ⟨gw, 0, none⟩)]) := by rw [row_cell (HS6.row 2 rfl)]; rfl
  clear HS2 HS3 HS4 HS5 HS6
  go_wp2_with fail
  (with_reducible refine Calls.mono HR6.out ?_)
  rintro e' w6 ⟨rfl, x6, HS7⟩
  clear c0
  obtain ⟨A6, c6, rfl, _⟩ := (HS7.own 1 rfl).sl
  have c0 : w6.cell? ⟨gp, 0, none⟩ = some (.slice A6 q.length c6) := by rw [row_cell (HS7.row 0 rfl)]; rfl
  go_wp2
  go_ret2
  exact ⟨_, rfl, HS7.hb, HS7.own 1 rfl⟩
set_option maxRecDepth 100000 in
set_option maxHeartbeats 4000000 in
theorem stepsB_end (l : List (List UInt8)) (X : List UInt8) (v : Value) (n : Nat) (w : World) (hX : X.length = 32) (hn : n ≤ 4398046511104) (hR : Rd w v n 32 (dcs l)) (hCR : ∀ w' v', Rd w' v' n 32 (dcs l) → Gives 16 #[v'] w' (.agg (bv X))) :
    Calls Tryd.prog 65 #[v, .int .i64 n, .bool false] w fun e w' => ∃ x, e = .returned x ∧ Below w.heap.size w w' ∧ Ow w' w.heap.size 26 32 x 1 (dcs [X]) := by
  have CR := Lib.hid hCR
  have HXL := Lib.hid hX
  have HS0 := (Sep.start w).arg0 hR
  obtain ⟨A, c, rfl, _, _⟩ := hR.shape
  clear hCR hX hR
  go_enter Tryd.func65, Tryd.ntmps65
  go_wp2_with fail
  (with_reducible refine Calls.mono (CR.out w _ (HS0.rd 0 rfl)) ?_)
  rintro e w1 ⟨rfl, b1⟩
  have HS1 := HS0.keep b1
  clear HS0
  go_wp2_with (refine wpList_plain rfl fun K hK => ow_bd HS1 _ rfl X HXL.out rfl (fun g w1 h => hK _ _ ?_))
  rename_i g2 w2
  have HS2 := h
  go_wp2
  go_ret
  exact ⟨_, rfl, HS2.hb, HS2.own 0 rfl⟩
theorem stepsB_nil (A : Option Addr) (n c : Nat) (w : World) (hn : n ≤ 4398046511104) : Gives 65 #[.slice A n c, .int .i64 n, .bool true] w (.slice none 0 0) := by
  go_enter Tryd.func65, Tryd.ntmps65
  go_wp2
  go_ret
  exact ⟨rfl, Below.refl _ _⟩
set_option maxRecDepth 100000 in
set_option maxHeartbeats 4000000 in
theorem stepsB_gen (Rt : List (List UInt8) → List UInt8) (Ts : List (List UInt8) → Nat → Bool → List (List UInt8)) (hrl : ∀ l, AllD l → (Rt l).length = 32) (h1 : ∀ l, Ts l l.length true = []) (h1' : ∀ l, Ts l l.length false = [Rt l])
    (hlt : ∀ l m wh, 2 ≤ l.length → m ≠ l.length → m ≤ hf l.length → Ts l m wh = Ts (l.take (hf l.length)) m wh ++ [Rt (l.drop (hf l.length))])
    (hge : ∀ l m wh, 2 ≤ l.length → m ≠ l.length → ¬ m ≤ hf l.length → Ts l m wh = Ts (l.drop (hf l.length)) (m - hf l.length) false ++ [Rt (l.take (hf l.length))])
    (hCR : ∀ l' w' v', AllD l' → l'.length ≤ 4398046511104 → Rd w' v' l'.length 32 (dcs l') → Gives 16 #[v'] w' (.agg (bv (Rt l')))) :
    ∀ (n : Nat) (l : List (List UInt8)) (i : Nat) (ii : Int) (wh : Bool) (v : Value) (w : World), l.length = n → ii = (i : Int) → 1 ≤ i → i ≤ n → AllD l → n ≤ 4398046511104 → (Ts l i wh).length ≤ 1000 → Rd w v n 32 (dcs l) →
      Calls Tryd.prog 65 #[v, .int .i64 ii, .bool wh] w fun e w' => ∃ x, e = .returned x ∧ Below w.heap.size w w' ∧ Ow w' w.heap.size 26 32 x (Ts l i wh).length (dcs (Ts l i wh)) := by
  have HRL := Lib.hid hrl
  have H1 := Lib.hid h1
  have H1' := Lib.hid h1'
  have HLT := Lib.hid hlt
  have HGE := Lib.hid hge
  have CR := Lib.hid hCR
  clear hrl h1 h1' hlt hge hCR
  intro n
  induction n using Nat.strongRecOn with
  | ind n ih =>
  intro l i ii wh v w hln hii hi1' hin hl hn hq hR
  have IH := Lib.hid ih
  have HL := Lib.hid hl
  clear ih hl
  have hi0 : 0 ≤ ii := by omega
  have hi1 : ii ≤ 4398046511104 := by omega
  by_cases hone : i = n
  · subst hone
    cases wh with
    | true =>
      rw [show Ts l i true = [] from by rw [← hln]; exact H1.out l]
      obtain ⟨A, c, rfl, _, _⟩ := hR.shape
      rw [hii]
      exact (stepsB_nil A i c w hn).mono fun e w' ⟨h1, h2⟩ => ⟨_, h1, h2, Ow.nil _ _ _ _ _⟩
    | false =>
      rw [show Ts l i false = [Rt l] from by rw [← hln]; exact H1'.out l, hii]
      exact stepsB_end l (Rt l) v i w (HRL.out l HL.out) hn hR fun w' v' hv => CR.out l w' v' HL.out (by omega) (by rw [hln]; exact hv)
  have h2 : 2 ≤ l.length := by omega
  have hlt := hf_lt h2
  have hps := hf_pos l.length
  have CH := Lib.hid (fun w => half_b l.length w h2 (by omega))
  have hT1 := HLT.out l i wh h2 (by omega)
  have hT2 := HGE.out l i wh h2 (by omega)
  obtain ⟨k, hk⟩ : ∃ k, hf l.length = k := ⟨_, rfl⟩
  rw [hk] at hlt hps CH hT1 hT2
  rw [hln] at CH
  obtain ⟨A, c, rfl, _, _⟩ := hR.shape
  have e1 : (l.take k).length = k := by rw [List.length_take]; omega
  have e2 : (l.drop k).length = n - k := by rw [List.length_drop]; omega
  have hR0 : Rd w (.slice A n c) l.length 32 (dcs l) := by rw [hln]; exact hR
  obtain ⟨A1, c1, hr1, _, hs1, _⟩ := rd_seg hR0 HL.out 0 k (by omega) (by omega)
  obtain ⟨A2, c2, hr2, _, _, hs2⟩ := rd_seg hR0 HL.out k n (by omega) (by omega)
  have hs1 := hs1 rfl
  have hs2 := hs2 hln.symm
  rw [seg_whole, Nat.sub_zero] at hr1
  rw [Nat.sub_zero] at hs1
  rw [show seg l k n = l.drop k from by unfold seg; rw [← hln, List.take_length]] at hr2
  have HR1 := hr1 w hR0
  have HR2 := hr2 w hR0
  have hne : ¬ ii = (n : Int) := by omega
  have hneb : (ii == (n : Int)) = false := by rw [beq_eq_false_iff_ne]; exact hne
  have HA : True := trivial
  have HS0 := ((Sep.start w).arg0 HR1).arg0 HR2
  obtain ⟨m, hm⟩ : ∃ m, n - k = m := ⟨_, rfl⟩
  rw [hm] at HS0 hs2 e2
  have HSL1 := Lib.hid (fun W => hs1 W .i64)
  have HSL2 := Lib.hid (fun W => hs2 W .i64)
  have hkb : (k : Int) ≤ 4398046511104 := by omega
  by_cases hik : i ≤ k
  · have hTp := hT1 hik
    have hXl := HRL.out _ (HL.out.drop k)
    obtain ⟨X, hX⟩ : ∃ y, Rt (l.drop k) = y := ⟨_, rfl⟩
    obtain ⟨p1, hp1⟩ : ∃ y, Ts (l.take k) i wh = y := ⟨_, rfl⟩
    rw [hX, hp1] at hTp
    obtain ⟨q, hqq⟩ : ∃ y, p1 ++ [X] = y := ⟨_, rfl⟩
    rw [hqq] at hTp
    rw [hTp] at hq ⊢
    have HQ := Lib.hid hqq
    have HQL := Lib.hid (show p1.length + 1 = q.length by rw [← hqq, List.length_append]; rfl)
    have HQ64 := Lib.hid hq
    have hrec := fun w' v' hv => IH.out k (by omega) (l.take k) i ii wh v' w' e1 hii hi1' hik (HL.out.take k) (by omega) (by rw [hp1]; have := HQL.out; omega) hv
    rw [hp1] at hrec
    have CRX := Lib.hid (fun w' v' (hv : Rd w' v' m 32 (dcs (l.drop k))) => CR.out (l.drop k) w' v' (HL.out.drop k) (by omega) (by rw [e2]; exact hv))
    rw [hX] at CRX hXl
    obtain ⟨T1, hT1'⟩ : ∃ x, l.take k = x := ⟨_, rfl⟩
    obtain ⟨T2, hT2'⟩ : ∃ x, l.drop k = x := ⟨_, rfl⟩
    rw [hT1', hT2'] at HS0
    rw [hT2'] at CRX
    rw [hT1'] at hrec
    have HREC := Lib.hid hrec
    have HXL := Lib.hid hXl
    have hik' : ii ≤ (k : Int) := by omega
    clear IH h2 hk hT1 hT2 hR0 hTp hX hp1 hqq hrec hXl hik hr1 hr2 hs1 hs2 HR1 HR2 e1 e2 hT1' hT2' hm hR hln hii hone
    go_enter Tryd.func65, Tryd.ntmps65
    go_wp2_with fail
    (with_reducible refine Calls.mono (CH.out w) ?_)
    rintro e wh ⟨rfl, rfl⟩
    go_wp2
    refine Cop.region_ord (fun w' => True) 12 (.take 0 (.take 1 (.take 2 (.take 3 (.take 4 (.take 6 (.take 7 (.take 8 (.run 5 (.run 9 (.run 10 (.run 11 (.take 12 Cop.Ord.fin))))))))))))) (by kernel_rfl) (by kernel_rfl) (fun _ _ d _ _ h => by cases d <;> exact h) ?_
    intro wa hda
    have HSa := HS0.keep hda
    (repeat (first | (refine Cop.og_skip rfl rfl HA _ (by (simp only [Act.put, List.setIfInBounds_toArray, List.set_cons_succ, List.set_cons_zero]; rfl)) ?_) | (refine Cop.og_take rfl rfl HA ?_; apply Exists.intro; refine ⟨fun w9 h9 => ?_, _, by (simp only [Act.put, List.setIfInBounds_toArray, List.set_cons_succ, List.set_cons_zero]; rfl), ?_⟩; (have e1 := HSL1.out w9; have e2 := HSL2.out w9; go_simp; with_reducible rfl))))
    refine Cop.og_run rfl rfl ?_
    refine ow_call_ex 65 _ (fun x w' => Below wa.heap.size wa w' ∧ Ow w' wa.heap.size 26 32 x p1.length (dcs p1)) (by go_simp) (HREC.out wa _ (HSa.rd 1 rfl)) ?_
    rintro x1 wb ⟨bb, ob⟩
    have HSb := HSa.made bb ob
    obtain ⟨Ax, cx, rfl, _⟩ := (HSb.own 0 rfl).sl
    refine ⟨fun _ => HA, ?_⟩
    (repeat (first | (refine Cop.og_skip rfl rfl HA _ (by (simp only [Act.put, List.setIfInBounds_toArray, List.set_cons_succ, List.set_cons_zero]; rfl)) ?_) | (refine Cop.og_take rfl rfl HA ?_; apply Exists.intro; refine ⟨fun w9 h9 => ?_, _, by (simp only [Act.put, List.setIfInBounds_toArray, List.set_cons_succ, List.set_cons_zero]; rfl), ?_⟩; (have e1 := HSL1.out w9; have e2 := HSL2.out w9; go_simp; with_reducible rfl))))
    refine Cop.og_run rfl rfl ?_
    refine ow_call 16 _ _ (fun w' => Below wb.heap.size wb w') (by go_simp) (CRX.out wb _ (HSb.rd 1 rfl)) ?_
    intro wc bc
    have HSc := HSb.keep bc
    refine ⟨fun _ => HA, ?_⟩
    (repeat (first | (refine Cop.og_skip rfl rfl HA _ (by (simp only [Act.put, List.setIfInBounds_toArray, List.set_cons_succ, List.set_cons_zero]; rfl)) ?_) | (refine Cop.og_take rfl rfl HA ?_; apply Exists.intro; refine ⟨fun w9 h9 => ?_, _, by (simp only [Act.put, List.setIfInBounds_toArray, List.set_cons_succ, List.set_cons_zero]; rfl), ?_⟩; (go_simp; with_reducible rfl))))
    refine Cop.og_run rfl rfl ?_
    refine ow_bd HSc _ rfl X HXL.out rfl ?_
    intro g5 wd HSd
    refine ⟨fun _ => HA, ?_⟩
    (repeat (first | (refine Cop.og_skip rfl rfl HA _ (by (simp only [Act.put, List.setIfInBounds_toArray, List.set_cons_succ, List.set_cons_zero]; rfl)) ?_) | (refine Cop.og_take rfl rfl HA ?_; apply Exists.intro; refine ⟨fun w9 h9 => ?_, _, by (simp only [Act.put, List.setIfInBounds_toArray, List.set_cons_succ, List.set_cons_zero]; rfl), ?_⟩; (go_simp; with_reducible rfl))))
    refine Cop.og_run rfl rfl ?_
    refine ow_apd HSd 1 rfl rfl (HSd.own 0 rfl).rd rfl rfl q.length q HQL.out HQ.out (by have := HQ64.out; omega) ?_
    intro x6 we HSe
    refine ⟨fun _ => HA, ?_⟩
    (repeat (first | (refine Cop.og_skip rfl rfl HA _ (by (simp only [Act.put, List.setIfInBounds_toArray, List.set_cons_succ, List.set_cons_zero]; rfl)) ?_) | (refine Cop.og_take rfl rfl HA ?_; apply Exists.intro; refine ⟨fun w9 h9 => ?_, _, by (simp only [Act.put, List.setIfInBounds_toArray, List.set_cons_succ, List.set_cons_zero]; rfl), ?_⟩; (go_simp; with_reducible rfl))))
    refine og_fin ?_
    go_wp2
    go_ret
    exact ⟨_, rfl, HSe.hb, HSe.own 1 rfl⟩
  · have hTp := hT2 hik
    have hXl := HRL.out _ (HL.out.take k)
    obtain ⟨X, hX⟩ : ∃ y, Rt (l.take k) = y := ⟨_, rfl⟩
    obtain ⟨p1, hp1⟩ : ∃ y, Ts (l.drop k) (i - k) false = y := ⟨_, rfl⟩
    rw [hX, hp1] at hTp
    obtain ⟨q, hqq⟩ : ∃ y, p1 ++ [X] = y := ⟨_, rfl⟩
    rw [hqq] at hTp
    rw [hTp] at hq ⊢
    have HQ := Lib.hid hqq
    have HQL := Lib.hid (show p1.length + 1 = q.length by rw [← hqq, List.length_append]; rfl)
    have HQ64 := Lib.hid hq
    have hrec := fun w' v' hv => IH.out m (by omega) (l.drop k) (i - k) (ii - (k : Int)) false v' w' e2 (by omega) (by omega) (by omega) (HL.out.drop k) (by omega) (by rw [hp1]; have := HQL.out; omega) hv
    rw [hp1] at hrec
    have CRX := Lib.hid (fun w' v' (hv : Rd w' v' k 32 (dcs (l.take k))) => CR.out (l.take k) w' v' (HL.out.take k) (by omega) (by rw [e1]; exact hv))
    rw [hX] at CRX hXl
    obtain ⟨T1, hT1'⟩ : ∃ x, l.take k = x := ⟨_, rfl⟩
    obtain ⟨T2, hT2'⟩ : ∃ x, l.drop k = x := ⟨_, rfl⟩
    rw [hT1', hT2'] at HS0
    rw [hT1'] at CRX
    rw [hT2'] at hrec
    have HREC := Lib.hid hrec
    have HXL := Lib.hid hXl
    have hik' : ¬ ii ≤ (k : Int) := by omega
    have HWI := Lib.hid (show IntKind.i64.wrap (ii - (k : Int)) = ii - (k : Int) by rw [IntKind.wrap_i64]; omega)
    clear IH h2 hk hT1 hT2 hR0 hTp hX hp1 hqq hrec hXl hik hr1 hr2 hs1 hs2 HR1 HR2 e1 e2 hT1' hT2' hm hR hln hii hone
    go_enter Tryd.func65, Tryd.ntmps65
    go_wp2_with fail
    (with_reducible refine Calls.mono (CH.out w) ?_)
    rintro e wh ⟨rfl, rfl⟩
    go_wp2
    refine Cop.region_ord (fun w' => True) 13 (.take 0 (.take 1 (.take 2 (.take 3 (.take 4 (.take 5 (.take 7 (.take 8 (.take 9 (.run 6 (.run 10 (.run 11 (.run 12 (.take 13 Cop.Ord.fin)))))))))))))) (by kernel_rfl) (by kernel_rfl) (fun _ _ d _ _ h => by cases d <;> exact h) ?_
    intro wa hda
    have HSa := HS0.keep hda
    (repeat (first | (refine Cop.og_skip rfl rfl HA _ (by (simp only [Act.put, List.setIfInBounds_toArray, List.set_cons_succ, List.set_cons_zero]; rfl)) ?_) | (refine Cop.og_take rfl rfl HA ?_; apply Exists.intro; refine ⟨fun w9 h9 => ?_, _, by (simp only [Act.put, List.setIfInBounds_toArray, List.set_cons_succ, List.set_cons_zero]; rfl), ?_⟩; (have e1 := HSL1.out w9; have e2 := HSL2.out w9; have q1 := HWI.out; go_simp; with_reducible rfl))))
    refine Cop.og_run rfl rfl ?_
    refine ow_call_ex 65 _ (fun x w' => Below wa.heap.size wa w' ∧ Ow w' wa.heap.size 26 32 x p1.length (dcs p1)) (by go_simp) (HREC.out wa _ (HSa.rd 0 rfl)) ?_
    rintro x1 wb ⟨bb, ob⟩
    have HSb := HSa.made bb ob
    obtain ⟨Ax, cx, rfl, _⟩ := (HSb.own 0 rfl).sl
    refine ⟨fun _ => HA, ?_⟩
    (repeat (first | (refine Cop.og_skip rfl rfl HA _ (by (simp only [Act.put, List.setIfInBounds_toArray, List.set_cons_succ, List.set_cons_zero]; rfl)) ?_) | (refine Cop.og_take rfl rfl HA ?_; apply Exists.intro; refine ⟨fun w9 h9 => ?_, _, by (simp only [Act.put, List.setIfInBounds_toArray, List.set_cons_succ, List.set_cons_zero]; rfl), ?_⟩; (have e1 := HSL1.out w9; have e2 := HSL2.out w9; go_simp; with_reducible rfl))))
    refine Cop.og_run rfl rfl ?_
    refine ow_call 16 _ _ (fun w' => Below wb.heap.size wb w') (by go_simp) (CRX.out wb _ (HSb.rd 2 rfl)) ?_
    intro wc bc
    have HSc := HSb.keep bc
    refine ⟨fun _ => HA, ?_⟩
    (repeat (first | (refine Cop.og_skip rfl rfl HA _ (by (simp only [Act.put, List.setIfInBounds_toArray, List.set_cons_succ, List.set_cons_zero]; rfl)) ?_) | (refine Cop.og_take rfl rfl HA ?_; apply Exists.intro; refine ⟨fun w9 h9 => ?_, _, by (simp only [Act.put, List.setIfInBounds_toArray, List.set_cons_succ, List.set_cons_zero]; rfl), ?_⟩; (go_simp; with_reducible rfl))))
    refine Cop.og_run rfl rfl ?_
    refine ow_bd HSc _ rfl X HXL.out rfl ?_
    intro g5 wd HSd
    refine ⟨fun _ => HA, ?_⟩
    (repeat (first | (refine Cop.og_skip rfl rfl HA _ (by (simp only [Act.put, List.setIfInBounds_toArray, List.set_cons_succ, List.set_cons_zero]; rfl)) ?_) | (refine Cop.og_take rfl rfl HA ?_; apply Exists.intro; refine ⟨fun w9 h9 => ?_, _, by (simp only [Act.put, List.setIfInBounds_toArray, List.set_cons_succ, List.set_cons_zero]; rfl), ?_⟩; (go_simp; with_reducible rfl))))
    refine Cop.og_run rfl rfl ?_
    refine ow_apd HSd 1 rfl rfl (HSd.own 0 rfl).rd rfl rfl q.length q HQL.out HQ.out (by have := HQ64.out; omega) ?_
    intro x6 we HSe
    refine ⟨fun _ => HA, ?_⟩
    (repeat (first | (refine Cop.og_skip rfl rfl HA _ (by (simp only [Act.put, List.setIfInBounds_toArray, List.set_cons_succ, List.set_cons_zero]; rfl)) ?_) | (refine Cop.og_take rfl rfl HA ?_; apply Exists.intro; refine ⟨fun w9 h9 => ?_, _, by (simp only [Act.put, List.setIfInBounds_toArray, List.set_cons_succ, List.set_cons_zero]; rfl), ?_⟩; (go_simp; with_reducible rfl))))
    refine og_fin ?_
    go_wp2
    go_ret
    exact ⟨_, rfl, HSe.hb, HSe.own 1 rfl⟩
end Go.Proofs.YtbdmehgbdnninaaDoor
