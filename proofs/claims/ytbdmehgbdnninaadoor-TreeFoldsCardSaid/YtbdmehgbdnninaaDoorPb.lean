/- tree.Inclusion and the reference's. -/
import Derived.Test.YtbdmehgbdnninaaDoorIn
namespace Go.Proofs.YtbdmehgbdnninaaDoor
open Go.RowKit Cop
set_option linter.unusedVariables false
set_option linter.unusedSimpArgs false
section
variable {P : Program} {w0 w : World} {B : Nat} {R : List Pc} {o : Oper} {a : Act}
/-- A scalar parameter that is boxed. -/
theorem wl_bx1 {ops : Array Oper} {rest : List Oper} {Q : Exit → Act → World → Prop} (HS : Sep B w0 w R) (hgd : o.guard = none) (ty : TypeId) (x : Operand) (hop : o.op = .box ty x) (v : Value) (hv : v.cells = #[v]) (hx : a.eval x = v)
    (h : ∀ g w1, Sep B w0 w1 (.row g #[v] ty :: R) → wpList P ops Q rest (a.put o.dst (.pointer (some ⟨g, 0, none⟩))) w1) : wpList P ops Q (o :: rest) a w := by
  refine wpList_plain hgd fun K hK => ?_
  refine ow_val (.pointer (some ⟨w.heap.size, 0, none⟩)) (w.alloc (.cells #[v] ty)) ?_ (hK _ _ (h _ _ (HS.alloc #[v] ty)))
  simp only [execOp, hop, hx]
  simp [Instr.box, Result.andThen, newVar, newRow, hv]
theorem wl_al1 {ops : Array Oper} {rest : List Oper} {Q : Exit → Act → World → Prop} (HS : Sep B w0 w R) (hgd : o.guard = none) (ty : TypeId) (hop : o.op = .alloc ty) (v : Value) (hv : v.cells = #[v]) (hz : (P.info? ty).map (·.zero) = some (some v))
    (h : ∀ g w1, Sep B w0 w1 (.row g #[v] ty :: R) → wpList P ops Q rest (a.put o.dst (.pointer (some ⟨g, 0, none⟩))) w1) : wpList P ops Q (o :: rest) a w := by
  refine wpList_plain hgd fun K hK => ?_
  obtain ⟨i, hi, hz⟩ := Option.map_eq_some_iff.1 hz
  have hzz : (zeroValue ty).run P w = .ok v w := by simp [zeroValue, typeInfo, hi, hz]
  refine ow_val (.pointer (some ⟨w.heap.size, 0, none⟩)) (w.alloc (.cells #[v] ty)) ?_ (hK _ _ (h _ _ (HS.alloc #[v] ty)))
  simp only [execOp, hop]
  simp [Instr.alloc, Sem.run_bind, hzz, Result.andThen, newVar, newRow, hv]
end
set_option maxRecDepth 100000 in
set_option maxHeartbeats 4000000 in
theorem incl_bad (A : Option Addr) (m c : Nat) (i n : Int) (w : World) (hm : m ≤ 4398046511104) (hno : ¬ (1 ≤ n ∧ n ≤ (m : Int) ∧ 0 ≤ i ∧ i < n)) : Gives 35 #[.slice A m c, .int .i64 i, .int .i64 n] w (.tuple #[.slice none 0 0, .int .i64 40]) := by
  have HS0 := Sep.start w
  have HNO := Lib.hid hno
  clear hno
  go_enter Tryd.func35, Tryd.ntmps35
  go_wp2_with (first | refine wl_bx1 HS0 rfl 22 _ rfl (.slice A m c) rfl rfl ?_)
  intro g1 w1 HS1
  go_wp2_with (first | refine wl_bx1 HS1 rfl 3 _ rfl (.int .i64 i) rfl rfl ?_)
  intro g2 w2 HS2
  have c0 := (row_cell (HS2.row 1 rfl) 0).trans (show (#[Value.slice A m c] : Array Value)[0]? = some (.slice A m c) from rfl)
  have c1 := (row_cell (HS2.row 0 rfl) 0).trans (show (#[Value.int .i64 i] : Array Value)[0]? = some (.int .i64 i) from rfl)
  rcases (show n < 1 ∨ (¬ n < 1 ∧ (m : Int) < n) ∨ (¬ n < 1 ∧ ¬ (m : Int) < n ∧ i < 0) ∨ (¬ n < 1 ∧ ¬ (m : Int) < n ∧ ¬ i < 0 ∧ n ≤ i) from by have := HNO.out; omega) with h1 | ⟨h1, h2⟩ | ⟨h1, h2, h3⟩ | ⟨h1, h2, h3, h4⟩
  all_goals
    go_wp2
    go_ret2
    exact ⟨rfl, HS2.hb⟩
set_option maxRecDepth 100000 in
set_option maxHeartbeats 4000000 in
theorem incl_ok (l : List (List UInt8)) (v : Value) (i n : Nat) (w : World) (hT : Tab w) (hl : AllD l) (hll : l.length ≤ 4398046511104) (hR : Rd w v l.length 32 (dcs l)) (hin : i < n) (hnl : n ≤ l.length) :
    Calls Tryd.prog 35 #[v, .int .i64 i, .int .i64 n] w fun e w' => ∃ x, e = .returned (.tuple #[x, .int .i64 0]) ∧ Below w.heap.size w w' ∧ Ow w' w.heap.size 26 32 x (tpath nodeD (sha []) (l.take n) i).length (dcs (tpath nodeD (sha []) (l.take n) i)) := by
  have htl := tpath_len64 (l.take n) (by rw [List.length_take]; omega) i
  have HS0 := (Sep.start w).arg0 hR
  obtain ⟨A, c, rfl, _, _⟩ := hR.shape
  have CI := Lib.hid (fun gp gw gi gl w1 (HS : Sep w.heap.size w w1 (incl gp gw gi gl (.slice none 0 0) [] l i A c [])) => incl_gen l (root nodeD (sha [])) (tpath nodeD (sha [])) A c w.heap.size w i gp gw gi gl [] hl hll root_length (fun l i h => tpath_one _ _ h) (fun l i h h2 => tpath_lt _ _ h h2) (fun l i h h2 => tpath_ge _ _ h h2)
    (fun l' w' v' hb h1 h2 h3 => root_a l' v' w' (hT.below hb) h1 h2 h3) n 0 n 0 (n : Int) (.slice none 0 0) [] w1 rfl rfl (by omega) (by omega) (by omega) hin hnl (by rw [List.nil_append, seg_whole, Nat.sub_zero]; omega) HS)
  simp only [List.nil_append, seg_whole, Nat.sub_zero] at CI
  obtain ⟨q, hq⟩ : ∃ q, tpath nodeD (sha []) (l.take n) i = q := ⟨_, rfl⟩
  rw [hq] at CI htl ⊢
  have k1 : ¬ (n : Int) < 1 := by omega
  have k2 : ¬ (l.length : Int) < (n : Int) := by omega
  have k3 : ¬ (i : Int) < 0 := by omega
  have k4 : ¬ (n : Int) ≤ (i : Int) := by omega
  clear hR hq hl
  go_enter Tryd.func35, Tryd.ntmps35
  go_wp2_with (first | refine wl_bx1 HS0 rfl 22 _ rfl (.slice A l.length c) rfl rfl ?_)
  intro gl w1 HS1
  go_wp2_with (first | refine wl_bx1 HS1 rfl 3 _ rfl (.int .i64 (i : Int)) rfl rfl ?_)
  intro gi w2 HS2
  have c0 := (row_cell (HS2.row 1 rfl) 0).trans (show (#[Value.slice A l.length c] : Array Value)[0]? = some (.slice A l.length c) from rfl)
  have c1 := (row_cell (HS2.row 0 rfl) 0).trans (show (#[Value.int .i64 (i : Int)] : Array Value)[0]? = some (.int .i64 (i : Int)) from rfl)
  clear HS0 HS1
  go_wp2_with (first | refine wl_al1 HS2 rfl 22 rfl (.slice none 0 0) rfl (by kernel_rfl) ?_)
  intro gp w3 HS3
  clear c0 c1
  go_wp2_with (first | refine wl_al1 HS3 rfl 92 rfl .nilFunc rfl (by kernel_rfl) ?_)
  intro gw w4 HS4
  go_wp2_with (first | refine wl_stc HS4 0 rfl rfl 92 _ _ rfl (by kernel_rfl) 0 (by simp) (y := .func (.func 62) #[] #[.pointer (some ⟨gi, 0, none⟩), .pointer (some ⟨gw, 0, none⟩), .pointer (some ⟨gp, 0, none⟩), .pointer (some ⟨gl, 0, none⟩)]) rfl rfl rfl rfl ?_)
  intro w5 HS5
  have HS6 : Sep w.heap.size w w5 (incl gp gw gi gl (.slice none 0 0) [] l i A c []) := (Sep.ownNil HS5 26 32).front 2
  have HR6 := Lib.hid (CI.out gp gw gi gl w5 HS6)
  have c0 : w5.cell? ⟨gw, 0, none⟩ = some (.func (.func 62) #[] #[.pointer (some ⟨gi, 0, none⟩), .pointer (some ⟨gw, 0, none⟩), .pointer (some ⟨gp, 0, none⟩), .pointer (some ⟨gl, 0, none⟩)]) := by rw [row_cell (HS6.row 2 rfl)]; rfl
  clear HS2 HS3 HS4 HS5 HS6
  go_wp2_with fail
  (with_reducible refine Calls.mono HR6.out ?_)
  rintro e' w6 ⟨rfl, x6, HS7⟩
  clear c0
  obtain ⟨A6, c6, rfl, _⟩ := (HS7.own 1 rfl).sl
  have c0 : w6.cell? ⟨gp, 0, none⟩ = some (.slice A6 q.length c6) := by rw [row_cell (HS7.row 0 rfl)]; rfl
  go_wp2
  go_ret2
  exact ⟨_, rfl, HS7.hb, HS7.own 1 rfl⟩
set_option maxRecDepth 100000 in
set_option maxHeartbeats 4000000 in
theorem pathB_gen (Rt : List (List UInt8) → List UInt8) (Tp : List (List UInt8) → Nat → List (List UInt8)) (hrl : ∀ l, AllD l → (Rt l).length = 32) (h1 : ∀ l i, l.length < 2 → Tp l i = []) (hlt : ∀ l i, 2 ≤ l.length → i < hf l.length → Tp l i = Tp (l.take (hf l.length)) i ++ [Rt (l.drop (hf l.length))])
    (hge : ∀ l i, 2 ≤ l.length → ¬ i < hf l.length → Tp l i = Tp (l.drop (hf l.length)) (i - hf l.length) ++ [Rt (l.take (hf l.length))])
    (hCR : ∀ l' w' v', AllD l' → l'.length ≤ 4398046511104 → Rd w' v' l'.length 32 (dcs l') → Gives 16 #[v'] w' (.agg (bv (Rt l')))) :
    ∀ (n : Nat) (l : List (List UInt8)) (i : Nat) (ii : Int) (v : Value) (w : World), l.length = n → ii = (i : Int) → i < n → AllD l → n ≤ 4398046511104 → (Tp l i).length ≤ 1000 → Rd w v n 32 (dcs l) →
      Calls Tryd.prog 63 #[v, .int .i64 ii] w fun e w' => ∃ x, e = .returned x ∧ Below w.heap.size w w' ∧ Ow w' w.heap.size 26 32 x (Tp l i).length (dcs (Tp l i)) := by
  have HRL := Lib.hid hrl
  have H1 := Lib.hid h1
  have HLT := Lib.hid hlt
  have HGE := Lib.hid hge
  have CR := Lib.hid hCR
  clear hrl h1 hlt hge hCR
  intro n
  induction n using Nat.strongRecOn with
  | ind n ih =>
  intro l i ii v w hln hii hin hl hn hq hR
  have IH := Lib.hid ih
  have HL := Lib.hid hl
  clear ih hl
  have hi0 : 0 ≤ ii := by omega
  have hi1 : ii ≤ 4398046511104 := by omega
  by_cases hone : n = 1
  · subst hone
    rw [H1.out _ _ (by omega)]
    obtain ⟨A, c, rfl, _, _⟩ := hR.shape
    clear IH hln hii
    go_enter Tryd.func63, Tryd.ntmps63
    go_wp2
    go_ret
    exact ⟨_, rfl, Below.refl _ _, Ow.nil _ _ _ _ _⟩
  have h2 : 2 ≤ l.length := by omega
  have hlt := hf_lt h2
  have hps := hf_pos l.length
  have CH := Lib.hid (fun w => half_b l.length w h2 (by omega))
  have hT1 := HLT.out l i h2
  have hT2 := HGE.out l i h2
  obtain ⟨k, hk⟩ : ∃ k, hf l.length = k := ⟨_, rfl⟩
  rw [hk] at hlt hps CH hT1 hT2
  rw [hln] at CH
  obtain ⟨A, c, rfl, _, _⟩ := hR.shape
  have e1 : (l.take k).length = k := by rw [List.length_take]; omega
  have e2 : (l.drop k).length = n - k := by rw [List.length_drop]; omega
  have hR0 : Rd w (.slice A n c) l.length 32 (dcs l) := by rw [hln]; exact hR
  obtain ⟨A1, c1, hr1, _, hs1, _⟩ := rd_seg hR0 HL.out 0 k (by omega) (by omega)
  obtain ⟨A2, c2, hr2, _, _, hs2⟩ := rd_seg hR0 HL.out k n (by omega) (by omega)
  have hs1 := hs1 rfl
  have hs2 := hs2 hln.symm
  rw [seg_whole, Nat.sub_zero] at hr1
  rw [Nat.sub_zero] at hs1
  rw [show seg l k n = l.drop k from by unfold seg; rw [← hln, List.take_length]] at hr2
  have HR1 := hr1 w hR0
  have HR2 := hr2 w hR0
  have hne : ¬ (n : Int) = 1 := by omega
  have hneb : ((n : Int) == 1) = false := by rw [beq_eq_false_iff_ne]; exact hne
  have HA : True := trivial
  have HS0 := ((Sep.start w).arg0 HR1).arg0 HR2
  obtain ⟨m, hm⟩ : ∃ m, n - k = m := ⟨_, rfl⟩
  rw [hm] at HS0 hs2 e2
  have HSL1 := Lib.hid (fun W => hs1 W .i64)
  have HSL2 := Lib.hid (fun W => hs2 W .i64)
  have hkb : (k : Int) ≤ 4398046511104 := by omega
  by_cases hik : i < k
  · have hTp := hT1 hik
    have hXl := HRL.out _ (HL.out.drop k)
    obtain ⟨X, hX⟩ : ∃ y, Rt (l.drop k) = y := ⟨_, rfl⟩
    obtain ⟨p1, hp1⟩ : ∃ y, Tp (l.take k) i = y := ⟨_, rfl⟩
    rw [hX, hp1] at hTp
    obtain ⟨q, hqq⟩ : ∃ y, p1 ++ [X] = y := ⟨_, rfl⟩
    rw [hqq] at hTp
    rw [hTp] at hq ⊢
    have HQ := Lib.hid hqq
    have HQL := Lib.hid (show p1.length + 1 = q.length by rw [← hqq, List.length_append]; rfl)
    have HQ64 := Lib.hid hq
    have hrec := fun w' v' hv => IH.out k (by omega) (l.take k) i ii v' w' e1 hii hik (HL.out.take k) (by omega) (by rw [hp1]; have := HQL.out; omega) hv
    rw [hp1] at hrec
    have CRX := Lib.hid (fun w' v' (hv : Rd w' v' m 32 (dcs (l.drop k))) => CR.out (l.drop k) w' v' (HL.out.drop k) (by omega) (by rw [e2]; exact hv))
    rw [hX] at CRX hXl
    obtain ⟨T1, hT1'⟩ : ∃ x, l.take k = x := ⟨_, rfl⟩
    obtain ⟨T2, hT2'⟩ : ∃ x, l.drop k = x := ⟨_, rfl⟩
    rw [hT1', hT2'] at HS0
    rw [hT2'] at CRX
    rw [hT1'] at hrec
    have HREC := Lib.hid hrec
    have HXL := Lib.hid hXl
    have hik' : ii < (k : Int) := by omega
    clear IH h2 hk hT1 hT2 hR0 hTp hX hp1 hqq hrec hXl hik hr1 hr2 hs1 hs2 HR1 HR2 e1 e2 hT1' hT2' hm hR hln hii
    go_enter Tryd.func63, Tryd.ntmps63
    go_wp2_with fail
    (with_reducible refine Calls.mono (CH.out w) ?_)
    rintro e wh ⟨rfl, rfl⟩
    go_wp2
    refine Cop.region_ord (fun w' => True) 11 (.take 0 (.take 1 (.take 2 (.take 3 (.take 5 (.take 6 (.take 7 (.run 4 (.run 8 (.run 9 (.run 10 (.take 11 Cop.Ord.fin)))))))))))) (by kernel_rfl) (by kernel_rfl) (fun _ _ d _ _ h => by cases d <;> exact h) ?_
    intro wa hda
    have HSa := HS0.keep hda
    (repeat (first | (refine Cop.og_skip rfl rfl HA _ (by (simp only [Act.put, List.setIfInBounds_toArray, List.set_cons_succ, List.set_cons_zero]; rfl)) ?_) | (refine Cop.og_take rfl rfl HA ?_; apply Exists.intro; refine ⟨fun w9 h9 => ?_, _, by (simp only [Act.put, List.setIfInBounds_toArray, List.set_cons_succ, List.set_cons_zero]; rfl), ?_⟩; (have e1 := HSL1.out w9; have e2 := HSL2.out w9; go_simp; with_reducible rfl))))
    refine Cop.og_run rfl rfl ?_
    refine ow_call_ex 63 _ (fun x w' => Below wa.heap.size wa w' ∧ Ow w' wa.heap.size 26 32 x p1.length (dcs p1)) (by go_simp) (HREC.out wa _ (HSa.rd 1 rfl)) ?_
    rintro x1 wb ⟨bb, ob⟩
    have HSb := HSa.made bb ob
    obtain ⟨Ax, cx, rfl, _⟩ := (HSb.own 0 rfl).sl
    refine ⟨fun _ => HA, ?_⟩
    (repeat (first | (refine Cop.og_skip rfl rfl HA _ (by (simp only [Act.put, List.setIfInBounds_toArray, List.set_cons_succ, List.set_cons_zero]; rfl)) ?_) | (refine Cop.og_take rfl rfl HA ?_; apply Exists.intro; refine ⟨fun w9 h9 => ?_, _, by (simp only [Act.put, List.setIfInBounds_toArray, List.set_cons_succ, List.set_cons_zero]; rfl), ?_⟩; (have e1 := HSL1.out w9; have e2 := HSL2.out w9; go_simp; with_reducible rfl))))
    refine Cop.og_run rfl rfl ?_
    refine ow_call 16 _ _ (fun w' => Below wb.heap.size wb w') (by go_simp) (CRX.out wb _ (HSb.rd 1 rfl)) ?_
    intro wc bc
    have HSc := HSb.keep bc
    refine ⟨fun _ => HA, ?_⟩
    (repeat (first | (refine Cop.og_skip rfl rfl HA _ (by (simp only [Act.put, List.setIfInBounds_toArray, List.set_cons_succ, List.set_cons_zero]; rfl)) ?_) | (refine Cop.og_take rfl rfl HA ?_; apply Exists.intro; refine ⟨fun w9 h9 => ?_, _, by (simp only [Act.put, List.setIfInBounds_toArray, List.set_cons_succ, List.set_cons_zero]; rfl), ?_⟩; (go_simp; with_reducible rfl))))
    refine Cop.og_run rfl rfl ?_
    refine ow_bd HSc _ rfl X HXL.out rfl ?_
    intro g5 wd HSd
    refine ⟨fun _ => HA, ?_⟩
    (repeat (first | (refine Cop.og_skip rfl rfl HA _ (by (simp only [Act.put, List.setIfInBounds_toArray, List.set_cons_succ, List.set_cons_zero]; rfl)) ?_) | (refine Cop.og_take rfl rfl HA ?_; apply Exists.intro; refine ⟨fun w9 h9 => ?_, _, by (simp only [Act.put, List.setIfInBounds_toArray, List.set_cons_succ, List.set_cons_zero]; rfl), ?_⟩; (go_simp; with_reducible rfl))))
    refine Cop.og_run rfl rfl ?_
    refine ow_apd HSd 1 rfl rfl (HSd.own 0 rfl).rd rfl rfl q.length q HQL.out HQ.out (by have := HQ64.out; omega) ?_
    intro x6 we HSe
    refine ⟨fun _ => HA, ?_⟩
    (repeat (first | (refine Cop.og_skip rfl rfl HA _ (by (simp only [Act.put, List.setIfInBounds_toArray, List.set_cons_succ, List.set_cons_zero]; rfl)) ?_) | (refine Cop.og_take rfl rfl HA ?_; apply Exists.intro; refine ⟨fun w9 h9 => ?_, _, by (simp only [Act.put, List.setIfInBounds_toArray, List.set_cons_succ, List.set_cons_zero]; rfl), ?_⟩; (go_simp; with_reducible rfl))))
    refine og_fin ?_
    go_wp2
    go_ret
    exact ⟨_, rfl, HSe.hb, HSe.own 1 rfl⟩
  · have hTp := hT2 hik
    have hXl := HRL.out _ (HL.out.take k)
    obtain ⟨X, hX⟩ : ∃ y, Rt (l.take k) = y := ⟨_, rfl⟩
    obtain ⟨p1, hp1⟩ : ∃ y, Tp (l.drop k) (i - k) = y := ⟨_, rfl⟩
    rw [hX, hp1] at hTp
    obtain ⟨q, hqq⟩ : ∃ y, p1 ++ [X] = y := ⟨_, rfl⟩
    rw [hqq] at hTp
    rw [hTp] at hq ⊢
    have HQ := Lib.hid hqq
    have HQL := Lib.hid (show p1.length + 1 = q.length by rw [← hqq, List.length_append]; rfl)
    have HQ64 := Lib.hid hq
    have hrec := fun w' v' hv => IH.out m (by omega) (l.drop k) (i - k) (ii - (k : Int)) v' w' e2 (by omega) (by omega) (HL.out.drop k) (by omega) (by rw [hp1]; have := HQL.out; omega) hv
    rw [hp1] at hrec
    have CRX := Lib.hid (fun w' v' (hv : Rd w' v' k 32 (dcs (l.take k))) => CR.out (l.take k) w' v' (HL.out.take k) (by omega) (by rw [e1]; exact hv))
    rw [hX] at CRX hXl
    obtain ⟨T1, hT1'⟩ : ∃ x, l.take k = x := ⟨_, rfl⟩
    obtain ⟨T2, hT2'⟩ : ∃ x, l.drop k = x := ⟨_, rfl⟩
    rw [hT1', hT2'] at HS0
    rw [hT1'] at CRX
    rw [hT2'] at hrec
    have HREC := Lib.hid hrec
    have HXL := Lib.hid hXl
    have hik' : ¬ ii < (k : Int) := by omega
    have HWI := Lib.hid (show IntKind.i64.wrap (ii - (k : Int)) = ii - (k : Int) by rw [IntKind.wrap_i64]; omega)
    clear IH h2 hk hT1 hT2 hR0 hTp hX hp1 hqq hrec hXl hik hr1 hr2 hs1 hs2 HR1 HR2 e1 e2 hT1' hT2' hm hR hln hii
    go_enter Tryd.func63, Tryd.ntmps63
    go_wp2_with fail
    (with_reducible refine Calls.mono (CH.out w) ?_)
    rintro e wh ⟨rfl, rfl⟩
    go_wp2
    refine Cop.region_ord (fun w' => True) 13 (.take 0 (.take 1 (.take 2 (.take 3 (.take 4 (.take 5 (.take 7 (.take 8 (.take 9 (.run 6 (.run 10 (.run 11 (.run 12 (.take 13 Cop.Ord.fin)))))))))))))) (by kernel_rfl) (by kernel_rfl) (fun _ _ d _ _ h => by cases d <;> exact h) ?_
    intro wa hda
    have HSa := HS0.keep hda
    (repeat (first | (refine Cop.og_skip rfl rfl HA _ (by (simp only [Act.put, List.setIfInBounds_toArray, List.set_cons_succ, List.set_cons_zero]; rfl)) ?_) | (refine Cop.og_take rfl rfl HA ?_; apply Exists.intro; refine ⟨fun w9 h9 => ?_, _, by (simp only [Act.put, List.setIfInBounds_toArray, List.set_cons_succ, List.set_cons_zero]; rfl), ?_⟩; (have e1 := HSL1.out w9; have e2 := HSL2.out w9; have q1 := HWI.out; go_simp; with_reducible rfl))))
    refine Cop.og_run rfl rfl ?_
    refine ow_call_ex 63 _ (fun x w' => Below wa.heap.size wa w' ∧ Ow w' wa.heap.size 26 32 x p1.length (dcs p1)) (by go_simp) (HREC.out wa _ (HSa.rd 0 rfl)) ?_
    rintro x1 wb ⟨bb, ob⟩
    have HSb := HSa.made bb ob
    obtain ⟨Ax, cx, rfl, _⟩ := (HSb.own 0 rfl).sl
    refine ⟨fun _ => HA, ?_⟩
    (repeat (first | (refine Cop.og_skip rfl rfl HA _ (by (simp only [Act.put, List.setIfInBounds_toArray, List.set_cons_succ, List.set_cons_zero]; rfl)) ?_) | (refine Cop.og_take rfl rfl HA ?_; apply Exists.intro; refine ⟨fun w9 h9 => ?_, _, by (simp only [Act.put, List.setIfInBounds_toArray, List.set_cons_succ, List.set_cons_zero]; rfl), ?_⟩; (have e1 := HSL1.out w9; have e2 := HSL2.out w9; go_simp; with_reducible rfl))))
    refine Cop.og_run rfl rfl ?_
    refine ow_call 16 _ _ (fun w' => Below wb.heap.size wb w') (by go_simp) (CRX.out wb _ (HSb.rd 2 rfl)) ?_
    intro wc bc
    have HSc := HSb.keep bc
    refine ⟨fun _ => HA, ?_⟩
    (repeat (first | (refine Cop.og_skip rfl rfl HA _ (by (simp only [Act.put, List.setIfInBounds_toArray, List.set_cons_succ, List.set_cons_zero]; rfl)) ?_) | (refine Cop.og_take rfl rfl HA ?_; apply Exists.intro; refine ⟨fun w9 h9 => ?_, _, by (simp only [Act.put, List.setIfInBounds_toArray, List.set_cons_succ, List.set_cons_zero]; rfl), ?_⟩; (go_simp; with_reducible rfl))))
    refine Cop.og_run rfl rfl ?_
    refine ow_bd HSc _ rfl X HXL.out rfl ?_
    intro g5 wd HSd
    refine ⟨fun _ => HA, ?_⟩
    (repeat (first | (refine Cop.og_skip rfl rfl HA _ (by (simp only [Act.put, List.setIfInBounds_toArray, List.set_cons_succ, List.set_cons_zero]; rfl)) ?_) | (refine Cop.og_take rfl rfl HA ?_; apply Exists.intro; refine ⟨fun w9 h9 => ?_, _, by (simp only [Act.put, List.setIfInBounds_toArray, List.set_cons_succ, List.set_cons_zero]; rfl), ?_⟩; (go_simp; with_reducible rfl))))
    refine Cop.og_run rfl rfl ?_
    refine ow_apd HSd 1 rfl rfl (HSd.own 0 rfl).rd rfl rfl q.length q HQL.out HQ.out (by have := HQ64.out; omega) ?_
    intro x6 we HSe
    refine ⟨fun _ => HA, ?_⟩
    (repeat (first | (refine Cop.og_skip rfl rfl HA _ (by (simp only [Act.put, List.setIfInBounds_toArray, List.set_cons_succ, List.set_cons_zero]; rfl)) ?_) | (refine Cop.og_take rfl rfl HA ?_; apply Exists.intro; refine ⟨fun w9 h9 => ?_, _, by (simp only [Act.put, List.setIfInBounds_toArray, List.set_cons_succ, List.set_cons_zero]; rfl), ?_⟩; (go_simp; with_reducible rfl))))
    refine og_fin ?_
    go_wp2
    go_ret
    exact ⟨_, rfl, HSe.hb, HSe.own 1 rfl⟩
end Go.Proofs.YtbdmehgbdnninaaDoor
