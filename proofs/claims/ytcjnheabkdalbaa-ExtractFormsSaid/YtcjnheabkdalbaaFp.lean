/- Proved here: the bytes of leaves' and nodes' digests are the document's (extract.LeafPreimage, extract.Preimage); without condition. -/
import Derived.Test.YtcjnheabkdalbaaFo
import Derived.Test.YtcjnheabkdalbaaFExtractForms
namespace Go.Proofs.Ytcjnheabkdalbaa
open Go.RowKit Cop
set_option linter.unusedVariables false
set_option linter.unusedSimpArgs false
section
variable {P : Program} {w0 w : World} {B : Nat} {R : List Pc} {ops : Array Oper} {rest : List Oper} {o : Oper} {a : Act} {Q : Exit → Act → World → Prop}
/-- A cell of a slice of the call's own is stored. -/
theorem wl_stg1 (HS : Sep B w0 w R) (i : Nat) {g n c : Nat} {e : TypeId} {size : Nat} {xs : List Value} (hi : R[i]? = some (.own (.slice (some ⟨g, 0, none⟩) n c) e size n xs)) (hgd : o.guard = none) (ty : TypeId) (ad x : Operand) (hop : o.op = .store ty ad x) (off : Nat) {y : Value} (hyc : y.cells = #[y]) (hs1 : (P.info? ty).map (·.size) = some 1) (hoff : off + 1 ≤ n * size) (h0 : 0 < n) (had : a.eval ad = .pointer (some ⟨g, off, none⟩)) (hx : a.eval x = y)
    (h1 : (#[y] : Array Value).all (·.oneCell') = true) (h : ∀ w1, Sep B w0 w1 (R.set i (.own (.slice (some ⟨g, 0, none⟩) n c) e size n (xs.take off ++ [y] ++ xs.drop (off + 1)))) → wpList P ops Q rest (a.put o.dst undef) w1) : wpList P ops Q (o :: rest) a w :=
  wpList_plain hgd fun _ hK => ow_stg1 HS i hi ty ad x hop off hyc hs1 hoff h0 had hx h1 fun w1 h2 => hK _ _ (h w1 h2)
end
theorem str_cons (x : UInt8) (l : List UInt8) : ((⟨#[x]⟩ : ByteArray) ++ (⟨l.toArray⟩ : ByteArray)) = ⟨(x :: l).toArray⟩ := bytes_app [x] l
theorem str_snoc (l : List UInt8) (x : UInt8) : ((⟨l.toArray⟩ : ByteArray) ++ (⟨#[x]⟩ : ByteArray)) = ⟨(l ++ [x]).toArray⟩ := bytes_app l [x]
set_option maxRecDepth 100000 in
set_option maxHeartbeats 8000000 in
theorem extractForms_walk (d l r : List UInt8) (v : Value) (w : World) (hR : Rd w v d.length 1 (bl d)) (hd : d.length ≤ 140737488351232) (hl : l.length = 32) (hr : r.length = 32) :
    Gives 6 #[v, .agg (bv l), .agg (bv r)] w (.bool true) := by
  have HS0 := (Sep.start w).arg0 hR
  obtain ⟨A, c, rfl, hc, hcm⟩ := hR.shape
  obtain ⟨L, hL⟩ : ∃ x, d ++ [90] = x := ⟨_, rfl⟩
  have hLl : L.length = d.length + 1 := by rw [← hL]; simp
  obtain ⟨X, hX⟩ : ∃ x, 0 :: d = x := ⟨_, rfl⟩
  obtain ⟨Y, hY⟩ : ∃ x, 1 :: (l ++ r) = x := ⟨_, rfl⟩
  have CL := Lib.hid (fun v w' h => leafpre_a d v w' h hd)
  have CP := Lib.hid (fun w' => preimage_a l r w' hl hr)
  rw [hX] at CL
  rw [hY] at CP
  have hdL : d.length ≤ L.length := by omega
  have hL2 : L.length ≤ 140737488355328 := by omega
  have hXl : X.length = d.length + 1 := by rw [← hX]; rfl
  have HL := Lib.hid hL
  have HLl := Lib.hid hLl
  have HX := Lib.hid hX
  have HXl := Lib.hid hXl
  have HY := Lib.hid hY
  have HLL := Lib.hid hl
  have HRL := Lib.hid hr
  have HX2 := Lib.hid (show X.length ≤ 140737488355328 by omega)
  have E1 := Lib.hid (show ((⟨#[0]⟩ : ByteArray) ++ (⟨d.toArray⟩ : ByteArray)) = ⟨X.toArray⟩ by rw [str_cons, hX])
  have E2 := Lib.hid (show ((⟨d.toArray⟩ : ByteArray) ++ (⟨#[90]⟩ : ByteArray)) = ⟨L.toArray⟩ by rw [str_snoc, hL])
  have E3 := Lib.hid (show (((⟨#[1]⟩ : ByteArray) ++ (⟨l.toArray⟩ : ByteArray)) ++ (⟨r.toArray⟩ : ByteArray)) = ⟨Y.toArray⟩ by rw [str_cons, bytes_app, ← hY]; rfl)
  have HSL := Lib.hid (fun (g : Nat) (W : World) => run_arr_all (P := Try.prog) W Try.underlying23 info_u8' g)
  clear hR hL hX hY hLl hXl hl hr
  go_enter Try.func6, Try.ntmps6
  go_wp2_with (first | refine wl_bx HS0 rfl 23 _ rfl (bv l) rfl ?_)
  intro g1 w1 HS1
  go_wp2_with (first | refine wl_bx HS1 rfl 23 _ rfl (bv r) rfl ?_)
  intro g2 w2 HS2
  clear HS0 HS1
  have HS3 := HS2.built #[] 5 0 1 rfl (by decide)
  go_wp2_with (refine wl_apb (xs := []) HS3 0 rfl rfl rfl (HS3.rd 3 rfl) rfl rfl d.length d (by simp) rfl (by omega) ?_)
  intro v4 w4 HS4 _
  go_wp2_with (first | refine wl_bs HS4 rfl 33 5 1 1 _ rfl (bl [90]) (.int .u8 0) Try.underlying33 (by kernel_rfl) (by decide) (by decide) (by kernel_rfl) rfl ?_)
  intro g5 w5 HS5
  go_wp2_with (refine wl_apb HS5 1 rfl rfl rfl (HS5.own 0 rfl).rd rfl rfl L.length L HLl.out.symm HL.out hL2 ?_)
  intro v6 w6 HS6 _
  obtain ⟨A6, c6, rfl, hc6⟩ := (HS6.own 1 rfl).sl
  clear HS2 HS3 HS4 HS5
  have HSi := HS6.tail
  clear HS6
  go_wp2
  refine Cop.region_ordw (fun w' => Sep w.heap.size w w' [.own (.slice A6 L.length c6) 5 1 L.length (bl L), .row g2 (bv r) 23, .row g1 (bv l) 23, .rd (.slice A d.length c) d.length 1 (bl d)]) 11 (.take 0 (.take 1 (.take 2 (.take 3 (.take 5 (.take 6 (.take 7 (.take 8 (.run 4 (.run 9 (.take 10 (.take 11 Cop.Ord.fin)))))))))))) (by kernel_rfl) (by kernel_rfl) (fun _ _ d _ _ h => by cases d <;> exact h) ?_
  intro w7 hd7
  have HSa := HSi.keep hd7
  clear HSi
  obtain ⟨A7, c7, hc7, hm7, HR7, _, hs7⟩ := rd_to (HSa.own 0 rfl).rd Try.underlying33 info_u8' d.length hdL
  rw [← HL.out, List.take_left' rfl] at HR7
  have HS7 := Lib.hid hs7
  clear hs7
  (repeat (first | (refine Cop.ogw_skip rfl rfl HSa _ (by (simp only [Act.put, List.setIfInBounds_toArray, List.set_cons_succ, List.set_cons_zero]; rfl)) ?_) | (refine Cop.ogw_take rfl rfl HSa ?_; apply Exists.intro; refine ⟨fun w9 h9 => ?_, _, by (simp only [Act.put, List.setIfInBounds_toArray, List.set_cons_succ, List.set_cons_zero]; rfl), ?_⟩; (have s1 := HS7.out w9; go_simp; with_reducible rfl))))
  refine Cop.ogw_run rfl rfl ?_
  refine ow_call_own HSa 20 _ (by go_simp) (CL.out _ _ HR7) ?_
  intro v8 w8 b8 HSb
  have HR8 := HR7.below b8
  refine ⟨_, fun _ h => h, fun _ => HSb.tail, ?_⟩
  refine Cop.ogw_run rfl rfl ?_
  refine ow_call_own HSb 20 _ (by go_simp) (CL.out _ _ HR8) ?_
  intro v9 w9 b9 HSc
  have HSd : Sep w.heap.size w w9 [.own (.slice A6 L.length c6) 5 1 L.length (bl L), .row g2 (bv r) 23, .row g1 (bv l) 23, .rd (.slice A d.length c) d.length 1 (bl d)] := HSc.tail.tail
  refine ⟨_, fun _ h => h, fun _ => HSd, ?_⟩
  (repeat (first | (refine Cop.ogw_skip rfl rfl HSd _ (by (simp only [Act.put, List.setIfInBounds_toArray, List.set_cons_succ, List.set_cons_zero]; rfl)) ?_) | (refine Cop.ogw_take rfl rfl HSd ?_; apply Exists.intro; refine ⟨fun w9 h9 => ?_, _, by (simp only [Act.put, List.setIfInBounds_toArray, List.set_cons_succ, List.set_cons_zero]; rfl), ?_⟩; (go_simp; with_reducible rfl))))
  refine ogw_fin ?_
  obtain ⟨A8, c8, rfl, _⟩ := (HSc.own 1 rfl).sl
  obtain ⟨A9, c9, rfl, _⟩ := (HSc.own 0 rfl).sl
  clear HSa HSb HSd HR7 HR8
  have s1 := Rd.string (P := Try.prog) (HSc.rd 5 rfl) Try.underlying33 Try.underlying5 Try.underlying9
  have s2 := Rd.string (P := Try.prog) (HSc.own 2 rfl).rd Try.underlying33 Try.underlying5 Try.underlying9
  have s3 := Rd.string (P := Try.prog) (HSc.own 1 rfl).rd Try.underlying33 Try.underlying5 Try.underlying9
  unfold sv at s1 s2 s3
  have e1 := E1.out
  have e2 := E2.out
  go_wp2
  go_loopw [11] (fun s wr => ∃ (k : Nat) (zs : List Value), k ≤ X.length ∧ s = .int .i64 k ∧ Sep w.heap.size w wr [.own (.slice A9 X.length c9) 5 1 X.length (bl X), .own (.slice A8 X.length c8) 5 1 X.length zs, .own (.slice A6 L.length c6) 5 1 L.length (bl L), .row g2 (bv r) 23, .row g1 (bv l) 23, .rd (.slice A d.length c) d.length 1 (bl d)]) (fun s _ => X.length - (intOf s).toNat)
  case atStart => exact ⟨0, _, Nat.zero_le _, rfl, HSc⟩
  case round =>
    clear HSc s1 s2 s3
    obtain ⟨k, zs, hk, rfl, HSi⟩ := hrel
    by_cases hlt : k < X.length
    · have hlt' : (k : Int) < (X.length : Int) := by omega
      obtain ⟨g, rfl⟩ := Ow.addr (HSi.own 1 rfl) (by omega)
      have hx2 := HX2.out
      go_wp2_with (first | refine wl_stg1 HSi 1 rfl rfl 5 _ _ rfl k (y := .int .u8 9) rfl (by kernel_rfl) (by omega) (by omega) rfl rfl (by simp [Value.oneCell']) ?_)
      intro w10 HSj
      clear HSi
      go_wp2
      go_roundw
      case rel => exact ⟨k + 1, _, by omega, by go_num, HSj⟩
      case measure => simp [intOf]; omega
    · have hlt' : ¬ (k : Int) < (X.length : Int) := by omega
      have HSj : Sep w.heap.size w wr [.own (.slice A9 X.length c9) 5 1 X.length (bl X), .row g2 (bv r) 23, .row g1 (bv l) 23] := HSi.sub (by repeat (first | exact List.nil_sublist _ | exact List.Sublist.refl _ | apply List.Sublist.cons_cons | apply List.Sublist.cons))
      clear HSi
      go_wp2
      refine Cop.region_ordw (fun w' => Sep w.heap.size w w' [.own (.slice A9 X.length c9) 5 1 X.length (bl X), .row g2 (bv r) 23, .row g1 (bv l) 23]) 17 (.take 0 (.take 1 (.take 2 (.take 3 (.take 4 (.take 5 (.take 6 (.take 9 (.take 10 (.take 11 (.take 12 (.take 13 (.take 14 (.run 7 (.take 8 (.take 15 (.take 16 (.take 17 Cop.Ord.fin)))))))))))))))))) (by kernel_rfl) (by kernel_rfl) (fun _ _ d _ _ h => by cases d <;> exact h) ?_
      intro w11 hd11
      have HSk := HSj.keep hd11
      clear HSj
      (repeat (first | (refine Cop.ogw_skip rfl rfl HSk _ (by (simp only [Act.put, List.setIfInBounds_toArray, List.set_cons_succ, List.set_cons_zero]; rfl)) ?_) | (refine Cop.ogw_ld rfl rfl HSk 23 _ rfl (.pointer (some ⟨g1, 0, none⟩)) rfl _ (fun w9 h9 => load_row (h9.row 2 rfl) 23 Try.underlying23 rfl (dgS HLL.out)) _ (by (simp only [Act.put, List.setIfInBounds_toArray, List.set_cons_succ, List.set_cons_zero]; rfl)) ?_) | (refine Cop.ogw_ld rfl rfl HSk 23 _ rfl (.pointer (some ⟨g2, 0, none⟩)) rfl _ (fun w9 h9 => load_row (h9.row 1 rfl) 23 Try.underlying23 rfl (dgS HRL.out)) _ (by (simp only [Act.put, List.setIfInBounds_toArray, List.set_cons_succ, List.set_cons_zero]; rfl)) ?_) | (refine Cop.ogw_take rfl rfl HSk ?_; apply Exists.intro; refine ⟨fun w9 h9 => ?_, _, by (simp only [Act.put, List.setIfInBounds_toArray, List.set_cons_succ, List.set_cons_zero]; rfl), ?_⟩; (have s1 : (convert 33 9 (.slice A9 X.length c9)).run Try.prog w9 = .ok (.string ⟨X.toArray⟩) w9 := Rd.string (P := Try.prog) (h9.own 0 rfl).rd Try.underlying33 Try.underlying5 Try.underlying9; have s4 := HSL.out g1 w9; have s5 := HSL.out g2 w9; have s6 : (convert 33 9 (.slice (some ⟨g1, 0, none⟩) 32 32)).run Try.prog w9 = .ok (.string ⟨l.toArray⟩) w9 := Rd.string (P := Try.prog) (Sep.rdRow h9 2 rfl 32 HLL.out (by decide)) Try.underlying33 Try.underlying5 Try.underlying9; have s7 : (convert 33 9 (.slice (some ⟨g2, 0, none⟩) 32 32)).run Try.prog w9 = .ok (.string ⟨r.toArray⟩) w9 := Rd.string (P := Try.prog) (Sep.rdRow h9 1 rfl 32 HRL.out (by decide)) Try.underlying33 Try.underlying5 Try.underlying9; have e1 := E1.out; have e3 := E3.out; have n1 := HLL.out; have n2 := HRL.out; go_simp; with_reducible rfl))))
      refine Cop.ogw_run rfl rfl ?_
      refine ow_call_own HSk 21 _ (by go_simp) (CP.out _) ?_
      intro v12 w12 b12 HSl
      refine ⟨fun w' => Sep w.heap.size w w' (.own v12 5 1 Y.length (bl Y) :: [.own (.slice A9 X.length c9) 5 1 X.length (bl X), .row g2 (bv r) 23, .row g1 (bv l) 23]), fun _ h => h.tail, fun _ => HSl, ?_⟩
      (repeat (first | (refine Cop.ogw_skip rfl rfl HSl _ (by (simp only [Act.put, List.setIfInBounds_toArray, List.set_cons_succ, List.set_cons_zero]; rfl)) ?_) | (refine Cop.ogw_take rfl rfl HSl ?_; apply Exists.intro; refine ⟨fun w9 h9 => ?_, _, by (simp only [Act.put, List.setIfInBounds_toArray, List.set_cons_succ, List.set_cons_zero]; rfl), ?_⟩; (have s1 : (convert 33 9 v12).run Try.prog w9 = .ok (.string ⟨Y.toArray⟩) w9 := Rd.string (P := Try.prog) (h9.own 0 rfl).rd Try.underlying33 Try.underlying5 Try.underlying9; have e3 := E3.out; go_simp; with_reducible rfl))))
      refine ogw_fin ?_
      go_wp2
      go_ret
      exact ⟨rfl, HSl.hb⟩
theorem extractForms_holds : Rows.ExtractFormsSaid := extractForms.row_of_walk fun H enc W base v0 v1 v2 d0 d1 d2 p0 p1 p2 h0 k0 h1 k1 h2 k2 hsz => by
  obtain ⟨d, hR, hd⟩ := open_bslice Try.underlying33 Try.underlying5 (by kernel_rfl) (by kernel_rfl) h0 k0 hsz 0 rfl rfl
  obtain ⟨l, hl, rfl⟩ := open_bytes Try.underlying23 Try.underlying5 (by kernel_rfl) (by kernel_rfl) h1 k1
  obtain ⟨r, hr, rfl⟩ := open_bytes Try.underlying23 Try.underlying5 (by kernel_rfl) (by kernel_rfl) h2 k2
  exact extractForms_walk d l r v0 W hR hd hl hr
#print axioms extractForms_holds
end Go.Proofs.Ytcjnheabkdalbaa
