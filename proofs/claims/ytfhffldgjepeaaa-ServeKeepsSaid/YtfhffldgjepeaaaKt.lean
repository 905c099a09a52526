/- Proved here: a source of tiles tells for each the bytes that were put last, and none that was not put (serve.Kept); without condition. -/
import Derived.Test.YtfhffldgjepeaaaKs
import Derived.Test.YtfhffldgjepeaaaFServeKeeps
namespace Go.Proofs.Ytfhffldgjepeaaa
open Go.RowKit Cop
set_option linter.unusedVariables false
set_option linter.unusedSimpArgs false
set_option maxRecDepth 100000 in
set_option maxHeartbeats 16000000 in
theorem serveKeeps_walk (H N h L I W : Int) (ts : List Tl) (VT : Value) (w : World) (hH : inI H) (hh : inI h) (hL : inI L) (hI : inI I) (hR : Rd w VT ts.length 3 (ts.flatMap tcell)) (hA : ∀ y ∈ ts, Rd w y.2.2.1 y.2.2.2.length 1 (bl y.2.2.2) ∧ y.2.2.2.length ≤ 140737488351232 ∧ inI y.1 ∧ inI y.2.1) (hl : ts.length * 40 ≤ 140737488351232) :
    Calls Try.prog 3 #[.agg (wdv H N VT), .agg (tlv h L I W)] w fun e w' => e = .returned (.bool true) ∧ Below w.heap.size w w' := by
  have HS0 := Sep.start w
  have HA := Lib.hid hA
  have CSO := Lib.hid (fun (w' : World) (R : List Pc) (HS : Sep w.heap.size w w' R) => source_a H N ts VT w w' R hH hR hA hl HS)
  obtain ⟨kl, hkey⟩ := tileKey h L I 0 hh hL hI inI_zero
  have HKEY := Lib.hid hkey
  have HZ := Lib.hid (fun w' : World => (show (zeroValue 30).run Try.prog w' = .ok (.slice none 0 0) w' by
    obtain ⟨i, hi, hz⟩ := Option.map_eq_some_iff.1 (show (Try.prog.info? 30).map (·.zero) = some (some (.slice none 0 0)) by kernel_rfl)
    simp [zeroValue, typeInfo, hi, hz]))
  obtain ⟨At, ct, rfl, _, _⟩ := hR.shape
  clear hR hA hkey
  go_enter Try.func3, Try.ntmps3
  go_wp2_with (first | refine wl_bx HS0 rfl 24 _ rfl (wdv H N (.slice At ts.length ct)) rfl ?_)
  intro gw w1 HS1
  go_wp2_with (first | refine wl_bx HS1 rfl 26 _ rfl (tlv h L I W) rfl ?_)
  intro gt w2 HS2
  clear HS0 HS1
  go_wp2_with (first | refine wl_ld HS2 1 rfl rfl 24 _ rfl rfl Try.underlying24 rfl (wd_info _ _ _) ?_)
  (with_reducible refine Calls.mono (CSO.out w2 _ HS2) ?_)
  rintro e w3 ⟨g, b, c, es, vl, Ls, Q, rfl, hks, hki, hms, HS3⟩
  obtain ⟨Al, cl, rfl, _⟩ := (HS3.own 2 rfl).sl
  have HSr : Sep w.heap.size w w3 (.row gt (tlv h L I W) 26 :: .row gw (wdv H N (.slice At ts.length ct)) 24 :: .row g #[.map (some b)] 43 :: .mp b es c :: .own (.slice Al Ls.length cl) 37 3 Ls.length (Ls.flatMap tcell) :: Q) := HS3.perm (by
    have := List.perm_append_comm (l₁ := [Pc.row gt (tlv h L I W) 26, Pc.row gw (wdv H N (.slice At ts.length ct)) 24]) (l₂ := [Pc.row g #[.map (some b)] 43, Pc.mp b es c, Pc.own (.slice Al Ls.length cl) 37 3 Ls.length (Ls.flatMap tcell)] ++ Q)
    rw [List.append_assoc] at this
    exact this)
  clear HS2 HS3
  obtain ⟨x, bs, ok, tv, isv, hlk, hrd, hbl, htold, hcase⟩ : ∃ (x : Value) (bs : List UInt8) (ok : Bool) (tv : Value) (isv : Bool),
      (∀ w' : World, w'.heap[b]? = some (.map es c) → (Instr.lookup 41 (.map (some b)) (.agg (tlv h L I 0)) true).run Try.prog w' = .ok (.tuple #[x, .bool ok]) w') ∧
      (∀ (w' : World) (R' : List Pc), (∀ p ∈ Q, p ∈ R') → Sep w.heap.size w w' R' → Rd w' x bs.length 1 (bl bs)) ∧ bs.length ≤ 140737488355000 ∧ told (tfind Ls L I) = (tv, isv) ∧
      ((ok = true ∧ isv = true ∧ h = H ∧ Rd w tv bs.length 1 (bl bs)) ∨ (ok = false ∧ isv = true ∧ h ≠ H ∧ bs = []) ∨ (ok = false ∧ isv = false ∧ bs = [])) := by
    cases hf : tfind Ls L I with
    | none =>
      refine ⟨.slice none 0 0, [], false, _, _, fun w' hb => look_miss tileKeyed Try.underlying41 (HZ.out w') hb hks HKEY.out (fun x hx hk => ?_), fun w' R' _ _ => Rd.nil w' 1, by simp, rfl, .inr (.inr ⟨rfl, rfl, rfl⟩)⟩
      obtain ⟨y, h1, h2, _⟩ := hki.a x hx
      obtain ⟨_, e1, e2⟩ := tlv_inj (hk.symm.trans h1)
      rw [← e1, ← e2, hf] at h2
      cases h2
    | some y =>
      by_cases he : h = H
      · subst he
        obtain ⟨x, hx, hxk⟩ := hki.b L I y hf
        obtain ⟨y', h1, h2, h3⟩ := hki.a x hx
        obtain ⟨_, e1, e2⟩ := tlv_inj (hxk.symm.trans h1)
        rw [← e1, ← e2, hf] at h2
        injection h2 with h2
        subst h2
        have hy := HA.out y (hms y (tfind_some _ _ _ _ hf).1)
        exact ⟨x.val, y.2.2.2, true, _, _, fun w' hb => look_hit tileKeyed Try.underlying41 (HZ.out w') hb hks HKEY.out hx hxk, fun w' R' hq HS => (show Ow w' w.heap.size _ _ _ _ _ from HS.all _ (hq _ h3)).rd, by omega, rfl, .inl ⟨rfl, rfl, rfl, hy.1⟩⟩
      · refine ⟨.slice none 0 0, [], false, _, _, fun w' hb => look_miss tileKeyed Try.underlying41 (HZ.out w') hb hks HKEY.out (fun x hx hk => ?_), fun w' R' _ _ => Rd.nil w' 1, by simp, rfl, .inr (.inl ⟨rfl, rfl, he, rfl⟩)⟩
        obtain ⟨y, h1, _, _⟩ := hki.a x hx
        exact he (tlv_inj (hk.symm.trans h1)).1
  have HTO := Lib.hid htold
  have CT1 := Lib.hid (fun (w' : World) (HS : Sep w.heap.size w w' (.row gt (tlv h L I W) 26 :: .row gw (wdv H N (.slice At ts.length ct)) 24 :: .row g #[.map (some b)] 43 :: .mp b es c :: .own (.slice Al Ls.length cl) 37 3 Ls.length (Ls.flatMap tcell) :: Q)) => tile_a 2 3 rfl rfl h L I W x bs ok hlk (fun w' HS => hrd w' _ (fun p hp => List.mem_cons_of_mem _ (List.mem_cons_of_mem _ (List.mem_cons_of_mem _ (List.mem_cons_of_mem _ (List.mem_cons_of_mem _ hp))))) HS) hbl HS)
  have CT2 := Lib.hid (fun (w' : World) (v : Value) (HS : Sep w.heap.size w w' (.own v 5 1 bs.length (bl bs) :: .row gt (tlv h L I W) 26 :: .row gw (wdv H N (.slice At ts.length ct)) 24 :: .row g #[.map (some b)] 43 :: .mp b es c :: .own (.slice Al Ls.length cl) 37 3 Ls.length (Ls.flatMap tcell) :: Q)) => tile_a 3 4 rfl rfl h L I W x bs ok hlk (fun w' HS => hrd w' _ (fun p hp => List.mem_cons_of_mem _ (List.mem_cons_of_mem _ (List.mem_cons_of_mem _ (List.mem_cons_of_mem _ (List.mem_cons_of_mem _ (List.mem_cons_of_mem _ hp)))))) HS) hbl HS)
  have CTE := Lib.hid (fun (w' : World) (hR : Rd w' (.slice Al Ls.length cl) Ls.length 3 (Ls.flatMap tcell)) => tell_a Ls (.slice Al Ls.length cl) h L I W w' hR)
  rw [htold] at CTE
  clear hlk hrd htold hki hms
  go_wp2_with (first | refine wl_ld HSr 0 rfl rfl 26 _ rfl rfl Try.underlying26 rfl (tl_info _ _ _ _) ?_)
  (with_reducible refine Calls.mono (CT1.out _ HSr) ?_)
  rintro e w4 ⟨v1, rfl, HS4⟩
  clear HSr
  go_wp2_with (first | refine wl_ld HS4 1 rfl rfl 26 _ rfl rfl Try.underlying26 rfl (tl_info _ _ _ _) ?_)
  (with_reducible refine Calls.mono (CT2.out _ _ HS4) ?_)
  rintro e w5 ⟨v2, rfl, HS5⟩
  clear HS4
  obtain ⟨A2, c2, rfl, _⟩ := (HS5.own 0 rfl).sl
  obtain ⟨A1, c1, rfl, _⟩ := (HS5.own 1 rfl).sl
  go_wp2_with (first | refine wl_ld HS5 2 rfl rfl 26 _ rfl rfl Try.underlying26 rfl (tl_info _ _ _ _) ?_)
  have hr := (HS5.own 6 rfl).rd
  (with_reducible refine Calls.mono (CTE.out _ hr) ?_)
  rintro e w6 ⟨rfl, b6⟩
  have HS6 := HS5.keep b6
  clear HS5 hr b6
  obtain ⟨t0, t1, t2, t3⟩ := row4 (HS6.row 2 rfl)
  obtain ⟨u0, u1, u2⟩ := row3 (HS6.row 3 rfl)
  rcases hcase with ⟨rfl, rfl, rfl, hRt⟩ | ⟨rfl, rfl, hne, rfl⟩ | ⟨rfl, rfl, rfl⟩
  · obtain ⟨Av, cv, rfl, _⟩ := hRt.shape
    have HS7 := HS6.argL hRt
    clear HS6
    have HSP : Sep w.heap.size w w6 (.own (.slice A1 bs.length c1) 5 1 bs.length (bl bs) :: .rd (.slice Av bs.length cv) bs.length 1 (bl bs) :: .own (.slice A2 bs.length c2) 5 1 bs.length (bl bs) :: []) := ((HS7.sub (R' := .rd (.slice Av bs.length cv) bs.length 1 (bl bs) :: .own (.slice A2 bs.length c2) 5 1 bs.length (bl bs) :: .own (.slice A1 bs.length c1) 5 1 bs.length (bl bs) :: []) (by repeat (first | exact List.nil_sublist _ | exact List.Sublist.refl _ | apply List.Sublist.cons_cons | apply List.Sublist.cons))).front 2)
    have s1 : (convert 30 9 (.slice A1 bs.length c1)).run Try.prog w6 = .ok (.string ⟨bs.toArray⟩) w6 := Rd.string (P := Try.prog) (HSP.own 0 rfl).rd Try.underlying30 Try.underlying5 Try.underlying9
    have s2 : (convert 30 9 (.slice Av bs.length cv)).run Try.prog w6 = .ok (.string ⟨bs.toArray⟩) w6 := Rd.string (P := Try.prog) (HSP.rd 1 rfl) Try.underlying30 Try.underlying5 Try.underlying9
    have fh : (h == h) = true := by simp
    clear HS7
    go_wp2
    go_loopw [13] (fun s13 wr => ∃ (j : Nat) (m : List UInt8), j ≤ bs.length ∧ m.length = bs.length ∧ s13 = .int .i64 (j : Int) ∧ Sep w.heap.size w wr (.own (.slice A1 bs.length c1) 5 1 bs.length (bl m) :: .rd (.slice Av bs.length cv) bs.length 1 (bl bs) :: .own (.slice A2 bs.length c2) 5 1 bs.length (bl bs) :: [])) (fun s13 _ => bs.length - (intOf s13).toNat)
    case atStart => exact ⟨0, bs, by omega, rfl, rfl, HSP⟩
    case round =>
      clear HSP
      obtain ⟨j, m, hj, hml, rfl, HSj⟩ := hrel
      by_cases hjl : j < bs.length
      · have hjli : (j : Int) < (bs.length : Int) := by omega
        obtain ⟨g4, rfl⟩ := Ow.addr (HSj.own 0 rfl) (by omega)
        have hc := own_cell (HSj.own 0 rfl) j (bl_get m j (by omega))
        generalize hq : m.getD j 0 = q at *
        clear hq
        go_wp2_with (refine wl_sto HSj 0 rfl rfl _ _ 5 rfl (by kernel_rfl) j hjl rfl rfl rfl rfl ?_)
        intro w13 HS13
        have HSq : Sep w.heap.size w w13 (.own (.slice (some ⟨g4, 0, none⟩) bs.length c1) 5 1 bs.length (bl (m.set j (UInt8.ofNat (q.toNat + 1)))) :: .rd (.slice Av bs.length cv) bs.length 1 (bl bs) :: .own (.slice A2 bs.length c2) 5 1 bs.length (bl bs) :: []) := by
          have e : (((UInt8.ofNat (q.toNat + 1)).toNat : Nat) : Int) = ((q.toNat : Int) + 1) % 256 := by rw [byte_of]; simp
          rw [bl_set, e]
          exact HS13
        clear HS13 HSj hc
        go_wp2
        go_roundw
        case rel => exact ⟨j + 1, m.set j (UInt8.ofNat (q.toNat + 1)), by omega, by simpa using hml, by go_num, HSq⟩
        case measure => simp [intOf]; omega
      · have hjge : ¬ (j : Int) < (bs.length : Int) := by omega
        have s3 : (convert 30 9 (.slice A2 bs.length c2)).run Try.prog wr = .ok (.string ⟨bs.toArray⟩) wr := Rd.string (P := Try.prog) (HSj.own 2 rfl).rd Try.underlying30 Try.underlying5 Try.underlying9
        have s4 : (convert 30 9 (.slice Av bs.length cv)).run Try.prog wr = .ok (.string ⟨bs.toArray⟩) wr := Rd.string (P := Try.prog) (HSj.rd 1 rfl) Try.underlying30 Try.underlying5 Try.underlying9
        go_wp2
        go_ret
        exact ⟨rfl, HSj.hb⟩
  · have fh : (h == H) = false := by rw [beq_eq_false_iff_ne]; exact hne
    have HSP : Sep w.heap.size w w6 (.own (.slice A1 ([] : List UInt8).length c1) 5 1 ([] : List UInt8).length (bl []) :: []) := HS6.sub (by repeat (first | exact List.nil_sublist _ | exact List.Sublist.refl _ | apply List.Sublist.cons_cons | apply List.Sublist.cons))
    clear HS6 hne
    go_wp2
    go_loopw [13] (fun s13 wr => s13 = .int .i64 0 ∧ Sep w.heap.size w wr (.own (.slice A1 ([] : List UInt8).length c1) 5 1 ([] : List UInt8).length (bl []) :: [])) (fun s13 _ => 0)
    case atStart => exact ⟨rfl, HSP⟩
    case round =>
      clear HSP
      obtain ⟨rfl, HSj⟩ := hrel
      go_wp2
      go_ret
      exact ⟨rfl, HSj.hb⟩
  · have HSP : Sep w.heap.size w w6 (.own (.slice A1 ([] : List UInt8).length c1) 5 1 ([] : List UInt8).length (bl []) :: []) := HS6.sub (by repeat (first | exact List.nil_sublist _ | exact List.Sublist.refl _ | apply List.Sublist.cons_cons | apply List.Sublist.cons))
    clear HS6
    go_wp2
    go_loopw [13] (fun s13 wr => s13 = .int .i64 0 ∧ Sep w.heap.size w wr (.own (.slice A1 ([] : List UInt8).length c1) 5 1 ([] : List UInt8).length (bl []) :: [])) (fun s13 _ => 0)
    case atStart => exact ⟨rfl, HSP⟩
    case round =>
      clear HSP
      obtain ⟨rfl, HSj⟩ := hrel
      go_wp2
      go_ret
      exact ⟨rfl, HSj.hb⟩
section
variable {H : Type} {enc : TypeId × Value → H} {w : World}
theorem weights_mem {P : Program} {t : TypeId} : ∀ (ds : List (DataW H)) (z : DataW H), z ∈ ds → ∀ e ∈ z.weights P t, e ∈ DataW.weightsAll P t ds
  | d :: r, z, h, e, he => by
    unfold DataW.weightsAll
    rcases List.mem_cons.1 h with rfl | h
    · exact List.mem_append.2 (.inl he)
    · exact List.mem_append.2 (.inr (weights_mem r z h e he))
set_option maxRecDepth 100000 in
theorem open_tl (fuel : Nat) (cs : List Value) (x : DataW H × List MemPlace) (hl : cs.length = 3) (h : DataW.trod enc Try.prog w 0 (fun _ => true) true fuel 37 cs = some x) :
    ∃ y : Tl, cs = tcell y ∧ Rd w y.2.2.1 y.2.2.2.length 1 (bl y.2.2.2) ∧ inI y.1 ∧ inI y.2.1 ∧ ((∀ e ∈ x.1.weights Try.prog 37, e ≤ reachBytes) → y.2.2.2.length ≤ 140737488351232) := by
  obtain ⟨xs, n, _, rfl, _, hxl, hff⟩ := DataW.trod_struct Try.underlying37 h
  match cs, hl, xs, hxl with
  | [a, b, c], _, [y0, y1, y2], _ =>
    have q0 := hff 0 _ rfl
    have q1 := hff 1 _ rfl
    have q2 := hff 2 _ rfl
    simp only [List.getElem?_cons_zero, List.getElem?_cons_succ] at q0 q1 q2
    obtain ⟨m0, hm0, _, wf0⟩ := DataW.trod_int Try.underlying3 q0
    obtain ⟨m1, hm1, _, wf1⟩ := DataW.trod_int Try.underlying3 q1
    obtain ⟨v, l, hv, hR, hb⟩ := open_bytes3 Try.underlying30 Try.underlying5 (by kernel_rfl) (by kernel_rfl) q2
    have e0 : a = .int .i64 m0 := (List.cons.inj (show [a] = [.int .i64 m0] from hm0)).1
    have e1 : b = .int .i64 m1 := (List.cons.inj (show [b] = [.int .i64 m1] from hm1)).1
    have e2 : c = v := (List.cons.inj (show [c] = [v] from hv)).1
    clear hm0 hm1 hv q0 q1 q2 hff h
    subst e0 e1 e2
    refine ⟨(m0, m1, c, l), rfl, hR, wf0, wf1, fun hw => ?_⟩
    show l.length ≤ 140737488351232
    rcases hb with ⟨_, rfl⟩ | ⟨ds, rest, hb, hl⟩
    · simp
    · have h1 : (ds.length + rest.length) * Try.prog.bytesOf 5 ∈ (DataW.agg ([y0, y1, y2].map (·.1))).weights Try.prog 37 := by
        unfold DataW.weights
        simp only [Try.underlying37, List.map_cons, List.map_nil, hb]
        simp only [DataW.weightsEach, List.mem_append]
        refine .inr (.inr (.inl ?_))
        unfold DataW.weights
        simp only [Try.underlying30]
        exact List.mem_cons_self
      have h2 := hw _ h1
      rw [show Try.prog.bytesOf 5 = 1 from by kernel_rfl] at h2
      simp only [reachBytes] at h2
      omega
end
set_option maxRecDepth 100000 in
theorem serveKeeps_holds : Rows.ServeKeepsSaid := serveKeeps.row_of_walk fun H enc W base v0 v1 d0 d1 p0 p1 h0 k0 h1 k1 hsz => by
  obtain ⟨cs0, rfl, hs0⟩ := Go.WideShapes.okWide_struct Try.underlying24 k0
  obtain ⟨cs1, rfl, hs1⟩ := Go.WideShapes.okWide_struct Try.underlying26 k1
  obtain ⟨f0, hf0⟩ := h0
  obtain ⟨f1, hf1⟩ := h1
  obtain ⟨xs, n, _, hx, _, hxl, hff⟩ := DataW.trod_struct Try.underlying24 hf0
  obtain ⟨ys, n2, _, _, _, hyl, hgg⟩ := DataW.trod_struct Try.underlying26 hf1
  obtain ⟨l0⟩ := cs0
  obtain ⟨l1⟩ := cs1
  rw [show Try.prog.cellsOf 24 = 3 from by kernel_rfl] at hs0
  rw [show Try.prog.cellsOf 26 = 4 from by kernel_rfl] at hs1
  match l0, hs0, l1, hs1, xs, hxl, ys, hyl with
  | [a, b, c], _, [a1, b1, c1, g1], _, [x0, x1, x2], _, [y0, y1, y2, y3], _ =>
    have q0 := hff 0 _ rfl
    have q1 := hff 1 _ rfl
    have q2 := hff 2 _ rfl
    have r0 := hgg 0 _ rfl
    have r1 := hgg 1 _ rfl
    have r2 := hgg 2 _ rfl
    have r3 := hgg 3 _ rfl
    simp only [List.getElem?_cons_zero, List.getElem?_cons_succ] at q0 q1 q2 r0 r1 r2 r3
    obtain ⟨m0, hm0, _, wf0⟩ := DataW.trod_int Try.underlying3 q0
    obtain ⟨m1, hm1, _, _⟩ := DataW.trod_int Try.underlying3 q1
    obtain ⟨n0, hn0, _, wn0⟩ := DataW.trod_int Try.underlying3 r0
    obtain ⟨n1, hn1, _, wn1⟩ := DataW.trod_int Try.underlying3 r1
    obtain ⟨n2, hn2, _, wn2⟩ := DataW.trod_int Try.underlying3 r2
    obtain ⟨n3, hn3, _, wn3⟩ := DataW.trod_int Try.underlying3 r3
    have e0 : a = .int .i64 m0 := (List.cons.inj (show [a] = [.int .i64 m0] from hm0)).1
    have e1 : b = .int .i64 m1 := (List.cons.inj (show [b] = [.int .i64 m1] from hm1)).1
    have i0 : a1 = .int .i64 n0 := (List.cons.inj (show [a1] = [.int .i64 n0] from hn0)).1
    have i1 : b1 = .int .i64 n1 := (List.cons.inj (show [b1] = [.int .i64 n1] from hn1)).1
    have i2 : c1 = .int .i64 n2 := (List.cons.inj (show [c1] = [.int .i64 n2] from hn2)).1
    have i3 : g1 = .int .i64 n3 := (List.cons.inj (show [g1] = [.int .i64 n3] from hn3)).1
    have q2 : DataW.trod enc Try.prog W 0 (fun _ => true) true n 22 [c] = some x2 := q2
    obtain ⟨z2, pz2⟩ := x2
    obtain ⟨ts, ds, rest, hR, hd, hOK, hz⟩ := open_list (α := Tl) tcell (fun y z => Rd W y.2.2.1 y.2.2.2.length 1 (bl y.2.2.2) ∧ inI y.1 ∧ inI y.2.1 ∧ ((∀ e ∈ z.weights Try.prog 37, e ≤ reachBytes) → y.2.2.2.length ≤ 140737488351232)) Try.underlying22 (c := 3) (by kernel_rfl) (by decide) (fun _ => rfl) (fun fuel cs x hl h => open_tl fuel cs x hl h) q2
    have hw : ∀ e ∈ z2.weights Try.prog 22, e ≤ reachBytes := fun e he => by
      have h3 := List.all_eq_true.1 hsz e (by
        injection hx with hx
        rw [hx]
        unfold DataW.weightsEach
        refine List.mem_append.2 (.inl ?_)
        unfold DataW.weights
        simp only [Try.underlying24, List.map_cons, List.map_nil]
        simp only [DataW.weightsEach, List.mem_append]
        exact .inr (.inr (.inl he)))
      simpa using h3
    have hlen : ts.length * 40 ≤ 140737488351232 := by
      rcases hz with ⟨_, rfl⟩ | rfl
      · have : ts.length = 0 := hd.symm
        omega
      · have h4 := hw ((ds.length + rest.length) * Try.prog.bytesOf 37) (by
          unfold DataW.weights
          simp only [Try.underlying22]
          exact List.mem_cons_self)
        rw [show Try.prog.bytesOf 37 = 40 from by kernel_rfl] at h4
        simp only [reachBytes] at h4
        omega
    clear hm0 hm1 hn0 hn1 hn2 hn3 hf0 hf1 hff hgg q0 q1 q2 r0 r1 r2 r3 k0 k1
    subst e0 e1 i0 i1 i2 i3
    exact serveKeeps_walk m0 m1 n0 n1 n2 n3 ts c W wf0 wn0 wn1 wn2 hR (fun y hy => by
      obtain ⟨i, hi⟩ := List.mem_iff_getElem?.1 hy
      have hi2 := (List.getElem?_eq_some_iff.1 hi).1
      obtain ⟨o1, o2, o3, o4⟩ := hOK i y _ hi (List.getElem?_eq_getElem (by omega))
      refine ⟨o1, o4 (fun e he => hw e ?_), o2, o3⟩
      rcases hz with ⟨_, h5⟩ | h5
      · rw [h5] at hd; simp at hd; omega
      · rw [h5]
        unfold DataW.weights
        simp only [Try.underlying22]
        exact List.mem_cons_of_mem _ (List.mem_append.2 (.inl (weights_mem ds _ (List.getElem_mem _) e he)))) hlen
#print axioms serveKeeps_holds
end Go.Proofs.Ytfhffldgjepeaaa