/- Proved here: a digest that grows in any pieces, cloned, saved and loaded between, tells the document's answers at each step; of arguments of a bulk of at most 1048576 values. The table of constants is tied to the program's text. -/
import Derived.Test.YtepcjdifjjombaaDoorPw
import Derived.Test.YtepcjdifjjombaaDoorOl
import Derived.Test.YtepcjdifjjombaaDoorOy
import Derived.Test.YtepcjdifjjombaaDoorFHashGrowsUpto
namespace Go.Proofs.YtepcjdifjjombaaDoor
open Go.RowKit Cop
set_option linter.unusedVariables false
set_option linter.unusedSimpArgs false
set_option maxRecDepth 100000 in
theorem rnew_a (w : World) : Calls Tryd.prog 33 #[] w fun e w' => e = .returned (.agg (rsv hbegin ((0 : Nat) : Int) (.slice none 0 0))) ∧ Below w.heap.size w w' := by
  have HS0 := Sep.start w
  go_enter Tryd.func33, Tryd.ntmps33
  go_wp2_with (first | refine wl_al HS0 rfl 62 rfl (rsv hzero 0 (.slice none 0 0)) (by kernel_rfl) ?_)
  intro g1 w1 HS1
  go_wp2_with fail
  (with_reducible refine Calls.mono (begin_b w1) ?_)
  rintro e w2 ⟨rfl, b2⟩
  have HS2 := HS1.keep b2
  clear HS1
  go_wp2_with (first | refine wl_bd9 rfl 62 #[(0, .tmp 1)] rfl #[(0, .agg (hv hbegin))] rfl (.agg (rsv hbegin 0 (.slice none 0 0))) (run_build _ _ _ _ (by kernel_rfl)) ?_ | refine wl_st HS2 0 rfl rfl 62 _ _ rfl rfl (cs := rsv hbegin 0 (.slice none 0 0)) rfl (rsv_info _ _ _) rfl (rsv_one _ _ _ _ _) ?_)
  intro w3 HS3
  go_wp2
  exact ret_row rfl rfl g1 rfl 62 (rsv hbegin 0 (.slice none 0 0)) (0, 0) _ (HS3.row 0 rfl) Tryd.underlying62 rfl (rsv_info _ _ _) ⟨rfl, HS3.hb⟩
def acell (x : Int × Value × List UInt8) : List Value := [.int .i64 x.1, x.2.1]
theorem rd_get {w : World} {b o n c size : Nat} {cs : List Value} (h : Rd w (.slice (some ⟨b, o, none⟩) n c) n size cs) (h0 : 0 < n) (j : Nat) (u : Value) (hj : cs[j]? = some u) : w.cell? ⟨b, o + j, none⟩ = some u := by
  obtain ⟨_, A', c', he, _, _, _, hc⟩ := h
  injection he with e1 _ e3
  subst e1 e3
  obtain ⟨b', o', e4, h5⟩ := hc h0
  injection e4 with e4
  injection e4 with e5 e6
  subst e5 e6
  exact h5 j u hj
/-- What a state of the program's and one of the document's are made of. -/
def Both (B : Nat) (w0 wr : World) (g gr : Nat) (h : H8) (n : Nat) (r : List UInt8) (R : List Pc) : Prop :=
  ∃ (v : Value) (Ar : Option Addr) (cr : Nat), Sep B w0 wr (.row g (stv true h (n : Int) v) 50 :: .own v 5 1 r.length (bl r) :: .row gr (rsv h (n : Int) (.slice Ar r.length cr)) 62 :: .rd (.slice Ar r.length cr) r.length 1 (bl r) :: R)
/-- Some bytes are written to both: where there is room. -/
theorem write_fine {B : Nat} {w0 : World} (hTB : TabB B w0) {h : H8} {n : Nat} {r : List UInt8} (s : Sound h n r) (l : List UInt8) (hb : n + l.length ≤ 140737488351232) :
    ∃ h2 t, WBoth B w0 h n r l h2 (n + l.length) t 0 ∧ Sound h2 (n + l.length) t := by
  have hr := s.hr
  have hs := s.write l (by omega)
  refine ⟨over h (r ++ l), tl (r ++ l), ⟨hs.hn, tl_length _, fun g v vb w R HS => ?_, fun vr vb w R i j hi hj HS => ?_⟩, hs⟩
  · exact write_a B w0 g n v vb h r l R w hTB (by omega) (by omega) (by omega) HS
  · obtain ⟨A, c, rfl, _⟩ := (HS.rd i hi).shape
    refine (rwrite_gen h (over h (r ++ l)) n A c r l (r ++ l) (tl (r ++ l)) ((r ++ l).take ((r ++ l).length / 64 * 64)) vb w (HS.rd i hi) (HS.rd j hj) (by omega) (by omega) (by omega) rfl rfl rfl (fun w' v hR => ?_)).mono ?_
    · have := over_b h _ v w' hR
      rw [over_take _ (r ++ l) rfl] at this
      exact this
    · rintro e w' ⟨v', rfl, hb, hR, hk⟩
      exact ⟨v', rfl, HS.fresh hb hR hk⟩
/-- What was saved is loaded. -/
theorem load_saved {B : Nat} {w0 w : World} {R : List Pc} {h : H8} {n : Nat} {r : List UInt8} (s : Sound h n r) (v : Value) (i : Nat) (hi : R[i]? = some (.rd v (savD h n r).length 1 (bl (savD h n r)))) (HS : Sep B w0 w R) :
    Calls Tryd.prog 32 #[v] w fun e w' => ∃ g v', e = .returned (.tuple #[.pointer (some ⟨g, 0, none⟩), .int .i64 0]) ∧ Sep B w0 w' (.row g (stv true h (n : Int) v') 50 :: .own v' 5 1 r.length (bl r) :: R) := by
  have hl := savD_length h n r
  have hr := s.hr
  have hk := s.lok
  have e1 := savD_lwd h n r
  have e2 := savD_lnum h n r (by have := s.hn; omega)
  have e3 := savD_drop h n r
  refine (load_a (savD h n r) v i hi HS (by omega) (by omega)).mono ?_
  rintro e w2 ⟨x, F, rfl, ⟨_, rfl, g, v', rfl, h⟩ | ⟨h, _⟩⟩
  · rw [e1, e2, e3] at h
    exact ⟨g, v', rfl, h⟩
  · exact absurd hk h
set_option maxRecDepth 100000 in
set_option maxHeartbeats 16000000 in
theorem hashGrows_walk (acts : List (Int × Value × List UInt8)) (v0 : Value) (w : World) (hT : Tab w) (hR : Rd w v0 acts.length 2 (acts.flatMap acell)) (hA : ∀ x ∈ acts, Rd w x.2.1 x.2.2.length 1 (bl x.2.2)) (T : Nat → Nat)
    (hT0 : T 0 ≤ 1048576) (hTs : ∀ k x, acts[k]? = some x → T k = x.2.2.length + T (k + 1)) (hTl : acts.length ≤ 1048576) :
    Calls Tryd.prog 9 #[v0] w fun e w' => e = .returned (.bool true) ∧ Below w.heap.size w w' := by
  have hTB : TabB w.heap.size w := hT.base
  have CN := Lib.hid (fun (w' : World) (R : List Pc) (h : Sep w.heap.size w w' R) => new_S h)
  have CST := Lib.hid (fun (R' : List Pc) (w' : World) (i j k g : Nat) (h : H8) (n : Nat) (r : List UInt8) (v vr : Value) (s : Sound h n r) (hi : R'[i]? = some (.row g (stv true h (n : Int) v) 50)) (hj : R'[j]? = some (.own v 5 1 r.length (bl r))) (hk : R'[k]? = some (.rd vr r.length 1 (bl r))) (HS : Sep w.heap.size w w' R') =>
    (show Calls Tryd.prog 34 #[.pointer (some ⟨g, 0, none⟩), .agg (rsv h (n : Int) vr)] w' fun e w2 => e = .returned (.bool true) ∧ Sep w.heap.size w w2 R' from stands_a hTB i j k hi hj hk (by have := s.hr; omega) s.hn HS))
  have CSV := Lib.hid (fun (R' : List Pc) (w' : World) (i j g : Nat) (h : H8) (n : Nat) (r : List UInt8) (v : Value) (s : Sound h n r) (hi : R'[i]? = some (.row g (stv true h (n : Int) v) 50)) (hj : R'[j]? = some (.own v 5 1 r.length (bl r))) (HS : Sep w.heap.size w w' R') =>
    (show Calls Tryd.prog 30 #[.pointer (some ⟨g, 0, none⟩)] w' fun e w2 => ∃ x, e = .returned x ∧ Sep w.heap.size w w2 (.own x 5 1 (savD h n r).length (bl (savD h n r)) :: R') from save_S HS i j hi hj (by have := s.hn; omega) (by have := s.hr; omega)))
  have CLS := Lib.hid (fun (R' : List Pc) (w' : World) (h : H8) (n : Nat) (r : List UInt8) (v : Value) (s : Sound h n r) (i : Nat) (hi : R'[i]? = some (.rd v (savD h n r).length 1 (bl (savD h n r)))) (HS : Sep w.heap.size w w' R') => load_saved s v i hi HS)
  have CWF := Lib.hid (fun (h : H8) (n : Nat) (r l : List UInt8) (s : Sound h n r) (hb : n + l.length ≤ 140737488351232) => write_fine hTB s l hb)
  have CSL := Lib.hid savD_length
  have HA := Lib.hid hA
  have HT := Lib.hid hTs
  have HAC := Lib.hid (fun k x (hx : acts[k]? = some x) => And.intro (flat_at acell 2 (fun _ => rfl) acts k x hx 0 (by decide)) (flat_at acell 2 (fun _ => rfl) acts k x hx 1 (by decide)))
  have HS0 := (Sep.start w).arg0 hR
  obtain ⟨A0, c0, rfl, _, _⟩ := hR.shape
  clear hR hA hTs
  generalize acts.flatMap acell = AC at *
  generalize savD = SVD at *
  go_enter Tryd.func9, Tryd.ntmps9
  go_wp2_with fail
  (with_reducible refine Calls.mono (CN.out w _ HS0) ?_)
  rintro e w1 ⟨g, rfl, HS1⟩
  clear HS0
  go_wp2_with fail
  (with_reducible refine Calls.mono (rnew_a w1) ?_)
  rintro e w2 ⟨rfl, b2⟩
  have HS2 := HS1.keep b2
  clear HS1
  go_wp2_with (first | refine wl_al HS2 rfl 62 rfl (rsv hzero 0 (.slice none 0 0)) (by kernel_rfl) ?_)
  intro gr w3 HS3
  go_wp2_with (first | refine wl_st HS3 0 rfl rfl 62 _ _ rfl rfl (cs := rsv hbegin ((0 : Nat) : Int) (.slice none 0 0)) rfl (rsv_info _ _ _) rfl (rsv_one _ _ _ _ _) ?_)
  intro w4 HS4
  have HS5 : Sep w.heap.size w w4 (.row g (stv true hbegin ((0 : Nat) : Int) (.slice none 0 0)) 50 :: .own (.slice none 0 0) 5 1 ([] : List UInt8).length (bl ([] : List UInt8)) :: .row gr (rsv hbegin ((0 : Nat) : Int) (.slice none ([] : List UInt8).length 0)) 62 :: .rd (.slice none ([] : List UInt8).length 0) ([] : List UInt8).length 1 (bl ([] : List UInt8)) :: .rd (.slice A0 acts.length c0) acts.length 2 AC :: []) :=
    (((Sep.rdNil HS4 1).front 1).front 3).front 3
  clear HS2 HS3 HS4
  go_wp2_with (first | refine wl_ldg HS5 2 rfl 62 _ rfl rfl Tryd.underlying62 rfl (rsv_info _ _ _) rfl ?_)
  (with_reducible refine Calls.mono (CST.out _ w4 0 1 3 g hbegin 0 [] _ _ Sound.begin rfl rfl rfl HS5) ?_)
  rintro e w5 ⟨rfl, HS6⟩
  clear HS5
  go_wp2
  go_loopw [3, 5] (fun s3 s5 wr => ∃ (k g n : Nat) (h : H8) (r : List UInt8), k ≤ acts.length ∧ s5 = .int .i64 (k : Int) ∧ s3 = .pointer (some ⟨g, 0, none⟩) ∧ Sound h n r ∧ n + T k ≤ 1048576 ∧ Both w.heap.size w wr g gr h n r [.rd (.slice A0 acts.length c0) acts.length 2 AC]) (fun _ s5 _ => acts.length - (intOf s5).toNat)
  case atStart => exact ⟨0, g, 0, hbegin, [], by omega, rfl, rfl, Sound.begin, by omega, _, none, 0, HS6⟩
  case round =>
    clear HS6
    obtain ⟨k, g, n, h, r, hk, rfl, rfl, hs, hn, v, Ar, cr, HSi⟩ := hrel
    by_cases hlt : k < acts.length
    · have hlti : (k : Int) < (acts.length : Int) := by omega
      have hlen0 : 0 < acts.length := by omega
      obtain ⟨⟨kd, vb, bs⟩, hx⟩ : ∃ x, acts[k]? = some x := ⟨acts[k], by simp [hlt]⟩
      have hTk : T k = bs.length + T (k + 1) := HT.out k _ hx
      have hRb : Rd w vb bs.length 1 (bl bs) := HA.out _ (List.mem_of_getElem? hx)
      obtain ⟨hx0, hx1⟩ := HAC.out k _ hx
      have hx0 : AC[k * 2]? = some (.int .i64 kd) := hx0
      have hx1 : AC[k * 2 + 1]? = some vb := hx1
      have hcell := (HSi.rd 4 rfl).2
      obtain ⟨A', c', he, _, _, _, hc⟩ := hcell
      injection he with e1 _ e3
      subst e1 e3
      obtain ⟨b0, o0, rfl, _⟩ := hc hlen0
      clear hc
      have d0 := rd_get (HSi.rd 4 rfl) hlen0 _ _ hx0
      obtain ⟨Ab, cb, rfl, _⟩ := hRb.shape
      have hs64 : r.length < 64 := by have := hs.hr; omega
      have HX1 := Lib.hid hx1
      have hRb := Lib.hid hRb
      clear hx0 hx1 hx
      by_cases k0 : kd = 0
      · subst k0
        have HSb := HSi.argL hRb.out
        clear HSi
        go_wp2_with (first | refine wl_bz HSb rfl 30 5 1 rfl Tryd.underlying30 (by kernel_rfl) ?_)
        intro gz w3 HS3
        have d1 := rd_get (HS3.rd 6 rfl) hlen0 _ _ HX1.out
        rw [← Nat.add_assoc] at d1
        go_wp2_with (first | refine wl_apb (xs := []) HS3 0 rfl rfl rfl (HS3.rd 1 rfl) rfl rfl bs.length bs (by omega) rfl (by omega) ?_)
        intro v4 w4 HS4 _
        obtain ⟨A4, c4, rfl, _⟩ := (HS4.own 0 rfl).sl
        clear HS3 HSb d1 d0
        obtain ⟨q, HSl, hback⟩ := HS4.lendTo
        have hback := Lib.hid hback
        have HS5 : Sep w.heap.size w w4 (.row g (stv true h (n : Int) v) 50 :: .own v 5 1 r.length (bl r) :: .rd (.slice A4 bs.length c4) bs.length 1 (bl bs) :: q :: .rd (.slice Ab bs.length cb) bs.length 1 (bl bs) :: .row gr (rsv h (n : Int) (.slice Ar r.length cr)) 62 :: .rd (.slice Ar r.length cr) r.length 1 (bl r) :: .rd (.slice (some ⟨b0, o0, none⟩) acts.length c0) acts.length 2 AC :: []) := (HSl.front 4).front 4
        clear HS4 HSl
        obtain ⟨h2, t, HWB, hs2⟩ := CWF.out h n r bs hs (by omega)
        have CWa := Lib.hid HWB.a
        have CWb := Lib.hid HWB.b
        clear HWB
        go_wp2_with fail
        (with_reducible refine Calls.mono (CWa.out g v _ w4 _ HS5) ?_)
        rintro e w6 ⟨rfl, v3, HS7⟩
        have HS8 : Sep w.heap.size w w6 (.own (.slice A4 bs.length c4) 5 1 bs.length (bl bs) :: .row g (stv true h2 ((n + bs.length : Nat) : Int) v3) 50 :: .own v3 5 1 t.length (bl t) :: .rd (.slice Ab bs.length cb) bs.length 1 (bl bs) :: .row gr (rsv h (n : Int) (.slice Ar r.length cr)) 62 :: .rd (.slice Ar r.length cr) r.length 1 (bl r) :: .rd (.slice (some ⟨b0, o0, none⟩) acts.length c0) acts.length 2 AC :: []) := hback.out w6 [.row g (stv true h2 ((n + bs.length : Nat) : Int) v3) 50, .own v3 5 1 t.length (bl t)] [.rd (.slice Ab bs.length cb) bs.length 1 (bl bs), .row gr (rsv h (n : Int) (.slice Ar r.length cr)) 62, .rd (.slice Ar r.length cr) r.length 1 (bl r), .rd (.slice (some ⟨b0, o0, none⟩) acts.length c0) acts.length 2 AC] (by intro r hr; simp at hr; rcases hr with rfl | rfl <;> rfl) (by repeat (first | exact List.nil_sublist _ | exact List.Sublist.refl _ | apply List.Sublist.cons_cons | apply List.Sublist.cons)) ((HS7.front 3).front 3)
        clear HS5 HS7 hback
        go_wp2_with fail
        refine (spoil_S HS8 (by omega)).mono ?_
        rintro e w7 ⟨rfl, HS9⟩
        clear HS8
        have hbs : bs.length ≤ 1048576 := by omega
        go_wp2
        refine Cop.region_ordy (fun w' => Sep w.heap.size w w' (.row g (stv true h2 ((n + bs.length : Nat) : Int) v3) 50 :: .own v3 5 1 t.length (bl t) :: .rd (.slice Ab bs.length cb) bs.length 1 (bl bs) :: .row gr (rsv h (n : Int) (.slice Ar r.length cr)) 62 :: .rd (.slice Ar r.length cr) r.length 1 (bl r) :: .rd (.slice (some ⟨b0, o0, none⟩) acts.length c0) acts.length 2 AC :: [])) 6 (.take 0 (.take 1 (.take 2 (.take 3 (.take 4 (.take 5 (.run 6 (.take 7 (.take 8 (.take 9 (.run 10 (.take 11 Cop.Ord.fin)))))))))))) (by kernel_rfl) (by kernel_rfl) (fun _ _ d _ _ h => by cases d <;> exact h) ?_
        intro wa hda
        have HSa := HS9.keep hda
        clear HS9
        (repeat (first | (refine Cop.ogy_skip rfl rfl _ (by (simp only [Act.put, List.setIfInBounds_toArray, List.set_cons_succ, List.set_cons_zero]; rfl)) ?_) | (refine Cop.ogy_pure rfl rfl ?_; apply Exists.intro; refine ⟨fun w9 => ?_, _, by (simp only [Act.put, List.setIfInBounds_toArray, List.set_cons_succ, List.set_cons_zero]; rfl), ?_⟩; (go_simp; with_reducible rfl)) | (refine Cop.ogy_ld rfl rfl HSa (by kernel_rfl) 62 _ rfl (.pointer (some ⟨gr, 0, none⟩)) rfl _ (fun w9 h9 => load_row (h9.row 3 rfl) 62 Tryd.underlying62 rfl (rsv_info _ _ _)) _ (by (simp only [Act.put, List.setIfInBounds_toArray, List.set_cons_succ, List.set_cons_zero]; rfl)) ?_) | (refine Cop.ogy_take rfl rfl HSa (by kernel_rfl) ?_; apply Exists.intro; refine ⟨fun w9 h9 => ?_, _, by (simp only [Act.put, List.setIfInBounds_toArray, List.set_cons_succ, List.set_cons_zero]; rfl), ?_⟩; (have d1 := rd_get (h9.rd 5 rfl) hlen0 _ _ HX1.out; rw [← Nat.add_assoc] at d1; go_simp; with_reducible rfl))))
        refine Cop.ogy_run rfl rfl ?_
        refine ow_call_ex 36 _ (fun x w' => ∃ v', x = .tuple #[.agg (rsv h2 ((n + bs.length : Nat) : Int) v'), .int .i64 0] ∧ Sep w.heap.size w w' (.rd v' t.length 1 (bl t) :: .row g (stv true h2 ((n + bs.length : Nat) : Int) v3) 50 :: .own v3 5 1 t.length (bl t) :: .rd (.slice Ab bs.length cb) bs.length 1 (bl bs) :: .row gr (rsv h (n : Int) (.slice Ar r.length cr)) 62 :: .rd (.slice Ar r.length cr) r.length 1 (bl r) :: .rd (.slice (some ⟨b0, o0, none⟩) acts.length c0) acts.length 2 AC :: [])) (by go_simp) ((CWb.out _ _ wa _ 4 2 rfl rfl HSa).mono fun e w' ⟨v', h1, h2⟩ => ⟨_, h1, v', rfl, h2⟩) ?_
        rintro x wb ⟨v9, rfl, HSb⟩
        obtain ⟨A9, c9, rfl, _⟩ := (HSb.rd 0 rfl).shape
        refine ⟨fun h => absurd h (by decide), ?_⟩
        (repeat (first | (refine Cop.ogy_skip rfl rfl _ (by (simp only [Act.put, List.setIfInBounds_toArray, List.set_cons_succ, List.set_cons_zero]; rfl)) ?_) | (refine Cop.ogy_pure rfl rfl ?_; apply Exists.intro; refine ⟨fun w9 => ?_, _, by (simp only [Act.put, List.setIfInBounds_toArray, List.set_cons_succ, List.set_cons_zero]; rfl), ?_⟩; (go_simp; with_reducible rfl)) | (refine Cop.ogy_take rfl rfl HSb (by kernel_rfl) ?_; apply Exists.intro; refine ⟨fun w9 h9 => ?_, _, by (simp only [Act.put, List.setIfInBounds_toArray, List.set_cons_succ, List.set_cons_zero]; rfl), ?_⟩; (go_simp; with_reducible rfl))))
        refine Cop.ogy_run rfl rfl ?_
        refine ow_st HSb 4 rfl 62 _ _ rfl rfl (cs := rsv h2 ((n + bs.length : Nat) : Int) (.slice A9 t.length c9)) rfl (rsv_info _ _ _) rfl (rsv_one _ _ _ _ _) ?_
        intro wc HSc
        refine ⟨fun h => absurd h (by decide), ?_⟩
        (repeat (first | (refine Cop.ogy_skip rfl rfl _ (by (simp only [Act.put, List.setIfInBounds_toArray, List.set_cons_succ, List.set_cons_zero]; rfl)) ?_) | (refine Cop.ogy_pure rfl rfl ?_; apply Exists.intro; refine ⟨fun w9 => ?_, _, by (simp only [Act.put, List.setIfInBounds_toArray, List.set_cons_succ, List.set_cons_zero]; rfl), ?_⟩; (go_simp; with_reducible rfl)) | (refine Cop.ogy_take rfl rfl HSc (by kernel_rfl) ?_; apply Exists.intro; refine ⟨fun w9 h9 => ?_, _, by (simp only [Act.put, List.setIfInBounds_toArray, List.set_cons_succ, List.set_cons_zero]; rfl), ?_⟩; (go_simp; with_reducible rfl))))
        refine Cop.ogy_fin ?_
        have HSd : Sep w.heap.size w wc (.row g (stv true h2 ((n + bs.length : Nat) : Int) v3) 50 :: .own v3 5 1 t.length (bl t) :: .row gr (rsv h2 ((n + bs.length : Nat) : Int) (.slice A9 t.length c9)) 62 :: .rd (.slice A9 t.length c9) t.length 1 (bl t) :: .rd (.slice (some ⟨b0, o0, none⟩) acts.length c0) acts.length 2 AC :: []) := (((HSc.sub (R' := .rd (.slice A9 t.length c9) t.length 1 (bl t) :: .row g (stv true h2 ((n + bs.length : Nat) : Int) v3) 50 :: .own v3 5 1 t.length (bl t) :: .row gr (rsv h2 ((n + bs.length : Nat) : Int) (.slice A9 t.length c9)) 62 :: .rd (.slice (some ⟨b0, o0, none⟩) acts.length c0) acts.length 2 AC :: []) (by repeat (first | exact List.nil_sublist _ | exact List.Sublist.refl _ | apply List.Sublist.cons_cons | apply List.Sublist.cons))).front 3).front 3).front 3
        clear HSa HSb HSc
        go_wp2_with (first | refine wl_ld HSd 2 rfl rfl 62 _ rfl rfl Tryd.underlying62 rfl (rsv_info _ _ _) ?_)
        (with_reducible refine Calls.mono (CST.out _ _ 0 1 3 _ _ _ _ _ _ hs2 rfl rfl rfl HSd) ?_)
        rintro e w20 ⟨rfl, HSz⟩
        go_wp2
        go_roundw
        case rel => exact ⟨k + 1, g, n + bs.length, _, _, by omega, by go_num, rfl, hs2, by omega, _, _, _, HSz⟩
        case measure => simp [intOf]; omega
      · have e0 : (kd == 0) = false := by rw [beq_eq_false_iff_ne]; exact k0
        by_cases k1 : kd = 1
        · subst k1
          go_wp2_with fail
          refine (clone_a _ w g n v h r _ _ hs64 0 1 rfl rfl HSi).mono ?_
          rintro e w2 ⟨g2, v2, rfl, HS2⟩
          clear HSi d0
          go_wp2_with fail
          first | refine Cop.wl_world fun wz hwz => ?_ | refine Cop.calls_world fun wz hwz => ?_ | refine Cop.exit_world fun wz hwz => ?_ | refine Cop.code_world fun wz hwz => ?_
          have HSl : Sep w.heap.size w wz (.rd (.slice (some ⟨w2.heap.size, 0, none⟩) 3 3) ([1, 2, 3] : List UInt8).length 1 (bl [1, 2, 3]) :: .row g2 (stv true h (n : Int) v2) 50 :: .own v2 5 1 r.length (bl r) :: .row g (stv true h (n : Int) v) 50 :: .own v 5 1 r.length (bl r) :: .row gr (rsv h (n : Int) (.slice Ar r.length cr)) 62 :: .rd (.slice Ar r.length cr) r.length 1 (bl r) :: .rd (.slice (some ⟨b0, o0, none⟩) acts.length c0) acts.length 2 AC :: []) := by
            rw [← hwz]
            exact Sep_litB HS2 _ _ [1, 2, 3] (by decide)
          clear hwz HS2
          obtain ⟨h3, t3, HWB, _⟩ := CWF.out h n r [1, 2, 3] hs (by simp; omega)
          have CWa := Lib.hid HWB.a
          clear HWB
          have HS3 := (HSl.front 4).front 4
          refine (CWa.out g v _ wz _ HS3).mono ?_
          rintro e w3 ⟨rfl, v3, HS4⟩
          have HSd : Sep w.heap.size w w3 (.row g2 (stv true h (n : Int) v2) 50 :: .own v2 5 1 r.length (bl r) :: .row gr (rsv h (n : Int) (.slice Ar r.length cr)) 62 :: .rd (.slice Ar r.length cr) r.length 1 (bl r) :: .rd (.slice (some ⟨b0, o0, none⟩) acts.length c0) acts.length 2 AC :: []) := HS4.tail.tail.tail
          clear HS3 HS4 HSl
          go_wp2_with (first | refine wl_ld HSd 2 rfl rfl 62 _ rfl rfl Tryd.underlying62 rfl (rsv_info _ _ _) ?_)
          (with_reducible refine Calls.mono (CST.out _ _ 0 1 3 _ _ _ _ _ _ hs rfl rfl rfl HSd) ?_)
          rintro e w20 ⟨rfl, HSz⟩
          go_wp2
          go_roundw
          case rel => exact ⟨k + 1, g2, n, _, _, by omega, by go_num, rfl, hs, by omega, _, _, _, HSz⟩
          case measure => simp [intOf]; omega
        · have e1 : (kd == 1) = false := by rw [beq_eq_false_iff_ne]; exact k1
          by_cases k2 : kd = 2
          · subst k2
            go_wp2_with fail
            (with_reducible refine Calls.mono (CSV.out _ _ 0 1 g h n r v hs rfl rfl HSi) ?_)
            rintro e w2 ⟨x, rfl, HS2⟩
            clear HSi d0
            have hsl := Lib.hid (CSL.out h n r)
            have hcs := fun (R' : List Pc) (w' : World) (v : Value) => CLS.out R' w' h n r v hs
            generalize SVD h n r = SV at *
            have hcs := Lib.hid hcs
            obtain ⟨Ax, cx, rfl, _⟩ := (HS2.own 0 rfl).sl
            obtain ⟨q, HSl, hback⟩ := HS2.lendTo
            have hback := Lib.hid hback
            clear HS2
            go_wp2_with fail
            (with_reducible refine Calls.mono (hcs.out _ _ _ 0 rfl HSl) ?_)
            rintro e w3 ⟨g2, v2, rfl, HS3⟩
            have HS4 : Sep w.heap.size w w3 (.own (.slice Ax SV.length cx) 5 1 SV.length (bl SV) :: .row g2 (stv true h (n : Int) v2) 50 :: .own v2 5 1 r.length (bl r) :: .row g (stv true h (n : Int) v) 50 :: .own v 5 1 r.length (bl r) :: .row gr (rsv h (n : Int) (.slice Ar r.length cr)) 62 :: .rd (.slice Ar r.length cr) r.length 1 (bl r) :: .rd (.slice (some ⟨b0, o0, none⟩) acts.length c0) acts.length 2 AC :: []) := hback.out w3 [.row g2 (stv true h (n : Int) v2) 50, .own v2 5 1 r.length (bl r)] _ (by intro r hr; simp at hr; rcases hr with rfl | rfl <;> rfl) (List.Sublist.refl _) ((HS3.front 3).front 3)
            clear HSl HS3 hback
            go_wp2_with fail
            refine (spoil_S HS4 (by have := hsl.out; omega)).mono ?_
            rintro e w5 ⟨rfl, HS5⟩
            clear HS4
            have HSd : Sep w.heap.size w w5 (.row g2 (stv true h (n : Int) v2) 50 :: .own v2 5 1 r.length (bl r) :: .row gr (rsv h (n : Int) (.slice Ar r.length cr)) 62 :: .rd (.slice Ar r.length cr) r.length 1 (bl r) :: .rd (.slice (some ⟨b0, o0, none⟩) acts.length c0) acts.length 2 AC :: []) := HS5.sub (by repeat (first | exact List.nil_sublist _ | exact List.Sublist.refl _ | apply List.Sublist.cons_cons | apply List.Sublist.cons))
            clear HS5
            go_wp2_with (first | refine wl_ld HSd 2 rfl rfl 62 _ rfl rfl Tryd.underlying62 rfl (rsv_info _ _ _) ?_)
            (with_reducible refine Calls.mono (CST.out _ _ 0 1 3 _ _ _ _ _ _ hs rfl rfl rfl HSd) ?_)
            rintro e w20 ⟨rfl, HSz⟩
            go_wp2
            go_roundw
            case rel => exact ⟨k + 1, g2, n, _, _, by omega, by go_num, rfl, hs, by omega, _, _, _, HSz⟩
            case measure => simp [intOf]; omega
          · have e2 : (kd == 2) = false := by rw [beq_eq_false_iff_ne]; exact k2
            have HSd := HSi
            clear HSi
            go_wp2_with (first | refine wl_ld HSd 2 rfl rfl 62 _ rfl rfl Tryd.underlying62 rfl (rsv_info _ _ _) ?_)
            (with_reducible refine Calls.mono (CST.out _ _ 0 1 3 _ _ _ _ _ _ hs rfl rfl rfl HSd) ?_)
            rintro e w20 ⟨rfl, HSz⟩
            go_wp2
            go_roundw
            case rel => exact ⟨k + 1, g, n, _, _, by omega, by go_num, rfl, hs, by omega, _, _, _, HSz⟩
            case measure => simp [intOf]; omega
    · have hge : ¬ (k : Int) < (acts.length : Int) := by omega
      go_wp2_with fail
      refine (names_02 _).mono ?_
      rintro e w9 ⟨rfl, rfl⟩
      go_wp2
      go_ret
      exact ⟨rfl, HSi.hb⟩
theorem sum_bulk {H : Type} {α : Type} (f : α → Nat) : ∀ (l : List α) (ds : List (DataW H)), ds.length = l.length → (∀ (i : Nat) (y : α) (z : DataW H), l[i]? = some y → ds[i]? = some z → f y ≤ Rows.uptoBulk z) → (l.map f).sum ≤ Rows.uptoBulkAll ds
  | [], ds, _, _ => by simp
  | a :: l, [], h, _ => by simp at h
  | a :: l, d :: ds, h, hb => by
    have h1 := hb 0 a d rfl rfl
    have h2 := sum_bulk f l ds (by simpa using h) (fun i y z hy hz => hb (i + 1) y z (by simpa using hy) (by simpa using hz))
    simp only [List.map_cons, List.sum_cons, Rows.uptoBulkAll]
    omega
theorem bulk_one {H : Type} (d : DataW H) : 1 ≤ Rows.uptoBulk d := by
  cases d with
  | lit l => cases l <;> simp [Rows.uptoBulk]
  | _ => simp [Rows.uptoBulk]
theorem bulk_len {H : Type} (l : List (DataW H)) : l.length ≤ Rows.uptoBulkAll l := by
  induction l with
  | nil => simp [Rows.uptoBulkAll]
  | cons x r ih => have := bulk_one x; simp only [Rows.uptoBulkAll, List.length_cons]; omega
theorem bulk_bytes {H : Type} {x : DataW H} {l : List UInt8} (h : (x = .nil ∧ l = []) ∨ ∃ ds rest, x = .slice ds rest ∧ ds.length = l.length) : l.length ≤ Rows.uptoBulk x := by
  rcases h with ⟨_, rfl⟩ | ⟨ds, rest, rfl, hl⟩
  · simp
  · have := bulk_len ds
    simp only [Rows.uptoBulk]
    omega
set_option maxRecDepth 100000 in
theorem hashGrows_holds : Rows.HashGrowsUptoCardSaid := hashGrows.card_of_walk fun H enc W base v0 d0 p0 h0 k0 hsz hL hbulk => by
  obtain ⟨a0, len, cap, rfl⟩ := Go.WideShapes.okWide_slice Tryd.underlying60 k0
  obtain ⟨fuel, hf⟩ := h0
  obtain ⟨l, ds, rest, hR, hd, hOK, hx⟩ := open_list (α := Int × Value × List UInt8) acell (fun x z => Rd W x.2.1 x.2.2.length 1 (bl x.2.2) ∧ x.2.2.length ≤ Rows.uptoBulk z) Tryd.underlying60 (c := 2) (by kernel_rfl) (by decide) (fun _ => rfl)
    (fun fuel cs x hl h => by
      obtain ⟨xs, n, _, rfl, _, hxl, hff⟩ := DataW.trod_struct Tryd.underlying66 h
      match cs, hl, xs, hxl with
      | [a, b], _, [y0, y1], _ =>
        have h0 := hff 0 _ rfl
        have h1 := hff 1 _ rfl
        simp only [List.getElem?_cons_zero, List.getElem?_cons_succ] at h0 h1
        obtain ⟨m, hm, _, _⟩ := DataW.trod_int Tryd.underlying3 h0
        obtain ⟨v, l, hv, hR, hb⟩ := open_bytes3 Tryd.underlying30 Tryd.underlying5 (by kernel_rfl) (by kernel_rfl) h1
        have e1 : a = .int .i64 m := (List.cons.inj (show [a] = [.int .i64 m] from hm)).1
        have e2 : b = v := (List.cons.inj (show [b] = [v] from hv)).1
        clear hm hv
        subst e1 e2
        have := bulk_bytes hb
        exact ⟨(m, b, l), rfl, hR, by simp only [List.map_cons, List.map_nil, Rows.uptoBulk, Rows.uptoBulkAll]; omega⟩) hf
  have hds : Rows.uptoBulkAll ds ≤ 1048576 := by
    simp only [Rows.uptoBulkAll] at hbulk
    rcases hx with ⟨_, rfl⟩ | rfl
    · simp [Rows.uptoBulkAll]
    · simp only [Rows.uptoBulk] at hbulk
      omega
  have hlen := bulk_len ds
  have hsum := sum_bulk (fun x : Int × Value × List UInt8 => x.2.2.length) l ds hd (fun i y z hy hz => (hOK i y z hy hz).2)
  obtain ⟨b, hb⟩ : ∃ b, a0 = b := ⟨_, rfl⟩
  have hlv := hR.shape
  obtain ⟨A, c, he, _, _⟩ := hlv
  refine hashGrows_walk l _ W (table_of hL) hR (fun x hx => ?_) (fun k => ((l.drop k).map fun x => x.2.2.length).sum) (by simpa using (by omega : (l.map fun x : Int × Value × List UInt8 => x.2.2.length).sum ≤ 1048576)) (fun k x hk => ?_) (by omega)
  · obtain ⟨i, hi⟩ := List.mem_iff_getElem?.1 hx
    have h1 := (List.getElem?_eq_some_iff.1 hi).1
    exact (hOK i x _ hi (List.getElem?_eq_getElem (by omega))).1
  · obtain ⟨h1, rfl⟩ := List.getElem?_eq_some_iff.1 hk
    show ((l.drop k).map fun x => x.2.2.length).sum = _
    rw [List.drop_eq_getElem_cons h1]
    rfl
#print axioms hashGrows_holds
end Go.Proofs.YtepcjdifjjombaaDoor
