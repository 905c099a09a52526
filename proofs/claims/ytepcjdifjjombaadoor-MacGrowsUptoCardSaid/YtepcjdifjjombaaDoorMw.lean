/- Proved here: a keyed digest that grows tells at each step that of all that came; of arguments of a bulk of at most 1048576 values. The table of constants is tied to the program's text. -/
import Derived.Test.YtepcjdifjjombaaDoorMr
import Derived.Test.YtepcjdifjjombaaDoorSpn
import Derived.Test.YtepcjdifjjombaaDoorBk
import Derived.Test.YtepcjdifjjombaaDoorLr
import Derived.Test.YtepcjdifjjombaaDoorFMacGrowsUpto
namespace Go.Proofs.YtepcjdifjjombaaDoor
open Go.RowKit Cop
set_option linter.unusedVariables false
set_option linter.unusedSimpArgs false
def pcell (x : Value × List UInt8) : List Value := [x.1]
set_option maxRecDepth 100000 in
set_option maxHeartbeats 16000000 in
theorem macGrows_gen (key I O : List UInt8) (l : List (Value × List UInt8)) (DD : List UInt8 → List UInt8) (v0 v1 : Value) (w : World) (hT : Tab w) (h0 : Rd w v0 key.length 1 (bl key)) (h1 : Rd w v1 l.length 1 (l.flatMap pcell)) (hA : ∀ x ∈ l, Rd w x.1 x.2.length 1 (bl x.2))
    (hk : key.length ≤ 1048576) (hl : l.length ≤ 1048576) (hI : I.length ≤ 64) (hO : O.length ≤ 64) (T : Nat → Nat) (hT0 : T 0 ≤ 1048576) (hTs : ∀ k x, l[k]? = some x → T k = x.2.length + T (k + 1)) (hDD : ∀ m, (DD m).length = 32)
    (CN : ∀ (w' : World) (R : List Pc) (vk : Value) (i : Nat), R[i]? = some (.rd vk key.length 1 (bl key)) → Sep w.heap.size w w' R →
      Calls Tryd.prog 39 #[vk] w' fun e w2 => ∃ gk g1 g2 v1 v2, e = .returned (.pointer (some ⟨gk, 0, none⟩)) ∧ Sep w.heap.size w w2 (kyRow gk g1 g2 :: msRow g1 v1 I :: msOwn v1 I :: msRow g2 v2 O :: msOwn v2 O :: R))
    (CS : ∀ (gk g1 g2 : Nat) (v1 v2 : Value) (m : List UInt8) (w' : World) (R : List Pc), m.length ≤ 1048576 → Sep w.heap.size w w' (kyRow gk g1 g2 :: msRow g1 v1 (I ++ m) :: msOwn v1 (I ++ m) :: msRow g2 v2 O :: msOwn v2 O :: R) →
      Calls Tryd.prog 28 #[.pointer (some ⟨gk, 0, none⟩)] w' fun e w2 => e = .returned (.agg (bv (DD m))) ∧ Sep w.heap.size w w2 (kyRow gk g1 g2 :: msRow g1 v1 (I ++ m) :: msOwn v1 (I ++ m) :: msRow g2 v2 O :: msOwn v2 O :: R))
    (CR : ∀ (m : List UInt8) (v : Value) (w' : World), m.length ≤ 1048576 → Rd w' v0 key.length 1 (bl key) → Rd w' v m.length 1 (bl m) → Calls Tryd.prog 41 #[v0, v] w' fun e w2 => e = .returned (.agg (bv (DD m))) ∧ Below w'.heap.size w' w2)
    (CW : ∀ (gk g1 g2 : Nat) (v1 vb : Value) (m b : List UInt8) (w' : World) (R : List Pc), m.length + b.length ≤ 1048576 → Sep w.heap.size w w' (kyRow gk g1 g2 :: msRow g1 v1 (I ++ m) :: msOwn v1 (I ++ m) :: .rd vb b.length 1 (bl b) :: R) →
      Calls Tryd.prog 27 #[.pointer (some ⟨gk, 0, none⟩), vb] w' fun e w2 => e = .returned (.int .i64 0) ∧ ∃ v', Sep w.heap.size w w2 (kyRow gk g1 g2 :: msRow g1 v' (I ++ (m ++ b)) :: msOwn v' (I ++ (m ++ b)) :: .rd vb b.length 1 (bl b) :: R)) :
    Calls Tryd.prog 11 #[v0, v1] w fun e w' => e = .returned (.bool true) ∧ Below w.heap.size w w' := by
  have CN := Lib.hid CN
  have CS := Lib.hid CS
  have CR := Lib.hid CR
  have CW := Lib.hid CW
  have HA := Lib.hid hA
  have HT := Lib.hid hTs
  have HQ := Lib.hid (fun m => (show ∀ w' : World, _ from fun w' : World => run_equal_bv (P := Tryd.prog) w' (d := 9998) Tryd.underlying32 Tryd.underlying5 (by kernel_rfl) (DD m) (DD m) (hDD m) (hDD m)))
  have HAC := Lib.hid (fun k x (hx : l[k]? = some x) => flat_at pcell 1 (fun _ => rfl) l k x hx 0 (by decide))
  have HS0 := ((Sep.start w).arg0 h0).arg0 h1
  obtain ⟨A0, c0, rfl, _, _⟩ := h0.shape
  obtain ⟨A1, c1, rfl, _, _⟩ := h1.shape
  clear h0 h1 hA hTs hDD
  generalize l.flatMap pcell = PC at *
  go_enter Tryd.func11, Tryd.ntmps11
  go_wp2_with (first | refine wl_bz HS0 rfl 30 5 1 rfl Tryd.underlying30 (by kernel_rfl) ?_)
  intro gz w1 HS1
  go_wp2_with (first | refine wl_apb (xs := []) HS1 0 rfl rfl rfl (HS1.rd 2 rfl) rfl rfl key.length key (by omega) rfl (by omega) ?_)
  intro v2 w2 HS2 _
  obtain ⟨A2, c2, rfl, _⟩ := (HS2.own 0 rfl).sl
  clear HS0 HS1
  obtain ⟨q, HSl, hback⟩ := HS2.lendTo
  have hback := Lib.hid hback
  clear HS2
  go_wp2_with fail
  (with_reducible refine Calls.mono (CN.out _ _ _ 0 rfl HSl) ?_)
  rintro e w3 ⟨gk, g1, g2, x1, x2, rfl, HS3⟩
  have HS4 : Sep w.heap.size w w3 (.own (.slice A2 key.length c2) 5 1 key.length (bl key) :: kyRow gk g1 g2 :: msRow g1 x1 I :: msOwn x1 I :: msRow g2 x2 O :: msOwn x2 O :: .rd (.slice A1 l.length c1) l.length 1 PC :: .rd (.slice A0 key.length c0) key.length 1 (bl key) :: []) := hback.out w3 [kyRow gk g1 g2, msRow g1 x1 I, msOwn x1 I, msRow g2 x2 O, msOwn x2 O] _ (by intro r hr; simp at hr; rcases hr with rfl | rfl | rfl | rfl | rfl <;> rfl) (List.Sublist.refl _) ((HS3.front 6).front 6)
  clear HSl HS3 hback
  go_wp2_with fail
  refine (spoil_S HS4 (by omega)).mono ?_
  rintro e w5 ⟨rfl, HS5⟩
  clear HS4
  have HS6 : Sep w.heap.size w w5 (kyRow gk g1 g2 :: msRow g1 x1 (I ++ ([] : List UInt8)) :: msOwn x1 (I ++ ([] : List UInt8)) :: msRow g2 x2 O :: msOwn x2 O :: .own (.slice none 0 0) 5 1 ([] : List UInt8).length (bl ([] : List UInt8)) :: .rd (.slice A1 l.length c1) l.length 1 PC :: .rd (.slice A0 key.length c0) key.length 1 (bl key) :: []) := by
    rw [List.append_nil]
    exact ((((Sep.ownNil HS5 5 1).front 5).front 5).front 5).front 5 |>.front 5
  clear HS5
  go_wp2
  go_loopw [7, 8] (fun s7 s8 wr => ∃ (k : Nat) (M : List UInt8) (x1 : Value), k ≤ l.length + 1 ∧ s8 = .int .i64 (k : Int) ∧ (k ≤ l.length → M.length + T k ≤ 1048576) ∧ Sep w.heap.size w wr (kyRow gk g1 g2 :: msRow g1 x1 (I ++ M) :: msOwn x1 (I ++ M) :: msRow g2 x2 O :: msOwn x2 O :: .own s7 5 1 M.length (bl M) :: .rd (.slice A1 l.length c1) l.length 1 PC :: .rd (.slice A0 key.length c0) key.length 1 (bl key) :: [])) (fun _ s8 _ => l.length + 1 - (intOf s8).toNat)
  case atStart => exact ⟨0, [], x1, by omega, rfl, fun _ => by simpa using hT0, HS6⟩
  case round =>
    clear HS6
    obtain ⟨k, M, y1, hk1, rfl, hM, HSi⟩ := hrel
    obtain ⟨A7, c7, rfl, _⟩ := (HSi.own 5 rfl).sl
    by_cases hle : k ≤ l.length
    · have hlei : (k : Int) ≤ (l.length : Int) := by omega
      have hM2 := hM hle
      have hM3 : M.length ≤ 1048576 := by omega
      have q : ∀ w' : World, _ := HQ.out M
      simp only [decide_true] at q
      clear hM
      go_wp2_with fail
      (with_reducible refine Calls.mono (CS.out gk g1 g2 y1 x2 M _ _ hM3 HSi) ?_)
      rintro e w2 ⟨rfl, HS2⟩
      clear HSi
      go_wp2_with fail
      have hr1 := HS2.rd 7 rfl
      have hr2 := (HS2.own 5 rfl).rd
      (with_reducible refine Calls.mono (CR.out M _ _ hM3 hr1 hr2) ?_)
      rintro e w3 ⟨rfl, b3⟩
      have HS3 := HS2.keep b3
      clear HS2 hr1 hr2 b3
      go_wp2_with fail
      (with_reducible refine Calls.mono (CS.out gk g1 g2 y1 x2 M _ _ hM3 HS3) ?_)
      rintro e w4 ⟨rfl, HS4⟩
      clear HS3
      go_wp2_with fail
      have hr1 := HS4.rd 7 rfl
      have hr2 := (HS4.own 5 rfl).rd
      (with_reducible refine Calls.mono (CR.out M _ _ hM3 hr1 hr2) ?_)
      rintro e w5 ⟨rfl, b5⟩
      have HS5 := HS4.keep b5
      clear HS4 hr1 hr2 b5
      by_cases hlt : k < l.length
      · have hlti : (k : Int) < (l.length : Int) := by omega
        have hlen0 : 0 < l.length := by omega
        obtain ⟨⟨vb, bs⟩, hx⟩ : ∃ x, l[k]? = some x := ⟨l[k], by simp [hlt]⟩
        have hTk : T k = bs.length + T (k + 1) := HT.out k _ hx
        have hRb : Rd w vb bs.length 1 (bl bs) := HA.out _ (List.mem_of_getElem? hx)
        have hx0 : PC[k]? = some vb := by
          have := HAC.out k _ hx
          rw [Nat.mul_one, Nat.add_zero] at this
          exact this
        obtain ⟨A', c', he, _, _, _, hc⟩ := (HS5.rd 6 rfl).2
        injection he with e1 _ e3
        subst e1 e3
        obtain ⟨b0, o0, rfl, _⟩ := hc hlen0
        clear hc
        obtain ⟨Ab, cb, rfl, _⟩ := hRb.shape
        have HX0 := Lib.hid hx0
        have hbs : M.length + bs.length ≤ 1048576 := by omega
        obtain ⟨MB, hMB⟩ : ∃ x, M ++ bs = x := ⟨_, rfl⟩
        have HMB := Lib.hid hMB
        have HMBL := Lib.hid (show M.length + bs.length = MB.length by rw [← hMB, List.length_append])
        have hnx : MB.length + T (k + 1) ≤ 1048576 := by rw [← hMB, List.length_append]; omega
        clear hMB
        have HNX := Lib.hid hnx
        have HSb := HS5.argL hRb
        clear HS5 hx hx0 hTk hM2 hnx hRb
        go_wp2_with (first | refine wl_bz HSb rfl 30 5 1 rfl Tryd.underlying30 (by kernel_rfl) ?_)
        intro gz w6 HS6
        have d0 := rd_get (HS6.rd 8 rfl) hlen0 _ _ HX0.out
        go_wp2_with (first | refine wl_apb (xs := []) HS6 0 rfl rfl rfl (HS6.rd 1 rfl) rfl rfl bs.length bs (by omega) rfl (by omega) ?_)
        intro v7 w7 HS7 _
        obtain ⟨A9, c9, rfl, _⟩ := (HS7.own 0 rfl).sl
        clear HS6 HSb d0
        obtain ⟨q2, HSl, hback⟩ := HS7.lendTo
        have hback := Lib.hid hback
        clear HS7
        have HS8 : Sep w.heap.size w w7 (kyRow gk g1 g2 :: msRow g1 y1 (I ++ M) :: msOwn y1 (I ++ M) :: .rd (.slice A9 bs.length c9) bs.length 1 (bl bs) :: q2 :: .rd (.slice Ab bs.length cb) bs.length 1 (bl bs) :: msRow g2 x2 O :: msOwn x2 O :: .own (.slice A7 M.length c7) 5 1 M.length (bl M) :: .rd (.slice (some ⟨b0, o0, none⟩) l.length c1) l.length 1 PC :: .rd (.slice A0 key.length c0) key.length 1 (bl key) :: []) := ((HSl.front 5).front 5).front 5
        clear HSl
        go_wp2_with fail
        (with_reducible refine Calls.mono (CW.out gk g1 g2 y1 _ M bs _ _ hbs HS8) ?_)
        rintro e w9 ⟨rfl, y2, HS9⟩
        rw [HMB.out] at HS9
        have HS10 : Sep w.heap.size w w9 (.own (.slice A9 bs.length c9) 5 1 bs.length (bl bs) :: kyRow gk g1 g2 :: msRow g1 y2 (I ++ MB) :: msOwn y2 (I ++ MB) :: .rd (.slice Ab bs.length cb) bs.length 1 (bl bs) :: msRow g2 x2 O :: msOwn x2 O :: .own (.slice A7 M.length c7) 5 1 M.length (bl M) :: .rd (.slice (some ⟨b0, o0, none⟩) l.length c1) l.length 1 PC :: .rd (.slice A0 key.length c0) key.length 1 (bl key) :: []) := hback.out w9 [kyRow gk g1 g2, msRow g1 y2 (I ++ MB), msOwn y2 (I ++ MB)] [.rd (.slice Ab bs.length cb) bs.length 1 (bl bs), msRow g2 x2 O, msOwn x2 O, .own (.slice A7 M.length c7) 5 1 M.length (bl M), .rd (.slice (some ⟨b0, o0, none⟩) l.length c1) l.length 1 PC, .rd (.slice A0 key.length c0) key.length 1 (bl key)] (by intro r hr; simp at hr; rcases hr with rfl | rfl | rfl <;> rfl) (by repeat (first | exact List.nil_sublist _ | exact List.Sublist.refl _ | apply List.Sublist.cons_cons | apply List.Sublist.cons)) ((HS9.front 4).front 4)
        clear HS8 HS9 hback
        go_wp2_with fail
        refine (spoil_S HS10 (by omega)).mono ?_
        rintro e w11 ⟨rfl, HS11⟩
        clear HS10
        have d0 := rd_get (HS11.rd 7 rfl) hlen0 _ _ HX0.out
        go_wp2_with (first | refine wl_apb HS11 6 rfl rfl rfl (HS11.rd 3 rfl) rfl rfl MB.length MB HMBL.out HMB.out (by have := HMBL.out; omega) ?_)
        intro v12 w12 HS12 _
        obtain ⟨A12, c12, rfl, _⟩ := (HS12.own 6 rfl).sl
        have HS12 : Sep w.heap.size w w12 (kyRow gk g1 g2 :: msRow g1 y2 (I ++ MB) :: msOwn y2 (I ++ MB) :: .rd (.slice Ab bs.length cb) bs.length 1 (bl bs) :: msRow g2 x2 O :: msOwn x2 O :: .own (.slice A12 MB.length c12) 5 1 MB.length (bl MB) :: .rd (.slice (some ⟨b0, o0, none⟩) l.length c1) l.length 1 PC :: .rd (.slice A0 key.length c0) key.length 1 (bl key) :: []) := HS12
        have HS13 : Sep w.heap.size w w12 (kyRow gk g1 g2 :: msRow g1 y2 (I ++ MB) :: msOwn y2 (I ++ MB) :: msRow g2 x2 O :: msOwn x2 O :: .own (.slice A12 MB.length c12) 5 1 MB.length (bl MB) :: .rd (.slice (some ⟨b0, o0, none⟩) l.length c1) l.length 1 PC :: .rd (.slice A0 key.length c0) key.length 1 (bl key) :: []) := HS12.sub (by repeat (first | exact List.nil_sublist _ | exact List.Sublist.refl _ | apply List.Sublist.cons_cons | apply List.Sublist.cons))
        clear HS11 HS12 d0
        go_wp2
        go_roundw
        case rel => exact ⟨k + 1, MB, y2, by omega, by go_num, fun _ => HNX.out, HS13⟩
        case measure => simp [intOf]; omega
      · have hge : ¬ (k : Int) < (l.length : Int) := by omega
        go_wp2
        go_roundw
        case rel => exact ⟨k + 1, M, y1, by omega, by go_num, fun h => absurd h (by omega), HS5⟩
        case measure => simp [intOf]; omega
    · have hgt : ¬ (k : Int) ≤ (l.length : Int) := by omega
      go_wp2
      go_ret
      exact ⟨rfl, HSi.hb⟩
theorem macGrows_walk (key : List UInt8) (l : List (Value × List UInt8)) (v0 v1 : Value) (w : World) (hT : Tab w) (h0 : Rd w v0 key.length 1 (bl key)) (h1 : Rd w v1 l.length 1 (l.flatMap pcell)) (hA : ∀ x ∈ l, Rd w x.1 x.2.length 1 (bl x.2))
    (hk : key.length ≤ 1048576) (hl : l.length ≤ 1048576) (T : Nat → Nat) (hT0 : T 0 ≤ 1048576) (hTs : ∀ k x, l[k]? = some x → T k = x.2.length + T (k + 1)) :
    Calls Tryd.prog 11 #[v0, v1] w fun e w' => e = .returned (.bool true) ∧ Below w.heap.size w w' := by
  have hTB : TabB w.heap.size w := hT.base
  have hI := kpad_length (key64 key) 0x36 (key64_length key)
  have hO := kpad_length (key64 key) 0x5c (key64_length key)
  refine macGrows_gen key (kpad (key64 key) 0x36) (kpad (key64 key) 0x5c) l (fun m => hmac key m) v0 v1 w hT h0 h1 hA hk hl (by omega) (by omega) T hT0 hTs (fun m => hmac_length key m)
    (fun w' R vk i hi HS => macNew_m vk key w' hTB (by omega) i hi HS)
    (fun gk g1 g2 v1 v2 m w' R hm HS => keySum_m gk g1 g2 v1 v2 (kpad (key64 key) 0x36 ++ m) (kpad (key64 key) 0x5c) w' hTB (by rw [List.length_append]; omega) (by omega) HS)
    (fun m v w' hm hr1 hr2 => macref_b key m v0 v w' hr1 hr2 (by omega) (by omega))
    (fun gk g1 g2 v1 vb m b w' R hm HS => ?_)
  have h := keyWrite_m gk g1 g2 v1 vb (kpad (key64 key) 0x36 ++ m) b w' hTB (by rw [List.length_append]; omega) HS
  rw [List.append_assoc] at h
  exact h
set_option maxRecDepth 100000 in
theorem macGrows_holds : Rows.MacGrowsUptoCardSaid := macGrows.card_of_walk fun H enc W base v0 v1 d0 d1 p0 p1 h0 k0 h1 k1 hsz hL hbulk => by
  obtain ⟨a0, len0, cap0, rfl⟩ := Go.WideShapes.okWide_slice Tryd.underlying30 k0
  obtain ⟨a1, len1, cap1, rfl⟩ := Go.WideShapes.okWide_slice Tryd.underlying71 k1
  obtain ⟨f0, hf0⟩ := h0
  obtain ⟨f1, hf1⟩ := h1
  obtain ⟨x0, s, e0, hR0, hb0⟩ := open_bytes3 Tryd.underlying30 Tryd.underlying5 (by kernel_rfl) (by kernel_rfl) hf0
  have e0 : Value.slice a0 len0 cap0 = x0 := (List.cons.inj (show [Value.slice a0 len0 cap0] = [x0] from e0)).1
  subst e0
  have b0 : s.length ≤ Rows.uptoBulk d0 := bulk_bytes hb0
  obtain ⟨l, ds, rest, hR, hd, hOK, hx⟩ := open_list (α := Value × List UInt8) pcell (fun x z => Rd W x.1 x.2.length 1 (bl x.2) ∧ x.2.length ≤ Rows.uptoBulk z) Tryd.underlying71 (c := 1) (by kernel_rfl) (by decide) (fun _ => rfl)
    (fun fuel cs x hl h => by
      obtain ⟨v, l, hv, hR, hb⟩ := open_bytes3 Tryd.underlying30 Tryd.underlying5 (by kernel_rfl) hl h
      exact ⟨(v, l), hv, hR, bulk_bytes hb⟩) hf1
  simp only [Rows.uptoBulkAll] at hbulk
  have hds : Rows.uptoBulkAll ds ≤ 1048576 := by
    rcases hx with ⟨_, rfl⟩ | rfl
    · simp [Rows.uptoBulkAll]
    · simp only [Rows.uptoBulk] at hbulk
      omega
  have hlen := bulk_len ds
  have hsum := sum_bulk (fun x : Value × List UInt8 => x.2.length) l ds hd (fun i y z hy hz => (hOK i y z hy hz).2)
  refine macGrows_walk s l _ _ W (table_of hL) hR0 hR (fun x hx => ?_) (by omega) (by omega) (fun k => ((l.drop k).map fun x => x.2.length).sum) (by simpa using (by omega : (l.map fun x : Value × List UInt8 => x.2.length).sum ≤ 1048576)) (fun k x hk => ?_)
  · obtain ⟨i, hi⟩ := List.mem_iff_getElem?.1 hx
    have h1 := (List.getElem?_eq_some_iff.1 hi).1
    exact (hOK i x _ hi (List.getElem?_eq_getElem (by omega))).1
  · obtain ⟨h1, rfl⟩ := List.getElem?_eq_some_iff.1 hk
    show ((l.drop k).map fun x => x.2.length).sum = _
    rw [List.drop_eq_getElem_cons h1]
    rfl
#print axioms macGrows_holds
end Go.Proofs.YtepcjdifjjombaaDoor
