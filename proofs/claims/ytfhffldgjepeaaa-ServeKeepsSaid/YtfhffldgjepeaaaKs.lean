/- A source of tiles that is made of a list of them. -/
import Derived.Test.YtfhffldgjepeaaaKr
namespace Go.Proofs.Ytfhffldgjepeaaa
open Go.RowKit Cop
set_option linter.unusedVariables false
set_option linter.unusedSimpArgs false
theorem tfind_some : ∀ (l : List Tl) (L I : Int) (y : Tl), tfind l L I = some y → y ∈ l ∧ y.1 = L ∧ y.2.1 = I
  | [], L, I, y, h => by cases h
  | x :: r, L, I, y, h => by
    unfold tfind at h
    split at h
    · rename_i hx
      injection h with h
      subst h
      exact ⟨List.mem_cons_self, hx⟩
    · obtain ⟨h1, h2⟩ := tfind_some r L I y h
      exact ⟨List.mem_cons_of_mem _ h1, h2⟩
/-- What is in the map is what the list tells. -/
structure KeptIn (H : Int) (es : Array MapEntry) (Ls : List Tl) (Q : List Pc) : Prop where
  a : ∀ x ∈ es.toList, ∃ y : Tl, x.key = .agg (tlv H y.1 y.2.1 0) ∧ tfind Ls y.1 y.2.1 = some y ∧ Pc.own x.val 5 1 y.2.2.2.length (bl y.2.2.2) ∈ Q
  b : ∀ (L I : Int) (y : Tl), tfind Ls L I = some y → ∃ x ∈ es.toList, x.key = .agg (tlv H L I 0)
theorem KeptIn.nil (H : Int) (Q : List Pc) : KeptIn H #[] [] Q := ⟨fun x h => by simp at h, fun L I y h => by cases h⟩
theorem tlv_inj {h L I h' L' I' : Int} (e : Value.agg (tlv h L I 0) = .agg (tlv h' L' I' 0)) : h = h' ∧ L = L' ∧ I = I' := by
  injection e with e
  simp [tlv] at e
  exact e
theorem KeptIn.put {H : Int} {es es' : Array MapEntry} {Ls : List Tl} {Q : List Pc} (k : KeptIn H es Ls Q) (y : Tl) (v : Value) (hp : PutIn es es' (.agg (tlv H y.1 y.2.1 0)) v) : KeptIn H es' (y :: Ls) (.own v 5 1 y.2.2.2.length (bl y.2.2.2) :: Q) := by
  refine ⟨fun x hx => ?_, fun L I z hz => ?_⟩
  · rcases hp.who x hx with ⟨h1, h2⟩ | ⟨h1, h2⟩
    · obtain ⟨z, hz1, hz2, hz3⟩ := k.a x h1
      refine ⟨z, hz1, ?_, List.mem_cons_of_mem _ hz3⟩
      unfold tfind
      rw [if_neg (fun e => h2 (by rw [hz1, e.1, e.2])), hz2]
    · exact ⟨y, h1, by unfold tfind; rw [if_pos ⟨rfl, rfl⟩], by rw [h2]; exact List.mem_cons_self⟩
  · unfold tfind at hz
    split at hz
    · rename_i hy
      obtain ⟨x, hx, hk⟩ := hp.new
      exact ⟨x, hx, by rw [hk, hy.1, hy.2]⟩
    · rename_i hy
      obtain ⟨x, hx, hk⟩ := k.b L I z hz
      exact ⟨x, hp.old x hx (fun e => hy (by obtain ⟨_, h1, h2⟩ := tlv_inj (hk.symm.trans e); exact ⟨h1.symm, h2.symm⟩)), hk⟩
def wdv (H N : Int) (v : Value) : Array Value := #[.int .i64 H, .int .i64 N, v]
def tcv (a b : Int) (v : Value) : Array Value := #[.int .i64 a, .int .i64 b, v]
theorem wd_info (H N : Int) (v : Value) : (Try.prog.info? 24).map (·.size) = some (wdv H N v).size := by rw [show (wdv H N v).size = 3 from rfl]; kernel_rfl
theorem tc_info (a b : Int) (v : Value) : (Try.prog.info? 37).map (·.size) = some (tcv a b v).size := by rw [show (tcv a b v).size = 3 from rfl]; kernel_rfl
theorem tc_one (a b : Int) (A : Option Addr) (n c : Nat) : (tcv a b (.slice A n c)).all (·.oneCell') = true := by simp [tcv, Value.oneCell']
theorem tc_info3 : (Try.prog.info? 37).map (fun i => (i.zero, i.size, i.bytes)) = some (some (.agg (tcv 0 0 (.slice none 0 0))), 3, 40) := by kernel_rfl
theorem row3 {w : World} {g : Nat} {a b c : Value} {t : TypeId} (h : w.heap[g]? = some (.cells #[a, b, c] t (0, 0))) : w.cell? ⟨g, 0, none⟩ = some a ∧ w.cell? ⟨g, 1, none⟩ = some b ∧ w.cell? ⟨g, 2, none⟩ = some c := ⟨row_cell h 0, row_cell h 1, row_cell h 2⟩
theorem tcs_one (ts : List Tl) (hA : ∀ y ∈ ts, ∃ A n c, y.2.2.1 = Value.slice A n c) : ∀ v ∈ ts.flatMap tcell, v.oneCell' = true := fun v hv => by
  obtain ⟨y, hy, hm⟩ := List.mem_flatMap.1 hv
  obtain ⟨A, n, c, he⟩ := hA y hy
  simp [tcell, he] at hm
  rcases hm with rfl | rfl | rfl <;> rfl
theorem beq_tvo (b : Bool) : ((if b then (0 : Int) else 2) == 0) = b := by cases b <;> rfl
/-- What comes of making a source. -/
def Made (w : World) (H : Int) (ts : List Tl) (R : List Pc) (e : Ending) (w2 : World) : Prop := ∃ (g b c : Nat) (es : Array MapEntry) (vl : Value) (Ls : List Tl) (Q : List Pc), e = .returned (.tuple #[.pointer (some ⟨g, 0, none⟩), vl]) ∧ Keys Try.prog 26 es ∧ KeptIn H es Ls Q ∧ (∀ y ∈ Ls, y ∈ ts) ∧
      Sep w.heap.size w w2 (.row g #[.map (some b)] 43 :: .mp b es c :: .own vl 37 3 Ls.length (Ls.flatMap tcell) :: (Q ++ R))
set_option maxRecDepth 100000 in
set_option maxHeartbeats 16000000 in
theorem source_a (H N : Int) (ts : List Tl) (VT : Value) (w w0' : World) (R : List Pc) (hH : inI H) (hR : Rd w VT ts.length 3 (ts.flatMap tcell)) (hA : ∀ y ∈ ts, Rd w y.2.2.1 y.2.2.2.length 1 (bl y.2.2.2) ∧ y.2.2.2.length ≤ 140737488351232 ∧ inI y.1 ∧ inI y.2.1) (hl : ts.length * 40 ≤ 140737488351232)
    (HS : Sep w.heap.size w w0' R) :
    Calls Try.prog 4 #[.agg (wdv H N VT)] w0' (Made w H ts R) := by
  have HA := Lib.hid hA
  have HVT := Lib.hid hR
  have HAC := Lib.hid (fun k x (hx : ts[k]? = some x) => And.intro (flat_at tcell 3 (fun _ => rfl) ts k x hx 0 (by decide)) (And.intro (flat_at tcell 3 (fun _ => rfl) ts k x hx 1 (by decide)) (flat_at tcell 3 (fun _ => rfl) ts k x hx 2 (by decide))))
  obtain ⟨At, ct, rfl, _, _⟩ := hR.shape
  have hlb : ts.length ≤ 3518437208780 := by omega
  clear hR hA
  generalize ts.flatMap tcell = LC at HVT HAC
  go_enter Try.func4, Try.ntmps4
  go_wp2_with (first | refine wl_bx HS rfl 24 _ rfl (wdv H N (.slice At ts.length ct)) rfl ?_)
  intro gw w1 HS1
  clear HS
  go_wp2_with fail
  (with_reducible refine Calls.mono (newKept_a HS1) ?_)
  rintro e w2 ⟨g, b, rfl, HS2⟩
  have HS3 : Sep w.heap.size w w2 (.row gw (wdv H N (.slice At ts.length ct)) 24 :: .row g #[.map (some b)] 43 :: .mp b #[] 0 :: .own (.slice none 0 0) 37 3 ([] : List Tl).length (([] : List Tl).flatMap tcell) :: ([] ++ R)) := (((Sep.ownNil HS2 37 3).front 2).front 2).front 3
  clear HS1 HS2
  go_wp2
  go_loopw [5, 6] (fun s5 s6 wr => ∃ (k c : Nat) (es : Array MapEntry) (Ls : List Tl) (Q : List Pc) (Al : Option Addr) (cl : Nat), k ≤ ts.length ∧ s5 = .slice Al Ls.length cl ∧ s6 = .int .i64 (k : Int) ∧ Keys Try.prog 26 es ∧ KeptIn H es Ls Q ∧ (∀ y ∈ Ls, y ∈ ts) ∧ Ls.length ≤ k ∧
    Sep w.heap.size w wr (.row gw (wdv H N (.slice At ts.length ct)) 24 :: .row g #[.map (some b)] 43 :: .mp b es c :: .own (.slice Al Ls.length cl) 37 3 Ls.length (Ls.flatMap tcell) :: (Q ++ R))) (fun _ s6 _ => ts.length - (intOf s6).toNat)
  case atStart => exact ⟨0, 0, #[], [], [], none, 0, by omega, rfl, rfl, Keys.nil _ _, KeptIn.nil _ _, (fun y h => by cases h), by simp, HS3⟩
  case round =>
    clear HS3
    obtain ⟨k, c, es, Ls, Q, Al, cl, hk, rfl, rfl, hks, hki, hms, hll, HSi⟩ := hrel
    obtain ⟨w0c, w1c, w2c⟩ := row3 (HSi.row 0 rfl)
    by_cases hlt : k < ts.length
    · have hlti : (k : Int) < (ts.length : Int) := by omega
      have hlen0 : 0 < ts.length := by omega
      obtain ⟨⟨y1, y2, vb, bs⟩, hx⟩ : ∃ x, ts[k]? = some x := ⟨ts[k], by simp [hlt]⟩
      obtain ⟨hx0, hx1, hx2⟩ := HAC.out k _ hx
      have hmem := List.mem_of_getElem? hx
      obtain ⟨hRb, hbs, hi1, hi2⟩ := HA.out _ hmem
      have hRb : Rd w vb bs.length 1 (bl bs) := hRb
      have hbs : bs.length ≤ 140737488351232 := hbs
      obtain ⟨Ab, cb, rfl, _⟩ := hRb.shape
      have hx0 : LC[k * 3]? = some (.int .i64 y1) := hx0
      have hx1 : LC[k * 3 + 1]? = some (.int .i64 y2) := hx1
      have hx2 : LC[k * 3 + 2]? = some (.slice Ab bs.length cb) := hx2
      obtain ⟨A', c', he, _, _, _, hc⟩ := HVT.out.2
      injection he with e1 _ e3
      subst e1 e3
      obtain ⟨b0, o0, rfl, _⟩ := hc hlen0
      clear hc
      have HSa := (HSi.argL hRb).argL HVT.out
      have HLD := Lib.hid (load_cells (P := Try.prog) (w := wr) (g := b0) (off := o0 + k * 3) (tcv y1 y2 (.slice Ab bs.length cb)) (fun j v hv => by
        match j, hv with
        | 0, hv => injection hv with hv; subst hv; exact rd_get (HSa.rd 0 rfl) hlen0 _ _ hx0
        | 1, hv => injection hv with hv; subst hv; have := rd_get (HSa.rd 0 rfl) hlen0 _ _ hx1; rw [← Nat.add_assoc] at this; exact this
        | 2, hv => injection hv with hv; subst hv; have := rd_get (HSa.rd 0 rfl) hlen0 _ _ hx2; rw [← Nat.add_assoc] at this; exact this
        | j + 3, hv => simp [tcv] at hv) 37 Try.underlying37 rfl (tc_info _ _ _))
      have HSb : Sep w.heap.size w wr (.rd (.slice Ab bs.length cb) bs.length 1 (bl bs) :: .row gw (wdv H N (.slice (some ⟨b0, o0, none⟩) ts.length ct)) 24 :: .row g #[.map (some b)] 43 :: .mp b es c :: .own (.slice Al Ls.length cl) 37 3 Ls.length (Ls.flatMap tcell) :: (Q ++ R)) := HSa.tail
      have HY := Lib.hid hmem
      have hsl := Lib.hid (fun y (hy : y ∈ Ls) => (show ∃ A n c, y.2.2.1 = Value.slice A n c by obtain ⟨A, c, h, _⟩ := (HA.out y (hms y hy)).1.shape; exact ⟨A, _, c, h⟩))
      have HI1 := Lib.hid hi1
      have HI2 := Lib.hid hi2
      clear HSa HSi hx0 hx1 hx2 hx hmem hi1 hi2 hRb
      go_wp2_with (first | refine wl_ldx rfl 37 _ rfl (.pointer (some ⟨b0, o0 + k * 3, none⟩)) rfl _ HLD.out ?_ | refine wl_al HSb rfl 37 rfl (tcv 0 0 (.slice none 0 0)) (by kernel_rfl) ?_)
      intro gx w3 HS3
      go_wp2_with (first | refine wl_st HS3 0 rfl rfl 37 _ _ rfl rfl (cs := tcv y1 y2 (.slice Ab bs.length cb)) rfl (tc_info _ _ _) rfl (tc_one _ _ _ _ _) ?_)
      intro w4 HS4
      clear HS3 HSb HLD w0c w1c w2c
      obtain ⟨w0c, w1c, w2c⟩ := row3 (HS4.row 2 rfl)
      obtain ⟨x0c, x1c, x2c⟩ := row3 (HS4.row 0 rfl)
      go_wp2_with (first | refine wl_al HS4 rfl 26 rfl (tlv 0 0 0 0) (by kernel_rfl) ?_)
      intro gt w5 HS5
      go_wp2_with (first | refine wl_st HS5 0 rfl rfl 26 _ _ rfl rfl (cs := tlv H y1 y2 1) rfl (tl_info _ _ _ _) rfl (tl_one _ _ _ _) ?_)
      intro w6 HS6
      clear HS4 HS5 w0c w1c w2c x0c x1c x2c
      go_wp2_with (first | refine wl_bz HS6 rfl 30 5 1 rfl Try.underlying30 (by kernel_rfl) ?_)
      intro gz w7 HS7
      obtain ⟨x0c, x1c, x2c⟩ := row3 (HS7.row 2 rfl)
      go_wp2_with (first | refine wl_apb (xs := []) HS7 0 rfl rfl rfl (HS7.rd 3 rfl) rfl rfl bs.length bs (by omega) rfl (by omega) ?_)
      intro v8 w8 HS8 _
      obtain ⟨A4, c4, rfl, _⟩ := (HS8.own 0 rfl).sl
      clear HS6 HS7 x0c x1c x2c
      have HS9 : Sep w.heap.size w w8 (.own (.slice A4 bs.length c4) 5 1 bs.length (bl bs) :: .row gt (tlv H y1 y2 1) 26 :: .row gx (tcv y1 y2 (.slice Ab bs.length cb)) 37 :: .rd (.slice Ab bs.length cb) bs.length 1 (bl bs) :: .row gw (wdv H N (.slice (some ⟨b0, o0, none⟩) ts.length ct)) 24 :: .row g #[.map (some b)] 43 :: .mp b es c :: .own (.slice Al Ls.length cl) 37 3 Ls.length (Ls.flatMap tcell) :: (Q ++ R)) := HS8
      clear HS8
      have hn32 : bs.length ≤ 9223372036854775807 := by omega
      cases hv : tvo H y1 y2 with
      | true =>
        obtain ⟨q, HSl, hback⟩ := HS9.lendTo
        have hback := Lib.hid hback
        have HS10 : Sep w.heap.size w w8 (.row g #[.map (some b)] 43 :: .mp b es c :: .rd (.slice A4 bs.length c4) bs.length 1 (bl bs) :: q :: .row gt (tlv H y1 y2 1) 26 :: .row gx (tcv y1 y2 (.slice Ab bs.length cb)) 37 :: .rd (.slice Ab bs.length cb) bs.length 1 (bl bs) :: .row gw (wdv H N (.slice (some ⟨b0, o0, none⟩) ts.length ct)) 24 :: .own (.slice Al Ls.length cl) 37 3 Ls.length (Ls.flatMap tcell) :: (Q ++ R)) := (HSl.front 7).front 7
        clear HS9 HSl
        go_wp2_with (first | refine wl_ld HS10 4 rfl rfl 26 _ rfl rfl Try.underlying26 rfl (tl_info _ _ _ _) ?_)
        (with_reducible refine Calls.mono (put_yes hks H y1 y2 hH HI1.out HI2.out _ bs (by omega) hv HS10) ?_)
        rintro e w11 ⟨rfl, v', es2, hks2, hp, c2, HS11⟩
        have HS12 := hback.out w11 [.row g #[.map (some b)] 43, .mp b es2 c2, .own v' 5 1 bs.length (bl bs)] (.row gt (tlv H y1 y2 1) 26 :: .row gx (tcv y1 y2 (.slice Ab bs.length cb)) 37 :: .rd (.slice Ab bs.length cb) bs.length 1 (bl bs) :: .row gw (wdv H N (.slice (some ⟨b0, o0, none⟩) ts.length ct)) 24 :: .own (.slice Al Ls.length cl) 37 3 Ls.length (Ls.flatMap tcell) :: (Q ++ R)) (by intro r hr; simp at hr; rcases hr with rfl | rfl | rfl <;> rfl) (by repeat (first | exact List.nil_sublist _ | exact List.Sublist.refl _ | apply List.Sublist.cons_cons | apply List.Sublist.cons)) ((HS11.front 4).front 4)
        have HS13 : Sep w.heap.size w w11 (.own (.slice A4 bs.length c4) 5 1 bs.length (bl bs) :: .row g #[.map (some b)] 43 :: .mp b es2 c2 :: .own v' 5 1 bs.length (bl bs) :: .row gt (tlv H y1 y2 1) 26 :: .row gx (tcv y1 y2 (.slice Ab bs.length cb)) 37 :: .row gw (wdv H N (.slice (some ⟨b0, o0, none⟩) ts.length ct)) 24 :: .own (.slice Al Ls.length cl) 37 3 Ls.length (Ls.flatMap tcell) :: (Q ++ R)) := HS12.sub (by repeat (first | exact List.nil_sublist _ | exact List.Sublist.refl _ | apply List.Sublist.cons_cons | apply List.Sublist.cons))
        have HSP : Sep w.heap.size w w11 (.own (.slice A4 bs.length c4) 5 1 bs.length (bl bs) :: .row gt (tlv H y1 y2 1) 26 :: .row gx (tcv y1 y2 (.slice Ab bs.length cb)) 37 :: .row gw (wdv H N (.slice (some ⟨b0, o0, none⟩) ts.length ct)) 24 :: .row g #[.map (some b)] 43 :: .mp b es2 c2 :: .own (.slice Al Ls.length cl) 37 3 Ls.length (Ls.flatMap tcell) :: ((.own v' 5 1 bs.length (bl bs) :: Q) ++ R)) := ((((((HS13.front 7).front 3).front 3).front 7).front 7).front 7).front 6
        have hki2 := Lib.hid (hki.put (y1, y2, .slice Ab bs.length cb, bs) v' hp)
        clear HS10 HS11 HS12 HS13 hback hp hki hks
        go_wp2
        go_loopw [11] (fun s11 wr => ∃ (j : Nat) (m : List UInt8), j ≤ bs.length ∧ m.length = bs.length ∧ s11 = .int .i64 (j : Int) ∧ Sep w.heap.size w wr (.own (.slice A4 bs.length c4) 5 1 bs.length (bl m) :: .row gt (tlv H y1 y2 1) 26 :: .row gx (tcv y1 y2 (.slice Ab bs.length cb)) 37 :: .row gw (wdv H N (.slice (some ⟨b0, o0, none⟩) ts.length ct)) 24 :: .row g #[.map (some b)] 43 :: .mp b es2 c2 :: .own (.slice Al Ls.length cl) 37 3 Ls.length (Ls.flatMap tcell) :: ((.own v' 5 1 bs.length (bl bs) :: Q) ++ R))) (fun s11 _ => bs.length - (intOf s11).toNat)
        case atStart => exact ⟨0, bs, by omega, rfl, rfl, HSP⟩
        case round =>
          clear HSP
          obtain ⟨j, m, hj, hml, rfl, HSj⟩ := hrel
          by_cases hjl : j < bs.length
          · have hjli : (j : Int) < (bs.length : Int) := by omega
            obtain ⟨g4, rfl⟩ := Ow.addr (HSj.own 0 rfl) (by omega)
            have hc := own_cell (HSj.own 0 rfl) j (bl_get m j (by omega))
            generalize hq : m.getD j 0 = q at *
            clear hq
            go_wp2_with (refine wl_sto HSj 0 rfl rfl _ _ 5 rfl (by kernel_rfl) j hjl rfl rfl rfl rfl ?_)
            intro w13 HS13
            have HSq : Sep w.heap.size w w13 (.own (.slice (some ⟨g4, 0, none⟩) bs.length c4) 5 1 bs.length (bl (m.set j (UInt8.ofNat (q.toNat + 1)))) :: .row gt (tlv H y1 y2 1) 26 :: .row gx (tcv y1 y2 (.slice Ab bs.length cb)) 37 :: .row gw (wdv H N (.slice (some ⟨b0, o0, none⟩) ts.length ct)) 24 :: .row g #[.map (some b)] 43 :: .mp b es2 c2 :: .own (.slice Al Ls.length cl) 37 3 Ls.length (Ls.flatMap tcell) :: ((.own v' 5 1 bs.length (bl bs) :: Q) ++ R)) := by
              have e : (((UInt8.ofNat (q.toNat + 1)).toNat : Nat) : Int) = ((q.toNat : Int) + 1) % 256 := by rw [byte_of]; simp
              rw [bl_set, e]
              exact HS13
            clear HS13 HSj hc
            go_wp2
            go_roundw
            case rel => exact ⟨j + 1, m.set j (UInt8.ofNat (q.toNat + 1)), by omega, by simpa using hml, by go_num, HSq⟩
            case measure => simp [intOf]; omega
          · have hjge : ¬ (j : Int) < (bs.length : Int) := by omega
            go_wp2_with (first | refine wl_ld HSj 1 rfl rfl 26 _ rfl rfl Try.underlying26 rfl (tl_info _ _ _ _) ?_)
            refine (tvb H y1 y2 _).mono ?_
            rintro e w14 ⟨rfl, b14⟩
            rw [hv]
            have HSk := HSj.keep b14
            clear HSj b14
            go_wp2_with (first | refine wl_ld HSk 2 rfl rfl 37 _ rfl rfl Try.underlying37 rfl (tc_info _ _ _) ?_ | refine wl_bs HSk rfl 22 37 1 3 _ rfl (tcell (y1, y2, .slice Ab bs.length cb, bs)) (.agg (tcv 0 0 (.slice none 0 0))) Try.underlying22 (by kernel_rfl) (by decide) (by decide) (by first | kernel_rfl | rfl) rfl ?_)
            intro gb w15 HS15
            go_wp2_with (first | refine wl_apn HS15 0 rfl _ _ 22 (.agg (tcv 0 0 (.slice none 0 0))) 40 rfl rfl Try.underlying22 tc_info3 rfl (by decide) (by decide) (HS15.own 7 rfl).rd (tcs_one Ls hsl.out) rfl rfl (Ls.length + 1) (((y1, y2, .slice Ab bs.length cb, bs) :: Ls).flatMap tcell) (by omega) rfl (by omega) ?_)
            intro v16 w16 HS16 _
            obtain ⟨A6, c6, rfl, _⟩ := (HS16.own 0 rfl).sl
            have HS17 : Sep w.heap.size w w16 (.own (.slice A6 (Ls.length + 1) c6) 37 3 (Ls.length + 1) (((y1, y2, Value.slice Ab bs.length cb, bs) :: Ls).flatMap tcell) :: .row gw (wdv H N (.slice (some ⟨b0, o0, none⟩) ts.length ct)) 24 :: .row g #[.map (some b)] 43 :: .mp b es2 c2 :: ((.own v' 5 1 bs.length (bl bs) :: Q) ++ R)) := HS16.sub (by repeat (first | exact List.nil_sublist _ | exact List.Sublist.refl _ | apply List.Sublist.cons_cons | apply List.Sublist.cons))
            have HS18 : Sep w.heap.size w w16 (.row gw (wdv H N (.slice (some ⟨b0, o0, none⟩) ts.length ct)) 24 :: .row g #[.map (some b)] 43 :: .mp b es2 c2 :: .own (.slice A6 (Ls.length + 1) c6) 37 3 (Ls.length + 1) (((y1, y2, Value.slice Ab bs.length cb, bs) :: Ls).flatMap tcell) :: ((.own v' 5 1 bs.length (bl bs) :: Q) ++ R)) := ((HS17.front 3).front 3).front 3
            clear HSk HS15 HS16 HS17
            go_wp2
            go_roundw
            case rel => exact ⟨k + 1, c2, es2, (y1, y2, .slice Ab bs.length cb, bs) :: Ls, (.own v' 5 1 bs.length (bl bs) :: Q), A6, c6, by omega, rfl, by go_num, hks2, hki2.out, (fun y hy => by rcases List.mem_cons.1 hy with rfl | hy; exact HY.out; exact hms y hy), by simp only [List.length_cons]; omega, HS18⟩
            case measure => simp [intOf]; omega
      | false =>
        have HSP : Sep w.heap.size w w8 (.own (.slice A4 bs.length c4) 5 1 bs.length (bl bs) :: .row gt (tlv H y1 y2 1) 26 :: .row gx (tcv y1 y2 (.slice Ab bs.length cb)) 37 :: .row gw (wdv H N (.slice (some ⟨b0, o0, none⟩) ts.length ct)) 24 :: .row g #[.map (some b)] 43 :: .mp b es c :: .own (.slice Al Ls.length cl) 37 3 Ls.length (Ls.flatMap tcell) :: (Q ++ R)) := HS9.sub (by repeat (first | exact List.nil_sublist _ | exact List.Sublist.refl _ | apply List.Sublist.cons_cons | apply List.Sublist.cons))
        clear HS9
        go_wp2_with (first | refine wl_ld HSP 1 rfl rfl 26 _ rfl rfl Try.underlying26 rfl (tl_info _ _ _ _) ?_)
        (with_reducible refine Calls.mono (put_no (c := c) (es := es) 4 0 rfl H y1 y2 _ hv HSP) ?_)
        rintro e w11 ⟨rfl, HSP2⟩
        clear HSP
        have HSP := HSP2
        clear HSP2
        go_wp2
        go_loopw [11] (fun s11 wr => ∃ (j : Nat) (m : List UInt8), j ≤ bs.length ∧ m.length = bs.length ∧ s11 = .int .i64 (j : Int) ∧ Sep w.heap.size w wr (.own (.slice A4 bs.length c4) 5 1 bs.length (bl m) :: .row gt (tlv H y1 y2 1) 26 :: .row gx (tcv y1 y2 (.slice Ab bs.length cb)) 37 :: .row gw (wdv H N (.slice (some ⟨b0, o0, none⟩) ts.length ct)) 24 :: .row g #[.map (some b)] 43 :: .mp b es c :: .own (.slice Al Ls.length cl) 37 3 Ls.length (Ls.flatMap tcell) :: (Q ++ R))) (fun s11 _ => bs.length - (intOf s11).toNat)
        case atStart => exact ⟨0, bs, by omega, rfl, rfl, HSP⟩
        case round =>
          clear HSP
          obtain ⟨j, m, hj, hml, rfl, HSj⟩ := hrel
          by_cases hjl : j < bs.length
          · have hjli : (j : Int) < (bs.length : Int) := by omega
            obtain ⟨g4, rfl⟩ := Ow.addr (HSj.own 0 rfl) (by omega)
            have hc := own_cell (HSj.own 0 rfl) j (bl_get m j (by omega))
            generalize hq : m.getD j 0 = q at *
            clear hq
            go_wp2_with (refine wl_sto HSj 0 rfl rfl _ _ 5 rfl (by kernel_rfl) j hjl rfl rfl rfl rfl ?_)
            intro w13 HS13
            have HSq : Sep w.heap.size w w13 (.own (.slice (some ⟨g4, 0, none⟩) bs.length c4) 5 1 bs.length (bl (m.set j (UInt8.ofNat (q.toNat + 1)))) :: .row gt (tlv H y1 y2 1) 26 :: .row gx (tcv y1 y2 (.slice Ab bs.length cb)) 37 :: .row gw (wdv H N (.slice (some ⟨b0, o0, none⟩) ts.length ct)) 24 :: .row g #[.map (some b)] 43 :: .mp b es c :: .own (.slice Al Ls.length cl) 37 3 Ls.length (Ls.flatMap tcell) :: (Q ++ R)) := by
              have e : (((UInt8.ofNat (q.toNat + 1)).toNat : Nat) : Int) = ((q.toNat : Int) + 1) % 256 := by rw [byte_of]; simp
              rw [bl_set, e]
              exact HS13
            clear HS13 HSj hc
            go_wp2
            go_roundw
            case rel => exact ⟨j + 1, m.set j (UInt8.ofNat (q.toNat + 1)), by omega, by simpa using hml, by go_num, HSq⟩
            case measure => simp [intOf]; omega
          · have hjge : ¬ (j : Int) < (bs.length : Int) := by omega
            go_wp2_with (first | refine wl_ld HSj 1 rfl rfl 26 _ rfl rfl Try.underlying26 rfl (tl_info _ _ _ _) ?_)
            refine (tvb H y1 y2 _).mono ?_
            rintro e w14 ⟨rfl, b14⟩
            rw [hv]
            have HSk := HSj.keep b14
            clear HSj b14
            have HS18 : Sep w.heap.size w w14 (.row gw (wdv H N (.slice (some ⟨b0, o0, none⟩) ts.length ct)) 24 :: .row g #[.map (some b)] 43 :: .mp b es c :: .own (.slice Al Ls.length cl) 37 3 Ls.length (Ls.flatMap tcell) :: (Q ++ R)) := HSk.sub (by repeat (first | exact List.nil_sublist _ | exact List.Sublist.refl _ | apply List.Sublist.cons_cons | apply List.Sublist.cons))
            clear HSk
            go_wp2
            go_roundw
            case rel => exact ⟨k + 1, c, es, Ls, Q, Al, cl, by omega, rfl, by go_num, hks, hki, hms, by omega, HS18⟩
            case measure => simp [intOf]; omega
    · have hge : ¬ (k : Int) < (ts.length : Int) := by omega
      go_wp2
      go_ret2
      exact ⟨g, b, c, es, _, Ls, Q, rfl, hks, hki, hms, HSi.tail⟩
end Go.Proofs.Ytfhffldgjepeaaa