/- Proved here: however bytes are cut, what grows has the digest of all of them, and their length; two digests are as is known. The table of constants is tied to the program's text. No condition. -/
import Derived.Test.YtepcjdifjjombaaDoorKn
import Derived.Test.YtepcjdifjjombaaDoorFHashPieces
namespace Go.Proofs.YtepcjdifjjombaaDoor
open Go.RowKit Cop Go.ChangeShapes Go.WideShapes Go.ChangeAt
set_option linter.unusedVariables false
set_option linter.unusedSimpArgs false
section
variable {H : Type} {enc : TypeId × Value → H} {P : Program} {w : World} {t e : TypeId} {v : Value} {d : DataW H} {ps : List MemPlace}
/-- Numbers that came in. -/
theorem open_islice {r : Reach} {base' : Nat} {k : IntKind} (ht : P.underlying t = some (.slice e)) (he : P.underlying e = some (.int k)) (hce : P.cellsOf e = 1) (h : DataW.Trod enc P w 0 (fun _ => true) true t v d ps) (hv : Value.okWide P w r base' t v) :
    ∃ zs : List Int, Rd w v zs.length 1 (zs.map (Value.int k)) ∧ zs.length ≤ 9223372036854775807 ∧ ∀ z ∈ zs, (Lit.int k z).wf = true := by
  obtain ⟨a0, len, cap, rfl⟩ := Go.WideShapes.okWide_slice ht hv
  obtain ⟨fuel, hf⟩ := h
  rcases open_ints ht he hce hf with ⟨hcs, _⟩ | ⟨a, len', cap', zs, hcs, _, hl, hm, hz, hx, hcell, hwz⟩
  · simp [Value.cells] at hcs
    obtain ⟨rfl, rfl, rfl⟩ := hcs
    exact ⟨[], Rd.nil w 1, by simp, by simp⟩
  · simp [Value.cells] at hcs
    obtain ⟨rfl, rfl, rfl⟩ := hcs
    have hz : zs.length = cap := by simpa using hz
    have hm' : cap ≤ 9223372036854775807 := by unfold maxLen at hm; omega
    refine ⟨zs.take len, ⟨by simp, some a, cap, by rw [List.length_take, Nat.min_eq_left (by omega)], by rw [List.length_take]; omega, by omega, by simp, fun h0 => ?_⟩, by rw [List.length_take]; omega, fun z hz => hwz z (List.mem_of_mem_take hz)⟩
    obtain ⟨b, o, s⟩ := a
    rw [List.length_take] at h0
    have h1 := hcell 0 (by omega)
    have hs : s = none := by
      have h2 : (⟨b, o, s⟩ : Addr).add 0 = ⟨b, o, s⟩ := rfl
      rw [h2] at h1
      simpa using World.cell?_spot h1
    subst hs
    refine ⟨b, o, rfl, fun i u hu => ?_⟩
    rw [List.getElem?_map, List.getElem?_take] at hu
    split at hu
    · rename_i hi
      have hi2 : i < zs.length := by omega
      rw [List.getElem?_eq_getElem hi2] at hu
      have h3 := hcell i hi2
      rw [Cop.add_plain] at h3
      rw [h3, ← hu]
      simp [List.getD, hi2]
    · simp at hu
end
theorem Sep_cut {B : Nat} {w0 w : World} {R : List Pc} {P : Program} {t e : TypeId} {v : Value} {n : Nat} {p q : List UInt8} (HS : Sep B w0 w R) (i : Nat) (hi : R[i]? = some (.rd v n 1 (bl (p ++ q)))) (hn : n = (p ++ q).length) (ht : P.underlying t = some (.slice e)) (hs : (P.info? e).map (·.size) = some 1) :
    ∃ A c A' c', Sep B w0 w (.rd (.slice A p.length c) p.length 1 (bl p) :: .rd (.slice A' q.length c') q.length 1 (bl q) :: R) ∧ (∀ W kk, (Instr.sliceAt t v none (some (.int kk p.length)) none).run P W = .ok (.slice A p.length c) W) ∧ (∀ W kk, (Instr.sliceAt t v (some (.int kk p.length)) none none).run P W = .ok (.slice A' q.length c') W) := by
  subst hn
  have hk : p.length ≤ (p ++ q).length := by simp
  obtain ⟨A, c, _, _, h1, h2, h3⟩ := rd_to (HS.rd i hi) ht hs p.length hk
  obtain ⟨A', c', _, _, h4, h5, h6⟩ := rd_from (HS.rd i hi) ht hs p.length hk
  have et : (p ++ q).take p.length = p := by simp
  have ed : (p ++ q).drop p.length = q := by simp
  rw [et] at h1 h2
  rw [ed] at h4 h5 h6
  exact ⟨A, c, A', c', (HS.part i hi h4 h5).part (i + 1) (by simpa using hi) h1 h2, h3, h6⟩
set_option maxRecDepth 100000 in
set_option maxHeartbeats 4000000 in
theorem hashPieces_walk (l : List UInt8) (zs : List Int) (vb vc : Value) (w : World) (hT : Tab w) (hRb : Rd w vb l.length 1 (bl l)) (hRc : Rd w vc zs.length 1 (zs.map (Value.int .i64))) (hl : l.length ≤ 140737488351232) (hz : zs.length ≤ 9223372036854775807) (hw : ∀ z ∈ zs, (Lit.int .i64 z).wf = true) :
    Calls Tryd.prog 5 #[vb, vc] w fun e w' => e = .returned (.bool true) ∧ Below w.heap.size w w' := by
  have SA := Lib.hid (sum_a l)
  have hDl := sha_length l
  obtain ⟨D, hD⟩ : ∃ x, sha l = x := ⟨_, rfl⟩
  rw [hD] at SA hDl
  have HD := Lib.hid hD
  have heq := fun w' : World => run_equal_bv (P := Tryd.prog) w' (d := 9998) Tryd.underlying32 Tryd.underlying5 (by kernel_rfl) D D hDl hDl
  have HTB := Lib.hid hT.base
  have HTBs := Lib.hid (fun w' (h : Below w.heap.size w w') => hT.base w' h)
  have HS0 := ((Sep.start w).arg0 hRb).arg0 hRc
  obtain ⟨A, c, rfl, hc, hcm⟩ := hRb.shape
  obtain ⟨Ac, cc, rfl, hc2, hcm2⟩ := hRc.shape
  have HW := Lib.hid hw
  clear hRb hRc hD hDl hw
  go_enter Tryd.func5, Tryd.ntmps5
  go_wp2_with fail
  refine (new_m HS0).mono ?_
  rintro e w1 ⟨g, v1, rfl, HS1⟩
  go_wp2
  go_loopw [6, 7] (fun s6 s7 wr => ∃ (i : Nat) (m l' : List UInt8) (v : Value), i ≤ zs.length ∧ s7 = .int .i64 i ∧ m ++ l' = l ∧ Sep w.heap.size w wr (msRow g v m :: msOwn v m :: .rd s6 l'.length 1 (bl l') :: .rd (.slice Ac zs.length cc) zs.length 1 (zs.map (Value.int .i64)) :: .rd (.slice A l.length c) l.length 1 (bl l) :: [])) (fun _ s7 _ => zs.length - (intOf s7).toNat)
  case atStart => exact ⟨0, [], l, v1, by omega, rfl, rfl, ((HS1.part 3 rfl (HS1.rd 3 rfl) (fun _ h => h)).front 2).front 2⟩
  case round =>
    clear HS1 HS0
    obtain ⟨i, m, l', v, hi, rfl, hml, HSi⟩ := hrel
    have hmll : m.length + l'.length = l.length := by rw [← hml, List.length_append]
    have HML := Lib.hid hml
    obtain ⟨A6, c6, rfl, hc6, hcm6⟩ := (HSi.rd 2 rfl).shape
    clear hml
    by_cases hlt : i < zs.length
    · obtain ⟨_, A9, c9, he, _, _, _, hcell⟩ := HSi.rd 3 rfl
      obtain ⟨bk, ok, rfl, hcl⟩ := hcell (by omega)
      injection he with he1 _ he3
      subst he1
      have hx := hcl i (.int .i64 (zs.getD i 0)) (by rw [List.getElem?_map, List.getElem?_eq_getElem hlt]; simp [List.getD, hlt])
      have hwf := HW.out (zs.getD i 0) (by rw [List.getD, List.getElem?_eq_getElem hlt]; exact List.getElem_mem _)
      generalize zs.getD i 0 = x at hx hwf
      have hlt' : (i : Int) < (zs.length : Int) := by omega
      have hq2 : 0 ≤ x.tmod ((l'.length : Int) + 1) % ((l'.length : Int) + 1) := Int.emod_nonneg _ (by omega)
      have hq3 : x.tmod ((l'.length : Int) + 1) % ((l'.length : Int) + 1) < (l'.length : Int) + 1 := Int.emod_lt_of_pos _ (by omega)
      have hq1 : (x.tmod ((l'.length : Int) + 1)).natAbs < l'.length + 1 := by
        rw [Int.natAbs_tmod]
        exact Nat.mod_lt _ (by omega)
      obtain ⟨p, q, hpq, hk⟩ : ∃ p q : List UInt8, p ++ q = l' ∧ x.tmod ((l'.length : Int) + 1) % ((l'.length : Int) + 1) = (p.length : Int) := by
        refine ⟨l'.take (x.tmod ((l'.length : Int) + 1) % ((l'.length : Int) + 1)).toNat, l'.drop (x.tmod ((l'.length : Int) + 1) % ((l'.length : Int) + 1)).toNat, List.take_append_drop _ _, ?_⟩
        rw [List.length_take]
        omega
      have HPQ := Lib.hid hpq
      have hpl : p.length + q.length = l'.length := by rw [← hpq, List.length_append]
      obtain ⟨At, ct, Af, cf, HSc, hrt, hrf⟩ := Sep_cut (P := Tryd.prog) (p := p) (q := q) HSi 2 (by rw [hpq]; rfl) (by rw [hpq]) Tryd.underlying30 (by kernel_rfl)
      have HSd := (HSc.front 3).front 3
      have HSe := HSd
      clear hcl hcell he3 hpq HSc hq2 hq3
      go_wp2_with fail
      refine (write_m g v _ m p HTB.out (by omega) HSd).mono ?_
      rintro e w2 ⟨rfl, v2, HS2⟩
      clear HSi HSd HSe
      go_wp2_with fail
      refine ⟨⟨i + 1, m ++ p, q, v2, by omega, by go_num, by rw [List.append_assoc, HPQ.out, HML.out], HS2.sub (by repeat (first | exact List.nil_sublist _ | exact List.Sublist.refl _ | apply List.Sublist.cons_cons | apply List.Sublist.cons))⟩, ?_⟩
      simp [intOf]
      omega
    · have hin : i = zs.length := by omega
      subst hin
      go_wp2_with fail
      refine (write_m g v _ m l' HTB.out (by omega) HSi).mono ?_
      rintro e w2 ⟨rfl, v2, HS2⟩
      rw [HML.out] at HS2
      clear HSi
      go_wp2_with fail
      refine (sum_m g v2 l HTB.out (by omega) 0 1 rfl rfl HS2).mono ?_
      rintro e w3 ⟨rfl, HS3⟩
      rw [HD.out]
      clear HS2
      go_wp2_with fail
      refine (SA.out _ w3 (HTBs.out _ HS3.hb) (HS3.rd 4 rfl) (by omega)).mono ?_
      rintro e w4 ⟨rfl, b4⟩
      have HS4 := HS3.keep b4
      clear HS3
      go_wp2_with fail
      refine (len_S HS4 0 rfl).mono ?_
      rintro e w5 ⟨rfl, rfl⟩
      go_wp2_with fail
      refine (known_a w5 (HTBs.out _ HS4.hb)).mono ?_
      rintro e w6 ⟨rfl, b6⟩
      have HS6 := HS4.keep b6
      clear HS4
      go_wp2
      go_ret
      exact ⟨rfl, HS6.hb⟩
theorem hashPieces_holds : Rows.HashPiecesCardSaid := hashPieces.card_of_walk fun H enc W base v0 v1 d0 d1 p0 p1 h0 k0 h1 k1 hsz hL => by
  obtain ⟨l, hR, hl⟩ := open_bslice Tryd.underlying30 Tryd.underlying5 (by kernel_rfl) (by kernel_rfl) h0 k0 hsz 0 rfl rfl
  obtain ⟨zs, hR1, hl1, hw⟩ := open_islice Tryd.underlying36 Tryd.underlying3 (by kernel_rfl) h1 k1
  exact hashPieces_walk l zs v0 v1 W (table_of hL) hR hR1 hl hl1 hw
#print axioms hashPieces_holds
end Go.Proofs.YtepcjdifjjombaaDoor
