/- Proved here: servers and sources of tiles that no call made tell nothing (serve.Kept's Put and Tile; serve.Server's Leaf, Root, Inclusion, Consistency, Size, Asked; serve.New without a source). No condition. -/
import Derived.Test.YtfhffldgjepeaaaDoorSn
import Derived.Test.YtfhffldgjepeaaaDoorFServeNobody
namespace Go.Proofs.YtfhffldgjepeaaaDoor
open Go.RowKit Cop
set_option linter.unusedVariables false
set_option linter.unusedSimpArgs false
theorem noS_of {B : Nat} {w0 w : World} {R : List Pc} (HS : Sep B w0 w R) (i : Nat) {g : Nat} (hi : R[i]? = some (.row g #[.nilIface, .int .i64 0, .int .i64 0, .int .i64 0] 48)) {p : Option Addr} (hp : p = none ∨ p = some ⟨g, 0, none⟩) : NoS w p := by
  rcases hp with rfl | rfl
  · exact .inl rfl
  · exact .inr ⟨g, rfl, HS.row i hi⟩
set_option maxRecDepth 100000 in
set_option maxHeartbeats 8000000 in
theorem serveNobody_walk (h L I W a n : Int) (h0 : inI h) (h1 : inI L) (h2 : inI I) (w : World) : Calls Tryd.prog 4 #[.agg (tlv h L I W), .int .i64 a, .int .i64 n] w fun e w' => e = .returned (.bool true) ∧ Below w.heap.size w w' := by
  have HS0 := Sep.start w
  have HQ := Lib.hid (fun w' : World => run_equal_bv (P := Tryd.prog) w' (d := 9998) Tryd.underlying51 Tryd.underlying5 (by kernel_rfl) (List.replicate 32 0) (List.replicate 32 0) rfl rfl)
  rw [decide_eq_true (rfl : (List.replicate 32 (0 : UInt8)) = List.replicate 32 0)] at HQ
  have CT := Lib.hid (fun (p : Option Addr) (w' : World) (hp : NoK w' p) => tile_none p h L I W h0 h1 h2 w' hp)
  have CPU := Lib.hid (fun (p : Option Addr) (w' : World) (hp : NoK w' p) => put_none p h L I W w' hp)
  go_enter Tryd.func4, Tryd.ntmps4
  go_wp2_with (first | refine wl_bx HS0 rfl 35 _ rfl (tlv h L I W) rfl ?_)
  intro g3 w1 HS1
  clear HS0
  go_wp2_with (first | refine wl_bx HS1 rfl 39 _ rfl #[.map none] rfl ?_)
  intro g1 w2 HS2
  clear HS1
  go_wp2_with (first | refine wl_bs HS2 rfl 40 36 2 1 _ rfl [.pointer none, .pointer (some ⟨g1, 0, none⟩)] (.pointer none) Tryd.underlying40 (by kernel_rfl) (by decide) (by decide) (by kernel_rfl) rfl ?_)
  intro gs w3 HS3
  clear HS2
  go_wp2
  go_loopw [27] (fun s27 wr => ∃ k : Nat, k ≤ 2 ∧ s27 = .int .i64 (k : Int) ∧ Sep w.heap.size w wr (.own (.slice (some ⟨gs, 0, none⟩) 2 2) 36 1 2 [.pointer none, .pointer (some ⟨g1, 0, none⟩)] :: .row g1 #[.map none] 39 :: .row g3 (tlv h L I W) 35 :: [])) (fun s27 _ => 2 - (intOf s27).toNat)
  case atStart => exact ⟨0, by omega, rfl, HS3⟩
  case round =>
    clear HS3
    obtain ⟨k, hk, rfl, HSi⟩ := hrel
    by_cases hlt : k < 2
    · obtain ⟨p, hc, hp⟩ : ∃ p, wr.cell? ⟨gs, k, none⟩ = some (.pointer p) ∧ NoK wr p := by
        match k, hlt with
        | 0, _ => exact ⟨none, own_cell (HSi.own 0 rfl) 0 rfl, .inl rfl⟩
        | 1, _ => exact ⟨_, own_cell (HSi.own 0 rfl) 1 rfl, .inr ⟨_, rfl, HSi.row 1 rfl⟩⟩
      have hi2 : (k : Int) < 2 := by omega
      have HP := Lib.hid hp
      clear hp
      go_wp2_with (first | refine wl_ld HSi 2 rfl rfl 35 _ rfl rfl Tryd.underlying35 rfl (tl_info _ _ _ _) ?_)
      refine (CT.out p wr HP.out).mono ?_
      rintro e w4 ⟨rfl, b4⟩
      have HS4 := HSi.keep b4
      have hp4 := HP.out.below b4
      clear HSi hc b4 HP
      go_wp2_with (first | refine wl_ld HS4 2 rfl rfl 35 _ rfl rfl Tryd.underlying35 rfl (tl_info _ _ _ _) ?_)
      refine (CPU.out p w4 hp4).mono ?_
      rintro e w5 ⟨rfl, b5⟩
      have HS5 := HS4.keep b5
      clear HS4 hp4 b5
      go_wp2
      go_roundw
      case rel => exact ⟨k + 1, by omega, by go_num, HS5⟩
      case measure => simp [intOf]; omega
    · have hk2 : k = 2 := by omega
      subst hk2
      clear hlt hk
      go_wp2_with (first | refine wl_bx HSi rfl 48 _ rfl #[.nilIface, .int .i64 0, .int .i64 0, .int .i64 0] rfl ?_)
      intro g5 w6 HS6
      go_wp2_with (first | refine wl_bs HS6 rfl 49 25 2 1 _ rfl [.pointer none, .pointer (some ⟨g5, 0, none⟩)] (.pointer none) Tryd.underlying49 (by kernel_rfl) (by decide) (by decide) (by kernel_rfl) rfl ?_)
      intro gs2 w7 HS7
      have HS8 : Sep w.heap.size w w7 (.own (.slice (some ⟨gs2, 0, none⟩) 2 2) 25 1 2 [.pointer none, .pointer (some ⟨g5, 0, none⟩)] :: .row g5 #[.nilIface, .int .i64 0, .int .i64 0, .int .i64 0] 48 :: []) := HS7.sub (by repeat (first | exact List.nil_sublist _ | exact List.Sublist.refl _ | apply List.Sublist.cons_cons | apply List.Sublist.cons))
      clear HSi HS6 HS7
      go_wp2
      go_loopw [54] (fun s54 wr => ∃ k : Nat, k ≤ 2 ∧ s54 = .int .i64 (k : Int) ∧ Sep w.heap.size w wr (.own (.slice (some ⟨gs2, 0, none⟩) 2 2) 25 1 2 [.pointer none, .pointer (some ⟨g5, 0, none⟩)] :: .row g5 #[.nilIface, .int .i64 0, .int .i64 0, .int .i64 0] 48 :: [])) (fun s54 _ => 2 - (intOf s54).toNat)
      case atStart => exact ⟨0, by omega, rfl, HS8⟩
      case round =>
        clear HS8
        obtain ⟨k, hk, rfl, HSi⟩ := hrel
        by_cases hlt : k < 2
        · obtain ⟨p, hc, hp⟩ : ∃ p, wr.cell? ⟨gs2, k, none⟩ = some (.pointer p) ∧ (p = none ∨ p = some ⟨g5, 0, none⟩) := by
            match k, hlt with
            | 0, _ => exact ⟨none, own_cell (HSi.own 0 rfl) 0 rfl, .inl rfl⟩
            | 1, _ => exact ⟨_, own_cell (HSi.own 0 rfl) 1 rfl, .inr rfl⟩
          have hi2 : (k : Int) < 2 := by omega
          have HP := Lib.hid hp
          clear hp
          go_wp2_with fail
          refine (leaf_v p a wr (noS_of HSi 1 rfl HP.out)).mono ?_
          rintro e w8 ⟨rfl, b8⟩
          have HS8 := HSi.keep b8
          clear HSi hc b8
          go_wp2_with (first | refine wl_al HS8 rfl 51 rfl (bv (List.replicate 32 0)) (by kernel_rfl) ?_)
          intro d1 w9 HS9
          go_wp2_with (first | refine wl_st HS9 0 rfl rfl 51 _ _ rfl rfl (cs := (bv (List.replicate 32 0))) rfl (dgz rfl) rfl (bv_one _) ?_)
          intro w10 HS10
          clear HS8 HS9
          go_wp2_with fail
          refine (root_v p n w10 (noS_of HS10 2 rfl HP.out)).mono ?_
          rintro e w11 ⟨rfl, b11⟩
          have HS11 := HS10.keep b11
          clear HS10 b11
          go_wp2_with (first | refine wl_al HS11 rfl 51 rfl (bv (List.replicate 32 0)) (by kernel_rfl) ?_)
          intro d2 w12 HS12
          go_wp2_with (first | refine wl_st HS12 0 rfl rfl 51 _ _ rfl rfl (cs := (bv (List.replicate 32 0))) rfl (dgz rfl) rfl (bv_one _) ?_)
          intro w13 HS13
          clear HS11 HS12
          go_wp2_with fail
          refine (incl_v p a n w13 (noS_of HS13 3 rfl HP.out)).mono ?_
          rintro e w14 ⟨rfl, b14⟩
          have HS14 := HS13.keep b14
          clear HS13 b14
          go_wp2_with (first | refine wl_al HS14 rfl 28 rfl prz (by kernel_rfl) ?_)
          intro q1 w15 HS15
          go_wp2_with (first | refine wl_st HS15 0 rfl rfl 28 _ _ rfl rfl (cs := prz) rfl prz_info rfl prz_one ?_)
          intro w16 HS16
          clear HS14 HS15
          go_wp2_with fail
          refine (cons_v p a n w16 (noS_of HS16 4 rfl HP.out)).mono ?_
          rintro e w17 ⟨rfl, b17⟩
          have HS17 := HS16.keep b17
          clear HS16 b17
          go_wp2_with (first | refine wl_al HS17 rfl 28 rfl prz (by kernel_rfl) ?_)
          intro q2 w18 HS18
          go_wp2_with (first | refine wl_st HS18 0 rfl rfl 28 _ _ rfl rfl (cs := prz) rfl prz_info rfl prz_one ?_)
          intro w19 HS19
          clear HS17 HS18
          go_wp2_with fail
          refine (size_v p w19 (noS_of HS19 5 rfl HP.out)).mono ?_
          rintro e w20 ⟨rfl, rfl⟩
          go_wp2_with fail
          refine (asked_v p w20 (noS_of HS19 5 rfl HP.out)).mono ?_
          rintro e w21 ⟨rfl, rfl⟩
          have e1 := HQ.out w21
          have e2 : (Op.equalIn (9998 + 2) 51 (.agg (bv (List.replicate 32 0))) (.agg #[.int .u8 0, .int .u8 0, .int .u8 0, .int .u8 0, .int .u8 0, .int .u8 0, .int .u8 0, .int .u8 0, .int .u8 0, .int .u8 0, .int .u8 0, .int .u8 0, .int .u8 0, .int .u8 0, .int .u8 0, .int .u8 0, .int .u8 0, .int .u8 0, .int .u8 0, .int .u8 0, .int .u8 0, .int .u8 0, .int .u8 0, .int .u8 0, .int .u8 0, .int .u8 0, .int .u8 0, .int .u8 0, .int .u8 0, .int .u8 0, .int .u8 0, .int .u8 0])).run Tryd.prog w21 = .ok true w21 := HQ.out w21
          have e3 : (Op.equalIn (9998 + 2) 51 (.agg #[.int .u8 0, .int .u8 0, .int .u8 0, .int .u8 0, .int .u8 0, .int .u8 0, .int .u8 0, .int .u8 0, .int .u8 0, .int .u8 0, .int .u8 0, .int .u8 0, .int .u8 0, .int .u8 0, .int .u8 0, .int .u8 0, .int .u8 0, .int .u8 0, .int .u8 0, .int .u8 0, .int .u8 0, .int .u8 0, .int .u8 0, .int .u8 0, .int .u8 0, .int .u8 0, .int .u8 0, .int .u8 0, .int .u8 0, .int .u8 0, .int .u8 0, .int .u8 0]) (.agg #[.int .u8 0, .int .u8 0, .int .u8 0, .int .u8 0, .int .u8 0, .int .u8 0, .int .u8 0, .int .u8 0, .int .u8 0, .int .u8 0, .int .u8 0, .int .u8 0, .int .u8 0, .int .u8 0, .int .u8 0, .int .u8 0, .int .u8 0, .int .u8 0, .int .u8 0, .int .u8 0, .int .u8 0, .int .u8 0, .int .u8 0, .int .u8 0, .int .u8 0, .int .u8 0, .int .u8 0, .int .u8 0, .int .u8 0, .int .u8 0, .int .u8 0, .int .u8 0])).run Tryd.prog w21 = .ok true w21 := HQ.out w21
          have e4 : (Op.equalIn (9998 + 2) 51 (.agg (bv [0, 0, 0, 0, 0, 0, 0, 0, 0, 0, 0, 0, 0, 0, 0, 0, 0, 0, 0, 0, 0, 0, 0, 0, 0, 0, 0, 0, 0, 0, 0, 0])) (.agg #[.int .u8 0, .int .u8 0, .int .u8 0, .int .u8 0, .int .u8 0, .int .u8 0, .int .u8 0, .int .u8 0, .int .u8 0, .int .u8 0, .int .u8 0, .int .u8 0, .int .u8 0, .int .u8 0, .int .u8 0, .int .u8 0, .int .u8 0, .int .u8 0, .int .u8 0, .int .u8 0, .int .u8 0, .int .u8 0, .int .u8 0, .int .u8 0, .int .u8 0, .int .u8 0, .int .u8 0, .int .u8 0, .int .u8 0, .int .u8 0, .int .u8 0, .int .u8 0])).run Tryd.prog w21 = .ok true w21 := HQ.out w21
          go_wp2_with (first | refine wl_ldg HS19 3 rfl 51 _ rfl rfl Tryd.underlying51 rfl (dgz rfl) rfl ?_ | refine wl_ldg HS19 2 rfl 51 _ rfl rfl Tryd.underlying51 rfl (dgz rfl) rfl ?_ | refine wl_ldg HS19 1 rfl 28 _ rfl rfl Tryd.underlying28 rfl prz_info rfl ?_)
          refine (same_z w21).mono ?_
          rintro e w22 ⟨rfl, b22⟩
          have HS22 := HS19.keep b22
          clear HS19 b22 e1 e2 e3 e4
          go_wp2_with (first | refine wl_ldg HS22 0 rfl 28 _ rfl rfl Tryd.underlying28 rfl prz_info rfl ?_)
          refine (same_z w22).mono ?_
          rintro e w23 ⟨rfl, b23⟩
          have HS23 := HS22.keep b23
          clear HS22 b23
          have HS24 : Sep w.heap.size w w23 (.own (.slice (some ⟨gs2, 0, none⟩) 2 2) 25 1 2 [.pointer none, .pointer (some ⟨g5, 0, none⟩)] :: .row g5 #[.nilIface, .int .i64 0, .int .i64 0, .int .i64 0] 48 :: []) := HS23.sub (by repeat (first | exact List.nil_sublist _ | exact List.Sublist.refl _ | apply List.Sublist.cons_cons | apply List.Sublist.cons))
          clear HS23
          go_wp2
          go_roundw
          case rel => exact ⟨k + 1, by omega, by go_num, HS24⟩
          case measure => simp [intOf]; omega
        · have hk2 : k = 2 := by omega
          subst hk2
          clear hlt hk
          go_wp2_with fail
          refine (newS_nil wr).mono ?_
          rintro e w8 ⟨rfl, rfl⟩
          go_wp2
          go_ret
          exact ⟨rfl, HSi.hb⟩
set_option maxRecDepth 100000 in
theorem serveNobody_holds : Rows.ServeNobodyCardSaid := serveNobody.card_of_walk fun H enc W base v0 v1 v2 d0 d1 d2 p0 p1 p2 h0 k0 h1 k1 h2 k2 hsz hL => by
  obtain ⟨cs1, rfl, hs1⟩ := Go.WideShapes.okWide_struct Tryd.underlying35 k0
  obtain ⟨f1, hf1⟩ := h0
  obtain ⟨a, rfl, _, _, _⟩ := Go.ChangeShapes.open_int Tryd.underlying3 k1 h1
  obtain ⟨n, rfl, _, _, _⟩ := Go.ChangeShapes.open_int Tryd.underlying3 k2 h2
  obtain ⟨ys, n2, _, _, _, hyl, hgg⟩ := DataW.trod_struct Tryd.underlying35 hf1
  obtain ⟨l1⟩ := cs1
  rw [show Tryd.prog.cellsOf 35 = 4 from by kernel_rfl] at hs1
  match l1, hs1, ys, hyl with
  | [a1, b1, c1, g1], _, [y0, y1, y2, y3], _ =>
    have r0 := hgg 0 _ rfl
    have r1 := hgg 1 _ rfl
    have r2 := hgg 2 _ rfl
    have r3 := hgg 3 _ rfl
    simp only [List.getElem?_cons_zero, List.getElem?_cons_succ] at r0 r1 r2 r3
    obtain ⟨n0, hn0, _, wn0⟩ := DataW.trod_int Tryd.underlying3 r0
    obtain ⟨n1, hn1, _, wn1⟩ := DataW.trod_int Tryd.underlying3 r1
    obtain ⟨n2, hn2, _, wn2⟩ := DataW.trod_int Tryd.underlying3 r2
    obtain ⟨n3, hn3, _, wn3⟩ := DataW.trod_int Tryd.underlying3 r3
    have i0 : a1 = .int .i64 n0 := (List.cons.inj (show [a1] = [.int .i64 n0] from hn0)).1
    have i1 : b1 = .int .i64 n1 := (List.cons.inj (show [b1] = [.int .i64 n1] from hn1)).1
    have i2 : c1 = .int .i64 n2 := (List.cons.inj (show [c1] = [.int .i64 n2] from hn2)).1
    have i3 : g1 = .int .i64 n3 := (List.cons.inj (show [g1] = [.int .i64 n3] from hn3)).1
    clear hn0 hn1 hn2 hn3 hf1 hgg r0 r1 r2 r3 k0
    subst i0 i1 i2 i3
    exact serveNobody_walk n0 n1 n2 n3 a n wn0 wn1 wn2 W
#print axioms serveNobody_holds
end Go.Proofs.YtfhffldgjepeaaaDoor
