/- Proved here: any bytes are a saved state, or not, as the document says (hash.Load); what is loaded goes on as the document's. The table of constants is tied to the program's text. No condition. -/
import Derived.Test.YtepcjdifjjombaaDoorLw
import Derived.Test.YtepcjdifjjombaaDoorFHashLoads
namespace Go.Proofs.YtepcjdifjjombaaDoor
open Go.RowKit Cop
set_option linter.unusedVariables false
set_option linter.unusedSimpArgs false
set_option maxRecDepth 100000 in
set_option maxHeartbeats 8000000 in
theorem hashLoads_no (b more : List UInt8) (v0 v1 : Value) (w : World) (h0 : Rd w v0 b.length 1 (bl b)) (h1 : Rd w v1 more.length 1 (bl more))
    (CL : ∀ (w' : World) (R : List Pc) (i : Nat), R[i]? = some (.rd v0 b.length 1 (bl b)) → Sep w.heap.size w w' R → Calls Tryd.prog 32 #[v0] w' fun e w2 => e = .returned (.tuple #[.pointer none, .int .i64 20]) ∧ Sep w.heap.size w w2 R)
    (CR : ∀ (w' : World) (R : List Pc) (i : Nat), R[i]? = some (.rd v0 b.length 1 (bl b)) → Sep w.heap.size w w' R → Calls Tryd.prog 38 #[v0] w' fun e w2 => e = .returned (.tuple #[.agg (rsv hzero 0 (.slice none 0 0)), .int .i64 20]) ∧ Sep w.heap.size w w2 R) :
    Calls Tryd.prog 10 #[v0, v1] w fun e w' => e = .returned (.bool true) ∧ Below w.heap.size w w' := by
  have HS0 := ((Sep.start w).arg0 h0).arg0 h1
  have CL := Lib.hid CL
  have CR := Lib.hid CR
  clear h0 h1
  go_enter Tryd.func10, Tryd.ntmps10
  go_wp2_with fail
  (with_reducible refine Calls.mono (CL.out w _ 1 rfl HS0) ?_)
  rintro e w1 ⟨rfl, HS1⟩
  clear HS0
  go_wp2_with fail
  (with_reducible refine Calls.mono (CR.out w1 _ 1 rfl HS1) ?_)
  rintro e w2 ⟨rfl, HS2⟩
  clear HS1
  go_wp2_with (first | refine wl_al HS2 rfl 62 rfl (rsv hzero 0 (.slice none 0 0)) (by kernel_rfl) ?_)
  intro gr w3 HS3
  go_wp2_with (first | refine wl_st HS3 0 rfl rfl 62 _ _ rfl rfl (cs := rsv hzero 0 (.slice none 0 0)) rfl (rsv_info _ _ _) rfl (rsv_one _ _ _ _ _) ?_)
  intro w4 HS4
  clear HS2 HS3
  go_wp2_with fail
  refine (names_02 w4).mono ?_
  rintro e w5 ⟨rfl, rfl⟩
  go_wp2
  go_ret
  exact ⟨rfl, HS4.hb⟩
set_option maxRecDepth 100000 in
set_option maxHeartbeats 8000000 in
theorem hashLoads_ok (b more r t : List UInt8) (h h2 : H8) (n n2 : Nat) (E : Int) (v0 v1 : Value) (w : World) (h0 : Rd w v0 b.length 1 (bl b)) (h1 : Rd w v1 more.length 1 (bl more))
    (CL : ∀ (w' : World) (R : List Pc) (i : Nat), R[i]? = some (.rd v0 b.length 1 (bl b)) → Sep w.heap.size w w' R → Calls Tryd.prog 32 #[v0] w' fun e w2 => ∃ g v, e = .returned (.tuple #[.pointer (some ⟨g, 0, none⟩), .int .i64 0]) ∧ Sep w.heap.size w w2 (.row g (stv true h (n : Int) v) 50 :: .own v 5 1 r.length (bl r) :: R))
    (CR : ∀ (w' : World) (R : List Pc) (i : Nat), R[i]? = some (.rd v0 b.length 1 (bl b)) → Sep w.heap.size w w' R → Calls Tryd.prog 38 #[v0] w' fun e w2 => ∃ v, e = .returned (.tuple #[.agg (rsv h (n : Int) v), .int .i64 0]) ∧ Sep w.heap.size w w2 (.own v 5 1 r.length (bl r) :: R))
    (CW : WBoth w.heap.size w h n r more h2 n2 t E)
    (CT : ∀ (R' : List Pc) (w' : World) (i j k g : Nat) (v vr : Value), R'[i]? = some (.row g (stv true h2 (n2 : Int) v) 50) → R'[j]? = some (.own v 5 1 t.length (bl t)) → R'[k]? = some (.rd vr t.length 1 (bl t)) → Sep w.heap.size w w' R' →
      Calls Tryd.prog 34 #[.pointer (some ⟨g, 0, none⟩), .agg (rsv h2 (n2 : Int) vr)] w' fun e w2 => e = .returned (.bool true) ∧ Sep w.heap.size w w2 R') :
    Calls Tryd.prog 10 #[v0, v1] w fun e w' => e = .returned (.bool true) ∧ Below w.heap.size w w' := by
  have HS0 := ((Sep.start w).arg0 h0).arg0 h1
  have CL := Lib.hid CL
  have CR := Lib.hid CR
  have CWa := Lib.hid CW.a
  have CWb := Lib.hid CW.b
  have CT := Lib.hid CT
  clear h0 h1 CW
  go_enter Tryd.func10, Tryd.ntmps10
  go_wp2_with fail
  (with_reducible refine Calls.mono (CL.out w _ 1 rfl HS0) ?_)
  rintro e w1 ⟨g, v, rfl, HS1⟩
  clear HS0
  go_wp2_with fail
  (with_reducible refine Calls.mono (CR.out w1 _ 3 rfl HS1) ?_)
  rintro e w2 ⟨vr, rfl, HS2⟩
  obtain ⟨Ar, cr, rfl, _⟩ := (HS2.own 0 rfl).sl
  have HS3 : Sep w.heap.size w w2 (.rd (.slice Ar r.length cr) r.length 1 (bl r) :: .row g (stv true h (n : Int) v) 50 :: .own v 5 1 r.length (bl r) :: .rd v1 more.length 1 (bl more) :: .rd v0 b.length 1 (bl b) :: []) := HS2.toRd 0 rfl
  clear HS1 HS2
  go_wp2_with (first | refine wl_al HS3 rfl 62 rfl (rsv hzero 0 (.slice none 0 0)) (by kernel_rfl) ?_)
  intro gr w3 HS4
  go_wp2_with (first | refine wl_st HS4 0 rfl rfl 62 _ _ rfl rfl (cs := rsv h (n : Int) (.slice Ar r.length cr)) rfl (rsv_info _ _ _) rfl (rsv_one _ _ _ _ _) ?_)
  intro w4 HS5
  clear HS3 HS4
  go_wp2_with fail
  refine (names_02 w4).mono ?_
  rintro e w5 ⟨rfl, rfl⟩
  have HS6 : Sep w.heap.size w w4 (.row g (stv true h (n : Int) v) 50 :: .own v 5 1 r.length (bl r) :: .rd v1 more.length 1 (bl more) :: .row gr (rsv h (n : Int) (.slice Ar r.length cr)) 62 :: .rd (.slice Ar r.length cr) r.length 1 (bl r) :: .rd v0 b.length 1 (bl b) :: []) := ((HS5.front 4).front 4).front 4
  go_wp2_with fail
  (with_reducible refine Calls.mono (CWa.out g v v1 w4 _ HS6) ?_)
  rintro e w6 ⟨rfl, v3, HS7⟩
  clear HS5 HS6
  go_wp2_with (first | refine wl_ld HS7 3 rfl rfl 62 _ rfl rfl Tryd.underlying62 rfl (rsv_info _ _ _) ?_)
  (with_reducible refine Calls.mono (CWb.out _ v1 w6 _ 4 2 rfl rfl HS7) ?_)
  rintro e w7 ⟨v9, rfl, HS8⟩
  obtain ⟨A9, c9, rfl, _⟩ := (HS8.rd 0 rfl).shape
  clear HS7
  go_wp2_with (first | refine wl_st HS8 4 rfl rfl 62 _ _ rfl rfl (cs := rsv h2 (n2 : Int) (.slice A9 t.length c9)) rfl (rsv_info _ _ _) rfl (rsv_one _ _ _ _ _) ?_)
  intro w8 HS9
  clear HS8
  go_wp2_with (first | refine wl_ldg HS9 4 rfl 62 _ rfl rfl Tryd.underlying62 rfl (rsv_info _ _ _) rfl ?_)
  (with_reducible refine Calls.mono (CT.out _ w8 1 2 0 g v3 _ rfl rfl rfl HS9) ?_)
  rintro e w9 ⟨rfl, HS10⟩
  go_wp2
  go_ret
  exact ⟨rfl, HS10.hb⟩
theorem hashLoads_walk (b more : List UInt8) (v0 v1 : Value) (w : World) (hT : Tab w) (h0 : Rd w v0 b.length 1 (bl b)) (h1 : Rd w v1 more.length 1 (bl more)) (hb : b.length ≤ 140737488351232) (hm : more.length ≤ 140737488351232) :
    Calls Tryd.prog 10 #[v0, v1] w fun e w' => e = .returned (.bool true) ∧ Below w.heap.size w w' := by
  by_cases h40 : 40 ≤ b.length
  · by_cases hk : lok b
    · have hlen : (b.drop 40).length < 64 := by rw [List.length_drop]; have := hk.2.1; omega
      obtain ⟨h2, n2, t, E, HW⟩ := write_both (B := w.heap.size) (w0 := w) hT.base (lwd b) (lnum b) (b.drop 40) more hk.1 hlen hm
      refine hashLoads_ok b more (b.drop 40) t (lwd b) h2 (lnum b) n2 E v0 v1 w h0 h1 (fun w' R i hi HS => ?_) (fun w' R i hi HS => ?_) HW (fun R' w' i j k g v vr hi hj hk HS => stands_a hT.base i j k hi hj hk HW.ht HW.hn HS)
      · refine (load_a b v0 i hi HS h40 (by omega)).mono ?_
        rintro e w2 ⟨x, F, rfl, ⟨_, rfl, g, v', rfl, h⟩ | ⟨h, _⟩⟩
        · exact ⟨g, v', rfl, h⟩
        · exact absurd hk h
      · refine (rload_a b v0 i hi HS h40 (by omega)).mono ?_
        rintro e w2 (⟨_, v', rfl, h⟩ | ⟨h, _⟩)
        · exact ⟨v', rfl, h⟩
        · exact absurd hk h
    · refine hashLoads_no b more v0 v1 w h0 h1 (fun w' R i hi HS => ?_) (fun w' R i hi HS => ?_)
      · refine (load_a b v0 i hi HS h40 (by omega)).mono ?_
        rintro e w2 ⟨x, F, rfl, ⟨h, _⟩ | ⟨_, rfl, rfl, h⟩⟩
        · exact absurd h hk
        · exact ⟨rfl, h⟩
      · refine (rload_a b v0 i hi HS h40 (by omega)).mono ?_
        rintro e w2 (⟨h, _⟩ | ⟨_, rfl, h⟩)
        · exact absurd h hk
        · exact ⟨rfl, h⟩
  · refine hashLoads_no b more v0 v1 w h0 h1 (fun w' R i hi HS => ?_) (fun w' R i hi HS => rload_short b v0 i hi HS (by omega))
    refine (load_short b v0 i hi HS (by omega)).mono ?_
    rintro e w2 ⟨rfl, rfl⟩
    exact ⟨rfl, HS⟩
theorem hashLoads_holds : Rows.HashLoadsCardSaid := hashLoads.card_of_walk fun H enc W base v0 v1 d0 d1 p0 p1 h0 k0 h1 k1 hsz hL => by
  obtain ⟨b, hR, hb⟩ := open_bslice Tryd.underlying30 Tryd.underlying5 (by kernel_rfl) (by kernel_rfl) h0 k0 hsz 0 rfl rfl
  obtain ⟨m, hR2, hm⟩ := open_bslice Tryd.underlying30 Tryd.underlying5 (by kernel_rfl) (by kernel_rfl) h1 k1 hsz 1 rfl rfl
  exact hashLoads_walk b m v0 v1 W (table_of hL) hR hR2 hb hm
#print axioms hashLoads_holds
end Go.Proofs.YtepcjdifjjombaaDoor
