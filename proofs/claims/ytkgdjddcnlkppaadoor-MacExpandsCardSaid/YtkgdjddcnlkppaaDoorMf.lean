/- Proved here: any key is expanded to any number of bytes, or refused, as the document says. The table of constants is tied to the program's text. No condition. -/
import Derived.Test.YtkgdjddcnlkppaaDoorMe
import Derived.Test.YtkgdjddcnlkppaaDoorSpn
namespace Go.Proofs.YtkgdjddcnlkppaaDoor
open Go.RowKit Cop
set_option linter.unusedVariables false
set_option linter.unusedSimpArgs false
theorem exp_ab (key info : List UInt8) (n : Int) (hk : key.length = 32) (hil : info.length ≤ 140737488351232) : ∃ (X : List UInt8) (E : Int), X.length ≤ 8160 ∧
    (∀ {B : Nat} {w0 w : World} {R : List Pc}, TabB B w0 → Sep B w0 w R → ∀ (i0 : Nat) (vi : Value), R[i0]? = some (.rd vi info.length 1 (bl info)) → Calls Tryd.prog 20 #[.agg (bv key), vi, .int .i64 n] w fun e w' => ∃ x, e = .returned (.tuple #[x, .int .i64 E]) ∧ Sep B w0 w' (.own x 5 1 X.length (bl X) :: R)) ∧
    (∀ {B : Nat} {w0 w : World} {R : List Pc}, Sep B w0 w R → ∀ (i0 : Nat) (vi : Value), R[i0]? = some (.rd vi info.length 1 (bl info)) → Calls Tryd.prog 21 #[.agg (bv key), vi, .int .i64 n] w fun e w' => ∃ x, e = .returned (.tuple #[x, .int .i64 E]) ∧ Sep B w0 w' (.rd x X.length 1 (bl X) :: R)) := by
  by_cases h : 0 ≤ n ∧ n ≤ 8160
  · obtain ⟨m, rfl⟩ : ∃ m : Nat, n = m := ⟨n.toNat, by omega⟩
    refine ⟨expD key info m, 0, by rw [expD_length]; omega, fun hTB HS i0 vi hi => ?_, fun HS i0 vi hi => ?_⟩
    · rw [expD_length]
      exact expand_gen key info _ _ (rounds key info) hTB HS i0 vi hi m (expD key info m) rfl hk (by omega) hil
    · rw [expD_length]
      exact refExpand_gen key info _ _ (rounds key info) HS i0 vi hi m (expD key info m) rfl hk (by omega) hil
  · have h2 : n < 0 ∨ (¬ n < 0 ∧ 8160 < n) := by omega
    obtain ⟨E, e1, e2⟩ := expand_no key n h2
    refine ⟨[], E, by decide, fun hTB HS i0 vi hi => ?_, fun HS i0 vi hi => ?_⟩
    · obtain ⟨A, c, rfl, _⟩ := (HS.rd i0 hi).shape
      refine (e1 A _ c _).mono ?_
      rintro e w' ⟨rfl, b⟩
      exact ⟨_, rfl, Sep.ownNil (HS.keep b) 5 1⟩
    · obtain ⟨A, c, rfl, _⟩ := (HS.rd i0 hi).shape
      refine (e2 A _ c _).mono ?_
      rintro e w' ⟨rfl, b⟩
      exact ⟨_, rfl, Sep.rdNil (HS.keep b) 1⟩
set_option maxRecDepth 100000 in
set_option maxHeartbeats 4000000 in
theorem macExpands_walk (key info : List UInt8) (v : Value) (n : Int) (w : World) (hT : Tab w) (hR : Rd w v info.length 1 (bl info)) (hk : key.length = 32) (hil : info.length ≤ 140737488351232) :
    Calls Tryd.prog 7 #[.agg (bv key), v, .int .i64 n] w fun e w' => e = .returned (.bool true) ∧ Below w.heap.size w w' := by
  obtain ⟨X, E, hXl, ca, cb⟩ := exp_ab key info n hk hil
  have CA := Lib.hid (fun (w' : World) (R : List Pc) (HS : Sep w.heap.size w w' R) i0 vi hi => ca hT.base HS i0 vi hi)
  have CB := Lib.hid (fun (w' : World) (R : List Pc) (HS : Sep w.heap.size w w' R) i0 vi hi => cb HS i0 vi hi)
  have HS0 := (Sep.start w).arg0 hR
  obtain ⟨A, c, rfl, _⟩ := hR.shape
  clear ca cb hR
  go_enter Tryd.func7, Tryd.ntmps7
  go_wp2_with (first | refine wl_bx HS0 rfl 23 _ rfl (bv key) rfl ?_)
  intro g1 w1 HS1
  go_wp2_with (first | refine wl_ld HS1 0 rfl rfl 23 _ rfl rfl Tryd.underlying23 rfl (by rw [bv_size, hk]; exact info_dg) ?_)
  refine (CA.out _ _ HS1 1 _ rfl).mono ?_
  rintro e w2 ⟨x1, rfl, HS2⟩
  clear HS0 HS1
  go_wp2_with (first | refine wl_ld HS2 1 rfl rfl 23 _ rfl rfl Tryd.underlying23 rfl (by rw [bv_size, hk]; exact info_dg) ?_)
  refine (CA.out _ _ HS2 2 _ rfl).mono ?_
  rintro e w3 ⟨x2, rfl, HS3⟩
  clear HS2
  go_wp2_with (first | refine wl_ld HS3 2 rfl rfl 23 _ rfl rfl Tryd.underlying23 rfl (by rw [bv_size, hk]; exact info_dg) ?_)
  refine (CB.out _ _ HS3 3 _ rfl).mono ?_
  rintro e w4 ⟨x3, rfl, HS4⟩
  clear HS3
  obtain ⟨A1, c1, rfl, _⟩ := (HS4.own 2 rfl).sl
  obtain ⟨A2, c2, rfl, _⟩ := (HS4.own 1 rfl).sl
  obtain ⟨A3, c3, rfl, _⟩ := (HS4.rd 0 rfl).shape
  have s1 := Rd.string (P := Tryd.prog) (HS4.own 2 rfl).rd Tryd.underlying33 Tryd.underlying5 Tryd.underlying9
  have s3 := Rd.string (P := Tryd.prog) (HS4.rd 0 rfl) Tryd.underlying33 Tryd.underlying5 Tryd.underlying9
  unfold sv at s1 s3
  go_wp2_with fail
  refine (spoil_S (HS4.front 2) (by omega)).mono ?_
  rintro e w5 ⟨rfl, HS5⟩
  clear HS4 s1 s3
  have s2 := Rd.string (P := Tryd.prog) (HS5.own 1 rfl).rd Tryd.underlying33 Tryd.underlying5 Tryd.underlying9
  have s3 := Rd.string (P := Tryd.prog) (HS5.rd 0 rfl) Tryd.underlying33 Tryd.underlying5 Tryd.underlying9
  unfold sv at s2 s3
  go_wp2_with fail
  refine (names_03e w5).mono ?_
  rintro e w6 ⟨rfl, rfl⟩
  go_wp2
  go_ret
  exact ⟨rfl, HS5.hb⟩
set_option maxRecDepth 100000 in
theorem macExpands_holds : Rows.MacExpandsCardSaid := macExpands.card_of_walk fun H enc W base v0 v1 v2 d0 d1 d2 p0 p1 p2 h0 k0 h1 k1 h2 k2 hsz hL => by
  obtain ⟨s, hs, rfl⟩ := open_bytes Tryd.underlying23 Tryd.underlying5 (by kernel_rfl) (by kernel_rfl) h0 k0
  obtain ⟨l, hR, hl⟩ := open_bslice Tryd.underlying33 Tryd.underlying5 (by kernel_rfl) (by kernel_rfl) h1 k1 hsz 1 rfl rfl
  obtain ⟨i, rfl, _, _, hw⟩ := Go.ChangeShapes.open_int Tryd.underlying3 k2 h2
  exact macExpands_walk s l v1 i W (table_of hL) hR hs hl
#print axioms macExpands_holds
end Go.Proofs.YtkgdjddcnlkppaaDoor
