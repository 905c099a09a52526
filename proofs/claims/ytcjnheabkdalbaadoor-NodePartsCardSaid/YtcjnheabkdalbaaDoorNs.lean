/- The reference's Parts. -/
import Derived.Test.YtcjnheabkdalbaaDoorNq
namespace Go.Proofs.YtcjnheabkdalbaaDoor
open Go.RowKit Cop
set_option linter.unusedVariables false
set_option linter.unusedSimpArgs false
theorem rparts_bad (b e : Int) (w : World) (h : b < 0 ∨ e < b ∨ 281474976710656 < e) : Gives 6 #[.agg #[.int .i64 b, .int .i64 e]] w (.tuple #[.slice none 0 0, .int .i64 40]) := by
  have HS0 := Sep.start w
  by_cases h1 : b < 0
  · clear h
    go_enter Tryd.func6, Tryd.ntmps6
    go_wp2_with (first | refine wl_bx HS0 rfl 23 _ rfl #[.int .i64 b, .int .i64 e] rfl ?_)
    intro g1 w1 HS1
    have c0 := (row_cell (HS1.row 0 rfl) 0).trans (show (#[Value.int .i64 b, .int .i64 e] : Array Value)[0]? = some (.int .i64 b) from rfl)
    have c1 := (row_cell (HS1.row 0 rfl) 1).trans (show (#[Value.int .i64 b, .int .i64 e] : Array Value)[1]? = some (.int .i64 e) from rfl)
    go_wp2
    go_ret2
    exact ⟨rfl, HS1.hb⟩
  · by_cases h2 : e < b
    · clear h
      go_enter Tryd.func6, Tryd.ntmps6
      go_wp2_with (first | refine wl_bx HS0 rfl 23 _ rfl #[.int .i64 b, .int .i64 e] rfl ?_)
      intro g1 w1 HS1
      have c0 := (row_cell (HS1.row 0 rfl) 0).trans (show (#[Value.int .i64 b, .int .i64 e] : Array Value)[0]? = some (.int .i64 b) from rfl)
      have c1 := (row_cell (HS1.row 0 rfl) 1).trans (show (#[Value.int .i64 b, .int .i64 e] : Array Value)[1]? = some (.int .i64 e) from rfl)
      go_wp2
      go_ret2
      exact ⟨rfl, HS1.hb⟩
    · have h4 : 281474976710656 < e := by omega
      clear h
      go_enter Tryd.func6, Tryd.ntmps6
      go_wp2_with (first | refine wl_bx HS0 rfl 23 _ rfl #[.int .i64 b, .int .i64 e] rfl ?_)
      intro g1 w1 HS1
      have c0 := (row_cell (HS1.row 0 rfl) 0).trans (show (#[Value.int .i64 b, .int .i64 e] : Array Value)[0]? = some (.int .i64 b) from rfl)
      have c1 := (row_cell (HS1.row 0 rfl) 1).trans (show (#[Value.int .i64 b, .int .i64 e] : Array Value)[1]? = some (.int .i64 e) from rfl)
      go_wp2
      go_ret2
      exact ⟨rfl, HS1.hb⟩
set_option maxRecDepth 100000 in
set_option maxHeartbeats 4000000 in
theorem rparts_ok (b e : Nat) (w : World) (hbe : b ≤ e) (he : e ≤ 281474976710656) :
    Calls Tryd.prog 6 #[.agg #[.int .i64 b, .int .i64 e]] w fun r w' => ∃ v, r = .returned (.tuple #[v, .int .i64 0]) ∧ Below w.heap.size w w' ∧ Ow w' w.heap.size 32 2 v (partsP b e).length (scs (partsP b e)) := by
  have hlen := (bes_all hbe he).2
  have HS0 := Sep.start w
  obtain ⟨L, hL⟩ : ∃ L, partsP b e = L := ⟨_, rfl⟩
  have HL := Lib.hid hL
  rw [hL] at hlen ⊢
  have hb0 : decide ((b : Int) < 0) = false := decide_eq_false (by omega)
  have hb1 : decide ((e : Int) < (b : Int)) = false := decide_eq_false (by omega)
  have hb2 : decide (e < b) = false := decide_eq_false (by omega)
  have hb3 : decide (281474976710656 < (e : Int)) = false := decide_eq_false (by omega)
  have heb : (e : Int) ≤ 281474976710656 := by omega
  have HMX := Lib.hid (fun a n j (h : lv a n < j) (hj : j ≤ 48) => lv_max a n h hj)
  clear hL
  go_enter Tryd.func6, Tryd.ntmps6
  go_wp2_with (first | refine wl_bx HS0 rfl 23 _ rfl #[.int .i64 (b : Int), .int .i64 (e : Int)] rfl ?_)
  intro g1 w1 HS1
  have c0 := (row_cell (HS1.row 0 rfl) 0).trans (show (#[Value.int .i64 (b : Int), .int .i64 (e : Int)] : Array Value)[0]? = some (.int .i64 (b : Int)) from rfl)
  have c1 := (row_cell (HS1.row 0 rfl) 1).trans (show (#[Value.int .i64 (b : Int), .int .i64 (e : Int)] : Array Value)[1]? = some (.int .i64 (e : Int)) from rfl)
  have HSn := Sep.ownNil HS1 32 2
  clear HS0 HS1
  go_wp2
  clear c0 c1
  go_loopw [4, 5, 6] (fun s4 s5 _ wr => ∃ (a : Nat) (dn : List (Nat × Nat)) (A : Option Addr) (c : Nat), s4 = .slice A dn.length c ∧ s5 = .int .i64 a ∧ a ≤ e ∧ Hid (dn ++ partsP a e = L) ∧ Sep w.heap.size w wr [.own (.slice A dn.length c) 32 2 dn.length (scs dn), .row g1 #[.int .i64 (b : Int), .int .i64 (e : Int)] 23]) (fun _ s5 _ _ => (e : Nat) - (intOf s5).toNat)
  case atStart => exact ⟨b, [], none, 0, rfl, rfl, hbe, Lib.hid (by rw [← HL.out]; rfl), HSn⟩
  case round =>
    clear HSn
    obtain ⟨a, dn, A4, c4, rfl, rfl, hae, HW, HSi⟩ := hrel
    have c1 := (row_cell (HSi.row 1 rfl) 1).trans (show (#[Value.int .i64 (b : Int), .int .i64 (e : Int)] : Array Value)[1]? = some (.int .i64 (e : Int)) from rfl)
    by_cases hlt : a < e
    · have hlt' : (a : Int) < (e : Int) := by omega
      have hw := HW.out
      rw [partsP_cons hlt] at hw
      obtain ⟨n, hn⟩ : ∃ n, e - a = n := ⟨_, rfl⟩
      rw [hn] at hw
      have hni : (e : Int) - (a : Int) = (n : Int) := by omega
      have hmx := HMX.out a n
      have hlp := lv_pow a (n := n) (by omega)
      have hld := lv_dvd a n
      have hl48 := lv_le a n
      obtain ⟨lvl, hlvl⟩ : ∃ l, lv a n = l := ⟨_, rfl⟩
      rw [hlvl] at hw hlp hl48 hmx hld
      have hdn : dn.length + 1 ≤ 96 := by have := congrArg List.length hw; simp only [List.length_append, List.length_cons] at this; omega
      have HWX := Lib.hid hw
      have HMAX := Lib.hid hmx
      have HLD := Lib.hid hld
      have HLP := Lib.hid hlp
      have HNE := Lib.hid (show a + 2 ^ lvl ≤ e ∧ 0 < 2 ^ lvl from ⟨by omega, Nat.pow_pos (by decide)⟩)
      have HAE := Lib.hid (show a ≤ 281474976710656 by omega)
      clear hlvl hw hn hmx hld hlp
      go_wp2
      go_loopw [6] (fun s6 wr2 => ∃ j : Nat, s6 = .int .i64 j ∧ lvl ≤ j ∧ j ≤ 48 ∧ wr2 = wr) (fun s6 _ => (intOf s6).toNat)
      case atStart => exact ⟨48, rfl, hl48, Nat.le_refl _, rfl⟩
      case round =>
        obtain ⟨j, rfl, hj1, hj2, rfl⟩ := hrel
        have hs1 := shl_one (m := j) (by omega)
        have hwj : IntKind.u64.wrap (j : Int) = (j : Int) := by rw [IntKind.wrap_u64]; omega
        have HP := Lib.hid (show 0 < 2 ^ j from Nat.pow_pos (by decide))
        have hpb : (2 ^ j : Nat) ≤ 281474976710656 := Nat.le_trans (Nat.pow_le_pow_right (by decide) hj2) (by decide : 2 ^ 48 ≤ 281474976710656)
        by_cases hm : a % 2 ^ j = 0
        · by_cases hp : 2 ^ j ≤ n
          · have hjl : lvl = j := by
              rcases Nat.lt_or_ge lvl j with h | h
              · exact absurd ⟨hm, hp⟩ (HMAX.out j h hj2)
              · omega
            subst hjl
            have HS2 := Lib.hid (shr_nat a lvl)
            obtain ⟨P2, hP2⟩ : ∃ p, (2 ^ lvl : Nat) = p := ⟨_, rfl⟩
            rw [hP2] at hs1 hm hp HP hpb HWX HNE HS2
            have hmi : ((a : Int) % (P2 : Int)) = 0 := by omega
            have hpi : ((2 : Int) ^ lvl) = (P2 : Int) := by rw [← hP2]; simp
            have hp0 := HP.out
            clear hP2 hm hj1
            go_wp2_with (first | refine wl_bs HSi rfl 24 32 1 2 _ rfl (scs [(lvl, a / P2)]) _ Tryd.underlying24 span_info (by decide) (by decide) (by kernel_rfl) rfl ?_)
            intro g8 w8 HS8
            go_wp2_with (first | refine wl_apn HS8 1 rfl _ _ 24 _ 16 rfl rfl Tryd.underlying24 span_info3 rfl (by decide) (by decide) (HS8.own 0 rfl).rd (scs_one _) rfl rfl (dn.length + 1) (scs (dn ++ [(lvl, a / P2)])) rfl (by rw [scs_append]) (by omega) ?_)
            intro v9 w9 HS9 _
            obtain ⟨A9, c9, rfl, _⟩ := (HS9.own 1 rfl).sl
            have HSk := HS9.tail
            clear HS8 HS9
            go_wp2
            go_roundw
            case rel => exact ⟨a + P2, dn ++ [(lvl, a / P2)], A9, c9, by rw [List.length_append]; rfl, by go_num, HNE.out.1, Lib.hid (by rw [← HWX.out]; simp), by simpa using HSk⟩
            case measure => have := HNE.out; simp [intOf]; omega
          · obtain ⟨P2, hP2⟩ : ∃ p, (2 ^ j : Nat) = p := ⟨_, rfl⟩
            have hjl : lvl < j := by
              rcases Nat.lt_or_ge lvl j with h | h
              · exact h
              · obtain rfl : lvl = j := by omega
                exact absurd HLP.out hp
            rw [hP2] at hs1 hm hp HP hpb
            have hmi : ((a : Int) % (P2 : Int)) = 0 := by omega
            have hni2 : (n : Int) < (P2 : Int) := Int.ofNat_lt.2 (Nat.lt_of_not_le hp)
            have hpi : ((2 : Int) ^ j) = (P2 : Int) := by rw [← hP2]; simp
            have hp0 := HP.out
            clear hP2 hm hj1 HMAX HLD HLP HNE HAE hlt hlt' hae HW HWX HMX hdn hb0 hb1 hb2 hb3 HL
            go_wp2
            go_roundw
            case rel => exact ⟨j - 1, by go_num, by omega, by omega, trivial⟩
            case measure => simp [intOf]; omega
        · obtain ⟨P2, hP2⟩ : ∃ p, (2 ^ j : Nat) = p := ⟨_, rfl⟩
          have hjl : lvl < j := by
            rcases Nat.lt_or_ge lvl j with h | h
            · exact h
            · obtain rfl : lvl = j := by omega
              exact absurd HLD.out hm
          rw [hP2] at hs1 hm HP hpb
          have hmi : ¬ ((a : Int) % (P2 : Int)) = 0 := by omega
          have hpi : ((2 : Int) ^ j) = (P2 : Int) := by rw [← hP2]; simp
          have hp0 := HP.out
          clear hP2 hm hj1 HMAX HLD HLP HNE HAE hlt hlt' hae HW HWX HMX hdn hni hb0 hb1 hb2 hb3 HL
          go_wp2
          go_roundw
          case rel => exact ⟨j - 1, by go_num, by omega, by omega, trivial⟩
          case measure => simp [intOf]; omega
    · have hae2 : a = e := by omega
      subst hae2
      have he2 : dn = L := by have := HW.out; rwa [partsP_nil (by omega), List.append_nil] at this
      subst he2
      go_wp2
      go_ret2
      exact ⟨_, rfl, HSi.hb, HSi.own 0 rfl⟩
end Go.Proofs.YtcjnheabkdalbaaDoor
