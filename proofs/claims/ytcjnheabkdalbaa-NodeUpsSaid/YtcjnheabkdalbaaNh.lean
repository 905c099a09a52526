/- node.Spans and node.Steps of both. -/
import Derived.Test.YtcjnheabkdalbaaNg
import Derived.WalkMore
namespace Go.Proofs.Ytcjnheabkdalbaa
open Go.RowKit Cop
set_option linter.unusedVariables false
set_option linter.unusedSimpArgs false
theorem spans_bad (i n : Int) (w : World) (h : i < 0 ∨ n ≤ i ∨ 281474976710656 < n) : Calls Try.prog 34 #[.int .i64 i, .int .i64 n] w fun e w' => e = .returned (.tuple #[.slice none 0 0, .int .i64 40]) ∧ w' = w := by
  by_cases h1 : i < 0
  · go_enter Try.func34, Try.ntmps34
    go_wp2
    go_step3
    go_wp2
    rw [Exit.noGoto_ret]
    go_ret2
    exact ⟨rfl, rfl⟩
  · by_cases h2 : n ≤ i
    · have h3 : i ≥ n := h2
      go_enter Try.func34, Try.ntmps34
      go_wp2
      go_step3
      go_wp2
      rw [Exit.noGoto_ret]
      go_ret2
      exact ⟨rfl, rfl⟩
    · have h3 : ¬ i ≥ n := h2
      have h4 : n > 281474976710656 := by omega
      go_enter Try.func34, Try.ntmps34
      go_wp2
      go_step3
      go_wp2
      rw [Exit.noGoto_ret]
      go_ret2
      exact ⟨rfl, rfl⟩
set_option maxRecDepth 100000 in
set_option maxHeartbeats 4000000 in
theorem spans_ok (i n : Nat) (w : World) (h : i < n) (hn : n ≤ 281474976710656) :
    Calls Try.prog 34 #[.int .i64 i, .int .i64 n] w fun e w' => ∃ v, e = .returned (.tuple #[v, .int .i64 0]) ∧ Below w.heap.size w w' ∧ Ow w' w.heap.size 46 2 v (spansP i 0 n).length (scs (spansP i 0 n)) := by
  have hlen := spansP_len 48 n i 0 (by omega)
  have CH := Lib.hid (fun (m : Nat) (w : World) (h2 : 2 ≤ m) (hm : m ≤ 281474976710656) => half_a (m : Int) w (by omega) (by omega))
  obtain ⟨L, hL⟩ : ∃ L, spansP i 0 n = L := ⟨_, rfl⟩
  have HL := Lib.hid hL
  rw [hL] at hlen ⊢
  clear hL
  have HS6 := Sep.ownNil (Sep.start w) 46 2
  have hi0 : decide ((i : Int) < 0) = false := decide_eq_false (by omega)
  have hin : decide ((n : Int) ≤ (i : Int)) = false := decide_eq_false (by omega)
  have hin2 : decide (n ≤ i) = false := decide_eq_false (by omega)
  have hnb : decide (281474976710656 < (n : Int)) = false := decide_eq_false (by omega)
  go_enter Try.func34, Try.ntmps34
  go_wp2
  go_step3
  go_wp2
  go_step3
  go_wp2
  go_loopw [6, 7, 8] (fun s6 s7 s8 wr => ∃ (b e : Nat) (dn : List (Nat × Nat)) (A : Option Addr) (c : Nat), s6 = .slice A dn.length c ∧ s7 = .int .i64 b ∧ s8 = .int .i64 e ∧ b ≤ i ∧ i < e ∧ e ≤ n ∧ Hid (dn ++ (spansP i b (e - b)).reverse = L.reverse) ∧ Sep w.heap.size w wr [.own (.slice A dn.length c) 46 2 dn.length (scs dn)]) (fun _ s7 s8 _ => (intOf s8 - intOf s7).toNat)
  case atStart => exact ⟨0, n, [], none, 0, rfl, rfl, rfl, Nat.zero_le _, h, Nat.le_refl _, Lib.hid (by rw [← HL.out]; rfl), HS6⟩
  case round =>
    clear HS6
    obtain ⟨b, e, dn, A4, c4, rfl, rfl, rfl, hbi, hie, hen, HW, HSi⟩ := hrel
    obtain ⟨m, hm⟩ : ∃ m, e - b = m := ⟨_, rfl⟩
    have hmi : (e : Int) - (b : Int) = (m : Int) := by omega
    have hm1 : 1 ≤ m := by omega
    rw [hm] at HW
    have heb : (e : Int) ≤ 281474976710656 := by omega
    have hbb : (b : Int) ≤ 281474976710656 := by omega
    by_cases hone : m = 1
    · subst hone
      have he : dn = L.reverse := by have := HW.out; rwa [spansP_one (by omega), List.reverse_nil, List.append_nil] at this
      have hdl : dn.length = L.length := by rw [he, List.length_reverse]
      have HR := Lib.hid (reverse_a dn _ _ _ wr [] (by omega) HSi)
      have HDL := Lib.hid hdl
      clear hdl
      have HE := Lib.hid he
      clear HW HSi he
      go_wp2_with fail
      (with_reducible refine Calls.mono HR.out ?_)
      rintro e2 w2 ⟨rfl, HS2⟩
      go_wp2
      rw [Exit.noGoto_ret]
      go_ret2
      have o2 := HS2.own 0 rfl
      rw [HE.out, List.reverse_reverse, List.length_reverse] at o2
      exact ⟨_, rfl, HS2.hb, by rw [HDL.out]; exact o2⟩
    · have h2 : 2 ≤ m := by omega
      have hk := CH.out m wr h2 (by omega)
      rw [Int.toNat_natCast] at hk
      have k1 := hf_pos m
      have k2 := hf_lt h2
      have hlt := spansP_lt (i := i) (b := b) h2
      have hge := spansP_ge (i := i) (b := b) h2
      obtain ⟨k, hkk⟩ : ∃ k, hf m = k := ⟨_, rfl⟩
      rw [hkk] at hk k1 k2 hlt hge
      have CK := Lib.hid hk
      have Hlt := Lib.hid hlt
      have Hge := Lib.hid hge
      have hkb : (k : Int) ≤ 281474976710656 := by omega
      have hm0 : ¬ (m : Int) = 1 := by omega
      have hdn : dn.length ≤ 48 := by have := congrArg List.length HW.out; simp only [List.length_append, List.length_reverse] at this; omega
      have hbm : b + m = e := by omega
      clear hkk hlt hge hone hk
      by_cases hak : i < b + k
      · have haki : (i : Int) < (b : Int) + (k : Int) := by omega
        go_wp2_with fail
        (with_reducible refine Calls.mono CK.out ?_)
        rintro e3 wx ⟨rfl, rfl⟩
        go_wp2_with (first | refine wl_bs HSi rfl 56 46 1 2 _ rfl (scs [(b + k, e)]) _ Try.underlying56 span_info (by decide) (by decide) (by kernel_rfl) rfl ?_)
        intro g8 w8 HS8
        go_wp2_with (first | refine wl_apn HS8 1 rfl _ _ 56 _ 16 rfl rfl Try.underlying56 span_info3 rfl (by decide) (by decide) (HS8.own 0 rfl).rd (scs_one _) rfl rfl (dn.length + 1) (scs (dn ++ [(b + k, e)])) rfl (by rw [scs_append]) (by omega) ?_)
        intro v9 w9 HS9 _
        obtain ⟨A9, c9, rfl, _⟩ := (HS9.own 1 rfl).sl
        have HSk := HS9.tail
        clear HS8 HS9
        go_wp2
        go_roundw
        case rel => exact ⟨b, b + k, dn ++ [(b + k, e)], A9, c9, by rw [List.length_append]; rfl, rfl, by go_num, hbi, hak, by omega, Lib.hid (by rw [← HW.out, Hlt.out hak, show b + k - b = k from by omega, hbm]; simp), by simpa using HSk⟩
        case measure => simp [intOf]; omega
      · have haki : ¬ (i : Int) < (b : Int) + (k : Int) := by omega
        go_wp2_with fail
        (with_reducible refine Calls.mono CK.out ?_)
        rintro e3 wx ⟨rfl, rfl⟩
        go_wp2_with (first | refine wl_bs HSi rfl 56 46 1 2 _ rfl (scs [(b, b + k)]) _ Try.underlying56 span_info (by decide) (by decide) (by kernel_rfl) rfl ?_)
        intro g8 w8 HS8
        go_wp2_with (first | refine wl_apn HS8 1 rfl _ _ 56 _ 16 rfl rfl Try.underlying56 span_info3 rfl (by decide) (by decide) (HS8.own 0 rfl).rd (scs_one _) rfl rfl (dn.length + 1) (scs (dn ++ [(b, b + k)])) rfl (by rw [scs_append]) (by omega) ?_)
        intro v9 w9 HS9 _
        obtain ⟨A9, c9, rfl, _⟩ := (HS9.own 1 rfl).sl
        have HSk := HS9.tail
        clear HS8 HS9
        go_wp2
        go_roundw
        case rel => exact ⟨b + k, e, dn ++ [(b, b + k)], A9, c9, by rw [List.length_append]; rfl, by go_num, rfl, by omega, hie, hen, Lib.hid (by rw [← HW.out, Hge.out hak, show e - (b + k) = m - k from by omega]; simp), by simpa using HSk⟩
        case measure => simp [intOf]; omega
end Go.Proofs.Ytcjnheabkdalbaa
