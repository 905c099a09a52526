/- node.Steps; the reference's Spans and Steps; two lists of spans that are the same. -/
import Derived.Test.YtcjnheabkdalbaaNh
namespace Go.Proofs.Ytcjnheabkdalbaa
open Go.RowKit Cop
set_option linter.unusedVariables false
set_option linter.unusedSimpArgs false
theorem steps_bad (i n : Int) (w : World) (h : i < 1 ∨ n < i ∨ 281474976710656 < n) : Calls Try.prog 33 #[.int .i64 i, .int .i64 n] w fun e w' => e = .returned (.tuple #[.slice none 0 0, .int .i64 40]) ∧ w' = w := by
  by_cases h1 : i < 1
  · clear h
    go_enter Try.func33, Try.ntmps33
    go_wp2
    go_ret2
    exact ⟨rfl, rfl⟩
  · by_cases h2 : n < i
    · clear h
      go_enter Try.func33, Try.ntmps33
      go_wp2
      go_ret2
      exact ⟨rfl, rfl⟩
    · have h4 : 281474976710656 < n := by omega
      clear h
      go_enter Try.func33, Try.ntmps33
      go_wp2
      go_ret2
      exact ⟨rfl, rfl⟩
set_option maxRecDepth 100000 in
set_option maxHeartbeats 4000000 in
theorem steps_ok (i n : Nat) (w : World) (h1 : 1 ≤ i) (h : i ≤ n) (hn : n ≤ 281474976710656) :
    Calls Try.prog 33 #[.int .i64 i, .int .i64 n] w fun e w' => ∃ v, e = .returned (.tuple #[v, .int .i64 0]) ∧ Below w.heap.size w w' ∧ Ow w' w.heap.size 46 2 v (stepsP i 0 n true).length (scs (stepsP i 0 n true)) := by
  have hlen := stepsP_len 48 n i 0 true (by omega)
  have CH := Lib.hid (fun (m : Nat) (w : World) (h2 : 2 ≤ m) (hm : m ≤ 281474976710656) => half_a (m : Int) w (by omega) (by omega))
  obtain ⟨L, hL⟩ : ∃ L, stepsP i 0 n true = L := ⟨_, rfl⟩
  have HL := Lib.hid hL
  rw [hL] at hlen ⊢
  clear hL
  have HS6 := Sep.ownNil (Sep.start w) 46 2
  have hi0 : decide ((i : Int) < 1) = false := decide_eq_false (by omega)
  have hin : decide ((n : Int) < (i : Int)) = false := decide_eq_false (by omega)
  have hin2 : decide (n < i) = false := decide_eq_false (by omega)
  have hnb : decide (281474976710656 < (n : Int)) = false := decide_eq_false (by omega)
  go_enter Try.func33, Try.ntmps33
  go_wp2
  go_loopw [6, 7, 8] (fun s6 s7 s8 wr => ∃ (b e : Nat) (dn : List (Nat × Nat)) (A : Option Addr) (c : Nat), s6 = .slice A dn.length c ∧ s7 = .int .i64 b ∧ s8 = .int .i64 e ∧ b < i ∧ i ≤ e ∧ e ≤ n ∧ Hid (dn ++ (stepsP (i - b) b (e - b) (decide (b = 0))).reverse = L.reverse) ∧ Sep w.heap.size w wr [.own (.slice A dn.length c) 46 2 dn.length (scs dn)]) (fun _ s7 s8 _ => (intOf s8 - intOf s7).toNat)
  case atStart => exact ⟨0, n, [], none, 0, rfl, rfl, rfl, h1, h, Nat.le_refl _, Lib.hid (by rw [← HL.out]; rfl), HS6⟩
  case round =>
    clear HS6
    obtain ⟨b, e, dn, A4, c4, rfl, rfl, rfl, hbi, hie, hen, HW, HSi⟩ := hrel
    obtain ⟨m, hm⟩ : ∃ m, e - b = m := ⟨_, rfl⟩
    have hmi : (e : Int) - (b : Int) = (m : Int) := by omega
    have hm1 : 1 ≤ m := by omega
    rw [hm] at HW
    have heb : (e : Int) ≤ 281474976710656 := by omega
    have hbb : (b : Int) ≤ 281474976710656 := by omega
    have hbm : b + m = e := by omega
    by_cases hone : i = e
    · subst hone
      have he := HW.out
      rw [stepsP_end (.inr (by omega)), hbm] at he
      by_cases hb0 : b = 0
      · subst hb0
        have he : dn = L.reverse := by simpa using he
        have hdl : dn.length = L.length := by rw [he, List.length_reverse]
        have HR := Lib.hid (reverse_a dn _ _ _ wr [] (by omega) HSi)
        have HDL := Lib.hid hdl
        have HE := Lib.hid he
        clear HW HSi he hdl hm hmi hbm
        go_wp2_with fail
        (with_reducible refine Calls.mono HR.out ?_)
        rintro e2 w2 ⟨rfl, HS2⟩
        go_wp2
        go_ret2
        have o2 := HS2.own 0 rfl
        rw [HE.out, List.reverse_reverse, List.length_reverse] at o2
        exact ⟨_, rfl, HS2.hb, by rw [HDL.out]; exact o2⟩
      · have hb1 : (0 : Int) < (b : Int) := by omega
        have he : dn ++ [(b, i)] = L.reverse := by simpa [hb0] using he
        have hdl : dn.length + 1 = L.length := by have := congrArg List.length he; simpa using this
        have HR := Lib.hid (fun v wr HS => reverse_a (dn ++ [(b, i)]) v w.heap.size w wr [] (by simp; omega) HS)
        have HDL := Lib.hid hdl
        have HE := Lib.hid he
        have hdn : dn.length ≤ 49 := by omega
        clear HW he hdl hm hmi hbm hb0
        go_wp2_with (first | refine wl_bs HSi rfl 56 46 1 2 _ rfl (scs [(b, i)]) _ Try.underlying56 span_info (by decide) (by decide) (by kernel_rfl) rfl ?_)
        intro g8 w8 HS8
        go_wp2_with (first | refine wl_apn HS8 1 rfl _ _ 56 _ 16 rfl rfl Try.underlying56 span_info3 rfl (by decide) (by decide) (HS8.own 0 rfl).rd (scs_one _) rfl rfl (dn.length + 1) (scs (dn ++ [(b, i)])) rfl (by rw [scs_append]) (by omega) ?_)
        intro v9 w9 HS9 _
        obtain ⟨A9, c9, rfl, _⟩ := (HS9.own 1 rfl).sl
        have HSk := HS9.tail
        clear HS8 HS9
        rw [show dn.length + 1 = (dn ++ [(b, i)]).length from by simp] at HSk
        have HR2 := Lib.hid (HR.out _ _ HSk)
        rw [show (dn ++ [(b, i)]).length = dn.length + 1 from by simp] at HR2
        clear HR
        go_wp2_with fail
        (with_reducible refine Calls.mono HR2.out ?_)
        rintro e2 w2 ⟨rfl, HS2⟩
        go_wp2
        go_ret2
        have o2 := HS2.own 0 rfl
        rw [HE.out, List.reverse_reverse, HDL.out] at o2
        exact ⟨_, rfl, HS2.hb, by rw [← HDL.out] at o2 ⊢; exact o2⟩
    · have h2 : 2 ≤ m := by omega
      have hk := CH.out m wr h2 (by omega)
      rw [Int.toNat_natCast] at hk
      have k1 := hf_pos m
      have k2 := hf_lt h2
      have hlt := fun w => stepsP_le (m := i - b) (b := b) (w := w) h2 (by omega)
      have hge := fun w => stepsP_gt (m := i - b) (b := b) (w := w) h2 (by omega)
      obtain ⟨k, hkk⟩ : ∃ k, hf m = k := ⟨_, rfl⟩
      rw [hkk] at hk k1 k2
      simp only [hkk] at hlt hge
      have CK := Lib.hid hk
      have Hlt := Lib.hid hlt
      have Hge := Lib.hid hge
      have hkb : (k : Int) ≤ 281474976710656 := by omega
      have hm0 : ¬ (i : Int) = (e : Int) := by omega
      have hdn : dn.length ≤ 49 := by have := congrArg List.length HW.out; simp only [List.length_append, List.length_reverse] at this; omega
      have HBM := Lib.hid hbm
      have HEB := Lib.hid hm
      clear hkk hlt hge hone hk hbm hm
      by_cases hak : i ≤ b + k
      · have haki : (i : Int) ≤ (b : Int) + (k : Int) := by omega
        go_wp2_with fail
        (with_reducible refine Calls.mono CK.out ?_)
        rintro e3 wx ⟨rfl, rfl⟩
        go_wp2_with (first | refine wl_bs HSi rfl 56 46 1 2 _ rfl (scs [(b + k, e)]) _ Try.underlying56 span_info (by decide) (by decide) (by kernel_rfl) rfl ?_)
        intro g8 w8 HS8
        go_wp2_with (first | refine wl_apn HS8 1 rfl _ _ 56 _ 16 rfl rfl Try.underlying56 span_info3 rfl (by decide) (by decide) (HS8.own 0 rfl).rd (scs_one _) rfl rfl (dn.length + 1) (scs (dn ++ [(b + k, e)])) rfl (by rw [scs_append]) (by omega) ?_)
        intro v9 w9 HS9 _
        obtain ⟨A9, c9, rfl, _⟩ := (HS9.own 1 rfl).sl
        have HSk := HS9.tail
        clear HS8 HS9
        go_wp2
        go_roundw
        case rel => exact ⟨b, b + k, dn ++ [(b + k, e)], A9, c9, by rw [List.length_append]; rfl, rfl, by go_num, hbi, hak, by have := HBM.out; omega, Lib.hid (by rw [← HW.out, Hlt.out _ (by omega), show b + k - b = k from by omega, HBM.out]; simp), by simpa using HSk⟩
        case measure => have := HBM.out; simp [intOf]; omega
      · have haki : ¬ (i : Int) ≤ (b : Int) + (k : Int) := by omega
        go_wp2_with fail
        (with_reducible refine Calls.mono CK.out ?_)
        rintro e3 wx ⟨rfl, rfl⟩
        go_wp2_with (first | refine wl_bs HSi rfl 56 46 1 2 _ rfl (scs [(b, b + k)]) _ Try.underlying56 span_info (by decide) (by decide) (by kernel_rfl) rfl ?_)
        intro g8 w8 HS8
        go_wp2_with (first | refine wl_apn HS8 1 rfl _ _ 56 _ 16 rfl rfl Try.underlying56 span_info3 rfl (by decide) (by decide) (HS8.own 0 rfl).rd (scs_one _) rfl rfl (dn.length + 1) (scs (dn ++ [(b, b + k)])) rfl (by rw [scs_append]) (by omega) ?_)
        intro v9 w9 HS9 _
        obtain ⟨A9, c9, rfl, _⟩ := (HS9.own 1 rfl).sl
        have HSk := HS9.tail
        clear HS8 HS9
        go_wp2
        go_roundw
        case rel => exact ⟨b + k, e, dn ++ [(b, b + k)], A9, c9, by rw [List.length_append]; rfl, by go_num, rfl, by omega, hie, hen, Lib.hid (by rw [← HW.out, Hge.out _ (by omega), show e - (b + k) = m - k from by have := HEB.out; omega, show i - (b + k) = i - b - k from by omega, decide_eq_false (show ¬ b + k = 0 by omega)]; simp), by simpa using HSk⟩
        case measure => have := HBM.out; simp [intOf]; omega
theorem cells_sp {W : World} {B : Nat} {w0 : World} {R : List Pc} {g c : Nat} {l : List (Nat × Nat)} (HS : Sep B w0 W R) (i : Nat) (hi : R[i]? = some (.own (.slice (some ⟨g, 0, none⟩) l.length c) 46 2 l.length (scs l))) (k : Nat) (hk : k < l.length) (x y : Nat) (hp : l.getD k (0, 0) = (x, y)) :
    W.cell? ⟨g, k * 2, none⟩ = some (.int .i64 (x : Int)) ∧ W.cell? ⟨g, k * 2 + 1, none⟩ = some (.int .i64 (y : Int)) := by
  obtain ⟨h1, h2⟩ := scs_at l k hk (x, y) hp
  exact ⟨own_cell (HS.own i hi) _ h1, own_cell (HS.own i hi) _ h2⟩
theorem own_ns (lo hi : Nat) : Try.prog.built 46 [(0, .int .i64 (lo : Int)), (1, .int .i64 (hi : Int))] = some (spv (lo, hi)) := by kernel_rfl
theorem cov_cons {a z lo hi x y : Nat} {r : List (Nat × Nat)} (h : Cov a z lo hi ((x, y) :: r)) : x < y ∧ (y = lo ∨ x = hi) ∧ Cov a z (min lo x) (max hi y) r := ⟨h.1.1, h.1.2, h.2⟩
theorem drop_at {α : Type} {l : List α} {k : Nat} {z x : α} (hk : k < l.length) (h : l.getD k z = x) : l.drop k = x :: l.drop (k + 1) := by
  rw [List.drop_eq_getElem_cons hk]
  simp only [List.getD, List.getElem?_eq_getElem hk, Option.getD_some] at h
  rw [h]
theorem and_nat (a b : Nat) (h : a ≤ 281474976710656) (h2 : b ≤ 281474976710656) : bits .and .i64 (a : Int) (b : Int) = ((a &&& b : Nat) : Int) := by
  have hx : a &&& b ≤ a := Nat.and_le_left
  have e1 : ∀ i : Nat, i ≤ 281474976710656 → (BitVec.ofInt 64 (i : Int)).toNat = i := fun i h => by
    rw [BitVec.ofInt_natCast, BitVec.toNat_ofNat]; exact Nat.mod_eq_of_lt (by omega)
  show IntKind.i64.wrap ((BitVec.ofInt 64 (a : Int) &&& BitVec.ofInt 64 (b : Int)).toNat : Int) = _
  rw [BitVec.toNat_and, e1 a h, e1 b h2, IntKind.wrap_i64]
  omega
end Go.Proofs.Ytcjnheabkdalbaa
