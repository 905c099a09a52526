/- The reference's Spans and Steps; two lists of spans that are the same; a loop that spoils one. -/
import Derived.Test.YtcjnheabkdalbaaNi
namespace Go.Proofs.Ytcjnheabkdalbaa
open Go.RowKit Cop
set_option linter.unusedVariables false
set_option linter.unusedSimpArgs false
set_option maxRecDepth 100000 in
set_option maxHeartbeats 4000000 in
theorem rspans_gen (Sp : Nat → Nat → Nat → List (Nat × Nat)) (h1 : ∀ i b n, n < 2 → Sp i b n = []) (hlt : ∀ i b n, 2 ≤ n → i < b + hf n → Sp i b n = Sp i b (hf n) ++ [(b + hf n, b + n)]) (hge : ∀ i b n, 2 ≤ n → ¬ i < b + hf n → Sp i b n = Sp i (b + hf n) (n - hf n) ++ [(b, b + hf n)]) (hlen : ∀ i b n, n ≤ 281474976710656 → (Sp i b n).length ≤ 48) :
    ∀ (n b i : Nat) (w : World), 1 ≤ n → b ≤ i → i < b + n → b + n ≤ 281474976710656 →
    Calls Try.prog 51 #[.int .i64 i, .int .i64 b, .int .i64 n] w fun e w' => ∃ v, e = .returned v ∧ Below w.heap.size w w' ∧ Ow w' w.heap.size 46 2 v (Sp i b n).length (scs (Sp i b n)) := by
  have H1 := Lib.hid h1
  have HLT := Lib.hid hlt
  have HGE := Lib.hid hge
  have HLEN := Lib.hid hlen
  clear h1 hlt hge hlen
  intro n
  induction n using Nat.strongRecOn with
  | ind n ih =>
  intro b i w hn hbi hib hbn
  have IH := Lib.hid ih
  clear ih
  have hnb : (n : Int) ≤ 281474976710656 := by omega
  have hbb : (b : Int) ≤ 281474976710656 := by omega
  have hbnb : (b : Int) + (n : Int) ≤ 281474976710656 := by omega
  by_cases hone : n = 1
  · subst hone
    rw [H1.out _ _ _ (by omega)]
    go_enter Try.func51, Try.ntmps51
    go_wp2
    go_ret
    exact ⟨_, rfl, Below.refl _ _, Ow.nil _ _ _ _ _⟩
  have h2 : 2 ≤ n := by omega
  have hk := half_b n w h2 (by omega)
  have k1 := hf_pos n
  have k2 := hf_lt h2
  have hlt := HLT.out i b n h2
  have hge := HGE.out i b n h2
  have hlen := HLEN.out i b n (by omega)
  obtain ⟨k, hkk⟩ : ∃ k, hf n = k := ⟨_, rfl⟩
  rw [hkk] at hk k1 k2 hlt hge
  have CK := Lib.hid hk
  have hkb : (k : Int) ≤ 281474976710656 := by omega
  have hbk : (b : Int) + (k : Int) ≤ 281474976710656 := by omega
  have hn1 : ((n : Int) == 1) = false := by simp; omega
  clear hk hkk hone
  by_cases hak : i < b + k
  · have haki : (i : Int) < (b : Int) + (k : Int) := by omega
    have hrec := IH.out k k2 b i w k1 hbi hak (by omega)
    have he := hlt hak
    obtain ⟨L, hL⟩ : ∃ L, Sp i b k = L := ⟨_, rfl⟩
    rw [hL] at hrec he
    rw [he] at hlen ⊢
    have hll : L.length ≤ 47 := by simp at hlen; omega
    have HREC := Lib.hid hrec
    clear hrec he hL hlt hge hlen
    go_enter Try.func51, Try.ntmps51
    go_wp2_with fail
    (with_reducible refine Calls.mono (CK.out) ?_)
    rintro e wx ⟨rfl, rfl⟩
    go_wp2_with fail
    (with_reducible refine Calls.mono HREC.out ?_)
    rintro e w1 ⟨v, rfl, b1, o1⟩
    have HSi := (Sep.start w).made b1 o1
    obtain ⟨A, c, rfl, _⟩ := (HSi.own 0 rfl).sl
    clear o1 b1
    go_wp2_with (first | refine wl_bs HSi rfl 56 46 1 2 _ rfl (scs [(b + k, b + n)]) _ Try.underlying56 span_info (by decide) (by decide) (by kernel_rfl) rfl ?_)
    intro g8 w8 HS8
    go_wp2_with (first | refine wl_apn HS8 1 rfl _ _ 56 _ 16 rfl rfl Try.underlying56 span_info3 rfl (by decide) (by decide) (HS8.own 0 rfl).rd (scs_one _) rfl rfl (L.length + 1) (scs (L ++ [(b + k, b + n)])) rfl (by rw [scs_append]) (by omega) ?_)
    intro v9 w9 HS9 _
    obtain ⟨A9, c9, rfl, _⟩ := (HS9.own 1 rfl).sl
    have HSk := HS9.tail
    clear HS8 HS9
    go_wp2
    go_ret
    exact ⟨_, rfl, HSk.hb, by rw [List.length_append]; simpa using HSk.own 0 rfl⟩
  · have haki : ¬ (i : Int) < (b : Int) + (k : Int) := by omega
    have hrec := IH.out (n - k) (by omega) (b + k) i w (by omega) (by omega) (by omega) (by omega)
    have he := hge hak
    obtain ⟨L, hL⟩ : ∃ L, Sp i (b + k) (n - k) = L := ⟨_, rfl⟩
    rw [hL] at hrec he
    rw [he] at hlen ⊢
    rw [Int.natCast_add, Int.natCast_sub (Nat.le_of_lt k2)] at hrec
    have hll : L.length ≤ 47 := by simp at hlen; omega
    have HREC := Lib.hid hrec
    clear hrec he hL hlt hge hlen
    have hkn : (k : Int) ≤ (n : Int) := by omega
    go_enter Try.func51, Try.ntmps51
    go_wp2_with fail
    (with_reducible refine Calls.mono (CK.out) ?_)
    rintro e wx ⟨rfl, rfl⟩
    go_wp2_with fail
    (with_reducible refine Calls.mono HREC.out ?_)
    rintro e w1 ⟨v, rfl, b1, o1⟩
    have HSi := (Sep.start w).made b1 o1
    obtain ⟨A, c, rfl, _⟩ := (HSi.own 0 rfl).sl
    clear o1 b1
    go_wp2_with (first | refine wl_bs HSi rfl 56 46 1 2 _ rfl (scs [(b, b + k)]) _ Try.underlying56 span_info (by decide) (by decide) (by kernel_rfl) rfl ?_)
    intro g8 w8 HS8
    go_wp2_with (first | refine wl_apn HS8 1 rfl _ _ 56 _ 16 rfl rfl Try.underlying56 span_info3 rfl (by decide) (by decide) (HS8.own 0 rfl).rd (scs_one _) rfl rfl (L.length + 1) (scs (L ++ [(b, b + k)])) rfl (by rw [scs_append]) (by omega) ?_)
    intro v9 w9 HS9 _
    obtain ⟨A9, c9, rfl, _⟩ := (HS9.own 1 rfl).sl
    have HSk := HS9.tail
    clear HS8 HS9
    go_wp2
    go_ret
    exact ⟨_, rfl, HSk.hb, by rw [List.length_append]; simpa using HSk.own 0 rfl⟩
set_option maxRecDepth 100000 in
set_option maxHeartbeats 4000000 in
theorem rsteps_gen (Sp : Nat → Nat → Nat → Bool → List (Nat × Nat)) (h1 : ∀ i b n w, n < 2 ∨ i = n → Sp i b n w = if w then [] else [(b, b + n)]) (hlt : ∀ i b n w, 2 ≤ n → i ≠ n → i ≤ hf n → Sp i b n w = Sp i b (hf n) w ++ [(b + hf n, b + n)]) (hge : ∀ i b n w, 2 ≤ n → i ≠ n → ¬ i ≤ hf n → Sp i b n w = Sp (i - hf n) (b + hf n) (n - hf n) false ++ [(b, b + hf n)]) (hlen : ∀ i b n w, n ≤ 281474976710656 → (Sp i b n w).length ≤ 49) :
    ∀ (n b i : Nat) (t : Bool) (w : World), 1 ≤ i → i ≤ n → b + n ≤ 281474976710656 →
    Calls Try.prog 52 #[.int .i64 i, .int .i64 b, .int .i64 n, .bool t] w fun e w' => ∃ v, e = .returned v ∧ Below w.heap.size w w' ∧ Ow w' w.heap.size 46 2 v (Sp i b n t).length (scs (Sp i b n t)) := by
  have H1 := Lib.hid h1
  have HLT := Lib.hid hlt
  have HGE := Lib.hid hge
  have HLEN := Lib.hid hlen
  clear h1 hlt hge hlen
  intro n
  induction n using Nat.strongRecOn with
  | ind n ih =>
  intro b i t w hbi hib hbn
  have IH := Lib.hid ih
  clear ih
  have hnb : (n : Int) ≤ 281474976710656 := by omega
  have hbb : (b : Int) ≤ 281474976710656 := by omega
  have hbnb : (b : Int) + (n : Int) ≤ 281474976710656 := by omega
  by_cases hone : i = n
  · subst hone
    rw [H1.out _ _ _ _ (.inr rfl)]
    have HSi := Sep.start w
    cases t with
    | true =>
      go_enter Try.func52, Try.ntmps52
      go_wp2
      go_ret
      exact ⟨_, rfl, Below.refl _ _, Ow.nil _ _ _ _ _⟩
    | false =>
      go_enter Try.func52, Try.ntmps52
      go_wp2_with (first | refine wl_bs HSi rfl 56 46 1 2 _ rfl (scs [(b, b + i)]) _ Try.underlying56 span_info (by decide) (by decide) (by kernel_rfl) rfl ?_)
      intro g8 w8 HS8
      go_wp2
      go_ret
      exact ⟨_, rfl, HS8.hb, HS8.own 0 rfl⟩
  have h2 : 2 ≤ n := by omega
  have hk := half_b n w h2 (by omega)
  have k1 := hf_pos n
  have k2 := hf_lt h2
  have hlt := HLT.out i b n t h2 hone
  have hge := HGE.out i b n t h2 hone
  have hlen := HLEN.out i b n t (by omega)
  obtain ⟨k, hkk⟩ : ∃ k, hf n = k := ⟨_, rfl⟩
  rw [hkk] at hk k1 k2 hlt hge
  have CK := Lib.hid hk
  have hkb : (k : Int) ≤ 281474976710656 := by omega
  have hbk : (b : Int) + (k : Int) ≤ 281474976710656 := by omega
  have hn1 : ((i : Int) == (n : Int)) = false := by simp; omega
  clear hk hkk hone
  by_cases hak : i ≤ k
  · have haki : (i : Int) ≤ (k : Int) := by omega
    have hrec := IH.out k k2 b i t w hbi hak (by omega)
    have he := hlt hak
    obtain ⟨L, hL⟩ : ∃ L, Sp i b k t = L := ⟨_, rfl⟩
    rw [hL] at hrec he
    rw [he] at hlen ⊢
    have hll : L.length ≤ 48 := by simp at hlen; omega
    have HREC := Lib.hid hrec
    clear hrec he hL hlt hge hlen
    go_enter Try.func52, Try.ntmps52
    go_wp2_with fail
    (with_reducible refine Calls.mono (CK.out) ?_)
    rintro e wx ⟨rfl, rfl⟩
    go_wp2_with fail
    (with_reducible refine Calls.mono HREC.out ?_)
    rintro e w1 ⟨v, rfl, b1, o1⟩
    have HSi := (Sep.start w).made b1 o1
    obtain ⟨A, c, rfl, _⟩ := (HSi.own 0 rfl).sl
    clear o1 b1
    go_wp2_with (first | refine wl_bs HSi rfl 56 46 1 2 _ rfl (scs [(b + k, b + n)]) _ Try.underlying56 span_info (by decide) (by decide) (by kernel_rfl) rfl ?_)
    intro g8 w8 HS8
    go_wp2_with (first | refine wl_apn HS8 1 rfl _ _ 56 _ 16 rfl rfl Try.underlying56 span_info3 rfl (by decide) (by decide) (HS8.own 0 rfl).rd (scs_one _) rfl rfl (L.length + 1) (scs (L ++ [(b + k, b + n)])) rfl (by rw [scs_append]) (by omega) ?_)
    intro v9 w9 HS9 _
    obtain ⟨A9, c9, rfl, _⟩ := (HS9.own 1 rfl).sl
    have HSk := HS9.tail
    clear HS8 HS9
    go_wp2
    go_ret
    exact ⟨_, rfl, HSk.hb, by rw [List.length_append]; simpa using HSk.own 0 rfl⟩
  · have haki : ¬ (i : Int) ≤ (k : Int) := by omega
    have hrec := IH.out (n - k) (by omega) (b + k) (i - k) false w (by omega) (by omega) (by omega)
    have he := hge hak
    obtain ⟨L, hL⟩ : ∃ L, Sp (i - k) (b + k) (n - k) false = L := ⟨_, rfl⟩
    rw [hL] at hrec he
    rw [he] at hlen ⊢
    rw [Int.natCast_add, Int.natCast_sub (Nat.le_of_lt k2), Int.natCast_sub (by omega)] at hrec
    have hll : L.length ≤ 48 := by simp at hlen; omega
    have HREC := Lib.hid hrec
    clear hrec he hL hlt hge hlen
    have hkn : (k : Int) ≤ (n : Int) := by omega
    have hin : (i : Int) ≤ (n : Int) := by omega
    go_enter Try.func52, Try.ntmps52
    go_wp2_with fail
    (with_reducible refine Calls.mono (CK.out) ?_)
    rintro e wx ⟨rfl, rfl⟩
    go_wp2_with fail
    (with_reducible refine Calls.mono HREC.out ?_)
    rintro e w1 ⟨v, rfl, b1, o1⟩
    have HSi := (Sep.start w).made b1 o1
    obtain ⟨A, c, rfl, _⟩ := (HSi.own 0 rfl).sl
    clear o1 b1
    go_wp2_with (first | refine wl_bs HSi rfl 56 46 1 2 _ rfl (scs [(b, b + k)]) _ Try.underlying56 span_info (by decide) (by decide) (by kernel_rfl) rfl ?_)
    intro g8 w8 HS8
    go_wp2_with (first | refine wl_apn HS8 1 rfl _ _ 56 _ 16 rfl rfl Try.underlying56 span_info3 rfl (by decide) (by decide) (HS8.own 0 rfl).rd (scs_one _) rfl rfl (L.length + 1) (scs (L ++ [(b, b + k)])) rfl (by rw [scs_append]) (by omega) ?_)
    intro v9 w9 HS9 _
    obtain ⟨A9, c9, rfl, _⟩ := (HS9.own 1 rfl).sl
    have HSk := HS9.tail
    clear HS8 HS9
    go_wp2
    go_ret
    exact ⟨_, rfl, HSk.hb, by rw [List.length_append]; simpa using HSk.own 0 rfl⟩
end Go.Proofs.Ytcjnheabkdalbaa
