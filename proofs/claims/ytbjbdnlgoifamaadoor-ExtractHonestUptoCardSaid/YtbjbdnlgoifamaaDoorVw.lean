/- The ways of proofs, by both. -/
import Derived.Test.YtbjbdnlgoifamaaDoorHl
namespace Go.Proofs.YtbjbdnlgoifamaaDoor
open Go.RowKit Cop
set_option linter.unusedVariables false
theorem half63n (n : Nat) (w : World) (h2 : 2 ≤ n) (hn : n ≤ 9223372036854775807) :
    Calls Tryd.prog 94 #[.int .i64 n] w fun e w' => e = .returned (.int .i64 ((hf n : Nat) : Int)) ∧ w = w' := by
  have := half_v (n : Int) w (by omega) (by omega)
  rwa [Int.toNat_natCast] at this
set_option maxRecDepth 100000 in
set_option maxHeartbeats 4000000 in
theorem way54 (i n : Nat) (w : World) (hi : i < n) (hn : n ≤ 281474976710656) :
    Calls Tryd.prog 83 #[.int .i64 i, .int .i64 n] w fun e w' => ∃ v, e = .returned v ∧ Below w.heap.size w w' ∧ w'.ownsRow w.heap.size 134 1 v (way i n).length ((way i n).map Value.bool) := by
  have hlen := way_len 48 n i (by omega)
  have Hn := Lib.hid hn
  go_enter Tryd.func83, Tryd.ntmps83
  go_wp2
  go_step3
  go_wp2
  go_step3
  go_wp2
  go_loopw [0, 1, 5] (fun s0 s1 s5 wr => ∃ (a m : Nat) (dn : List Bool), s0 = .int .i64 a ∧ s1 = .int .i64 m ∧ a < m ∧ m ≤ n ∧ Hid (dn ++ way a m = way i n) ∧ Below w.heap.size w wr ∧ wr.ownsRow w.heap.size 134 1 s5 (dn.map Value.bool).length (dn.map Value.bool)) (fun _ s1 _ _ => (intOf s1).toNat)
  case atStart => exact ⟨i, n, [], rfl, rfl, hi, Nat.le_refl _, Lib.hid rfl, Below.refl _ _, World.ownsRow_nil _ _ _ _⟩
  case round =>
    obtain ⟨a, m, dn, rfl, rfl, ham, hmn, Hway, hb, hown⟩ := hrel
    have hlen2 : dn.length ≤ 48 := by have := congrArg List.length Hway.out; simp only [List.length_append] at this; omega
    by_cases h1 : m = 1
    · subst h1
      have he : dn = way i n := by have := Hway.out; rwa [way_one (by omega), List.append_nil] at this
      have He := Lib.hid he
      clear he
      go_wp2
      rw [Exit.noGoto_ret]
      go_ret
      rw [← He.out]
      refine ⟨_, rfl, hb, ?_⟩
      simpa using hown
    · have h2 : 2 ≤ m := by omega
      have hne : ((m : Int) == 1) = false := by simp; omega
      have hk := half63n m wr h2 (by omega)
      have k1 := hf_pos m
      have k2 := hf_lt h2
      have hlt := way_lt (i := a) h2
      have hge := way_ge (i := a) h2
      generalize hf m = k at *
      have Hlt := Lib.hid hlt
      have Hge := Lib.hid hge
      clear hlt hge h1
      by_cases hak : a < k
      · go_wp2_with (first | (go_at_call 94; refine hk.mono ?_; clear hk; rintro e w' ⟨rfl, rfl⟩) | (at_builtin; refine wl_append1 w.heap.size rfl _ _ 130 134 (.bool false) 1 rfl Tryd.underlying130 (by kernel_rfl) rfl (by decide) _ _ (dn.map Value.bool) (.bool true) hown hb hb.size rfl rfl rfl ?_ ?_))
        · simp; omega
        · intro v1 w1 ho1 hb1 _
          go_wp2
          go_roundw
          case rel => exact ⟨a, k, dn ++ [true], rfl, rfl, hak, by omega, Lib.hid (by rw [← Hway.out, Hlt.out hak]; simp), hb1, by simpa using ho1⟩
          case measure => simp [intOf]; omega
      · go_wp2_with (first | (go_at_call 94; refine hk.mono ?_; clear hk; rintro e w' ⟨rfl, rfl⟩) | (at_builtin; refine wl_append1 w.heap.size rfl _ _ 130 134 (.bool false) 1 rfl Tryd.underlying130 (by kernel_rfl) rfl (by decide) _ _ (dn.map Value.bool) (.bool false) hown hb hb.size rfl rfl rfl ?_ ?_))
        · simp; omega
        · intro v1 w1 ho1 hb1 _
          go_wp2
          go_roundw
          case rel => exact ⟨a - k, m - k, dn ++ [false], by go_num, by go_num, by omega, by omega, Lib.hid (by rw [← Hway.out, Hge.out hak]; simp), hb1, by simpa using ho1⟩
          case measure => simp [intOf]; omega

set_option maxRecDepth 100000 in
set_option maxHeartbeats 4000000 in
theorem steps57 (m n : Nat) (w : World) (h1 : 1 ≤ m) (hi : m ≤ n) (hn : n ≤ 281474976710656) :
    Calls Tryd.prog 80 #[.int .i64 m, .int .i64 n] w fun e w' => ∃ v, e = .returned (.tuple #[v, .bool (steps m n).2]) ∧ Below w.heap.size w w' ∧ w'.ownsRow w.heap.size 134 1 v (steps m n).1.length ((steps m n).1.map Value.bool) := by
  have hlen := steps_len 48 n m (by omega)
  go_enter Tryd.func80, Tryd.ntmps80
  go_wp2
  go_step3
  go_wp2
  go_step3
  go_wp2
  go_loopw [0, 1, 4, 5] (fun s0 s1 s4 s5 wr => ∃ (a b : Nat) (dn : List Bool) (wh : Bool), s0 = .int .i64 a ∧ s1 = .int .i64 b ∧ s5 = .bool wh ∧ 1 ≤ a ∧ a ≤ b ∧ b ≤ n ∧ Hid (dn ++ (steps a b).1 = (steps m n).1) ∧ Hid ((wh && (steps a b).2) = (steps m n).2) ∧ Below w.heap.size w wr ∧ wr.ownsRow w.heap.size 134 1 s4 (dn.map Value.bool).length (dn.map Value.bool)) (fun _ s1 _ _ _ => (intOf s1).toNat)
  case atStart => exact ⟨m, n, [], true, rfl, rfl, rfl, h1, hi, Nat.le_refl _, Lib.hid rfl, Lib.hid (by simp), Below.refl _ _, World.ownsRow_nil _ _ _ _⟩
  case round =>
    obtain ⟨a, b, dn, wh, rfl, rfl, rfl, ha1, hab, hbn, Hway, Hwh, hb, hown⟩ := hrel
    have hlen2 : dn.length ≤ 48 := by have := congrArg List.length Hway.out; simp only [List.length_append] at this; omega
    by_cases he : a = b
    · subst he
      have hst : steps a a = ([], true) := steps_end (.inr rfl)
      have he := Hway.out
      have he2 := Hwh.out
      rw [hst] at he he2
      simp only [List.append_nil, Bool.and_true] at he he2
      have He := Lib.hid he
      have He2 := Lib.hid he2
      clear he he2 hst
      go_wp2
      rw [Exit.noGoto_ret]
      go_ret2
      rw [← He.out, ← He2.out]
      refine ⟨_, rfl, hb, ?_⟩
      simpa using hown
    · have h2 : 2 ≤ b := by omega
      have hne : ((a : Int) == (b : Int)) = false := by simp; omega
      have hk := half63n b wr h2 (by omega)
      have k1 := hf_pos b
      have k2 := hf_lt h2
      have hlt := steps_le (m := a) h2 he
      have hge := steps_gt (m := a) h2 he
      generalize hf b = k at *
      have Hlt := Lib.hid hlt
      have Hge := Lib.hid hge
      clear hlt hge
      by_cases hak : a ≤ k
      · go_wp2_with (first | (go_at_call 94; refine hk.mono ?_; clear hk; rintro e w' ⟨rfl, rfl⟩) | (at_builtin; refine wl_append1 w.heap.size rfl _ _ 130 134 (.bool false) 1 rfl Tryd.underlying130 (by kernel_rfl) rfl (by decide) _ _ (dn.map Value.bool) (.bool true) hown hb hb.size rfl rfl rfl ?_ ?_))
        · simp; omega
        · intro v1 w1 ho1 hb1 _
          go_wp2
          go_roundw
          case rel => exact ⟨a, k, dn ++ [true], wh, rfl, rfl, rfl, ha1, hak, by omega, Lib.hid (by rw [← Hway.out, Hlt.out hak]; simp), Lib.hid (by rw [← Hwh.out, Hlt.out hak]), hb1, by simpa using ho1⟩
          case measure => simp [intOf]; omega
      · go_wp2_with (first | (go_at_call 94; refine hk.mono ?_; clear hk; rintro e w' ⟨rfl, rfl⟩) | (at_builtin; refine wl_append1 w.heap.size rfl _ _ 130 134 (.bool false) 1 rfl Tryd.underlying130 (by kernel_rfl) rfl (by decide) _ _ (dn.map Value.bool) (.bool false) hown hb hb.size rfl rfl rfl ?_ ?_))
        · simp; omega
        · intro v1 w1 ho1 hb1 _
          go_wp2
          go_roundw
          case rel => exact ⟨a - k, b - k, dn ++ [false], false, by go_num, by go_num, rfl, by omega, by omega, by omega, Lib.hid (by rw [← Hway.out, Hge.out hak]; simp), Lib.hid (by rw [← Hwh.out, Hge.out hak]; simp), hb1, by simpa using ho1⟩
          case measure => simp [intOf]; omega

/-! The document's -/
theorem half64n (n : Nat) (w : World) (h2 : 2 ≤ n) (hn : n ≤ 281474976710656) :
    Calls Tryd.prog 98 #[.int .i64 n] w fun e w' => e = .returned (.int .i64 ((hf n : Nat) : Int)) ∧ w = w' := half_w n w h2 (by omega)
theorem deep58 (j : Nat) : ∀ (n i : Nat) (w : World), n ≤ j → 1 ≤ n → i < n → n ≤ 281474976710656 →
    Calls Tryd.prog 100 #[.int .i64 i, .int .i64 n] w fun e w' => e = .returned (.int .i64 ((way i n).length : Nat)) ∧ w = w' := by
  induction j with
  | zero => intro n i w h0 h1; omega
  | succ j ih =>
    intro n i w hnj h1 hi hn
    by_cases he : n = 1
    · subst he
      have hw : way i 1 = [] := way_one (by omega)
      rw [hw]
      go_enter Tryd.func100, Tryd.ntmps100
      go_wp2_with fail
      go_ret
      exact ⟨rfl, rfl⟩
    · have h2 : 2 ≤ n := by omega
      have hne : ((n : Int) == 1) = false := by simp; omega
      have hk := half64n n w h2 hn
      have k1 := hf_pos n
      have k2 := hf_lt h2
      have hlt := way_lt (i := i) h2
      have hge := way_ge (i := i) h2
      have hlen := way_len 48 n i (by omega)
      generalize hf n = k at *
      by_cases hik : i < k
      · rw [hlt hik] at hlen ⊢
        simp only [List.length_cons] at hlen ⊢
        have ihk := ih k i w (by omega) k1 hik (by omega)
        generalize (way i k).length = L at *
        clear hlt hge he
        go_enter Tryd.func100, Tryd.ntmps100
        go_wp2_with (first | (go_at_call 98; refine hk.mono ?_; clear hk; rintro e w' ⟨rfl, rfl⟩) | (go_at_call 100; refine ihk.mono ?_; clear ihk; rintro e w' ⟨rfl, rfl⟩))
        go_ret
        exact ⟨ret_int (by simp; omega), rfl⟩
      · rw [hge hik] at hlen ⊢
        simp only [List.length_cons] at hlen ⊢
        have ihk := ih (n - k) (i - k) w (by omega) (by omega) (by omega) (by omega)
        generalize (way (i - k) (n - k)).length = L at *
        rw [show (((i - k : Nat) : Int)) = (i : Int) - k from by omega, show (((n - k : Nat) : Int)) = (n : Int) - k from by omega] at ihk
        clear hlt hge he
        go_enter Tryd.func100, Tryd.ntmps100
        go_wp2_with (first | (go_at_call 98; refine hk.mono ?_; clear hk; rintro e w' ⟨rfl, rfl⟩) | (go_at_call 100; refine ihk.mono ?_; clear ihk; rintro e w' ⟨rfl, rfl⟩))
        go_ret
        exact ⟨ret_int (by simp; omega), rfl⟩
theorem below59 (j : Nat) : ∀ (n m : Nat) (f : Bool) (w : World), n ≤ j → 1 ≤ m → m ≤ n → n ≤ 281474976710656 →
    Calls Tryd.prog 97 #[.int .i64 m, .int .i64 n, .bool f] w fun e w' => e = .returned (.int .i64 (cnt (steps m n).1 (f && (steps m n).2) : Nat)) ∧ w = w' := by
  induction j with
  | zero => intro n i f w h0 h1; omega
  | succ j ih =>
    intro n m f w hnj h1 hi hn
    by_cases he : m = n
    · subst he
      have hst : steps m m = ([], true) := steps_end (.inr rfl)
      rw [hst]
      cases f
      · go_enter Tryd.func97, Tryd.ntmps97
        go_wp2_with fail
        go_ret
        exact ⟨rfl, rfl⟩
      · go_enter Tryd.func97, Tryd.ntmps97
        go_wp2_with fail
        go_ret
        exact ⟨rfl, rfl⟩
    · have h2 : 2 ≤ n := by omega
      have hne : ((m : Int) == (n : Int)) = false := by simp; omega
      have hk := half64n n w h2 hn
      have k1 := hf_pos n
      have k2 := hf_lt h2
      have hlt := steps_le (m := m) h2 he
      have hge := steps_gt (m := m) h2 he
      have hlen := steps_len 48 n m (by omega)
      generalize hf n = k at *
      by_cases hik : m ≤ k
      · rw [hlt hik] at hlen ⊢
        have hc : cnt (true :: (steps m k).1) (f && (steps m k).2) = 1 + cnt (steps m k).1 (f && (steps m k).2) := by unfold cnt; split <;> simp <;> omega
        have hb : cnt (steps m k).1 (f && (steps m k).2) ≤ 49 := by unfold cnt; simp only [List.length_cons] at hlen; split <;> omega
        simp only [hc]
        have ihk := ih k m f w (by omega) h1 hik (by omega)
        generalize cnt (steps m k).1 (f && (steps m k).2) = L at *
        clear hlt hge he hc hlen
        go_enter Tryd.func97, Tryd.ntmps97
        go_wp2_with (first | (go_at_call 98; refine hk.mono ?_; clear hk; rintro e w' ⟨rfl, rfl⟩) | (go_at_call 97; refine ihk.mono ?_; clear ihk; rintro e w' ⟨rfl, rfl⟩))
        go_ret
        exact ⟨ret_int (by simp), rfl⟩
      · rw [hge hik] at hlen ⊢
        have hc : cnt (false :: (steps (m - k) (n - k)).1) (f && false) = 1 + cnt (steps (m - k) (n - k)).1 (false && (steps (m - k) (n - k)).2) := by simp [cnt]; omega
        have hb : cnt (steps (m - k) (n - k)).1 (false && (steps (m - k) (n - k)).2) ≤ 49 := by unfold cnt; simp only [List.length_cons] at hlen; split <;> omega
        simp only [hc]
        have ihk := ih (n - k) (m - k) false w (by omega) (by omega) (by omega) (by omega)
        generalize cnt (steps (m - k) (n - k)).1 (false && (steps (m - k) (n - k)).2) = L at *
        rw [show (((m - k : Nat) : Int)) = (m : Int) - k from by omega, show (((n - k : Nat) : Int)) = (n : Int) - k from by omega] at ihk
        clear hlt hge he hc hlen
        go_enter Tryd.func97, Tryd.ntmps97
        go_wp2_with (first | (go_at_call 98; refine hk.mono ?_; clear hk; rintro e w' ⟨rfl, rfl⟩) | (go_at_call 97; refine ihk.mono ?_; clear ihk; rintro e w' ⟨rfl, rfl⟩))
        go_ret
        exact ⟨ret_int (by simp), rfl⟩
def okI (i n : Int) : Prop := 1 ≤ n ∧ n ≤ 281474976710656 ∧ 0 ≤ i ∧ i < n
def okS (m n : Int) : Prop := 1 ≤ m ∧ m ≤ n ∧ n ≤ 281474976710656
theorem length_ok (i n : Nat) (w : World) (hi : i < n) (hn : n ≤ 281474976710656) :
    Calls Tryd.prog 77 #[.int .i64 i, .int .i64 n] w fun e w' => e = .returned (.tuple #[.int .i64 ((way i n).length : Nat), .int .i64 0]) ∧ Below w.heap.size w w' := by
  have h1 : 1 ≤ n := by omega
  go_enter Tryd.func77, Tryd.ntmps77
  go_wp2_with (first | (go_at_call 83; refine (way54 i n _ hi hn).mono ?_; rintro e w' ⟨v, rfl, hb, hown⟩; obtain ⟨A, c, rfl⟩ := own_slice hown; clear hown) | go_in)
  go_ret2
  exact ⟨rfl, hb⟩
theorem length_bad (i n : Int) (w : World) (h : ¬ okI i n) :
    Calls Tryd.prog 77 #[.int .i64 i, .int .i64 n] w fun e w' => e = .returned (.tuple #[.int .i64 0, .int .i64 40]) ∧ w = w' := by
  unfold okI at h
  by_cases h1 : 1 ≤ n
  · by_cases h2 : n ≤ 281474976710656
    · by_cases h3 : 0 ≤ i
      · have h4 : ¬ i < n := by omega
        clear h
        go_enter Tryd.func77, Tryd.ntmps77
        go_wp2
        go_ret2
        exact ⟨rfl, rfl⟩
      · clear h
        go_enter Tryd.func77, Tryd.ntmps77
        go_wp2
        go_ret2
        exact ⟨rfl, rfl⟩
    · clear h
      go_enter Tryd.func77, Tryd.ntmps77
      go_wp2
      go_ret2
      exact ⟨rfl, rfl⟩
  · clear h
    go_enter Tryd.func77, Tryd.ntmps77
    go_wp2
    go_ret2
    exact ⟨rfl, rfl⟩
theorem count56t (A : Option Addr) (L c : Nat) (w : World) (hL : L ≤ 48) :
    Calls Tryd.prog 81 #[.slice A L c, .bool true] w fun e w' => e = .returned (.int .i64 L) ∧ w = w' := by
  go_enter Tryd.func81, Tryd.ntmps81
  go_wp2
  go_ret
  exact ⟨rfl, rfl⟩
theorem count56f (A : Option Addr) (L c : Nat) (w : World) (hL : L ≤ 48) :
    Calls Tryd.prog 81 #[.slice A L c, .bool false] w fun e w' => e = .returned (.int .i64 (L + 1 : Nat)) ∧ w = w' := by
  go_enter Tryd.func81, Tryd.ntmps81
  go_wp2
  go_ret
  exact ⟨ret_int (by simp), rfl⟩
theorem stepsV_ok (m n : Nat) (w : World) (h1 : 1 ≤ m) (hi : m ≤ n) (hn : n ≤ 281474976710656) :
    Calls Tryd.prog 78 #[.int .i64 m, .int .i64 n] w fun e w' => e = .returned (.tuple #[.int .i64 (cnt (steps m n).1 (steps m n).2 : Nat), .int .i64 0]) ∧ Below w.heap.size w w' := by
  have hs := steps57 m n w h1 hi hn
  have hd : decide ((n : Int) ≤ 281474976710656) = true := by simp; omega
  have hlen := steps_len 48 n m (by omega)
  unfold cnt
  generalize (steps m n).1 = l at *
  generalize (steps m n).2 = b at *
  cases b
  · go_enter Tryd.func78, Tryd.ntmps78
    go_wp2_with (first | (go_at_call 80; refine hs.mono ?_; clear hs; rintro e w' ⟨v, rfl, hb, hown⟩; obtain ⟨A, c, rfl⟩ := own_slice hown; clear hown) | (go_at_call 81; refine (count56f _ _ _ _ hlen).mono ?_; rintro e w' ⟨rfl, rfl⟩) | (go_at_call 79; go_in))
    go_ret2
    exact ⟨rfl, hb⟩
  · go_enter Tryd.func78, Tryd.ntmps78
    go_wp2_with (first | (go_at_call 80; refine hs.mono ?_; clear hs; rintro e w' ⟨v, rfl, hb, hown⟩; obtain ⟨A, c, rfl⟩ := own_slice hown; clear hown) | (go_at_call 81; refine (count56t _ _ _ _ hlen).mono ?_; rintro e w' ⟨rfl, rfl⟩) | (go_at_call 79; go_in))
    go_ret2
    exact ⟨rfl, hb⟩
theorem stepsV_bad (m n : Int) (w : World) (h : ¬ okS m n) :
    Calls Tryd.prog 78 #[.int .i64 m, .int .i64 n] w fun e w' => e = .returned (.tuple #[.int .i64 0, .int .i64 40]) ∧ w = w' := by
  unfold okS at h
  by_cases h1 : 1 ≤ m
  · by_cases h2 : m ≤ n
    · have h3 : ¬ n ≤ 281474976710656 := by omega
      clear h
      go_enter Tryd.func78, Tryd.ntmps78
      go_wp2
      go_ret2
      exact ⟨rfl, rfl⟩
    · clear h
      go_enter Tryd.func78, Tryd.ntmps78
      go_wp2
      go_ret2
      exact ⟨rfl, rfl⟩
  · clear h
    go_enter Tryd.func78, Tryd.ntmps78
    go_wp2
    go_ret2
    exact ⟨rfl, rfl⟩
theorem rlength_ok (i n : Nat) (w : World) (hi : i < n) (hn : n ≤ 281474976710656) :
    Calls Tryd.prog 88 #[.int .i64 i, .int .i64 n] w fun e w' => e = .returned (.tuple #[.int .i64 ((way i n).length : Nat), .int .i64 0]) ∧ w = w' := by
  have h1 : 1 ≤ n := by omega
  go_enter Tryd.func88, Tryd.ntmps88
  go_wp2_with (go_at_call 100; refine (deep58 n n i _ (Nat.le_refl _) h1 hi hn).mono ?_; rintro e w' ⟨rfl, rfl⟩)
  go_ret2
  exact ⟨rfl, rfl⟩
theorem rlength_bad (i n : Int) (w : World) (h : ¬ okI i n) :
    Calls Tryd.prog 88 #[.int .i64 i, .int .i64 n] w fun e w' => e = .returned (.tuple #[.int .i64 0, .int .i64 40]) ∧ w = w' := by
  unfold okI at h
  by_cases h1 : 1 ≤ n
  · by_cases h2 : n ≤ 281474976710656
    · by_cases h3 : 0 ≤ i
      · have h4 : ¬ i < n := by omega
        clear h
        go_enter Tryd.func88, Tryd.ntmps88
        go_wp2
        go_ret2
        exact ⟨rfl, rfl⟩
      · clear h
        go_enter Tryd.func88, Tryd.ntmps88
        go_wp2
        go_ret2
        exact ⟨rfl, rfl⟩
    · clear h
      go_enter Tryd.func88, Tryd.ntmps88
      go_wp2
      go_ret2
      exact ⟨rfl, rfl⟩
  · clear h
    go_enter Tryd.func88, Tryd.ntmps88
    go_wp2
    go_ret2
    exact ⟨rfl, rfl⟩
theorem rsteps_ok (m n : Nat) (w : World) (h1 : 1 ≤ m) (hi : m ≤ n) (hn : n ≤ 281474976710656) :
    Calls Tryd.prog 86 #[.int .i64 m, .int .i64 n] w fun e w' => e = .returned (.tuple #[.int .i64 (cnt (steps m n).1 (steps m n).2 : Nat), .int .i64 0]) ∧ w = w' := by
  have hs := below59 n n m true w (Nat.le_refl _) h1 hi hn
  simp only [Bool.true_and] at hs
  go_enter Tryd.func86, Tryd.ntmps86
  go_wp2_with (go_at_call 97; refine hs.mono ?_; clear hs; rintro e w' ⟨rfl, rfl⟩)
  go_ret2
  exact ⟨rfl, rfl⟩
theorem rsteps_bad (m n : Int) (w : World) (h : ¬ okS m n) :
    Calls Tryd.prog 86 #[.int .i64 m, .int .i64 n] w fun e w' => e = .returned (.tuple #[.int .i64 0, .int .i64 40]) ∧ w = w' := by
  unfold okS at h
  by_cases h1 : 1 ≤ m
  · by_cases h2 : m ≤ n
    · have h3 : ¬ n ≤ 281474976710656 := by omega
      clear h
      go_enter Tryd.func86, Tryd.ntmps86
      go_wp2
      go_ret2
      exact ⟨rfl, rfl⟩
    · by_cases h3 : n ≤ 281474976710656
      · clear h
        go_enter Tryd.func86, Tryd.ntmps86
        go_wp2
        go_ret2
        exact ⟨rfl, rfl⟩
      · clear h
        go_enter Tryd.func86, Tryd.ntmps86
        go_wp2
        go_ret2
        exact ⟨rfl, rfl⟩
  · by_cases h3 : n ≤ 281474976710656
    · clear h
      go_enter Tryd.func86, Tryd.ntmps86
      go_wp2
      go_ret2
      exact ⟨rfl, rfl⟩
    · clear h
      go_enter Tryd.func86, Tryd.ntmps86
      go_wp2
      go_ret2
      exact ⟨rfl, rfl⟩

end Go.Proofs.YtbjbdnlgoifamaaDoor
