/- octet.Uint64 and octet.Digest, where there is room. slices.Backward over a compact range's parts: its contract. compact.Range's All: its iterator goes through a copy of the parts. compact.Range: New, Len, Span, Clone, Append, and what AppendNode refuses. Compact ranges that no call made; the empty range. compact.Range's Merge. compact.Range's Root. octet.put, PutUint64. A drawn region within a round of a range over a function. compact.Range's Bytes. compact.Load of a range's own bytes. -/
import Derived.Test.YtlhebogbbkjahaaDoorDg
import Derived.Test.YtlhebogbbkjahaaDoorHd
import Derived.Test.YtlhebogbbkjahaaDoorPd
import Derived.Test.YtlhebogbbkjahaaDoorBw
import Derived.Test.YtlhebogbbkjahaaDoorMCh0
import Derived.Test.YtlhebogbbkjahaaDoorRf
import Derived.Test.YtlhebogbbkjahaaDoorBx
import Derived.Test.YtlhebogbbkjahaaDoorOg
import Derived.OrdersIn
import Derived.Deep.DeepCutAuto
namespace Go.Proofs.YtlhebogbbkjahaaDoor
open Go.RowKit Cop
set_option linter.unusedVariables false
set_option linter.unusedSimpArgs false
theorem num_be' : ∀ (n v a : Nat), (be n v).foldl (fun v b => v * 256 + b.toNat) a = a * 256 ^ n + v % 256 ^ n
  | 0, v, a => by simp [be, Nat.mod_one]
  | n + 1, v, a => by
    have key : v % 256 ^ (n + 1) = v % 256 ^ n + 256 ^ n * (v / 256 ^ n % 256) := by rw [Nat.pow_succ, Nat.mod_mul]
    have hp : a * 256 ^ (n + 1) = a * 256 * 256 ^ n := by rw [Nat.pow_succ, Nat.mul_comm (256 ^ n) 256, Nat.mul_assoc]
    have hb : (UInt8.ofNat (v / 256 ^ n)).toNat = v / 256 ^ n % 256 := UInt8.toNat_ofNat'
    rw [be, List.foldl_cons, num_be' n v, hb, key, hp, Nat.add_mul, Nat.mul_comm (v / 256 ^ n % 256) (256 ^ n), Nat.add_assoc, Nat.add_comm (256 ^ n * (v / 256 ^ n % 256)) (v % 256 ^ n)]
theorem num_be (n v : Nat) (h : v < 256 ^ n) : num (be n v) = v := by
  rw [num, num_be', Nat.zero_mul, Nat.zero_add, Nat.mod_eq_of_lt h]
theorem room_ok (l : List UInt8) (A : Option Addr) (c : Nat) (i n : Nat) (w : World) (h : i + n ≤ l.length) (hl : l.length ≤ 9223372036854775807) :
    Calls Tryd.prog 72 #[.slice A l.length c, .int .i64 i, .int .i64 n] w fun e w' => e = .returned (.int .i64 0) ∧ w = w' := by
  have h1 : ¬ (i : Int) < 0 := by omega
  have h2 : ¬ (l.length : Int) < (i : Int) := by omega
  have h3 : ¬ (l.length : Int) - (i : Int) < (n : Int) := by omega
  go_enter Tryd.func72, Tryd.ntmps72
  go_wp2
  go_ret
  exact ⟨rfl, rfl⟩
set_option maxRecDepth 100000 in
set_option maxHeartbeats 4000000 in
theorem digestAt_a (l : List UInt8) (v : Value) (i : Nat) (w : World) (hR : Rd w v l.length 1 (bl l)) (hi : i + 32 ≤ l.length) (hl : l.length ≤ 9223372036854775000) :
    Calls Tryd.prog 51 #[v, .int .i64 i] w fun e w' => e = .returned (.tuple #[.agg (bv ((l.drop i).take 32)), .int .i64 ((i : Int) + 32), .int .i64 0]) ∧ Below w.heap.size w w' := by
  obtain ⟨b, o, c2, hR2, hc2, hc3, hsl⟩ := rd_sub hR Tryd.underlying65 info_u8' i 32 (by decide) hi
  obtain ⟨D, hD⟩ : ∃ y, (l.drop i).take 32 = y := ⟨_, rfl⟩
  have hDl : D.length = 32 := by rw [← hD, List.length_take, List.length_drop]; omega
  rw [hD] at hR2 ⊢
  have HDL := Lib.hid hDl
  have HSL := Lib.hid hsl
  obtain ⟨A, c, rfl, hc, hcm⟩ := hR.shape
  have CR := Lib.hid (fun w => room_ok l A c i 32 w hi (by omega))
  rw [show ((32 : Nat) : Int) = 32 from rfl] at CR HSL
  have HS0 := (Sep.start w).arg0 hR2
  have hi2 : (i : Int) + 32 ≤ (l.length : Int) := by omega
  clear hD hDl hsl hR hR2
  go_enter Tryd.func51, Tryd.ntmps51
  go_wp2_with (first | refine wl_al HS0 rfl 33 rfl (bv (List.replicate 32 0)) (by kernel_rfl) ?_)
  intro g1 w1 HS1
  clear HS0
  go_wp2_with fail
  (with_reducible refine Calls.mono (CR.out w1) ?_)
  rintro e w2 ⟨rfl, rfl⟩
  have e6 := run_arrayAt (P := Tryd.prog) w1 33 5 32 (some ⟨b, o, none⟩) 32 c2 Tryd.underlying33 (by decide)
  go_wp2_with (first | refine wl_sl2 rfl 65 _ _ _ rfl _ rfl _ _ rfl rfl _ (HSL.out _ _ _) ?_ | refine wl_ldx rfl 33 _ rfl _ rfl (.agg (bv D)) (load_rd (HS1.rd 1 rfl) rfl 32 (Nat.le_refl _) (by decide) (bv D) (dgT HDL.out) 33 Tryd.underlying33 rfl (dgS HDL.out)) ?_ | refine wl_st HS1 0 rfl rfl 33 _ _ rfl rfl rfl (dgS HDL.out) (dgE rfl HDL.out) (bv_one _) ?_)
  intro w3 HS3
  go_wp2_with fail
  exact ret_row_tmp2 rfl rfl g1 rfl 33 (bv D) (0, 0) _ (HS3.row 0 rfl) Tryd.underlying33 rfl (dgS HDL.out) (.int .i64 ((i : Int) + 32)) (.int .i64 0) rfl rfl ⟨rfl, HS3.hb⟩
theorem or_num (v b : Nat) (hv : v < 72057594037927936) (hb : b < 256) : bits .or .u64 ((v : Int) * 256) (b : Int) = ((v * 256 + b : Nat) : Int) := by
  have h := (bits_nat .u64 64 (by decide) (fun n h0 h1 => by rw [show (2 : Int) ^ 64 = 18446744073709551616 by decide] at h1; rw [IntKind.wrap_u64]; omega) (v * 256) b (by rw [show (2 : Nat) ^ 64 = 18446744073709551616 by decide]; omega) (by rw [show (2 : Nat) ^ 64 = 18446744073709551616 by decide]; omega)).2
  have e : v * 256 ||| b = v * 256 + b := by
    have := Nat.shiftLeft_add_eq_or_of_lt (b := b) (i := 8) (by omega) v
    rw [Nat.shiftLeft_eq] at this
    exact this.symm
  rw [e] at h
  rw [← h]
  simp
set_option maxRecDepth 100000 in
set_option maxHeartbeats 4000000 in
theorem get_ok (l : List UInt8) (v : Value) (i : Nat) (w : World) (hR : Rd w v l.length 1 (bl l)) (hi : i + 8 ≤ l.length) (hl : l.length ≤ 9223372036854775000) :
    Calls Tryd.prog 71 #[v, .int .i64 i, .int .i64 8] w fun e w' => e = .returned (.tuple #[.int .u64 (num ((l.drop i).take 8)), .int .i64 ((i : Int) + 8), .int .i64 0]) ∧ w' = w := by
  obtain ⟨b, o, c2, hR2, hc2, hc3, hsl⟩ := rd_sub hR Tryd.underlying65 info_u8' i 8 (by decide) hi
  obtain ⟨D, hD⟩ : ∃ y, (l.drop i).take 8 = y := ⟨_, rfl⟩
  have hDl : D.length = 8 := by rw [← hD, List.length_take, List.length_drop]; omega
  rw [hD] at hR2 ⊢
  have HDL := Lib.hid hDl
  have HSL := Lib.hid hsl
  obtain ⟨A, c, rfl, hc, hcm⟩ := hR.shape
  have CR := Lib.hid (fun w => room_ok l A c i 8 w hi (by omega))
  rw [show ((8 : Nat) : Int) = 8 from rfl] at CR HSL
  have hi2 : (i : Int) + 8 ≤ (l.length : Int) := by omega
  obtain ⟨N, hN⟩ : ∃ N : Nat → Nat, ∀ k, num (D.take k) = N k := ⟨_, fun _ => rfl⟩
  have HN0 := Lib.hid (show N 0 = 0 by rw [← hN]; rfl)
  have HN8 := Lib.hid (show N 8 = num D by rw [← hN, List.take_of_length_le (by omega)])
  have HNS := Lib.hid (fun k (hk : k < 8) => (show N (k + 1) = N k * 256 + (D.getD k 0).toNat by rw [← hN, ← hN]; exact num_take D k (by omega)))
  have HNL := Lib.hid (fun k (hk : k < 8) => (show N k < 72057594037927936 by rw [← hN]; exact num_small D k hk))
  have HRD := Lib.hid hR2
  rw [← HN8.out]
  clear hD hDl hsl hR hR2 hN
  go_enter Tryd.func71, Tryd.ntmps71
  go_wp2_with fail
  refine (CR.out w).mono ?_
  rintro e w2 ⟨rfl, rfl⟩
  go_wp2_with (first | refine wl_sl2 rfl 65 _ _ _ rfl _ rfl _ _ rfl rfl _ (HSL.out _ _ _) ?_)
  go_loopw [6, 26] (fun s6 s26 wr => ∃ k : Nat, k ≤ 8 ∧ s26 = .int .i64 (k : Int) ∧ s6 = .int .u64 (N k : Int) ∧ wr = w) (fun _ s26 _ => 8 - (intOf s26).toNat)
  case atStart => exact ⟨0, by omega, rfl, by rw [HN0.out]; rfl, rfl⟩
  case round =>
    obtain ⟨k, hk, rfl, rfl, rfl⟩ := hrel
    by_cases hlt : k < 8
    · have hki : (k : Int) < 8 := by omega
      obtain ⟨b9, o9, h9, hcell⟩ := rd_at HRD.out k hlt
      injection h9 with h9
      injection h9 with h9a h9b
      subst h9a h9b
      have hnl := HNL.out k hlt
      obtain ⟨n, hn⟩ : ∃ n, N k = n := ⟨_, rfl⟩
      obtain ⟨x, hx⟩ : ∃ x, (D.getD k 0).toNat = x := ⟨_, rfl⟩
      have hx256 : x < 256 := by rw [← hx]; exact UInt8.toNat_lt _
      rw [hn] at hnl
      rw [hx] at hcell
      have hor := or_num n x hnl hx256
      have HNX := Lib.hid (show N (k + 1) = n * 256 + x by rw [HNS.out k hlt, hn, hx])
      rw [hn]
      clear hn hx
      obtain ⟨m, hm⟩ : ∃ m, n * 256 + x = m := ⟨_, rfl⟩
      rw [hm] at hor HNX
      have hni : (n : Int) < 72057594037927936 := by omega
      clear hm
      go_wp2
      go_roundw
      case rel => exact ⟨k + 1, by omega, by go_num, by rw [HNX.out], trivial⟩
      case measure => simp [intOf]; omega
    · have hk8 : k = 8 := by omega
      subst hk8
      go_wp2
      go_ret3
      exact ⟨rfl, rfl⟩
end Go.Proofs.YtlhebogbbkjahaaDoor
namespace Go.Proofs.YtlhebogbbkjahaaDoor
open Go.RowKit Go.Shelf Cop
set_option linter.unusedVariables false
set_option linter.unusedSimpArgs false
attribute [local go_sem] Oper.semAt_some
/-- A part that is handed over: its index, itself. -/
abbrev RK := { x : Nat × Prt // x.2.2.2.length = 32 }
def rkE (x : RK) : Array Value := #[.int .i64 (x.1.1 : Int), .agg (prv x.1.2)]
theorem rkA_eq (T : Array Value) (x : RK) (p q : Tmp) : ((#[p, q] : Array Tmp).zip (rkE x)).foldl (fun t (p, v) => t.setIfInBounds p v) T = (T.setIfInBounds p (.int .i64 (x.1.1 : Int))).setIfInBounds q (.agg (prv x.1.2)) := by
  simp [rkE]
set_option maxRecDepth 100000 in
set_option maxHeartbeats 2000000 in
theorem backwardR1_in (n : Nat) (hn : 1 ≤ n) (l Bs n₀ g b c : Nat) (s : List Prt) (hs : All32 s) (hlen : s.length ≤ 1000) (hb : b < n₀) (hbg : b ≠ g) (hB : Bs < n₀) (hBg : Bs ≠ g) (J Jx : List RK → World → Prop)
    (hY : ∀ (pre : List RK) (x : RK) (W : World), J pre W → pre.length < s.length → YieldAt Fence.wide (n - 1) Tryd.prog l (rkE x) W fun e W' =>
      (e = .returned (.bool true) ∧ J (pre ++ [x]) W' ∧ KeepsBut n₀ g W W') ∨ (e = .returned (.bool false) ∧ Jx (pre ++ [x]) W'))
    (W : World) (hBs : W.cell? ⟨Bs, 0, none⟩ = some (.slice (some ⟨b, 0, none⟩) s.length c)) (hc : ∀ j v, (rcs s)[j]? = some v → W.cell? ⟨b, j, none⟩ = some v) (h0 : J [] W) :
    CallsIn Fence.wide n Tryd.prog 64 #[.func (.yield l) #[] #[], .pointer (some ⟨Bs, 0, none⟩)] W fun e W' => (∃ v, e = .returned v) ∧
      ((∃ ys : List RK, ys.map (fun x => x.1.2) = s ∧ J ys W') ∨ (∃ pre : List RK, True ∧ Jx pre W')) := by
  have HC := Lib.hid hc
  have HB := Lib.hid hBs
  have HS := Lib.hid hs
  have HY := Lib.hid hY
  clear hc hs hY
  refine callsIn_of_wp Tryd.func64 rfl trivial ?_ rfl
  simp only [Tryd.ntmps64, List.size_toArray, List.length_cons, List.length_nil, Nat.reduceAdd, Nat.reduceSub, Array.replicate_succ, Array.replicate_zero, List.push_toArray, List.append_toArray, List.nil_append, List.cons_append]
  gi_wp2
  clear hBs
  gi_loopw [3] (fun i wr => ∃ (pre : List RK) (rest : List Prt) (t : Int), s = pre.map (fun x => x.1.2) ++ rest ∧ t = (rest.length : Int) - 1 ∧ i = .int .i64 t ∧ J pre wr ∧ KeepsBut n₀ g W wr)
    (fun i _ => (intOf i + 1).toNat)
  case atStart => exact ⟨[], s, _, rfl, rfl, rfl, h0, KeepsBut.refl _ _ _⟩
  case round =>
    obtain ⟨pre, rest, t, hx, ht, rfl, hJs, hk⟩ := hrel
    have hcb := (hk.cell (o := 0) hB hBg).trans HB.out
    have HX := Lib.hid hx
    clear hx
    cases rest with
    | nil =>
      have ht1 : t = -1 := by simpa using ht
      subst ht1
      clear ht
      gi_wp2
      go_end0
      exact ⟨⟨_, rfl⟩, .inl ⟨pre, by have := HX.out; rw [List.append_nil] at this; exact this.symm, hJs⟩⟩
    | cons q rest =>
      have ht1 : t = (rest.length : Int) := by simp only [List.length_cons] at ht; omega
      subst ht1
      have hql : q.2.2.length = 32 := HS.out q (by rw [HX.out]; simp)
      have hlr : rest.length < s.length := by rw [HX.out]; simp; omega
      have hpl : pre.length < s.length := by rw [HX.out]; simp
      have hr32 : All32 rest := fun x hx => HS.out x (by rw [HX.out]; simp [hx])
      have hld : (Instr.loadAt 99 (.pointer (some ⟨b, rest.length * 34, none⟩))).run Tryd.prog wr = .ok (.agg (prv q)) wr := by
        refine load_cells (prv q) (fun j v hv => ?_) 99 Tryd.underlying99 rfl (prS hql)
        refine (hk.cell hb hbg).trans (HC.out _ v ?_)
        rw [HX.out]
        have hpp : ∀ (A : List Prt), (rcs (A ++ q :: rest))[rest.length * 34 + j]? = (prv q)[j]? := by
          intro A
          have hjl : j < 34 := by have := (Array.getElem?_eq_some_iff.1 hv).1; rw [prv_size hql] at this; exact this
          induction A with
          | nil => exact rcs_top (p := q) (s := rest) (fun x hx => by rcases List.mem_cons.1 hx with rfl | h; exact hql; exact hr32 x h) j
          | cons p A ih =>
            rw [List.cons_append, rcs, List.getElem?_append_left]
            · exact ih
            · have := (List.getElem?_eq_some_iff.1 (ih.trans hv)).1
              exact this
        rw [hpp, hv]
      obtain ⟨fn, tmps, assign, body, hy, hR⟩ := HY.out pre ⟨(rest.length, q), hql⟩ wr hJs hpl
      dsimp only [rkE] at hy
      have HLD := Lib.hid hld
      clear hld ht
      gi_wp2_with (refine wli_ldx rfl 99 _ rfl _ rfl (.agg (prv q)) HLD.out ?_)
      refine hR.mono ?_
      rintro e W3 (⟨rfl, hJ3, hk3⟩ | ⟨rfl, hJx3⟩)
      · gi_wp2
        go_roundw
        case rel => exact ⟨pre ++ [⟨(rest.length, q), hql⟩], rest, _, by rw [HX.out]; simp, rfl, rfl, hJ3, hk.trans hk3⟩
        case measure => simp [intOf]
      · gi_wp2
        refine bodyPost_ret (results_none rfl _ _ _) rfl ?_
        exact ⟨⟨_, rfl⟩, .inr ⟨_, trivial, hJx3⟩⟩
set_option maxHeartbeats 1000000 in
theorem backwardR_a (A : Option Addr) (m c : Nat) (w : World) :
    Calls Tryd.prog 41 #[.slice A m c] w fun e w' => e = .returned (.func (.func 64) #[] #[.pointer (some ⟨w.heap.size, 0, none⟩)]) ∧ w' = w.alloc (.cells #[.slice A m c] 59) := by
  go_enter Tryd.func41, Tryd.ntmps41
  go_wp2
  go_ret
  exact ⟨rfl, rfl⟩
theorem backwardR_stops (n : Nat) (hn : 1 ≤ n) (Bs n₀ g b c : Nat) (s : List Prt) (hs : All32 s) (hlen : s.length ≤ 1000) (hb : b < n₀) (hbg : b ≠ g) (hB : Bs < n₀) (hBg : Bs ≠ g) (w : World) (hn₀ : n₀ ≤ w.heap.size)
    (hBs : w.cell? ⟨Bs, 0, none⟩ = some (.slice (some ⟨b, 0, none⟩) s.length c)) (hc : ∀ j v, (rcs s)[j]? = some v → w.cell? ⟨b, j, none⟩ = some v) :
    SeqStopsK Fence.wide n Tryd.prog 64 #[.pointer (some ⟨Bs, 0, none⟩)] rkE (KeepsBut n₀ g) (fun ys => ys.map (fun x => x.1.2) = s) (fun _ => True) s.length w := fun l J Jx W hW _ _ hY h0 =>
  backwardR1_in n hn l Bs n₀ g b c s hs hlen hb hbg hB hBg J Jx hY W ((hW.cell (p := ⟨Bs, 0, none⟩) (by simp; omega)).trans hBs) (fun j v hv => (hW.cell (p := ⟨b, j, none⟩) (by simp; omega)).trans (hc j v hv)) h0
end Go.Proofs.YtlhebogbbkjahaaDoor
namespace Go.Proofs.YtlhebogbbkjahaaDoor
open Go.RowKit Go.Shelf Cop
set_option linter.unusedVariables false
set_option linter.unusedSimpArgs false
attribute [local go_sem] Oper.semAt_some
section
variable {P : Program}
theorem operIn_w {n : Nat} {o : Oper} {a : Act} {w : World} {next next' : Act → World → Prop} {Q : Exit → Act → World → Prop} (hd : ∀ c, o.op ≠ .defer c) (hn : ∀ a w, next a w → next' a w) (h : o.wp P a w next Q) : o.wpIn Fence.wide n P a w next' Q := by
  refine ⟨fun _ _ => trivial, ?_⟩
  rw [Oper.semAt_plain _ _ _ hd]
  unfold Oper.wp at h
  generalize (execOp a.eval o).run P w = q at h
  match q, h with
  | .ok (.value v) w', h => exact hn _ _ h
  | .ok .skip w', h => exact hn _ _ h
  | .ok (.defer d) w', h => exact hn _ _ h
  | .ok (.enter f args) w', h =>
    refine ⟨fun h0 => by simp [Fence.wide] at h0, callsIn_wide.2 (Calls.mono h fun e w'' h2 => ?_)⟩
    cases e with
    | returned v => exact hn _ _ h2
    | panicked c => exact h2
    | outgrown => exact h2
  | .ok (.row row args) w', h =>
    refine ⟨fun h0 => by simp [Fence.wide] at h0, fun c cs _ => let ⟨v, w', h1, h2⟩ := (Rows.mono h fun v w'' h2 => hn _ _ h2) c cs; ⟨v, w', h1, stepsIn_wide.2 h2⟩⟩
  | .halt (.panic v) w', h => exact h
theorem listIn_w {n : Nat} {ops : Array Oper} {Q : Exit → Act → World → Prop} (hL : ¬ LetsOut Q) : ∀ (l : List Oper) (a : Act) (w : World), (∀ o ∈ l, ∀ c, o.op ≠ .defer c) → wpList P ops Q l a w → wpListIn Fence.wide n P ops Q l a w
  | [], _, _, _, h => h
  | o :: l, a, w, hd, h => by
    unfold wpList at h
    unfold wpListIn
    have ih := fun a w => listIn_w (n := n) (ops := ops) hL l a w (fun o ho => hd o (List.mem_cons_of_mem _ ho))
    split at h
    · rename_i hw
      rw [if_pos hw]
      rcases h with h | h
      · exact operIn_w (hd o List.mem_cons_self) ih h
      · exact absurd h.2 hL
    · rename_i hw
      rw [if_neg hw]
      exact ⟨fun _ _ => trivial, ih _ _ h⟩
/-- A region within an iterator that hands nothing over. -/
theorem region_w {n id : Nat} {Q : Exit → Act → World → Prop} {l : List Oper} {a : Act} {w : World} (hL : ¬ LetsOut Q) (hd : noDefer l = true) (h : wpList P l.toArray Q l a w) : (Code.region id l.toArray false).wpIn Fence.wide n P Q a w :=
  wpIn_region_lit (listIn_w hL l a w (noDefer_spec hd) h)
theorem wli_out {n : Nat} {ops : Array Oper} {rest : List Oper} {Q : Exit → Act → World → Prop} {o : Oper} {a : Act} {w : World} (T : TypeId) (x : Operand) (hop : o.op = .load T x) (hL : ¬ LetsOut Q) (hd : noDefer (o :: rest) = true) (h : wpList P ops Q (o :: rest) a w) : wpListIn Fence.wide n P ops Q (o :: rest) a w :=
  listIn_w hL _ a w (noDefer_spec hd) h
end
theorem none_c (g : Nat) (w : World) (h : w.cell? ⟨g, 0, none⟩ = some (.bool true)) : Calls Tryd.prog 37 #[.pointer (some ⟨g, 0, none⟩)] w fun e w' => e = .returned (.bool false) ∧ w' = w := by
  go_enter Tryd.func37, Tryd.ntmps37
  go_wp2
  go_ret
  exact ⟨rfl, rfl⟩
/-- slices.Clone of parts. -/
theorem clone_parts (v : Value) (s : List Prt) (w : World) (hs : All32 s) (hl : s.length ≤ 1000) (hR : Rd w v s.length 34 (rcs s)) :
    Calls Tryd.prog 38 #[v] w fun e w' => ∃ x, e = .returned x ∧ Below w.heap.size w w' ∧ Ow w' w.heap.size 99 34 x s.length (rcs s) := by
  obtain ⟨A, c, rfl, hc, hcm⟩ := hR.shape
  cases A with
  | none =>
    obtain ⟨_, A', c', he, h1, _, h2, _⟩ := hR
    injection he with e1 e2 e3
    subst e1 e3
    have hc0 := h2 rfl
    have hl0 : s.length = 0 := by omega
    have : s = [] := List.eq_nil_of_length_eq_zero hl0
    subst this
    subst hc0
    clear h1 h2 hcm hc hl
    have heq := fun w => Lib.run_eql_slice_nil (P := Tryd.prog) (w := w)
    go_enter Tryd.func38, Tryd.ntmps38
    go_wp2
    go_ret
    exact ⟨_, rfl, Below.refl _ _, Ow.nil _ _ _ _ _⟩
  | some a =>
    have HR := Lib.hid hR
    have HS0 := ((Sep.start w).arg0 hR).built #[] 99 0 34 rfl (by decide)
    clear hR
    have heq := fun w => Lib.run_eql_slice_nil (P := Tryd.prog) (w := w)
    go_enter Tryd.func38, Tryd.ntmps38
    go_wp2_with (refine wl_app HS0 0 rfl _ _ 59 (.agg (prv (0, 0, Z32))) 48 rfl rfl Tryd.underlying59 (by kernel_rfl) rfl (by decide) (by decide) (HS0.rd 1 rfl) (rcs_one _) rfl rfl (by omega) ?_)
    intro v1 w1 HS1 _ _
    go_wp2
    go_ret
    refine ⟨_, rfl, HS1.hb, ?_⟩
    have := HS1.own 0 rfl
    simpa using this
/-- A part that is handed over. -/
abbrev QK := { x : Prt // x.2.2.length = 32 }
def qkE (x : QK) : Array Value := #[.agg #[.int .i64 (x.1.1 : Int), .int .i64 (x.1.2.1 : Int)], .agg (bv x.1.2.2)]
theorem grown_of_below {w w' : World} (h : Below w.heap.size w w') : w.grownBy w' none := ⟨h.os, h.tape, h.output, h.size, fun k hk _ => h.block k hk⟩
set_option maxRecDepth 100000 in
set_option maxHeartbeats 2000000 in
theorem all1_in (n : Nat) (hn : 1 ≤ n) (l Bs n₀ gx off g : Nat) (b e : Int) (v : Value) (s : List Prt) (hs : All32 s) (hlen : s.length ≤ 1000) (W : World) (hgx : gx < W.heap.size) (hn₀ : n₀ ≤ W.heap.size) (J Jx : List QK → World → Prop)
    (hY : ∀ (pre : List QK) (x : QK) (W : World), J pre W → pre.length < s.length → YieldAt Fence.wide (n - 1) Tryd.prog l (qkE x) W fun e W' =>
      (e = .returned (.bool true) ∧ J (pre ++ [x]) W' ∧ Stays n₀ gx off W W') ∨ (e = .returned (.bool false) ∧ Jx (pre ++ [x]) W'))
    (hJ : AbidesFrom W.heap.size J)
    (hBs : W.cell? ⟨Bs, 0, none⟩ = some (.pointer (some ⟨g, 0, none⟩))) (hg : W.heap[g]? = some (.cells (rgv b e v) 61 (0, 0))) (hR : Rd W v s.length 34 (rcs s)) (hown : ∀ k, Owns gx off W k → k < W.heap.size) (h0 : J [] W) :
    CallsIn Fence.wide n Tryd.prog 36 #[.func (.yield l) #[] #[], .pointer (some ⟨Bs, 0, none⟩)] W fun e W' => (∃ v, e = .returned v) ∧
      ((∃ ys : List QK, ys.map (fun x => x.1) = s.reverse ∧ J ys W') ∨ (∃ pre : List QK, (∃ rest, pre.map (fun x => x.1) ++ rest = s.reverse) ∧ Jx pre W')) := by
  have HS := Lib.hid hs
  have HY := Lib.hid hY
  have HJ := Lib.hid hJ
  have HR := Lib.hid hR
  have HG := Lib.hid (show W.cell? ⟨g, 0, none⟩ = some (.bool true) by rw [row_cell hg]; rfl)
  have cv : W.cell? ⟨g, 3, none⟩ = some v := by rw [row_cell hg]; rfl
  have HO := Lib.hid hown
  clear hs hY hJ hR hg hown
  refine callsIn_of_wp Tryd.func36 rfl trivial ?_ rfl
  simp only [Tryd.ntmps36, List.size_toArray, List.length_cons, List.length_nil, Nat.reduceAdd, Nat.reduceSub, Array.replicate_succ, Array.replicate_zero, List.push_toArray, List.append_toArray, List.nil_append, List.cons_append]
  gi_wp2
  refine ⟨trivial, callsIn_wide.2 ((none_c g W HG.out).mono ?_)⟩
  rintro r w2 ⟨rfl, rfl⟩
  gi_wp2
  refine ⟨trivial, callsIn_wide.2 ((clone_parts v s w2 HS.out hlen HR.out).mono ?_)⟩
  rintro r W1 ⟨x, rfl, hb1, ho1⟩
  obtain ⟨A1, c1, rfl, _⟩ := ho1.sl
  have hj1 : J [] W1 := HJ.out _ _ _ none h0 (grown_of_below hb1) (fun r e => by cases e)
  clear h0 cv hBs
  gi_wp2
  gi_loopw [13] (fun i wr => ∃ (pre : List QK) (A Bl : List Prt), s = A ++ Bl ∧ pre.map (fun x => x.1) = Bl.reverse ∧ i = .int .i64 Bl.length ∧ J pre wr ∧ Stays n₀ gx off W1 wr) (fun i _ => s.length - (intOf i).toNat)
  case atStart => exact ⟨[], s, [], by simp, rfl, rfl, hj1, Stays.refl _ _ _ _⟩
  case round =>
    clear hj1
    obtain ⟨pre, A, Bl, hx, hpre, rfl, hJs, hk⟩ := hrel
    have hpl : pre.length = Bl.length := by have := congrArg List.length hpre; simpa using this
    rcases List.eq_nil_or_concat A with rfl | ⟨A', q, rfl⟩
    · have hx2 : s = Bl := by simpa using hx
      subst hx2
      have HP := Lib.hid hpre
      clear hx hpre
      gi_wp2
      go_end0
      exact ⟨⟨_, rfl⟩, .inl ⟨pre, HP.out, hJs⟩⟩
    · have hx2 : s = A' ++ q :: Bl := by rw [hx]; simp
      have hlt : Bl.length < s.length := by rw [hx2]; simp; omega
      have hlt2 : (Bl.length : Int) < (s.length : Int) := by omega
      have hql : q.2.2.length = 32 := HS.out q (by rw [hx2]; simp)
      have hcb : All32 (q :: Bl) := fun x hx => HS.out x (by rw [hx2]; exact List.mem_append_right _ hx)
      obtain ⟨gc, hA1, hgc⟩ : ∃ gc, A1 = some ⟨gc, 0, none⟩ ∧ gc = gc := by
        obtain ⟨gc, h⟩ := Ow.addr ho1 (by omega)
        exact ⟨gc, h, rfl⟩
      subst hA1
      have hld : (Instr.loadAt 99 (.pointer (some ⟨gc, Bl.length * 34, none⟩))).run Tryd.prog wr = .ok (.agg (prv q)) wr := by
        refine load_cells (prv q) (fun j u hu => ?_) 99 Tryd.underlying99 rfl (prS hql)
        have hj : j < 34 := by have := (Array.getElem?_eq_some_iff.1 hu).1; rw [prv_size hql] at this; exact this
        have h1 := own_cell ho1 (Bl.length * 34 + j) (v := u) (by rw [hx2, rcs_mid hcb j hj]; exact hu)
        have h2 : ∃ cur e9 fr, W1.heap[gc]? = some (.cells cur e9 fr) := by
          cases hh : W1.heap[gc]? with
          | none => simp [World.cell?, hh] at h1
          | some ob =>
            cases ob with
            | cells cs t fr => exact ⟨cs, t, fr, rfl⟩
            | _ => simp [World.cell?, hh] at h1
        obtain ⟨cur, e9, fr, h2⟩ := h2
        have hge := (Ow.lt ho1 gc (by
          have : c1 ≠ 0 := by
            obtain ⟨_, _, h3, h4⟩ := ho1.sl
            injection h3 with _ _ h5
            omega
          simp [vblk, this])).1
        have hno : ¬ Owns gx off W1 gc := fun h => by
          have := HO.out gc ((owns_same (hb1.block gx hgx) gc).1 h)
          omega
        have h3 := (hk.2 gc _ (by omega) h2 rfl hno).1
        rw [← h1]
        exact World.cell?_of_block (w := W1) (a := ⟨gc, Bl.length * 34 + j, none⟩) (h3.trans h2.symm)
      have HLD := Lib.hid hld
      have HX := Lib.hid hx2
      have HP := Lib.hid hpre
      clear hx hx2 hpre hcb hld ho1 hgc
      gi_wp2_with (refine wli_out 99 _ rfl (by rintro ⟨_, _, h⟩; obtain ⟨⟨_, h⟩, _⟩ := h; cases h) (by kernel_rfl) ?_)
      go_wp2_with (first | refine wl_ldx rfl 99 _ rfl _ rfl (.agg (prv q)) HLD.out ?_ | refine wl_alx rfl 99 rfl (prv (0, 0, Z32)) (by kernel_rfl) ?_ | refine wl_store_row rfl 99 _ _ rfl wr.heap.size rfl 99 (prv (0, 0, Z32)) (prv q) rfl (heap_alloc_new wr _) (prS hql) (prE rfl hql) (prv_one _) ?_)
      have hnew := heap_alloc_new wr (.cells (prv (0, 0, Z32)) 99)
      have hrow : ((wr.alloc (.cells (prv (0, 0, Z32)) 99)).setRow wr.heap.size (prv q)).heap[wr.heap.size]? = some (.cells (prv q) 99 (0, 0)) := setRow_heap _ _ _ _ _ _ hnew
      have hb5 : Below wr.heap.size wr ((wr.alloc (.cells (prv (0, 0, Z32)) 99)).setRow wr.heap.size (prv q)) :=
        ((Below.refl _ wr).alloc (Nat.le_refl _) _).trans ⟨rfl, rfl, rfl, by simp, fun k hk => setRow_other _ _ k _ (by omega)⟩
      have hszr : gx < wr.heap.size := by have := hb1.size; have := hk.1; omega
      have hj5 := HJ.out _ _ _ none hJs (grown_of_below hb5) (fun r e => by cases e)
      have hk5 := hk.trans (stays_below (n₀ := n₀) (off := off) hszr hb5)
      obtain ⟨g4, hg4⟩ : ∃ k, wr.heap.size = k := ⟨_, rfl⟩
      rw [hg4] at hrow hj5 hk5 ⊢
      generalize (wr.alloc (.cells (prv (0, 0, Z32)) 99)).setRow g4 (prv q) = W5 at hrow hj5 hk5 ⊢
      have c0 := (row_cell hrow 0).trans (prv_0 q)
      have c1' := (row_cell hrow 1).trans (prv_1 q)
      have HL2 := Lib.hid (load_mid (P := Tryd.prog) hrow 2 (bv q.2.2) (fun j _ => prv_mid q j) 33 Tryd.underlying33 rfl (dgS hql))
      obtain ⟨fn, tmps, assign, body, hy, hRb⟩ := HY.out pre ⟨q, hql⟩ W5 hj5 (by omega)
      dsimp only [qkE] at hy
      have HK5 := Lib.hid hk5
      clear hnew hb5 hJs hk hj5 hk5 HLD hszr hg4 hrow
      simp only [Act.put, List.setIfInBounds_toArray, List.set_cons_succ, List.set_cons_zero]
      gi_wp2_with (refine wli_ldx rfl 33 _ rfl _ rfl (.agg (bv q.2.2)) HL2.out ?_)
      refine hRb.mono ?_
      rintro r W3 (⟨rfl, hJ3, hk3⟩ | ⟨rfl, hJx3⟩)
      · gi_wp2
        go_roundw
        case rel => exact ⟨pre ++ [⟨q, hql⟩], A', q :: Bl, HX.out, by simp [HP.out], by go_num, hJ3, HK5.out.trans hk3⟩
        case measure => simp [intOf]; omega
      · gi_wp2
        refine bodyPost_ret (results_none rfl _ _ _) rfl ?_
        exact ⟨⟨_, rfl⟩, .inr ⟨_, ⟨A'.reverse, by rw [HX.out]; simp [HP.out]⟩, hJx3⟩⟩
theorem all_c (p : Option Addr) (w : World) : Calls Tryd.prog 10 #[.pointer p] w fun e w' => e = .returned (.func (.func 36) #[] #[.pointer (some ⟨w.heap.size, 0, none⟩)]) ∧ w' = w.alloc (.cells #[.pointer p] 23) := by
  go_enter Tryd.func10, Tryd.ntmps10
  go_wp2
  go_ret
  exact ⟨rfl, rfl⟩
/-- The iterator of All, as a loop asks for it: its rounds may write the row gx and the slice in its cell off. -/
theorem all1_stopsR (n : Nat) (hn : 1 ≤ n) (Bs gx off g : Nat) (b e : Int) (v : Value) (s : List Prt) (hs : All32 s) (hlen : s.length ≤ 1000) (w : World) (hgx : gx < w.heap.size)
    (hBs : w.cell? ⟨Bs, 0, none⟩ = some (.pointer (some ⟨g, 0, none⟩))) (hg : w.heap[g]? = some (.cells (rgv b e v) 61 (0, 0))) (hR : Rd w v s.length 34 (rcs s)) (hown : ∀ k, Owns gx off w k → k < w.heap.size) :
    SeqStopsK Fence.wide n Tryd.prog 36 #[.pointer (some ⟨Bs, 0, none⟩)] qkE (Stays w.heap.size gx off) (fun ys => ys.map (fun x => x.1) = s.reverse) (fun pre => ∃ rest, pre.map (fun x => x.1) ++ rest = s.reverse) s.length w := fun l J Jx W hW hJ _ hY h0 => by
  have hB : Bs < w.heap.size := World.block_lt_of_cell? w _ hBs
  have hgl : g < w.heap.size := (Array.getElem?_eq_some_iff.1 hg).1
  refine all1_in n hn l Bs w.heap.size gx off g b e v s hs hlen W (Nat.lt_of_lt_of_le hgx hW.size) hW.size J Jx hY hJ ((World.cell?_of_block (w := w) (a := ⟨Bs, 0, none⟩) (hW.block Bs hB)).trans hBs) ((hW.block g hgl).trans hg) (hR.same fun k hk => hW.block k (Rd.cells_rblk hR k hk).1) (fun k hk => ?_) h0
  exact Nat.lt_of_lt_of_le (hown k ((owns_same (hW.block gx hgx) k).1 hk)) hW.size
end Go.Proofs.YtlhebogbbkjahaaDoor
namespace Go.Proofs.YtlhebogbbkjahaaDoor
open Go.RowKit Cop
set_option linter.unusedVariables false
set_option linter.unusedSimpArgs false
section
variable {B : Nat} {w0 w : World} {R : List Pc} {g : Nat} {b e : Int} {v : Value}
theorem new_r (b : Int) (hb0 : 0 ≤ b) (hb : b ≤ 281474976710656) (HS : Sep B w0 w R) : Calls Tryd.prog 14 #[.int .i64 b] w fun r w' => ∃ g, r = .returned (.tuple #[.pointer (some ⟨g, 0, none⟩), .int .i64 0]) ∧ Sep B w0 w' (.row g (rgv b b (.slice none 0 0)) 61 :: .own (.slice none 0 0) 99 34 0 [] :: R) := by
  have h1 : decide (b < 0) = false := decide_eq_false (by omega)
  have h2 : decide ((281474976710656 : Int) < b) = false := decide_eq_false (by omega)
  have HS' := Sep.ownNil HS 99 34
  clear HS
  go_enter Tryd.func14, Tryd.ntmps14
  go_wp2_with (first | refine wl_bx HS' rfl 61 _ rfl (rgv b b (.slice none 0 0)) rfl ?_)
  intro g1 w1 HS1
  go_wp2
  go_ret2
  exact ⟨g1, rfl, HS1⟩
theorem new_bad (b : Int) (hb : b < 0 ∨ 281474976710656 < b) (w : World) : Calls Tryd.prog 14 #[.int .i64 b] w fun r w' => r = .returned (.tuple #[.pointer none, .int .i64 40]) ∧ w' = w := by
  by_cases h0 : b < 0
  · have h1 : decide (b < 0) = true := decide_eq_true h0
    clear hb
    go_enter Tryd.func14, Tryd.ntmps14
    go_wp2
    go_ret2
    exact ⟨rfl, rfl⟩
  · have h2 : 281474976710656 < b := by omega
    clear hb
    go_enter Tryd.func14, Tryd.ntmps14
    go_wp2
    go_ret2
    exact ⟨rfl, rfl⟩
theorem len_r (i : Nat) {A : Option Addr} {n c : Nat} (hi : R[i]? = some (.row g (rgv b e (.slice A n c)) 61)) (HS : Sep B w0 w R) : Calls Tryd.prog 25 #[.pointer (some ⟨g, 0, none⟩)] w fun r w' => r = .returned (.int .i64 n) ∧ w' = w := by
  have cv := rg_v HS i hi
  go_enter Tryd.func25, Tryd.ntmps25
  go_wp2_with fail
  refine (none_r i hi HS).mono ?_
  rintro r w2 ⟨rfl, rfl⟩
  go_wp2
  go_ret
  exact ⟨rfl, rfl⟩
theorem span_r (i : Nat) (hi : R[i]? = some (.row g (rgv b e v) 61)) (HS : Sep B w0 w R) : Calls Tryd.prog 24 #[.pointer (some ⟨g, 0, none⟩)] w fun r w' => r = .returned (.agg #[.int .i64 b, .int .i64 e]) ∧ Below w.heap.size w w' := by
  have HS0 := Sep.start w
  have cb := rg_b HS i hi
  have ce := rg_e HS i hi
  have hg0 := HS.row i hi
  have HG := Lib.hid (show w.cell? ⟨g, 0, none⟩ = some (.bool true) by rw [row_cell hg0]; rfl)
  have HCB := Lib.hid cb
  have HCE := Lib.hid ce
  have hgl : g < w.heap.size := (Array.getElem?_eq_some_iff.1 hg0).1
  clear HS hi cb ce hg0
  go_enter Tryd.func24, Tryd.ntmps24
  go_wp2_with (first | refine wl_al HS0 rfl 26 rfl #[.int .i64 0, .int .i64 0] (by kernel_rfl) ?_)
  intro g1 w1 HS1
  have hbk := HS1.hb.block g hgl
  have cb := (World.cell?_of_block (w := w) (a := ⟨g, 1, none⟩) hbk).trans HCB.out
  have ce := (World.cell?_of_block (w := w) (a := ⟨g, 2, none⟩) hbk).trans HCE.out
  have cg := (World.cell?_of_block (w := w) (a := ⟨g, 0, none⟩) hbk).trans HG.out
  clear HS0 hbk
  go_wp2_with fail
  refine (none_c g w1 cg).mono ?_
  rintro r w2 ⟨rfl, rfl⟩
  go_wp2_with (first | refine wl_st HS1 0 rfl rfl 26 _ _ rfl rfl (cs := #[.int .i64 b, .int .i64 e]) rfl (by kernel_rfl) rfl (by simp [Value.oneCell']) ?_)
  intro w3 HS3
  go_wp2
  exact ret_row rfl rfl g1 rfl 26 #[.int .i64 b, .int .i64 e] (0, 0) _ (HS3.row 0 rfl) Tryd.underlying26 rfl (by kernel_rfl) ⟨rfl, HS3.hb⟩
theorem rgS (b e : Int) (v : Value) : (Tryd.prog.info? 61).map (·.size) = some (rgv b e v).size := by rw [show (rgv b e v).size = 4 from rfl]; kernel_rfl
theorem rgv_one {b e : Int} {v : Value} (h : v.oneCell' = true) : (rgv b e v).all (·.oneCell') = true := by simp [rgv, h]; exact ⟨rfl, rfl, rfl⟩
theorem clone_r (s : List Prt) (hs : All32 s) (hl : s.length ≤ 1000) (i j : Nat) (hi : R[i]? = some (.row g (rgv b e v) 61)) (hj : R[j]? = some (.own v 99 34 s.length (rcs s))) (HS : Sep B w0 w R) :
    Calls Tryd.prog 18 #[.pointer (some ⟨g, 0, none⟩)] w fun r w' => ∃ g' v', r = .returned (.pointer (some ⟨g', 0, none⟩)) ∧ Sep B w0 w' (.row g' (rgv b e v') 61 :: .own v' 99 34 s.length (rcs s) :: R) := by
  obtain ⟨A, c, rfl, _⟩ := (HS.own j hj).sl
  have HCL := Lib.hid (fun (w' : World) (R' : List Pc) (H : Sep B w0 w' R') (k : Nat) (hk : R'[k]? = some (.own (.slice A s.length c) 99 34 s.length (rcs s))) => clone_parts (.slice A s.length c) s w' hs hl (H.own k hk).rd)
  have HI := Lib.hid hi
  have HJ := Lib.hid hj
  clear hs hi hj
  go_enter Tryd.func18, Tryd.ntmps18
  go_wp2_with fail
  refine (none_r i HI.out HS).mono ?_
  rintro r w2 ⟨rfl, rfl⟩
  go_wp2_with (first | refine wl_ld HS i HI.out rfl 61 _ rfl rfl Tryd.underlying61 rfl (rgS _ _ _) ?_ | refine wl_al HS rfl 61 rfl #[.bool false, .int .i64 0, .int .i64 0, .slice none 0 0] (by kernel_rfl) ?_)
  intro g1 w1 HS1
  go_wp2_with (first | refine wl_st HS1 0 rfl rfl 61 _ _ rfl rfl (cs := rgv b e (.slice A s.length c)) rfl (rgS _ _ _) rfl (rgv_one rfl) ?_)
  intro w3 HS3
  have cv := rg_v HS3 (i + 1) HI.out
  clear HS HS1
  go_wp2_with fail
  refine (HCL.out w3 _ HS3 (j + 1) HJ.out).mono ?_
  rintro r w4 ⟨x, rfl, hb4, ho4⟩
  have HS4 := (HS3.made hb4 ho4)
  obtain ⟨A4, c4, rfl, _⟩ := ho4.sl
  clear HS3 ho4 cv
  go_wp2_with (first | refine wl_rv HS4 1 rfl rfl 59 _ _ rfl (by kernel_rfl) rfl rfl rfl rfl ?_)
  intro w5 HS5
  go_wp2
  go_ret
  exact ⟨g1, _, rfl, HS5.front 1⟩
set_option maxRecDepth 100000 in
/-- What AppendNode refuses. -/
theorem appendNode_arg (l : Int) (d : List UInt8) (hd : d.length = 32) (hl : l < 0 ∨ 48 < l) (i : Nat) (hi : R[i]? = some (.row g (rgv b e v) 61)) (HS : Sep B w0 w R) :
    Calls Tryd.prog 17 #[.pointer (some ⟨g, 0, none⟩), .int .i64 l, .agg (bv d)] w fun r w' => r = .returned (.int .i64 2) ∧ Sep B w0 w' R := by
  have HI := Lib.hid hi
  clear hi
  by_cases h0 : l < 0
  · clear hl
    go_enter Tryd.func17, Tryd.ntmps17
    go_wp2_with (first | refine wl_bx HS rfl 33 _ rfl (bv d) rfl ?_)
    intro g5 w1 HS1
    clear HS
    go_wp2_with fail
    (with_reducible refine Calls.mono (none_r (i + 1) HI.out HS1) ?_)
    rintro e w2 ⟨rfl, rfl⟩
    go_wp2
    go_ret
    exact ⟨rfl, HS1.tail⟩
  · have h1 : 48 < l := by omega
    clear hl
    go_enter Tryd.func17, Tryd.ntmps17
    go_wp2_with (first | refine wl_bx HS rfl 33 _ rfl (bv d) rfl ?_)
    intro g5 w1 HS1
    clear HS
    go_wp2_with fail
    (with_reducible refine Calls.mono (none_r (i + 1) HI.out HS1) ?_)
    rintro e w2 ⟨rfl, rfl⟩
    go_wp2
    go_ret
    exact ⟨rfl, HS1.tail⟩
set_option maxRecDepth 100000 in
theorem appendNode_apart (e l : Nat) (d : List UInt8) (hd : d.length = 32) (hl : l ≤ 48) (he : e ≤ 281474976710656) (hne : e % 2 ^ l ≠ 0) (i : Nat) (hi : R[i]? = some (.row g (rgv b e v) 61)) (HS : Sep B w0 w R) :
    Calls Tryd.prog 17 #[.pointer (some ⟨g, 0, none⟩), .int .i64 l, .agg (bv d)] w fun r w' => r = .returned (.int .i64 50) ∧ Sep B w0 w' R := by
  have HI := Lib.hid hi
  have hpw := shl_one (m := l) (by omega)
  have hp2 : 1 ≤ 2 ^ l := Nat.one_le_two_pow
  have hp48 : 2 ^ l ≤ 2 ^ 48 := Nat.pow_le_pow_right (by decide) hl
  have hand := and_mod e l hl he
  obtain ⟨m, hm⟩ : ∃ m, e % 2 ^ l = m := ⟨_, rfl⟩
  obtain ⟨P2, hP2⟩ : ∃ p, (2 ^ l : Nat) = p := ⟨_, rfl⟩
  have hpi : ((2 : Int) ^ l) = (P2 : Int) := by rw [← hP2]; simp
  rw [hm] at hand
  rw [hP2] at hpw hp2 hp48 hand
  rw [hpi] at hpw
  rw [hm] at hne
  clear hm
  have HAND := Lib.hid hand
  have HPI := Lib.hid hpi
  clear hi hP2 hand hpi
  have HPW := Lib.hid (wr64 (x := (P2 : Int)) (by omega) (by omega))
  have HPM := Lib.hid (wr64 (x := (P2 : Int) - 1) (by omega) (by omega))
  have HPX := Lib.hid (wr64 (x := 281474976710656 - (e : Int)) (by omega) (by omega))
  have hl0 : decide ((l : Int) < 0) = false := decide_eq_false (by omega)
  have hl1 : decide ((48 : Int) < (l : Int)) = false := decide_eq_false (by omega)
  have HNZ := Lib.hid (show ((m : Int) != 0) = true by simpa using hne)
  clear hne
  go_enter Tryd.func17, Tryd.ntmps17
  go_wp2_with (first | refine wl_bx HS rfl 33 _ rfl (bv d) rfl ?_)
  intro g5 w1 HS1
  clear HS
  go_wp2_with fail
  (with_reducible refine Calls.mono (none_r (i + 1) HI.out HS1) ?_)
  rintro e w2 ⟨rfl, rfl⟩
  go_wp2
  refine Cop.region_ord (fun w' => Sep B w0 w' (.row g5 (bv d) 33 :: R)) 10 (.take 0 (.take 1 (.take 2 (.take 3 (.take 4 (.take 5 (.take 6 (.take 7 (.take 8 (.take 9 (.take 10 Cop.Ord.fin))))))))))) (by kernel_rfl) (by kernel_rfl) (fun _ _ d _ _ h => by cases d <;> exact h) ?_
  intro wa hda
  have HSa := HS1.keep hda
  clear HS1
  (repeat (first | (refine Cop.og_skip rfl rfl HSa _ (by (simp only [Act.put, List.setIfInBounds_toArray, List.set_cons_succ, List.set_cons_zero]; rfl)) ?_) | (refine Cop.og_take rfl rfl HSa ?_; apply Exists.intro; refine ⟨fun w9 h9 => ?_, _, by (simp only [Act.put, List.setIfInBounds_toArray, List.set_cons_succ, List.set_cons_zero]; rfl), ?_⟩; (have c0 := rg_e h9 (i + 1) HI.out; have q0 := HPI.out; have q1 := HPW.out; have q2 := HAND.out; have q3 := HPM.out; have q4 := HNZ.out; go_simp; with_reducible rfl))))
  refine og_fin ?_
  go_wp2
  go_ret
  exact ⟨rfl, HSa.tail⟩
set_option maxRecDepth 100000 in
theorem appendNode_big (e l : Nat) (d : List UInt8) (hd : d.length = 32) (hl : l ≤ 48) (he : e ≤ 281474976710656) (h0 : e % 2 ^ l = 0) (hbig : 281474976710656 < e + 2 ^ l) (i : Nat) (hi : R[i]? = some (.row g (rgv b e v) 61)) (HS : Sep B w0 w R) :
    Calls Tryd.prog 17 #[.pointer (some ⟨g, 0, none⟩), .int .i64 l, .agg (bv d)] w fun r w' => r = .returned (.int .i64 3) ∧ Sep B w0 w' R := by
  have HI := Lib.hid hi
  have hpw := shl_one (m := l) (by omega)
  have hp2 : 1 ≤ 2 ^ l := Nat.one_le_two_pow
  have hp48 : 2 ^ l ≤ 2 ^ 48 := Nat.pow_le_pow_right (by decide) hl
  have hand := and_mod e l hl he
  obtain ⟨m, hm⟩ : ∃ m, e % 2 ^ l = m := ⟨_, rfl⟩
  obtain ⟨P2, hP2⟩ : ∃ p, (2 ^ l : Nat) = p := ⟨_, rfl⟩
  have hpi : ((2 : Int) ^ l) = (P2 : Int) := by rw [← hP2]; simp
  rw [hm] at hand
  rw [hP2] at hpw hp2 hp48 hand hbig
  rw [hpi] at hpw
  rw [hm] at h0
  subst h0
  clear hm
  have HAND := Lib.hid hand
  have HPI := Lib.hid hpi
  clear hi hP2 hand hpi
  have HPW := Lib.hid (wr64 (x := (P2 : Int)) (by omega) (by omega))
  have HPM := Lib.hid (wr64 (x := (P2 : Int) - 1) (by omega) (by omega))
  have HPX := Lib.hid (wr64 (x := 281474976710656 - (e : Int)) (by omega) (by omega))
  have hl0 : decide ((l : Int) < 0) = false := decide_eq_false (by omega)
  have hl1 : decide ((48 : Int) < (l : Int)) = false := decide_eq_false (by omega)
  have HPD := Lib.hid (show decide (281474976710656 - (e : Int) < (P2 : Int)) = true from decide_eq_true (by omega))
  go_enter Tryd.func17, Tryd.ntmps17
  go_wp2_with (first | refine wl_bx HS rfl 33 _ rfl (bv d) rfl ?_)
  intro g5 w1 HS1
  clear HS
  go_wp2_with fail
  (with_reducible refine Calls.mono (none_r (i + 1) HI.out HS1) ?_)
  rintro e w2 ⟨rfl, rfl⟩
  go_wp2
  refine Cop.region_ord (fun w' => Sep B w0 w' (.row g5 (bv d) 33 :: R)) 10 (.take 0 (.take 1 (.take 2 (.take 3 (.take 4 (.take 5 (.take 6 (.take 7 (.take 8 (.take 9 (.take 10 Cop.Ord.fin))))))))))) (by kernel_rfl) (by kernel_rfl) (fun _ _ d _ _ h => by cases d <;> exact h) ?_
  intro wa hda
  have HSa := HS1.keep hda
  clear HS1
  (repeat (first | (refine Cop.og_skip rfl rfl HSa _ (by (simp only [Act.put, List.setIfInBounds_toArray, List.set_cons_succ, List.set_cons_zero]; rfl)) ?_) | (refine Cop.og_take rfl rfl HSa ?_; apply Exists.intro; refine ⟨fun w9 h9 => ?_, _, by (simp only [Act.put, List.setIfInBounds_toArray, List.set_cons_succ, List.set_cons_zero]; rfl), ?_⟩; (have c0 := rg_e h9 (i + 1) HI.out; have q0 := HPI.out; have q1 := HPW.out; have q2 := HAND.out; have q3 := HPM.out; go_simp; with_reducible rfl))))
  refine og_fin ?_
  go_wp2
  refine Cop.region_ord (fun w' => Sep B w0 w' (.row g5 (bv d) 33 :: R)) 9 (.take 0 (.take 1 (.take 2 (.take 3 (.take 4 (.take 5 (.take 6 (.take 7 (.take 8 (.take 9 Cop.Ord.fin)))))))))) (by kernel_rfl) (by kernel_rfl) (fun _ _ d _ _ h => by cases d <;> exact h) ?_
  intro wb hdb
  have HSb := HSa.keep hdb
  clear HSa
  (repeat (first | (refine Cop.og_skip rfl rfl HSb _ (by (simp only [Act.put, List.setIfInBounds_toArray, List.set_cons_succ, List.set_cons_zero]; rfl)) ?_) | (refine Cop.og_take rfl rfl HSb ?_; apply Exists.intro; refine ⟨fun w9 h9 => ?_, _, by (simp only [Act.put, List.setIfInBounds_toArray, List.set_cons_succ, List.set_cons_zero]; rfl), ?_⟩; (have c0 := rg_e h9 (i + 1) HI.out; have q0 := HPI.out; have q1 := HPW.out; have q2 := HPX.out; have q3 := HPD.out; go_simp; with_reducible rfl))))
  refine og_fin ?_
  go_wp2
  go_ret
  exact ⟨rfl, HSb.tail⟩
end
end Go.Proofs.YtlhebogbbkjahaaDoor
namespace Go.Proofs.YtlhebogbbkjahaaDoor
open Go.RowKit Cop
set_option linter.unusedVariables false
set_option linter.unusedSimpArgs false
section
variable {P : Program} {w0 w : World} {B : Nat} {R : List Pc} {o : Oper} {a : Act}
/-- A scalar that is boxed; a scalar's block that is made. -/
theorem wlc_bx {ops : Array Oper} {rest : List Oper} {Q : Exit → Act → World → Prop} (HS : Sep B w0 w R) (hgd : o.guard = none) (ty : TypeId) (x : Operand) (hop : o.op = .box ty x) (v : Value) (hv : v.cells = #[v]) (hx : a.eval x = v)
    (h : ∀ g w1, Sep B w0 w1 (.row g #[v] ty :: R) → wpList P ops Q rest (a.put o.dst (.pointer (some ⟨g, 0, none⟩))) w1) : wpList P ops Q (o :: rest) a w := by
  refine wpList_plain hgd fun K hK => ?_
  refine ow_val (.pointer (some ⟨w.heap.size, 0, none⟩)) (w.alloc (.cells #[v] ty)) ?_ (hK _ _ (h _ _ (HS.alloc #[v] ty)))
  simp only [execOp, hop, hx]
  simp [Instr.box, Result.andThen, newVar, newRow, hv]
theorem wlc_al {ops : Array Oper} {rest : List Oper} {Q : Exit → Act → World → Prop} (HS : Sep B w0 w R) (hgd : o.guard = none) (ty : TypeId) (hop : o.op = .alloc ty) (v : Value) (hv : v.cells = #[v]) (hz : (P.info? ty).map (·.zero) = some (some v))
    (h : ∀ g w1, Sep B w0 w1 (.row g #[v] ty :: R) → wpList P ops Q rest (a.put o.dst (.pointer (some ⟨g, 0, none⟩))) w1) : wpList P ops Q (o :: rest) a w := by
  refine wpList_plain hgd fun K hK => ?_
  obtain ⟨i, hi, hz⟩ := Option.map_eq_some_iff.1 hz
  have hzz : (zeroValue ty).run P w = .ok v w := by simp [zeroValue, typeInfo, hi, hz]
  refine ow_val (.pointer (some ⟨w.heap.size, 0, none⟩)) (w.alloc (.cells #[v] ty)) ?_ (hK _ _ (h _ _ (HS.alloc #[v] ty)))
  simp only [execOp, hop]
  simp [Instr.alloc, Sem.run_bind, hzz, Result.andThen, newVar, newRow, hv]
/-- A guarded load. -/
theorem wl_ldxg {ops : Array Oper} {rest : List Oper} {Q : Exit → Act → World → Prop} (ty : TypeId) (x : Operand) (hop : o.op = .load ty x) (p : Value) (hx : a.eval x = p) (v : Value) (hl : (Instr.loadAt ty p).run P w = .ok v w) (hw : Region.wanted o (yielded ops a.tmps) = true)
    (h : wpList P ops Q rest (a.put o.dst v) w) : wpList P ops Q (o :: rest) a w := by
  refine BigFrame.wpList_want hw fun K hK => ow_val v w ?_ (hK _ _ h)
  simp only [execOp, hop, hx, Sem.run_bind, hl, Result.andThen_ok, Sem.run_pure]
end
/-- A loop's rounds, one by one. -/
theorem loop_hid {P : Program} {Q : Exit → Act → World → Prop} {a : Act} {w : World} {c : Code} (n : Nat) (h : ∀ N : Act → World → Prop, Hid (∀ a w, Code.rounds P c Q n a w → N a w) → c.wp P (Exit.then N Q) a w) : (Code.loop c).wp P Q a w :=
  wp_loop_rounds (n + 1) (h _ (Lib.hid fun _ _ h => h))
theorem rounds_hid {P : Program} {Q : Exit → Act → World → Prop} {a : Act} {w : World} {c : Code} (n : Nat) (h : ∀ N : Act → World → Prop, Hid (∀ a w, Code.rounds P c Q n a w → N a w) → c.wp P (Exit.then N Q) a w) : Code.rounds P c Q (n + 1) a w :=
  h _ (Lib.hid fun _ _ h => h)
theorem cell_lt {w : World} {a : Addr} {v : Value} (h : w.cell? a = some v) : a.block < w.heap.size := by
  unfold World.cell? at h
  split at h
  · rename_i hb; exact (Array.getElem?_eq_some_iff.1 hb).1
  · cases h
theorem ret_row_tmpM {F : Fence} {n : Nat} {P : Program} {fn : Func} {R : Ending → World → Prop} {a : Act} {w : World} {p q : Tmp} {ty : TypeId} (h : fn.results = #[.cell p ty, .tmp q]) (hd0 : a.defers = []) (g : Nat) (hp : a.tmps.getD p undef = .pointer (some ⟨g, 0, none⟩))
    (t : TypeId) (cs : Array Value) (fr : Nat × Nat) (d : TypeDesc) (hg : w.heap[g]? = some (.cells cs t fr)) (hu : P.underlying ty = some d) (hd : (match d with | .struct _ | .array _ _ => true | _ => false) = true) (hi : (P.info? ty).map (·.size) = some cs.size)
    (v : Value) (hv : a.tmps.getD q undef = v) (hR : R (.returned (.tuple #[.agg cs, v])) w) : bodyPostM F n P fn R .ret a w := by
  show LeavesInM F n P fn a.tmps R a.defers .returning w
  rw [hd0]
  have hld := run_loadVar_row (P := P) w g t ty cs fr d hg hu (by revert hd; cases d <;> simp) hi
  have hp2 : a.tmps[p]?.getD undef = .pointer (some ⟨g, 0, none⟩) := by rw [← hp]; simp
  have hv2 : a.tmps[q]?.getD undef = v := by rw [← hv]; simp
  refine ⟨.tuple #[.agg cs, v], ?_, hR⟩
  simp only [results, h]
  simp [Sem.run_bind, Result.andThen, hp2, asAddr, hld, hv2]
theorem dgz {l : List UInt8} (h : l.length = 32) : (Tryd.prog.info? 33).map (·.size) = some (bv l).size := by rw [bv_size, h]; kernel_rfl
/-- A range that no call made. -/
def NoR (w : World) (p : Option Addr) : Prop := p = none ∨ ∃ g, p = some ⟨g, 0, none⟩ ∧ w.heap[g]? = some (.cells #[.bool false, .int .i64 0, .int .i64 0, .slice none 0 0] 61 (0, 0))
theorem NoR.below {w w' : World} {p : Option Addr} (h : NoR w p) (hb : Below w.heap.size w w') : NoR w' p := by
  rcases h with rfl | ⟨g, rfl, hg⟩
  · exact .inl rfl
  · exact .inr ⟨g, rfl, kept_row hb hg⟩
theorem none_v (p : Option Addr) (w : World) (h : NoR w p) : Calls Tryd.prog 37 #[.pointer p] w fun e w' => e = .returned (.bool true) ∧ w' = w := by
  rcases h with rfl | ⟨g, rfl, hg⟩
  · go_enter Tryd.func37, Tryd.ntmps37
    go_wp2
    go_ret
    exact ⟨rfl, rfl⟩
  · have c0 : w.cell? ⟨g, 0, none⟩ = some (.bool false) := by rw [row_cell hg]; rfl
    clear hg
    go_enter Tryd.func37, Tryd.ntmps37
    go_wp2
    go_ret
    exact ⟨rfl, rfl⟩
/-- A range that New made. -/
theorem none_f (g : Nat) (w : World) (h : w.cell? ⟨g, 0, none⟩ = some (.bool true)) : Calls Tryd.prog 37 #[.pointer (some ⟨g, 0, none⟩)] w fun e w' => e = .returned (.bool false) ∧ w' = w := by
  go_enter Tryd.func37, Tryd.ntmps37
  go_wp2
  go_ret
  exact ⟨rfl, rfl⟩
theorem len_v (p : Option Addr) (w : World) (h : NoR w p) : Calls Tryd.prog 25 #[.pointer p] w fun e w' => e = .returned (.int .i64 0) ∧ w' = w := by
  have HN := Lib.hid h
  clear h
  go_enter Tryd.func25, Tryd.ntmps25
  go_wp2_with fail
  refine (none_v p _ HN.out).mono ?_
  rintro e w2 ⟨rfl, rfl⟩
  go_wp2
  go_ret
  exact ⟨rfl, rfl⟩
theorem clone_v (p : Option Addr) (w : World) (h : NoR w p) : Calls Tryd.prog 18 #[.pointer p] w fun e w' => e = .returned (.pointer none) ∧ w' = w := by
  have HN := Lib.hid h
  clear h
  go_enter Tryd.func18, Tryd.ntmps18
  go_wp2_with fail
  refine (none_v p _ HN.out).mono ?_
  rintro e w2 ⟨rfl, rfl⟩
  go_wp2
  go_ret
  exact ⟨rfl, rfl⟩
theorem bytes_v (p : Option Addr) (w : World) (h : NoR w p) : Calls Tryd.prog 26 #[.pointer p] w fun e w' => e = .returned (.slice none 0 0) ∧ w' = w := by
  have HN := Lib.hid h
  clear h
  go_enter Tryd.func26, Tryd.ntmps26
  go_wp2_with fail
  refine (none_v p _ HN.out).mono ?_
  rintro e w2 ⟨rfl, rfl⟩
  go_wp2
  go_ret
  exact ⟨rfl, rfl⟩
theorem all_v (p : Option Addr) (w : World) : Calls Tryd.prog 10 #[.pointer p] w fun e w' => e = .returned (.func (.func 36) #[] #[.pointer (some ⟨w.heap.size, 0, none⟩)]) ∧ w' = w.alloc (.cells #[.pointer p] 23) := by
  go_enter Tryd.func10, Tryd.ntmps10
  go_wp2
  go_ret
  exact ⟨rfl, rfl⟩
theorem all1_v (y : Value) (b : Nat) (p : Option Addr) (w : World) (hc : w.cell? ⟨b, 0, none⟩ = some (.pointer p)) (h : NoR w p) : Calls Tryd.prog 36 #[y, .pointer (some ⟨b, 0, none⟩)] w fun e w' => (∃ v, e = .returned v) ∧ w' = w := by
  have HN := Lib.hid h
  clear h
  go_enter Tryd.func36, Tryd.ntmps36
  go_wp2_with fail
  refine (none_v p _ HN.out).mono ?_
  rintro e w2 ⟨rfl, rfl⟩
  go_wp2
  refine bodyPost_ret (results_none rfl _ _ _) rfl ?_
  exact ⟨⟨_, rfl⟩, rfl⟩
/-- Its iterator hands nothing over. -/
theorem all1_stops (n : Nat) (b : Nat) (p : Option Addr) (Kp : World → World → Prop) (w : World) (hc : w.cell? ⟨b, 0, none⟩ = some (.pointer p)) (h : NoR w p) :
    SeqStopsK Fence.wide n Tryd.prog 36 #[.pointer (some ⟨b, 0, none⟩)] (fun x : Empty => #[]) Kp (fun _ => True) (fun _ => True) 0 w := fun l J Jx W hW _ _ _ h0 => by
  have hlt : b < w.heap.size := (cell_lt hc)
  exact callsIn_wide.2 ((all1_v _ b p W ((World.cell?_of_block (w := w) (a := ⟨b, 0, none⟩) (hW.block b hlt)).trans hc) (h.below hW)).mono fun e W' h1 => ⟨h1.1, .inl ⟨[], trivial, by rw [h1.2]; exact h0⟩⟩)
theorem root_v (p : Option Addr) (w : World) (h : NoR w p) : Calls Tryd.prog 12 #[.pointer p] w fun e w' => e = .returned (.tuple #[.agg (bv (List.replicate 32 0)), .int .i64 1]) ∧ Below w.heap.size w w' := by
  have HS0 := Sep.start w
  have HN := Lib.hid h
  clear h
  refine calls_marks Tryd.func12 rfl ?_
  simp only [Tryd.ntmps12, List.size_toArray, List.length_cons, List.length_nil, Nat.reduceAdd, Nat.reduceSub, Array.replicate_succ, Array.replicate_zero, List.push_toArray, List.append_toArray, List.nil_append, List.cons_append]
  go_wp2_with (first | refine wl_al HS0 rfl 33 rfl (bv (List.replicate 32 0)) (by kernel_rfl) ?_)
  intro g1 w1 HS1
  have hn := HN.out.below HS1.hb
  clear HS0
  go_wp2_with fail
  refine (none_v p _ hn).mono ?_
  rintro e w2 ⟨rfl, rfl⟩
  go_wp2_with (first | refine wl_st HS1 0 rfl rfl 33 _ _ rfl rfl (cs := (bv (List.replicate 32 0))) rfl (dgz rfl) rfl (bv_one _) ?_)
  intro w3 HS3
  go_wp2
  exact ret_row_tmpM rfl rfl g1 rfl 33 (bv (List.replicate 32 0)) (0, 0) _ (HS3.row 0 rfl) Tryd.underlying33 rfl (dgz rfl) (.int .i64 1) rfl ⟨rfl, HS3.hb⟩
theorem span_v (p : Option Addr) (w : World) (h : NoR w p) : Calls Tryd.prog 24 #[.pointer p] w fun e w' => e = .returned (.agg #[.int .i64 0, .int .i64 0]) ∧ Below w.heap.size w w' := by
  have HS0 := Sep.start w
  have HN := Lib.hid h
  clear h
  go_enter Tryd.func24, Tryd.ntmps24
  go_wp2_with (first | refine wl_al HS0 rfl 26 rfl #[.int .i64 0, .int .i64 0] (by kernel_rfl) ?_)
  intro g1 w1 HS1
  have hn := HN.out.below HS1.hb
  clear HS0
  go_wp2_with fail
  refine (none_v p _ hn).mono ?_
  rintro e w2 ⟨rfl, rfl⟩
  go_wp2_with (first | refine wl_st HS1 0 rfl rfl 26 _ _ rfl rfl (cs := #[.int .i64 0, .int .i64 0]) rfl (by kernel_rfl) rfl (by simp [Value.oneCell']) ?_)
  intro w3 HS3
  go_wp2
  exact ret_row rfl rfl g1 rfl 26 #[.int .i64 0, .int .i64 0] (0, 0) _ (HS3.row 0 rfl) Tryd.underlying26 rfl (by kernel_rfl) ⟨rfl, HS3.hb⟩
set_option maxRecDepth 100000 in
theorem appendNode_v (p : Option Addr) (l : Int) (d : List UInt8) (hd : d.length = 32) (w : World) (h : NoR w p) : Calls Tryd.prog 17 #[.pointer p, .int .i64 l, .agg (bv d)] w fun e w' => e = .returned (.int .i64 1) ∧ Below w.heap.size w w' := by
  have HS0 := Sep.start w
  have HN := Lib.hid h
  clear h
  go_enter Tryd.func17, Tryd.ntmps17
  go_wp2_with (first | refine wl_bx HS0 rfl 33 _ rfl (bv d) rfl ?_)
  intro g1 w1 HS1
  have hn := HN.out.below HS1.hb
  clear HS0
  go_wp2_with fail
  refine (none_v p _ hn).mono ?_
  rintro e w2 ⟨rfl, rfl⟩
  go_wp2
  go_ret
  exact ⟨rfl, HS1.hb⟩
theorem append_v (p : Option Addr) (d : List UInt8) (hd : d.length = 32) (w : World) (h : NoR w p) : Calls Tryd.prog 21 #[.pointer p, .agg (bv d)] w fun e w' => e = .returned (.int .i64 1) ∧ Below w.heap.size w w' := by
  have HS0 := Sep.start w
  have HN := Lib.hid h
  clear h
  go_enter Tryd.func21, Tryd.ntmps21
  go_wp2_with (first | refine wl_bx HS0 rfl 33 _ rfl (bv d) rfl ?_)
  intro g1 w1 HS1
  have hn := HN.out.below HS1.hb
  clear HS0
  go_wp2_with (first | refine wl_ld HS1 0 rfl rfl 33 _ rfl rfl Tryd.underlying33 rfl (dgz hd) ?_)
  refine (appendNode_v p 0 d hd w1 hn).mono ?_
  rintro e w2 ⟨rfl, b2⟩
  have HS2 := HS1.keep b2
  go_wp2
  go_ret
  exact ⟨rfl, HS2.hb⟩
theorem merge_vl (p : Option Addr) (o : Value) (w : World) (h : NoR w p) : Calls Tryd.prog 22 #[.pointer p, o] w fun e w' => e = .returned (.int .i64 1) ∧ Below w.heap.size w w' := by
  have HS0 := Sep.start w
  have HN := Lib.hid h
  clear h
  refine calls_marks Tryd.func22 rfl ?_
  simp only [Tryd.ntmps22, List.size_toArray, List.length_cons, List.length_nil, Nat.reduceAdd, Nat.reduceSub, Array.replicate_succ, Array.replicate_zero, List.push_toArray, List.append_toArray, List.nil_append, List.cons_append]
  go_wp2_with (first | refine wlc_bx HS0 rfl 23 _ rfl (.pointer p) rfl rfl ?_)
  intro g1 w1 HS1
  have hn := HN.out.below HS1.hb
  have c1 : w1.cell? ⟨g1, 0, none⟩ = some (.pointer p) := by rw [row_cell (HS1.row 0 rfl)]; rfl
  clear HS0
  go_wp2_with fail
  refine (none_v p _ hn).mono ?_
  rintro e w2 ⟨rfl, rfl⟩
  go_wp2
  exact calls_marks_tmp rfl rfl ⟨rfl, HS1.hb⟩
theorem merge_vr (g : Nat) (p : Option Addr) (w : World) (hg : w.cell? ⟨g, 0, none⟩ = some (.bool true)) (h : NoR w p) : Calls Tryd.prog 22 #[.pointer (some ⟨g, 0, none⟩), .pointer p] w fun e w' => e = .returned (.int .i64 1) ∧ Below w.heap.size w w' := by
  have HS0 := Sep.start w
  have HN := Lib.hid h
  have hlt : g < w.heap.size := (cell_lt hg)
  have HG := Lib.hid hg
  clear h hg
  refine calls_marks Tryd.func22 rfl ?_
  simp only [Tryd.ntmps22, List.size_toArray, List.length_cons, List.length_nil, Nat.reduceAdd, Nat.reduceSub, Array.replicate_succ, Array.replicate_zero, List.push_toArray, List.append_toArray, List.nil_append, List.cons_append]
  go_wp2_with (first | refine wlc_bx HS0 rfl 23 _ rfl (.pointer (some ⟨g, 0, none⟩)) rfl rfl ?_)
  intro g1 w1 HS1
  have hn := HN.out.below HS1.hb
  have hg := (World.cell?_of_block (w := w) (a := ⟨g, 0, none⟩) (HS1.hb.block g hlt)).trans HG.out
  have HG1 := Lib.hid hg
  have c1 : w1.cell? ⟨g1, 0, none⟩ = some (.pointer (some ⟨g, 0, none⟩)) := by rw [row_cell (HS1.row 0 rfl)]; rfl
  clear HS0 hg
  go_wp2_with fail
  refine (none_f g _ HG1.out).mono ?_
  rintro e w2 ⟨rfl, rfl⟩
  go_wp2_with fail
  refine (none_v p _ hn).mono ?_
  rintro e w2 ⟨rfl, rfl⟩
  go_wp2
  exact calls_marks_tmp rfl rfl ⟨rfl, HS1.hb⟩
/-- The empty range at a leaf. -/
theorem new_c {B : Nat} {w0 w : World} {R : List Pc} (b : Int) (hb0 : 0 ≤ b) (hb : b ≤ 281474976710656) (HS : Sep B w0 w R) : Calls Tryd.prog 14 #[.int .i64 b] w fun e w' => ∃ g, e = .returned (.tuple #[.pointer (some ⟨g, 0, none⟩), .int .i64 0]) ∧ Sep B w0 w' (.row g #[.bool true, .int .i64 b, .int .i64 b, .slice none 0 0] 61 :: R) := by
  have h1 : decide (b < 0) = false := decide_eq_false (by omega)
  have h2 : decide ((281474976710656 : Int) < b) = false := decide_eq_false (by omega)
  go_enter Tryd.func14, Tryd.ntmps14
  go_wp2_with (first | refine wl_bx HS rfl 61 _ rfl #[.bool true, .int .i64 b, .int .i64 b, .slice none 0 0] rfl ?_)
  intro g1 w1 HS1
  go_wp2
  go_ret2
  exact ⟨g1, rfl, HS1⟩
end Go.Proofs.YtlhebogbbkjahaaDoor
namespace Go.Proofs.YtlhebogbbkjahaaDoor
open Go.RowKit Go.Shelf Cop
set_option linter.unusedVariables false
set_option linter.unusedSimpArgs false
section
variable {w0 w w' W : World} {B : Nat} {R : List Pc}
theorem _root_.Cop.Sep.putD (h : Sep B w0 W R) (hpl : plainL R = true) {D : Nat} {o : Obj} (hB : B ≤ D) (hD : W.heap[D]? = some o) (hc : o.isCells = false) (o' : Obj) : Sep B w0 (W.putObj D o') R :=
  h.other hpl (grownBy_putObj' W D o') (fun r e => by cases e; exact ⟨hB, o, hD, hc⟩)
/-- An object that is no cells is known too. -/
theorem _root_.Cop.Sep.addObj (h : Sep B w0 W R) (hpl : plainL R = true) {D : Nat} {o : Obj} (hD : W.heap[D]? = some o) (hc : o.isCells = false) : Sep B w0 W (.obj D o :: R) := by
  refine ⟨h.hb, h.hB, fun p hp => ?_, List.pairwise_cons.2 ⟨fun q hq => ?_, h.far⟩⟩
  · rcases List.mem_cons.1 hp with rfl | hp
    · exact hD
    · exact h.all p hp
  · refine .inr fun k hk hk2 => ?_
    cases hk
    obtain ⟨cs, t, fr, h2⟩ := Pc.cells (by simpa using List.all_eq_true.1 hpl q hq) (h.all q hq) _ hk2
    rw [hD] at h2
    injection h2 with h2
    subst h2
    cases hc
/-- AppendNode, whatever is put behind. -/
theorem appendNode_n (nd : List UInt8 → List UInt8 → List UInt8) (hnd : ∀ a b, (nd a b).length = 32) (g b e l : Nat) (d : List UInt8) (v : Value) (s : List Prt) (hd : d.length = 32) (hgd : GoodR b e s)
    (hCN : ∀ w' a b, Below B w0 w' → a.length = 32 → b.length = 32 → Gives 42 #[.agg (bv a), .agg (bv b)] w' (.agg (bv (nd a b))))
    (HS : Sep B w0 w (.row g (rgv b e v) 61 :: .own v 99 34 s.length (rcs s) :: R)) :
    Calls Tryd.prog 17 #[.pointer (some ⟨g, 0, none⟩), .int .i64 l, .agg (bv d)] w fun r w' => (∃ er : Int, r = .returned (.int .i64 er) ∧ (er = 0 ↔ Fits e l)) ∧ RgAt B w0 g b (appN nd (e, s) l d).1 (appN nd (e, s) l d).2 R w' := by
  by_cases h1 : l ≤ 48
  · by_cases h2 : e % 2 ^ l = 0
    · by_cases h3 : e + 2 ^ l ≤ 281474976710656
      · have hf : Fits e l := ⟨h1, h2, h3⟩
        have he : appN nd (e, s) l d = (e + 2 ^ l, carry nd s (l, e / 2 ^ l, d)) := by unfold appN; rw [if_pos hf]
        rw [he]
        refine (appendNode_a nd hnd B w0 w g b e l d v s R hd hgd.2.2.2 hgd.len h1 h2 h3 hCN HS).mono ?_
        rintro r w' ⟨rfl, h⟩
        exact ⟨⟨0, rfl, by simp [hf]⟩, h⟩
      · have hf : ¬ Fits e l := fun h => h3 h.2.2
        have he : appN nd (e, s) l d = (e, s) := by unfold appN; rw [if_neg hf]
        rw [he]
        refine (appendNode_big e l d hd h1 hgd.2.1 h2 (by omega) 0 rfl HS).mono ?_
        rintro r w' ⟨rfl, h⟩
        exact ⟨⟨3, rfl, by simp [hf]⟩, v, h⟩
    · have hf : ¬ Fits e l := fun h => h2 h.2.1
      have he : appN nd (e, s) l d = (e, s) := by unfold appN; rw [if_neg hf]
      rw [he]
      refine (appendNode_apart e l d hd h1 hgd.2.1 h2 0 rfl HS).mono ?_
      rintro r w' ⟨rfl, h⟩
      exact ⟨⟨50, rfl, by simp [hf]⟩, v, h⟩
  · have hf : ¬ Fits e l := fun h => h1 h.1
    have he : appN nd (e, s) l d = (e, s) := by unfold appN; rw [if_neg hf]
    rw [he]
    refine (appendNode_arg (l : Int) d hd (by omega) 0 rfl HS).mono ?_
    rintro r w' ⟨rfl, h⟩
    exact ⟨⟨2, rfl, by simp [hf]⟩, v, h⟩
theorem new_row (W : World) (cs0 cs : Array Value) (t : TypeId) : Below W.heap.size W ((W.alloc (.cells cs0 t)).setRow W.heap.size cs) ∧ ((W.alloc (.cells cs0 t)).setRow W.heap.size cs).heap[W.heap.size]? = some (.cells cs t (0, 0)) :=
  ⟨((Below.refl _ W).alloc (Nat.le_refl _) _).trans ⟨rfl, rfl, rfl, by simp, fun k hk => setRow_other _ _ k _ (by omega)⟩, setRow_heap _ _ _ _ _ _ (heap_alloc_new W _)⟩
/-- A range whose parts were put behind another one's. -/
def MergeI (nd : List UInt8 → List UInt8 → List UInt8) (B : Nat) (w0 : World) (g b : Nat) (x : Nat × List Prt) (R : List Pc) (pre : List QK) (W : World) : Prop := RgAt B w0 g b (putAll nd x (pre.map fun x => x.1)).1 (putAll nd x (pre.map fun x => x.1)).2 R W
theorem own_mergeI {nd : List UInt8 → List UInt8 → List UInt8} {g b : Nat} {x : Nat × List Prt} {n : Nat} (hn : B ≤ n) (hpl : plainL R = true) : OwnFrom n (MergeI nd B w0 g b x R) := fun pre W W' row h hg hr => by
  obtain ⟨v, hS⟩ := h
  exact ⟨v, hS.other hpl hg fun r e => ⟨Nat.le_trans hn (hr r e).1, (hr r e).2⟩⟩
theorem qkA_eq (T : Array Value) (x : QK) (p q : Tmp) : ((#[p, q] : Array Tmp).zip (qkE x)).foldl (fun t (p, v) => t.setIfInBounds p v) T = (T.setIfInBounds p (.agg #[.int .i64 (x.1.1 : Int), .int .i64 (x.1.2.1 : Int)])).setIfInBounds q (.agg (bv x.1.2.2)) := by
  simp [qkE]
/-- What the two variables of a round hold. -/
def PairAt (n₀ : Nat) (x : QK) (g5 g6 : Nat) (W : World) : Prop := n₀ ≤ g5 ∧ n₀ ≤ g6 ∧ W.heap[g5]? = some (.cells #[.int .i64 (x.1.1 : Int), .int .i64 (x.1.2.1 : Int)] 31 (0, 0)) ∧ W.heap[g6]? = some (.cells (bv x.1.2.2) 33 (0, 0))
theorem own_pair {n₀ n : Nat} {x : QK} {g5 g6 : Nat} : OwnFrom n (fun (_ : Unit) W => PairAt n₀ x g5 g6 W) := fun _ W W' row h hg hr => by
  obtain ⟨h1, h2, h3, h4⟩ := h
  refine ⟨h1, h2, (hg.block g5 (Array.getElem?_eq_some_iff.1 h3).1 fun e => ?_).trans h3, (hg.block g6 (Array.getElem?_eq_some_iff.1 h4).1 fun e => ?_).trans h4⟩
  · obtain ⟨_, o, ho, hco⟩ := hr g5 e.symm
    rw [h3] at ho
    injection ho with ho
    subst ho
    cases hco
  · obtain ⟨_, o, ho, hco⟩ := hr g6 e.symm
    rw [h4] at ho
    injection ho with ho
    subst ho
    cases hco
set_option maxRecDepth 100000 in
set_option maxHeartbeats 4000000 in
theorem merge_a (nd : List UInt8 → List UInt8 → List UInt8) (hnd : ∀ a b, (nd a b).length = 32) (g go b e f : Nat) (v v' : Value) (s t : List Prt) (hpl : plainL R = true) (hgs : GoodR b e s) (hgt : GoodR e f t)
    (hCN : ∀ w' a b, Below B w0 w' → a.length = 32 → b.length = 32 → Gives 42 #[.agg (bv a), .agg (bv b)] w' (.agg (bv (nd a b))))
    (HS : Sep B w0 w (.row g (rgv b e v) 61 :: .own v 99 34 s.length (rcs s) :: .row go (rgv e f v') 61 :: .own v' 99 34 t.length (rcs t) :: R)) :
    Calls Tryd.prog 22 #[.pointer (some ⟨g, 0, none⟩), .pointer (some ⟨go, 0, none⟩)] w fun r w' => r = .returned (.int .i64 0) ∧ RgAt B w0 g b f (putAll nd (e, s) t.reverse).2 (.row go (rgv e f v') 61 :: .own v' 99 34 t.length (rcs t) :: R) w' := by
  have HND := Lib.hid hnd
  have CN := Lib.hid hCN
  have HGS := Lib.hid hgs
  have HGT := Lib.hid hgt
  clear hnd hCN hgs hgt
  refine calls_marks Tryd.func22 rfl ?_
  simp only [Tryd.ntmps22, List.size_toArray, List.length_cons, List.length_nil, Nat.reduceAdd, Nat.reduceSub, Array.replicate_succ, Array.replicate_zero, List.push_toArray, List.append_toArray, List.nil_append, List.cons_append]
  go_wp2_with (first | refine wlc_bx HS rfl 23 _ rfl (.pointer (some ⟨g, 0, none⟩)) rfl rfl ?_)
  intro g2 w1 HS1
  have c2 := (row_cell (HS1.row 0 rfl) 0).trans (show (#[Value.pointer (some ⟨g, 0, none⟩)] : Array Value)[0]? = some (.pointer (some ⟨g, 0, none⟩)) from rfl)
  clear HS
  go_wp2_with fail
  refine (none_r 1 rfl HS1).mono ?_
  rintro r w2 ⟨rfl, rfl⟩
  go_wp2_with fail
  refine (none_r 3 rfl HS1).mono ?_
  rintro r w3 ⟨rfl, rfl⟩
  clear c2
  go_wp2
  refine Cop.region_ord (fun w' => Sep B w0 w' (.row g2 #[.pointer (some ⟨g, 0, none⟩)] 23 :: .row g (rgv b e v) 61 :: .own v 99 34 s.length (rcs s) :: .row go (rgv e f v') 61 :: .own v' 99 34 t.length (rcs t) :: R)) 11 (.take 0 (.take 1 (.take 2 (.take 3 (.take 4 (.take 5 (.take 6 (.take 7 (.take 8 (.take 9 (.take 10 (.take 11 Cop.Ord.fin)))))))))))) (by kernel_rfl) (by kernel_rfl) (fun _ _ d _ _ h => by cases d <;> exact h) ?_
  intro wa hda
  have HSa := HS1.keep hda
  clear HS1
  (repeat (first | (refine Cop.og_skip rfl rfl HSa _ (by (simp only [Act.put, List.setIfInBounds_toArray, List.set_cons_succ, List.set_cons_zero]; rfl)) ?_) | (refine Cop.og_take rfl rfl HSa ?_; apply Exists.intro; refine ⟨fun w9 h9 => ?_, _, by (simp only [Act.put, List.setIfInBounds_toArray, List.set_cons_succ, List.set_cons_zero]; rfl), ?_⟩; (have c2 := (row_cell (h9.row 0 rfl) 0).trans (show (#[Value.pointer (some ⟨g, 0, none⟩)] : Array Value)[0]? = some (.pointer (some ⟨g, 0, none⟩)) from rfl); have c0 := rg_e h9 1 rfl; have c1 := rg_b h9 3 rfl; go_simp; with_reducible rfl))))
  refine og_fin ?_
  go_wp2_with fail
  refine (all_c _ wa).mono ?_
  rintro r wb ⟨rfl, rfl⟩
  have HSb := HSa.skip (.cells #[.pointer (some ⟨go, 0, none⟩)] 23)
  have hcb : (wa.alloc (.cells #[.pointer (some ⟨go, 0, none⟩)] 23)).cell? ⟨wa.heap.size, 0, none⟩ = some (.pointer (some ⟨go, 0, none⟩)) := by
    rw [row_cell (heap_alloc_new wa _) 0]; rfl
  obtain ⟨Bs, hBs⟩ : ∃ k, wa.heap.size = k := ⟨_, rfl⟩
  rw [hBs] at hcb ⊢
  generalize wa.alloc (.cells #[.pointer (some ⟨go, 0, none⟩)] 23) = wb at HSb hcb ⊢
  clear HSa hda hBs
  go_wp2_with fail
  have HSI := (HSb.front 2).front 2
  have hgl : g < wb.heap.size := (Array.getElem?_eq_some_iff.1 (HSb.row 1 rfl)).1
  have HLT := Lib.hid (fun p hp k hk => HSI.lt (p := p) hp k hk)
  have hown : ∀ k, Owns g 3 wb k → k < wb.heap.size := fun k hk => by
    rcases hk with rfl | ⟨u, hu, hv⟩
    · exact hgl
    · rw [rg_v HSb 1 rfl] at hu
      injection hu with hu
      subst hu
      exact HLT.out (.own v 99 34 s.length (rcs s)) (List.mem_cons_of_mem _ List.mem_cons_self) k hv
  have hst := all1_stopsR 8 (by decide) Bs g 3 go e f v' t HGT.out.2.2.2 (by have := HGT.out.len; omega) wb hgl hcb (HSb.row 3 rfl) (HSb.own 4 rfl).rd hown
  have hBw : B ≤ wb.heap.size := HSb.hB
  clear HSb hcb hown
  refine rf_intro ?_
  intro a0 ha0
  refine (wpIn_wide (n := 9)).1 ?_
  refine wpIn_rangeFunc_ownH (F := Fence.wide) rfl (by decide) (gf := 36) (lb := #[.pointer (some ⟨Bs, 0, none⟩)]) (by rw [ha0]; rfl) trivial (enters_of Tryd.func36 (by kernel_rfl) rfl)
    hst Stays.trans (stays_b hgl) (Below.refl _ _) (fun _ => rfl)
    (fun pre W => MergeI nd B w0 g b (e, s) (.row g2 #[.pointer (some ⟨g, 0, none⟩)] 23 :: .row go (rgv e f v') 61 :: .own v' 99 34 t.length (rcs t) :: R) pre W ∧ wb.heap.size ≤ W.heap.size) (fun _ _ _ => False)
    (OwnFrom.and (own_mergeI hBw hpl) (fun _ W W' row hs hg hr => Nat.le_trans hs hg.size)) (fun _ _ _ _ _ hs _ _ => hs) ⟨⟨v, HSI⟩, Nat.le_refl _⟩
    (fun x a' W => ∃ g5 g6, PairAt wb.heap.size x g5 g6 W ∧ a' = { tmps := ((((#[28, 29] : Array Tmp).zip (qkE x)).foldl (fun t (p, v) => t.setIfInBounds p v) a0.tmps).setIfInBounds 5 (.pointer (some ⟨g5, 0, none⟩))).setIfInBounds 6 (.pointer (some ⟨g6, 0, none⟩)), defers := [] })
    (fun x a' _ W W' row hs hg hr => by
      obtain ⟨g5, g6, h1, h2⟩ := hs
      exact ⟨g5, g6, own_pair () W W' row h1 hg hr, h2⟩) ?assign ?body ?done ?stop
  case assign =>
    rintro li pre x W K ⟨⟨vk, HSq⟩, hsz⟩ hK
    rw [qkA_eq, ha0]
    simp only [List.setIfInBounds_toArray, List.set_cons_succ, List.set_cons_zero]
    have hxl := x.2
    refine wpIn_seq_k fun K1 hK1 => ?_
    refine region_round (by rintro ⟨_, _, h⟩; exact h) (by kernel_rfl) ?_
    go_wp2_with (first | refine wl_alx rfl 31 rfl #[.int .i64 0, .int .i64 0] (by kernel_rfl) ?_ | refine wl_store_row rfl 31 _ _ rfl W.heap.size rfl 31 #[.int .i64 0, .int .i64 0] #[.int .i64 (x.1.1 : Int), .int .i64 (x.1.2.1 : Int)] rfl (heap_alloc_new W _) (by kernel_rfl) rfl (by simp [Value.oneCell']) ?_)
    obtain ⟨hb1, hr1⟩ := new_row W #[.int .i64 0, .int .i64 0] #[.int .i64 (x.1.1 : Int), .int .i64 (x.1.2.1 : Int)] 31
    obtain ⟨g5, hg5⟩ : ∃ k, W.heap.size = k := ⟨_, rfl⟩
    rw [hg5] at hr1
    simp only [hg5] at hb1 ⊢
    generalize (W.alloc (.cells #[.int .i64 0, .int .i64 0] 31)).setRow g5 #[.int .i64 (x.1.1 : Int), .int .i64 (x.1.2.1 : Int)] = W1 at hb1 hr1 ⊢
    refine region_round (by rintro ⟨_, _, h⟩; exact h) (by kernel_rfl) ?_
    go_wp2_with (first | refine wl_alx rfl 33 rfl (bv (List.replicate 32 0)) (by kernel_rfl) ?_ | refine wl_store_row rfl 33 _ _ rfl W1.heap.size rfl 33 (bv (List.replicate 32 0)) (bv x.1.2.2) rfl (heap_alloc_new W1 _) (dgS hxl) (dgE rfl hxl) (bv_one _) ?_)
    obtain ⟨hb2, hr2⟩ := new_row W1 (bv (List.replicate 32 0)) (bv x.1.2.2) 33
    obtain ⟨g6, hg6⟩ : ∃ k, W1.heap.size = k := ⟨_, rfl⟩
    have hs1 := hb1.size
    rw [hg6] at hr2
    simp only [hg6] at hb2 ⊢
    have h56 : g5 < g6 := by rw [← hg6]; exact (Array.getElem?_eq_some_iff.1 hr1).1
    generalize (W1.alloc (.cells (bv (List.replicate 32 0)) 33)).setRow g6 (bv x.1.2.2) = W2 at hb2 hr2 ⊢
    have hb3 : Below g5 W W2 := hb1.trans (hb2.mono (by omega))
    have hb4 : Below W.heap.size W W2 := by rw [hg5]; exact hb3
    refine hK _ _ ((keeps_below hb4).from _) (stays_below (Nat.lt_of_lt_of_le hgl hsz) hb4) ⟨⟨vk, HSq.keep hb4⟩, Nat.le_trans hsz hb4.size⟩ ⟨g5, g6, ⟨by omega, by omega, (hb2.block g5 h56).trans hr1, hr2⟩, ?_⟩
    rw [qkA_eq, ha0]
    simp only [Act.put, List.setIfInBounds_toArray, List.set_cons_succ, List.set_cons_zero]
  case body =>
    rintro li pre x a' W hl hr ⟨⟨vk, HSq⟩, hsz⟩ ⟨g5, g6, ⟨h5, h6, r5, r6⟩, rfl⟩ hlen
    have hxl := x.2
    have hgk := good_putAll nd HND.out (b := b) (pre.map fun x => x.1) (e, s) (fun y hy => by
      obtain ⟨z, _, rfl⟩ := List.mem_map.1 hy
      exact z.2) HGS.out
    have hnext : putAll nd (e, s) ((pre ++ [x]).map fun x => x.1) = appN nd (putAll nd (e, s) (pre.map fun x => x.1)) x.1.1 x.1.2.2 := by rw [List.map_append]; exact putAll_snoc nd _ _ _
    obtain ⟨⟨ek, sk⟩, hek⟩ : ∃ y, putAll nd (e, s) (pre.map fun x => x.1) = y := ⟨_, rfl⟩
    rw [hek] at HSq hgk hnext
    have HSA := round_all HSq (n₀ := wb.heap.size) (fun p hp k hk => HLT.out p (by
      rcases List.mem_cons.1 hp with rfl | hp
      · exact List.mem_cons_of_mem _ (List.mem_cons_of_mem _ List.mem_cons_self)
      · exact List.mem_cons_of_mem _ (List.mem_cons_of_mem _ (List.mem_cons_of_mem _ hp))) k hk)
    have HAP := Lib.hid (appendNode_n (w := W) (w0 := W) nd HND.out g b ek x.1.1 x.1.2.2 vk sk hxl hgk (fun w' a b hb ha hb2 => CN.out w' a b (HSq.hb.trans hb) ha hb2) HSA)
    have c2 := (row_cell (HSq.row 2 rfl) 0).trans (show (#[Value.pointer (some ⟨g, 0, none⟩)] : Array Value)[0]? = some (.pointer (some ⟨g, 0, none⟩)) from rfl)
    have c5 := (row_cell r5 0).trans (show (#[Value.int .i64 (x.1.1 : Int), .int .i64 (x.1.2.1 : Int)] : Array Value)[0]? = some (.int .i64 (x.1.1 : Int)) from rfl)
    have HLD := Lib.hid (load_row (P := Tryd.prog) r6 33 Tryd.underlying33 rfl (dgS hxl))
    have HNX := Lib.hid hnext
    clear hek HSA hgk hnext
    rw [qkA_eq, ha0]
    simp only [List.setIfInBounds_toArray, List.set_cons_succ, List.set_cons_zero]
    refine wpIn_block ?_
    refine region_round (by rintro ⟨_, _, h⟩; exact h) (by kernel_rfl) ?_
    go_wp2_with (first | refine wl_ldx rfl 33 _ rfl _ rfl (.agg (bv x.1.2.2)) HLD.out ?_)
    (with_reducible refine Calls.mono HAP.out ?_)
    rintro r W3 ⟨⟨er, rfl, _⟩, v2, hS2⟩
    obtain ⟨q1, q2, q3⟩ := round_back (off := 3) HSq (rg_v HSq 0 rfl) hS2 (rg_v hS2 0 rfl)
    have HQ1 := Lib.hid q1
    have HQ2 := Lib.hid q2
    have HQ3 := Lib.hid q3
    clear q1 q2 q3 hS2 c2 c5 HSq
    go_wp2_with fail
    refine ⟨HQ3.out, HQ2.out, ?_, Nat.le_trans hsz HQ2.out.1⟩
    show RgAt _ _ _ _ _ _ _ _
    rw [HNX.out]
    exact ⟨v2, HQ1.out⟩
  case done =>
    rintro D ys W hD hys ⟨⟨vk, HSq⟩, hsz⟩ hK
    have h1 := putAll_good nd HGS.out HGT.out
    rw [hys] at HSq
    rw [h1] at HSq
    have hDB : B ≤ D := Nat.le_trans hBw hD
    have HHD := Lib.hid hK
    rw [ha0]
    clear hK hys
    go_wp2_with fail
    refine ret_tmpD rfl D rfl HHD.out ⟨rfl, vk, ?_⟩
    have HS9 := HSq.putD hpl hDB HHD.out rfl (.deferred none)
    exact HS9.sub (((List.Sublist.refl _).cons _).cons_cons _ |>.cons_cons _)
  case stop =>
    rintro D cc pre W hD _ h _
    exact h.elim
end
end Go.Proofs.YtlhebogbbkjahaaDoor
namespace Go.Proofs.YtlhebogbbkjahaaDoor
open Go.RowKit Go.Shelf Cop
set_option linter.unusedVariables false
set_option linter.unusedSimpArgs false
theorem ret_row_tmpD {P : Program} {F : Fence} {n : Nat} {fn : Func} {R : Ending → World → Prop} {a : Act} {w : World} {p q : Tmp} {ty : TypeId} (h : fn.results = #[.cell p ty, .tmp q]) (D : Nat) (hd0 : a.defers = [{ target := .collected D, args := #[] }]) (hD : w.heap[D]? = some (.deferred (some []))) (g : Nat) (hp : a.tmps.getD p undef = .pointer (some ⟨g, 0, none⟩))
    (t : TypeId) (cs : Array Value) (fr : Nat × Nat) (d : TypeDesc) (hg : w.heap[g]? = some (.cells cs t fr)) (hu : P.underlying ty = some d) (hd : (match d with | .struct _ | .array _ _ => true | _ => false) = true) (hi : (P.info? ty).map (·.size) = some cs.size)
    (v : Value) (hv : a.tmps.getD q undef = v) (hR : R (.returned (.tuple #[.agg cs, v])) (w.putObj D (.deferred none))) : bodyPostM F n P fn R .ret a w := by
  show LeavesInM F n P fn a.tmps R a.defers .returning w
  rw [hd0]
  refine ⟨by simp, .inl ⟨_, _, rfl, run_takeDeferred hD, ?_⟩⟩
  have hne : g ≠ D := fun e => by rw [e, hD] at hg; cases hg
  have hld := run_loadVar_row (P := P) (w.putObj D (.deferred none)) g t ty cs fr d ((World.putObj_heap_other hne).trans hg) hu (by revert hd; cases d <;> simp) hi
  have hp2 : a.tmps[p]?.getD undef = .pointer (some ⟨g, 0, none⟩) := by rw [← hp]; simp
  have hv2 : a.tmps[q]?.getD undef = v := by rw [← hv]; simp
  refine ⟨.tuple #[.agg cs, v], ?_, hR⟩
  simp only [results, h]
  simp [Sem.run_bind, Result.andThen, hp2, asAddr, hld, hv2]
theorem foldl_lenR (nd : List UInt8 → List UInt8 → List UInt8) (hnd : ∀ a b, (nd a b).length = 32) (s : List Prt) (d : List UInt8) (hd : d.length = 32) : (s.foldl (fun acc q => nd q.2.2 acc) d).length = 32 := by
  induction s generalizing d with
  | nil => exact hd
  | cons p s ih => exact ih _ (hnd _ _)
section
variable {w0 w w' W : World} {B : Nat} {R : List Pc}
set_option maxRecDepth 100000 in
set_option maxHeartbeats 4000000 in
theorem root_r (nd : List UInt8 → List UInt8 → List UInt8) (em : List UInt8) (hnd : ∀ a b, (nd a b).length = 32) (hem : em.length = 32) (i j g e : Nat) (v : Value) (s : List Prt) (hs : All32 s) (hl : s.length ≤ 96)
    (hCE : ∀ w', Below w.heap.size w w' → Gives 40 #[] w' (.agg (bv em)))
    (hCN : ∀ w' a b, Below w.heap.size w w' → a.length = 32 → b.length = 32 → Gives 42 #[.agg (bv a), .agg (bv b)] w' (.agg (bv (nd a b))))
    (hi : R[i]? = some (.row g (rgv 0 e v) 61)) (hj : R[j]? = some (.own v 99 34 s.length (rcs s))) (HS : Sep B w0 w R) :
    Gives 12 #[.pointer (some ⟨g, 0, none⟩)] w (.tuple #[.agg (bv (foldS nd s em)), .int .i64 0]) := by
  have CE := Lib.hid hCE
  have CN := Lib.hid hCN
  have HND := Lib.hid hnd
  have HEM := Lib.hid hem
  have HSS := Lib.hid hs
  have hgr := HS.row i hi
  have hgl : g < w.heap.size := (Array.getElem?_eq_some_iff.1 hgr).1
  have HG := Lib.hid (fun (W : World) (hb : Below w.heap.size w W) (o : Nat) => (World.cell?_of_block (w := w) (a := ⟨g, o, none⟩) (hb.block g hgl)))
  have HC0 := Lib.hid (show w.cell? ⟨g, 0, none⟩ = some (.bool true) by rw [row_cell hgr]; rfl)
  have HC1 := Lib.hid (rg_b HS i hi)
  have HC3 := Lib.hid (rg_v HS i hi)
  have HOW := Lib.hid (HS.own j hj)
  have hBw := HS.hB
  have HS0 := Sep.start w
  clear hCE hCN hnd hem hs hgr HS hi hj
  obtain ⟨A0, c0', rfl, hc0'⟩ := HOW.out.sl
  refine calls_marks Tryd.func12 rfl ?_
  simp only [Tryd.ntmps12, List.size_toArray, List.length_cons, List.length_nil, Nat.reduceAdd, Nat.reduceSub, Array.replicate_succ, Array.replicate_zero, List.push_toArray, List.append_toArray, List.nil_append, List.cons_append]
  go_wp2_with (first | refine wl_al HS0 rfl 33 rfl (bv (List.replicate 32 0)) (by kernel_rfl) ?_)
  intro g2 w1 HS1
  clear HS0
  have hc0 := (HG.out w1 HS1.hb 0).trans HC0.out
  have hc1 := (HG.out w1 HS1.hb 1).trans HC1.out
  have hc3 := (HG.out w1 HS1.hb 3).trans HC3.out
  go_wp2_with fail
  refine (none_c g w1 hc0).mono ?_
  rintro r w2 ⟨rfl, rfl⟩
  cases s with
  | nil =>
    go_wp2_with fail
    (with_reducible refine Calls.mono (CE.out w2 HS1.hb) ?_)
    rintro e w3 ⟨rfl, b3⟩
    have HS3 := HS1.keep b3
    clear HS1
    go_wp2_with (first | refine wl_st HS3 0 rfl rfl 33 _ _ rfl rfl rfl (dgS HEM.out) (dgE rfl HEM.out) (bv_one _) ?_)
    intro w4 HS4
    go_wp2_with fail
    exact ret_row_tmpM rfl rfl g2 rfl 33 (bv em) (0, 0) _ (HS4.row 0 rfl) Tryd.underlying33 rfl (dgS HEM.out) (.int .i64 0) rfl ⟨rfl, HS4.hb⟩
  | cons p s =>
    obtain ⟨pl, px, pd⟩ := p
    obtain ⟨m, hm⟩ : ∃ m, s.length = m := ⟨_, rfl⟩
    obtain ⟨gp, rfl⟩ := Ow.addr HOW.out (by simp)
    have hpd : pd.length = 32 := HSS.out.head
    have hcap : m + 1 ≤ c0' := by rw [← hm]; exact hc0'
    have hgpl : gp < w.heap.size := (Ow.lt HOW.out gp (by simp [vblk, show c0' ≠ 0 by omega])).2
    have HCELL := Lib.hid (fun (W : World) (hb : Below w.heap.size w W) (o : Nat) (u : Value) (hu : (rcs ((pl, px, pd) :: s))[o]? = some u) => (World.cell?_of_block (w := w) (a := ⟨gp, o, none⟩) (hb.block gp hgpl)).trans (own_cell HOW.out o hu))
    have hld := load_cells (P := Tryd.prog) (w := w2) (g := gp) (off := m * 34 + 2) (bv pd) (fun o u hu => HCELL.out w2 HS1.hb _ u (by
      rw [Nat.add_assoc, ← hm, rcs_top HSS.out (2 + o), prv_mid]; exact hu)) 33 Tryd.underlying33 rfl (dgS hpd)
    have HLX := Lib.hid hld
    have hlen : s.length + 1 = m + 1 := by rw [hm]
    rw [show ((pl, px, pd) :: s).length = m + 1 by rw [List.length_cons, hm]] at hc3 hl
    have HM := Lib.hid hm
    have hm0 : (0 : Int) < (m : Int) + 1 := by omega
    have hm1 : (m : Int) < (m : Int) + 1 := by omega
    clear hm hld hlen hc0'
    go_wp2_with (first | refine wl_ldx rfl 33 _ rfl _ rfl (.agg (bv pd)) HLX.out ?_ | refine wl_al HS1 rfl 33 rfl (bv (List.replicate 32 0)) (by kernel_rfl) ?_)
    intro g7 w5 HS5
    go_wp2_with (first | refine wl_st HS5 0 rfl rfl 33 _ _ rfl rfl rfl (dgS hpd) (dgE rfl hpd) (bv_one _) ?_)
    intro w6 HS6
    have hc3 := (HG.out w6 HS6.hb 3).trans HC3.out
    rw [show ((pl, px, pd) :: s).length = m + 1 by rw [List.length_cons, HM.out]] at hc3
    obtain ⟨mw, hmw⟩ : ∃ x, wrap64 (m : Int) = x := ⟨_, rfl⟩
    have hmw2 : mw = (m : Int) := by rw [← hmw]; unfold wrap64; omega
    have hm2 : (0 : Int) ≤ mw := by omega
    have hm3 : mw ≤ (c0' : Int) := by omega
    have HMW := Lib.hid (show mw.toNat = m by omega)
    clear hmw2 HS5 hc0 hc1
    go_wp2_with fail
    refine (backwardR_a (some ⟨gp, 0, none⟩) m c0' w6).mono ?_
    rintro e wz ⟨rfl, rfl⟩
    go_wp2_with fail
    have hg7 : g7 < w6.heap.size := (Array.getElem?_eq_some_iff.1 (HS6.row 0 rfl)).1
    have hsz6 := HS6.hb.size
    have hne : gp ≠ g7 := by
      have h7 : w.heap.size ≤ g7 := (HS6.all _ List.mem_cons_self).1
      omega
    have hgo : gp < w6.heap.size := by omega
    have HSw := HS6.skip (.cells #[.slice (some ⟨gp, 0, none⟩) m c0'] 59)
    have hBs : (w6.alloc (.cells #[.slice (some ⟨gp, 0, none⟩) m c0'] 59)).cell? ⟨w6.heap.size, 0, none⟩ = some (.slice (some ⟨gp, 0, none⟩) s.length c0') := by
      rw [row_cell (heap_alloc_new w6 _) 0, HM.out]; rfl
    have hcs : ∀ o u, (rcs s)[o]? = some u → (w6.alloc (.cells #[.slice (some ⟨gp, 0, none⟩) m c0'] 59)).cell? ⟨gp, o, none⟩ = some u := fun o u hu => HCELL.out _ HSw.hb o u (by
      rw [rcs, List.getElem?_append_left (List.getElem?_eq_some_iff.1 hu).1]
      exact hu)
    have HACC := Lib.hid (fun (pre : List RK) => foldl_lenR nd HND.out (pre.map (fun x : RK => x.1.2)) pd hpd)
    have HSI : Sep w.heap.size w (w6.alloc (.cells #[.slice (some ⟨gp, 0, none⟩) m c0'] 59)) [.row g7 (bv pd) 33, .row g2 (bv (List.replicate 32 0)) 33] := HSw.sub (by repeat (first | exact List.nil_sublist _ | exact List.Sublist.refl _ | apply List.Sublist.cons_cons | apply List.Sublist.cons))
    have hww : w.heap.size ≤ w6.heap.size := HS6.hB
    clear HS6 HSw hc3
    refine rf_intro ?_
    intro a0 ha0
    refine (wpIn_wide (n := 9)).1 ?_
    refine wpIn_rangeFunc_ownH (F := Fence.wide) rfl (by decide) (gf := 64) (lb := #[.pointer (some ⟨w6.heap.size, 0, none⟩)]) (by rw [ha0]; rfl) trivial (enters_of Tryd.func64 (by kernel_rfl) rfl)
      (backwardR_stops 8 (by decide) w6.heap.size (w6.heap.size + 1) g7 gp c0' s HSS.out.tail (by rw [HM.out]; omega) (by omega) hne (by omega) (by omega) _ (by simp) hBs hcs) KeepsBut.trans (keepsBut_b (by simp)) (Below.refl _ _) (fun _ => rfl)
      (fun pre W => Sep w.heap.size w W [.row g7 (bv ((pre.map (fun x : RK => x.1.2)).foldl (fun acc q => nd q.2.2 acc) pd)) 33, .row g2 (bv (List.replicate 32 0)) 33] ∧ w6.heap.size + 1 ≤ W.heap.size) (fun _ _ _ => False)
      (OwnFrom.and (ownFrom_sep (by simp; omega) _) (fun _ W W' row hs hg hr => Nat.le_trans hs hg.size)) (fun _ _ _ _ _ hs _ _ => hs) ⟨HSI, by simp⟩
      (fun x a' W => ∃ g9, w6.heap.size + 1 ≤ g9 ∧ W.heap[g9]? = some (.cells (prv x.1.2) 99 (0, 0)) ∧ a' = { tmps := (((#[49, 50] : Array Tmp).zip (rkE x)).foldl (fun t (p, v) => t.setIfInBounds p v) a0.tmps).setIfInBounds 7 (.pointer (some ⟨g9, 0, none⟩)), defers := [] })
      (fun x a' _ W W' row hs hg hr => by
        obtain ⟨g9, h1, h2, h3⟩ := hs
        refine ⟨g9, h1, (hg.block g9 (Array.getElem?_eq_some_iff.1 h2).1 fun e => ?_).trans h2, h3⟩
        obtain ⟨_, o, ho, hco⟩ := hr g9 e.symm
        rw [h2] at ho
        injection ho with ho
        subst ho
        cases hco) ?assign ?body ?done ?stop
    case assign =>
      rintro li pre x W K ⟨HSq, hsz⟩ hK
      refine region_round (by rintro ⟨_, _, h⟩; exact h) (by kernel_rfl) ?_
      have hxl := x.2
      rw [rkA_eq, ha0]
      simp only [List.setIfInBounds_toArray, List.set_cons_succ, List.set_cons_zero]
      go_wp2_with (first | refine wl_alx rfl 99 rfl (prv (0, 0, Z32)) (by kernel_rfl) ?_ | refine wl_store_row rfl 99 _ _ rfl W.heap.size rfl 99 (prv (0, 0, Z32)) (prv x.1.2) rfl (heap_alloc_new W _) (prS hxl) (prE rfl hxl) (prv_one _) ?_)
      have hnew := heap_alloc_new W (.cells (prv (0, 0, Z32)) 99)
      refine hK _ _ (((KeepsOthers.alloc W _).trans (keeps_setRow hnew)).from _) ((keepsBut_below ((Below.refl _ W).alloc (Nat.le_refl _) _) hsz).trans (keepsBut_new _ _ (by omega) _)) ⟨((HSq.alloc _ _).setRow 0 rfl _).tail, by simp; omega⟩ ⟨W.heap.size, hsz, setRow_heap _ _ _ _ _ _ hnew, ?_⟩
      rw [rkA_eq, ha0]
      simp only [List.setIfInBounds_toArray, List.set_cons_succ, List.set_cons_zero]
    case body =>
      rintro li pre x a' W hl hr ⟨HSq, hsz⟩ ⟨g9, h9, hrow, rfl⟩ hlen
      have hxl := x.2
      have hacl := HACC.out pre
      have hacs : (List.map (fun x : RK => x.1.2) (pre ++ [x])).foldl (fun acc q => nd q.2.2 acc) pd = nd x.1.2.2.2 ((pre.map (fun x : RK => x.1.2)).foldl (fun acc q => nd q.2.2 acc) pd) := by simp
      obtain ⟨ac, hac⟩ : ∃ y, (pre.map (fun x : RK => x.1.2)).foldl (fun acc q => nd q.2.2 acc) pd = y := ⟨_, rfl⟩
      rw [hac] at HSq hacl hacs
      have HACS := Lib.hid hacs
      have HDL := Lib.hid (HND.out x.1.2.2.2 ac)
      have HCN := Lib.hid (fun w' hb => CN.out w' x.1.2.2.2 ac hb hxl hacl)
      have HLDX := Lib.hid (load_mid (P := Tryd.prog) hrow 2 (bv x.1.2.2.2) (fun j _ => prv_mid _ j) 33 Tryd.underlying33 rfl (dgS hxl))
      obtain ⟨D, hD⟩ : ∃ D, nd x.1.2.2.2 ac = D := ⟨_, rfl⟩
      rw [hD] at HACS HDL HCN
      refine wpIn_block ?_
      refine region_round (by rintro ⟨_, _, h⟩; exact h) (by kernel_rfl) ?_
      rw [rkA_eq, ha0]
      simp only [List.setIfInBounds_toArray, List.set_cons_succ, List.set_cons_zero]
      clear hac hacs hD
      go_wp2_with (first | refine wl_ldx rfl 33 _ rfl _ rfl (.agg (bv x.1.2.2.2)) HLDX.out ?_ | refine wl_ld HSq 0 rfl rfl 33 _ rfl rfl Tryd.underlying33 rfl (dgS hacl) ?_)
      (with_reducible refine Calls.mono (HCN.out W HSq.hb) ?_)
      rintro e wx ⟨rfl, bx⟩
      have HSx := HSq.keep bx
      go_wp2_with (first | refine wl_store_row rfl 33 _ _ rfl g7 rfl 33 _ (bv D) rfl (HSx.row 0 rfl) (dgS HDL.out) (dgE hacl HDL.out) (bv_one _) ?_)
      refine ⟨((keeps_below bx).trans (keeps_setRow (HSx.row 0 rfl))).from _, (keepsBut_below bx hsz).trans (keepsBut_setRow _ _ _ _), ?_, ?_⟩
      · rw [HACS.out]
        exact HSx.setRow 0 rfl _
      · have := bx.size
        simp; omega
    case done =>
      rintro D ys W hD hys ⟨HSq, _⟩ hK
      rw [hys] at HSq
      have hrl := foldl_lenR nd HND.out s pd hpd
      obtain ⟨r, hr⟩ : ∃ r, s.foldl (fun acc q => nd q.2.2 acc) pd = r := ⟨_, rfl⟩
      rw [hr] at HSq hrl
      have hgD : D ≠ g2 := fun e => by
        have := HSq.row 1 rfl
        rw [← e, hK] at this
        cases this
      have hDw : w.heap.size ≤ D := by simp at hD; omega
      have HHD := Lib.hid hK
      rw [ha0]
      clear hK hys
      go_wp2_with (first | refine wl_ld HSq 0 rfl rfl 33 _ rfl rfl Tryd.underlying33 rfl (dgS hrl) ?_ | refine wl_store_row rfl 33 _ _ rfl g2 rfl 33 _ (bv r) rfl (HSq.row 1 rfl) (dgS hrl) (dgE rfl hrl) (bv_one _) ?_)
      have HS9 := HSq.setRow 1 rfl (bv r)
      exact ret_row_tmpD rfl D rfl (set_other _ hgD HHD.out) g2 rfl 33 (bv r) (0, 0) _ (HS9.row 1 rfl) Tryd.underlying33 rfl (dgS hrl) (.int .i64 0) rfl ⟨by rw [← hr]; rfl, HS9.hb.trans (belowK_b (n₀ := w.heap.size) (w := w) (Nat.le_refl _) _ D _ _ hDw (set_other _ hgD HHD.out) rfl rfl)⟩
    case stop =>
      rintro D cc pre W hD _ h _
      exact h.elim
/-- A range that does not begin at 0 has no root. -/
theorem root_bad (i g : Nat) (b e : Int) (v : Value) (hb : b ≠ 0) (hi : R[i]? = some (.row g (rgv b e v) 61)) (HS : Sep B w0 w R) :
    Gives 12 #[.pointer (some ⟨g, 0, none⟩)] w (.tuple #[.agg (bv Z32), .int .i64 40]) := by
  have hgr := HS.row i hi
  have hgl : g < w.heap.size := (Array.getElem?_eq_some_iff.1 hgr).1
  have HC0 := Lib.hid (show w.cell? ⟨g, 0, none⟩ = some (.bool true) by rw [row_cell hgr]; rfl)
  have HC1 := Lib.hid (rg_b HS i hi)
  have HS0 := Sep.start w
  clear hgr HS hi
  refine calls_marks Tryd.func12 rfl ?_
  simp only [Tryd.ntmps12, List.size_toArray, List.length_cons, List.length_nil, Nat.reduceAdd, Nat.reduceSub, Array.replicate_succ, Array.replicate_zero, List.push_toArray, List.append_toArray, List.nil_append, List.cons_append]
  go_wp2_with (first | refine wl_al HS0 rfl 33 rfl (bv (List.replicate 32 0)) (by kernel_rfl) ?_)
  intro g2 w1 HS1
  clear HS0
  have hc0 := (World.cell?_of_block (w := w) (a := ⟨g, 0, none⟩) (HS1.hb.block g hgl)).trans HC0.out
  have hc1 := (World.cell?_of_block (w := w) (a := ⟨g, 1, none⟩) (HS1.hb.block g hgl)).trans HC1.out
  go_wp2_with fail
  refine (none_c g w1 hc0).mono ?_
  rintro r w2 ⟨rfl, rfl⟩
  go_wp2_with (first | refine wl_st HS1 0 rfl rfl 33 _ _ rfl rfl (cs := bv Z32) rfl (dgS rfl) rfl (bv_one _) ?_)
  intro w4 HS4
  go_wp2_with fail
  exact ret_row_tmpM rfl rfl g2 rfl 33 (bv Z32) (0, 0) _ (HS4.row 0 rfl) Tryd.underlying33 rfl (dgS rfl) (.int .i64 40) rfl ⟨rfl, HS4.hb⟩
end
end Go.Proofs.YtlhebogbbkjahaaDoor
namespace Go.Proofs.YtlhebogbbkjahaaDoor
open Go.RowKit Cop
set_option linter.unusedVariables false
set_option linter.unusedSimpArgs false
set_option maxRecDepth 100000 in
set_option maxHeartbeats 4000000 in
theorem put_a (l : List UInt8) (n : Nat) (v : Value) (w : World) (hR : Rd w v l.length 1 (bl l)) (hn : n < 18446744073709551616) (hl : l.length ≤ 140737488354000) :
    Calls Tryd.prog 70 #[v, .int .u64 n, .int .i64 8] w fun e w' => ∃ x, e = .returned x ∧ Below w.heap.size w w' ∧ Ow w' w.heap.size 5 1 x (l ++ be 8 n).length (bl (l ++ be 8 n)) := by
  have CB := Lib.hid (fun w hR => clone_bytes v l w hR (by omega))
  obtain ⟨A, c, rfl, hc, hcm⟩ := hR.shape
  have HS0 := (Sep.start w).arg0 hR
  obtain ⟨f, hf⟩ : ∃ f : Nat → List UInt8, ∀ k, f k = l ++ (be 8 n).take k := ⟨_, fun _ => rfl⟩
  have hf0 : f 0 = l := by rw [hf]; simp
  have hf8 : f 8 = l ++ be 8 n := by rw [hf, List.take_of_length_le (by rw [be_length]; omega)]
  have hfl : ∀ k, (f k).length ≤ l.length + 8 := fun k => by rw [hf, List.length_append, List.length_take, be_length]; omega
  have hfs : ∀ j k, j + k = 7 → f k ++ [UInt8.ofNat (n / 256 ^ j)] = f (k + 1) := fun j k h => by
    rw [hf, hf, be_take 8 n k (by omega), show 8 - 1 - k = j from by omega, List.append_assoc]
  rw [← hf8]
  have HF0 := Lib.hid hf0
  have HFL := Lib.hid hfl
  have HFS := Lib.hid hfs
  clear hf hf0 hf8 hfl hfs hR
  go_enter Tryd.func70, Tryd.ntmps70
  go_wp2_with fail
  refine (CB.out w (HS0.rd 0 rfl)).mono ?_
  rintro e w1 ⟨x, rfl, b1, o1⟩
  have HS1 := HS0.made b1 o1
  rw [← HF0.out] at HS1
  clear HS0 o1 b1
  go_wp2
  go_loopw [7, 8] (fun s7 s8 wr => ∃ j k : Nat, j + k = 8 ∧ s8 = .int .i64 ((j : Int) - 1) ∧ Sep w.heap.size w wr (.own s7 5 1 (f k).length (bl (f k)) :: [])) (fun _ s8 _ => (intOf s8 + 1).toNat)
  case atStart => exact ⟨8, 0, rfl, rfl, HS1.sub (by repeat (first | exact List.nil_sublist _ | exact List.Sublist.refl _ | apply List.Sublist.cons_cons | apply List.Sublist.cons))⟩
  case round =>
    clear HS1
    obtain ⟨j, k, hjk, rfl, HSi⟩ := hrel
    have Hjk := Lib.hid hjk
    have hj8 : j ≤ 8 := by omega
    obtain ⟨A7, c7, rfl, _⟩ := (HSi.own 0 rfl).sl
    cases j with
    | zero =>
      have hk8 : k = 8 := by omega
      subst hk8
      clear hjk
      go_wp2
      go_ret
      exact ⟨_, rfl, HSi.hb, HSi.own 0 rfl⟩
    | succ m =>
      have hm7 : m ≤ 7 := by omega
      clear hjk
      rw [show (((m + 1 : Nat) : Int) - 1) = (m : Int) from by omega]
      obtain ⟨y, hy⟩ : ∃ y, UInt8.ofNat (n / 256 ^ m) = y := ⟨_, rfl⟩
      have HB := Lib.hid (show [Value.int .u8 ((n : Int) / 2 ^ (8 * m) % 256)] = bl [y] by
        rw [show (n : Int) / 2 ^ (8 * m) % 256 = (y.toNat : Int) by rw [← hy, byte_of, ← pow256]; simp]; rfl)
      have HY := Lib.hid (show f k ++ [y] = f (k + 1) by rw [← hy]; exact HFS.out m k (by have := Hjk.out; omega))
      have HYL := Lib.hid (show (f k).length + 1 = (f (k + 1)).length by rw [← HY.out, List.length_append]; rfl)
      have hlk := HFL.out (k + 1)
      clear hy
      go_wp2_with (first | refine wl_bs HSi rfl 65 5 1 1 _ rfl [Value.int .u8 ((n : Int) / 2 ^ (8 * m) % 256)] (.int .u8 0) Tryd.underlying65 (by kernel_rfl) (by decide) (by decide) (by kernel_rfl) rfl ?_)
      intro g2 w2 HS2
      rw [HB.out] at HS2
      go_wp2_with (refine wl_apb (cs := [y]) HS2 1 rfl rfl rfl (HS2.own 0 rfl).rd rfl rfl (f (k + 1)).length (f (k + 1)) HYL.out HY.out (by omega) ?_)
      intro v5 w5 HS5 _
      clear HSi HS2
      go_wp2
      go_roundw
      case rel => exact ⟨m, k + 1, by have := Hjk.out; omega, by go_num, HS5.tail⟩
      case measure => simp [intOf]
theorem putU64_a (l : List UInt8) (n : Nat) (v : Value) (w : World) (hR : Rd w v l.length 1 (bl l)) (hn : n < 18446744073709551616) (hl : l.length ≤ 140737488354000) :
    Calls Tryd.prog 48 #[v, .int .u64 n] w fun e w' => ∃ x, e = .returned x ∧ Below w.heap.size w w' ∧ Ow w' w.heap.size 5 1 x (l ++ be 8 n).length (bl (l ++ be 8 n)) := by
  have CP := Lib.hid (put_a l n v w hR hn hl)
  obtain ⟨A, c, rfl, hc, hcm⟩ := hR.shape
  clear hR
  go_enter Tryd.func48, Tryd.ntmps48
  go_wp2_with fail
  refine CP.out.mono ?_
  rintro e w1 ⟨x, rfl, b1, o1⟩
  go_wp2
  go_ret
  exact ⟨_, rfl, b1, o1⟩
end Go.Proofs.YtlhebogbbkjahaaDoor
set_option linter.unusedVariables false
namespace Cop
open Go Go.RowKit
section
variable {P : Program}
theorem anyIn_of_any {md : Region.Mode} {r n : Nat} {ops : Array Oper} {Q : Exit → Act → World → Prop} (hL : ¬ LetsOut Q) (hd : ∀ o ∈ ops.toList, ∀ c, o.op ≠ .defer c) : ∀ (fuel : Nat) (listed : Array Bool) (a : Act) (w : World), wpAny P md ops Q fuel listed a w → wpAnyIn (Fence.wide.inRound r) n P md ops Q fuel listed a w
  | 0, _, _, _, h => h
  | fuel + 1, listed, a, w, h => ⟨h.1, fun i hi => by
    have h2 := h.2 i hi
    have ih := fun a w => anyIn_of_any (md := md) (r := r) (n := n) hL hd fuel (listed.setIfInBounds i true) a w
    unfold wpOp at h2
    unfold wpOpIn
    cases ho : ops[i]? with
    | none => rw [ho] at h2; exact ih _ _ h2
    | some o =>
      rw [ho] at h2
      have hm : o ∈ ops.toList := by rw [← Array.getElem?_toList] at ho; exact List.mem_of_getElem? ho
      simp only at h2 ⊢
      split at h2
      · rename_i hw
        rw [if_pos hw]
        rcases h2 with h2 | h2
        · exact operIn_of_oper (hd o hm) ih h2
        · exact absurd h2.2 hL
      · rename_i hw
        rw [if_neg hw]
        exact ⟨fun _ _ => trivial, ih _ _ h2⟩⟩
/-- A region that draws its order, within a round. -/
theorem region_ordR {r n id : Nat} {Q : Exit → Act → World → Prop} {a : Act} {w : World} {l : List Oper} (hL : ¬ LetsOut Q) (hd : noDefer l = true) (S : World → Prop) (z : Nat) (ord : Ord) (hm : P.follows .mixedOrders = true)
    (hc : (Region.noSelect l.toArray && (coverB .any l.toArray z || z == l.length) && ord.chk .any l.toArray l.length (Array.replicate l.length false)) = true)
    (hQ : ∀ c a d v w, Q (.panic c) (a.put d v) w → Q (.panic c) a w)
    (h : ∀ w1, Below w.heap.size w w1 → Shut 0 (wpOrd P l.toArray Q S z ord a w1)) : (Code.region id l.toArray true).wpIn (Fence.wide.inRound r) n P Q a w := by
  simp only [Bool.and_eq_true, Bool.or_eq_true, beq_iff_eq] at hc
  refine wpIn_region_any hm (anyIn_of_any hL (by simpa using noDefer_spec hd) _ _ _ _ (wpAny_of_G _ _ _ _ (wpAnyG_ord hc.1.1 hQ ?_ ord _ _ a _ (closed_none _) (by simpa using hc.2) (h _ (bdraw w)).out)))
  rcases hc.1.2 with h | h
  · exact .inl h
  · exact .inr (by simpa using h)
end
end Cop
namespace Go.Proofs.YtlhebogbbkjahaaDoor
open Go.RowKit Go.Shelf Cop
set_option linter.unusedVariables false
set_option linter.unusedSimpArgs false
section
variable {w0 w w' W : World} {B : Nat} {R : List Pc} {P : Program} {o : Oper} {a : Act}
theorem ow_alc {K : Act → World → Prop} {Q : Exit → Act → World → Prop} (HS : Sep B w0 w R) (ty : TypeId) (hop : o.op = .alloc ty) (v : Value) (hv : v.cells = #[v]) (hz : (P.info? ty).map (·.zero) = some (some v))
    (h : ∀ g w1, Sep B w0 w1 (.row g #[v] ty :: R) → K (a.put o.dst (.pointer (some ⟨g, 0, none⟩))) w1) : o.wp P a w K Q := by
  obtain ⟨i, hi, hz⟩ := Option.map_eq_some_iff.1 hz
  have hzz : (zeroValue ty).run P w = .ok v w := by simp [zeroValue, typeInfo, hi, hz]
  refine ow_val (.pointer (some ⟨w.heap.size, 0, none⟩)) (w.alloc (.cells #[v] ty)) ?_ (h _ _ (HS.alloc #[v] ty))
  simp only [execOp, hop]
  simp [Instr.alloc, Sem.run_bind, hzz, Result.andThen, newVar, newRow, hv]
/-- What a buffer that is boxed holds. -/
def BufAt (B : Nat) (w0 : World) (gb : Nat) (l : List UInt8) (W : World) : Prop := ∃ v, Sep B w0 W [.row gb #[v] 65, .own v 5 1 l.length (bl l)]
theorem own_buf {gb n : Nat} {β : Type} {L : β → List UInt8} (hn : B ≤ n) : OwnFrom n (fun s W => BufAt B w0 gb (L s) W) := fun s W W' row h hg hr => by
  obtain ⟨v, hS⟩ := h
  exact ⟨v, hS.other rfl hg fun r e => ⟨Nat.le_trans hn (hr r e).1, (hr r e).2⟩⟩
def digs (s : List Prt) : List UInt8 := s.flatMap fun p => p.2.2
theorem digs_snoc (s : List Prt) (p : Prt) : digs (s ++ [p]) = digs s ++ p.2.2 := by simp [digs, List.flatMap_append]
theorem digs_len {s : List Prt} (h : All32 s) : (digs s).length = s.length * 32 := by
  induction s with
  | nil => rfl
  | cons p s ih =>
    have := ih h.tail
    have h2 := h.head
    simp only [digs, List.flatMap_cons, List.length_append, List.length_cons] at *
    omega
set_option maxRecDepth 100000 in
set_option maxHeartbeats 4000000 in
theorem bytes_r (i j g b e : Nat) (v : Value) (s : List Prt) (hs : All32 s) (hl : s.length ≤ 96) (hb0 : b ≤ 281474976710656) (he0 : e ≤ 281474976710656)
    (hi : R[i]? = some (.row g (rgv b e v) 61)) (hj : R[j]? = some (.own v 99 34 s.length (rcs s))) (HS : Sep B w0 w R) :
    Calls Tryd.prog 26 #[.pointer (some ⟨g, 0, none⟩)] w fun r w' => ∃ x, r = .returned x ∧ Below w.heap.size w w' ∧ Ow w' w.heap.size 5 1 x ((be 8 b ++ be 8 e) ++ digs s.reverse).length (bl ((be 8 b ++ be 8 e) ++ digs s.reverse)) := by
  have HSS := Lib.hid hs
  have hgr := HS.row i hi
  have hgl : g < w.heap.size := (Array.getElem?_eq_some_iff.1 hgr).1
  have HG := Lib.hid (fun (W : World) (hb : Below w.heap.size w W) (o : Nat) => (World.cell?_of_block (w := w) (a := ⟨g, o, none⟩) (hb.block g hgl)))
  have HGR := Lib.hid (fun (W : World) (hb : Below w.heap.size w W) => (hb.block g hgl).trans hgr)
  have HC0 := Lib.hid (show w.cell? ⟨g, 0, none⟩ = some (.bool true) by rw [row_cell hgr]; rfl)
  have HC1 := Lib.hid (rg_b HS i hi)
  have HC2 := Lib.hid (rg_e HS i hi)
  have HRD := Lib.hid (HS.own j hj).rd
  have P1 := Lib.hid (fun W => putU64_a [] b (.slice none 0 0) W (show Rd W (.slice none 0 0) ([] : List UInt8).length 1 (bl []) from (Ow.nil W 0 0 1 none).rd) (by omega) (by simp))
  have P2 := Lib.hid (fun W x hR => putU64_a (be 8 b) e x W hR (by omega) (by rw [be_length]; omega))
  simp only [List.nil_append] at P1
  have HS0 := Sep.start w
  clear hs hgr HS hi hj
  have hwb : IntKind.u64.wrap (b : Int) = (b : Int) := by rw [IntKind.wrap_u64]; omega
  have hwe : IntKind.u64.wrap (e : Int) = (e : Int) := by rw [IntKind.wrap_u64]; omega
  refine calls_marks Tryd.func26 rfl ?_
  simp only [Tryd.ntmps26, List.size_toArray, List.length_cons, List.length_nil, Nat.reduceAdd, Nat.reduceSub, Array.replicate_succ, Array.replicate_zero, List.push_toArray, List.append_toArray, List.nil_append, List.cons_append]
  go_wp2_with fail
  refine (none_c g w HC0.out).mono ?_
  rintro r w2 ⟨rfl, rfl⟩
  go_upto_region 3 with fail
  go_cut [3] from 8 to 21 (fun s3 wx => ∃ (gb : Nat), s3 = .pointer (some ⟨gb, 0, none⟩) ∧ BufAt w2.heap.size w2 gb (be 8 b ++ be 8 e) wx)
  case first =>
    refine Cop.region_ord (fun w' => Below w2.heap.size w2 w') 15 (.take 0 (.take 1 (.take 2 (.take 3 (.take 4 (.take 5 (.take 7 (.take 8 (.take 9 (.take 10 (.take 11 (.take 12 (.run2 6 (.run2 13 (.run 14 (.run 15 Cop.Ord.fin)) 14 (.run 13 (.run 15 Cop.Ord.fin))) 14 (.run 6 (.run 13 (.run 15 Cop.Ord.fin)))))))))))))))) (by kernel_rfl) (by kernel_rfl) (fun _ _ d _ _ h => by cases d <;> exact h) ?_
    intro wa hda
    have HSa := HS0.keep hda
    have hba := HSa.hb
    clear HS0
    (repeat (first | (refine Cop.og_skip rfl rfl hba _ (by (simp only [Act.put, List.setIfInBounds_toArray, List.set_cons_succ, List.set_cons_zero]; rfl)) ?_) | (refine Cop.og_take rfl rfl hba ?_; apply Exists.intro; refine ⟨fun w9 h9 => ?_, _, by (simp only [Act.put, List.setIfInBounds_toArray, List.set_cons_succ, List.set_cons_zero]; rfl), ?_⟩; (have c1 := (HG.out w9 h9 1).trans HC1.out; have c2 := (HG.out w9 h9 2).trans HC2.out; go_simp; with_reducible rfl))))
    refine og_run2 ?_ ?_
    · refine Cop.og_run rfl rfl ?_
      refine ow_call_ex 48 _ _ (by go_simp) (P1.out _) ?_
      rintro v1 wb ⟨b9, o9⟩
      have HSb := HSa.made b9 o9
      refine ⟨fun _ => HSb.hb, ?_⟩
      refine og_act (by (simp only [Act.put, List.setIfInBounds_toArray, List.set_cons_succ, List.set_cons_zero]; rfl)) ?_
      refine og_run2 ?_ ?_
      · refine Cop.og_run rfl rfl ?_
        refine ow_call_ex 48 _ _ (by go_simp) (P2.out _ v1 (HSb.own 0 rfl).rd) ?_
        rintro v2 wc ⟨b8, o8⟩
        have HSc := HSb.made b8 o8
        obtain ⟨A2, c2, rfl, _⟩ := (HSc.own 0 rfl).sl
        refine ⟨fun _ => HSc.hb, ?_⟩
        refine og_act (by (simp only [Act.put, List.setIfInBounds_toArray, List.set_cons_succ, List.set_cons_zero]; rfl)) ?_
        refine Cop.og_run rfl rfl ?_
        refine ow_alc HSc 65 rfl (.slice none 0 0) rfl (by kernel_rfl) ?_
        intro gb wd HSd
        refine ⟨fun _ => HSd.hb, ?_⟩
        refine og_act (by (simp only [Act.put, List.setIfInBounds_toArray, List.set_cons_succ, List.set_cons_zero]; rfl)) ?_
        refine Cop.og_run rfl rfl ?_
        refine ow_stc HSd 0 rfl 65 _ _ rfl (by kernel_rfl) 0 (by simp) (y := .slice A2 _ c2) rfl rfl rfl rfl ?_
        intro we HSe
        refine ⟨fun h => absurd rfl h, ?_⟩
        refine og_fin ?_
        go_wp2
        go_meet
        case rel => exact ⟨gb, rfl, _, HSe.sub (by repeat (first | exact List.nil_sublist _ | exact List.Sublist.refl _ | apply List.Sublist.cons_cons | apply List.Sublist.cons))⟩
      · refine Cop.og_run rfl rfl ?_
        refine ow_alc HSb 65 rfl (.slice none 0 0) rfl (by kernel_rfl) ?_
        intro gb wc HSc
        refine ⟨fun _ => HSc.hb, ?_⟩
        refine og_act (by (simp only [Act.put, List.setIfInBounds_toArray, List.set_cons_succ, List.set_cons_zero]; rfl)) ?_
        refine Cop.og_run rfl rfl ?_
        refine ow_call_ex 48 _ _ (by go_simp) (P2.out _ v1 (HSc.own 1 rfl).rd) ?_
        rintro v2 wd ⟨b8, o8⟩
        have HSd := HSc.made b8 o8
        obtain ⟨A2, c2, rfl, _⟩ := (HSd.own 0 rfl).sl
        refine ⟨fun _ => HSd.hb, ?_⟩
        refine og_act (by (simp only [Act.put, List.setIfInBounds_toArray, List.set_cons_succ, List.set_cons_zero]; rfl)) ?_
        refine Cop.og_run rfl rfl ?_
        refine ow_stc HSd 1 rfl 65 _ _ rfl (by kernel_rfl) 0 (by simp) (y := .slice A2 _ c2) rfl rfl rfl rfl ?_
        intro we HSe
        refine ⟨fun h => absurd rfl h, ?_⟩
        refine og_fin ?_
        go_wp2
        go_meet
        case rel => exact ⟨gb, rfl, _, (HSe.front 1).sub (by repeat (first | exact List.nil_sublist _ | exact List.Sublist.refl _ | apply List.Sublist.cons_cons | apply List.Sublist.cons))⟩
    · refine Cop.og_run rfl rfl ?_
      refine ow_alc HSa 65 rfl (.slice none 0 0) rfl (by kernel_rfl) ?_
      intro gb wb HSb
      refine ⟨fun _ => HSb.hb, ?_⟩
      refine og_act (by (simp only [Act.put, List.setIfInBounds_toArray, List.set_cons_succ, List.set_cons_zero]; rfl)) ?_
      refine Cop.og_run rfl rfl ?_
      refine ow_call_ex 48 _ _ (by go_simp) (P1.out _) ?_
      rintro v1 wc ⟨b9, o9⟩
      have HSc := HSb.made b9 o9
      refine ⟨fun _ => HSc.hb, ?_⟩
      refine og_act (by (simp only [Act.put, List.setIfInBounds_toArray, List.set_cons_succ, List.set_cons_zero]; rfl)) ?_
      refine Cop.og_run rfl rfl ?_
      refine ow_call_ex 48 _ _ (by go_simp) (P2.out _ v1 (HSc.own 0 rfl).rd) ?_
      rintro v2 wd ⟨b8, o8⟩
      have HSd := HSc.made b8 o8
      obtain ⟨A2, c2, rfl, _⟩ := (HSd.own 0 rfl).sl
      refine ⟨fun _ => HSd.hb, ?_⟩
      refine og_act (by (simp only [Act.put, List.setIfInBounds_toArray, List.set_cons_succ, List.set_cons_zero]; rfl)) ?_
      refine Cop.og_run rfl rfl ?_
      refine ow_stc HSd 2 rfl 65 _ _ rfl (by kernel_rfl) 0 (by simp) (y := .slice A2 _ c2) rfl rfl rfl rfl ?_
      intro we HSe
      refine ⟨fun h => absurd rfl h, ?_⟩
      refine og_fin ?_
      go_wp2
      go_meet
      case rel => exact ⟨gb, rfl, _, (HSe.front 2).sub (by repeat (first | exact List.nil_sublist _ | exact List.Sublist.refl _ | apply List.Sublist.cons_cons | apply List.Sublist.cons))⟩
  case rest =>
    obtain ⟨gb, rfl, vb, HSb⟩ := hcut
    go_wp2_with fail
    refine (all_c _ wc).mono ?_
    rintro r wd ⟨rfl, rfl⟩
    have HSd := HSb.skip (.cells #[.pointer (some ⟨g, 0, none⟩)] 23)
    have hcb : (wc.alloc (.cells #[.pointer (some ⟨g, 0, none⟩)] 23)).cell? ⟨wc.heap.size, 0, none⟩ = some (.pointer (some ⟨g, 0, none⟩)) := by
      rw [row_cell (heap_alloc_new wc _) 0]; rfl
    obtain ⟨Bs, hBs⟩ : ∃ k, wc.heap.size = k := ⟨_, rfl⟩
    rw [hBs] at hcb ⊢
    generalize wc.alloc (.cells #[.pointer (some ⟨g, 0, none⟩)] 23) = wb at HSd hcb ⊢
    clear HSb hBs HS0
    go_wp2_with fail
    have hgl2 : gb < wb.heap.size := (Array.getElem?_eq_some_iff.1 (HSd.row 0 rfl)).1
    have hown : ∀ k, Owns gb 0 wb k → k < wb.heap.size := fun k hk => by
      rcases hk with rfl | ⟨u, hu, hv⟩
      · exact hgl2
      · rw [row_cell (HSd.row 0 rfl)] at hu
        have hu2 : vb = u := by simpa using hu
        subst hu2
        exact HSd.lt (p := .own vb 5 1 (be 8 b ++ be 8 e).length (bl (be 8 b ++ be 8 e))) (List.mem_cons_of_mem _ List.mem_cons_self) k hv
    have hst := all1_stopsR 8 (by decide) Bs gb 0 g b e v s HSS.out (by omega) wb hgl2 hcb (HGR.out wb HSd.hb) (HRD.out.same fun k hk => HSd.hb.block k (Rd.cells_rblk HRD.out k hk).1) hown
    have hBw : w2.heap.size ≤ wb.heap.size := HSd.hB
    clear hcb hown
    refine rf_intro ?_
    intro a0 ha0
    refine (wpIn_wide (n := 9)).1 ?_
    refine wpIn_rangeFunc_ownH (F := Fence.wide) rfl (by decide) (gf := 36) (lb := #[.pointer (some ⟨Bs, 0, none⟩)]) (by rw [ha0]; rfl) trivial (enters_of Tryd.func36 (by kernel_rfl) rfl)
      hst Stays.trans (stays_b hgl2) (Below.refl _ _) (fun _ => rfl)
      (fun pre W => BufAt w2.heap.size w2 gb ((be 8 b ++ be 8 e) ++ digs (pre.map fun x => x.1)) W ∧ wb.heap.size ≤ W.heap.size) (fun _ _ _ => False)
      (OwnFrom.and (own_buf (L := fun pre : List QK => (be 8 b ++ be 8 e) ++ digs (pre.map fun x => x.1)) hBw) (fun _ W W' row hs hg hr => Nat.le_trans hs hg.size)) (fun _ _ _ _ _ hs _ _ => hs) ⟨⟨vb, by simpa [digs] using HSd⟩, Nat.le_refl _⟩
      (fun x a' W => ∃ g5, (wb.heap.size ≤ g5 ∧ W.heap[g5]? = some (.cells (bv x.1.2.2) 33 (0, 0))) ∧ a' = { tmps := (((#[24, 25] : Array Tmp).zip (qkE x)).foldl (fun t (p, v) => t.setIfInBounds p v) a0.tmps).setIfInBounds 5 (.pointer (some ⟨g5, 0, none⟩)), defers := [] })
      (fun x a' _ W W' row hs hg hr => by
        obtain ⟨g5, ⟨h1, h2⟩, h3⟩ := hs
        refine ⟨g5, ⟨h1, (hg.block g5 (Array.getElem?_eq_some_iff.1 h2).1 fun e => ?_).trans h2⟩, h3⟩
        obtain ⟨_, o, ho, hco⟩ := hr g5 e.symm
        rw [h2] at ho
        injection ho with ho
        subst ho
        cases hco) ?assign ?body ?done ?stop
    case assign =>
      rintro li pre x W K ⟨⟨vk, HSq⟩, hsz⟩ hK
      rw [qkA_eq, ha0]
      simp only [List.setIfInBounds_toArray, List.set_cons_succ, List.set_cons_zero]
      have hxl := x.2
      refine region_round (by rintro ⟨_, _, h⟩; exact h) (by kernel_rfl) ?_
      go_wp2_with (first | refine wl_alx rfl 33 rfl (bv (List.replicate 32 0)) (by kernel_rfl) ?_ | refine wl_store_row rfl 33 _ _ rfl W.heap.size rfl 33 (bv (List.replicate 32 0)) (bv x.1.2.2) rfl (heap_alloc_new W _) (dgS hxl) (dgE rfl hxl) (bv_one _) ?_)
      obtain ⟨hb2, hr2⟩ := new_row W (bv (List.replicate 32 0)) (bv x.1.2.2) 33
      obtain ⟨g6, hg6⟩ : ∃ k, W.heap.size = k := ⟨_, rfl⟩
      rw [hg6] at hr2
      simp only [hg6] at hb2 ⊢
      have hb4 : Below W.heap.size W ((W.alloc (.cells (bv (List.replicate 32 0)) 33)).setRow g6 (bv x.1.2.2)) := by rw [hg6]; exact hb2
      refine hK _ _ ((keeps_below hb4).from _) (stays_below (Nat.lt_of_lt_of_le hgl2 hsz) hb4) ⟨⟨vk, HSq.keep hb4⟩, Nat.le_trans hsz hb4.size⟩ ⟨g6, ⟨by omega, hr2⟩, ?_⟩
      rw [qkA_eq, ha0]
      simp only [Act.put, List.setIfInBounds_toArray, List.set_cons_succ, List.set_cons_zero]
    case body =>
      rintro li pre x a' W hl9 hr ⟨⟨vk, HSq⟩, hsz⟩ ⟨g5, ⟨h5, r5⟩, rfl⟩ hlen
      have hxl := x.2
      have HSA := round_all HSq (n₀ := wb.heap.size) (fun p hp => by cases hp)
      simp only [List.nil_append] at HSA
      have hlt5 : wb.heap.size ≤ g5 := h5
      have hne5 : g5 ≠ gb := by omega
      have hv5 : vblk vk ≠ some g5 := fun h => by
        rcases (HSq.own 1 rfl).2 with ⟨A, he, _⟩ | ⟨gv, cap, cur, hc, he, _, h2, _⟩
        · rw [he] at h
          cases A <;> simp [vblk] at h
        · rw [he] at h
          simp [vblk, show cap ≠ 0 by omega] at h
          subst h
          rw [r5] at h2
          injection h2 with h2
          injection h2 with _ h2 _
          revert h2
          decide
      have hmem : Pc.obj g5 (.cells (bv x.1.2.2) 33 (0, 0)) ∈ heldAll W wb.heap.size gb vk := mem_heldAll.2 ⟨g5, _, h5, hne5, hv5, r5, rfl⟩
      have HLEN := Lib.hid (show ((be 8 b ++ be 8 e) ++ digs (pre.map fun x => x.1)).length ≤ 4000 by
        rw [List.length_append, List.length_append, be_length, be_length, digs_len (fun y hy => by
          obtain ⟨z, _, rfl⟩ := List.mem_map.1 hy
          exact z.2), List.length_map]
        omega)
      have hnext : ((be 8 b ++ be 8 e) ++ digs (pre.map fun x => x.1)) ++ x.1.2.2 = (be 8 b ++ be 8 e) ++ digs ((pre ++ [x]).map fun x => x.1) := by
        rw [List.map_append, List.append_assoc]
        congr 1
        exact (digs_snoc _ _).symm
      obtain ⟨acc, hacc⟩ : ∃ y, (be 8 b ++ be 8 e) ++ digs (pre.map fun x => x.1) = y := ⟨_, rfl⟩
      rw [hacc] at HSq HSA HLEN hnext
      obtain ⟨ac2, hac2⟩ : ∃ y, (be 8 b ++ be 8 e) ++ digs ((pre ++ [x]).map fun x => x.1) = y := ⟨_, rfl⟩
      rw [hac2] at hnext
      have HNX := Lib.hid hnext
      have HA2 := Lib.hid hac2
      obtain ⟨Ak, ck, rfl, _⟩ := (HSq.own 1 rfl).sl
      clear hacc hnext hac2
      refine wpIn_block ?_
      rw [qkA_eq, ha0]
      simp only [List.setIfInBounds_toArray, List.set_cons_succ, List.set_cons_zero]
      refine Cop.region_ordR (by rintro ⟨_, _, h⟩; exact h) (by kernel_rfl) (fun w' => Sep w2.heap.size W w' [.row gb #[.slice Ak acc.length ck] 65]) 3 (.take 0 (.take 1 (.run 2 (.run 3 Cop.Ord.fin)))) (by kernel_rfl) (by kernel_rfl) (fun _ _ d _ _ h => by cases d <;> exact h) ?_
      intro wx hdx
      have HSX := HSA.keep hdx
      have HTX : Sep w2.heap.size W wx [.row gb #[.slice Ak acc.length ck] 65] := HSX.one 0 rfl
      (repeat (first | (refine Cop.og_skip rfl rfl HTX _ (by (simp only [Act.put, List.setIfInBounds_toArray, List.set_cons_succ, List.set_cons_zero]; rfl)) ?_) | (refine Cop.og_take rfl rfl HTX ?_; apply Exists.intro; refine ⟨fun w9 h9 => ?_, _, by (simp only [Act.put, List.setIfInBounds_toArray, List.set_cons_succ, List.set_cons_zero]; rfl), ?_⟩; (have c0 := (row_cell (h9.row 0 rfl) 0).trans (show (#[Value.slice Ak acc.length ck] : Array Value)[0]? = some (.slice Ak acc.length ck) from rfl); go_simp; with_reducible rfl))))
      refine Cop.og_run rfl rfl ?_
      have hr5 : wx.heap[g5]? = some (.cells (bv x.1.2.2) 33 (0, 0)) := HSX.all _ (List.mem_cons_of_mem _ (List.mem_cons_of_mem _ hmem))
      have HRD5 : Rd wx (.slice (some ⟨g5, 0, none⟩) 32 32) 32 1 (bl x.1.2.2) := by
        have := rd_row hr5 (n := 32) (size := 1) (by rw [bv_size, hxl]) (by decide)
        rwa [bv_toList] at this
      refine ow_apn HSX 1 rfl _ _ 65 (.int .u8 0) 1 rfl Tryd.underlying65 info_u8 rfl (by decide) (by decide) HRD5 (bl_one _) rfl rfl ac2.length (bl ac2) (by rw [← HNX.out, List.length_append, hxl]) (by rw [← HNX.out, bl_append]) (by have := HLEN.out; rw [← HNX.out, List.length_append, hxl]; omega) ?_
      intro v9 wy HSY _
      obtain ⟨A9, c9, rfl, _⟩ := (HSY.own 1 rfl).sl
      refine ⟨fun _ => HSY.one 0 rfl, ?_⟩
      refine Cop.og_run rfl rfl ?_
      refine ow_stc HSY 0 rfl 65 _ _ rfl (by kernel_rfl) 0 (by simp) (y := .slice A9 ac2.length c9) rfl rfl rfl rfl ?_
      intro wz HSZ
      refine ⟨fun h => absurd rfl h, ?_⟩
      refine og_fin ?_
      have hgz : wz.cell? ⟨gb, 0, none⟩ = some (.slice A9 ac2.length c9) := by rw [row_cell (HSZ.row 0 rfl)]; rfl
      have hgk : W.cell? ⟨gb, 0, none⟩ = some (.slice Ak acc.length ck) := by rw [row_cell (HSq.row 0 rfl)]; rfl
      obtain ⟨q1, q2, q3⟩ := round_back (off := 0) HSq hgk HSZ hgz
      refine ⟨q3, q2, ?_, Nat.le_trans hsz q2.1⟩
      rw [HA2.out]
      exact ⟨_, q1⟩
    case done =>
      rintro D ys W hD hys ⟨⟨vk, HSq⟩, hsz⟩ hK
      rw [hys] at HSq
      have hDB : w2.heap.size ≤ D := Nat.le_trans hBw hD
      have HHD := Lib.hid hK
      obtain ⟨Ak, ck, rfl, _⟩ := (HSq.own 1 rfl).sl
      obtain ⟨acc, hacc⟩ : ∃ y, (be 8 b ++ be 8 e) ++ digs s.reverse = y := ⟨_, rfl⟩
      rw [hacc] at HSq
      have c0 := (row_cell (HSq.row 0 rfl) 0).trans (show (#[Value.slice Ak acc.length ck] : Array Value)[0]? = some (.slice Ak acc.length ck) from rfl)
      have HAC := Lib.hid hacc
      rw [ha0]
      clear hK hys hacc
      go_wp2_with fail
      have HS9 := HSq.putD rfl hDB HHD.out rfl (.deferred none)
      refine ret_tmpD rfl D rfl HHD.out ⟨_, rfl, HS9.hb, ?_⟩
      rw [HAC.out]
      exact HS9.own 1 rfl
    case stop =>
      rintro D cc pre W hD _ h _
      exact h.elim
end
end Go.Proofs.YtlhebogbbkjahaaDoor
namespace Go.Proofs.YtlhebogbbkjahaaDoor
open Go.RowKit Cop
set_option linter.unusedVariables false
set_option linter.unusedSimpArgs false
theorem u64_ok (l : List UInt8) (v : Value) (i : Nat) (w : World) (hR : Rd w v l.length 1 (bl l)) (hi : i + 8 ≤ l.length) (hl : l.length ≤ 9223372036854775000) :
    Calls Tryd.prog 49 #[v, .int .i64 i] w fun e w' => e = .returned (.tuple #[.int .u64 (num ((l.drop i).take 8)), .int .i64 ((i : Int) + 8), .int .i64 0]) ∧ w' = w := by
  have CG := Lib.hid (get_ok l v i w hR hi hl)
  obtain ⟨A, c, rfl, _, _⟩ := hR.shape
  clear hR
  go_enter Tryd.func49, Tryd.ntmps49
  go_wp2_with fail
  refine CG.out.mono ?_
  rintro r w2 ⟨rfl, rfl⟩
  go_wp2
  go_ret3
  exact ⟨rfl, rfl⟩
theorem digs_drop : ∀ (ps : List Prt) (k : Nat), All32 ps → (digs ps).drop (32 * k) = digs (ps.drop k)
  | [], k, _ => by simp [digs]
  | p :: ps, 0, _ => by simp
  | p :: ps, k + 1, h => by
    have h1 := h.head
    have e : digs (p :: ps) = p.2.2 ++ digs ps := by simp [digs]
    rw [e, List.drop_succ_cons, ← digs_drop ps k h.tail, show 32 * (k + 1) = p.2.2.length + 32 * k by omega, List.drop_append, Nat.add_sub_cancel_left, List.drop_of_length_le (by omega), List.nil_append]
theorem digs_at {ps : List Prt} {k : Nat} {p : Prt} (h : All32 ps) (hk : ps[k]? = some p) : ((digs ps).drop (32 * k)).take 32 = p.2.2 := by
  obtain ⟨h1, rfl⟩ := List.getElem?_eq_some_iff.1 hk
  have h2 := h _ (List.getElem_mem h1)
  rw [digs_drop ps k h, List.drop_eq_getElem_cons h1]
  have e : digs (ps[k] :: ps.drop (k + 1)) = ps[k].2.2 ++ digs (ps.drop (k + 1)) := by unfold digs; rw [List.flatMap_cons]
  rw [e, List.take_left' h2]
section
variable {w0 w w' W : World} {B : Nat} {R : List Pc}
set_option maxRecDepth 100000 in
set_option maxHeartbeats 8000000 in
theorem load_ok (b e : Nat) (s : List Prt) (v : Value) (X : List UInt8) (hg : GoodR b e s) (hX : X = (be 8 b ++ be 8 e) ++ digs s.reverse) (HS : Sep B w0 w (.rd v X.length 1 (bl X) :: R)) :
    Calls Tryd.prog 27 #[v] w fun r w' => ∃ g, r = .returned (.tuple #[.pointer (some ⟨g, 0, none⟩), .int .i64 0]) ∧ RgAt B w0 g b e s (.rd v X.length 1 (bl X) :: R) w' := by
  obtain ⟨ps, hps⟩ : ∃ ps, s.reverse = ps := ⟨_, rfl⟩
  have hal : All32 ps := fun x hx => hg.2.2.2 x (by rw [← hps] at hx; exact List.mem_reverse.1 hx)
  have hnd : nds ps = partsP b e := by rw [← hps, nds_reverse, hg.2.2.1, List.reverse_reverse]
  have hpl : ps.length ≤ 96 := by rw [← hps, List.length_reverse]; exact hg.len
  rw [hps] at hX
  have hXl : X.length = 16 + 32 * ps.length := by
    rw [hX, List.length_append, List.length_append, be_length, be_length, digs_len hal]; omega
  have hb48 : b ≤ e := hg.1
  have he48 : e ≤ 281474976710656 := hg.2.1
  have hn0 : num ((X.drop 0).take 8) = b := by
    rw [hX, List.drop_zero, List.append_assoc, List.take_left' (be_length 8 b)]
    exact num_be 8 b (Nat.lt_of_le_of_lt (Nat.le_trans hb48 he48) (by decide))
  have hn8 : num ((X.drop 8).take 8) = e := by
    rw [hX, List.append_assoc, List.drop_left' (be_length 8 b), List.take_left' (be_length 8 e)]
    exact num_be 8 e (Nat.lt_of_le_of_lt he48 (by decide))
  have hdig : ∀ k p, ps[k]? = some p → (X.drop (16 + 32 * k)).take 32 = p.2.2 := fun k p hk => by
    rw [hX, ← digs_at hal hk]
    congr 1
    rw [show 16 + 32 * k = (be 8 b ++ be 8 e).length + 32 * k by rw [List.length_append, be_length, be_length], List.drop_append, Nat.add_sub_cancel_left, List.drop_of_length_le (by omega), List.nil_append]
  have hsr : ps.reverse = s := by rw [← hps, List.reverse_reverse]
  have CU0 := Lib.hid (fun (w' : World) (R' : List Pc) (i : Nat) (H : Sep B w0 w' R') (hi : R'[i]? = some (.rd v X.length 1 (bl X))) => u64_ok X v 0 w' (H.rd i hi) (by omega) (by omega))
  have CU8 := Lib.hid (fun (w' : World) (R' : List Pc) (i : Nat) (H : Sep B w0 w' R') (hi : R'[i]? = some (.rd v X.length 1 (bl X))) => u64_ok X v 8 w' (H.rd i hi) (by omega) (by omega))
  have CD := Lib.hid (fun (k : Nat) (p : Prt) (hk : ps[k]? = some p) (w' : World) (R' : List Pc) (i : Nat) (H : Sep B w0 w' R') (hi : R'[i]? = some (.rd v X.length 1 (bl X))) => by
    have := digestAt_a X v (16 + 32 * k) w' (H.rd i hi) (by have := (List.getElem?_eq_some_iff.1 hk).1; omega) (by omega)
    rw [hdig k p hk] at this
    exact this)
  have CNO := Lib.hid (fun (w' : World) => nodes_a b e w' hb48 he48)
  rw [hn0] at CU0
  rw [hn8] at CU8
  have HND := Lib.hid hnd
  have HAL := Lib.hid hal
  have HSR := Lib.hid hsr
  have HPN := Lib.hid (show (partsP b e).length = ps.length by rw [← hnd]; simp [nds])
  have HXL := Lib.hid hXl
  obtain ⟨A0, c0, rfl, _, _⟩ := (HS.rd 0 rfl).shape
  obtain ⟨PP, hPP⟩ : ∃ l, partsP b e = l := ⟨_, rfl⟩
  rw [hPP] at CNO HND HPN
  have hwb : IntKind.i64.wrap (b : Int) = (b : Int) := wr64 (by omega) (by omega)
  have hwe : IntKind.i64.wrap (e : Int) = (e : Int) := wr64 (by omega) (by omega)
  have hbe : decide ((e : Int) < (b : Int)) = false := decide_eq_false (by omega)
  have hbe2 : decide (e < b) = false := decide_eq_false (by omega)
  have hem : decide ((281474976710656 : Int) < (e : Int)) = false := decide_eq_false (by omega)
  have hem2 : decide (281474976710656 < e) = false := decide_eq_false (by omega)
  clear hg hX hps hal hnd hXl hn0 hn8 hdig hsr hPP
  go_enter Tryd.func27, Tryd.ntmps27
  go_wp2_with fail
  refine (CU0.out w _ 0 HS rfl).mono ?_
  rintro r w2 ⟨rfl, rfl⟩
  go_wp2_with fail
  refine (CU8.out w2 _ 0 HS rfl).mono ?_
  rintro r w3 ⟨rfl, rfl⟩
  go_wp2_with (first | refine wl_bx HS rfl 61 _ rfl (rgv b e (.slice none 0 0)) rfl ?_)
  intro g w4 HS4
  have c1 := rg_b HS4 0 rfl
  have c2 := rg_e HS4 0 rfl
  clear HS
  go_wp2_with fail
  refine (CNO.out w4).mono ?_
  rintro r w5 ⟨vn, rfl, b5, o5⟩
  have HS5 := HS4.made b5 o5
  obtain ⟨An, cn, rfl, _⟩ := o5.sl
  clear HS4 c1 c2 o5 b5
  have HSn := (Sep.ownNil HS5 99 34).front 2
  clear HS5
  have HPL := Lib.hid hpl
  have hpli : (ps.length : Int) ≤ 96 := by omega
  rw [HPN.out] at HSn ⊢
  go_wp2
  go_loopw [8, 56] (fun s8 s56 wr => ∃ (k i : Nat) (A : Option Addr) (c : Nat), k ≤ ps.length ∧ 16 + 32 * k = i ∧ s56 = .int .i64 (k : Int) ∧ s8 = .int .i64 (i : Int) ∧ Sep B w0 wr (.row g (rgv b e (.slice A k c)) 61 :: .own (.slice A k c) 99 34 k (rcs (ps.take k).reverse) :: .own (.slice An ps.length cn) 31 2 ps.length (scs PP) :: .rd (.slice A0 X.length c0) X.length 1 (bl X) :: R)) (fun _ s56 _ => ps.length - (intOf s56).toNat)
  case atStart => exact ⟨0, 16, none, 0, by omega, rfl, rfl, rfl, by rw [show rcs (ps.take 0).reverse = [] from by simp [rcs]]; exact HSn⟩
  case round =>
    clear HSn
    obtain ⟨k, i, A, c, hk, hi, rfl, rfl, HSi⟩ := hrel
    by_cases hlt : k < ps.length
    · obtain ⟨⟨pl, px, pd⟩, hp⟩ : ∃ p, ps[k]? = some p := ⟨ps[k], by simp [hlt]⟩
      have hpd : pd.length = 32 := HAL.out _ (List.mem_of_getElem? hp)
      have hPk : PP.getD k (0, 0) = (pl, px) := by
        rw [← HND.out, nds, List.getD, List.getElem?_map, hp]; rfl
      have hPl : PP.length = ps.length := HPN.out
      have hcd := CD.out k _ hp
      rw [hi] at hcd
      have HCD := Lib.hid hcd
      have hnext : (ps.take (k + 1)).reverse = (pl, px, pd) :: (ps.take k).reverse := by
        rw [List.take_succ_eq_append_getElem hlt, List.reverse_append]
        have := (List.getElem?_eq_some_iff.1 hp).2
        rw [this]; rfl
      have HNX := Lib.hid hnext
      obtain ⟨gn, rfl⟩ := Ow.addr (HSi.own 2 rfl) (by omega)
      have hlti : (k : Int) < (ps.length : Int) := by omega
      have hld := load_sp (l := PP) (b := gn) (o := 0) (n := ps.length) (c := cn) (w := wr) (HSi.own 2 rfl).rd hPl.symm k hlt (pl, px) hPk
      rw [Nat.zero_add] at hld
      have HLD := Lib.hid hld
      have hi97 : (i : Int) ≤ 4000 := by omega
      have HI2 := Lib.hid (show i + 32 = 16 + 32 * (k + 1) by omega)
      clear hp hPk hPl hcd hnext hld hi
      go_wp2_with (first | refine wl_ldx rfl 31 _ rfl _ rfl (.agg (spv (pl, px))) HLD.out ?_ | refine wl_al HSi rfl 31 rfl #[.int .i64 0, .int .i64 0] (by kernel_rfl) ?_)
      intro g12 w6 HS6
      go_wp2_with (first | refine wl_st HS6 0 rfl rfl 31 _ _ rfl rfl (cs := spv (pl, px)) rfl (spS _) rfl (spv_one _) ?_)
      intro w7 HS7
      clear HSi HS6 HLD
      go_wp2_with fail
      (with_reducible refine Calls.mono (HCD.out w7 _ 4 HS7 rfl) ?_)
      rintro r w8 ⟨rfl, b8⟩
      have HS8 := HS7.keep b8
      clear HS7 b8
      go_wp2_with (first | refine wl_al HS8 rfl 33 rfl (bv (List.replicate 32 0)) (by kernel_rfl) ?_)
      intro g13 w9' HS9
      go_wp2_with (first | refine wl_st HS9 0 rfl rfl 33 _ _ rfl rfl rfl (dgS hpd) (dgE rfl hpd) (bv_one _) ?_)
      intro w10 HS10
      clear HS8 HS9
      go_wp2
      refine Cop.region_ord (fun w' => Sep B w0 w' [.row g13 (bv pd) 33, .row g12 (spv (pl, px)) 31, .row g (rgv b e (.slice A k c)) 61]) 12 (.take 0 (.take 1 (.take 2 (.take 3 (.take 4 (.take 5 (.take 6 (.take 7 (.run 8 (.run 9 (.take 10 (.take 11 (.run 12 Cop.Ord.fin))))))))))))) (by kernel_rfl) (by kernel_rfl) (fun _ _ d _ _ h => by cases d <;> exact h) ?_
      intro wf hdf
      have HSj := HS10.keep hdf
      have HTf : Sep B w0 wf [.row g13 (bv pd) 33, .row g12 (spv (pl, px)) 31, .row g (rgv b e (.slice A k c)) 61] := HSj.sub (by repeat (first | exact List.nil_sublist _ | exact List.Sublist.refl _ | apply List.Sublist.cons_cons | apply List.Sublist.cons))
      clear HS10
      (repeat (first | (refine Cop.og_skip rfl rfl HTf _ (by (simp only [Act.put, List.setIfInBounds_toArray, List.set_cons_succ, List.set_cons_zero]; rfl)) ?_) | (refine Cop.og_ld rfl rfl HTf 33 _ rfl (.pointer (some ⟨g13, 0, none⟩)) rfl _ (fun w9 h9 => load_row (h9.row 0 rfl) 33 Tryd.underlying33 rfl (dgS hpd)) _ (by (simp only [Act.put, List.setIfInBounds_toArray, List.set_cons_succ, List.set_cons_zero]; rfl)) ?_) | (refine Cop.og_ld rfl rfl HTf 31 _ rfl (.pointer (some ⟨g12, 0, none⟩)) rfl _ (fun w9 h9 => load_row (h9.row 1 rfl) 31 Tryd.underlying31 rfl (spS _)) _ (by (simp only [Act.put, List.setIfInBounds_toArray, List.set_cons_succ, List.set_cons_zero]; rfl)) ?_) | (refine Cop.og_take rfl rfl HTf ?_; apply Exists.intro; refine ⟨fun w9 h9 => ?_, _, by (simp only [Act.put, List.setIfInBounds_toArray, List.set_cons_succ, List.set_cons_zero]; rfl), ?_⟩; (have c0 := rg_v h9 2 rfl; go_simp; with_reducible rfl))))
      refine Cop.og_take rfl rfl HTf ⟨.agg (prv (pl, px, pd)), fun w9 h9 => exec_bd 99 _ rfl #[(0, .agg #[.int .i64 (pl : Int), .int .i64 (px : Int)]), (1, .agg (bv pd))] (by kernel_rfl) _ (run_prt pl px hpd w9), _, (by (simp only [Act.put, List.setIfInBounds_toArray, List.set_cons_succ, List.set_cons_zero]; rfl)), ?_⟩
      refine Cop.og_run rfl rfl ?_
      refine ow_bs1 HSj 59 99 34 _ rfl (.agg (prv (pl, px, pd))) rfl (prv (pl, px, pd)).toList (.agg (prv (0, 0, Z32))) Tryd.underlying59 (by kernel_rfl) (by decide) (by decide) (fill_prt (pl, px, pd) hpd) (by rw [Array.length_toList, prv_size hpd]) ?_
      intro gb wg HSg
      have HTg : Sep B w0 wg [.row g13 (bv pd) 33, .row g12 (spv (pl, px)) 31, .row g (rgv b e (.slice A k c)) 61] := HSg.sub (by repeat (first | exact List.nil_sublist _ | exact List.Sublist.refl _ | apply List.Sublist.cons_cons | apply List.Sublist.cons))
      refine ⟨fun _ => HTg, ?_⟩
      refine Cop.og_run rfl rfl ?_
      refine ow_apn HSg 4 rfl _ _ 59 (.agg (prv (0, 0, Z32))) 48 rfl Tryd.underlying59 (by kernel_rfl) rfl (by decide) (by decide) (HSg.own 0 rfl).rd (fun c hc => (Array.all_eq_true_iff_forall_mem.1 (prv_one (pl, px, pd))) c (by simpa using hc)) rfl rfl (k + 1) (rcs (ps.take (k + 1)).reverse) rfl (by rw [HNX.out]; rfl) (by have := HPL.out; omega) ?_
      intro v9 wh HSh hgr
      obtain ⟨A9, c9, rfl, _⟩ := (HSh.own 4 rfl).sl
      have HTh : Sep B w0 wh [.row g13 (bv pd) 33, .row g12 (spv (pl, px)) 31, .row g (rgv b e (.slice A k c)) 61] := HSh.sub (by repeat (first | exact List.nil_sublist _ | exact List.Sublist.refl _ | apply List.Sublist.cons_cons | apply List.Sublist.cons))
      refine ⟨fun _ => HTh, ?_⟩
      (repeat (first | (refine Cop.og_skip rfl rfl HTh _ (by (simp only [Act.put, List.setIfInBounds_toArray, List.set_cons_succ, List.set_cons_zero]; rfl)) ?_) | (refine Cop.og_take rfl rfl HTh ?_; apply Exists.intro; refine ⟨fun w9 h9 => ?_, _, by (simp only [Act.put, List.setIfInBounds_toArray, List.set_cons_succ, List.set_cons_zero]; rfl), ?_⟩; (go_simp; with_reducible rfl))))
      refine Cop.og_run rfl rfl ?_
      refine ow_rv HSh 3 rfl 59 _ _ rfl (by kernel_rfl) rfl rfl rfl rfl ?_
      intro wi HSi
      refine ⟨fun h => absurd rfl h, ?_⟩
      refine og_fin ?_
      clear HTf HTg HTh HSj HSg HSh
      go_wp2
      go_roundw
      case rel => exact ⟨k + 1, i + 32, A9, c9, by omega, HI2.out.symm, by go_num, by go_num, HSi.tail.tail.tail⟩
      case measure => simp [intOf]; omega
    · have hkl : k = ps.length := by omega
      subst hkl
      have hXi : X.length = i := by rw [HXL.out]; exact hi
      have HXI := Lib.hid hXi
      have hxi : (X.length : Int) = (i : Int) := by omega
      clear hi hXi
      go_wp2
      go_ret2
      have e1 : (ps.take ps.length).reverse = s := by rw [List.take_length, HSR.out]
      have e2 : ps.length = s.length := by rw [← HSR.out, List.length_reverse]
      have HSf : Sep B w0 wr (.row g (rgv b e (.slice A ps.length c)) 61 :: .own (.slice A ps.length c) 99 34 ps.length (rcs (ps.take ps.length).reverse) :: .rd (.slice A0 X.length c0) X.length 1 (bl X) :: R) := HSi.sub (((List.Sublist.refl _).cons _).cons_cons _ |>.cons_cons _)
      rw [e1, e2] at HSf
      exact ⟨g, rfl, _, HSf⟩
end
end Go.Proofs.YtlhebogbbkjahaaDoor
