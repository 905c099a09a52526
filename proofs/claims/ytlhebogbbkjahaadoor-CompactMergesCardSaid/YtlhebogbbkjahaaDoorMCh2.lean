/- (No halves in this seat.) The reference's Root; parts of digests' lists that are read; Sub of both. Digests' lists that came in. Sub of both; two digests' lists that are the same. -/
import Derived.Test.YtlhebogbbkjahaaDoorTc
import Derived.Test.YtlhebogbbkjahaaDoorTr
import Derived.Test.YtlhebogbbkjahaaDoorRo
import Derived.Test.YtlhebogbbkjahaaDoorPt

namespace Go.Proofs.YtlhebogbbkjahaaDoor
open Go.RowKit Cop
set_option linter.unusedVariables false
set_option linter.unusedSimpArgs false
theorem info_dg32 : (Tryd.prog.info? 33).map (·.size) = some 32 := by kernel_rfl
section
variable {w : World} {v : Value} {l : List (List UInt8)}
/-- l[lo:hi]. -/
theorem rd_dsub (hR : Rd w v l.length 32 (dcs l)) (hl : AllD l) (lo hi : Nat) (h1 : lo ≤ hi) (h2 : hi ≤ l.length) : ∃ A c, Rd w (.slice A (hi - lo) c) (hi - lo) 32 (dcs ((l.take hi).drop lo)) ∧ hi - lo ≤ c ∧ c ≤ 9223372036854775807 ∧
    (∀ W kl kh, (Instr.sliceAt 22 v (some (.int kl (lo : Int))) (some (.int kh (hi : Int))) none).run Tryd.prog W = .ok (.slice A (hi - lo) c) W) ∧
    (lo = 0 → ∀ W kh, (Instr.sliceAt 22 v none (some (.int kh (hi : Int))) none).run Tryd.prog W = .ok (.slice A (hi - lo) c) W) ∧
    (hi = l.length → ∀ W kl, (Instr.sliceAt 22 v (some (.int kl (lo : Int))) none none).run Tryd.prog W = .ok (.slice A (hi - lo) c) W) := by
  obtain ⟨v', h3, h4, h5, h6⟩ := hR.slice Tryd.underlying22 info_dg32 lo hi h1 h2
  have e : ((dcs l).take (hi * 32)).drop (lo * 32) = dcs ((l.take hi).drop lo) := by
    rw [dcs_take hl hi h2, dcs_drop (hl.take hi) lo (by rw [List.length_take]; omega)]
  rw [e] at h3
  obtain ⟨A, c, rfl, h7, h8⟩ := h3.shape
  exact ⟨A, c, h3, h7, h8, h4, h5, h6⟩
theorem rd_dto (hR : Rd w v l.length 32 (dcs l)) (hl : AllD l) (k : Nat) (h2 : k ≤ l.length) : ∃ A c, Rd w (.slice A k c) k 32 (dcs (l.take k)) ∧ k ≤ c ∧ c ≤ 9223372036854775807 ∧
    ∀ W kh, (Instr.sliceAt 22 v none (some (.int kh (k : Int))) none).run Tryd.prog W = .ok (.slice A k c) W := by
  obtain ⟨A, c, h3, h4, h5, _, h6, _⟩ := rd_dsub hR hl 0 k (Nat.zero_le _) h2
  rw [Nat.sub_zero, List.drop_zero] at h3
  rw [Nat.sub_zero] at h4 h6
  exact ⟨A, c, h3, h4, h5, h6 rfl⟩
theorem rd_dfrom (hR : Rd w v l.length 32 (dcs l)) (hl : AllD l) (k : Nat) (h2 : k ≤ l.length) : ∃ A c, Rd w (.slice A (l.length - k) c) (l.length - k) 32 (dcs (l.drop k)) ∧ l.length - k ≤ c ∧ c ≤ 9223372036854775807 ∧
    ∀ W kl, (Instr.sliceAt 22 v (some (.int kl (k : Int))) none none).run Tryd.prog W = .ok (.slice A (l.length - k) c) W := by
  obtain ⟨A, c, h3, h4, h5, _, _, h6⟩ := rd_dsub hR hl k l.length h2 (Nat.le_refl _)
  rw [List.take_length] at h3
  exact ⟨A, c, h3, h4, h5, h6 rfl⟩
/-- One digest of a list is loaded. -/
theorem load_dg {b o n c : Nat} (hR : Rd w (.slice (some ⟨b, o, none⟩) n c) n 32 (dcs l)) (hn : n = l.length) (hl : AllD l) (k : Nat) (hk : k < l.length) (d : List UInt8) (hd : l.getD k [] = d) :
    (Instr.loadAt 33 (.pointer (some ⟨b, o + k * 32, none⟩))).run Tryd.prog w = .ok (.agg (bv d)) w := by
  have hdl : d.length = 32 := by
    rw [← hd]
    refine hl _ ?_
    simp only [List.getD, List.getElem?_eq_getElem hk, Option.getD_some]
    exact List.getElem_mem hk
  refine load_cells (bv d) (fun j u hu => ?_) 33 Tryd.underlying33 rfl (dgS hdl)
  have hj : j < 32 := by have := (Array.getElem?_eq_some_iff.1 hu).1; rw [bv_size, hdl] at this; exact this
  have := rd_cell hR (by omega) (k * 32 + j) (v := u) (by
    rw [dcs_at hl k hk j hj, hd]
    rw [← bv_toList]
    simpa using hu)
  rwa [← Nat.add_assoc] at this
theorem rd_some {A : Option Addr} {n c size : Nat} {cs : List Value} (hR : Rd w (.slice A n c) n size cs) (h0 : 0 < n) : ∃ b o, A = some ⟨b, o, none⟩ := by
  obtain ⟨_, A', c', he, _, _, _, h⟩ := hR
  obtain ⟨b, o, h1, _⟩ := h h0
  injection he with he _ _
  exact ⟨b, o, he.trans h1⟩
theorem dg_len (hl : AllD l) (k : Nat) (hk : k < l.length) : (l.getD k []).length = 32 := by
  refine hl _ ?_
  simp only [List.getD, List.getElem?_eq_getElem hk, Option.getD_some]
  exact List.getElem_mem hk
end
theorem root_length : ∀ (l : List (List UInt8)), AllD l → (root nodeD (sha []) l).length = 32 := by
  intro l hl
  rcases Nat.lt_or_ge l.length 2 with h | h
  · match l, h with
    | [], _ => rw [root_nil]; exact sha_length _
    | [d], _ => rw [root_one]; exact hl d (by simp)
  · rw [root_split _ _ h]; exact nodeD_length _ _
end Go.Proofs.YtlhebogbbkjahaaDoor
namespace Go.Proofs.YtlhebogbbkjahaaDoor
open Go.RowKit Cop
set_option linter.unusedVariables false
theorem list_of_each {α : Type} {P : Nat → α → Prop} : ∀ (n : Nat), (∀ i, i < n → ∃ x, P i x) → ∃ l : List α, l.length = n ∧ ∀ i x, l[i]? = some x → P i x
  | 0, _ => ⟨[], rfl, fun i x h => by simp at h⟩
  | n + 1, h => by
    obtain ⟨l, hl, hp⟩ := list_of_each n (fun i hi => h i (by omega))
    obtain ⟨x, hx⟩ := h n (by omega)
    refine ⟨l ++ [x], by simp [hl], fun i y hy => ?_⟩
    rw [List.getElem?_append] at hy
    split at hy
    · exact hp i y hy
    · rename_i hlt
      have : i = n := by
        have := (List.getElem?_eq_some_iff.1 hy).1
        simp at this
        omega
      subst this
      simp [hl] at hy
      subst hy
      exact hx
section
variable {H : Type} {enc : TypeId × Value → H} {P : Program} {w : World} {t e u : TypeId} {v : Value} {d : DataW H} {ps : List MemPlace}
theorem open_dslice {r : Reach} {base' : Nat} (ht : P.underlying t = some (.slice e)) (he : P.underlying e = some (.array 32 u)) (hu : P.underlying u = some (.int .u8)) (hcu : P.cellsOf u = 1) (hce : P.cellsOf e = 32) (hbe : P.bytesOf e = 32)
    (h : DataW.Trod enc P w 0 (fun _ => true) true t v d ps) (hv : Value.okWide P w r base' t v)
    {ts : List TypeId} {ds : List (DataW H)} (hsz : (DataW.weightsEach P ts ds).all (· ≤ reachBytes) = true) (j : Nat) (hj : ts[j]? = some t) (hd : ds[j]? = some d) :
    ∃ l : List (List UInt8), Rd w v l.length 32 (dcs l) ∧ AllD l ∧ l.length ≤ 4398046510976 := by
  obtain ⟨a0, len, cap, rfl⟩ := Go.WideShapes.okWide_slice ht hv
  obtain ⟨fuel, hf⟩ := h
  rcases DataW.trod_slice ht hf with ⟨hcs, _⟩ | ⟨a, len', cap', elems, rest, n, _, hcs, hx, _, hlc, hm, hel, hget, hsp, _⟩
  · simp [Value.cells] at hcs
    obtain ⟨rfl, rfl, rfl⟩ := hcs
    exact ⟨[], Rd.nil w 32, (by intro x hx; cases hx), by simp⟩
  · simp [Value.cells] at hcs
    obtain ⟨rfl, rfl, rfl⟩ := hcs
    have hrl := (hsp rfl).1
    have hbytes : cap * 32 ≤ 140737488351232 := by
      simp only [Prod.mk.injEq] at hx
      have hd2 := hd
      rw [hx.1] at hd2
      have := sized_slice hsz hj hd2 ht
      rw [hbe] at this
      simp only [List.length_map, reachBytes, hel, hrl] at this
      rw [show len + (cap - len) = cap from by omega] at this
      exact this
    have each : ∀ i, i < len → ∃ x : List UInt8, x.length = 32 ∧ ∀ k, k < 32 → w.cell? (a.add (i * 32 + k)) = (bl x)[k]? := by
      intro i hi
      have hg := hget i hi
      rw [hce, List.getElem?_eq_getElem (by omega)] at hg
      obtain ⟨cs, h1, h2⟩ := Option.bind_eq_some_iff.1 hg
      obtain ⟨h3, h4, h5⟩ := World.cells?_some h1
      obtain ⟨xs, m, _, _, hl, hxs, hxi⟩ := DataW.trod_array he h2
      obtain ⟨x, hx1, hx2⟩ := bytes_of_list cs 32 (by rw [h4]) (fun k hk => by
        have := hxi k hk
        rw [hcu, Nat.mul_one, List.getElem?_eq_getElem (by omega)] at this
        obtain ⟨z, hz, _, hwf⟩ := DataW.trod_int hu this
        obtain ⟨b, rfl⟩ := u8_of_wf hwf
        refine ⟨b, ?_⟩
        have := congrArg (fun l : List Value => l[0]?) hz
        simpa [List.getElem?_take, List.getElem?_drop] using this)
      refine ⟨x, hx1, fun k hk => ?_⟩
      have e1 : bl x = cs := by
        have := congrArg Array.toList hx2
        rw [bv_toList] at this
        exact this.symm
      rw [e1, ← h5 k hk]
      show w.cell? (a.add (i * 32 + k)) = w.cell? ((a.add (i * 32)).add k)
      congr 1
      obtain ⟨b, o, s⟩ := a
      have e2 : ∀ p q : Nat, (⟨b, o, s⟩ : Addr).add (p + q) = ((⟨b, o, s⟩ : Addr).add p).add q := by
        intro p q
        rcases Nat.eq_zero_or_pos p with rfl | hp
        · simp [Addr.add]
        · rcases Nat.eq_zero_or_pos q with rfl | hq
          · simp [Addr.add]
          · simp [Addr.add, Nat.add_assoc, show p ≠ 0 from by omega, show q ≠ 0 from by omega]
      exact e2 _ _
    obtain ⟨l, hll, hp⟩ := list_of_each len each
    have hal : AllD l := fun x hx => by
      obtain ⟨i, hi⟩ := List.mem_iff_getElem?.1 hx
      exact (hp i x hi).1
    refine ⟨l, ⟨dcs_length hal, some a, cap, by rw [hll], by omega, by omega, by simp, fun h0 => ?_⟩, hal, by omega⟩
    have hcell : ∀ q, q < l.length * 32 → w.cell? (a.add q) = (dcs l)[q]? := by
      intro q hq
      have h1 : q / 32 < l.length := by omega
      have h2 := (hp (q / 32) l[q / 32] (by simp [h1])).2 (q % 32) (by omega)
      rw [show q / 32 * 32 + q % 32 = q from by omega] at h2
      have h3 := dcs_at hal (q / 32) h1 (q % 32) (by omega)
      rw [show q / 32 * 32 + q % 32 = q from by omega] at h3
      rw [h2, h3]
      simp [List.getD, h1]
    obtain ⟨b, o, s⟩ := a
    have hs : s = none := by
      have h1 := hcell 0 (by omega)
      rw [List.getElem?_eq_getElem (by rw [dcs_length hal]; omega)] at h1
      have h2 : (⟨b, o, s⟩ : Addr).add 0 = ⟨b, o, s⟩ := by cases s <;> rfl
      rw [h2] at h1
      simpa using World.cell?_spot h1
    subst hs
    refine ⟨b, o, rfl, fun i u hu => ?_⟩
    have hi := (List.getElem?_eq_some_iff.1 hu).1
    rw [dcs_length hal] at hi
    have := hcell i hi
    rw [add_plain] at this
    rw [this, hu]
end
end Go.Proofs.YtlhebogbbkjahaaDoor
namespace Go.Proofs.YtlhebogbbkjahaaDoor
open Go.RowKit Cop
set_option linter.unusedVariables false
set_option linter.unusedSimpArgs false
theorem dgs_info : (Tryd.prog.info? 33).map (fun i => (i.zero, i.size, i.bytes)) = some (some (.agg (bv (List.replicate 32 0))), 32, 32) := by kernel_rfl
theorem dcs_one (l : List (List UInt8)) : ∀ c ∈ dcs l, c.oneCell' = true := by
  intro c hc
  simp only [dcs, List.mem_flatMap] at hc
  obtain ⟨x, _, hc⟩ := hc
  simp [bl] at hc; obtain ⟨b, _, rfl⟩ := hc; rfl
theorem whole_a (A : Option Addr) (n c : Nat) (b e : Int) (w : World) : Gives 39 #[.slice A n c, .agg #[.int .i64 b, .int .i64 e]] w (.bool (decide (b = 0) && decide (e = (n : Int)))) := by
  have HS0 := Sep.start w
  go_enter Tryd.func39, Tryd.ntmps39
  go_wp2_with (first | refine wl_bx HS0 rfl 26 _ rfl #[.int .i64 b, .int .i64 e] rfl ?_)
  intro g1 w1 HS1
  go_wp2_with (first | refine wl_ld HS1 0 rfl rfl 26 _ rfl rfl Tryd.underlying26 rfl (by kernel_rfl) ?_)
  all_goals
    go_ret
    exact ⟨by simp_all, HS1.hb⟩
set_option maxHeartbeats 4000000 in
theorem subNo_a (A : Option Addr) (n c : Nat) (b e : Int) (w : World) (hn : n ≤ 4398046511104) (hno : ¬ (0 ≤ b ∧ b < e ∧ e ≤ (n : Int))) : Gives 11 #[.slice A n c, .agg #[.int .i64 b, .int .i64 e]] w (.tuple #[.agg (bv (List.replicate 32 0)), .int .i64 40]) := by
  have HS0 := Sep.start w
  have HNO := Lib.hid hno
  clear hno
  go_enter Tryd.func11, Tryd.ntmps11
  go_wp2_with (first | refine wl_bx HS0 rfl 26 _ rfl #[.int .i64 b, .int .i64 e] rfl ?_)
  intro g1 w1 HS1
  go_wp2_with (first | refine wl_al HS1 rfl 33 rfl (bv (List.replicate 32 0)) (by kernel_rfl) ?_)
  intro g2 w2 HS2
  have c0 : w2.cell? ⟨g1, 0, none⟩ = some (.int .i64 b) := by rw [row_cell (HS2.row 1 rfl)]; rfl
  have c1 : w2.cell? ⟨g1, 1, none⟩ = some (.int .i64 e) := by rw [row_cell (HS2.row 1 rfl)]; rfl
  rcases (show b < 0 ∨ (¬ b < 0 ∧ e ≤ b) ∨ (¬ b < 0 ∧ ¬ e ≤ b ∧ (n : Int) < e) from by have := HNO.out; omega) with h1 | ⟨h1, h2⟩ | ⟨h1, h2, h3⟩
  all_goals
    go_wp2_with (first | refine wl_st HS2 0 rfl rfl 33 _ _ rfl rfl (cs := bv (List.replicate 32 0)) rfl (dgS rfl) rfl (bv_one _) ?_)
    intro w3 HS3
    go_wp2_with fail
    exact ret_row_tmp rfl rfl g2 rfl 33 (bv (List.replicate 32 0)) (0, 0) _ (HS3.row 0 rfl) Tryd.underlying33 rfl (dgS rfl) (.int .i64 40) rfl ⟨rfl, HS3.hb⟩
set_option maxRecDepth 100000 in
set_option maxHeartbeats 4000000 in
theorem subA_gen (l : List (List UInt8)) (v : Value) (b e : Nat) (X : List UInt8) (w : World) (hl : AllD l) (hll : l.length ≤ 4398046511104) (hR : Rd w v l.length 32 (dcs l)) (h1 : b < e) (h2 : e ≤ l.length) (hX : X.length = 32)
    (hC : ∀ w' v', Below w.heap.size w w' → Rd w' v' (e - b) 32 (dcs ((l.take e).drop b)) → Gives 13 #[v'] w' (.agg (bv X))) :
    Gives 11 #[v, .agg #[.int .i64 b, .int .i64 e]] w (.tuple #[.agg (bv X), .int .i64 0]) := by
  obtain ⟨A1, c1, HR1, hc1, hm1, hs1, _, _⟩ := rd_dsub hR hl b e (by omega) h2
  have HR2 : b = 0 ∧ e = l.length → Rd w v (e - b) 32 (dcs ((l.take e).drop b)) := by
    rintro ⟨rfl, rfl⟩
    rw [Nat.sub_zero, List.drop_zero, List.take_length]
    exact hR
  obtain ⟨m, hm⟩ : ∃ m, e - b = m := ⟨_, rfl⟩
  obtain ⟨T, hT⟩ : ∃ T, (l.take e).drop b = T := ⟨_, rfl⟩
  rw [hm] at HR1 hs1 hC HR2
  rw [hT] at HR1 hC HR2
  have CR := Lib.hid hC
  have HXL := Lib.hid hX
  have HSL := Lib.hid hs1
  have HRX := Lib.hid HR2
  have HS0 := ((Sep.start w).arg0 hR).arg0 HR1
  obtain ⟨A, c, rfl, _, _⟩ := hR.shape
  have CW := Lib.hid (fun w => whole_a A l.length c b e w)
  have k1 : ¬ (b : Int) < 0 := by omega
  have k2 : ¬ (e : Int) ≤ (b : Int) := by omega
  have k3 : ¬ (l.length : Int) < (e : Int) := by omega
  have hcw : ∃ t, (decide ((b : Int) = 0) && decide ((e : Int) = (l.length : Int))) = t ∧ (t = true → b = 0 ∧ e = l.length) := ⟨_, rfl, fun h => by simp at h; omega⟩
  obtain ⟨t, ht, htt⟩ := hcw
  rw [ht] at CW
  have HTT := Lib.hid htt
  clear hC hX hs1 hR HR1 hT hm hl HR2 ht htt
  go_enter Tryd.func11, Tryd.ntmps11
  go_wp2_with (first | refine wl_bx HS0 rfl 26 _ rfl #[.int .i64 b, .int .i64 e] rfl ?_)
  intro g1 w1 HS1
  go_wp2_with (first | refine wl_al HS1 rfl 33 rfl (bv (List.replicate 32 0)) (by kernel_rfl) ?_)
  intro g2 w2 HS2
  have c0 : w2.cell? ⟨g1, 0, none⟩ = some (.int .i64 b) := by rw [row_cell (HS2.row 1 rfl)]; rfl
  have c1 : w2.cell? ⟨g1, 1, none⟩ = some (.int .i64 e) := by rw [row_cell (HS2.row 1 rfl)]; rfl
  go_wp2_with (first | refine wl_ld HS2 1 rfl rfl 26 _ rfl rfl Tryd.underlying26 rfl (by kernel_rfl) ?_)
  (with_reducible refine Calls.mono (CW.out w2) ?_)
  rintro e w3 ⟨rfl, b3⟩
  have HS3 := HS2.keep b3
  clear HS2
  cases t with
  | true =>
    obtain ⟨hb0, he0⟩ := HTT.out rfl
    have hr3 := (HRX.out ⟨hb0, he0⟩)
    have hr4 := hr3.below HS3.hb
    clear hr3 hb0 he0
    go_wp2_with fail
    (with_reducible refine Calls.mono (CR.out w3 _ HS3.hb hr4) ?_)
    rintro e w4 ⟨rfl, b4⟩
    have HS4 := HS3.keep b4
    clear HS3
    clear hr4
    go_wp2_with (first | refine wl_st HS4 0 rfl rfl 33 _ _ rfl rfl rfl (dgS HXL.out) (dgE rfl HXL.out) (bv_one _) ?_)
    intro w5 HS5
    go_wp2_with fail
    exact ret_row_tmp rfl rfl g2 rfl 33 (bv X) (0, 0) _ (HS5.row 0 rfl) Tryd.underlying33 rfl (dgS HXL.out) (.int .i64 0) rfl ⟨rfl, HS5.hb⟩
  | false =>
    have c0 : w3.cell? ⟨g1, 0, none⟩ = some (.int .i64 b) := by rw [row_cell (HS3.row 1 rfl)]; rfl
    have c1 : w3.cell? ⟨g1, 1, none⟩ = some (.int .i64 e) := by rw [row_cell (HS3.row 1 rfl)]; rfl
    go_wp2_with (refine wl_sl2 rfl 22 _ _ _ rfl _ rfl _ _ rfl rfl _ (HSL.out _ _ _) ?_)
    (with_reducible refine Calls.mono (CR.out w3 _ HS3.hb (HS3.rd 2 rfl)) ?_)
    rintro e w4 ⟨rfl, b4⟩
    have HS4 := HS3.keep b4
    clear HS3
    go_wp2_with (first | refine wl_st HS4 0 rfl rfl 33 _ _ rfl rfl rfl (dgS HXL.out) (dgE rfl HXL.out) (bv_one _) ?_)
    intro w5 HS5
    go_wp2_with fail
    exact ret_row_tmp rfl rfl g2 rfl 33 (bv X) (0, 0) _ (HS5.row 0 rfl) Tryd.underlying33 rfl (dgS HXL.out) (.int .i64 0) rfl ⟨rfl, HS5.hb⟩
end Go.Proofs.YtlhebogbbkjahaaDoor
