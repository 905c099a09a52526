/- Digests' lists that came in. -/
import Derived.Test.YtbjbdnlgoifamaaDoorPt
namespace Go.Proofs.YtbjbdnlgoifamaaDoor
open Go.RowKit Cop
set_option linter.unusedVariables false
theorem list_of_each {α : Type} {P : Nat → α → Prop} : ∀ (n : Nat), (∀ i, i < n → ∃ x, P i x) → ∃ l : List α, l.length = n ∧ ∀ i x, l[i]? = some x → P i x
  | 0, _ => ⟨[], rfl, fun i x h => by simp at h⟩
  | n + 1, h => by
    obtain ⟨l, hl, hp⟩ := list_of_each n (fun i hi => h i (by omega))
    obtain ⟨x, hx⟩ := h n (by omega)
    refine ⟨l ++ [x], by simp [hl], fun i y hy => ?_⟩
    rw [List.getElem?_append] at hy
    split at hy
    · exact hp i y hy
    · rename_i hlt
      have : i = n := by
        have := (List.getElem?_eq_some_iff.1 hy).1
        simp at this
        omega
      subst this
      simp [hl] at hy
      subst hy
      exact hx
section
variable {H : Type} {enc : TypeId × Value → H} {P : Program} {w : World} {t e u : TypeId} {v : Value} {d : DataW H} {ps : List MemPlace}
theorem open_dslice {r : Reach} {base' : Nat} (ht : P.underlying t = some (.slice e)) (he : P.underlying e = some (.array 32 u)) (hu : P.underlying u = some (.int .u8)) (hcu : P.cellsOf u = 1) (hce : P.cellsOf e = 32) (hbe : P.bytesOf e = 32)
    (h : DataW.Trod enc P w 0 (fun _ => true) true t v d ps) (hv : Value.okWide P w r base' t v)
    {ts : List TypeId} {ds : List (DataW H)} (hsz : (DataW.weightsEach P ts ds).all (· ≤ reachBytes) = true) (j : Nat) (hj : ts[j]? = some t) (hd : ds[j]? = some d) :
    ∃ l : List (List UInt8), Rd w v l.length 32 (dcs l) ∧ AllD l ∧ l.length ≤ 4398046510976 := by
  obtain ⟨a0, len, cap, rfl⟩ := Go.WideShapes.okWide_slice ht hv
  obtain ⟨fuel, hf⟩ := h
  rcases DataW.trod_slice ht hf with ⟨hcs, _⟩ | ⟨a, len', cap', elems, rest, n, _, hcs, hx, _, hlc, hm, hel, hget, hsp, _⟩
  · simp [Value.cells] at hcs
    obtain ⟨rfl, rfl, rfl⟩ := hcs
    exact ⟨[], Rd.nil w 32, (by intro x hx; cases hx), by simp⟩
  · simp [Value.cells] at hcs
    obtain ⟨rfl, rfl, rfl⟩ := hcs
    have hrl := (hsp rfl).1
    have hbytes : cap * 32 ≤ 140737488351232 := by
      simp only [Prod.mk.injEq] at hx
      have hd2 := hd
      rw [hx.1] at hd2
      have := sized_slice hsz hj hd2 ht
      rw [hbe] at this
      simp only [List.length_map, reachBytes, hel, hrl] at this
      rw [show len + (cap - len) = cap from by omega] at this
      exact this
    have each : ∀ i, i < len → ∃ x : List UInt8, x.length = 32 ∧ ∀ k, k < 32 → w.cell? (a.add (i * 32 + k)) = (bl x)[k]? := by
      intro i hi
      have hg := hget i hi
      rw [hce, List.getElem?_eq_getElem (by omega)] at hg
      obtain ⟨cs, h1, h2⟩ := Option.bind_eq_some_iff.1 hg
      obtain ⟨h3, h4, h5⟩ := World.cells?_some h1
      obtain ⟨xs, m, _, _, hl, hxs, hxi⟩ := DataW.trod_array he h2
      obtain ⟨x, hx1, hx2⟩ := bytes_of_list cs 32 (by rw [h4]) (fun k hk => by
        have := hxi k hk
        rw [hcu, Nat.mul_one, List.getElem?_eq_getElem (by omega)] at this
        obtain ⟨z, hz, _, hwf⟩ := DataW.trod_int hu this
        obtain ⟨b, rfl⟩ := u8_of_wf hwf
        refine ⟨b, ?_⟩
        have := congrArg (fun l : List Value => l[0]?) hz
        simpa [List.getElem?_take, List.getElem?_drop] using this)
      refine ⟨x, hx1, fun k hk => ?_⟩
      have e1 : bl x = cs := by
        have := congrArg Array.toList hx2
        rw [bv_toList] at this
        exact this.symm
      rw [e1, ← h5 k hk]
      show w.cell? (a.add (i * 32 + k)) = w.cell? ((a.add (i * 32)).add k)
      congr 1
      obtain ⟨b, o, s⟩ := a
      have e2 : ∀ p q : Nat, (⟨b, o, s⟩ : Addr).add (p + q) = ((⟨b, o, s⟩ : Addr).add p).add q := by
        intro p q
        rcases Nat.eq_zero_or_pos p with rfl | hp
        · simp [Addr.add]
        · rcases Nat.eq_zero_or_pos q with rfl | hq
          · simp [Addr.add]
          · simp [Addr.add, Nat.add_assoc, show p ≠ 0 from by omega, show q ≠ 0 from by omega]
      exact e2 _ _
    obtain ⟨l, hll, hp⟩ := list_of_each len each
    have hal : AllD l := fun x hx => by
      obtain ⟨i, hi⟩ := List.mem_iff_getElem?.1 hx
      exact (hp i x hi).1
    refine ⟨l, ⟨dcs_length hal, some a, cap, by rw [hll], by omega, by omega, by simp, fun h0 => ?_⟩, hal, by omega⟩
    have hcell : ∀ q, q < l.length * 32 → w.cell? (a.add q) = (dcs l)[q]? := by
      intro q hq
      have h1 : q / 32 < l.length := by omega
      have h2 := (hp (q / 32) l[q / 32] (by simp [h1])).2 (q % 32) (by omega)
      rw [show q / 32 * 32 + q % 32 = q from by omega] at h2
      have h3 := dcs_at hal (q / 32) h1 (q % 32) (by omega)
      rw [show q / 32 * 32 + q % 32 = q from by omega] at h3
      rw [h2, h3]
      simp [List.getD, h1]
    obtain ⟨b, o, s⟩ := a
    have hs : s = none := by
      have h1 := hcell 0 (by omega)
      rw [List.getElem?_eq_getElem (by rw [dcs_length hal]; omega)] at h1
      have h2 : (⟨b, o, s⟩ : Addr).add 0 = ⟨b, o, s⟩ := by cases s <;> rfl
      rw [h2] at h1
      simpa using World.cell?_spot h1
    subst hs
    refine ⟨b, o, rfl, fun i u hu => ?_⟩
    have hi := (List.getElem?_eq_some_iff.1 hu).1
    rw [dcs_length hal] at hi
    have := hcell i hi
    rw [add_plain] at this
    rw [this, hu]
end
end Go.Proofs.YtbjbdnlgoifamaaDoor
