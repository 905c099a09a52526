/- An Ask that came in: two numbers and a list of digests. -/
import Derived.Test.YtbdmehgbdnninaaDoorOd
namespace Go.Proofs.YtbdmehgbdnninaaDoor
open Go.RowKit Cop
set_option linter.unusedVariables false
theorem ask_cells {w : World} {g : Nat} {i n : Int} {v : Value} {t : TypeId} (h : w.heap[g]? = some (.cells #[.int .i64 i, .int .i64 n, v] t (0, 0))) :
    w.cell? ⟨g, 0, none⟩ = some (.int .i64 i) ∧ w.cell? ⟨g, 1, none⟩ = some (.int .i64 n) ∧ w.cell? ⟨g, 2, none⟩ = some v :=
  ⟨by rw [row_cell h]; rfl, by rw [row_cell h]; rfl, by rw [row_cell h]; rfl⟩
section
variable {H : Type} {enc : TypeId × Value → H} {P : Program} {w : World} {t e u : TypeId} {c : Value} {d : DataW H} {ps : List MemPlace}
theorem open_dslice2 (ht : P.underlying t = some (.slice e)) (he : P.underlying e = some (.array 32 u)) (hu : P.underlying u = some (.int .u8)) (hcu : P.cellsOf u = 1) (hce : P.cellsOf e = 32) (hbe : P.bytesOf e = 32)
    {fuel : Nat} (hf : DataW.trod enc P w 0 (fun _ => true) true fuel t [c] = some (d, ps)) (hsz : ∀ e ∈ d.weights P t, e ≤ reachBytes) :
    ∃ l : List (List UInt8), Rd w c l.length 32 (dcs l) ∧ AllD l ∧ l.length ≤ 4398046510976 := by
  rcases DataW.trod_slice ht hf with ⟨hcs, _⟩ | ⟨a, len, cap, elems, rest, n, _, hcs, hx, _, hlc, hm, hel, hget, hsp, _⟩
  · simp at hcs
    subst hcs
    exact ⟨[], Rd.nil w 32, (by intro x hx; cases hx), by simp⟩
  · simp at hcs
    subst hcs
    have hrl := (hsp rfl).1
    have hbytes : cap * 32 ≤ 140737488351232 := by
      simp only [Prod.mk.injEq] at hx
      have := hsz ((elems.length + rest.length) * P.bytesOf e) (by rw [hx.1]; simp [DataW.weights, ht])
      rw [hbe] at this
      simp only [reachBytes, hel, hrl] at this
      rw [show len + (cap - len) = cap from by omega] at this
      exact this
    have each : ∀ i, i < len → ∃ x : List UInt8, x.length = 32 ∧ ∀ k, k < 32 → w.cell? (a.add (i * 32 + k)) = (bl x)[k]? := by
      intro i hi
      have hg := hget i hi
      rw [hce, List.getElem?_eq_getElem (by omega)] at hg
      obtain ⟨cs, h1, h2⟩ := Option.bind_eq_some_iff.1 hg
      obtain ⟨h3, h4, h5⟩ := World.cells?_some h1
      obtain ⟨xs, m, _, _, hl, hxs, hxi⟩ := DataW.trod_array he h2
      obtain ⟨x, hx1, hx2⟩ := bytes_of_list cs 32 (by rw [h4]) (fun k hk => by
        have := hxi k hk
        rw [hcu, Nat.mul_one, List.getElem?_eq_getElem (by omega)] at this
        obtain ⟨z, hz, _, hwf⟩ := DataW.trod_int hu this
        obtain ⟨b, rfl⟩ := u8_of_wf hwf
        refine ⟨b, ?_⟩
        have := congrArg (fun l : List Value => l[0]?) hz
        simpa [List.getElem?_take, List.getElem?_drop] using this)
      refine ⟨x, hx1, fun k hk => ?_⟩
      have e1 : bl x = cs := by
        have := congrArg Array.toList hx2
        rw [bv_toList] at this
        exact this.symm
      rw [e1, ← h5 k hk]
      show w.cell? (a.add (i * 32 + k)) = w.cell? ((a.add (i * 32)).add k)
      congr 1
      obtain ⟨b, o, s⟩ := a
      have e2 : ∀ p q : Nat, (⟨b, o, s⟩ : Addr).add (p + q) = ((⟨b, o, s⟩ : Addr).add p).add q := by
        intro p q
        rcases Nat.eq_zero_or_pos p with rfl | hp
        · simp [Addr.add]
        · rcases Nat.eq_zero_or_pos q with rfl | hq
          · simp [Addr.add]
          · simp [Addr.add, Nat.add_assoc, show p ≠ 0 from by omega, show q ≠ 0 from by omega]
      exact e2 _ _
    obtain ⟨l, hll, hp⟩ := list_of_each len each
    have hal : AllD l := fun x hx => by
      obtain ⟨i, hi⟩ := List.mem_iff_getElem?.1 hx
      exact (hp i x hi).1
    refine ⟨l, ⟨dcs_length hal, some a, cap, by rw [hll], by omega, by omega, by simp, fun h0 => ?_⟩, hal, by omega⟩
    have hcell : ∀ q, q < l.length * 32 → w.cell? (a.add q) = (dcs l)[q]? := by
      intro q hq
      have h1 : q / 32 < l.length := by omega
      have h2 := (hp (q / 32) l[q / 32] (by simp [h1])).2 (q % 32) (by omega)
      rw [show q / 32 * 32 + q % 32 = q from by omega] at h2
      have h3 := dcs_at hal (q / 32) h1 (q % 32) (by omega)
      rw [show q / 32 * 32 + q % 32 = q from by omega] at h3
      rw [h2, h3]
      simp [List.getD, h1]
    obtain ⟨b, o, s⟩ := a
    have hs : s = none := by
      have h1 := hcell 0 (by omega)
      rw [List.getElem?_eq_getElem (by rw [dcs_length hal]; omega)] at h1
      have h2 : (⟨b, o, s⟩ : Addr).add 0 = ⟨b, o, s⟩ := by cases s <;> rfl
      rw [h2] at h1
      simpa using World.cell?_spot h1
    subst hs
    refine ⟨b, o, rfl, fun i u hu => ?_⟩
    have hi := (List.getElem?_eq_some_iff.1 hu).1
    rw [dcs_length hal] at hi
    have := hcell i hi
    rw [add_plain] at this
    rw [this, hu]

theorem open_ask {r : Reach} {base' : Nat} {ta ti : TypeId} {f0 f1 f2 : Field} {k : IntKind} {v : Value} (hta : P.underlying ta = some (.struct #[f0, f1, f2])) (e0 : f0.type = ti) (e1 : f1.type = ti) (e2 : f2.type = t) (o0 : f0.offset = 0) (o1 : f1.offset = 1) (o2 : f2.offset = 2) (hi : P.underlying ti = some (.int k)) (hci : P.cellsOf ti = 1) (hct : P.cellsOf t = 1) (hca : P.cellsOf ta = 3)
    (ht : P.underlying t = some (.slice e)) (he : P.underlying e = some (.array 32 u)) (hu : P.underlying u = some (.int .u8)) (hcu : P.cellsOf u = 1) (hce : P.cellsOf e = 32) (hbe : P.bytesOf e = 32)
    (h : DataW.Trod enc P w 0 (fun _ => true) true ta v d ps) (hv : Value.okWide P w r base' ta v)
    {ts : List TypeId} {ds : List (DataW H)} (hsz : (DataW.weightsEach P ts ds).all (· ≤ reachBytes) = true) (j : Nat) (hj : ts[j]? = some ta) (hd : ds[j]? = some d) :
    ∃ (m n : Int) (c : Value) (l : List (List UInt8)), v = .agg #[.int k m, .int k n, c] ∧ Rd w c l.length 32 (dcs l) ∧ AllD l ∧ l.length ≤ 4398046510976 := by
  obtain ⟨cs, rfl, hcsz⟩ := Go.WideShapes.okWide_struct hta hv
  obtain ⟨fuel, hf⟩ := h
  obtain ⟨xs, n, _, hx, hl, hlen, hff⟩ := DataW.trod_struct hta hf
  obtain ⟨y0, y1, y2, rfl⟩ : ∃ y0 y1 y2, xs = [y0, y1, y2] := by
    match xs, hlen with
    | [y0, y1, y2], _ => exact ⟨_, _, _, rfl⟩
  have h0 := hff 0 f0 rfl
  have h1 := hff 1 f1 rfl
  have h2 := hff 2 f2 rfl
  simp only [List.getElem?_cons_zero, List.getElem?_cons_succ] at h0 h1 h2
  obtain ⟨l⟩ := cs
  rw [hca] at hcsz
  match l, hcsz with
  | [a, b, c], _ =>
    rw [e0, o0, hci] at h0
    rw [e1, o1, hci] at h1
    rw [e2, o2, hct] at h2
    obtain ⟨m, hm, _, w0⟩ := DataW.trod_int hi h0
    obtain ⟨n, hn, _, w1⟩ := DataW.trod_int hi h1
    simp [Value.cells] at hm hn
    obtain ⟨fu, h2⟩ : ∃ fu, DataW.trod enc P w 0 (fun _ => true) true fu t [c] = some (y2.1, y2.2) := ⟨_, by simpa [Value.cells] using h2⟩
    simp only [Prod.mk.injEq] at hx
    have hw : ∀ z ∈ y2.1.weights P t, z ≤ reachBytes := fun z hz => by
      have := List.all_eq_true.1 hsz _ (DataW.weights_mem_each hj hd z (by
        rw [hx.1]
        simp only [DataW.weights, hta]
        exact DataW.weights_mem_each (j := 2) (t := t) (d := y2.1) (by simp [e2]) (by simp) z hz))
      simpa using this
    obtain ⟨l, h3, h4, h5⟩ := open_dslice2 ht he hu hcu hce hbe h2 hw
    exact ⟨m, n, c, l, by simp [hm, hn], h3, h4, h5⟩
end
end Go.Proofs.YtbdmehgbdnninaaDoor
