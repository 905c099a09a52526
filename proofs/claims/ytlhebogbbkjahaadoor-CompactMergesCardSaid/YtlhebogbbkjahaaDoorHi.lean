import Derived.Test.YtlhebogbbkjahaaDoorHg
import Derived.Test.YtlhebogbbkjahaaDoorRows
import Derived.LaidMore
import Derived.LaidHandle
import Derived.Stop.Joined
namespace Go.Proofs.YtlhebogbbkjahaaDoor
open Go.RowKit Cop Go.ChangeShapes Go.WideShapes
set_option linter.unusedVariables false
set_option linter.unusedSimpArgs false
theorem begin_a (w : World) : Calls Tryd.prog 86 #[] w fun e w' => e = .returned (.agg (hv hbegin)) ∧ Below w.heap.size w w' := by
  go_enter Tryd.func86, Tryd.ntmps86
  go_wp2
  exact ret_row rfl rfl w.heap.size rfl 157 (hv hbegin) (0, 0) _ (at_new _ _ _ rfl) Tryd.underlying157 rfl info_h8 ⟨rfl, (Below.refl _ _).alloc (Nat.le_refl _) _⟩
theorem begin_b (w : World) : Calls Tryd.prog 81 #[] w fun e w' => e = .returned (.agg (hv hbegin)) ∧ Below w.heap.size w w' := by
  go_enter Tryd.func81, Tryd.ntmps81
  go_wp2
  exact ret_row rfl rfl w.heap.size rfl 157 (hv hbegin) (0, 0) _ (at_new _ _ _ rfl) Tryd.underlying157 rfl info_h8 ⟨rfl, (Below.refl _ _).alloc (Nat.le_refl _) _⟩
theorem eq_wv (w : World) {d : Nat} {t e : TypeId} {n : Nat} (ht : Tryd.prog.underlying t = some (.array n e)) (he : Tryd.prog.underlying e = some (.int .u32)) (hs : (Tryd.prog.info? e).map (·.size) = some 1) (l : List UInt32) (hl : l.length = n) :
    (Op.equalIn (d + 2) t (.agg (wv l)) (.agg (wv l))).run Tryd.prog w = .ok true w := by
  have h : wv l = nmv .u32 (l.map fun b => (b.toNat : Int)) := by simp [wv, nmv]
  rw [h, run_equal_nmv w ht he hs _ _ (by simpa using hl) (by simpa using hl)]
  simp
theorem u32_of_wf {n : Int} (h : (Lit.int .u32 n).wf = true) : ∃ b : UInt32, n = (b.toNat : Int) := by
  simp only [Lit.wf, Bool.and_eq_true, decide_eq_true_eq] at h
  have h1 : (0 : Int) ≤ n := h.1
  have h2 : n ≤ 4294967295 := h.2
  exact ⟨UInt32.ofNat n.toNat, by rw [UInt32.toNat_ofNat']; omega⟩
/-- Eight words that came in. -/
theorem open_h8 {H : Type} {enc : TypeId × Value → H} {P : Program} {w : World} {base : Nat} {spare : Nat → Bool} {held : Bool} {t e : TypeId} {v : Value} {d : DataW H} {ps : List MemPlace} {r : Reach} {base' : Nat} (ht : P.underlying t = some (.array 8 e)) (he : P.underlying e = some (.int .u32)) (hce : P.cellsOf e = 1) (hc : P.cellsOf t = 8)
    (h : DataW.Trod enc P w base spare held t v d ps) (hok : Value.okWide P w r base' t v) : ∃ s : H8, v = .agg (hv s) := by
  unfold Value.okWide at hok
  rw [ht] at hok
  obtain ⟨cs, rfl, hsz, _⟩ := hok
  obtain ⟨fuel, hf⟩ := h
  obtain ⟨xs, m, _, _, hl, hxs, hget⟩ := DataW.trod_array ht hf
  have hlen : cs.toList.length = 8 := hl.trans hc
  have key : ∀ i, i < 8 → ∃ b : UInt32, cs.toList[i]? = some (.int .u32 (b.toNat : Int)) := fun i hi => by
    have := hget i hi
    rw [hce, Nat.mul_one, List.getElem?_eq_getElem (by omega)] at this
    obtain ⟨k, hk, _, hwf⟩ := DataW.trod_int he this
    obtain ⟨b, rfl⟩ := u32_of_wf hwf
    refine ⟨b, ?_⟩
    have := congrArg (fun l : List Value => l[0]?) hk
    simpa [List.getElem?_take, List.getElem?_drop, Value.cells] using this
  obtain ⟨a, h0⟩ := key 0 (by omega)
  obtain ⟨b, h1⟩ := key 1 (by omega)
  obtain ⟨c, h2⟩ := key 2 (by omega)
  obtain ⟨d, h3⟩ := key 3 (by omega)
  obtain ⟨e, h4⟩ := key 4 (by omega)
  obtain ⟨f, h5⟩ := key 5 (by omega)
  obtain ⟨g, h6⟩ := key 6 (by omega)
  obtain ⟨k, h7⟩ := key 7 (by omega)
  refine ⟨⟨a, b, c, d, e, f, g, k⟩, ?_⟩
  obtain ⟨l⟩ := cs
  simp only [Value.agg.injEq]
  match l, hlen with
  | [x0, x1, x2, x3, x4, x5, x6, x7], _ =>
    simp at h0 h1 h2 h3 h4 h5 h6 h7
    simp [h0, h1, h2, h3, h4, h5, h6, h7, hv]
/-- An array of words that reads as given. -/
theorem words_of_trod {H : Type} {enc : TypeId × Value → H} {P : Program} {w : World} {base : Nat} {spare : Nat → Bool} {held : Bool} {t e : TypeId} {n fuel : Nat} {cs : Array Value} {l : List UInt32} {p : List MemPlace} (ht : P.underlying t = some (.array n e)) (he : P.underlying e = some (.int .u32)) (hce : P.cellsOf e = 1) (hc : P.cellsOf t = n)
    (h : DataW.trod enc P w base spare held fuel t cs.toList = some (.agg (l.map fun x => .lit (.int .u32 (x.toNat : Int))), p)) : cs = wv l := by
  obtain ⟨xs, m, _, hx, hl, hxs, hget⟩ := DataW.trod_array ht h
  simp only [Prod.mk.injEq, DataW.agg.injEq] at hx
  have hln : l.length = n := by have := congrArg List.length hx.1; simpa [hxs] using this
  have hlen : cs.toList.length = n := hl.trans hc
  obtain ⟨cl⟩ := cs
  simp only at hlen hget
  have : cl = l.map fun x => Value.int .u32 (x.toNat : Int) := by
    refine List.ext_getElem (by simp [hlen, hln]) fun i h1 h2 => ?_
    have hi : i < n := by omega
    have hg := hget i hi
    rw [hce, Nat.mul_one, List.getElem?_eq_getElem (by omega)] at hg
    obtain ⟨k, hk, hx2, _⟩ := DataW.trod_int he hg
    have hk0 := congrArg (fun l : List Value => l[0]?) hk
    simp [List.getElem?_take, List.getElem?_drop, h1] at hk0
    have h3 := congrArg (fun l : List (DataW H) => l[i]?) hx.1
    simp [show i < l.length from by omega, show i < xs.length from by omega, hx2] at h3
    simp [hk0, h3]
  rw [this]; rfl
theorem laid_kst {H : Type} : (Rows.laid_coppice_hash_constants : DataW H) = .agg (kst.map fun x => .lit (.int .u32 (x.toNat : Int))) := rfl
/-- What the condition gives: the table of constants lies at block 0. -/
theorem table_of {W : World} (h : laidMetH Tryd.prog [("coppice/hash.constants", Rows.laid_coppice_hash_constants)] W) : ∃ tt, W.heap[0]? = some (.cells (wv kst) tt (0, 0)) := by
  have g0 : Tryd.prog.globalNamed "coppice/hash.constants" = some 0 := by kernel_rfl
  have t0 : (Tryd.prog.globals[0]?).map (·.type) = some 176 := by kernel_rfl
  rw [MakeChecks.laidMetH_plain _ _ _ (by kernel_rfl)] at h
  obtain ⟨ps, ⟨g, t, cs, f, p, q, hg, ht, hv, hd, _, hps⟩, _, hrow⟩ := h
  obtain rfl := Option.some.inj (g0.symm.trans hg)
  obtain rfl := Option.some.inj (t0.symm.trans ht)
  have hcs : cs = wv kst := by
    rw [laid_kst] at hd
    exact words_of_trod Tryd.underlying176 Tryd.underlying156 (by kernel_rfl) (by kernel_rfl) hd
  have hsz : cs.size = 64 := by rw [hcs]; rfl
  have hheap : ∃ tt fr, W.heap[0]? = some (.cells cs tt fr) := by
    unfold World.var? at hv
    rw [g0] at hv
    simp only [Option.bind_some] at hv
    split at hv
    · rename_i c t f hh
      have : c = cs := by simpa using hv
      subst this
      exact ⟨_, _, hh⟩
    · simp at hv
  obtain ⟨tt, fr, hh⟩ := hheap
  have hfr : fr = (0, 0) := by
    obtain ⟨⟨c, t, h1⟩, _⟩ := hrow 0 0 (by rw [hps]; simp [MemPlace.row, hsz])
    rw [hh] at h1
    simpa using (Option.some.inj h1 |> Obj.cells.inj).2.2
  subst hfr
  refine ⟨tt, ?_⟩
  rw [hh, hcs]
end Go.Proofs.YtlhebogbbkjahaaDoor
