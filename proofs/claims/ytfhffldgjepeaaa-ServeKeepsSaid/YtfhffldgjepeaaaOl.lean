/- Lists that came in. -/
import Derived.Test.YtfhffldgjepeaaaSs
import Derived.OpenShut
namespace Go.Proofs.Ytfhffldgjepeaaa
open Go.ChangeShapes Go.RowKit Cop
set_option linter.unusedVariables false
theorem flat_len {α : Type} (f : α → List Value) (c : Nat) (hf : ∀ y, (f y).length = c) : ∀ l : List α, (l.flatMap f).length = l.length * c
  | [] => by simp
  | a :: l => by rw [List.flatMap_cons, List.length_append, hf, flat_len f c hf l, List.length_cons, Nat.succ_mul]; omega
theorem flat_at {α : Type} (f : α → List Value) (c : Nat) (hf : ∀ y, (f y).length = c) : ∀ (l : List α) (i : Nat) (y : α), l[i]? = some y → ∀ k, k < c → (l.flatMap f)[i * c + k]? = (f y)[k]?
  | [], i, y, h, k, hk => by simp at h
  | a :: l, 0, y, h, k, hk => by
    simp at h
    subst h
    rw [List.flatMap_cons, Nat.zero_mul, Nat.zero_add, List.getElem?_append_left (by rw [hf]; exact hk)]
  | a :: l, i + 1, y, h, k, hk => by
    simp at h
    rw [List.flatMap_cons, List.getElem?_append_right (by rw [hf, Nat.succ_mul]; omega), hf, show (i + 1) * c + k - c = i * c + k from by rw [Nat.succ_mul]; omega]
    exact flat_at f c hf l i y h k hk
theorem each_list {α : Type} {Q : Nat → α → Prop} : ∀ (n : Nat), (∀ i, i < n → ∃ x, Q i x) → ∃ l : List α, l.length = n ∧ ∀ i x, l[i]? = some x → Q i x
  | 0, _ => ⟨[], rfl, fun i x h => by simp at h⟩
  | n + 1, h => by
    obtain ⟨l, hl, hp⟩ := each_list n (fun i hi => h i (by omega))
    obtain ⟨x, hx⟩ := h n (by omega)
    refine ⟨l ++ [x], by simp [hl], fun i y hy => ?_⟩
    rw [List.getElem?_append] at hy
    split at hy
    · exact hp i y hy
    · rename_i hlt
      have : i = n := by
        have := (List.getElem?_eq_some_iff.1 hy).1
        simp at this
        omega
      subst this
      simp [hl] at hy
      subst hy
      exact hx
theorem bl_flat : ∀ l : List UInt8, l.flatMap (fun b => [Value.int .u8 (b.toNat : Int)]) = bl l
  | [] => rfl
  | a :: l => by rw [List.flatMap_cons, bl_flat l]; rfl
section
variable {H : Type} {enc : TypeId × Value → H} {P : Program} {w : World} {t e : TypeId} {v : Value} {d : DataW H} {ps : List MemPlace}
/-- A slice that came in, element by element. -/
theorem open_list {α : Type} (f : α → List Value) (OK : α → DataW H → Prop) {c : Nat} {fuel : Nat} (ht : P.underlying t = some (.slice e)) (hce : P.cellsOf e = c) (hc0 : 0 < c) (hcl : ∀ y, (f y).length = c)
    (each : ∀ (fuel : Nat) (cs : List Value) (x : DataW H × List MemPlace), cs.length = c → DataW.trod enc P w 0 (fun _ => true) true fuel e cs = some x → ∃ y, cs = f y ∧ OK y x.1)
    (hf : DataW.trod enc P w 0 (fun _ => true) true fuel t [v] = some (d, ps)) :
    ∃ (l : List α) (ds rest : List (DataW H)), Rd w v l.length c (l.flatMap f) ∧ ds.length = l.length ∧ (∀ (i : Nat) (y : α) (z : DataW H), l[i]? = some y → ds[i]? = some z → OK y z) ∧ ((d = .nil ∧ ds = []) ∨ d = .slice ds rest) := by
  rcases DataW.trod_slice ht hf with ⟨hcs, hx⟩ | ⟨a, len, cap, elems, rest, n, _, hcs, hx, _, hlc, hm, hel, hget, hsp, _⟩
  · simp at hcs
    subst hcs
    simp only [Prod.mk.injEq] at hx
    exact ⟨[], [], [], Rd.nil w c, rfl, fun i y z h => by simp at h, .inl ⟨hx.1, rfl⟩⟩
  · simp at hcs
    subst hcs
    simp only [Prod.mk.injEq] at hx
    have each2 : ∀ i, i < len → ∃ y : α, (∀ k, k < c → w.cell? (a.add (i * c + k)) = (f y)[k]?) ∧ ∀ z, elems[i]? = some z → OK y z.1 := by
      intro i hi
      have hg := hget i hi
      rw [hce, List.getElem?_eq_getElem (by omega)] at hg
      obtain ⟨cs, h1, h2⟩ := Option.bind_eq_some_iff.1 hg
      obtain ⟨h3, h4, h5⟩ := World.cells?_some h1
      obtain ⟨y, hy, ho⟩ := each n cs _ h4 h2
      refine ⟨y, fun k hk => ?_, fun z hz => ?_⟩
      · rw [← hy, ← h5 k hk]
        show w.cell? (a.add (i * c + k)) = w.cell? ((a.add (i * c)).add k)
        congr 1
        obtain ⟨b, o, s⟩ := a
        generalize i * c = p
        rcases Nat.eq_zero_or_pos p with rfl | hp
        · simp [Addr.add]
        · rcases Nat.eq_zero_or_pos k with rfl | hq
          · simp [Addr.add]
          · simp [Addr.add, Nat.add_assoc, show p ≠ 0 from by omega, show k ≠ 0 from by omega]
      · rw [List.getElem?_eq_getElem (by omega)] at hz
        simp at hz
        rw [← hz]
        exact ho
    obtain ⟨l, hll, hp⟩ := each_list len each2
    refine ⟨l, elems.map (·.1), rest.map (·.1), ⟨flat_len f c hcl l, some a, cap, by rw [hll], by omega, hm, by simp, fun h0 => ?_⟩, by simp [hel, hll], fun i y z hy hz => ?_, .inr hx.1⟩
    · have hcell : ∀ q, q < l.length * c → w.cell? (a.add q) = (l.flatMap f)[q]? := by
        intro q hq
        have h1 : q / c < l.length := by
          rw [Nat.div_lt_iff_lt_mul hc0]; exact hq
        have h2 := (hp (q / c) l[q / c] (by simp [h1])).1 (q % c) (Nat.mod_lt _ hc0)
        rw [show q / c * c + q % c = q from by rw [Nat.mul_comm]; exact Nat.div_add_mod q c] at h2
        have h3 := flat_at f c hcl l (q / c) l[q / c] (by simp [h1]) (q % c) (Nat.mod_lt _ hc0)
        rw [show q / c * c + q % c = q from by rw [Nat.mul_comm]; exact Nat.div_add_mod q c] at h3
        rw [h2, h3]
      obtain ⟨b, o, s⟩ := a
      have hpos : 0 < l.length * c := Nat.mul_pos h0 hc0
      have hs : s = none := by
        have h1 := hcell 0 hpos
        rw [List.getElem?_eq_getElem (by rw [flat_len f c hcl]; exact hpos)] at h1
        have h2 : (⟨b, o, s⟩ : Addr).add 0 = ⟨b, o, s⟩ := by cases s <;> rfl
        rw [h2] at h1
        simpa using World.cell?_spot h1
      subst hs
      refine ⟨b, o, rfl, fun i u hu => ?_⟩
      have hi := (List.getElem?_eq_some_iff.1 hu).1
      rw [flat_len f c hcl] at hi
      have := hcell i hi
      rw [add_plain] at this
      rw [this, hu]
    · rw [List.getElem?_map] at hz
      cases he : elems[i]? with
      | none => rw [he] at hz; simp at hz
      | some z' =>
        rw [he] at hz
        simp at hz
        rw [← hz]
        exact (hp i y hy).2 z' he
/-- Bytes that came in. -/
theorem open_bytes3 {u : TypeId} {fuel : Nat} {x : DataW H × List MemPlace} {cs : List Value} (ht : P.underlying t = some (.slice u)) (hu : P.underlying u = some (.int .u8)) (hcu : P.cellsOf u = 1) (hl : cs.length = 1)
    (hf : DataW.trod enc P w 0 (fun _ => true) true fuel t cs = some x) : ∃ (v : Value) (l : List UInt8), cs = [v] ∧ Rd w v l.length 1 (bl l) ∧ ((x.1 = .nil ∧ l = []) ∨ ∃ ds rest, x.1 = .slice ds rest ∧ ds.length = l.length) := by
  match cs, hl with
  | [v], _ =>
  obtain ⟨d, ps⟩ := x
  obtain ⟨l, ds, rest, hR, hd, _, hx⟩ := open_list (α := UInt8) (fun b => [.int .u8 (b.toNat : Int)]) (fun _ _ => True) ht hcu (by decide) (fun _ => rfl)
    (fun fuel cs x hl h => by
      obtain ⟨z, hz, _, hwf⟩ := DataW.trod_int hu h
      obtain ⟨b, rfl⟩ := u8_of_wf hwf
      exact ⟨b, hz, trivial⟩) hf
  have e := bl_flat l
  rw [e] at hR
  refine ⟨v, l, rfl, hR, ?_⟩
  rcases hx with ⟨h1, h2⟩ | h1
  · subst h2
    exact .inl ⟨h1, List.eq_nil_of_length_eq_zero hd.symm⟩
  · exact .inr ⟨ds, rest, h1, hd⟩
end
section
variable {B : Nat} {w0 w w' : World} {R : List Pc} {p q : Pc}
/-- What is owned is lent out to be read; what only reads it gives it back. -/
theorem _root_.Cop.Sep.lendTo {v : Value} {e : TypeId} {size n : Nat} {xs : List Value} (h : Sep B w0 w (.own v e size n xs :: R)) :
    ∃ q : Pc, Sep B w0 w (.rd v n size xs :: q :: R) ∧ ∀ (w1 : World) (R2 R1 : List Pc), (∀ r ∈ R2, r.reads = false) → R1.Sublist R → Sep B w0 w1 (.rd v n size xs :: q :: (R2 ++ R1)) → Sep B w0 w1 (.own v e size n xs :: (R2 ++ R1)) := by
  have ho : Ow w B e size v n xs := h.head
  have hrd : Sep B w0 w (.rd v n size xs :: R) := h.toRd 0 rfl
  have hfar := (List.pairwise_cons.1 h.far).1
  have rb : ∀ k, rblk v xs = some k → vblk v = some k := fun k hk => by
    obtain ⟨A, c, rfl, hc⟩ := ho.sl
    cases A with
    | none => simp [rblk] at hk
    | some a =>
      have hl : xs.length = n * size := ho.rd.1
      cases xs with
      | nil => simp [rblk] at hk
      | cons y ys =>
        have hn : n ≠ 0 := fun h0 => by subst h0; simp at hl
        simp only [rblk] at hk
        simp only [vblk, if_neg (show ¬ c = 0 from by omega)]
        exact hk
  cases hv : vblk v with
  | none =>
    refine ⟨.rd (.slice none 0 0) 0 1 [], (hrd.fresh (Below.refl _ _) (p := .rd (.slice none 0 0) 0 1 []) (Rd.nil w 1) (fun k hk => by simp [Pc.blk, rblk] at hk)).perm (List.Perm.swap _ _ _), fun w1 R2 R1 hR2 hsub h1 => ?_⟩
    have h2 := h1.tail.tail
    exact ⟨h2.hb, h2.hB, fun p hp => by
      rcases List.mem_cons.1 hp with rfl | hp
      · exact Ow.same ho fun k hk => by rw [hv] at hk; cases hk
      · exact h2.all p hp, List.pairwise_cons.2 ⟨fun r _ => .inr (fun k hk => by rw [show (Pc.own v e size n xs).blk = vblk v from rfl, hv] at hk; cases hk), h2.far⟩⟩
  | some k =>
    obtain ⟨cur, hcur⟩ : ∃ cur, w.heap[k]? = some (.cells cur e (0, 0)) := by
      rcases ho.2 with ⟨A, rfl, _⟩ | ⟨g, cap, cur, hc, rfl, _, h2, _⟩
      · cases A <;> simp [vblk] at hv
      · simp [vblk, show cap ≠ 0 from by omega] at hv
        subst hv
        exact ⟨cur, h2⟩
    refine ⟨.held k cur e, ⟨h.hb, h.hB, fun p hp => ?_, ?_⟩, fun w1 R2 R1 hR2 hsub h1 => ?_⟩
    · rcases List.mem_cons.1 hp with rfl | hp
      · exact ho.rd
      · rcases List.mem_cons.1 hp with rfl | hp
        · exact hcur
        · exact h.tail.all p hp
    · refine List.pairwise_cons.2 ⟨fun r hr => ?_, List.pairwise_cons.2 ⟨fun r hr => ?_, h.tail.far⟩⟩
      · rcases List.mem_cons.1 hr with rfl | hr
        · exact .inl ⟨rfl, rfl⟩
        · exact (List.pairwise_cons.1 hrd.far).1 r hr
      · rcases hfar r hr with ⟨h1, _⟩ | h1
        · cases h1
        · exact .inr fun j hj => by cases hj; exact h1 k hv
    · have h2 := h1.tail.tail
      have hh : w1.heap[k]? = some (.cells cur e (0, 0)) := h1.tail.head
      refine ⟨h2.hb, h2.hB, fun p hp => ?_, List.pairwise_cons.2 ⟨fun r hr => ?_, h2.far⟩⟩
      · rcases List.mem_cons.1 hp with rfl | hp
        · exact Ow.same ho fun j hj => by rw [hv] at hj; cases hj; rw [hh, hcur]
        · exact h2.all p hp
      · refine .inr fun j hj => ?_
        rw [show (Pc.own v e size n xs).blk = vblk v from rfl, hv] at hj
        cases hj
        rcases List.mem_append.1 hr with hr | hr
        · rcases (List.pairwise_cons.1 h1.tail.far).1 r (List.mem_append.2 (.inl hr)) with ⟨_, h3⟩ | h3
          · rw [hR2 r hr] at h3; cases h3
          · exact h3 k rfl
        · rcases hfar r (hsub.subset hr) with ⟨h3, _⟩ | h3
          · cases h3
          · exact h3 k hv
end
section
variable {w0 w : World} {R : List Pc}
/-- What came in is read, later. -/
theorem _root_.Cop.Sep.argL (h : Sep w0.heap.size w0 w R) {v : Value} {n size : Nat} {cs : List Value} (hr : Rd w0 v n size cs) : Sep w0.heap.size w0 w (.rd v n size cs :: R) :=
  h.arg (hr.below h.hb) fun k hk => (Rd.cells_rblk hr k hk).1
end
end Go.Proofs.Ytfhffldgjepeaaa
