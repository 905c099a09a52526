/- General laws of a walk: boxes, literals, rows, cells, stores. -/
import Derived.Test.YtfhffldgjepeaaaDoorSs
import Derived.Test.YtfhffldgjepeaaaDoorOh
import Derived.Test.YtfhffldgjepeaaaDoorRows
import Derived.Great.BuildSlice
namespace Go.Proofs.YtfhffldgjepeaaaDoor
open Go.RowKit Cop
set_option linter.unusedVariables false
set_option linter.unusedSimpArgs false
section
variable {P : Program} {w0 w : World} {B : Nat} {R : List Pc} {o : Oper} {a : Act}
/-- A parameter that is boxed. -/
theorem wl_bx {ops : Array Oper} {rest : List Oper} {Q : Exit → Act → World → Prop} (HS : Sep B w0 w R) (hgd : o.guard = none) (ty : TypeId) (x : Operand) (hop : o.op = .box ty x) (cs : Array Value) (hx : a.eval x = .agg cs)
    (h : ∀ g w1, Sep B w0 w1 (.row g cs ty :: R) → wpList P ops Q rest (a.put o.dst (.pointer (some ⟨g, 0, none⟩))) w1) : wpList P ops Q (o :: rest) a w := by
  refine wpList_plain hgd fun K hK => ?_
  refine ow_val (.pointer (some ⟨w.heap.size, 0, none⟩)) (w.alloc (.cells cs ty)) ?_ (hK _ _ (h _ _ (HS.alloc cs ty)))
  simp only [execOp, hop, hx]
  simp [Instr.box, Result.andThen, newVar, newRow, Value.cells]
/-- A slice literal. -/
theorem ow_bs {K : Act → World → Prop} {Q : Exit → Act → World → Prop} (HS : Sep B w0 w R) (t e : TypeId) (len size : Nat) (parts : Array (Nat × Operand)) (ho : o.op = .buildSlice t len parts) (xs : List Value) (z : Value)
    (hu : P.underlying t = some (.slice e)) (hie : (P.info? e).map (fun i => (i.zero, i.size)) = some (some z, size)) (hpos : 0 < len * size) (hsmall : len * size ≤ 1024)
    (hf : Instr.fill (fun i => some (i * size, size)) ((Array.range (len * size)).map (z.cells[· % z.cells.size]!)) (parts.map fun (i, x) => (i, a.eval x)).toList = some xs.toArray) (hxs : xs.length = len * size)
    (h : ∀ g w1, Sep B w0 w1 (.own (.slice (some ⟨g, 0, none⟩) len len) e size len xs :: R) → K (a.put o.dst (.slice (some ⟨g, 0, none⟩) len len)) w1) : o.wp P a w K Q := by
  obtain ⟨ie, hi, hz⟩ := Option.map_eq_some_iff.1 hie
  simp only [Prod.mk.injEq] at hz
  obtain ⟨hz, rfl⟩ := hz
  have hlen : len ≤ 1024 := by
    rcases Nat.eq_zero_or_pos ie.size with h0 | h0
    · rw [h0] at hpos; simp at hpos
    · exact Nat.le_trans (Nat.le_mul_of_pos_right len h0) hsmall
  refine wp_buildSlice t e len parts ho xs.toArray ie z hu hi hz (by omega) (by omega) hf (h _ _ ?_)
  have := HS.built xs.toArray e len ie.size (by simpa using hxs) (by omega)
  simpa using this
theorem wl_bs {ops : Array Oper} {rest : List Oper} {Q : Exit → Act → World → Prop} (HS : Sep B w0 w R) (hgd : o.guard = none) (t e : TypeId) (len size : Nat) (parts : Array (Nat × Operand)) (ho : o.op = .buildSlice t len parts) (xs : List Value) (z : Value)
    (hu : P.underlying t = some (.slice e)) (hie : (P.info? e).map (fun i => (i.zero, i.size)) = some (some z, size)) (hpos : 0 < len * size) (hsmall : len * size ≤ 1024)
    (hf : Instr.fill (fun i => some (i * size, size)) ((Array.range (len * size)).map (z.cells[· % z.cells.size]!)) (parts.map fun (i, x) => (i, a.eval x)).toList = some xs.toArray) (hxs : xs.length = len * size)
    (h : ∀ g w1, Sep B w0 w1 (.own (.slice (some ⟨g, 0, none⟩) len len) e size len xs :: R) → wpList P ops Q rest (a.put o.dst (.slice (some ⟨g, 0, none⟩) len len)) w1) : wpList P ops Q (o :: rest) a w :=
  wpList_plain hgd fun _ hK => ow_bs HS t e len size parts ho xs z hu hie hpos hsmall hf hxs fun g w1 h2 => hK _ _ (h g w1 h2)
/-- A row's store. -/
theorem ow_st {K : Act → World → Prop} {Q : Exit → Act → World → Prop} (HS : Sep B w0 w R) (i : Nat) {g : Nat} {old cs : Array Value} {t : TypeId} (hi : R[i]? = some (.row g old t)) (ty : TypeId) (ad x : Operand) (hop : o.op = .store ty ad x) (had : a.eval ad = .pointer (some ⟨g, 0, none⟩)) (hx : a.eval x = .agg cs)
    (hsz : (P.info? ty).map (·.size) = some cs.size) (hn : old.size = cs.size) (h1 : cs.all (·.oneCell') = true)
    (h : ∀ w1, Sep B w0 w1 (R.set i (.row g cs t)) → K (a.put o.dst undef) w1) : o.wp P a w K Q :=
  ow_stm HS i hi ty ad x hop 0 hsz (by omega) had hx h1 cs (by rw [List.take_zero, List.nil_append, Nat.zero_add, List.drop_of_length_le (by simp [hn]), List.append_nil]) h
theorem zlit : (#[.int .u8 0, .int .u8 0, .int .u8 0, .int .u8 0, .int .u8 0, .int .u8 0, .int .u8 0, .int .u8 0, .int .u8 0, .int .u8 0, .int .u8 0, .int .u8 0, .int .u8 0, .int .u8 0, .int .u8 0, .int .u8 0, .int .u8 0, .int .u8 0, .int .u8 0, .int .u8 0, .int .u8 0, .int .u8 0, .int .u8 0, .int .u8 0, .int .u8 0, .int .u8 0, .int .u8 0, .int .u8 0, .int .u8 0, .int .u8 0, .int .u8 0, .int .u8 0] : Array Value) = bv (List.replicate 32 0) := rfl
/-- A row of bytes is read as a slice. -/
theorem Sep.rdRow (HS : Sep B w0 w R) (i : Nat) {g : Nat} {l : List UInt8} {t : TypeId} (hi : R[i]? = some (.row g (bv l) t)) (n : Nat) (hn : l.length = n) (hm : n ≤ 9223372036854775807) : Rd w (.slice (some ⟨g, 0, none⟩) n n) n 1 (bl l) := by
  have h := rd_row (n := n) (size := 1) (HS.row i hi) (by rw [bv_size, hn, Nat.mul_one]) hm
  rwa [bv_toList] at h
end
abbrev Gives (f : FuncId) (args : Array Value) (w : World) (v : Value) : Prop := Calls Tryd.prog f args w fun e w' => e = .returned v ∧ Below w.heap.size w w'
section
variable {P : Program} {w0 w : World} {B : Nat} {R : List Pc} {o : Oper} {a : Act}
/-- A guarded load of a row, where the guard says yes. -/
theorem wl_ldg {ops : Array Oper} {rest : List Oper} {Q : Exit → Act → World → Prop} (HS : Sep B w0 w R) (i : Nat) {g : Nat} {cs : Array Value} {t : TypeId} (hi : R[i]? = some (.row g cs t)) (ty : TypeId) (x : Operand) (hop : o.op = .load ty x) (hx : a.eval x = .pointer (some ⟨g, 0, none⟩)) {d : TypeDesc}
    (hu : P.underlying ty = some d) (hd : (match d with | .struct _ | .array _ _ => true | _ => false) = true) (hsz : (P.info? ty).map (·.size) = some cs.size) (hw : Region.wanted o (yielded ops a.tmps) = true)
    (h : wpList P ops Q rest (a.put o.dst (.agg cs)) w) : wpList P ops Q (o :: rest) a w := by
  refine BigFrame.wpList_want hw fun K hK => ow_val (.agg cs) w ?_ (hK _ _ h)
  have := load_row (P := P) (HS.row i hi) ty hu hd hsz
  simp only [execOp, hop, hx]
  simp [Result.andThen, this]
theorem ow_al {K : Act → World → Prop} {Q : Exit → Act → World → Prop} (HS : Sep B w0 w R) (ty : TypeId) (hop : o.op = .alloc ty) (cs : Array Value) (hz : (P.info? ty).map (·.zero) = some (some (.agg cs)))
    (h : ∀ g w1, Sep B w0 w1 (.row g cs ty :: R) → K (a.put o.dst (.pointer (some ⟨g, 0, none⟩))) w1) : o.wp P a w K Q := by
  obtain ⟨i, hi, hz⟩ := Option.map_eq_some_iff.1 hz
  have hzz : (zeroValue ty).run P w = .ok (.agg cs) w := by simp [zeroValue, typeInfo, hi, hz]
  refine ow_val (.pointer (some ⟨w.heap.size, 0, none⟩)) (w.alloc (.cells cs ty)) ?_ (h _ _ (HS.alloc cs ty))
  simp only [execOp, hop]
  simp [Instr.alloc, hzz, Result.andThen, newVar, newRow, Value.cells]
theorem Sep.ownNil (HS : Sep B w0 w R) (e : TypeId) (size : Nat) : Sep B w0 w (.own (.slice none 0 0) e size 0 [] :: R) :=
  HS.fresh (Below.refl _ _) (Ow.nil _ _ _ _ _) (fun k hk => by simp [Pc.blk, vblk] at hk)
theorem Sep.rdNil (HS : Sep B w0 w R) (size : Nat) : Sep B w0 w (.rd (.slice none 0 0) 0 size [] :: R) :=
  HS.fresh (Below.refl _ _) (Rd.nil w size) (fun k hk => by simp [Pc.blk, rblk] at hk)
theorem og_act {l : List Oper} {Q : Exit → Act → World → Prop} {S : World → Prop} {z : Nat} {k : Ord} {a a' : Act} (h : a = a') (h2 : Shut 0 (wpOrd P l.toArray Q S z k a' w)) : Shut 0 (wpOrd P l.toArray Q S z k a w) := by subst h; exact h2
/-- A part of bytes that are read. -/
theorem rd_sub {l : List UInt8} {v : Value} {t e : TypeId} (h : Rd w v l.length 1 (bl l)) (ht : P.underlying t = some (.slice e)) (hs : (P.info? e).map (·.size) = some 1) (i n : Nat) (h0 : 0 < n) (hn : i + n ≤ l.length) :
    ∃ b o c, Rd w (.slice (some ⟨b, o, none⟩) n c) n 1 (bl ((l.drop i).take n)) ∧ n ≤ c ∧ c ≤ 9223372036854775807 ∧ ∀ W kl kh, (Instr.sliceAt t v (some (.int kl (i : Int))) (some (.int kh ((i : Int) + (n : Int)))) none).run P W = .ok (.slice (some ⟨b, o, none⟩) n c) W := by
  obtain ⟨v', h1, h2, _, _⟩ := h.slice ht hs i (i + n) (by omega) hn
  have e1 : (((bl l).take ((i + n) * 1)).drop (i * 1)) = bl ((l.drop i).take n) := by
    rw [Nat.mul_one, Nat.mul_one, List.drop_take]
    simp [bl, List.map_take, List.map_drop]
  rw [e1, show i + n - i = n from by omega] at h1
  obtain ⟨h3, A, c, rfl, h4, h5, h6, h7⟩ := id h1
  obtain ⟨b, o, rfl, _⟩ := h7 h0
  exact ⟨b, o, c, h1, h4, h5, fun W kl kh => by have := h2 W kl kh; rwa [Int.natCast_add] at this⟩
theorem wl_sl2 {ops : Array Oper} {rest : List Oper} {Q : Exit → Act → World → Prop} (hgd : o.guard = none) (ty : TypeId) (x lo hi : Operand) (hop : o.op = .slice ty x (some lo) (some hi) none) (p : Value) (hx : a.eval x = p) (vl vh : Value) (hlo : a.eval lo = vl) (hhi : a.eval hi = vh) (v : Value) (hl : (Instr.sliceAt ty p (some vl) (some vh) none).run P w = .ok v w) (h : wpList P ops Q rest (a.put o.dst v) w) : wpList P ops Q (o :: rest) a w := by
  refine wl_val hgd v ?_ h
  simp only [execOp, hop, hx, hlo, hhi, Option.map_none, Option.map_some, Sem.run_bind, hl, Result.andThen_ok, Sem.run_pure]
theorem _root_.Cop.Sep.dup (h : Sep B w0 w R) (i : Nat) {v : Value} {n size : Nat} {cs : List Value} (hi : R[i]? = some (.rd v n size cs)) : Sep B w0 w (.rd v n size cs :: R) := h.part i hi (h.rd i hi) fun _ h => h
theorem own_cell {g n c : Nat} {e : TypeId} {size : Nat} {xs : List Value} (h : Ow w B e size (.slice (some ⟨g, 0, none⟩) n c) n xs) (j : Nat) {v : Value} (hv : xs[j]? = some v) : w.cell? ⟨g, j, none⟩ = some v := by
  obtain ⟨hl, A, c', he, _, _, _, hcell⟩ := h.rd
  have hn : 0 < n := by
    rcases Nat.eq_zero_or_pos n with h0 | h0
    · subst h0
      have := (List.getElem?_eq_some_iff.1 hv).1
      omega
    · exact h0
  obtain ⟨b, o, h1, hcl⟩ := hcell hn
  injection he with he1 _ _
  rcases h.2 with ⟨A', h2, h3⟩ | ⟨g', cap, cur, hc, h2, h3, h4, h5, h6, h7, h8⟩
  · omega
  · injection h2 with h2 _ _
    rw [← h8] at hv
    rw [List.getElem?_take] at hv
    split at hv
    · have hg : g = g' := by simpa using h2
      subst hg
      rw [cell_of_row _ _ _ _ _ _ h4]
      simpa using hv
    · cases hv
theorem rd_cell {b o n c size : Nat} {cs : List Value} (h : Rd w (.slice (some ⟨b, o, none⟩) n c) n size cs) (h0 : 0 < n) (j : Nat) {v : Value} (hv : cs[j]? = some v) : w.cell? ⟨b, o + j, none⟩ = some v := by
  obtain ⟨hl, A, c', he, _, _, _, hcell⟩ := h
  obtain ⟨b', o', h1, hcl⟩ := hcell h0
  injection he with he1 _ _
  rw [h1] at he1
  simp only [Option.some.injEq, Addr.mk.injEq, and_true] at he1
  obtain ⟨rfl, rfl⟩ := he1
  exact hcl j v hv
/-- Some cells of what is known cell by cell. -/
theorem load_cells {g off : Nat} (sub : Array Value) (hc : ∀ j v, sub[j]? = some v → w.cell? ⟨g, off + j, none⟩ = some v) (ty : TypeId) {d : TypeDesc} (hu : P.underlying ty = some d) (hd : d.isRow = true) (hi : (P.info? ty).map (·.size) = some sub.size) :
    (Instr.loadAt ty (.pointer (some ⟨g, off, none⟩))).run P w = .ok (.agg sub) w := by
  have := run_loadAt_mid (P := P) w g off ty sub.toList d (fun j v hv => hc j v (by simpa using hv)) hu hd (by simpa using hi)
  simpa using this
/-- The last element goes. -/
theorem Ow.shrink {A : Option Addr} {n m c : Nat} {e : TypeId} {size : Nat} {xs ys : List Value} (h : Ow w B e size (.slice A n c) n (xs ++ ys)) (hm : m ≤ n) (hx : xs.length = m * size) : Ow w B e size (.slice A m c) m xs := by
  refine ⟨hx, ?_⟩
  rcases h.2 with ⟨A', he, h0⟩ | ⟨g, cap, cur, hc, he, h1, h2, h3, h4, h5, h6⟩
  · injection he with h1 h2 h3
    subst h1 h3
    exact .inl ⟨A, by rw [show m = 0 from by omega], by omega⟩
  · injection he with h7 _ h9
    subst h7 h9
    refine .inr ⟨g, c, cur, hc, rfl, h1, h2, by omega, h4, h5, ?_⟩
    have := congrArg (List.take (m * size)) h6
    rw [List.take_take, Nat.min_eq_left (Nat.mul_le_mul_right _ hm), List.take_left' hx] at this
    exact this
theorem _root_.Cop.Sep.shrink (h : Sep B w0 w R) (i : Nat) {A : Option Addr} {n m c : Nat} {e : TypeId} {size : Nat} {xs ys : List Value} (hi : R[i]? = some (.own (.slice A n c) e size n (xs ++ ys))) (hm : m ≤ n) (hx : xs.length = m * size) : Sep B w0 w (R.set i (.own (.slice A m c) e size m xs)) :=
  h.swap i hi (fun h => Ow.shrink h hm hx) (by cases A <;> rfl) rfl
theorem rd_some {A : Option Addr} {n c size : Nat} {cs : List Value} (hR : Rd w (.slice A n c) n size cs) (h0 : 0 < n) : ∃ b o, A = some ⟨b, o, none⟩ := by
  obtain ⟨_, A', c', he, _, _, _, h⟩ := hR
  obtain ⟨b, o, h1, _⟩ := h h0
  injection he with he _ _
  exact ⟨b, o, he.trans h1⟩
end
theorem splice_take {α : Type} (L cs : List α) (off N : Nat) (h : off + cs.length ≤ N) (hN : N ≤ L.length) : (L.take off ++ cs ++ L.drop (off + cs.length)).take N = (L.take N).take off ++ cs ++ (L.take N).drop (off + cs.length) := by
  have h1 : (L.take off ++ cs).length = off + cs.length := by rw [List.length_append, List.length_take]; omega
  rw [List.take_append, h1, List.take_of_length_le (by rw [h1]; exact h), List.take_take, Nat.min_eq_left (by omega), List.drop_take]
section
variable {P : Program} {w0 w : World} {B : Nat} {R : List Pc} {ops : Array Oper} {rest : List Oper} {o : Oper} {a : Act} {Q : Exit → Act → World → Prop} {K : Act → World → Prop}
/-- Some cells of a slice of the call's own are stored. -/
theorem ow_stg (HS : Sep B w0 w R) (i : Nat) {g n c : Nat} {e : TypeId} {size : Nat} {xs : List Value} (hi : R[i]? = some (.own (.slice (some ⟨g, 0, none⟩) n c) e size n xs)) (ty : TypeId) (ad x : Operand) (hop : o.op = .store ty ad x) (off : Nat) {cs : Array Value} (hs1 : (P.info? ty).map (·.size) = some cs.size) (hoff : off + cs.size ≤ n * size) (h0 : 0 < n) (had : a.eval ad = .pointer (some ⟨g, off, none⟩)) (hx : a.eval x = .agg cs)
    (h1 : cs.all (·.oneCell') = true) (h : ∀ w1, Sep B w0 w1 (R.set i (.own (.slice (some ⟨g, 0, none⟩) n c) e size n (xs.take off ++ cs.toList ++ xs.drop (off + cs.size)))) → K (a.put o.dst undef) w1) : o.wp P a w K Q := by
  rcases (HS.own i hi).2 with ⟨A, he, hn⟩ | ⟨g', cap, cur, hc, he, hb, hg, hnc, hcm, hcs, htk⟩
  · omega
  injection he with he1 _ he3
  simp only [Option.some.injEq, Addr.mk.injEq, and_true] at he1
  subst he1 he3
  have hns : n * size ≤ cur.size := by rw [hcs]; exact Nat.mul_le_mul_right _ hnc
  have hst := run_storeCells_at P g off e cs.toList 0 cur w hg (by simp; omega) (fun v hv => (Array.all_eq_true_iff_forall_mem.1 h1) v (by simpa using hv))
  simp only [Nat.add_zero, Array.length_toList] at hst
  obtain ⟨new, hnew⟩ : ∃ new, (cur.toList.take off ++ cs.toList ++ cur.toList.drop (off + cs.size)).toArray = new := ⟨_, rfl⟩
  rw [hnew] at hst
  have hrun : (storeVar ty ⟨g, off, none⟩ (.agg cs)).run P w = .ok () (w.setRow g new) := by
    unfold storeVar
    rw [Sem.run_bind, run_sizeOf_gen (P := P) w hs1]
    simp [Result.andThen, Value.cells, hst]
  unfold Oper.wp
  simp only [execOp, hop, had, hx, Instr.storeAt, Instr.sureAddr, Sem.run_bind, Sem.run_pure, Result.andThen_ok, hrun]
  refine h _ (HS.at_ i hi fun HS => ?_)
  have hnl : new.size = cur.size := by
    rw [← hnew]
    simp only [List.size_toArray, List.length_append, List.length_take, List.length_drop, Array.length_toList]
    omega
  refine HS.turn rfl rfl rfl rfl (by simp) (fun k hk hne => setRow_other w g k new (fun e => hne (by simp [Pc.blk, vblk, e]; omega))) ⟨?_, .inr ⟨g, c, new, hc, rfl, hb, setRow_heap w g _ _ e _ hg, hnc, hcm, by rw [hnl, hcs], ?_⟩⟩ (fun k hk => .inl hk)
  · have := (HS.own 0 rfl).1
    simp only [List.length_append, List.length_take, List.length_drop, Array.length_toList, this]
    omega
  · rw [← hnew, ← htk]
    have := splice_take cur.toList cs.toList off (n * size) (by rw [Array.length_toList]; exact hoff) (by rw [Array.length_toList]; exact hns)
    rw [Array.length_toList] at this
    exact this
theorem wl_stg (HS : Sep B w0 w R) (i : Nat) {g n c : Nat} {e : TypeId} {size : Nat} {xs : List Value} (hi : R[i]? = some (.own (.slice (some ⟨g, 0, none⟩) n c) e size n xs)) (hgd : o.guard = none) (ty : TypeId) (ad x : Operand) (hop : o.op = .store ty ad x) (off : Nat) {cs : Array Value} (hs1 : (P.info? ty).map (·.size) = some cs.size) (hoff : off + cs.size ≤ n * size) (h0 : 0 < n) (had : a.eval ad = .pointer (some ⟨g, off, none⟩)) (hx : a.eval x = .agg cs)
    (h1 : cs.all (·.oneCell') = true) (h : ∀ w1, Sep B w0 w1 (R.set i (.own (.slice (some ⟨g, 0, none⟩) n c) e size n (xs.take off ++ cs.toList ++ xs.drop (off + cs.size)))) → wpList P ops Q rest (a.put o.dst undef) w1) : wpList P ops Q (o :: rest) a w :=
  wpList_plain hgd fun _ hK => ow_stg HS i hi ty ad x hop off hs1 hoff h0 had hx h1 fun w1 h2 => hK _ _ (h w1 h2)
theorem splice_take1 {α : Type} (L cs : List α) (off N : Nat) (h : off + cs.length ≤ N) (hN : N ≤ L.length) : (L.take off ++ cs ++ L.drop (off + cs.length)).take N = (L.take N).take off ++ cs ++ (L.take N).drop (off + cs.length) := by
  have h1 : (L.take off ++ cs).length = off + cs.length := by rw [List.length_append, List.length_take]; omega
  rw [List.take_append, h1, List.take_of_length_le (by rw [h1]; exact h), List.take_take, Nat.min_eq_left (by omega), List.drop_take]
/-- Some cells of a slice of the call's own are stored. -/
theorem ow_stg1 (HS : Sep B w0 w R) (i : Nat) {g n c : Nat} {e : TypeId} {size : Nat} {xs : List Value} (hi : R[i]? = some (.own (.slice (some ⟨g, 0, none⟩) n c) e size n xs)) (ty : TypeId) (ad x : Operand) (hop : o.op = .store ty ad x) (off : Nat) {cs : Array Value} {y : Value} (hyc : y.cells = cs) (hs1 : (P.info? ty).map (·.size) = some cs.size) (hoff : off + cs.size ≤ n * size) (h0 : 0 < n) (had : a.eval ad = .pointer (some ⟨g, off, none⟩)) (hx : a.eval x = y)
    (h1 : cs.all (·.oneCell') = true) (h : ∀ w1, Sep B w0 w1 (R.set i (.own (.slice (some ⟨g, 0, none⟩) n c) e size n (xs.take off ++ cs.toList ++ xs.drop (off + cs.size)))) → K (a.put o.dst undef) w1) : o.wp P a w K Q := by
  rcases (HS.own i hi).2 with ⟨A, he, hn⟩ | ⟨g', cap, cur, hc, he, hb, hg, hnc, hcm, hcs, htk⟩
  · omega
  injection he with he1 _ he3
  simp only [Option.some.injEq, Addr.mk.injEq, and_true] at he1
  subst he1 he3
  have hns : n * size ≤ cur.size := by rw [hcs]; exact Nat.mul_le_mul_right _ hnc
  have hst := run_storeCells_at P g off e cs.toList 0 cur w hg (by simp; omega) (fun v hv => (Array.all_eq_true_iff_forall_mem.1 h1) v (by simpa using hv))
  simp only [Nat.add_zero, Array.length_toList] at hst
  obtain ⟨new, hnew⟩ : ∃ new, (cur.toList.take off ++ cs.toList ++ cur.toList.drop (off + cs.size)).toArray = new := ⟨_, rfl⟩
  rw [hnew] at hst
  have hrun : (storeVar ty ⟨g, off, none⟩ y).run P w = .ok () (w.setRow g new) := by
    unfold storeVar
    rw [Sem.run_bind, run_sizeOf_gen (P := P) w hs1]
    simp [Result.andThen, hyc, hst]
  unfold Oper.wp
  simp only [execOp, hop, had, hx, Instr.storeAt, Instr.sureAddr, Sem.run_bind, Sem.run_pure, Result.andThen_ok, hrun]
  refine h _ (HS.at_ i hi fun HS => ?_)
  have hnl : new.size = cur.size := by
    rw [← hnew]
    simp only [List.size_toArray, List.length_append, List.length_take, List.length_drop, Array.length_toList]
    omega
  refine HS.turn rfl rfl rfl rfl (by simp) (fun k hk hne => setRow_other w g k new (fun e => hne (by simp [Pc.blk, vblk, e]; omega))) ⟨?_, .inr ⟨g, c, new, hc, rfl, hb, setRow_heap w g _ _ e _ hg, hnc, hcm, by rw [hnl, hcs], ?_⟩⟩ (fun k hk => .inl hk)
  · have := (HS.own 0 rfl).1
    simp only [List.length_append, List.length_take, List.length_drop, Array.length_toList, this]
    omega
  · rw [← hnew, ← htk]
    have := splice_take1 cur.toList cs.toList off (n * size) (by rw [Array.length_toList]; exact hoff) (by rw [Array.length_toList]; exact hns)
    rw [Array.length_toList] at this
    exact this
end
end Go.Proofs.YtfhffldgjepeaaaDoor
