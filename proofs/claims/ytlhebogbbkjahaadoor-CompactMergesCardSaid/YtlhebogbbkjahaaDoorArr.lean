/- Rows of the call's own memory: read, written in one place, loaded whole. -/
import Derived.Test.YtlhebogbbkjahaaDoorSha
import Derived.StillTailTactics
import Derived.Laws.CopyOwn
set_option linter.unusedSimpArgs false
set_option linter.unusedVariables false
namespace Cop
open Go Go.RowKit
theorem row_cell {w : World} {g : Nat} {cs : Array Value} {t : TypeId} {fr : Nat × Nat} (h : w.heap[g]? = some (.cells cs t fr)) (i : Nat) : w.cell? ⟨g, i, none⟩ = cs[i]? := cell_of_row _ _ _ _ _ _ h
theorem row_thaw {w : World} {g : Nat} {cs : Array Value} {t : TypeId} (h : w.heap[g]? = some (.cells cs t (0, 0))) (i : Nat) : w.frozen? ⟨g, i, none⟩ = false := frozen_of_row _ _ _ _ _ h
theorem row_wv {w : World} {g : Nat} {l : List UInt32} {t : TypeId} {fr : Nat × Nat} (h : w.heap[g]? = some (.cells (wv l) t fr)) (i : Nat) (hi : i < l.length) : w.cell? ⟨g, i, none⟩ = some (.int .u32 ((l.getD i 0).toNat : Int)) := by
  rw [row_cell h, wv_get _ _ hi]
theorem row_bv {w : World} {g : Nat} {l : List UInt8} {t : TypeId} {fr : Nat × Nat} (h : w.heap[g]? = some (.cells (bv l) t fr)) (i : Nat) (hi : i < l.length) : w.cell? ⟨g, i, none⟩ = some (.int .u8 ((l.getD i 0).toNat : Int)) := by
  rw [row_cell h, bv_get _ _ hi]
theorem row_set {w : World} {g : Nat} {cs : Array Value} {t : TypeId} {fr : Nat × Nat} (h : w.heap[g]? = some (.cells cs t fr)) (i : Nat) (v : Value) :
    (w.setCell ⟨g, i, none⟩ v).heap[g]? = some (.cells (cs.setIfInBounds i v) t fr) := by
  rw [setCell_eq_setRow w g i cs t fr v h]
  exact setRow_heap w g _ _ t _ h
theorem row_skip {w : World} {g h : Nat} {o : Option Obj} (hne : h ≠ g) (i : Nat) (v : Value) (hh : w.heap[h]? = o) : (w.setCell ⟨g, i, none⟩ v).heap[h]? = o := by
  rw [heap_setCell_other _ _ _ _ hne]; exact hh
theorem row_of_drew {w w2 : World} (h : w.drew = w2) {g : Nat} {o : Option Obj} (hh : w.heap[g]? = o) : w2.heap[g]? = o := by subst h; exact hh
theorem row_of_drewN {w w2 : World} {n : Nat} (h : w.drewN n = w2) {g : Nat} {o : Option Obj} (hh : w.heap[g]? = o) : w2.heap[g]? = o := by subst h; exact hh
theorem below_dN {B : Nat} {w0 w w2 : World} {n : Nat} (h : w.drewN n = w2) (hb : Below B w0 w) : Below B w0 w2 := by subst h; exact hb.trans ⟨rfl, rfl, rfl, Nat.le_refl _, fun _ _ => rfl⟩
theorem below_d {B : Nat} {w0 w w2 : World} (h : w.drew = w2) (hb : Below B w0 w) : Below B w0 w2 := by subst h; exact hb.drew
theorem wv_set (l : List UInt32) (i : Nat) (x : UInt32) : (wv l).setIfInBounds i (.int .u32 (x.toNat : Int)) = wv (l.set i x) := by
  simp [wv, List.map_set]
theorem bv_set (l : List UInt8) (i : Nat) (x : UInt8) : (bv l).setIfInBounds i (.int .u8 (x.toNat : Int)) = bv (l.set i x) := by
  simp [bv, List.map_set]
theorem run_arr_from {P : Program} (w : World) {t e : TypeId} {n : Nat} (ht : P.underlying t = some (.array n e)) (hs : (P.info? e).map (·.size) = some 1) (g : Nat) (k : IntKind) (L : Int) (lo : Nat) (hL : L = (lo : Int)) (hlt : lo < n) :
    (Instr.sliceAt t (.pointer (some ⟨g, 0, none⟩)) (some (.int k L)) none none).run P w = .ok (.slice (some ⟨g, lo, none⟩) (n - lo) (n - lo)) w := by
  subst hL
  have hsz := run_sizeOf_gen (P := P) w hs
  unfold Instr.sliceAt
  rw [Sem.run_bind, run_underlying ht]
  have e1 : ¬ n = lo := by omega
  simp [Result.andThen, Instr.sliceBounds, Instr.sliceBound, asIntOf, hsz, Instr.sureAddr, show lo ≤ n from by omega, e1, add_plain]
theorem run_arr_all {P : Program} (w : World) {t e : TypeId} {n : Nat} (ht : P.underlying t = some (.array n e)) (hs : (P.info? e).map (·.size) = some 1) (g : Nat) :
    (Instr.sliceAt t (.pointer (some ⟨g, 0, none⟩)) none none none).run P w = .ok (.slice (some ⟨g, 0, none⟩) n n) w := by
  have hsz := run_sizeOf_gen (P := P) w hs
  unfold Instr.sliceAt
  rw [Sem.run_bind, run_underlying ht]
  simp [Result.andThen, Instr.sliceBounds, Instr.sliceBound, asIntOf, hsz, Instr.sureAddr, add_plain]
section
variable {P : Program} {ops : Array Oper} {rest : List Oper} {o : Oper} {a : Act} {Q : Exit → Act → World → Prop}
theorem wl_val (hgd : o.guard = none) (v : Value) {W : World} (hr : (execOp a.eval o).run P W = .ok (.value v) W) (h : wpList P ops Q rest (a.put o.dst v) W) : wpList P ops Q (o :: rest) a W := by
  refine wpList_plain hgd fun K hK => ?_
  unfold Oper.wp
  rw [hr]
  exact hK _ _ h
/-- Words are added. -/
theorem wl_add32 {W : World} (hgd : o.guard = none) (T T' : TypeId) (x y : Operand) (hop : o.op = .binOp .add T x y T') (u v z : UInt32) (hz : u + v = z) (hx : a.eval x = .int .u32 u.toNat) (hy : a.eval y = .int .u32 v.toNat)
    (h : wpList P ops Q rest (a.put o.dst (.int .u32 (z.toNat : Int))) W) : wpList P ops Q (o :: rest) a W := by
  subst hz
  refine wl_val hgd _ ?_ h
  rw [← wadd32]
  simp only [execOp, hop, hx, hy]
  simp [eqGuard, binOp, Op.intArith]
/-- A whole row is loaded. -/
theorem wl_load_row {W : World} (hgd : o.guard = none) (ty : TypeId) (x : Operand) (hop : o.op = .load ty x) (g : Nat) (hx : a.eval x = .pointer (some ⟨g, 0, none⟩)) (t : TypeId) (cs : Array Value) (fr : Nat × Nat) (d : TypeDesc)
    (hg : W.heap[g]? = some (.cells cs t fr)) (hu : P.underlying ty = some d) (hd : (match d with | .struct _ | .array _ _ => true | _ => false) = true) (hi : (P.info? ty).map (·.size) = some cs.size)
    (h : wpList P ops Q rest (a.put o.dst (.agg cs)) W) : wpList P ops Q (o :: rest) a W := by
  refine wl_val hgd (.agg cs) ?_ h
  simp only [execOp, hop, hx, Instr.loadAt, Instr.sureAddr, Sem.run_bind, Sem.run_pure, Result.andThen_ok, run_loadVar_row W g t ty cs fr d hg hu hd hi]
/-- A whole row is stored. -/
theorem wl_store_row {W : World} (hgd : o.guard = none) (ty : TypeId) (ad x : Operand) (hop : o.op = .store ty ad x) (g : Nat) (had : a.eval ad = .pointer (some ⟨g, 0, none⟩)) (t : TypeId) (old cs : Array Value) (hx : a.eval x = .agg cs)
    (hg : W.heap[g]? = some (.cells old t (0, 0))) (hi : (P.info? ty).map (·.size) = some cs.size) (ho : old.size = cs.size) (h1 : cs.all (·.oneCell') = true)
    (h : wpList P ops Q rest (a.put o.dst undef) (W.setRow g cs)) : wpList P ops Q (o :: rest) a W := by
  refine wpList_plain hgd fun K hK => ?_
  unfold Oper.wp
  simp only [execOp, hop, had, hx, Instr.storeAt, Instr.sureAddr, Sem.run_bind, Sem.run_pure, Result.andThen_ok, run_storeVar_row W g t ty old cs hg hi ho h1]
  exact hK _ _ h
end
/-- What is returned stands in a row. -/
theorem ret_row {P : Program} {fn : Func} {R : Ending → World → Prop} {a : Act} {w : World} {p : Tmp} {ty : TypeId} (h : fn.results = #[.cell p ty]) (hd0 : a.defers = []) (g : Nat) (hp : a.tmps.getD p undef = .pointer (some ⟨g, 0, none⟩))
    (t : TypeId) (cs : Array Value) (fr : Nat × Nat) (d : TypeDesc) (hg : w.heap[g]? = some (.cells cs t fr)) (hu : P.underlying ty = some d) (hd : (match d with | .struct _ | .array _ _ => true | _ => false) = true) (hi : (P.info? ty).map (·.size) = some cs.size)
    (hR : R (.returned (.agg cs)) w) : bodyPost P fn R .ret a w := by
  refine bodyPost_ret (v := .agg cs) ?_ hd0 hR
  have hld := run_loadVar_row (P := P) w g t ty cs fr d hg hu (by revert hd; cases d <;> simp) hi
  have hp2 : a.tmps[p]?.getD undef = .pointer (some ⟨g, 0, none⟩) := by rw [← hp]; simp
  simp only [results, h]
  simp [Sem.run_bind, Result.andThen, hp2, asAddr, hld]
/-- What is returned stands in a row, and beside it in a slot. -/
theorem ret_row_tmp {P : Program} {fn : Func} {R : Ending → World → Prop} {a : Act} {w : World} {p q : Tmp} {ty : TypeId} (h : fn.results = #[.cell p ty, .tmp q]) (hd0 : a.defers = []) (g : Nat) (hp : a.tmps.getD p undef = .pointer (some ⟨g, 0, none⟩))
    (t : TypeId) (cs : Array Value) (fr : Nat × Nat) (d : TypeDesc) (hg : w.heap[g]? = some (.cells cs t fr)) (hu : P.underlying ty = some d) (hd : (match d with | .struct _ | .array _ _ => true | _ => false) = true) (hi : (P.info? ty).map (·.size) = some cs.size)
    (v : Value) (hv : a.tmps.getD q undef = v) (hR : R (.returned (.tuple #[.agg cs, v])) w) : bodyPost P fn R .ret a w := by
  refine bodyPost_ret (v := .tuple #[.agg cs, v]) ?_ hd0 hR
  have hld := run_loadVar_row (P := P) w g t ty cs fr d hg hu (by revert hd; cases d <;> simp) hi
  have hp2 : a.tmps[p]?.getD undef = .pointer (some ⟨g, 0, none⟩) := by rw [← hp]; simp
  have hv2 : a.tmps[q]?.getD undef = v := by rw [← hv]; simp
  simp only [results, h]
  simp [Sem.run_bind, Result.andThen, hp2, asAddr, hld, hv2]
theorem bv_one (l : List UInt8) : (bv l).all (·.oneCell') = true := by rw [Array.all_eq_true_iff_forall_mem]; intro v hv; simp [bv] at hv; obtain ⟨b, _, rfl⟩ := hv; rfl
theorem wv_one (l : List UInt32) : (wv l).all (·.oneCell') = true := by rw [Array.all_eq_true_iff_forall_mem]; intro v hv; simp [wv] at hv; obtain ⟨b, _, rfl⟩ := hv; rfl
theorem hv_one (s : H8) : (hv s).all (·.oneCell') = true := wv_one s.l
theorem add4 (a b c d : UInt32) : ((a.toNat : Int) + b.toNat + c.toNat + d.toNat) % 4294967296 = ((a + b + c + d).toNat : Int) := by
  simp only [UInt32.toNat_add]; omega
theorem shr10 (x : UInt32) : (x.toNat : Int) / 1024 = ((x >>> UInt32.ofNat 10).toNat : Int) := by rw [shr32 _ 10 (by omega)]; rfl
theorem shr3 (x : UInt32) : (x.toNat : Int) / 8 = ((x >>> UInt32.ofNat 3).toNat : Int) := by rw [shr32 _ 3 (by omega)]; rfl
theorem below_alloc2 {B : Nat} {w0 w : World} (h : Below B w0 w) (hB : B ≤ w.heap.size) (o : Obj) : Below B w0 (w.alloc o) := h.alloc hB o
theorem kept_row {w w' : World} (h : Below w.heap.size w w') {g : Nat} {o : Obj} (hg : w.heap[g]? = some o) : w'.heap[g]? = some o := (h.block g (Array.getElem?_eq_some_iff.1 hg).1).trans hg
theorem kept_at {B : Nat} {w w' : World} (h : Below B w w') {g : Nat} (hB : g < B) {o : Option Obj} (hg : w.heap[g]? = o) : w'.heap[g]? = o := (h.block g hB).trans hg
theorem at_new (w : World) (o : Obj) (g : Nat) (hg : g = w.heap.size) : (w.alloc o).heap[g]? = some o := by subst hg; exact heap_alloc_new w o
theorem at_old (w : World) (o : Obj) (g : Nat) (hg : g < w.heap.size) {x : Option Obj} (hx : w.heap[g]? = x) : (w.alloc o).heap[g]? = x := by
  rw [← hx]
  show (w.heap.push o)[g]? = _
  rw [Array.getElem?_push, if_neg (by omega)]
/-- Where a walk is to stand still. -/
def Stop (p : Prop) : Prop := p
theorem unstop {p : Prop} (h : Stop p) : p := h
theorem restop {p : Prop} (h : p) : Stop p := h
theorem wl_unstop {P : Program} {ops : Array Oper} {Q : Exit → Act → World → Prop} {l : List Oper} {a : Act} {W : World} (h : Stop (wpList P ops Q l a W)) : wpList P ops Q l a W := h
/-- The world of a walk gets a name. -/
theorem calls_world {P : Program} {f : FuncId} {args : Array Value} {R : Ending → World → Prop} {W : World} (h : ∀ w, W = w → Calls P f args w R) : Calls P f args W R := h W rfl
theorem exit_world {K : Act → World → Prop} {Q : Exit → Act → World → Prop} {e : Exit} {a : Act} {W : World} (h : ∀ w, W = w → Exit.then K Q e a w) : Exit.then K Q e a W := h W rfl
theorem code_world {P : Program} {Q : Exit → Act → World → Prop} {c : Code} {a : Act} {W : World} (h : ∀ w, W = w → c.wp P Q a w) : c.wp P Q a W := h W rfl
theorem wl_world {P : Program} {ops : Array Oper} {Q : Exit → Act → World → Prop} {l : List Oper} {a : Act} {W : World} (h : ∀ w, W = w → wpList P ops Q l a w) : wpList P ops Q l a W := h W rfl
theorem set_other {w : World} {g k : Nat} (cs : Array Value) (h : k ≠ g) {o : Option Obj} (hk : w.heap[k]? = o) : (w.setRow g cs).heap[k]? = o := (setRow_other w g k cs h).trans hk
theorem hv_size8 (s : H8) : (hv s).size = 8 := rfl
theorem hv_get (s : H8) (i : Nat) (hi : i < 8) : (hv s)[i]? = some (.int .u32 ((s.l.getD i 0).toNat : Int)) := by rw [hv_wv, wv_get _ _ (by simpa [H8.l] using hi)]
theorem row_hv {w : World} {g : Nat} {s : H8} {t : TypeId} {fr : Nat × Nat} (h : w.heap[g]? = some (.cells (hv s) t fr)) (i : Nat) (v : UInt32) (hv' : s.l[i]? = some v) : w.cell? ⟨g, i, none⟩ = some (.int .u32 (v.toNat : Int)) := by
  obtain ⟨hi, he⟩ := List.getElem?_eq_some_iff.1 hv'
  rw [row_cell h, hv_get _ _ (by simpa [H8.l] using hi)]
  simp [List.getD, hi, he]
/-- The first i of eight words, each with another's word added. -/
def mix (s t : H8) (i : Nat) : List UInt32 := (List.zipWith (· + ·) s.l t.l).take i ++ s.l.drop i
theorem mix_zero (s t : H8) : mix s t 0 = s.l := by simp [mix]
theorem mix_all (s t : H8) : mix s t 8 = (s.add t).l := by simp [mix, H8.l, H8.add]
theorem mix_length (s t : H8) (i : Nat) (hi : i ≤ 8) : (mix s t i).length = 8 := by simp [mix, H8.l]; omega
theorem mix_at (s t : H8) (i : Nat) (hi : i < 8) : (mix s t i).getD i 0 = s.l.getD i 0 := by
  have : ∀ i : Fin 8, (mix s t i.val).getD i.val 0 = s.l.getD i.val 0 := by
    intro i; match i with
    | 0 => rfl
    | 1 => rfl
    | 2 => rfl
    | 3 => rfl
    | 4 => rfl
    | 5 => rfl
    | 6 => rfl
    | 7 => rfl
  exact this ⟨i, hi⟩
theorem mix_set (s t : H8) (i : Nat) (hi : i < 8) : (mix s t i).set i (s.l.getD i 0 + t.l.getD i 0) = mix s t (i + 1) := by
  have : ∀ i : Fin 8, (mix s t i.val).set i.val (s.l.getD i.val 0 + t.l.getD i.val 0) = mix s t (i.val + 1) := by
    intro i; match i with
    | 0 => rfl
    | 1 => rfl
    | 2 => rfl
    | 3 => rfl
    | 4 => rfl
    | 5 => rfl
    | 6 => rfl
    | 7 => rfl
  exact this ⟨i, hi⟩
theorem bnotw (e : UInt32) : bits .xor .u32 (if IntKind.u32.signed = true then -1 else IntKind.u32.max) (e.toNat : Int) = ((~~~e).toNat : Int) := bnot32 e
theorem add3 (a b c : UInt32) : ((a.toNat : Int) + b.toNat + c.toNat) % 4294967296 = ((a + b + c).toNat : Int) := by
  simp only [UInt32.toNat_add]; omega
theorem add5 (a b c d e : UInt32) : ((a.toNat : Int) + b.toNat + c.toNat + d.toNat + e.toNat) % 4294967296 = ((a + b + c + d + e).toNat : Int) := by
  simp only [UInt32.toNat_add]; omega
theorem row_sched {w : World} {g : Nat} {b : List UInt8} {t : TypeId} {fr : Nat × Nat} (n : Nat) (h : w.heap[g]? = some (.cells (wv (sched b n ++ List.replicate (64 - n) 0)) t fr)) (i : Nat) (hi : i < n) : w.cell? ⟨g, i, none⟩ = some (.int .u32 (((sched b n).getD i 0).toNat : Int)) := by
  rw [row_wv h i (by simp [sched_length]; omega)]
  congr 4
  simp [List.getD, List.getElem?_append_left (show i < (sched b n).length by rw [sched_length]; exact hi)]
theorem wnext_at (b : List UInt8) (n : Nat) : wnext (sched b (n + 16)) = sg1 ((sched b (n + 16)).getD (n + 14) 0) + (sched b (n + 16)).getD (n + 9) 0 + sg0 ((sched b (n + 16)).getD (n + 1) 0) + (sched b (n + 16)).getD n 0 := by
  rw [wnext, sched_length]
  simp only [show n + 16 - 2 = n + 14 from by omega, show n + 16 - 7 = n + 9 from by omega, show n + 16 - 15 = n + 1 from by omega, show n + 16 - 16 = n from by omega]
theorem sched_pad_set (b : List UInt8) (t : Nat) (x : UInt32) (ht : t < 64) (hx : x = (if t < 16 then word b t else wnext (sched b t))) :
    (sched b t ++ List.replicate (64 - t) 0).set t x = sched b (t + 1) ++ List.replicate (64 - (t + 1)) 0 := by
  rw [List.set_append_right _ _ (by rw [sched_length]; omega), sched_length, Nat.sub_self, show 64 - t = (64 - (t + 1)) + 1 from by omega, List.replicate_succ, List.set_cons_zero, hx]
  simp [sched]
/-- A goal that nothing looks into; n operations are left. -/
structure Shut (n : Nat) (p : Prop) : Prop where
  out : p
section
variable {P : Program} {ops : Array Oper} {w : World} {n : Nat}
theorem shut_step {Q : Act → Prop} {a : Act} {o : Oper} {rest : List Oper}
    (h : ∀ K : Act → Prop, (∀ a, Shut n (wpStill P ops w Q rest a) → K a) → if Region.wanted o (yielded ops a.tmps) then o.still P a w K else K (a.put o.dst undef)) : Shut (n + 1) (wpStill P ops w Q (o :: rest) a) :=
  ⟨wpStill_step fun K hK => h K fun a h => hK a h.out⟩
theorem shut_list {ops2 : Array Oper} {Q2 : Exit → Act → World → Prop} {l : List Oper} {W2 : World} {a : Act} (h : wpList P ops2 Q2 l a W2) : Shut 0 (wpStill P ops w (fun a' => wpList P ops2 Q2 l a' W2) [] a) := ⟨wpStill_nil h⟩
theorem shut_end {Q2 : Exit → Act → World → Prop} {W2 : World} {a : Act} (h : Q2 .normal a W2) : Shut 0 (wpStill P ops w (fun a' => Q2 .normal a' W2) [] a) := ⟨wpStill_nil h⟩
theorem region_shut_tail {id : Nat} {Q : Exit → Act → World → Prop} {a : Act} {w : World} {l : List Oper} (n : Nat) (hm : P.follows .mixedOrders = true) (hB : Region.lexTailB .any l.toArray n = true)
    (h : Shut n (wpStill P l.toArray { w with drawn := w.drawn + 1 } (fun a' => wpList P l.toArray Q (l.drop n) a' { w with drawn := w.drawn + 1 }) (l.take n) a)) : (Code.region id l.toArray true).wp P Q a w :=
  wp_region_still_tail n hm hB h.out
theorem region_shut {id : Nat} {Q : Exit → Act → World → Prop} {a : Act} {w : World} {l : List Oper} (n : Nat) (hm : P.follows .mixedOrders = true) (hB : Region.lexB .any l.toArray = true)
    (h : Shut n (wpStill P l.toArray { w with drawn := w.drawn + 1 } (fun a' => Q .normal a' { w with drawn := w.drawn + 1 }) l a)) : (Code.region id l.toArray true).wp P Q a w :=
  wp_region_still_lit hm hB h.out
end
/-! A region that draws its order, whose callees make blocks of their own: one walk. -/
section
variable {P : Program} {ops : Array Oper} {C : World → Prop} {Q : Act → Prop} {a : Act} {o : Oper} {rest : List Oper} {n : Nat}
theorem gq_skip (hw : Region.wanted o (yielded ops a.tmps) = false) (a' : Act) (ha : a.put o.dst undef = a') (h : Shut n (wpQuiet P ops C Q rest a')) : Shut (n + 1) (wpQuiet P ops C Q (o :: rest) a) := by
  subst ha
  exact ⟨by simp only [wpQuiet, hw, Bool.false_eq_true, if_false]; exact h.out⟩
theorem gq_val (hw : Region.wanted o (yielded ops a.tmps) = true) (h : ∃ v, (∀ w', C w' → o.quietAt P a C w' v) ∧ ∃ a', a.put o.dst v = a' ∧ Shut n (wpQuiet P ops C Q rest a')) : Shut (n + 1) (wpQuiet P ops C Q (o :: rest) a) := by
  obtain ⟨v, h1, _, rfl, h2⟩ := h
  exact ⟨by simp only [wpQuiet, hw, if_true]; exact ⟨v, h1, h2.out⟩⟩
theorem gq_end {Q2 : Act → Prop} {a : Act} (h : Q2 a) : Shut 0 (wpQuiet P ops C Q2 [] a) := ⟨h⟩
theorem region_gq {id : Nat} {Q : Exit → Act → World → Prop} {a : Act} {w : World} {l : List Oper} (n : Nat) (hm : P.follows .mixedOrders = true) (hB : Region.lexB .any l.toArray = true)
    (h : Shut n (wpQuiet P l.toArray (fun w' => Below w.heap.size w w') (fun a' => ∀ w', Below w.heap.size w w' → Q .normal a' w') l a)) : (Code.region id l.toArray true).wp P Q a w :=
  wp_region_quiet (C := fun w' => Below w.heap.size w w') hm hB (bdraw w) (by simpa using h.out)
theorem bcalls {P : Program} {f : FuncId} {args : Array Value} {w1 w : World} {v : Value} (hw : Below w1.heap.size w1 w) (h : Calls P f args w fun e w' => e = .returned v ∧ Below w.heap.size w w') : Calls P f args w fun e w' => e = .returned v ∧ Below w1.heap.size w1 w' :=
  h.mono fun e w' ⟨h1, h2⟩ => ⟨h1, bcall hw h2⟩
end
end Cop
