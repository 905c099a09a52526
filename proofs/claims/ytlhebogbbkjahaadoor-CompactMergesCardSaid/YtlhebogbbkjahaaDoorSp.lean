/- What a walk knows of memory, in one word: the rows and slices of the call's own and what is read, no two of them in one block (two that are read may share). -/
import Derived.Test.YtlhebogbbkjahaaDoorIv
import Derived.Maps.AppendAt
set_option linter.unusedVariables false
namespace Cop
open Go Go.RowKit
/-- The block of a slice that may be written (none: it has no room). -/
def vblk : Value → Option Nat
  | .slice (some a) _ c => if c = 0 then none else some a.block
  | _ => none
/-- The block of what is read. -/
def rblk (v : Value) (cs : List Value) : Option Nat :=
  match v, cs with
  | .slice (some a) _ _, _ :: _ => some a.block
  | _, _ => none
/-- A slice of the call's own, or one without any room. -/
def Ow (w : World) (B : Nat) (e : TypeId) (size : Nat) (v : Value) (n : Nat) (xs : List Value) : Prop :=
  xs.length = n * size ∧ ((∃ A, v = .slice A 0 0 ∧ n = 0) ∨
    ∃ g cap cur, 0 < cap ∧ v = .slice (some ⟨g, 0, none⟩) n cap ∧ B ≤ g ∧ w.heap[g]? = some (.cells cur e (0, 0)) ∧ n ≤ cap ∧ cap ≤ maxLen ∧ cur.size = cap * size ∧ cur.toList.take (n * size) = xs)
section
variable {w w' : World} {B : Nat} {e : TypeId} {size n : Nat} {v : Value} {xs : List Value}
theorem Ow.of_own (h : w.ownsRow B e size v n xs) : Ow w B e size v n xs := by
  refine ⟨h.1, ?_⟩
  rcases h.2 with ⟨rfl, hn⟩ | ⟨g, cap, cur, rfl, r1, r2, r3, r4, r5, r6⟩
  · exact .inl ⟨_, rfl, hn⟩
  · by_cases hc : cap = 0
    · subst hc
      have : n = 0 := by omega
      subst this
      exact .inl ⟨_, rfl, rfl⟩
    · exact .inr ⟨g, cap, cur, by omega, rfl, r1, r2, r3, r4, r5, r6⟩
theorem Ow.nil (w : World) (B : Nat) (e : TypeId) (size : Nat) (A : Option Addr) : Ow w B e size (.slice A 0 0) 0 [] := ⟨by simp, .inl ⟨A, rfl, rfl⟩⟩
theorem Ow.sl (h : Ow w B e size v n xs) : ∃ A c, v = .slice A n c ∧ n ≤ c := by
  rcases h.2 with ⟨A, rfl, rfl⟩ | ⟨g, cap, cur, _, rfl, _, _, h, _⟩
  · exact ⟨A, 0, rfl, Nat.le_refl _⟩
  · exact ⟨_, cap, rfl, h⟩
theorem Ow.own_of (h : Ow w B e size v n xs) : (∃ A, v = .slice A 0 0 ∧ n = 0 ∧ xs = []) ∨ w.ownsRow B e size v n xs := by
  rcases h.2 with ⟨A, rfl, hn⟩ | ⟨g, cap, cur, _, rfl, r⟩
  · subst hn; exact .inl ⟨A, rfl, rfl, List.eq_nil_of_length_eq_zero (by simpa using h.1)⟩
  · exact .inr ⟨h.1, .inr ⟨g, cap, cur, rfl, r⟩⟩
theorem Ow.rd (h : Ow w B e size v n xs) : Rd w v n size xs := by
  rcases h.own_of with ⟨A, rfl, rfl, rfl⟩ | h
  · exact ⟨by simp, A, 0, rfl, Nat.le_refl _, by omega, fun _ => rfl, fun h => absurd h (by omega)⟩
  · exact Rd.of_own h
theorem Ow.same (h : Ow w B e size v n xs) (hk : ∀ k, vblk v = some k → w'.heap[k]? = w.heap[k]?) : Ow w' B e size v n xs := by
  refine ⟨h.1, ?_⟩
  rcases h.2 with h1 | ⟨g, cap, cur, hc, rfl, r1, r2, r3⟩
  · exact .inl h1
  · exact .inr ⟨g, cap, cur, hc, rfl, r1, (hk g (by simp [vblk]; omega)).trans r2, r3⟩
theorem Ow.lt (h : Ow w B e size v n xs) (k : Nat) (hk : vblk v = some k) : B ≤ k ∧ k < w.heap.size := by
  rcases h.2 with ⟨A, rfl, _⟩ | ⟨g, cap, cur, hc, rfl, r1, r2, _⟩
  · cases A <;> simp [vblk] at hk
  · simp [vblk, show cap ≠ 0 from by omega] at hk
    subst hk
    exact ⟨r1, (Array.getElem?_eq_some_iff.1 r2).1⟩
theorem vblk_own (k : Nat) (h : vblk v = some k) : v.ownBlock = some k := by
  unfold vblk at h
  split at h
  · split at h
    · cases h
    · simpa [Value.ownBlock] using h
  · cases h
theorem Rd.cells_rblk {cs : List Value} (h : Rd w v n size cs) (k : Nat) (hk : rblk v cs = some k) : k < w.heap.size ∧ ∃ o, ∀ j u, cs[j]? = some u → w.cell? ⟨k, o + j, none⟩ = some u := by
  obtain ⟨h1, A, c, rfl, h3, h4, h5, h6⟩ := h
  cases cs with
  | nil => cases A <;> simp [rblk] at hk
  | cons x xs =>
    have hn : 0 < n := by
      rcases Nat.eq_zero_or_pos n with h0 | h0
      · subst h0; simp at h1
      · exact h0
    obtain ⟨b, o, rfl, hc⟩ := h6 hn
    simp only [rblk, Option.some.injEq] at hk
    subst hk
    exact ⟨World.block_lt_of_cell? w _ (hc 0 x rfl), o, hc⟩
theorem Rd.same {cs : List Value} (h : Rd w v n size cs) (hk : ∀ k, rblk v cs = some k → w'.heap[k]? = w.heap[k]?) : Rd w' v n size cs := by
  obtain ⟨h1, A, c, rfl, h3, h4, h5, h6⟩ := h
  refine ⟨h1, A, c, rfl, h3, h4, h5, fun hn => ?_⟩
  obtain ⟨b, o, rfl, hc⟩ := h6 hn
  refine ⟨b, o, rfl, fun j u hu => ?_⟩
  have hb : rblk (.slice (some ⟨b, o, none⟩) n c) cs = some b := by
    cases cs with
    | nil => simp at hu
    | cons _ _ => rfl
  exact (World.cell?_of_block (w := w) (a := ⟨b, o + j, none⟩) (hk b hb)).trans (hc j u hu)
end
/-- A piece of memory. -/
inductive Pc where
  | row (g : Nat) (cs : Array Value) (t : TypeId)
  | own (v : Value) (e : TypeId) (size n : Nat) (xs : List Value)
  | rd (v : Value) (n size : Nat) (cs : List Value)
  | held (k : Nat) (cs : Array Value) (t : TypeId)
  | obj (k : Nat) (o : Obj)
def Pc.blk : Pc → Option Nat
  | .row g _ _ => some g
  | .own v _ _ _ _ => vblk v
  | .rd v _ _ cs => rblk v cs
  | .held k _ _ => some k
  | .obj k _ => some k
def Pc.reads : Pc → Bool
  | .rd .. => true
  | .held .. => true
  | .obj .. => true
  | _ => false
def Pc.holds (B : Nat) (w : World) : Pc → Prop
  | .row g cs t => B ≤ g ∧ w.heap[g]? = some (.cells cs t (0, 0))
  | .own v e size n xs => Ow w B e size v n xs
  | .rd v n size cs => Rd w v n size cs
  | .held k cs t => w.heap[k]? = some (.cells cs t (0, 0))
  | .obj k o => w.heap[k]? = some o
def Pc.isObj : Pc → Bool
  | .obj .. => true
  | _ => false
/-- No piece is an object of any kind. -/
def plainL (R : List Pc) : Bool := R.all fun p => !p.isObj
/-- Two pieces do not meet. -/
def Pc.far (p q : Pc) : Prop := (p.reads = true ∧ q.reads = true) ∨ ∀ k, p.blk = some k → q.blk ≠ some k
theorem Pc.far_symm {p q : Pc} (h : p.far q) : q.far p := by
  rcases h with h | h
  · exact .inl ⟨h.2, h.1⟩
  · exact .inr fun k hq hp => h k hp hq
section
variable {w w' : World} {B : Nat} {p q : Pc}
theorem Pc.same (h : p.holds B w) (hk : ∀ k, p.blk = some k → w'.heap[k]? = w.heap[k]?) : p.holds B w' := by
  cases p with
  | row g cs t => exact ⟨h.1, (hk g rfl).trans h.2⟩
  | own v e size n xs => exact Ow.same h hk
  | rd v n size cs => exact Rd.same h hk
  | held k cs t => exact (hk k rfl).trans h
  | obj k o => exact (hk k rfl).trans h
theorem Pc.lt (h : p.holds B w) (k : Nat) (hk : p.blk = some k) : k < w.heap.size := by
  cases p with
  | row g cs t => cases hk; exact (Array.getElem?_eq_some_iff.1 h.2).1
  | own v e size n xs => exact (Ow.lt h k hk).2
  | rd v n size cs => exact (Rd.cells_rblk h k hk).1
  | held k' cs t => cases hk; exact (Array.getElem?_eq_some_iff.1 h).1
  | obj k' o => cases hk; exact (Array.getElem?_eq_some_iff.1 h).1
theorem Pc.ge (h : p.holds B w) (hr : p.reads = false) (k : Nat) (hk : p.blk = some k) : B ≤ k := by
  cases p with
  | row g cs t => cases hk; exact h.1
  | own v e size n xs => exact (Ow.lt h k hk).1
  | rd v n size cs => cases hr
  | held k' cs t => cases hr
  | obj k' o => cases hr
end
/-- What a walk knows of memory. -/
structure Sep (B : Nat) (w0 w : World) (R : List Pc) : Prop where
  hb : Below B w0 w
  hB : B ≤ w.heap.size
  all : ∀ p ∈ R, p.holds B w
  far : R.Pairwise Pc.far
def frontL : Nat → List Pc → List Pc
  | _, [] => []
  | 0, p :: r => p :: r
  | n + 1, p :: r => match frontL n r with
    | [] => [p]
    | q :: s => q :: p :: s
theorem frontL_perm : ∀ (n : Nat) (R : List Pc), (frontL n R).Perm R
  | _, [] => by unfold frontL; exact List.Perm.refl _
  | 0, p :: r => List.Perm.refl _
  | n + 1, p :: r => by
    have := frontL_perm n r
    unfold frontL
    cases h : frontL n r with
    | nil => rw [h] at this; exact this.cons p
    | cons q s => rw [h] at this; exact (List.Perm.swap p q s).trans (this.cons p)
section
variable {B : Nat} {w0 w w' : World} {R : List Pc} {p q : Pc}
theorem Sep.start (w : World) : Sep w.heap.size w w [] := ⟨Below.refl _ _, Nat.le_refl _, fun _ h => (by cases h), List.Pairwise.nil⟩
theorem Sep.perm (h : Sep B w0 w R) {R' : List Pc} (hp : R'.Perm R) : Sep B w0 w R' :=
  ⟨h.hb, h.hB, fun p hm => h.all p (hp.mem_iff.1 hm), (hp.symm.pairwise h.far (fun h => Pc.far_symm h))⟩
theorem Sep.front (h : Sep B w0 w R) (n : Nat) : Sep B w0 w (frontL n R) := h.perm (frontL_perm n R)
theorem Sep.tail (h : Sep B w0 w (p :: R)) : Sep B w0 w R := ⟨h.hb, h.hB, fun q hq => h.all q (List.mem_cons_of_mem _ hq), (List.pairwise_cons.1 h.far).2⟩
theorem Sep.sub {R' : List Pc} (h : Sep B w0 w R) (hs : R'.Sublist R) : Sep B w0 w R' := ⟨h.hb, h.hB, fun p hp => h.all p (hs.subset hp), h.far.sublist hs⟩
theorem Sep.one (h : Sep B w0 w R) (i : Nat) (hi : R[i]? = some p) : Sep B w0 w [p] := h.sub (List.singleton_sublist.2 (List.mem_of_getElem? hi))
theorem Sep.head (h : Sep B w0 w (p :: R)) : p.holds B w := h.all p List.mem_cons_self
theorem Sep.at (h : Sep B w0 w R) (i : Nat) (hi : R[i]? = some p) : p.holds B w := h.all p (List.mem_of_getElem? hi)
theorem Sep.row (h : Sep B w0 w R) (i : Nat) {g : Nat} {cs : Array Value} {t : TypeId} (hi : R[i]? = some (.row g cs t)) : w.heap[g]? = some (.cells cs t (0, 0)) := (h.at i hi).2
theorem Sep.own (h : Sep B w0 w R) (i : Nat) {v : Value} {e : TypeId} {size n : Nat} {xs : List Value} (hi : R[i]? = some (.own v e size n xs)) : Ow w B e size v n xs := h.at i hi
theorem Sep.rd (h : Sep B w0 w R) (i : Nat) {v : Value} {n size : Nat} {cs : List Value} (hi : R[i]? = some (.rd v n size cs)) : Rd w v n size cs := h.at i hi
theorem Sep.lt (h : Sep B w0 w R) (hp : p ∈ R) (k : Nat) (hk : p.blk = some k) : k < w.heap.size := Pc.lt (h.all p hp) k hk
/-- The world goes on, no block of a piece being written. -/
theorem Sep.keep (h : Sep B w0 w R) (hb : Below w.heap.size w w') : Sep B w0 w' R :=
  ⟨h.hb.trans (hb.mono h.hB), Nat.le_trans h.hB hb.size, fun p hp => Pc.same (h.all p hp) fun k hk => hb.block k (h.lt hp k hk), h.far⟩
theorem Sep.drew (h : Sep B w0 w R) : Sep B w0 w.drew R := h.keep ⟨rfl, rfl, rfl, Nat.le_refl _, fun _ _ => rfl⟩
theorem Sep.drewN (h : Sep B w0 w R) (n : Nat) : Sep B w0 (w.drewN n) R := h.keep ⟨rfl, rfl, rfl, Nat.le_refl _, fun _ _ => rfl⟩
/-- A piece more, all of whose blocks are new. -/
theorem Sep.fresh (h : Sep B w0 w R) (hb : Below w.heap.size w w') (hp : p.holds B w') (hn : ∀ k, p.blk = some k → w.heap.size ≤ k) : Sep B w0 w' (p :: R) := by
  have h2 := h.keep hb
  refine ⟨h2.hb, h2.hB, fun q hq => ?_, List.pairwise_cons.2 ⟨fun q hq => .inr fun k hk hk2 => ?_, h2.far⟩⟩
  · rcases List.mem_cons.1 hq with rfl | hq
    · exact hp
    · exact h2.all q hq
  · have := hn k hk
    have := h.lt hq k hk2
    omega
theorem Sep.alloc (h : Sep B w0 w R) (cs : Array Value) (t : TypeId) : Sep B w0 (w.alloc (.cells cs t)) (.row w.heap.size cs t :: R) :=
  h.fresh ((Below.refl _ _).alloc (Nat.le_refl _) _) ⟨h.hB, heap_alloc_new w _⟩ (fun k hk => by cases hk; exact Nat.le_refl _)
theorem Sep.skip (h : Sep B w0 w R) (o : Obj) : Sep B w0 (w.alloc o) R := h.keep ((Below.refl _ _).alloc (Nat.le_refl _) _)
theorem Ow.lower {B' : Nat} {e : TypeId} {size n : Nat} {v : Value} {xs : List Value} (h : Ow w B e size v n xs) (hB : B' ≤ B) : Ow w B' e size v n xs := by
  refine ⟨h.1, ?_⟩
  rcases h.2 with h1 | ⟨g, cap, cur, hc, rfl, r1, r2⟩
  · exact .inl h1
  · exact .inr ⟨g, cap, cur, hc, rfl, by omega, r2⟩
/-- A slice that a callee made. -/
theorem Sep.made (h : Sep B w0 w R) (hb : Below w.heap.size w w') {v : Value} {e : TypeId} {size n : Nat} {xs : List Value} (ho : Ow w' w.heap.size e size v n xs) : Sep B w0 w' (.own v e size n xs :: R) :=
  h.fresh hb (Ow.lower ho h.hB) (fun k hk => (Ow.lt ho k hk).1)
theorem Sep.madeRow (h : Sep B w0 w R) (hb : Below w.heap.size w w') {v : Value} {e : TypeId} {size n : Nat} {xs : List Value} (ho : w'.ownsRow w.heap.size e size v n xs) : Sep B w0 w' (.own v e size n xs :: R) := h.made hb (Ow.of_own ho)
/-- What lies below B is read. -/
theorem Sep.arg (h : Sep B w0 w R) {v : Value} {n size : Nat} {cs : List Value} (hr : Rd w v n size cs) (hlt : ∀ k, rblk v cs = some k → k < B) : Sep B w0 w (.rd v n size cs :: R) := by
  refine ⟨h.hb, h.hB, fun q hq => ?_, List.pairwise_cons.2 ⟨fun q hq => ?_, h.far⟩⟩
  · rcases List.mem_cons.1 hq with rfl | hq
    · exact hr
    · exact h.all q hq
  · cases hq2 : q.reads with
    | true => exact .inl ⟨rfl, hq2⟩
    | false =>
      refine .inr fun k hk hk2 => ?_
      have := hlt k hk
      have := Pc.ge (h.all q hq) hq2 k hk2
      omega
theorem Sep.arg0 {R : List Pc} (h : Sep w.heap.size w w R) {v : Value} {n size : Nat} {cs : List Value} (hr : Rd w v n size cs) : Sep w.heap.size w w (.rd v n size cs :: R) := h.arg hr fun k hk => (Rd.cells_rblk hr k hk).1
/-- A piece is written: its own block alone, and blocks that are new. -/
theorem Sep.turn (h : Sep B w0 w (p :: R)) (hr : p.reads = false) (h1 : w'.os = w.os) (h2 : w'.tape = w.tape) (h3 : w'.output = w.output) (h4 : w.heap.size ≤ w'.heap.size)
    (h5 : ∀ k, k < w.heap.size → p.blk ≠ some k → w'.heap[k]? = w.heap[k]?) (hq : q.holds B w') (hn : ∀ k, q.blk = some k → p.blk = some k ∨ w.heap.size ≤ k) : Sep B w0 w' (q :: R) := by
  have hp := h.head
  have hR : ∀ r ∈ R, ∀ k, r.blk = some k → p.blk ≠ some k := fun r hm k hk hk2 => by
    rcases (List.pairwise_cons.1 h.far).1 r hm with ⟨h1, _⟩ | h1
    · rw [hr] at h1; cases h1
    · exact h1 k hk2 hk
  refine ⟨h.hb.trans ⟨h1, h2, h3, h4, fun k hk => h5 k (Nat.lt_of_lt_of_le hk h.hB) fun hk2 => ?_⟩, Nat.le_trans h.hB h4, fun r hm => ?_, List.pairwise_cons.2 ⟨fun r hm => .inr fun k hk hk2 => ?_, h.tail.far⟩⟩
  · have := Pc.ge hp hr k hk2
    omega
  · rcases List.mem_cons.1 hm with rfl | hm
    · exact hq
    · exact Pc.same (h.tail.all r hm) fun k hk => h5 k (h.tail.lt hm k hk) (hR r hm k hk)
  · rcases hn k hk with hk3 | hk3
    · exact hR r hm k hk2 hk3
    · have := h.tail.lt hm k hk2
      omega
/-- A row is stored. -/
theorem Sep.setRow0 {g : Nat} {old : Array Value} {t : TypeId} (h : Sep B w0 w (.row g old t :: R)) (cs : Array Value) : Sep B w0 (w.setRow g cs) (.row g cs t :: R) := by
  have hg := h.head.2
  refine h.turn rfl rfl rfl rfl (by simp) (fun k hk hne => setRow_other w g k cs (fun e => hne (by rw [e]; rfl))) ⟨h.head.1, setRow_heap w g _ _ t _ hg⟩ (fun k hk => .inl hk)
theorem Sep.setCell0 {g : Nat} {old : Array Value} {t : TypeId} (h : Sep B w0 w (.row g old t :: R)) (o : Nat) (u : Value) : Sep B w0 (w.setCell ⟨g, o, none⟩ u) (.row g (old.setIfInBounds o u) t :: R) := by
  have hg := h.head.2
  refine h.turn rfl rfl rfl rfl (by simp [World.setCell]) (fun k hk hne => Below.heap_setCell w _ u k (fun e => hne (by rw [e]; rfl))) ⟨h.head.1, row_set hg o u⟩ (fun k hk => .inl hk)
theorem modL_perm {R : List Pc} {i : Nat} (hi : R[i]? = some p) (q : Pc) : (q :: R.eraseIdx i).Perm (R.set i q) ∧ (p :: R.eraseIdx i).Perm R := by
  induction R generalizing i with
  | nil => simp at hi
  | cons r s ih =>
    cases i with
    | zero => simp only [List.getElem?_cons_zero, Option.some.injEq] at hi; subst hi; exact ⟨List.Perm.refl _, List.Perm.refl _⟩
    | succ i =>
      obtain ⟨h1, h2⟩ := ih (by simpa using hi)
      simp only [List.eraseIdx_cons_succ, List.set_cons_succ]
      exact ⟨(List.Perm.swap r q _).trans (h1.cons r), (List.Perm.swap r p _).trans (h2.cons r)⟩
theorem Sep.at_ (h : Sep B w0 w R) (i : Nat) (hi : R[i]? = some p) (hs : Sep B w0 w (p :: R.eraseIdx i) → Sep B w0 w' (q :: R.eraseIdx i)) : Sep B w0 w' (R.set i q) :=
  (hs (h.perm (modL_perm hi q).2)).perm (modL_perm hi q).1.symm
theorem Sep.setRow (h : Sep B w0 w R) (i : Nat) {g : Nat} {old : Array Value} {t : TypeId} (hi : R[i]? = some (.row g old t)) (cs : Array Value) : Sep B w0 (w.setRow g cs) (R.set i (.row g cs t)) := h.at_ i hi fun h => h.setRow0 cs
theorem Sep.setCell (h : Sep B w0 w R) (i : Nat) {g : Nat} {old : Array Value} {t : TypeId} (hi : R[i]? = some (.row g old t)) (o : Nat) (u : Value) : Sep B w0 (w.setCell ⟨g, o, none⟩ u) (R.set i (.row g (old.setIfInBounds o u) t)) := h.at_ i hi fun h => h.setCell0 o u
theorem Sep.swap (h : Sep B w0 w R) (i : Nat) (hi : R[i]? = some p) (hq : p.holds B w → q.holds B w) (hb : q.blk = p.blk) (hr : q.reads = p.reads) : Sep B w0 w (R.set i q) := by
  refine h.at_ i hi fun h => ?_
  refine ⟨h.hb, h.hB, fun r hm => ?_, List.pairwise_cons.2 ⟨fun r hm => ?_, h.tail.far⟩⟩
  · rcases List.mem_cons.1 hm with rfl | hm
    · exact hq h.head
    · exact h.tail.all r hm
  · have := (List.pairwise_cons.1 h.far).1 r hm
    unfold Pc.far at this ⊢
    rw [hb, hr]; exact this
theorem far_of_at (h : Sep B w0 w R) (i : Nat) (hi : R[i]? = some p) : ∀ q ∈ R, q = p ∨ p.far q := fun q hq => by
  have hp := (modL_perm hi p).2
  rcases List.mem_cons.1 (hp.mem_iff.2 hq) with h1 | h1
  · exact .inl h1
  · exact .inr ((List.pairwise_cons.1 (h.perm hp).far).1 q h1)
/-- A part of what is read is read. -/
theorem Sep.part (h : Sep B w0 w R) (i : Nat) {v v' : Value} {n n' size size' : Nat} {cs cs' : List Value} (hi : R[i]? = some (.rd v n size cs)) (hr : Rd w v' n' size' cs') (hb : ∀ k, rblk v' cs' = some k → rblk v cs = some k) : Sep B w0 w (.rd v' n' size' cs' :: R) := by
  refine ⟨h.hb, h.hB, fun q hq => ?_, List.pairwise_cons.2 ⟨fun q hq => ?_, h.far⟩⟩
  · rcases List.mem_cons.1 hq with rfl | hq
    · exact hr
    · exact h.all q hq
  · cases hq2 : q.reads with
    | true => exact .inl ⟨rfl, hq2⟩
    | false =>
      rcases far_of_at h i hi q hq with rfl | h1
      · cases hq2
      · rcases h1 with h1 | h1
        · rw [hq2] at h1; cases h1.2
        · exact .inr fun k hk => h1 k (hb k hk)
/-- What is owned is read from here on. -/
theorem Sep.toRd (h : Sep B w0 w R) (i : Nat) {v : Value} {e n size : Nat} {xs : List Value} (hi : R[i]? = some (.own v e size n xs)) : Sep B w0 w (R.set i (.rd v n size xs)) := by
  refine h.at_ i hi fun h => ?_
  have ho : Ow w B e size v n xs := h.head
  refine ⟨h.hb, h.hB, fun r hm => ?_, List.pairwise_cons.2 ⟨fun r hm => ?_, h.tail.far⟩⟩
  · rcases List.mem_cons.1 hm with rfl | hm
    · exact ho.rd
    · exact h.tail.all r hm
  · refine .inr fun k hk hk2 => ?_
    have h1 : v.ownBlock = some k := by
      cases v <;> try (simp [Pc.blk, rblk] at hk; done)
      rename_i A _ _
      cases A <;> cases xs <;> simp [Pc.blk, rblk] at hk
      simpa [Value.ownBlock] using hk
    have hne : xs ≠ [] := by
      intro e; subst e
      have hk2 : rblk v [] = some k := hk
      cases v with
      | slice A _ _ => cases A <;> exact absurd hk2 (by simp [rblk])
      | _ => exact absurd hk2 (by simp [rblk])
    have h2 : vblk v = some k := by
      rcases ho.2 with ⟨A, rfl, hn⟩ | ⟨g, cap, cur, hc, rfl, _⟩
      · exfalso
        apply hne
        exact List.eq_nil_of_length_eq_zero (by rw [ho.1, hn, Nat.zero_mul])
      · simp [Value.ownBlock] at h1
        simp [vblk, h1, show cap ≠ 0 from by omega]
    rcases (List.pairwise_cons.1 h.far).1 r hm with h3 | h3
    · cases h3.1
    · exact h3 k h2 hk2
end
end Cop
