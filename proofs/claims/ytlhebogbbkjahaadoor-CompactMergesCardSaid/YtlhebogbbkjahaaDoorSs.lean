/- Parts of bytes that are read or owned: what slicing them comes to. -/
import Derived.Test.YtlhebogbbkjahaaDoorOg
set_option linter.unusedVariables false
set_option linter.unusedSimpArgs false
namespace Cop
open Go Go.RowKit
theorem _root_.List.set_getElem?_self' {α : Type _} {l : List α} {i : Nat} {x : α} (h : l[i]? = some x) : l.set i x = l := by
  obtain ⟨hi, rfl⟩ := List.getElem?_eq_some_iff.1 h
  exact List.set_getElem_self hi
section
variable {P : Program} {w : World} {v : Value} {l : List UInt8} {t e : TypeId}
/-- v[:k]. -/
theorem rd_to (h : Rd w v l.length 1 (bl l)) (ht : P.underlying t = some (.slice e)) (hs : (P.info? e).map (·.size) = some 1) (k : Nat) (hk : k ≤ l.length) :
    ∃ A c, k ≤ c ∧ c ≤ 9223372036854775807 ∧ Rd w (.slice A k c) (l.take k).length 1 (bl (l.take k)) ∧ (∀ b, rblk (.slice A k c) (bl (l.take k)) = some b → rblk v (bl l) = some b) ∧
      ∀ W kk, (Instr.sliceAt t v none (some (.int kk k)) none).run P W = .ok (.slice A k c) W := by
  obtain ⟨hl, A, c, rfl, hc, hm, hA, hcell⟩ := h
  have hsz := fun W => run_sizeOf_gen (P := P) W hs
  have hlen : (l.take k).length = k := by simp; omega
  refine ⟨if c = 0 then A else A.map (·.add 0), c, by omega, hm, ?_, ?_, ?_⟩
  · rw [hlen]
    refine ⟨by rw [bl_length, hlen, Nat.mul_one], _, c, rfl, by omega, hm, fun h0 => ?_, fun h0 => ?_⟩
    · split at h0
      · assumption
      · cases A with
        | none => exact hA rfl
        | some a => simp at h0
    · obtain ⟨b, o, rfl, hcl⟩ := hcell (by omega)
      refine ⟨b, o, by rw [if_neg (by omega)]; simp [add_plain], fun j u hu => ?_⟩
      rw [bl_take, List.getElem?_take] at hu
      split at hu
      · exact hcl j u hu
      · cases hu
  · intro b hb
    cases A with
    | none => simp [rblk] at hb
    | some a =>
      cases l with
      | nil => simp [bl, rblk] at hb
      | cons x xs =>
        simp only [bl, List.map_cons, rblk]
        cases k with
        | zero => simp [bl, rblk] at hb
        | succ k =>
          have : (if c = 0 then some a else (some a).map (·.add 0)) = some a := by
            obtain ⟨b', o', s'⟩ := a
            split
            · rfl
            · simp [Addr.add]
          rw [this] at hb
          simpa [bl, rblk] using hb
  · intro W kk
    unfold Instr.sliceAt
    rw [Sem.run_bind, run_underlying ht]
    simp only [Result.andThen]
    unfold Instr.slice
    rw [Sem.run_bind, run_underlying ht]
    simp [Result.andThen, Instr.sliceBounds, Instr.sliceBound, asIntOf, hsz, show k ≤ c from by omega]
/-- v[k:]. -/
theorem rd_from (h : Rd w v l.length 1 (bl l)) (ht : P.underlying t = some (.slice e)) (hs : (P.info? e).map (·.size) = some 1) (k : Nat) (hk : k ≤ l.length) :
    ∃ A c, (l.drop k).length ≤ c ∧ c ≤ 9223372036854775807 ∧ Rd w (.slice A (l.drop k).length c) (l.drop k).length 1 (bl (l.drop k)) ∧ (∀ b, rblk (.slice A (l.drop k).length c) (bl (l.drop k)) = some b → rblk v (bl l) = some b) ∧
      ∀ W kk, (Instr.sliceAt t v (some (.int kk k)) none none).run P W = .ok (.slice A (l.drop k).length c) W := by
  obtain ⟨hl, A, c, rfl, hc, hm, hA, hcell⟩ := h
  have hsz := fun W => run_sizeOf_gen (P := P) W hs
  have hlen : (l.drop k).length = l.length - k := by simp
  rw [hlen]
  refine ⟨if c = k then A else A.map (·.add (k * 1)), c - k, by omega, by omega, ?_, ?_, ?_⟩
  · refine ⟨by rw [bl_length, hlen, Nat.mul_one], _, c - k, rfl, by omega, by omega, fun h0 => ?_, fun h0 => ?_⟩
    · split at h0
      · omega
      · cases A with
        | none => have := hA rfl; omega
        | some a => simp at h0
    · obtain ⟨b, o, rfl, hcl⟩ := hcell (by omega)
      refine ⟨b, o + k, by rw [if_neg (by omega)]; simp [add_plain], fun j u hu => ?_⟩
      rw [bl_drop, List.getElem?_drop] at hu
      rw [Nat.add_assoc]
      exact hcl _ u hu
  · intro b hb
    cases A with
    | none => simp [rblk] at hb
    | some a =>
      have hne : l ≠ [] := by intro e; subst e; simp [bl, rblk] at hb
      cases l with
      | nil => exact absurd rfl hne
      | cons x xs =>
        simp only [bl, List.map_cons, rblk]
        have : (if c = k then some a else (some a).map (·.add (k * 1))).map (·.block) = some a.block := by
          obtain ⟨b', o', s'⟩ := a
          split
          · rfl
          · simp only [Option.map_some, Addr.add]; split <;> rfl
        generalize hq : (if c = k then some a else (some a).map (·.add (k * 1))) = q at *
        cases q with
        | none => simp [rblk] at hb
        | some a2 =>
          simp only [Option.map_some, Option.some.injEq] at this
          cases hd : bl (List.drop k (x :: xs)) with
          | nil => rw [hd] at hb; simp [rblk] at hb
          | cons y ys => rw [hd] at hb; simp only [rblk] at hb; rw [← hb, this]
  · intro W kk
    unfold Instr.sliceAt
    rw [Sem.run_bind, run_underlying ht]
    simp only [Result.andThen]
    unfold Instr.slice
    rw [Sem.run_bind, run_underlying ht]
    simp [Result.andThen, Instr.sliceBounds, Instr.sliceBound, asIntOf, hsz, show k ≤ l.length from hk]
/-- v[:0] of what is owned. -/
theorem run_to_zero (A : Option Addr) (n c : Nat) (hA : ∀ a, A = some a → a.spot = none) (ht : P.underlying t = some (.slice e)) (hs : (P.info? e).map (·.size) = some 1) (W : World) (kk : IntKind) :
    (Instr.sliceAt t (.slice A n c) none (some (.int kk 0)) none).run P W = .ok (.slice A 0 c) W := by
  have hsz := fun W => run_sizeOf_gen (P := P) W hs
  unfold Instr.sliceAt
  rw [Sem.run_bind, run_underlying ht]
  simp only [Result.andThen]
  unfold Instr.slice
  rw [Sem.run_bind, run_underlying ht]
  cases A with
  | none => simp [Result.andThen, Instr.sliceBounds, Instr.sliceBound, asIntOf, hsz]
  | some a =>
    obtain ⟨b, o, s⟩ := a
    have := hA _ rfl
    simp only at this
    subst this
    simp [Result.andThen, Instr.sliceBounds, Instr.sliceBound, asIntOf, hsz, add_plain]
theorem Ow.zero {B : Nat} {e size n c : Nat} {A : Option Addr} {xs : List Value} (h : Ow w B e size (.slice A n c) n xs) : Ow w B e size (.slice A 0 c) 0 [] := by
  refine ⟨by simp, ?_⟩
  rcases h.2 with ⟨A', he, hn⟩ | ⟨g, cap, cur, hc, he, r1, r2, r3, r4, r5, r6⟩
  · injection he with h1 h2 h3; subst h3; exact .inl ⟨_, rfl, rfl⟩
  · injection he with h1 h2 h3
    subst h1 h3
    exact .inr ⟨g, c, cur, hc, rfl, r1, r2, Nat.zero_le _, r4, r5, by simp⟩
theorem Ow.addr {B : Nat} {e size n c : Nat} {A : Option Addr} {xs : List Value} (h : Ow w B e size (.slice A n c) n xs) (hn : 0 < n) : ∃ g, A = some ⟨g, 0, none⟩ := by
  rcases h.2 with ⟨A', he, h0⟩ | ⟨g, cap, cur, hc, he, _⟩
  · omega
  · injection he with h1 h2 h3; exact ⟨g, h1⟩
end
theorem bytes_app (a b : List UInt8) : ((⟨a.toArray⟩ : ByteArray) ++ (⟨b.toArray⟩ : ByteArray)) = ⟨(a ++ b).toArray⟩ := by
  apply ByteArray.ext
  simp
theorem bytes_eq (L l : List UInt8) (x : UInt8) (h : l ++ [x] = L) : (L == ((⟨l.toArray⟩ : ByteArray) ++ (⟨#[x]⟩ : ByteArray)).toList) = true := by
  have := bytes_app l [x]
  rw [show (⟨#[x]⟩ : ByteArray) = ⟨[x].toArray⟩ from rfl, this, h]
  simp
section
variable {w0 w : World} {B : Nat} {R : List Pc}
/-- A row is read from here on. -/
theorem Sep.rowRd (HS : Sep B w0 w R) (i : Nat) {g : Nat} {l : List UInt8} {t : TypeId} (hi : R[i]? = some (.row g (bv l) t)) (n : Nat) (hn : l.length = n) (hm : n ≤ 9223372036854775807) : Sep B w0 w (R.set i (.rd (.slice (some ⟨g, 0, none⟩) n n) n 1 (bl l))) := by
  refine HS.at_ i hi fun h => ?_
  have hr := h.head.2
  refine ⟨h.hb, h.hB, fun r hm2 => ?_, List.pairwise_cons.2 ⟨fun r hm2 => .inr fun k hk hk2 => ?_, h.tail.far⟩⟩
  · rcases List.mem_cons.1 hm2 with rfl | hm2
    · have := rd_row (n := n) (size := 1) hr (by rw [bv_size]; omega) hm
      rw [bv_toList] at this
      exact this
    · exact h.tail.all r hm2
  · have hg : k = g := by
      cases l with
      | nil => simp [Pc.blk, bl, rblk] at hk
      | cons x xs => simp [Pc.blk, bl, rblk] at hk; exact hk.symm
    subst hg
    rcases (List.pairwise_cons.1 h.far).1 r hm2 with h3 | h3
    · cases h3.1
    · exact h3 k rfl hk2
theorem Sep.rowRdL (HS : Sep B w0 w R) (i : Nat) {g : Nat} {l : List UInt8} {t : TypeId} (hi : R[i]? = some (.row g (bv l) t)) (n : Nat) (hn : l.length = n) (hm : n ≤ 9223372036854775807) : Sep B w0 w (R.set i (.rd (.slice (some ⟨g, 0, none⟩) n n) l.length 1 (bl l))) := by
  have h := HS.rowRd i hi n hn hm
  have e : Pc.rd (.slice (some ⟨g, 0, none⟩) n n) n 1 (bl l) = Pc.rd (.slice (some ⟨g, 0, none⟩) n n) l.length 1 (bl l) := by rw [hn]
  rw [e] at h
  exact h
/-- Bytes that a literal built. -/
theorem Sep.builtB (HS : Sep B w0 w R) (t : TypeId) (l : List UInt8) (hm : l.length ≤ 9223372036854775807) : Sep B w0 (w.alloc (.cells (bv l) t)) (.own (.slice (some ⟨w.heap.size, 0, none⟩) l.length l.length) t 1 l.length (bl l) :: R) := by
  have := HS.built (bv l) t l.length 1 (by rw [bv_size, Nat.mul_one]) hm
  rwa [bv_toList] at this
end
theorem rd_one (w : World) (t : TypeId) (n : Int) (y : UInt8) (h : n = (y.toNat : Int)) : Rd (w.alloc (.cells #[.int .u8 n] t)) (.slice (some ⟨w.heap.size, 0, none⟩) 1 1) 1 1 (bl [y]) := by
  subst h
  exact rd_row (n := 1) (size := 1) (heap_alloc_new w (.cells #[.int .u8 (y.toNat : Int)] t)) rfl (by decide)
theorem rd_at {w : World} {A : Option Addr} {n c : Nat} {K : List UInt8} (h : Rd w (.slice A n c) n 1 (bl K)) (i : Nat) (hi : i < n) : ∃ b o, A = some ⟨b, o, none⟩ ∧ w.cell? ⟨b, o + i, none⟩ = some (.int .u8 ((K.getD i 0).toNat : Int)) := by
  obtain ⟨hl, A9, c9, he, _, _, _, hcell⟩ := h
  obtain ⟨b, o, h1, hcl⟩ := hcell (by omega)
  injection he with he1 _ _
  exact ⟨b, o, he1.trans h1, hcl i _ (bl_get K i (by rw [bl_length] at hl; omega))⟩
end Cop
