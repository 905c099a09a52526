/- The reference's Root; parts of digests' lists that are read; Sub of both. -/
import Derived.Test.YtbjbdnlgoifamaaDoorRo
import Derived.Test.YtbjbdnlgoifamaaDoorHl
namespace Go.Proofs.YtbjbdnlgoifamaaDoor
open Go.RowKit Cop
set_option linter.unusedVariables false
set_option linter.unusedSimpArgs false
theorem info_dg32 : (Tryd.prog.info? 24).map (·.size) = some 32 := by kernel_rfl
section
variable {w : World} {v : Value} {l : List (List UInt8)}
/-- l[lo:hi]. -/
theorem rd_dsub (hR : Rd w v l.length 32 (dcs l)) (hl : AllD l) (lo hi : Nat) (h1 : lo ≤ hi) (h2 : hi ≤ l.length) : ∃ A c, Rd w (.slice A (hi - lo) c) (hi - lo) 32 (dcs ((l.take hi).drop lo)) ∧ hi - lo ≤ c ∧ c ≤ 9223372036854775807 ∧
    (∀ W kl kh, (Instr.sliceAt 28 v (some (.int kl (lo : Int))) (some (.int kh (hi : Int))) none).run Tryd.prog W = .ok (.slice A (hi - lo) c) W) ∧
    (lo = 0 → ∀ W kh, (Instr.sliceAt 28 v none (some (.int kh (hi : Int))) none).run Tryd.prog W = .ok (.slice A (hi - lo) c) W) ∧
    (hi = l.length → ∀ W kl, (Instr.sliceAt 28 v (some (.int kl (lo : Int))) none none).run Tryd.prog W = .ok (.slice A (hi - lo) c) W) := by
  obtain ⟨v', h3, h4, h5, h6⟩ := hR.slice Tryd.underlying28 info_dg32 lo hi h1 h2
  have e : ((dcs l).take (hi * 32)).drop (lo * 32) = dcs ((l.take hi).drop lo) := by
    rw [dcs_take hl hi h2, dcs_drop (hl.take hi) lo (by rw [List.length_take]; omega)]
  rw [e] at h3
  obtain ⟨A, c, rfl, h7, h8⟩ := h3.shape
  exact ⟨A, c, h3, h7, h8, h4, h5, h6⟩
theorem rd_dto (hR : Rd w v l.length 32 (dcs l)) (hl : AllD l) (k : Nat) (h2 : k ≤ l.length) : ∃ A c, Rd w (.slice A k c) k 32 (dcs (l.take k)) ∧ k ≤ c ∧ c ≤ 9223372036854775807 ∧
    ∀ W kh, (Instr.sliceAt 28 v none (some (.int kh (k : Int))) none).run Tryd.prog W = .ok (.slice A k c) W := by
  obtain ⟨A, c, h3, h4, h5, _, h6, _⟩ := rd_dsub hR hl 0 k (Nat.zero_le _) h2
  rw [Nat.sub_zero, List.drop_zero] at h3
  rw [Nat.sub_zero] at h4 h6
  exact ⟨A, c, h3, h4, h5, h6 rfl⟩
theorem rd_dfrom (hR : Rd w v l.length 32 (dcs l)) (hl : AllD l) (k : Nat) (h2 : k ≤ l.length) : ∃ A c, Rd w (.slice A (l.length - k) c) (l.length - k) 32 (dcs (l.drop k)) ∧ l.length - k ≤ c ∧ c ≤ 9223372036854775807 ∧
    ∀ W kl, (Instr.sliceAt 28 v (some (.int kl (k : Int))) none none).run Tryd.prog W = .ok (.slice A (l.length - k) c) W := by
  obtain ⟨A, c, h3, h4, h5, _, _, h6⟩ := rd_dsub hR hl k l.length h2 (Nat.le_refl _)
  rw [List.take_length] at h3
  exact ⟨A, c, h3, h4, h5, h6 rfl⟩
/-- One digest of a list is loaded. -/
theorem load_dg {b o n c : Nat} (hR : Rd w (.slice (some ⟨b, o, none⟩) n c) n 32 (dcs l)) (hn : n = l.length) (hl : AllD l) (k : Nat) (hk : k < l.length) (d : List UInt8) (hd : l.getD k [] = d) :
    (Instr.loadAt 24 (.pointer (some ⟨b, o + k * 32, none⟩))).run Tryd.prog w = .ok (.agg (bv d)) w := by
  have hdl : d.length = 32 := by
    rw [← hd]
    refine hl _ ?_
    simp only [List.getD, List.getElem?_eq_getElem hk, Option.getD_some]
    exact List.getElem_mem hk
  refine load_cells (bv d) (fun j u hu => ?_) 24 Tryd.underlying24 rfl (dgS hdl)
  have hj : j < 32 := by have := (Array.getElem?_eq_some_iff.1 hu).1; rw [bv_size, hdl] at this; exact this
  have := rd_cell hR (by omega) (k * 32 + j) (v := u) (by
    rw [dcs_at hl k hk j hj, hd]
    rw [← bv_toList]
    simpa using hu)
  rwa [← Nat.add_assoc] at this
theorem rd_some {A : Option Addr} {n c size : Nat} {cs : List Value} (hR : Rd w (.slice A n c) n size cs) (h0 : 0 < n) : ∃ b o, A = some ⟨b, o, none⟩ := by
  obtain ⟨_, A', c', he, _, _, _, h⟩ := hR
  obtain ⟨b, o, h1, _⟩ := h h0
  injection he with he _ _
  exact ⟨b, o, he.trans h1⟩
theorem dg_len (hl : AllD l) (k : Nat) (hk : k < l.length) : (l.getD k []).length = 32 := by
  refine hl _ ?_
  simp only [List.getD, List.getElem?_eq_getElem hk, Option.getD_some]
  exact List.getElem_mem hk
end
theorem root_length : ∀ (l : List (List UInt8)), AllD l → (root nodeD (sha []) l).length = 32 := by
  intro l hl
  rcases Nat.lt_or_ge l.length 2 with h | h
  · match l, h with
    | [], _ => rw [root_nil]; exact sha_length _
    | [d], _ => rw [root_one]; exact hl d (by simp)
  · rw [root_split _ _ h]; exact nodeD_length _ _
end Go.Proofs.YtbjbdnlgoifamaaDoor
