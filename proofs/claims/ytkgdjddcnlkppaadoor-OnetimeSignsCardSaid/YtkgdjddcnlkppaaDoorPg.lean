/- octet.PutDigest. -/
import Derived.Test.YtkgdjddcnlkppaaDoorBx
namespace Go.Proofs.YtkgdjddcnlkppaaDoor
open Go.RowKit Cop
set_option linter.unusedVariables false
set_option linter.unusedSimpArgs false
set_option maxHeartbeats 4000000 in
theorem putDigest_a (l d : List UInt8) (v : Value) (w : World) (hR : Rd w v l.length 1 (bl l)) (hd : d.length = 32) (hl : l.length ≤ 140737488354000) :
    Calls Tryd.prog 31 #[v, .agg (bv d)] w fun e w' => ∃ x, e = .returned x ∧ Below w.heap.size w w' ∧ Ow w' w.heap.size 5 1 x (l ++ d).length (bl (l ++ d)) := by
  have CB := Lib.hid (fun w hR => clone_bytes v l w hR (by omega))
  obtain ⟨A, c, rfl, hc, hcm⟩ := hR.shape
  have HDL := Lib.hid hd
  have HS0 := (Sep.start w).arg0 hR
  obtain ⟨T, hT⟩ : ∃ x, l ++ d = x := ⟨_, rfl⟩
  have HT := Lib.hid hT
  have HTL := Lib.hid (show l.length + 32 = T.length by rw [← hT, List.length_append, hd])
  rw [hT]
  clear hR hT
  go_enter Tryd.func31, Tryd.ntmps31
  go_wp2_with (first | refine wl_bx HS0 rfl 23 _ rfl (bv d) rfl ?_)
  intro g1 w1 HS1
  go_wp2
  have HA : True := trivial
  refine Cop.region_ord (fun w' => True) 4 (.take 0 (.take 2 (.run 1 (.run 3 (.take 4 Cop.Ord.fin))))) (by kernel_rfl) (by kernel_rfl) (fun _ _ d _ _ h => by cases d <;> exact h) ?_
  intro wa hda
  have HSa := (HS1.keep hda).rowRd 0 rfl 32 HDL.out (by decide)
  clear HS0 HS1
  (repeat (first | (refine Cop.og_skip rfl rfl HA _ (by (simp only [Act.put, List.setIfInBounds_toArray, List.set_cons_succ, List.set_cons_zero]; rfl)) ?_) | (refine Cop.og_take rfl rfl HA ?_; apply Exists.intro; refine ⟨fun w9 h9 => ?_, _, by (simp only [Act.put, List.setIfInBounds_toArray, List.set_cons_succ, List.set_cons_zero]; rfl), ?_⟩; (go_simp; with_reducible rfl))))
  refine Cop.og_run rfl rfl ?_
  refine ow_call_ex 40 _ (fun x w' => Below wa.heap.size wa w' ∧ Ow w' wa.heap.size 5 1 x l.length (bl l)) (by go_simp) (CB.out wa (HSa.rd 1 rfl)) ?_
  rintro x wb ⟨bb, ho⟩
  have HSb := HSa.made bb ho
  refine ⟨fun _ => HA, ?_⟩
  (repeat (first | (refine Cop.og_skip rfl rfl HA _ (by (simp only [Act.put, List.setIfInBounds_toArray, List.set_cons_succ, List.set_cons_zero]; rfl)) ?_) | (refine Cop.og_take rfl rfl HA ?_; apply Exists.intro; refine ⟨fun w9 h9 => ?_, _, by (simp only [Act.put, List.setIfInBounds_toArray, List.set_cons_succ, List.set_cons_zero]; rfl), ?_⟩; (go_simp; with_reducible rfl))))
  refine Cop.og_run rfl rfl ?_
  refine ow_apb HSb 0 rfl rfl (HSb.rd 1 rfl) rfl rfl T.length T HTL.out HT.out (by have := HTL.out; omega) ?_
  intro v5 wc HSc _
  refine ⟨fun _ => HA, ?_⟩
  (repeat (first | (refine Cop.og_skip rfl rfl HA _ (by (simp only [Act.put, List.setIfInBounds_toArray, List.set_cons_succ, List.set_cons_zero]; rfl)) ?_) | (refine Cop.og_take rfl rfl HA ?_; apply Exists.intro; refine ⟨fun w9 h9 => ?_, _, by (simp only [Act.put, List.setIfInBounds_toArray, List.set_cons_succ, List.set_cons_zero]; rfl), ?_⟩; (go_simp; with_reducible rfl))))
  refine og_fin ?_
  go_wp2
  go_ret
  exact ⟨_, rfl, HSc.hb, HSc.own 0 rfl⟩
end Go.Proofs.YtkgdjddcnlkppaaDoor
