import Derived.Test.YtlhebogbbkjahaaDoorSe
namespace Go.Proofs.YtlhebogbbkjahaaDoor
open Go.RowKit Cop
set_option linter.unusedVariables false
set_option linter.unusedSimpArgs false
/-- SHA-256. -/
def sha (l : List UInt8) : List UInt8 := endOf hbegin l.length l
theorem sha_length (l : List UInt8) : (sha l).length = 32 := by rw [sha, endOf, wb_length]; rfl
set_option maxRecDepth 100000 in
set_option maxHeartbeats 4000000 in
theorem sum_b (l : List UInt8) (v : Value) (w : World) (hR : Rd w v l.length 1 (bl l)) (hl : l.length ≤ 140737488355000) :
    Calls Tryd.prog 67 #[v] w fun e w' => e = .returned (.agg (bv (sha l))) ∧ Below w.heap.size w w' := by
  obtain ⟨A, c, rfl, hc, hcm⟩ := hR.shape
  have HE := Lib.hid (fun (w : World) (hR : Rd w (.slice A l.length c) l.length 1 (bl l)) => end_b hbegin l.length l (.slice A l.length c) w hR (by omega) hl)
  have hs := sha_length l
  rw [show endOf hbegin l.length l = sha l from rfl] at HE
  have hsz : (bv (sha l)).size = 32 := by rw [bv_size, hs]
  have hz : (bv (List.replicate 32 0)).size = 32 := by rw [bv_size]; rfl
  have h1 := bv_one (sha l)
  obtain ⟨vD, hv⟩ : ∃ x, bv (sha l) = x := ⟨_, rfl⟩
  rw [hv] at HE hsz h1 ⊢
  obtain ⟨hb, hhb⟩ : ∃ x, hbegin = x := ⟨_, rfl⟩
  have HB := Lib.hid (fun w => begin_b w)
  rw [hhb] at HE HB
  have HS := Lib.hid (show (Tryd.prog.info? 32).map (·.size) = some vD.size by rw [hsz]; exact info_d32)
  have HZ := Lib.hid (show (bv (List.replicate 32 0)).size = vD.size by rw [hz, hsz])
  have HR := Lib.hid hR
  have H1 := Lib.hid h1
  clear hs hsz hz h1 hv hhb hR
  go_enter Tryd.func67, Tryd.ntmps67
  go_wp2_with fail
  first | refine Cop.wl_world fun w1 hw1 => ?_ | refine Cop.calls_world fun w1 hw1 => ?_ | refine Cop.exit_world fun w1 hw1 => ?_ | refine Cop.code_world fun w1 hw1 => ?_
  have r2 : w1.heap[w.heap.size]? = some (.cells (bv (List.replicate 32 0)) 32 (0, 0)) := by rw [← hw1]; exact at_new _ _ _ rfl
  have b1 : Below w.heap.size w w1 := by rw [← hw1]; exact (Below.refl _ _).alloc (Nat.le_refl _) _
  clear hw1
  refine (HB.out _).mono ?_
  rintro e w2 ⟨rfl, a2⟩
  have b2 := b1.trans (a2.mono b1.size)
  have r2 := kept_row a2 r2
  go_wp2_with fail
  refine (HE.out _ (HR.out.below b2)).mono ?_
  rintro e w3 ⟨rfl, a3⟩
  have b3 := b2.trans (a3.mono b2.size)
  have r2 := kept_row a3 r2
  have R2 := Lib.hid r2
  clear r2
  go_wp2_with (refine wl_store_row rfl 32 _ _ rfl w.heap.size rfl 32 (bv (List.replicate 32 0)) vD rfl R2.out HS.out HZ.out H1.out ?_)
  exact ret_row rfl rfl w.heap.size rfl 32 vD (0, 0) _ (setRow_heap _ _ _ _ _ _ R2.out) Tryd.underlying32 rfl HS.out ⟨rfl, below_setRow b3 (Nat.le_refl _) _⟩
end Go.Proofs.YtlhebogbbkjahaaDoor
