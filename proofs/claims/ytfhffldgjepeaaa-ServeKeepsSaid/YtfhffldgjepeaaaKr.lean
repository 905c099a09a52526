/- What a list of tiles tells. -/
import Derived.Test.YtfhffldgjepeaaaKq
import Derived.Test.YtfhffldgjepeaaaOl
namespace Go.Proofs.Ytfhffldgjepeaaa
open Go.RowKit Cop
set_option linter.unusedVariables false
set_option linter.unusedSimpArgs false
theorem tfind_drop (l : List Tl) (k : Nat) (y : Tl) (hy : l[k]? = some y) (L I : Int) : tfind (l.drop k) L I = if y.1 = L ∧ y.2.1 = I then some y else tfind (l.drop (k + 1)) L I := by
  obtain ⟨h1, rfl⟩ := List.getElem?_eq_some_iff.1 hy
  rw [List.drop_eq_getElem_cons h1]
  rfl
set_option maxRecDepth 100000 in
set_option maxHeartbeats 4000000 in
theorem tell_a (l : List Tl) (v : Value) (h L I W : Int) (w : World) (hR : Rd w v l.length 3 (l.flatMap tcell)) :
    Calls Try.prog 6 #[v, .agg (tlv h L I W)] w fun e w' => e = .returned (.tuple #[(told (tfind l L I)).1, .bool (told (tfind l L I)).2]) ∧ Below w.heap.size w w' := by
  have HS0 := (Sep.start w).arg0 hR
  have HAC := Lib.hid (fun k x (hx : l[k]? = some x) => And.intro (flat_at tcell 3 (fun _ => rfl) l k x hx 0 (by decide)) (And.intro (flat_at tcell 3 (fun _ => rfl) l k x hx 1 (by decide)) (flat_at tcell 3 (fun _ => rfl) l k x hx 2 (by decide))))
  have HD := Lib.hid (fun k y (hy : l[k]? = some y) => tfind_drop l k y hy L I)
  obtain ⟨F, hF⟩ : ∃ F : Nat → Option Tl, ∀ k, tfind (l.drop k) L I = F k := ⟨_, fun _ => rfl⟩
  have hF0 : tfind l L I = F 0 := by rw [← hF 0, List.drop_zero]
  have hFn : F l.length = none := by rw [← hF, List.drop_length]; rfl
  rw [hF0]
  have HFN := Lib.hid hFn
  have HFD := Lib.hid (fun k y (hy : l[k]? = some y) => (show F k = if y.1 = L ∧ y.2.1 = I then some y else F (k + 1) by rw [← hF, ← hF]; exact HD.out k y hy))
  obtain ⟨A, c, rfl, _, _⟩ := hR.shape
  clear hR hF hF0 hFn HD
  generalize l.flatMap tcell = LC at *
  go_enter Try.func6, Try.ntmps6
  go_wp2_with (first | refine wl_bx HS0 rfl 26 _ rfl (tlv h L I W) rfl ?_)
  intro g1 w1 HS1
  clear HS0
  go_wp2
  go_loopw [6] (fun s6 wr => ∃ k : Nat, k ≤ l.length ∧ s6 = .int .i64 (k : Int) ∧ F k = F 0 ∧ Sep w.heap.size w wr (.row g1 (tlv h L I W) 26 :: .rd (.slice A l.length c) l.length 3 LC :: [])) (fun s6 _ => l.length - (intOf s6).toNat)
  case atStart => exact ⟨0, by omega, rfl, rfl, HS1⟩
  case round =>
    clear HS1
    obtain ⟨k, hk, rfl, hFk, HSi⟩ := hrel
    by_cases hlt : k < l.length
    · have hlti : (k : Int) < (l.length : Int) := by omega
      have hlen0 : 0 < l.length := by omega
      obtain ⟨⟨y1, y2, vb, bs⟩, hx⟩ : ∃ x, l[k]? = some x := ⟨l[k], by simp [hlt]⟩
      obtain ⟨hx0, hx1, hx2⟩ := HAC.out k _ hx
      have hx0 : LC[k * 3]? = some (.int .i64 y1) := hx0
      have hx1 : LC[k * 3 + 1]? = some (.int .i64 y2) := hx1
      have hx2 : LC[k * 3 + 2]? = some vb := hx2
      have hFy := HFD.out k _ hx
      simp only at hFy
      obtain ⟨A', c', he, _, _, _, hc⟩ := (HSi.rd 1 rfl).2
      injection he with e1 _ e3
      subst e1 e3
      obtain ⟨b0, o0, rfl, _⟩ := hc hlen0
      clear hc
      have HX0 := Lib.hid hx0
      have HX1 := Lib.hid hx1
      have HX2 := Lib.hid hx2
      clear hx0 hx1 hx2 hx
      have HFy := Lib.hid hFy
      clear hFy
      go_wp2
      by_cases m0 : y1 = L
      · have f0 : (y1 == L) = true := by rw [beq_iff_eq]; exact m0
        by_cases m1 : y2 = I
        · have f1 : (y2 == I) = true := by rw [beq_iff_eq]; exact m1
          have HRES := Lib.hid (show F 0 = some (y1, y2, vb, bs) by rw [← hFk, HFy.out, if_pos ⟨m0, m1⟩])
          clear m0 m1
          refine Cop.region_ord (fun w' => Sep w.heap.size w w' (.row g1 (tlv h L I W) 26 :: .rd (.slice (some ⟨b0, o0, none⟩) l.length c) l.length 3 LC :: [])) 17 (.take 0 (.take 1 (.take 2 (.take 3 (.take 4 (.take 5 (.take 6 (.take 7 (.take 8 (.take 9 (.take 10 (.take 11 (.take 12 (.take 13 (.take 14 (.take 15 (.take 16 (.take 17 Cop.Ord.fin)))))))))))))))))) (by kernel_rfl) (by kernel_rfl) (fun _ _ d _ _ h => by cases d <;> exact h) ?_
          intro wa hda
          have HSb := HSi.keep hda
          clear HSi
          (repeat (first | (refine Cop.og_skip rfl rfl HSb _ (by (simp only [Act.put, List.setIfInBounds_toArray, List.set_cons_succ, List.set_cons_zero]; rfl)) ?_) | (refine Cop.og_take rfl rfl HSb ?_; apply Exists.intro; refine ⟨fun w9 h9 => ?_, _, by (simp only [Act.put, List.setIfInBounds_toArray, List.set_cons_succ, List.set_cons_zero]; rfl), ?_⟩; (have e0 := rd_get (h9.rd 1 rfl) hlen0 _ _ HX0.out; have e1 := rd_get (h9.rd 1 rfl) hlen0 _ _ HX1.out; obtain ⟨a0, a1, a2, a3⟩ := row4 (h9.row 0 rfl); rw [← Nat.add_assoc] at e1; go_simp; with_reducible rfl))))
          refine og_fin ?_
          have e2 := rd_get (HSb.rd 1 rfl) hlen0 _ _ HX2.out
          rw [← Nat.add_assoc] at e2
          go_wp2
          go_ret2
          exact ⟨by rw [HRES.out]; rfl, HSb.hb⟩
        · have f1 : (y2 == I) = false := by rw [beq_eq_false_iff_ne]; exact m1
          have HN := Lib.hid (show F (k + 1) = F 0 by rw [← hFk, HFy.out, if_neg (fun h => m1 h.2)])
          clear m0 m1
          refine Cop.region_ord (fun w' => Sep w.heap.size w w' (.row g1 (tlv h L I W) 26 :: .rd (.slice (some ⟨b0, o0, none⟩) l.length c) l.length 3 LC :: [])) 17 (.take 0 (.take 1 (.take 2 (.take 3 (.take 4 (.take 5 (.take 6 (.take 7 (.take 8 (.take 9 (.take 10 (.take 11 (.take 12 (.take 13 (.take 14 (.take 15 (.take 16 (.take 17 Cop.Ord.fin)))))))))))))))))) (by kernel_rfl) (by kernel_rfl) (fun _ _ d _ _ h => by cases d <;> exact h) ?_
          intro wa hda
          have HSb := HSi.keep hda
          clear HSi
          (repeat (first | (refine Cop.og_skip rfl rfl HSb _ (by (simp only [Act.put, List.setIfInBounds_toArray, List.set_cons_succ, List.set_cons_zero]; rfl)) ?_) | (refine Cop.og_take rfl rfl HSb ?_; apply Exists.intro; refine ⟨fun w9 h9 => ?_, _, by (simp only [Act.put, List.setIfInBounds_toArray, List.set_cons_succ, List.set_cons_zero]; rfl), ?_⟩; (have e0 := rd_get (h9.rd 1 rfl) hlen0 _ _ HX0.out; have e1 := rd_get (h9.rd 1 rfl) hlen0 _ _ HX1.out; obtain ⟨a0, a1, a2, a3⟩ := row4 (h9.row 0 rfl); rw [← Nat.add_assoc] at e1; go_simp; with_reducible rfl))))
          refine og_fin ?_
          go_wp2
          go_roundw
          case rel => exact ⟨k + 1, by omega, by go_num, HN.out, HSb⟩
          case measure => simp [intOf]; omega
      · have f0 : (y1 == L) = false := by rw [beq_eq_false_iff_ne]; exact m0
        have HN := Lib.hid (show F (k + 1) = F 0 by rw [← hFk, HFy.out, if_neg (fun h => m0 h.1)])
        clear m0
        refine Cop.region_ord (fun w' => Sep w.heap.size w w' (.row g1 (tlv h L I W) 26 :: .rd (.slice (some ⟨b0, o0, none⟩) l.length c) l.length 3 LC :: [])) 17 (.take 0 (.take 1 (.take 2 (.take 3 (.take 4 (.take 5 (.take 6 (.take 7 (.take 8 (.take 9 (.take 10 (.take 11 (.take 12 (.take 13 (.take 14 (.take 15 (.take 16 (.take 17 Cop.Ord.fin)))))))))))))))))) (by kernel_rfl) (by kernel_rfl) (fun _ _ d _ _ h => by cases d <;> exact h) ?_
        intro wa hda
        have HSb := HSi.keep hda
        clear HSi
        (repeat (first | (refine Cop.og_skip rfl rfl HSb _ (by (simp only [Act.put, List.setIfInBounds_toArray, List.set_cons_succ, List.set_cons_zero]; rfl)) ?_) | (refine Cop.og_take rfl rfl HSb ?_; apply Exists.intro; refine ⟨fun w9 h9 => ?_, _, by (simp only [Act.put, List.setIfInBounds_toArray, List.set_cons_succ, List.set_cons_zero]; rfl), ?_⟩; (have e0 := rd_get (h9.rd 1 rfl) hlen0 _ _ HX0.out; have e1 := rd_get (h9.rd 1 rfl) hlen0 _ _ HX1.out; obtain ⟨a0, a1, a2, a3⟩ := row4 (h9.row 0 rfl); rw [← Nat.add_assoc] at e1; go_simp; with_reducible rfl))))
        refine og_fin ?_
        go_wp2
        go_roundw
        case rel => exact ⟨k + 1, by omega, by go_num, HN.out, HSb⟩
        case measure => simp [intOf]; omega
    · have hge : ¬ (k : Int) < (l.length : Int) := by omega
      have hkl : k = l.length := by omega
      have HRES := Lib.hid (show F 0 = none by rw [← hFk, hkl, HFN.out])
      clear hkl
      go_wp2
      go_ret2
      exact ⟨by rw [HRES.out]; rfl, HSi.hb⟩
end Go.Proofs.Ytfhffldgjepeaaa
