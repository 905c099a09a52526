/- What the laws on states that grow share: both states written to, what was saved is loaded. -/
import Derived.Test.YtepcjdifjjombaaDoorPw
import Derived.Test.YtepcjdifjjombaaDoorBk
namespace Go.Proofs.YtepcjdifjjombaaDoor
open Go.RowKit Cop
set_option linter.unusedVariables false
set_option linter.unusedSimpArgs false
/-- Some bytes are written to both: where there is room. -/
theorem write_fine {B : Nat} {w0 : World} (hTB : TabB B w0) {h : H8} {n : Nat} {r : List UInt8} (s : Sound h n r) (l : List UInt8) (hb : n + l.length ≤ 140737488351232) :
    ∃ h2 t, WBoth B w0 h n r l h2 (n + l.length) t 0 ∧ Sound h2 (n + l.length) t := by
  have hr := s.hr
  have hs := s.write l (by omega)
  refine ⟨over h (r ++ l), tl (r ++ l), ⟨hs.hn, tl_length _, fun g v vb w R HS => ?_, fun vr vb w R i j hi hj HS => ?_⟩, hs⟩
  · exact write_a B w0 g n v vb h r l R w hTB (by omega) (by omega) (by omega) HS
  · obtain ⟨A, c, rfl, _⟩ := (HS.rd i hi).shape
    refine (rwrite_gen h (over h (r ++ l)) n A c r l (r ++ l) (tl (r ++ l)) ((r ++ l).take ((r ++ l).length / 64 * 64)) vb w (HS.rd i hi) (HS.rd j hj) (by omega) (by omega) (by omega) rfl rfl rfl (fun w' v hR => ?_)).mono ?_
    · have := over_b h _ v w' hR
      rw [over_take _ (r ++ l) rfl] at this
      exact this
    · rintro e w' ⟨v', rfl, hb, hR, hk⟩
      exact ⟨v', rfl, HS.fresh hb hR hk⟩
/-- What was saved is loaded. -/
theorem load_saved {B : Nat} {w0 w : World} {R : List Pc} {h : H8} {n : Nat} {r : List UInt8} (s : Sound h n r) (v : Value) (i : Nat) (hi : R[i]? = some (.rd v (savD h n r).length 1 (bl (savD h n r)))) (HS : Sep B w0 w R) :
    Calls Tryd.prog 32 #[v] w fun e w' => ∃ g v', e = .returned (.tuple #[.pointer (some ⟨g, 0, none⟩), .int .i64 0]) ∧ Sep B w0 w' (.row g (stv true h (n : Int) v') 50 :: .own v' 5 1 r.length (bl r) :: R) := by
  have hl := savD_length h n r
  have hr := s.hr
  have hk := s.lok
  have e1 := savD_lwd h n r
  have e2 := savD_lnum h n r (by have := s.hn; omega)
  have e3 := savD_drop h n r
  refine (load_a (savD h n r) v i hi HS (by omega) (by omega)).mono ?_
  rintro e w2 ⟨x, F, rfl, ⟨_, rfl, g, v', rfl, h⟩ | ⟨h, _⟩⟩
  · rw [e1, e2, e3] at h
    exact ⟨g, v', rfl, h⟩
  · exact absurd hk h
end Go.Proofs.YtepcjdifjjombaaDoor
