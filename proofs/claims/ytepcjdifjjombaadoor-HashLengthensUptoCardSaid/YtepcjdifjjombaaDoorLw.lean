/- A state and the document's, written to. -/
import Derived.Test.YtepcjdifjjombaaDoorLv
namespace Go.Proofs.YtepcjdifjjombaaDoor
open Go.RowKit Cop
set_option linter.unusedVariables false
set_option linter.unusedSimpArgs false
/-- Some bytes are written to both: what comes of it. -/
structure WBoth (B : Nat) (w0 : World) (h : H8) (n : Nat) (r l : List UInt8) (h2 : H8) (n2 : Nat) (t : List UInt8) (E : Int) : Prop where
  hn : n2 ≤ 2305843009213693951
  ht : t.length < 64
  a : ∀ (g : Nat) (v vb : Value) (w : World) (R : List Pc), Sep B w0 w (.row g (stv true h n v) 50 :: .own v 5 1 r.length (bl r) :: .rd vb l.length 1 (bl l) :: R) →
    Calls Tryd.prog 23 #[.pointer (some ⟨g, 0, none⟩), vb] w fun e w' => e = .returned (.int .i64 E) ∧ ∃ v3, Sep B w0 w' (.row g (stv true h2 (n2 : Int) v3) 50 :: .own v3 5 1 t.length (bl t) :: .rd vb l.length 1 (bl l) :: R)
  b : ∀ (vr vb : Value) (w : World) (R : List Pc) (i j : Nat), R[i]? = some (.rd vr r.length 1 (bl r)) → R[j]? = some (.rd vb l.length 1 (bl l)) → Sep B w0 w R →
    Calls Tryd.prog 36 #[.agg (rsv h (n : Int) vr), vb] w fun e w' => ∃ v', e = .returned (.tuple #[.agg (rsv h2 (n2 : Int) v'), .int .i64 E]) ∧ Sep B w0 w' (.rd v' t.length 1 (bl t) :: R)
theorem write_both {B : Nat} {w0 : World} (hTB : TabB B w0) (h : H8) (n : Nat) (r l : List UInt8) (hn : n ≤ 2305843009213693951) (hr : r.length < 64) (hl : l.length ≤ 140737488351232) :
    ∃ h2 n2 t E, WBoth B w0 h n r l h2 n2 t E := by
  by_cases hb : n + l.length ≤ 2305843009213693951
  · refine ⟨over h (r ++ l), n + l.length, tl (r ++ l), 0, hb, tl_length _, fun g v vb w R HS => ?_, fun vr vb w R i j hi hj HS => ?_⟩
    · exact write_a B w0 g n v vb h r l R w hTB hr (by omega) hb HS
    · obtain ⟨A, c, rfl, _⟩ := (HS.rd i hi).shape
      refine (rwrite_gen h (over h (r ++ l)) n A c r l (r ++ l) (tl (r ++ l)) ((r ++ l).take ((r ++ l).length / 64 * 64)) vb w (HS.rd i hi) (HS.rd j hj) hr hl hb rfl rfl rfl (fun w' v hR => ?_)).mono ?_
      · have := over_b h _ v w' hR
        rw [over_take _ (r ++ l) rfl] at this
        exact this
      · rintro e w' ⟨v', rfl, hb, hR, hk⟩
        exact ⟨v', rfl, HS.fresh hb hR hk⟩
  · refine ⟨h, n, r, 3, hn, hr, fun g v vb w R HS => ?_, fun vr vb w R i j hi hj HS => ?_⟩
    · refine (write_big B w0 g n v vb h l _ w (by omega) hn (by omega) 0 2 rfl rfl HS).mono ?_
      rintro e w' ⟨rfl, rfl⟩
      exact ⟨rfl, v, HS⟩
    · obtain ⟨A, c, rfl, _⟩ := (HS.rd i hi).shape
      refine (rwrite_big h n A r.length c l vb w (HS.rd j hj) (by omega) hn (by omega)).mono ?_
      rintro e w' ⟨rfl, hb⟩
      exact ⟨_, rfl, (HS.keep hb).dup i hi⟩
end Go.Proofs.YtepcjdifjjombaaDoor
