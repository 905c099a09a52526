/- A source of tiles: NewKept, place, Put, Tile. -/
import Derived.Test.YtfhffldgjepeaaaTw
import Derived.Test.YtfhffldgjepeaaaMp
import Derived.Test.YtfhffldgjepeaaaCb
namespace Go.Proofs.Ytfhffldgjepeaaa
open Go.RowKit Cop
set_option linter.unusedVariables false
set_option linter.unusedSimpArgs false
def tlv (h L I W : Int) : Array Value := #[.int .i64 h, .int .i64 L, .int .i64 I, .int .i64 W]
theorem tl_info (h L I W : Int) : (Try.prog.info? 26).map (·.size) = some (tlv h L I W).size := by
  rw [show (tlv h L I W).size = 4 from rfl]; kernel_rfl
theorem tl_one (h L I W : Int) : (tlv h L I W).all (·.oneCell') = true := by simp [tlv, Value.oneCell']
section
variable {P : Program} {B : Nat} {w0 w : World} {R : List Pc} {o : Oper} {a : Act} {k e t : TypeId}
theorem wl_mm {ops : Array Oper} {rest : List Oper} {Q : Exit → Act → World → Prop} (HS : Sep B w0 w R) (hgd : o.guard = none) (t : TypeId) (hop : o.op = .makeMap t none)
    (h : ∀ b w1, Sep B w0 w1 (.mp b #[] 0 :: R) → wpList P ops Q rest (a.put o.dst (.map (some b))) w1) : wpList P ops Q (o :: rest) a w := by
  refine wpList_plain hgd fun K hK => ?_
  refine ow_val (.map (some w.heap.size)) (w.alloc (.map #[] 0)) ?_ (hK _ _ (h _ _ (HS.fresh ((Below.refl _ _).alloc (Nat.le_refl _) _) ⟨HS.hB, heap_alloc_new w _⟩ (fun k hk => by cases hk; exact Nat.le_refl _))))
  simp only [execOp, hop, Option.map_none, Sem.run_bind, run_makeMap, Result.andThen_ok, Sem.run_pure]
theorem ow_mu {K' : Act → World → Prop} {Q : Exit → Act → World → Prop} (HS : Sep B w0 w R) (i : Nat) {b : Nat} {es : Array MapEntry} {c : Nat} (hi : R[i]? = some (.mp b es c)) (K : Maps.Keyed P k) (hk : Keys P k es) (t : TypeId) (m x v : Operand) (hop : o.op = .mapUpdate t m x v) (ht : P.underlying t = some (.map k e))
    {key val : Value} (hm : a.eval m = .map (some b)) (hx : a.eval x = key) (hv : a.eval v = val) {kl : Lit} (hkey : keyOf P k key = some kl)
    (h : ∀ es' c', Keys P k es' → PutIn es es' key val → ∀ w2, Sep B w0 w2 (R.set i (.mp b es' c')) → K' (a.put o.dst undef) w2) : o.wp P a w K' Q := by
  obtain ⟨es', c', hrun, h1, h2⟩ := put_mp (w := w) K ht (HS.mpAt i hi) hk (val := val) hkey
  unfold Oper.wp
  simp only [execOp, hop, hm, hx, hv, Sem.run_bind, Sem.run_pure, Result.andThen_ok, hrun]
  exact h es' c' h1 h2 _ (HS.at_ i hi fun h => h.setMap0 es' c')
theorem look_hit (K : Maps.Keyed P k) (ht : P.underlying t = some (.map k e)) {z : Value} (hz : (zeroValue e).run P w = .ok z w) {b : Nat} {es : Array MapEntry} {c : Nat} (hb : w.heap[b]? = some (.map es c)) (hk : Keys P k es) {key : Value} {kl : Lit} (hkey : keyOf P k key = some kl) {x : MapEntry} (hx : x ∈ es.toList) (hxk : x.key = key) :
    (Instr.lookup t (.map (some b)) key true).run P w = .ok (.tuple #[x.val, .bool true]) w := by
  rcases look_mp K ht hz hb hk hkey with ⟨_, h⟩ | ⟨y, hy, hyk, hr⟩
  · exact absurd hxk (h x hx)
  · have : y = x := by
      obtain ⟨i, hi, rfl⟩ := List.getElem_of_mem hx
      obtain ⟨j, hj, rfl⟩ := List.getElem_of_mem hy
      rcases Nat.lt_trichotomy i j with h | h | h
      · exact absurd (hxk.trans hyk.symm) (List.pairwise_iff_getElem.1 hk.one i j hi hj h)
      · subst h; rfl
      · exact absurd (hyk.trans hxk.symm) (List.pairwise_iff_getElem.1 hk.one j i hj hi h)
    rw [← this]
    exact hr
theorem look_miss (K : Maps.Keyed P k) (ht : P.underlying t = some (.map k e)) {z : Value} (hz : (zeroValue e).run P w = .ok z w) {b : Nat} {es : Array MapEntry} {c : Nat} (hb : w.heap[b]? = some (.map es c)) (hk : Keys P k es) {key : Value} {kl : Lit} (hkey : keyOf P k key = some kl) (hno : ∀ x ∈ es.toList, x.key ≠ key) :
    (Instr.lookup t (.map (some b)) key true).run P w = .ok (.tuple #[z, .bool false]) w := by
  rcases look_mp K ht hz hb hk hkey with ⟨hr, _⟩ | ⟨y, hy, hyk, _⟩
  · exact hr
  · exact absurd hyk (hno y hy)
end
set_option maxRecDepth 100000 in
theorem tileLaid : laidOutB Try.prog = true := by kernel_rfl
set_option maxRecDepth 100000 in
theorem tileKeyed : Maps.Keyed Try.prog 26 := Maps.Keyed.of_law (deep_law_laid tileLaid (m := 2) (by decide) (of_decide_eq_true (by kernel_rfl)) (by kernel_rfl) (by kernel_rfl))
def inI (n : Int) : Prop := (Lit.int .i64 n).wf = true
theorem tileLits (h L I W : Int) (h0 : (Lit.int .i64 h).wf = true) (h1 : (Lit.int .i64 L).wf = true) (h2 : (Lit.int .i64 I).wf = true) (h3 : (Lit.int .i64 W).wf = true) (hc : Try.prog.cellsOf 26 = 4) (hci : Try.prog.cellsOf 3 = 1) (n : Nat) :
    Try.prog.keyLits (n + 1 + 1) 26 (tlv h L I W).toList = some [.int .i64 h, .int .i64 L, .int .i64 I, .int .i64 W] := by
  have hint : ∀ z : Int, (Lit.int .i64 z).wf = true → Try.prog.keyLits (n + 1) 3 [.int .i64 z] = some [.int .i64 z] := fun z hz => by
    unfold Program.keyLits
    simp only [Try.underlying3]
    rw [if_pos ⟨trivial, hz⟩]
  unfold Program.keyLits
  simp only [Try.underlying26]
  rw [if_pos ⟨by rw [hc]; rfl, by kernel_rfl⟩]
  simp only [List.mapM_cons, List.mapM_nil, hci, tlv, List.drop_zero, List.drop_succ_cons, List.take_succ_cons, List.take_zero, hint h h0, hint L h1, hint I h2, hint W h3]
  rfl
theorem tileKey (h L I W : Int) (h0 : inI h) (h1 : inI L) (h2 : inI I) (h3 : inI W) : ∃ l, keyOf Try.prog 26 (.agg (tlv h L I W)) = some l := by
  have hk : Try.prog.keyType 26 = true := by kernel_rfl
  have hc : Try.prog.cellsOf 26 = 4 := by kernel_rfl
  have hci : Try.prog.cellsOf 3 = 1 := by kernel_rfl
  obtain ⟨n, hn⟩ : ∃ n, Try.prog.types.size = n + 1 := ⟨Try.prog.types.size - 1, by kernel_rfl⟩
  have hf : Value.formed Try.prog 26 (.agg (tlv h L I W)) = true := by
    unfold Value.formed
    simp only [Try.underlying26, hc]
    rfl
  have key := tileLits h L I W h0 h1 h2 h3 hc hci n
  rw [← hn] at key
  refine ⟨.string (keyBytes [.int .i64 h, .int .i64 L, .int .i64 I, .int .i64 W]), ?_⟩
  unfold keyOf
  simp only [Try.underlying26, hk, hf, Bool.and_self, if_true]
  rw [show (Value.agg (tlv h L I W)).cells.toList = (tlv h L I W).toList from rfl, key]
  rfl
theorem place_a (h L I W : Int) (w : World) : Calls Try.prog 10 #[.agg (tlv h L I W)] w fun e w' => e = .returned (.agg (tlv h L I 0)) ∧ Below w.heap.size w w' := by
  have HS0 := Sep.start w
  go_enter Try.func10, Try.ntmps10
  go_wp2_with (first | refine wl_bx HS0 rfl 26 _ rfl (tlv h L I W) rfl ?_)
  intro g1 w1 HS1
  go_wp2_with (first | refine wl_al HS1 rfl 26 rfl (tlv 0 0 0 0) (by kernel_rfl) ?_)
  intro g2 w2 HS2
  go_wp2_with (first | refine wl_stc HS2 1 rfl rfl 3 _ _ rfl (by kernel_rfl) 3 (by (show 3 < 4); decide) rfl rfl rfl rfl ?_)
  intro w3 HS3
  have HS4 : Sep w.heap.size w w3 [.row g2 (tlv 0 0 0 0) 26, .row g1 (tlv h L I 0) 26] := HS3
  clear HS0 HS1 HS2 HS3
  go_wp2_with (first | refine wl_ld HS4 1 rfl rfl 26 _ rfl rfl Try.underlying26 rfl (tl_info _ _ _ _) ?_ | refine wl_st HS4 0 rfl rfl 26 _ _ rfl rfl (cs := tlv h L I 0) rfl (tl_info _ _ _ _) rfl (tl_one _ _ _ _) ?_)
  intro w5 HS5
  go_wp2
  exact ret_row rfl rfl g2 rfl 26 (tlv h L I 0) (0, 0) _ (HS5.row 0 rfl) Try.underlying26 rfl (tl_info _ _ _ _) ⟨rfl, HS5.hb⟩
theorem newKept_a {B : Nat} {w0 w : World} {R : List Pc} (HS : Sep B w0 w R) : Calls Try.prog 7 #[] w fun e w' => ∃ g b, e = .returned (.pointer (some ⟨g, 0, none⟩)) ∧ Sep B w0 w' (.row g #[.map (some b)] 43 :: .mp b #[] 0 :: R) := by
  go_enter Try.func7, Try.ntmps7
  go_wp2_with (first | refine wl_mm HS rfl 41 rfl ?_)
  intro b w1 HS1
  clear HS
  go_wp2_with (first | refine wl_bx HS1 rfl 43 _ rfl #[.map (some b)] rfl ?_)
  intro g w2 HS2
  go_wp2
  go_ret
  exact ⟨g, b, rfl, HS2⟩
end Go.Proofs.Ytfhffldgjepeaaa
