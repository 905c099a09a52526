import Derived.Test.YtlhebogbbkjahaaDoorSh
import Derived.Test.YtlhebogbbkjahaaDoorSs
namespace Go.Proofs.YtlhebogbbkjahaaDoor
open Go.RowKit Cop
set_option linter.unusedVariables false
set_option linter.unusedSimpArgs false
/-- What is behind the whole blocks. -/
def tl (l : List UInt8) : List UInt8 := l.drop (l.length / 64 * 64)
theorem tl_small (l : List UInt8) (h : l.length < 64) : tl l = l := by rw [tl, Nat.div_eq_of_lt h]; simp
theorem tl_more (l : List UInt8) (h : 64 ≤ l.length) : tl l = tl (l.drop 64) := by
  rw [tl, tl, List.drop_drop, List.length_drop]
  congr 1
  have : l.length / 64 = (l.length - 64) / 64 + 1 := by omega
  omega
theorem tl_length (l : List UInt8) : (tl l).length < 64 := by rw [tl, List.length_drop]; omega
theorem info_sl : (Tryd.prog.info? 65).map (·.size) = some 1 := by kernel_rfl
theorem stv_h (m : Bool) (h : H8) (n : Int) (v : Value) (j : Nat) (hj : j < (hv h).size) : (stv m h n v)[1 + j]? = (hv h)[j]? := by
  have : j < 8 := hj
  rcases j with _ | _ | _ | _ | _ | _ | _ | _ | j
  all_goals (first | rfl | omega)
theorem info_u8' : (Tryd.prog.info? 5).map (·.size) = some 1 := by kernel_rfl
def StA (B : Nat) (w0 : World) (g : Nat) (m : Bool) (n : Int) (vb : Value) (l : List UInt8) (R : List Pc) (h : H8) (r : List UInt8) (w : World) : Prop :=
  ∃ v, Sep B w0 w (.row g (stv m h n v) 166 :: .own v 5 1 r.length (bl r) :: .rd vb l.length 1 (bl l) :: R)
def TkRel (over : H8 → List UInt8 → H8) (B : Nat) (w0 : World) (g : Nat) (m : Bool) (n : Int) (vb : Value) (l : List UInt8) (R : List Pc) (H : H8) (T : List UInt8) (s1 : Value) (w : World) : Prop :=
  ∃ (A : Option Addr) (c : Nat) (l' r' : List UInt8) (h' : H8) (A' : Option Addr) (c' : Nat), s1 = .slice A l'.length c ∧ l'.length ≤ 1000000000000000000 ∧ r'.length < 64 ∧ (r' = [] ∨ l'.length < 64 ∧ l' = []) ∧ over h' (r' ++ l') = H ∧ tl (r' ++ l') = T ∧
    Sep B w0 w (.rd s1 l'.length 1 (bl l') :: .row g (stv m h' n (.slice A' r'.length c')) 166 :: .own (.slice A' r'.length c') 5 1 r'.length (bl r') :: .rd vb l.length 1 (bl l) :: R)
set_option maxRecDepth 100000 in
set_option maxHeartbeats 4000000 in
theorem take_gen (over compress : H8 → List UInt8 → H8) (over_small : ∀ s l, l.length < 64 → over s l = s) (over_more : ∀ (s : H8) (l : List UInt8), 64 ≤ l.length → over s l = over (compress s (l.take 64)) (l.drop 64))
    (TB : World → Prop) (compress_a : ∀ (h : H8) (b : List UInt8) (w : World), b.length = 64 → TB w → Calls Tryd.prog 97 #[.agg (hv h), .agg (bv b)] w fun e w' => e = .returned (.agg (hv (compress h b))) ∧ Below w.heap.size w w')
    (B : Nat) (w0 : World) (g : Nat) (m : Bool) (n : Int) (v vb : Value) (h : H8) (r l : List UInt8) (R : List Pc) (w : World) (hTB : ∀ w, Below B w0 w → TB w) (hr : r.length < 64) (hl : l.length ≤ 1000000000000000000)
    (HS : Sep B w0 w (.row g (stv m h n v) 166 :: .own v 5 1 r.length (bl r) :: .rd vb l.length 1 (bl l) :: R)) :
    Calls Tryd.prog 88 #[.pointer (some ⟨g, 0, none⟩), vb] w fun e w' => e = .returned (.tuple #[]) ∧ StA B w0 g m n vb l R (over h (r ++ l)) (tl (r ++ l)) w' := by
  obtain ⟨HH, hHH⟩ : ∃ x, over h (r ++ l) = x := ⟨_, rfl⟩
  obtain ⟨TT, hTT⟩ : ∃ x, tl (r ++ l) = x := ⟨_, rfl⟩
  rw [hHH, hTT]
  have HHH := Lib.hid hHH
  have HTT := Lib.hid hTT
  have OS := Lib.hid over_small
  have OM := Lib.hid over_more
  have CA := Lib.hid compress_a
  have HTB := Lib.hid hTB
  clear hHH hTT over_small over_more compress_a hTB
  obtain ⟨A, c, rfl, hc⟩ := (HS.own 1 rfl).sl
  obtain ⟨Ab, cb, rfl, hcb, hcb2⟩ := (HS.rd 2 rfl).shape
  have c10 := row_cell (HS.row 0 rfl) 10
  rw [show (stv m h n (.slice A r.length c))[10]? = some (.slice A r.length c) from rfl] at c10
  have f10 := row_thaw (HS.row 0 rfl) 10
  have hlenr : r.length < 9223372036854775807 := by omega
  by_cases hr0 : r.length = 0
  · have hr00 : ¬ (0 : Int) < (r.length : Int) := by omega
    have hr7 := hr
    have HD := Lib.hid (show r = [] ∨ l.length < 64 ∧ l = [] from .inl (List.eq_nil_of_length_eq_zero hr0))
    have HSQ := HS.part 2 rfl (HS.rd 2 rfl) (fun _ h => h)
    have HO := HHH
    have HT := HTT
    have hl4 := hl
    go_enter Tryd.func88, Tryd.ntmps88
    go_wp2
    go_loopw [1] (fun s1 wr => TkRel over B w0 g m n (.slice Ab l.length cb) l R HH TT s1 wr) (fun s1 _ => match s1 with | .slice _ n _ => n | _ => 0)
    case atStart => exact ⟨_, _, _, _, _, _, _, rfl, hl4, hr7, (by first | exact Or.inl rfl | exact HD.out), HO.out, HT.out, HSQ⟩
    case round =>
      clear HSQ
      obtain ⟨A8, c8, l8, r8, h8, A9, c9, rfl, hl8, hr8, hD8, hO8, hT8, HS8⟩ := hrel
      have HO8 := Lib.hid hO8
      have HT8 := Lib.hid hT8
      clear hO8 hT8
      by_cases hge : 64 ≤ l8.length
      · have hr80 : r8 = [] := by rcases hD8 with h | ⟨h, _⟩ <;> first | exact h | omega
        subst hr80
        have hge' : (64 : Int) ≤ (l8.length : Int) := by omega
        obtain ⟨b8, o8, rfl⟩ : ∃ b o, A8 = some ⟨b, o, none⟩ := by
          obtain ⟨_, A', c', he, _, _, _, hcell⟩ := HS8.rd 0 rfl
          obtain ⟨b, o, rfl, _⟩ := hcell (by omega)
          injection he with he1
          exact ⟨b, o, he1⟩
        have H64 := Lib.hid (show (l8.take 64).length = 64 by rw [List.length_take]; omega)
        have HO9 := Lib.hid (show over (compress h8 (l8.take 64)) ([] ++ l8.drop 64) = HH by rw [← HO8.out, List.nil_append, List.nil_append, OM.out h8 l8 hge])
        have HT9 := Lib.hid (show tl ([] ++ l8.drop 64) = TT by rw [← HT8.out, List.nil_append, List.nil_append, tl_more l8 hge])
        have hm9 : (l8.drop 64).length < l8.length := by rw [List.length_drop]; omega
        have hl9 : (l8.drop 64).length ≤ 1000000000000000000 := by omega
        go_wp2
        refine Cop.region_ord (fun w' => Sep B w0 w' [.rd (.slice (some ⟨b8, o8, none⟩) l8.length c8) l8.length 1 (bl l8), .row g (stv m h8 n (.slice A9 ([] : List UInt8).length c9)) 166]) 11 (.take 0 (.take 1 (.take 2 (.take 3 (.take 4 (.take 5 (.take 6 (.take 7 (.run 8 (.take 9 (.take 10 (.run 11 Cop.Ord.fin)))))))))))) (by kernel_rfl) (by kernel_rfl) (fun _ _ d _ _ h => by cases d <;> exact h) ?_
        intro wa hda
        have HSa := HS8.keep hda
        have HTa : Sep B w0 wa [.rd (.slice (some ⟨b8, o8, none⟩) l8.length c8) l8.length 1 (bl l8), .row g (stv m h8 n (.slice A9 ([] : List UInt8).length c9)) 166] := HSa.sub (by repeat (first | exact List.nil_sublist _ | exact List.Sublist.refl _ | apply List.Sublist.cons_cons | apply List.Sublist.cons))
        (repeat (first | (refine Cop.og_skip rfl rfl HTa _ (by (simp only [Act.put, List.setIfInBounds_toArray, List.set_cons_succ, List.set_cons_zero]; rfl)) ?_) | (refine Cop.og_ld rfl rfl HTa 157 _ rfl (.pointer (some ⟨g, 1, none⟩)) rfl _ (fun w9 h9 => load_mid (h9.row 1 rfl) 1 (hv h8) (stv_h m h8 n _) 157 Tryd.underlying157 rfl info_h8) _ (by (simp only [Act.put, List.setIfInBounds_toArray, List.set_cons_succ, List.set_cons_zero]; rfl)) ?_) | (refine Cop.og_ld rfl rfl HTa 175 _ rfl (.pointer (some ⟨b8, o8, none⟩)) rfl _ (fun w9 h9 => load_rd (h9.rd 0 rfl) rfl 64 hge (by omega) (bv (l8.take 64)) (by rw [bv_toList, bl_take]) 175 Tryd.underlying175 rfl (by rw [bv_size, H64.out]; exact info_b64)) _ (by (simp only [Act.put, List.setIfInBounds_toArray, List.set_cons_succ, List.set_cons_zero]; rfl)) ?_) | (refine Cop.og_take rfl rfl HTa ?_; apply Exists.intro; refine ⟨fun w9 h9 => ?_, _, by (simp only [Act.put, List.setIfInBounds_toArray, List.set_cons_succ, List.set_cons_zero]; rfl), ?_⟩; (have e := run_arrayAt (P := Tryd.prog) w9 175 5 64 (some ⟨b8, o8, none⟩) l8.length c8 Tryd.underlying175 hge; go_simp; with_reducible rfl))))
        refine Cop.og_run rfl rfl ?_
        refine ow_call 97 _ _ (fun w' => Below wa.heap.size wa w') (by go_simp) (CA.out h8 (l8.take 64) wa H64.out (HTB.out _ HSa.hb)) ?_
        intro wb bb
        have HSb := HSa.keep bb
        have HTb := HTa.keep bb
        refine ⟨fun _ => HTb, ?_⟩
        (repeat (first | (refine Cop.og_skip rfl rfl HTb _ (by (simp only [Act.put, List.setIfInBounds_toArray, List.set_cons_succ, List.set_cons_zero]; rfl)) ?_) | (refine Cop.og_take rfl rfl HTb ?_; apply Exists.intro; refine ⟨fun w9 h9 => ?_, _, by (simp only [Act.put, List.setIfInBounds_toArray, List.set_cons_succ, List.set_cons_zero]; rfl), ?_⟩; (go_simp; with_reducible rfl))))
        refine Cop.og_run rfl rfl ?_
        refine ow_stm HSb 1 rfl 157 _ _ rfl 1 (cs := hv (compress h8 (l8.take 64))) info_h8 (by (show 1 + 8 ≤ 11); decide) rfl rfl (hv_one _) (stv m (compress h8 (l8.take 64)) n (.slice A9 ([] : List UInt8).length c9)) rfl ?_
        intro wc HSc
        refine ⟨fun h => absurd rfl h, ?_⟩
        obtain ⟨Ay, cy, hcy, hmy, HRy, hby, hsy⟩ := rd_from (HSc.rd 0 rfl) Tryd.underlying65 info_u8' 64 hge
        have HSd := HSc.part 0 rfl HRy hby
        have hsy2 : ∀ W kk, (Instr.sliceAt 65 (.slice (some ⟨b8, o8, none⟩) l8.length c8) (some (.int kk 64)) none none).run Tryd.prog W = .ok (.slice Ay (l8.drop 64).length cy) W := hsy
        clear hsy
        have HSE : Sep B w0 wc (.rd (.slice Ay (l8.drop 64).length cy) (l8.drop 64).length 1 (bl (l8.drop 64)) :: .row g (stv m (compress h8 (l8.take 64)) n (.slice A9 ([] : List UInt8).length c9)) 166 :: .own (.slice A9 ([] : List UInt8).length c9) 5 1 ([] : List UInt8).length (bl []) :: .rd (.slice Ab l.length cb) l.length 1 (bl l) :: R) := HSd.sub (by repeat (first | exact List.nil_sublist _ | exact List.Sublist.refl _ | apply List.Sublist.cons_cons | apply List.Sublist.cons))
        clear HSd HSc HRy hby HSb HTb HSa HTa HS8
        generalize compress h8 (l8.take 64) = h9 at HSE HO9 ⊢
        generalize l8.drop 64 = l9 at *
        refine og_fin ?_
        go_wp2
        go_roundw
        case rel => exact ⟨_, _, l9, [], h9, _, _, rfl, hl9, by decide, .inl rfl, HO9.out, HT9.out, HSE⟩
        case measure => exact hm9
      · have hlt : l8.length < 64 := by omega
        have hlt' : ¬ (64 : Int) ≤ (l8.length : Int) := by omega
        have hsm : (r8 ++ l8).length < 64 := by rcases hD8 with h | ⟨_, h⟩ <;> subst h <;> simp <;> omega
        have HO9 := Lib.hid (show h8 = HH by rw [← HO8.out, OS.out _ _ hsm])
        have HT9 := Lib.hid (show r8 ++ l8 = TT by rw [← HT8.out, tl_small _ hsm])
        have d10 := row_cell (HS8.row 1 rfl) 10
        rw [show (stv m h8 n (.slice A9 r8.length c9))[10]? = some (.slice A9 r8.length c9) from rfl] at d10
        clear hsm hD8 hge
        go_wp2_with (refine wl_app HS8 2 rfl _ _ 65 (.int .u8 0) 1 rfl rfl Tryd.underlying65 info_u8 rfl (by decide) (by decide) (HS8.rd 0 rfl) (bl_one _) rfl rfl ?_ ?_)
        · omega
        intro v9 wa HSa _ _
        have hq : r8.length + l8.length = (r8 ++ l8).length := by simp
        replace HSa : Sep B w0 wa (.rd (.slice A8 l8.length c8) l8.length 1 (bl l8) :: .row g (stv m h8 n (.slice A9 r8.length c9)) 166 :: .own v9 5 1 (r8 ++ l8).length (bl (r8 ++ l8)) :: .rd (.slice Ab l.length cb) l.length 1 (bl l) :: R) := by rw [← hq, bl_append]; exact HSa
        obtain ⟨A10, c10, rfl, _⟩ := (HSa.own 2 rfl).sl
        clear hq
        generalize r8 ++ l8 = x9 at HSa HT9 ⊢
        go_wp2_with (refine wl_stc HSa 1 rfl rfl 65 _ _ rfl info_sl 10 (by (show 10 < 11); decide) rfl rfl rfl rfl ?_)
        intro wb HSb
        replace HSb : Sep B w0 wb (.row g (stv m h8 n (.slice A10 x9.length c10)) 166 :: .own (.slice A10 x9.length c10) 5 1 x9.length (bl x9) :: .rd (.slice Ab l.length cb) l.length 1 (bl l) :: R) := HSb.tail
        go_wp2
        go_end0
        refine ⟨rfl, .slice A10 x9.length c10, ?_⟩
        rw [← HO9.out, ← HT9.out]
        exact HSb
  · have hr0' : (0 : Int) < (r.length : Int) := by omega
    by_cases hk : 64 - r.length ≤ l.length
    · have hk' : ¬ ((l.length : Int) < 64 - (r.length : Int)) := by omega
      obtain ⟨k, hk2⟩ : ∃ k : Nat, 64 - r.length = k := ⟨_, rfl⟩
      have Hk := Lib.hid (show (64 - (r.length : Int)) = (k : Int) by omega)
      have Hk3 := Lib.hid (show r.length + k = 64 by omega)
      have hkl : k ≤ l.length := by omega
      have hk64 : k ≤ 64 := by omega
      obtain ⟨A1, c1, hc1, hm1, HR1, _, hs1⟩ := rd_to (HS.rd 2 rfl) Tryd.underlying65 info_u8' k hkl
      have HSL := Lib.hid hs1
      clear hk2 hk hs1
      go_enter Tryd.func88, Tryd.ntmps88
      go_wp2
      rw [Hk.out]
      refine Cop.region_ord (fun w' => Sep B w0 w' [.row g (stv m h n (.slice A r.length c)) 166]) 11 (.take 0 (.take 1 (.take 2 (.take 3 (.take 4 (.take 5 (.take 6 (.take 7 (.run 8 (.take 9 (.take 10 (.run 11 Cop.Ord.fin)))))))))))) (by kernel_rfl) (by kernel_rfl) (fun _ _ d _ _ h => by cases d <;> exact h) ?_
      intro w1 hd
      have HS1 := HS.keep hd
      have HT := HS1.one 0 rfl
      (repeat (first | (refine Cop.og_skip rfl rfl HT _ (by (simp only [Act.put, List.setIfInBounds_toArray, List.set_cons_succ, List.set_cons_zero]; rfl)) ?_) | (refine Cop.og_take rfl rfl HT ?_; apply Exists.intro; refine ⟨fun w9 h9 => ?_, _, by (simp only [Act.put, List.setIfInBounds_toArray, List.set_cons_succ, List.set_cons_zero]; rfl), ?_⟩; (have d := row_cell (h9.row 0 rfl) 10; have d2 : (stv m h n (.slice A r.length c))[10]? = some (.slice A r.length c) := rfl; rw [d2] at d; clear d2; have e := HSL.out; go_simp; with_reducible rfl))))
      refine Cop.og_run rfl rfl ?_
      refine ow_app HS1 1 rfl _ _ 65 (.int .u8 0) 1 rfl Tryd.underlying65 info_u8 rfl (by decide) (by decide) (HR1.below hd) (bl_one _) rfl rfl (by rw [List.length_take]; omega) ?_
      intro v2 w2 HS2 hA2 _
      have HT2 := HS2.one 0 rfl
      refine ⟨fun _ => HT2, ?_⟩
      (repeat (first | (refine Cop.og_skip rfl rfl HT2 _ (by (simp only [Act.put, List.setIfInBounds_toArray, List.set_cons_succ, List.set_cons_zero]; rfl)) ?_) | (refine Cop.og_take rfl rfl HT2 ?_; apply Exists.intro; refine ⟨fun w9 h9 => ?_, _, by (simp only [Act.put, List.setIfInBounds_toArray, List.set_cons_succ, List.set_cons_zero]; rfl), ?_⟩; (go_simp; with_reducible rfl))))
      refine Cop.og_run rfl rfl ?_
      refine ow_stc HS2 0 rfl 65 _ _ rfl info_sl 10 (by (show 10 < 11); decide) rfl rfl (by (obtain ⟨A9, c9, rfl⟩ := hA2 (by rw [List.length_take]; have := Hk3.out; omega)); rfl) (by (obtain ⟨A9, c9, rfl⟩ := hA2 (by rw [List.length_take]; have := Hk3.out; omega)); rfl) ?_
      intro w3 HS3
      refine ⟨fun h => absurd rfl h, ?_⟩
      obtain ⟨A2, c2, rfl⟩ := hA2 (by rw [List.length_take]; have := Hk3.out; omega)
      have hr2 : r.length + (l.take k).length = (r ++ l.take k).length := by simp
      have Hr1 := Lib.hid (show (r ++ l.take k).length = 64 by rw [← hr2, List.length_take, Nat.min_eq_left hkl]; exact Hk3.out)
      have HoT := Lib.hid (show r ++ l.take k ++ l.drop k = r ++ l by rw [List.append_assoc, List.take_append_drop])
      replace HS3 : Sep B w0 w3 (.row g (stv m h n (.slice (some A2) (r ++ l.take k).length c2)) 166 :: .own (.slice (some A2) (r ++ l.take k).length c2) 5 1 (r ++ l.take k).length (bl (r ++ l.take k)) :: .rd (.slice Ab l.length cb) l.length 1 (bl l) :: R) := by
        rw [← hr2, bl_append]; exact HS3
      rw [hr2]
      generalize r ++ l.take k = r1 at HS3 Hr1 HoT ⊢
      rw [Hr1.out] at HS3 ⊢
      obtain ⟨gr, hgr⟩ := (HS3.own 1 rfl).addr (by decide)
      injection hgr with hgr
      subst hgr
      obtain ⟨A4, c4, hc4, hm4, HR4, hb4, hs4⟩ := rd_from (HS3.rd 2 rfl) Tryd.underlying65 info_u8' k hkl
      have HS4 := HS3.part 2 rfl HR4 hb4
      have d10 := row_cell (HS4.row 1 rfl) 10
      rw [show (stv m h n (.slice (some ⟨gr, 0, none⟩) 64 c2))[10]? = some (.slice (some ⟨gr, 0, none⟩) 64 c2) from rfl] at d10
      have hc64 : 64 ≤ c2 := by obtain ⟨_, _, he, hh⟩ := (HS4.own 2 rfl).sl; injection he with _ _ he; omega
      have hl4 : (l.drop k).length ≤ 1000000000000000000 := by rw [List.length_drop]; omega
      clear hr2 hb4 HS3 c10 f10 hA2 HS2 HS1 HT HT2 HR1 HSL
      generalize l.drop k = l4 at *
      refine og_fin ?_
      go_wp2
      refine Cop.region_ord (fun w' => Sep B w0 w' [.row g (stv m h n (.slice (some ⟨gr, 0, none⟩) 64 c2)) 166, .own (.slice (some ⟨gr, 0, none⟩) 64 c2) 5 1 64 (bl r1)]) 14 (.take 0 (.take 1 (.take 2 (.take 3 (.take 4 (.take 5 (.take 6 (.take 7 (.take 8 (.take 9 (.take 10 (.run 11 (.take 12 (.take 13 (.run 14 Cop.Ord.fin))))))))))))))) (by kernel_rfl) (by kernel_rfl) (fun _ _ d _ _ h => by cases d <;> exact h) ?_
      intro w5 hd5
      have HS5 := HS4.keep hd5
      have HT5 : Sep B w0 w5 [.row g (stv m h n (.slice (some ⟨gr, 0, none⟩) 64 c2)) 166, .own (.slice (some ⟨gr, 0, none⟩) 64 c2) 5 1 64 (bl r1)] := HS5.sub (by repeat (first | exact List.nil_sublist _ | exact List.Sublist.refl _ | apply List.Sublist.cons_cons | apply List.Sublist.cons))
      (repeat (first | (refine Cop.og_skip rfl rfl HT5 _ (by (simp only [Act.put, List.setIfInBounds_toArray, List.set_cons_succ, List.set_cons_zero]; rfl)) ?_) | (refine Cop.og_ld rfl rfl HT5 157 _ rfl (.pointer (some ⟨g, 1, none⟩)) rfl _ (fun w9 h9 => load_mid (h9.row 0 rfl) 1 (hv h) (stv_h m h n _) 157 Tryd.underlying157 rfl info_h8) _ (by (simp only [Act.put, List.setIfInBounds_toArray, List.set_cons_succ, List.set_cons_zero]; rfl)) ?_) | (refine Cop.og_ld rfl rfl HT5 175 _ rfl (.pointer (some ⟨gr, 0, none⟩)) rfl _ (fun w9 h9 => load_rd (h9.own 1 rfl).rd rfl 64 (by decide) (by decide) (bv r1) (by rw [bv_toList, List.take_of_length_le (by rw [bl_length, Hr1.out]; decide)]) 175 Tryd.underlying175 rfl (by rw [bv_size, Hr1.out]; exact info_b64)) _ (by (simp only [Act.put, List.setIfInBounds_toArray, List.set_cons_succ, List.set_cons_zero]; rfl)) ?_) | (refine Cop.og_take rfl rfl HT5 ?_; apply Exists.intro; refine ⟨fun w9 h9 => ?_, _, by (simp only [Act.put, List.setIfInBounds_toArray, List.set_cons_succ, List.set_cons_zero]; rfl), ?_⟩; (have d := row_cell (h9.row 0 rfl) 10; have d2 : (stv m h n (.slice (some ⟨gr, 0, none⟩) 64 c2))[10]? = some (.slice (some ⟨gr, 0, none⟩) 64 c2) := rfl; rw [d2] at d; clear d2; have e := run_arrayAt (P := Tryd.prog) w9 175 5 64 (some ⟨gr, 0, none⟩) 64 c2 Tryd.underlying175 (by decide); go_simp; with_reducible rfl))))
      refine Cop.og_run rfl rfl ?_
      refine ow_call 97 _ _ (fun w' => Below w5.heap.size w5 w') (by go_simp) (CA.out h r1 w5 Hr1.out (HTB.out _ HS5.hb)) ?_
      intro w6 b6
      have HS6 := HS5.keep b6
      have HT6 := HT5.keep b6
      refine ⟨fun _ => HT6, ?_⟩
      (repeat (first | (refine Cop.og_skip rfl rfl HT6 _ (by (simp only [Act.put, List.setIfInBounds_toArray, List.set_cons_succ, List.set_cons_zero]; rfl)) ?_) | (refine Cop.og_take rfl rfl HT6 ?_; apply Exists.intro; refine ⟨fun w9 h9 => ?_, _, by (simp only [Act.put, List.setIfInBounds_toArray, List.set_cons_succ, List.set_cons_zero]; rfl), ?_⟩; (go_simp; with_reducible rfl))))
      refine Cop.og_run rfl rfl ?_
      refine ow_stm HS6 1 rfl 157 _ _ rfl 1 (cs := hv (compress h r1)) info_h8 (by (show 1 + 8 ≤ 11); decide) rfl rfl (hv_one _) (stv m (compress h r1) n (.slice (some ⟨gr, 0, none⟩) 64 c2)) rfl ?_
      intro w7 HS7
      refine ⟨fun h => absurd rfl h, ?_⟩
      refine og_fin ?_
      have e10 := row_cell (HS7.row 1 rfl) 10
      rw [show (stv m (compress h r1) n (.slice (some ⟨gr, 0, none⟩) 64 c2))[10]? = some (.slice (some ⟨gr, 0, none⟩) 64 c2) from rfl] at e10
      have e11 := run_to_zero (P := Tryd.prog) (some ⟨gr, 0, none⟩) 64 c2 (fun a h => by (cases h); rfl) Tryd.underlying65 info_u8'
      have HO := Lib.hid (show over (compress h r1) ([] ++ l4) = HH by rw [← HHH.out, ← HoT.out, OM.out h (r1 ++ l4) (by rw [List.length_append, Hr1.out]; omega), List.take_left' Hr1.out, List.drop_left' Hr1.out, List.nil_append])
      have HT := Lib.hid (show tl ([] ++ l4) = TT by rw [← HTT.out, ← HoT.out, tl_more (r1 ++ l4) (by rw [List.length_append, Hr1.out]; omega), List.drop_left' Hr1.out, List.nil_append])
      generalize compress h r1 = h7 at HS7 e10 HO ⊢
      clear d10 HS6 HT6 HS5 HT5
      go_wp2_with (refine wl_stc HS7 1 rfl rfl 65 _ _ rfl info_sl 10 (by (show 10 < 11); decide) rfl rfl rfl rfl ?_)
      intro w8 HS8
      have HSQ : Sep B w0 w8 (.rd (.slice A4 l4.length c4) l4.length 1 (bl l4) :: .row g (stv m h7 n (.slice (some ⟨gr, 0, none⟩) ([] : List UInt8).length c2)) 166 :: .own (.slice (some ⟨gr, 0, none⟩) ([] : List UInt8).length c2) 5 1 ([] : List UInt8).length (bl []) :: .rd (.slice Ab l.length cb) l.length 1 (bl l) :: R) :=
        HS8.swap 2 rfl (fun h => Ow.zero h) rfl rfl
      have hr7 : ([] : List UInt8).length < 64 := by decide
      clear HS7 HS8 HS4 HR4 hs4 e10 e11
      go_wp2
      go_loopw [1] (fun s1 wr => TkRel over B w0 g m n (.slice Ab l.length cb) l R HH TT s1 wr) (fun s1 _ => match s1 with | .slice _ n _ => n | _ => 0)
      case atStart => exact ⟨_, _, _, _, _, _, _, rfl, hl4, hr7, (by first | exact Or.inl rfl | exact HD.out), HO.out, HT.out, HSQ⟩
      case round =>
        clear HSQ
        obtain ⟨A8, c8, l8, r8, h8, A9, c9, rfl, hl8, hr8, hD8, hO8, hT8, HS8⟩ := hrel
        have HO8 := Lib.hid hO8
        have HT8 := Lib.hid hT8
        clear hO8 hT8
        by_cases hge : 64 ≤ l8.length
        · have hr80 : r8 = [] := by rcases hD8 with h | ⟨h, _⟩ <;> first | exact h | omega
          subst hr80
          have hge' : (64 : Int) ≤ (l8.length : Int) := by omega
          obtain ⟨b8, o8, rfl⟩ : ∃ b o, A8 = some ⟨b, o, none⟩ := by
            obtain ⟨_, A', c', he, _, _, _, hcell⟩ := HS8.rd 0 rfl
            obtain ⟨b, o, rfl, _⟩ := hcell (by omega)
            injection he with he1
            exact ⟨b, o, he1⟩
          have H64 := Lib.hid (show (l8.take 64).length = 64 by rw [List.length_take]; omega)
          have HO9 := Lib.hid (show over (compress h8 (l8.take 64)) ([] ++ l8.drop 64) = HH by rw [← HO8.out, List.nil_append, List.nil_append, OM.out h8 l8 hge])
          have HT9 := Lib.hid (show tl ([] ++ l8.drop 64) = TT by rw [← HT8.out, List.nil_append, List.nil_append, tl_more l8 hge])
          have hm9 : (l8.drop 64).length < l8.length := by rw [List.length_drop]; omega
          have hl9 : (l8.drop 64).length ≤ 1000000000000000000 := by omega
          go_wp2
          refine Cop.region_ord (fun w' => Sep B w0 w' [.rd (.slice (some ⟨b8, o8, none⟩) l8.length c8) l8.length 1 (bl l8), .row g (stv m h8 n (.slice A9 ([] : List UInt8).length c9)) 166]) 11 (.take 0 (.take 1 (.take 2 (.take 3 (.take 4 (.take 5 (.take 6 (.take 7 (.run 8 (.take 9 (.take 10 (.run 11 Cop.Ord.fin)))))))))))) (by kernel_rfl) (by kernel_rfl) (fun _ _ d _ _ h => by cases d <;> exact h) ?_
          intro wa hda
          have HSa := HS8.keep hda
          have HTa : Sep B w0 wa [.rd (.slice (some ⟨b8, o8, none⟩) l8.length c8) l8.length 1 (bl l8), .row g (stv m h8 n (.slice A9 ([] : List UInt8).length c9)) 166] := HSa.sub (by repeat (first | exact List.nil_sublist _ | exact List.Sublist.refl _ | apply List.Sublist.cons_cons | apply List.Sublist.cons))
          (repeat (first | (refine Cop.og_skip rfl rfl HTa _ (by (simp only [Act.put, List.setIfInBounds_toArray, List.set_cons_succ, List.set_cons_zero]; rfl)) ?_) | (refine Cop.og_ld rfl rfl HTa 157 _ rfl (.pointer (some ⟨g, 1, none⟩)) rfl _ (fun w9 h9 => load_mid (h9.row 1 rfl) 1 (hv h8) (stv_h m h8 n _) 157 Tryd.underlying157 rfl info_h8) _ (by (simp only [Act.put, List.setIfInBounds_toArray, List.set_cons_succ, List.set_cons_zero]; rfl)) ?_) | (refine Cop.og_ld rfl rfl HTa 175 _ rfl (.pointer (some ⟨b8, o8, none⟩)) rfl _ (fun w9 h9 => load_rd (h9.rd 0 rfl) rfl 64 hge (by omega) (bv (l8.take 64)) (by rw [bv_toList, bl_take]) 175 Tryd.underlying175 rfl (by rw [bv_size, H64.out]; exact info_b64)) _ (by (simp only [Act.put, List.setIfInBounds_toArray, List.set_cons_succ, List.set_cons_zero]; rfl)) ?_) | (refine Cop.og_take rfl rfl HTa ?_; apply Exists.intro; refine ⟨fun w9 h9 => ?_, _, by (simp only [Act.put, List.setIfInBounds_toArray, List.set_cons_succ, List.set_cons_zero]; rfl), ?_⟩; (have e := run_arrayAt (P := Tryd.prog) w9 175 5 64 (some ⟨b8, o8, none⟩) l8.length c8 Tryd.underlying175 hge; go_simp; with_reducible rfl))))
          refine Cop.og_run rfl rfl ?_
          refine ow_call 97 _ _ (fun w' => Below wa.heap.size wa w') (by go_simp) (CA.out h8 (l8.take 64) wa H64.out (HTB.out _ HSa.hb)) ?_
          intro wb bb
          have HSb := HSa.keep bb
          have HTb := HTa.keep bb
          refine ⟨fun _ => HTb, ?_⟩
          (repeat (first | (refine Cop.og_skip rfl rfl HTb _ (by (simp only [Act.put, List.setIfInBounds_toArray, List.set_cons_succ, List.set_cons_zero]; rfl)) ?_) | (refine Cop.og_take rfl rfl HTb ?_; apply Exists.intro; refine ⟨fun w9 h9 => ?_, _, by (simp only [Act.put, List.setIfInBounds_toArray, List.set_cons_succ, List.set_cons_zero]; rfl), ?_⟩; (go_simp; with_reducible rfl))))
          refine Cop.og_run rfl rfl ?_
          refine ow_stm HSb 1 rfl 157 _ _ rfl 1 (cs := hv (compress h8 (l8.take 64))) info_h8 (by (show 1 + 8 ≤ 11); decide) rfl rfl (hv_one _) (stv m (compress h8 (l8.take 64)) n (.slice A9 ([] : List UInt8).length c9)) rfl ?_
          intro wc HSc
          refine ⟨fun h => absurd rfl h, ?_⟩
          obtain ⟨Ay, cy, hcy, hmy, HRy, hby, hsy⟩ := rd_from (HSc.rd 0 rfl) Tryd.underlying65 info_u8' 64 hge
          have HSd := HSc.part 0 rfl HRy hby
          have hsy2 : ∀ W kk, (Instr.sliceAt 65 (.slice (some ⟨b8, o8, none⟩) l8.length c8) (some (.int kk 64)) none none).run Tryd.prog W = .ok (.slice Ay (l8.drop 64).length cy) W := hsy
          clear hsy
          have HSE : Sep B w0 wc (.rd (.slice Ay (l8.drop 64).length cy) (l8.drop 64).length 1 (bl (l8.drop 64)) :: .row g (stv m (compress h8 (l8.take 64)) n (.slice A9 ([] : List UInt8).length c9)) 166 :: .own (.slice A9 ([] : List UInt8).length c9) 5 1 ([] : List UInt8).length (bl []) :: .rd (.slice Ab l.length cb) l.length 1 (bl l) :: R) := HSd.sub (by repeat (first | exact List.nil_sublist _ | exact List.Sublist.refl _ | apply List.Sublist.cons_cons | apply List.Sublist.cons))
          clear HSd HSc HRy hby HSb HTb HSa HTa HS8
          generalize compress h8 (l8.take 64) = h9 at HSE HO9 ⊢
          generalize l8.drop 64 = l9 at *
          refine og_fin ?_
          go_wp2
          go_roundw
          case rel => exact ⟨_, _, l9, [], h9, _, _, rfl, hl9, by decide, .inl rfl, HO9.out, HT9.out, HSE⟩
          case measure => exact hm9
        · have hlt : l8.length < 64 := by omega
          have hlt' : ¬ (64 : Int) ≤ (l8.length : Int) := by omega
          have hsm : (r8 ++ l8).length < 64 := by rcases hD8 with h | ⟨_, h⟩ <;> subst h <;> simp <;> omega
          have HO9 := Lib.hid (show h8 = HH by rw [← HO8.out, OS.out _ _ hsm])
          have HT9 := Lib.hid (show r8 ++ l8 = TT by rw [← HT8.out, tl_small _ hsm])
          have d10 := row_cell (HS8.row 1 rfl) 10
          rw [show (stv m h8 n (.slice A9 r8.length c9))[10]? = some (.slice A9 r8.length c9) from rfl] at d10
          clear hsm hD8 hge
          go_wp2_with (refine wl_app HS8 2 rfl _ _ 65 (.int .u8 0) 1 rfl rfl Tryd.underlying65 info_u8 rfl (by decide) (by decide) (HS8.rd 0 rfl) (bl_one _) rfl rfl ?_ ?_)
          · omega
          intro v9 wa HSa _ _
          have hq : r8.length + l8.length = (r8 ++ l8).length := by simp
          replace HSa : Sep B w0 wa (.rd (.slice A8 l8.length c8) l8.length 1 (bl l8) :: .row g (stv m h8 n (.slice A9 r8.length c9)) 166 :: .own v9 5 1 (r8 ++ l8).length (bl (r8 ++ l8)) :: .rd (.slice Ab l.length cb) l.length 1 (bl l) :: R) := by rw [← hq, bl_append]; exact HSa
          obtain ⟨A10, c10, rfl, _⟩ := (HSa.own 2 rfl).sl
          clear hq
          generalize r8 ++ l8 = x9 at HSa HT9 ⊢
          go_wp2_with (refine wl_stc HSa 1 rfl rfl 65 _ _ rfl info_sl 10 (by (show 10 < 11); decide) rfl rfl rfl rfl ?_)
          intro wb HSb
          replace HSb : Sep B w0 wb (.row g (stv m h8 n (.slice A10 x9.length c10)) 166 :: .own (.slice A10 x9.length c10) 5 1 x9.length (bl x9) :: .rd (.slice Ab l.length cb) l.length 1 (bl l) :: R) := HSb.tail
          go_wp2
          go_end0
          refine ⟨rfl, .slice A10 x9.length c10, ?_⟩
          rw [← HO9.out, ← HT9.out]
          exact HSb
    · have hk' : (l.length : Int) < 64 - (r.length : Int) := by omega
      have hlt4 : (r ++ l).length < 64 := by simp; omega
      obtain ⟨A1, c1, hc1, hm1, HR1, _, hs1⟩ := rd_to (HS.rd 2 rfl) Tryd.underlying65 info_u8' l.length (Nat.le_refl _)
      rw [List.take_of_length_le (Nat.le_refl _)] at HR1
      have HSL := Lib.hid hs1
      have Hlt4 := Lib.hid hlt4
      clear hk hs1 hlt4
      go_enter Tryd.func88, Tryd.ntmps88
      go_wp2
      refine Cop.region_ord (fun w' => Sep B w0 w' [.row g (stv m h n (.slice A r.length c)) 166]) 11 (.take 0 (.take 1 (.take 2 (.take 3 (.take 4 (.take 5 (.take 6 (.take 7 (.run 8 (.take 9 (.take 10 (.run 11 Cop.Ord.fin)))))))))))) (by kernel_rfl) (by kernel_rfl) (fun _ _ d _ _ h => by cases d <;> exact h) ?_
      intro w1 hd
      have HS1 := HS.keep hd
      have HT := HS1.one 0 rfl
      (repeat (first | (refine Cop.og_skip rfl rfl HT _ (by (simp only [Act.put, List.setIfInBounds_toArray, List.set_cons_succ, List.set_cons_zero]; rfl)) ?_) | (refine Cop.og_take rfl rfl HT ?_; apply Exists.intro; refine ⟨fun w9 h9 => ?_, _, by (simp only [Act.put, List.setIfInBounds_toArray, List.set_cons_succ, List.set_cons_zero]; rfl), ?_⟩; (have d := row_cell (h9.row 0 rfl) 10; have d2 : (stv m h n (.slice A r.length c))[10]? = some (.slice A r.length c) := rfl; rw [d2] at d; clear d2; have e := HSL.out; go_simp; with_reducible rfl))))
      refine Cop.og_run rfl rfl ?_
      refine ow_app HS1 1 rfl _ _ 65 (.int .u8 0) 1 rfl Tryd.underlying65 info_u8 rfl (by decide) (by decide) (HR1.below hd) (bl_one _) rfl rfl (by omega) ?_
      intro v2 w2 HS2 _ _
      have HT2 := HS2.one 0 rfl
      refine ⟨fun _ => HT2, ?_⟩
      obtain ⟨A2, c2, rfl, _⟩ := (HS2.own 1 rfl).sl
      (repeat (first | (refine Cop.og_skip rfl rfl HT2 _ (by (simp only [Act.put, List.setIfInBounds_toArray, List.set_cons_succ, List.set_cons_zero]; rfl)) ?_) | (refine Cop.og_take rfl rfl HT2 ?_; apply Exists.intro; refine ⟨fun w9 h9 => ?_, _, by (simp only [Act.put, List.setIfInBounds_toArray, List.set_cons_succ, List.set_cons_zero]; rfl), ?_⟩; (go_simp; with_reducible rfl))))
      refine Cop.og_run rfl rfl ?_
      refine ow_stc HS2 0 rfl 65 _ _ rfl info_sl 10 (by (show 10 < 11); decide) rfl rfl rfl rfl ?_
      intro w3 HS3
      refine ⟨fun h => absurd rfl h, ?_⟩
      have hr2 : r.length + l.length = (r ++ l).length := by simp
      replace HS3 : Sep B w0 w3 (.row g (stv m h n (.slice A2 (r ++ l).length c2)) 166 :: .own (.slice A2 (r ++ l).length c2) 5 1 (r ++ l).length (bl (r ++ l)) :: .rd (.slice Ab l.length cb) l.length 1 (bl l) :: R) := by
        rw [← hr2, bl_append]; exact HS3
      rw [hr2]
      have hr7 := Hlt4.out
      have hne : (((r ++ l).length : Int) == 64) = false := by rw [beq_eq_false_iff_ne]; omega
      have HO := Lib.hid (show over h ((r ++ l) ++ []) = HH by rw [List.append_nil]; exact HHH.out)
      have HT := Lib.hid (show tl ((r ++ l) ++ []) = TT by rw [List.append_nil]; exact HTT.out)
      generalize r ++ l = r7 at HS3 HO HT hr7 hne ⊢
      obtain ⟨A4, c4, hc4, hm4, HR4, hb4, hs4⟩ := rd_from (HS3.rd 2 rfl) Tryd.underlying65 info_u8' l.length (Nat.le_refl _)
      rw [List.drop_of_length_le (Nat.le_refl _)] at HR4 hb4 hs4
      have HSQ := HS3.part 2 rfl HR4 hb4
      have e10 := row_cell (HS3.row 0 rfl) 10
      rw [show (stv m h n (.slice A2 r7.length c2))[10]? = some (.slice A2 r7.length c2) from rfl] at e10
      obtain ⟨l4, hl4e⟩ : ∃ x : List UInt8, x = [] := ⟨_, rfl⟩
      rw [← hl4e] at HSQ hs4 HO HT
      have hl4 : l4.length ≤ 1000000000000000000 := by rw [hl4e]; decide
      have HD := Lib.hid (show r7 = [] ∨ l4.length < 64 ∧ l4 = [] from .inr ⟨by rw [hl4e]; decide, hl4e⟩)
      obtain ⟨h7, hh7⟩ : ∃ x, x = h := ⟨_, rfl⟩
      rw [← hh7] at HO HSQ
      clear hl4e hh7 HR4 hb4 hr2 HS2 HT2 HS1 HR1 HSL HS3 c10 f10
      refine og_fin ?_
      go_wp2
      go_loopw [1] (fun s1 wr => TkRel over B w0 g m n (.slice Ab l.length cb) l R HH TT s1 wr) (fun s1 _ => match s1 with | .slice _ n _ => n | _ => 0)
      case atStart => exact ⟨_, _, _, _, _, _, _, rfl, hl4, hr7, (by first | exact Or.inl rfl | exact HD.out), HO.out, HT.out, HSQ⟩
      case round =>
        clear HSQ
        obtain ⟨A8, c8, l8, r8, h8, A9, c9, rfl, hl8, hr8, hD8, hO8, hT8, HS8⟩ := hrel
        have HO8 := Lib.hid hO8
        have HT8 := Lib.hid hT8
        clear hO8 hT8
        by_cases hge : 64 ≤ l8.length
        · have hr80 : r8 = [] := by rcases hD8 with h | ⟨h, _⟩ <;> first | exact h | omega
          subst hr80
          have hge' : (64 : Int) ≤ (l8.length : Int) := by omega
          obtain ⟨b8, o8, rfl⟩ : ∃ b o, A8 = some ⟨b, o, none⟩ := by
            obtain ⟨_, A', c', he, _, _, _, hcell⟩ := HS8.rd 0 rfl
            obtain ⟨b, o, rfl, _⟩ := hcell (by omega)
            injection he with he1
            exact ⟨b, o, he1⟩
          have H64 := Lib.hid (show (l8.take 64).length = 64 by rw [List.length_take]; omega)
          have HO9 := Lib.hid (show over (compress h8 (l8.take 64)) ([] ++ l8.drop 64) = HH by rw [← HO8.out, List.nil_append, List.nil_append, OM.out h8 l8 hge])
          have HT9 := Lib.hid (show tl ([] ++ l8.drop 64) = TT by rw [← HT8.out, List.nil_append, List.nil_append, tl_more l8 hge])
          have hm9 : (l8.drop 64).length < l8.length := by rw [List.length_drop]; omega
          have hl9 : (l8.drop 64).length ≤ 1000000000000000000 := by omega
          go_wp2
          refine Cop.region_ord (fun w' => Sep B w0 w' [.rd (.slice (some ⟨b8, o8, none⟩) l8.length c8) l8.length 1 (bl l8), .row g (stv m h8 n (.slice A9 ([] : List UInt8).length c9)) 166]) 11 (.take 0 (.take 1 (.take 2 (.take 3 (.take 4 (.take 5 (.take 6 (.take 7 (.run 8 (.take 9 (.take 10 (.run 11 Cop.Ord.fin)))))))))))) (by kernel_rfl) (by kernel_rfl) (fun _ _ d _ _ h => by cases d <;> exact h) ?_
          intro wa hda
          have HSa := HS8.keep hda
          have HTa : Sep B w0 wa [.rd (.slice (some ⟨b8, o8, none⟩) l8.length c8) l8.length 1 (bl l8), .row g (stv m h8 n (.slice A9 ([] : List UInt8).length c9)) 166] := HSa.sub (by repeat (first | exact List.nil_sublist _ | exact List.Sublist.refl _ | apply List.Sublist.cons_cons | apply List.Sublist.cons))
          (repeat (first | (refine Cop.og_skip rfl rfl HTa _ (by (simp only [Act.put, List.setIfInBounds_toArray, List.set_cons_succ, List.set_cons_zero]; rfl)) ?_) | (refine Cop.og_ld rfl rfl HTa 157 _ rfl (.pointer (some ⟨g, 1, none⟩)) rfl _ (fun w9 h9 => load_mid (h9.row 1 rfl) 1 (hv h8) (stv_h m h8 n _) 157 Tryd.underlying157 rfl info_h8) _ (by (simp only [Act.put, List.setIfInBounds_toArray, List.set_cons_succ, List.set_cons_zero]; rfl)) ?_) | (refine Cop.og_ld rfl rfl HTa 175 _ rfl (.pointer (some ⟨b8, o8, none⟩)) rfl _ (fun w9 h9 => load_rd (h9.rd 0 rfl) rfl 64 hge (by omega) (bv (l8.take 64)) (by rw [bv_toList, bl_take]) 175 Tryd.underlying175 rfl (by rw [bv_size, H64.out]; exact info_b64)) _ (by (simp only [Act.put, List.setIfInBounds_toArray, List.set_cons_succ, List.set_cons_zero]; rfl)) ?_) | (refine Cop.og_take rfl rfl HTa ?_; apply Exists.intro; refine ⟨fun w9 h9 => ?_, _, by (simp only [Act.put, List.setIfInBounds_toArray, List.set_cons_succ, List.set_cons_zero]; rfl), ?_⟩; (have e := run_arrayAt (P := Tryd.prog) w9 175 5 64 (some ⟨b8, o8, none⟩) l8.length c8 Tryd.underlying175 hge; go_simp; with_reducible rfl))))
          refine Cop.og_run rfl rfl ?_
          refine ow_call 97 _ _ (fun w' => Below wa.heap.size wa w') (by go_simp) (CA.out h8 (l8.take 64) wa H64.out (HTB.out _ HSa.hb)) ?_
          intro wb bb
          have HSb := HSa.keep bb
          have HTb := HTa.keep bb
          refine ⟨fun _ => HTb, ?_⟩
          (repeat (first | (refine Cop.og_skip rfl rfl HTb _ (by (simp only [Act.put, List.setIfInBounds_toArray, List.set_cons_succ, List.set_cons_zero]; rfl)) ?_) | (refine Cop.og_take rfl rfl HTb ?_; apply Exists.intro; refine ⟨fun w9 h9 => ?_, _, by (simp only [Act.put, List.setIfInBounds_toArray, List.set_cons_succ, List.set_cons_zero]; rfl), ?_⟩; (go_simp; with_reducible rfl))))
          refine Cop.og_run rfl rfl ?_
          refine ow_stm HSb 1 rfl 157 _ _ rfl 1 (cs := hv (compress h8 (l8.take 64))) info_h8 (by (show 1 + 8 ≤ 11); decide) rfl rfl (hv_one _) (stv m (compress h8 (l8.take 64)) n (.slice A9 ([] : List UInt8).length c9)) rfl ?_
          intro wc HSc
          refine ⟨fun h => absurd rfl h, ?_⟩
          obtain ⟨Ay, cy, hcy, hmy, HRy, hby, hsy⟩ := rd_from (HSc.rd 0 rfl) Tryd.underlying65 info_u8' 64 hge
          have HSd := HSc.part 0 rfl HRy hby
          have hsy2 : ∀ W kk, (Instr.sliceAt 65 (.slice (some ⟨b8, o8, none⟩) l8.length c8) (some (.int kk 64)) none none).run Tryd.prog W = .ok (.slice Ay (l8.drop 64).length cy) W := hsy
          clear hsy
          have HSE : Sep B w0 wc (.rd (.slice Ay (l8.drop 64).length cy) (l8.drop 64).length 1 (bl (l8.drop 64)) :: .row g (stv m (compress h8 (l8.take 64)) n (.slice A9 ([] : List UInt8).length c9)) 166 :: .own (.slice A9 ([] : List UInt8).length c9) 5 1 ([] : List UInt8).length (bl []) :: .rd (.slice Ab l.length cb) l.length 1 (bl l) :: R) := HSd.sub (by repeat (first | exact List.nil_sublist _ | exact List.Sublist.refl _ | apply List.Sublist.cons_cons | apply List.Sublist.cons))
          clear HSd HSc HRy hby HSb HTb HSa HTa HS8
          generalize compress h8 (l8.take 64) = h9 at HSE HO9 ⊢
          generalize l8.drop 64 = l9 at *
          refine og_fin ?_
          go_wp2
          go_roundw
          case rel => exact ⟨_, _, l9, [], h9, _, _, rfl, hl9, by decide, .inl rfl, HO9.out, HT9.out, HSE⟩
          case measure => exact hm9
        · have hlt : l8.length < 64 := by omega
          have hlt' : ¬ (64 : Int) ≤ (l8.length : Int) := by omega
          have hsm : (r8 ++ l8).length < 64 := by rcases hD8 with h | ⟨_, h⟩ <;> subst h <;> simp <;> omega
          have HO9 := Lib.hid (show h8 = HH by rw [← HO8.out, OS.out _ _ hsm])
          have HT9 := Lib.hid (show r8 ++ l8 = TT by rw [← HT8.out, tl_small _ hsm])
          have d10 := row_cell (HS8.row 1 rfl) 10
          rw [show (stv m h8 n (.slice A9 r8.length c9))[10]? = some (.slice A9 r8.length c9) from rfl] at d10
          clear hsm hD8 hge
          go_wp2_with (refine wl_app HS8 2 rfl _ _ 65 (.int .u8 0) 1 rfl rfl Tryd.underlying65 info_u8 rfl (by decide) (by decide) (HS8.rd 0 rfl) (bl_one _) rfl rfl ?_ ?_)
          · omega
          intro v9 wa HSa _ _
          have hq : r8.length + l8.length = (r8 ++ l8).length := by simp
          replace HSa : Sep B w0 wa (.rd (.slice A8 l8.length c8) l8.length 1 (bl l8) :: .row g (stv m h8 n (.slice A9 r8.length c9)) 166 :: .own v9 5 1 (r8 ++ l8).length (bl (r8 ++ l8)) :: .rd (.slice Ab l.length cb) l.length 1 (bl l) :: R) := by rw [← hq, bl_append]; exact HSa
          obtain ⟨A10, c10, rfl, _⟩ := (HSa.own 2 rfl).sl
          clear hq
          generalize r8 ++ l8 = x9 at HSa HT9 ⊢
          go_wp2_with (refine wl_stc HSa 1 rfl rfl 65 _ _ rfl info_sl 10 (by (show 10 < 11); decide) rfl rfl rfl rfl ?_)
          intro wb HSb
          replace HSb : Sep B w0 wb (.row g (stv m h8 n (.slice A10 x9.length c10)) 166 :: .own (.slice A10 x9.length c10) 5 1 x9.length (bl x9) :: .rd (.slice Ab l.length cb) l.length 1 (bl l) :: R) := HSb.tail
          go_wp2
          go_end0
          refine ⟨rfl, .slice A10 x9.length c10, ?_⟩
          rw [← HO9.out, ← HT9.out]
          exact HSb
/-- The table of constants lies at block 0. -/
def Tab (w : World) : Prop := ∃ tt, w.heap[0]? = some (.cells (wv kst) tt (0, 0))
theorem Tab.below {w w' : World} (h : Tab w) (hb : Below w.heap.size w w') : Tab w' := by
  obtain ⟨tt, h⟩ := h
  exact ⟨tt, kept_row hb h⟩
def TabB (B : Nat) (w0 : World) : Prop := ∀ w, Below B w0 w → Tab w
theorem Tab.base {w : World} (h : Tab w) : TabB w.heap.size w := fun w' hb => h.below hb
theorem take_a (B : Nat) (w0 : World) (g : Nat) (m : Bool) (n : Int) (v vb : Value) (h : H8) (r l : List UInt8) (R : List Pc) (w : World) (hTB : TabB B w0) (hr : r.length < 64) (hl : l.length ≤ 1000000000000000000)
    (HS : Sep B w0 w (.row g (stv m h n v) 166 :: .own v 5 1 r.length (bl r) :: .rd vb l.length 1 (bl l) :: R)) :
    Calls Tryd.prog 88 #[.pointer (some ⟨g, 0, none⟩), vb] w fun e w' => e = .returned (.tuple #[]) ∧ StA B w0 g m n vb l R (over h (r ++ l)) (tl (r ++ l)) w' :=
  take_gen over compress over_small over_more Tab (fun h b w hb ⟨tt, ht⟩ => compress_a h b w hb ht) B w0 g m n v vb h r l R w hTB hr hl HS
end Go.Proofs.YtlhebogbbkjahaaDoor
