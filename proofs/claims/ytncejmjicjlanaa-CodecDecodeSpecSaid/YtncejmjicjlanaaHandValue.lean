/- Contract of the reader's value of codec: as the plain valP, or a panic; the reader's cell alone turns, the value's lists are new. -/
import Derived.Test.YtncejmjicjlanaaHandValueA
namespace Go.Proofs.Ytncejmjicjlanaa.Q
open Go.RowKit Go.Proofs.YtncejmjicjlanaaW.PrintWords Go.Proofs.YtncejmjicjlanaaW.PrintLast Go.Proofs.YtncejmjicjlanaaW.PrintMore
set_option linter.unusedVariables false
set_option linter.unusedSimpArgs false
set_option maxHeartbeats 4000000 in
set_option maxRecDepth 100000 in
theorem value_list (m : Nat) (d : Int) (g : Nat) (A : Option Addr) (c : Nat) (b : Int) (l : List Int) (w0 w : World) (hd : d = 16 - ((m + 1 : Nat) : Int)) (hm : m + 1 ≤ 16) (hI : IsRd w0 w g A c (b :: l)) (hB : Below w0.heap.size w0 w) (hl : (b :: l).length < 2000000000) (k1 : ¬ wrap64 b = 1) (k2 : ¬ wrap64 b = 2) (k3 : wrap64 b = 3) (ih : ValueOk m) :
    Calls Try.prog 28 #[.pointer (some ⟨g, 0, none⟩), .int .i64 d] w (ValPost w0 w g (valP (m + 1) (b :: l))) := by
  have hgl : g < w.heap.size := blk_lt hI.1
  have hu24 := Try.underlying24
  obtain ⟨R, hR⟩ : ∃ R, valP (m + 1) (b :: l) = R := ⟨_, rfl⟩
  rw [hR]
  have HD := Aside0.mk hd
  clear hd
  go_enter Try.func28, Try.ntmps28
  go_wp2_with fail
  have hBv := blk_new w (.cells #[.int .i64 0, .int .i64 0, .string ⟨#[]⟩, .slice none 0 0] 24)
  have hI1 := hI.of (Below.heap_alloc w (.cells #[.int .i64 0, .int .i64 0, .string ⟨#[]⟩, .slice none 0 0] 24) g hgl)
  have hB1 := below_alloc hB (.cells #[.int .i64 0, .int .i64 0, .string ⟨#[]⟩, .slice none 0 0] 24)
  have hK1 := keep_alloc (KeepBut.refl w g none) (.cells #[.int .i64 0, .int .i64 0, .string ⟨#[]⟩, .slice none 0 0] 24)
  generalize hW1 : w.alloc (.cells #[.int .i64 0, .int .i64 0, .string ⟨#[]⟩, .slice none 0 0] 24) = W1 at *
  have HWS := Aside0.mk hB.size
  clear hW1 hB hI
  refine (take_one g A c b l w0 W1 hI1 hB1).mono ?_
  rintro e W2 ⟨ad, rfl, hcell, hI2, hk2, hB2⟩
  have hV : Vst w0 w W2 g (.int .i64 0) (.int .i64 0) (.string ⟨#[]⟩) (.slice none 0 0) := Vst.next ⟨hBv, hK1, hB1⟩ hgl hk2 hB2
  obtain ⟨hc0, hc1, hc2, hc3⟩ := hV.cells
  have hfz := fun j => blk_frozen hV.1 j
  have HV := Aside0.mk hV
  have HI2 := Aside0.mk hI2
  have hgn : ¬ w.heap.size = g := by omega
  have HW0 := Aside0.mk (show w0.heap.size ≤ w.heap.size from HWS.out)
  clear hK1 hB1 hI1 hBv hk2 hB2 hI2 hV HWS
  unfold valP at hR
  have hl2 : l.length < 2000000000 := by simp at hl; omega
  rw [if_neg k1, if_neg k2, if_pos k3] at hR
  simp only at hR
  have hdl : decide (d < 16) = true := by have := HD.out; simp; omega
  go_wp2_with fail
  have HV3 := Aside0.mk (HV.out.set0 HW0.out (.int .i64 3))
  obtain ⟨A2, c2, hI2⟩ := HI2.out
  have hI3 := hI2.own (h := w.heap.size) (j := 0) (by omega) (.int .i64 3)
  clear HV HI2 hI2 hc0 hc1 hc2 hc3 hfz hcell
  generalize W2.setCell ⟨w.heap.size, 0, none⟩ (.int .i64 3) = W3 at *
  refine (want_ok _ W3).mono ?_
  rintro e W3' ⟨rfl, rfl⟩
  go_wp2_with fail
  refine (length_calls g A2 c2 l w0 W3' hI3 HV3.out.2.2).mono ?_
  rintro e W4 ⟨hk4, hB4, hp⟩
  have HV4 := Aside0.mk (HV3.out.next hgl hk4 hB4)
  clear HV3 hk4 hB4 hI3
  cases hN : lenP l with
  | none =>
    rw [hN] at hp hR
    simp only at hp hR
    subst hR
    subst hp
    go_wp2
    exact ⟨rfl, HV4.out.2.1, HV4.out.2.2, rfl⟩
  | some x =>
    obtain ⟨n, r⟩ := x
    rw [hN] at hp hR
    simp only at hp hR
    obtain ⟨rfl, hI4⟩ := hp
    obtain ⟨n0, nr, nl⟩ := lenP_facts hl2 hN
    have HI4 := Aside0.mk hI4
    obtain ⟨N, rfl⟩ : ∃ N : Nat, n = (N : Int) := ⟨n.toNat, by omega⟩
    have IH := Aside0.mk ih
    have HN := Aside0.mk (show N ≤ r.length from by omega)
    have HNS := Aside0.mk (show N < 2000000000 from by omega)
    have HL := Aside0.mk (show r.length < 2000000000 from by omega)
    have HM := Aside0.mk hm
    rw [Int.toNat_natCast] at hR
    have HR0 := Aside0.mk hR
    clear hN hI4 ih n0 nr nl hl hl2 k1 k2 k3 hm hR hdl
    go_wp2_with fail
    go_loopg [37] N (fun kq v37 wr => ∃ (i : Nat) (vs : List S24) (r1 : List Int) (u : Value), v37 = .int .i64 (i : Int) ∧ Aside0 (i + kq = N) ∧ Aside0 (vs.length = i) ∧ Aside0 (r1.length < 2000000000) ∧ Aside0 (Vst w0 w wr g (.int .i64 3) (.int .i64 0) (.string ⟨#[]⟩) u) ∧ Aside0 (Kd.R k24 24 wr w.heap.size (fun k => k ≠ g ∧ k ≠ w.heap.size) u vs) ∧ Aside0 (∃ A c, IsRd w0 wr g A c r1) ∧ Aside0 (R = listP vs (elemsP (valP m) kq r1)))
    case atStart => exact ⟨0, [], r, .slice none 0 0, rfl, ⟨by omega⟩, ⟨rfl⟩, HL, HV4, ⟨Kd.R_nil _ _ _ _ _⟩, HI4, ⟨by rw [listP_nil]; exact HR0.out.symm⟩⟩
    case round =>
      clear HV4 HI4 HR0 HL HN
      obtain ⟨i, vs, r1, u, rfl, HIK, HVL, HL, HV4, HO, HI4, HR⟩ := hrel
      obtain ⟨hc0, hc1, hc2, hc3⟩ := HV4.out.cells
      have hfz := fun j => blk_frozen HV4.out.1 j
      cases gk with
      | zero =>
        have hlt : decide (i < N) = false := by have := HIK.out; simp; omega
        have hR := HR.out
        simp only [elemsP, listP, List.append_nil] at hR
        subst hR
        obtain ⟨A3, c3, rfl⟩ := Kd.R_slice HO.out
        obtain ⟨A4, c4, hI4⟩ := HI4.out
        have HI4 := Aside0.mk hI4
        clear hI4
        go_wp2
        have HV9 := Aside0.mk (((((HV4.out).set0 HW0.out (.int .i64 3)).set1 HW0.out (.int .i64 0)).set2 HW0.out (.string ⟨#[]⟩)).set3 HW0.out (.slice A3 vs.length c3))
        have HO9 := Aside0.mk (Kd.R_mono (Kd.R_far (p := ⟨w.heap.size, 3, none⟩) (Kd.R_far (p := ⟨w.heap.size, 2, none⟩) (Kd.R_far (p := ⟨w.heap.size, 1, none⟩) (Kd.R_far (p := ⟨w.heap.size, 0, none⟩) HO.out (fun _ hk => hk.2) (.int .i64 3)) (fun _ hk => hk.2) (.int .i64 0)) (fun _ hk => hk.2) (.string ⟨#[]⟩)) (fun _ hk => hk.2) (.slice A3 vs.length c3)) (fun _ _ => trivial) (ok' := fun _ => True))
        have HI9 := Aside0.mk (((((HI4.out).own (h := w.heap.size) (j := 0) (by omega) (.int .i64 3)).own (h := w.heap.size) (j := 1) (by omega) (.int .i64 0)).own (h := w.heap.size) (j := 2) (by omega) (.string ⟨#[]⟩)).own (h := w.heap.size) (j := 3) (by omega) (.slice A3 vs.length c3))
        obtain ⟨c90, c91, c92, c93⟩ := HV9.out.cells
        clear HO hc0 hc1 hc2 hc3 hfz HV4 HI4
        generalize ((((wr).setCell ⟨w.heap.size, 0, none⟩ (.int .i64 3)).setCell ⟨w.heap.size, 1, none⟩ (.int .i64 0)).setCell ⟨w.heap.size, 2, none⟩ (.string ⟨#[]⟩)).setCell ⟨w.heap.size, 3, none⟩ (.slice A3 vs.length c3) = W9 at *
        refine bodyPost_ret (v := .agg #[.int .i64 3, .int .i64 0, .string ⟨#[]⟩, .slice A3 vs.length c3]) (by simp [results, Try.results28, go_sem, c90, c91, c92, c93]) rfl ⟨HV9.out.2.1, HV9.out.2.2, _, rfl, HO9.out, _, _, HI9.out⟩
      | succ k1 =>
        have hlt : decide (i < N) = true := by have := HIK.out; simp; omega
        go_wp2_with fail
        have HV5 := Aside0.mk (show Vst w0 w wr.drew g (.int .i64 3) (.int .i64 0) (.string ⟨#[]⟩) u from Vst.drew HV4.out)
        have HO5 := Aside0.mk (show Kd.R k24 24 wr.drew w.heap.size (fun k => k ≠ g ∧ k ≠ w.heap.size) u vs from Kd.R_drew HO.out)
        obtain ⟨A5, c5, hI5⟩ : ∃ A c, IsRd w0 wr.drew g A c r1 := HI4.out
        have hd1 : wrap64 (d + 1) = 16 - (m : Int) := by have h1 := HD.out; have h2 := HM.out; rw [IntWalk.wrap64_in _ (by omega)]; omega
        have hm1 : m ≤ 16 := by have h2 := HM.out; omega
        clear HV4 HO HI4
        refine start_ (n := 10) (S := fun w' => w'.cell? ⟨w.heap.size, 3, none⟩ = some u) (ds := [9]) #[false, false, false, false, false, false, false, false, false, false] (by kernel_rfl) rfl rfl ((by exact hc3)) (fun hHeld => ?_)
        generalize wr.drew = W5 at HV5 HO5 hI5 hHeld ⊢
        have hcall := IH.out _ g A5 c5 r1 w0 W5 hd1 hm1 hI5 HV5.out.2.2 HL.out
        refine pure_ (i := 0) (N := some 39) (v := ?_) (a' := ?_) #[true, false, false, false, false, false, false, false, false, false] rfl rfl (by kernel_rfl) (fun _ _ _ h => h) (Or.inl ⟨by rfl, ?_⟩) ?_ ?_
        rotate_left
        · intro w'
          go_simp
          with_reducible rfl
        rotate_left
        · simp only [Act.put, List.setIfInBounds_toArray, List.set_cons_zero, List.set_cons_succ, i64_w, i32_w]
          rfl
        refine pure_ (i := 2) (N := some 41) (v := ?_) (a' := ?_) #[true, false, true, false, false, false, false, false, false, false] rfl rfl (by kernel_rfl) (fun _ _ _ h => h) (Or.inl ⟨by rfl, ?_⟩) ?_ ?_
        rotate_left
        · intro w'
          go_simp
          with_reducible rfl
        rotate_left
        · simp only [Act.put, List.setIfInBounds_toArray, List.set_cons_zero, List.set_cons_succ, i64_w, i32_w]
          rfl
        refine pure_ (i := 3) (N := some 42) (v := ?_) (a' := ?_) #[true, false, true, true, false, false, false, false, false, false] rfl rfl (by kernel_rfl) (fun _ _ _ h => h) (Or.inl ⟨by rfl, ?_⟩) ?_ ?_
        rotate_left
        · intro w'
          go_simp
          with_reducible rfl
        rotate_left
        · simp only [Act.put, List.setIfInBounds_toArray, List.set_cons_zero, List.set_cons_succ, i64_w, i32_w]
          rfl
        refine pure_ (i := 4) (N := some 43) (v := ?_) (a' := ?_) #[true, false, true, true, true, false, false, false, false, false] rfl rfl (by kernel_rfl) (fun _ _ _ h => h) (Or.inl ⟨by rfl, ?_⟩) ?_ ?_
        rotate_left
        · intro w'
          go_simp
          with_reducible rfl
        rotate_left
        · simp only [Act.put, List.setIfInBounds_toArray, List.set_cons_zero, List.set_cons_succ, i64_w, i32_w]
          rfl
        refine take_ (i := 1) (N := some 40) (v := ?_) (a' := ?_) #[true, true, true, true, true, false, false, false, false, false] rfl rfl (by kernel_rfl) (fun _ _ _ h => h) (Or.inl ⟨by rfl, ?_⟩) hHeld ?_ ?_
        rotate_left
        · intro w' s0
          go_simp
          with_reducible rfl
        rotate_left
        · simp only [Act.put, List.setIfInBounds_toArray, List.set_cons_zero, List.set_cons_succ, i64_w, i32_w]
          rfl
        refine one_ (i := 5) (N := some 44) #[true, true, true, true, true, true, false, false, false, false] rfl rfl (by kernel_rfl) (by decide) (fun K hK => ?_)
        refine goesP_ (by rfl) (by rfl) Try.func28 (by kernel_rfl) rfl #[.pointer (some ⟨g, 0, none⟩), .int .i64 (wrap64 (d + 1))] (by rfl) (by simp only [List.map_toArray, List.map_cons, List.map_nil]; rfl) ?_
        refine hcall.mono ?_
        rintro e W6 ⟨hk6, hB6, hp⟩
        have hgl6 : w.heap.size < W5.heap.size := blk_lt HV5.out.1
        have HV6 := Aside0.mk (HV5.out.next hgl hk6 hB6)
        cases hV : valP m r1 with
        | none =>
          rw [hV] at hp
          have hRn : R = none := by rw [HR.out]; simp only [elemsP, hV, listP]
          right
          refine ⟨_, hp, rfl, HV6.out.2.1, HV6.out.2.2, ?_⟩
          rw [hRn]
        | some x =>
          obtain ⟨v, r2⟩ := x
          rw [hV] at hp
          obtain ⟨v3, rfl, hR6, hI6⟩ := hp
          have HRs : Aside0 (R = listP (vs ++ [v]) (elemsP (valP m) k1 r2)) := ⟨by rw [HR.out]; simp only [elemsP, hV]; cases elemsP (valP m) k1 r2 <;> simp [listP]⟩
          have HO6 := Aside0.mk (Kd.R_keep HO5.out hk6 (fun _ hk => hk.1))
          have HX := Aside0.mk (Kd.R_lower (Kd.R_mono (Kd.R_bound hR6) (ok' := fun k => (k ≠ g ∧ k ≠ w.heap.size) ∧ some k ≠ u.ownBlock) (fun k hk => ⟨⟨by have := hk.2.1; omega, by have := hk.2.1; omega⟩, fun he => by have := Kd.R_lt HO5.out k he.symm; have := hk.2.1; omega⟩)) (Nat.le_of_lt hgl6))
          have hs6 : W5.heap.size ≤ W6.heap.size := hk6.1
          have HL2 : Aside0 (r2.length < 2000000000) := ⟨by have := (valP_len m _ _ _ hV); have := HL.out; omega⟩
          have HI6 := Aside0.mk hI6
          obtain ⟨A6, c6, rfl⟩ := Kd.R_slice HX.out
          clear hk6 hB6 hR6 hI6 HR HV5 HO5 hI5 hcall hV
          left
          refine ⟨_, rfl, ?_⟩
          refine hK.out _ _ ((HV6.out.cells.2.2.2)) (fun hHeld => ?_)
          clear hK K
          refine norm_ (a' := ?_) ?_ ?_
          rotate_left
          · show Act.put _ (some 44) _ = _
            simp only [Act.put, List.setIfInBounds_toArray, List.set_cons_zero, List.set_cons_succ, i64_w, i32_w]
            rfl
          refine one_ (i := 6) (N := some 45) #[true, true, true, true, true, true, true, false, false, false] rfl rfl (by kernel_rfl) (by decide) (fun K hK => ?_)
          refine value_ (w1 := ?_) (v := ?_) (by rfl) rfl ?_ ?_
          rotate_left 2
          · go_simp
            constructor
            · rfl
            · rfl
          refine hK.out _ _ (((blk_cell (blk_alloc HV6.out.1 _) 3).trans rfl)) (fun hHeld => ?_)
          clear hK K
          refine norm_ (a' := ?_) ?_ ?_
          rotate_left
          · show Act.put _ (some 45) _ = _
            simp only [Act.put, List.setIfInBounds_toArray, List.set_cons_zero, List.set_cons_succ, i64_w, i32_w]
            rfl
          refine one_ (i := 7) (N := some 46) #[true, true, true, true, true, true, true, true, false, false] rfl rfl (by kernel_rfl) (by decide) (fun K hK => ?_)
          refine Kd.R_append_step k24 (w0 := W6) w.heap.size (by rfl) (.tmp 40) (.tmp 45) 22 24 (.agg #[(.int .i64 0), (.int .i64 0), (.string ⟨#[]⟩), (.slice none 0 0)]) 56 rfl Try.underlying22 info24 rfl (by decide) (by omega) u vs v [.int .i64 v.f0, .int .i64 v.f1, .string v.f2, .slice A6 v.f3.length c6] (fun k => k ≠ g ∧ k ≠ w.heap.size) (fun k => (k ≠ g ∧ k ≠ w.heap.size) ∧ some k ≠ u.ownBlock) rfl rfl (k24_mkM _ _ _ v HX.out) (fun _ hk => hk) (fun k hk => ⟨by omega, by omega⟩) HO6.out (Below.refl _ _) (by omega) (by have h1 := HVL.out; have h2 := HIK.out; have h3 := HNS.out; omega) ?_
          intro v7 w7 ho hb hg hat
          obtain ⟨A7, c7, rfl⟩ := Kd.R_slice ho
          have HV7 := Aside0.mk (HV6.out.grown HW0.out hb (hg.block _ (by omega) (Kd.R_away HO6.out (fun _ hk => hk.2))))
          have HI7 : Aside0 (∃ A c, IsRd w0 w7 g A c r2) := ⟨by obtain ⟨A, c, h⟩ := HI6.out; exact ⟨A, c, h.of (hb.block _ hgl)⟩⟩
          have hln : (vs ++ [v]).length = vs.length + 1 := by simp
          rw [hln] at ho
          have HO7 := Aside0.mk ho
          clear ho hb hg hat HV6 HI6 HO6 HX hln
          refine hK.out _ _ ((HV7.out.cells.2.2.2)) (fun hHeld => ?_)
          clear hK K
          refine norm_ (a' := ?_) ?_ ?_
          rotate_left
          · show Act.put _ (some 46) _ = _
            simp only [Act.put, List.setIfInBounds_toArray, List.set_cons_zero, List.set_cons_succ, i64_w, i32_w]
            rfl
          refine pure_ (i := 8) (N := some 47) (v := ?_) (a' := ?_) #[true, true, true, true, true, true, true, true, true, false] rfl rfl (by kernel_rfl) (fun _ _ _ h => h) (Or.inl ⟨by rfl, ?_⟩) ?_ ?_
          rotate_left
          · intro w'
            go_simp
            with_reducible rfl
          rotate_left
          · simp only [Act.put, List.setIfInBounds_toArray, List.set_cons_zero, List.set_cons_succ, i64_w, i32_w]
            rfl
          refine last_ (i := 9) (N := none) #[true, true, true, true, true, true, true, true, true, true] rfl rfl (by kernel_rfl) (by decide) (fun K hK => ?_)
          have hs15 := HV7.out.cells.2.2.2
          have hfs15 := blk_frozen HV7.out.1 3
          refine skip_ (w1 := ?_) (by rfl) rfl ?_ ?_
          rotate_left
          · go_simp
            rfl
          refine hK.out _ _ ?_
          clear hK K
          refine done_ (by kernel_rfl) ?_
  
          go_wp2_with fail
          have HI8 : Aside0 (∃ A c, IsRd w0 (w7.setCell ⟨w.heap.size, 3, none⟩ (.slice A7 (vs.length + 1) c7)) g A c r2) := ⟨by obtain ⟨A, c, h⟩ := HI7.out; exact ⟨A, c, h.own (by omega) _⟩⟩
          have hw : Value.int .i64 (wrap64 ((i : Int) + 1)) = .int .i64 ((i + 1 : Nat) : Int) := by have h1 := HNS.out; have h2 := HIK.out; rw [IntWalk.wrap64_in _ (by omega)]; rfl
          go_roundg k1
          case measure => have := HIK.out; omega
          case rel => exact ⟨i + 1, vs ++ [v], r2, _, hw, ⟨by have := HIK.out; omega⟩, ⟨by rw [List.length_append]; have := HVL.out; simp; omega⟩, HL2, ⟨HV7.out.set3 HW0.out _⟩, ⟨Kd.R_far HO7.out (fun _ hk => hk.2) _⟩, HI8, HRs⟩
theorem value_calls (m : Nat) : ValueOk m := by
  induction m with
  | zero =>
    intro d g A c rest w0 w hd hm hI hB hl
    cases rest with
    | nil => exact value_nil 0 d g A c w0 w hI hB
    | cons b l =>
      by_cases k1 : wrap64 b = 1
      · exact value_int 0 d g A c b l w0 w hd hm hI hB hl k1
      by_cases k2 : wrap64 b = 2
      · exact value_text 0 d g A c b l w0 w hd hm hI hB hl k1 k2
      by_cases k3 : wrap64 b = 3
      · exact value_deep 0 d g A c b l w0 w hd hm hI hB hl k1 k2 k3
      · exact value_bad 0 d g A c b l w0 w hd hm hI hB hl k1 k2 k3
  | succ m ih =>
    intro d g A c rest w0 w hd hm hI hB hl
    cases rest with
    | nil => exact value_nil (m + 1) d g A c w0 w hI hB
    | cons b l =>
      by_cases k1 : wrap64 b = 1
      · exact value_int (m + 1) d g A c b l w0 w hd hm hI hB hl k1
      by_cases k2 : wrap64 b = 2
      · exact value_text (m + 1) d g A c b l w0 w hd hm hI hB hl k1 k2
      by_cases k3 : wrap64 b = 3
      · exact value_list m d g A c b l w0 w hd hm hI hB hl k1 k2 k3 ih
      · exact value_bad (m + 1) d g A c b l w0 w hd hm hI hB hl k1 k2 k3
end Go.Proofs.Ytncejmjicjlanaa.Q
