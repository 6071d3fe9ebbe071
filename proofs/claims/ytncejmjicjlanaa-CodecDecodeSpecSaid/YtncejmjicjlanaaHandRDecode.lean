/- Contract of the reference's Decode: as the plain decP; nothing that was there changes, the value's lists are new. Conditions: fewer than 2000000000 bytes. -/
import Derived.Test.YtncejmjicjlanaaQ3
import Derived.Test.YtncejmjicjlanaaHandRValue
import Derived.Test.YtncejmjicjlanaaPSound
namespace Go.Proofs.Ytncejmjicjlanaa.Q
open Go.RowKit Go.Proofs.YtncejmjicjlanaaW.PrintWords Go.Proofs.YtncejmjicjlanaaW.PrintLast Go.Proofs.YtncejmjicjlanaaW.PrintMore
set_option linter.unusedVariables false
set_option linter.unusedSimpArgs false
set_option maxHeartbeats 4000000 in
set_option maxRecDepth 100000 in
theorem rdecode_walk (A : Option Addr) (c : Nat) (l : List Int) (w : World) (hr : Kd.C (Kd.int .u8) w A l.length l) (hc : l.length ≤ c) (hl : l.length < 2000000000) (hby : Bytes l) :
    Calls Try.prog 15 #[.slice A l.length c] w fun e w' => ∃ v4 : Value, e = .returned (.tuple #[.agg #[.int .i64 (decP l).1.f0, .int .i64 (decP l).1.f1, .string (decP l).1.f2, v4], .int .i64 (decP l).2]) ∧ Kd.R k24 24 w' w.heap.size (fun _ => True) v4 (decP l).1.f3 ∧ Below w.heap.size w w' := by
  have hu24 := Try.underlying24
  have hu60 := Try.underlying60
  have HR := Aside0.mk hr
  have HC := Aside0.mk hc
  have HL := Aside0.mk hl
  have HBY := Aside0.mk hby
  clear hr hc hl hby
  go_enter Try.func15, Try.ntmps15
  go_wp2_with fail
  have h2 := blk_alloc (blk_new w (.cells #[.int .i64 0, .int .i64 0, .string ⟨#[]⟩, .slice none 0 0] 24)) (.cells #[.slice A l.length c, .int .i64 0, .bool false] 60)
  have h3 := blk_new (w.alloc (.cells #[.int .i64 0, .int .i64 0, .string ⟨#[]⟩, .slice none 0 0] 24)) (.cells #[.slice A l.length c, .int .i64 0, .bool false] 60)
  rw [World.size_alloc] at h3
  have hb := below_alloc (below_alloc (Below.refl w.heap.size w) (.cells #[.int .i64 0, .int .i64 0, .string ⟨#[]⟩, .slice none 0 0] 24)) (.cells #[.slice A l.length c, .int .i64 0, .bool false] 60)
  have hsz : (((w.alloc (.cells #[.int .i64 0, .int .i64 0, .string ⟨#[]⟩, .slice none 0 0] 24)).alloc (.cells #[.slice A l.length c, .int .i64 0, .bool false] 60))).heap.size = w.heap.size + 2 := by simp
  generalize ((w.alloc (.cells #[.int .i64 0, .int .i64 0, .string ⟨#[]⟩, .slice none 0 0] 24)).alloc (.cells #[.slice A l.length c, .int .i64 0, .bool false] 60)) = W1 at *
  have hs : RfS w (w.heap.size + 1) A c l := ⟨HC.out, HR.out, by omega, HL.out, HBY.out⟩
  refine (rvalue_calls 16 0 (w.heap.size + 1) A c l 0 w W1 (by decide) (by decide) hs h3 hb).mono ?_
  rintro e W2 hp
  rw [List.drop_zero] at hp
  obtain ⟨hk, v, v3, at1, bad, rfl, hR, hI, hcase⟩ := hp.one
  have g2 := (hk.1.2 _ (blk_lt h2) (by omega) (by simp)).trans h2
  obtain ⟨A3, c3, rfl⟩ := Kd.R_slice hR
  have hR2 : Kd.R k24 24 W2 w.heap.size (fun k => w.heap.size + 2 ≤ k) (.slice A3 v.f3.length c3) v.f3 := Kd.R_lower (Kd.R_mono (Kd.R_bound hR) (fun k hk2 => by have := hk2.2.1; omega)) (by omega)
  have HR3 := Aside0.mk (Kd.R_alloc hR2 (.cells #[.int .i64 v.f0, .int .i64 v.f1, .string v.f2, .slice A3 v.f3.length c3] 24))
  have HI3 := Aside0.mk (show IsRf (W2.alloc (.cells #[.int .i64 v.f0, .int .i64 v.f1, .string v.f2, .slice A3 v.f3.length c3] 24)) (w.heap.size + 1) A c l at1 bad from blk_alloc hI (.cells #[.int .i64 v.f0, .int .i64 v.f1, .string v.f2, .slice A3 v.f3.length c3] 24))
  have HB3 := Aside0.mk (below_alloc hk.2 (.cells #[.int .i64 v.f0, .int .i64 v.f1, .string v.f2, .slice A3 v.f3.length c3] 24))
  have G3 := Aside0.mk (blk_alloc g2 (.cells #[.int .i64 v.f0, .int .i64 v.f1, .string v.f2, .slice A3 v.f3.length c3] 24))
  have V3 := Aside0.mk (blk_new W2 (.cells #[.int .i64 v.f0, .int .i64 v.f1, .string v.f2, .slice A3 v.f3.length c3] 24))
  have hh3 : w.heap.size + 1 < W2.heap.size := blk_lt hI
  have HCA := Aside0.mk hcase
  clear hR hR2 hI hk hp g2 h2 h3 hb hs hcase
  go_wp2_with fail
  generalize W2.heap.size = h4 at *
  generalize W2.alloc (.cells #[.int .i64 v.f0, .int .i64 v.f1, .string v.f2, .slice A3 v.f3.length c3] 24) = W3 at *
  have r1 := (blk_cell HI3.out 1).trans (show _ = some (Value.int .i64 (at1 : Int)) from rfl)
  have r2 := (blk_cell HI3.out 2).trans (show _ = some (Value.bool bad) from rfl)
  cases bad with
  | true =>
    have hP : decP l = (z24, 10) := by
      have : valP 16 l = none := by rcases HCA.out with ⟨h, _⟩ | ⟨_, h⟩; cases h; exact h
      unfold decP
      rw [this]
    have g0 := (blk_cell G3.out 0).trans (show _ = some (Value.int .i64 0) from rfl)
    have g1 := (blk_cell G3.out 1).trans (show _ = some (Value.int .i64 0) from rfl)
    have g2 := (blk_cell G3.out 2).trans (show _ = some (Value.string ⟨#[]⟩) from rfl)
    have g3 := (blk_cell G3.out 3).trans (show _ = some (Value.slice none 0 0) from rfl)
    have gf := fun j => blk_frozen G3.out j
    go_quiet (fail)
    go_wp2
    have G9 := Aside0.mk (blk_put (blk_put (blk_put (blk_put (blk_drewN G3.out nq) 0 (.int .i64 0) rfl) 1 (.int .i64 0) rfl) 2 (.string ⟨#[]⟩) rfl) 3 (.slice none 0 0) rfl)
    have HB9 := Aside0.mk (below_set (j := 3) (v := (.slice none 0 0)) (below_set (j := 2) (v := (.string ⟨#[]⟩)) (below_set (j := 1) (v := (.int .i64 0)) (below_set (j := 0) (v := (.int .i64 0)) (pw_below_drewN HB3.out nq) (Nat.le_refl _)) (Nat.le_refl _)) (Nat.le_refl _)) (Nat.le_refl _))
    have d0 := (blk_cell G9.out 0).trans (show _ = some (Value.int .i64 0) from rfl)
    have d1 := (blk_cell G9.out 1).trans (show _ = some (Value.int .i64 0) from rfl)
    have d2 := (blk_cell G9.out 2).trans (show _ = some (Value.string ⟨#[]⟩) from rfl)
    have d3 := (blk_cell G9.out 3).trans (show _ = some (Value.slice none 0 0) from rfl)
    refine bodyPost_ret (v := .tuple #[.agg #[.int .i64 0, .int .i64 0, .string ⟨#[]⟩, .slice none 0 0], .int .i64 10]) (by simp [results, Try.results15, go_sem, d0, d1, d2, d3]) rfl ⟨.slice none 0 0, ?_, ?_, HB9.out⟩
    · first | rfl | (rw [hP]; rfl)
    · first | exact Kd.R_nil _ _ _ _ _ | (rw [hP]; exact Kd.R_nil _ _ _ _ _)
  | false =>
    obtain ⟨hal, hval⟩ : at1 ≤ l.length ∧ valP 16 l = some (v, l.drop at1) := by rcases HCA.out with ⟨_, h1, h2⟩ | ⟨h, _⟩; exact ⟨h1, h2⟩; cases h
    by_cases hat : at1 = l.length
    · subst hat
      rw [List.drop_length] at hval
      obtain ⟨q1, q2, q3, q4⟩ := decP_ok HBY.out HL.out hval
      obtain ⟨kc, hkc⟩ := rcheck_ev v q4
      have hck := hkc kc (Nat.le_refl _)
      simp only [q2] at hck
      have hen : chartroomref01_encode.f 0 v.f0 v.f1 v.f2 v.f3 = some l := by
        unfold chartroomref01_encode.f
        rw [s24_eta, if_pos (by rw [q1]; have := HL.out; omega), if_pos q3, q1]
      have hP : decP l = (v, 0) := by unfold decP; rw [hval]
      clear hval q1 q2 q3 q4 hkc hal r1 r2 HCA
      have HI4 := Aside0.mk (show IsRf W3.drew (w.heap.size + 1) A c l l.length false from blk_drew HI3.out)
      have V4 := Aside0.mk (blk_drew V3.out)
      have G4 := Aside0.mk (blk_drew G3.out)
      have HB4 := Aside0.mk (below_drew1 HB3.out)
      have HR4 := Aside0.mk (Kd.R_drew HR3.out)
      clear HI3 V3 G3 HB3 HR3
      refine start_ (n := 26) (S := fun w' => w'.cell? ⟨w.heap.size + 1, 1, none⟩ = some (.int .i64 (l.length : Int)) ∧ w'.cell? ⟨w.heap.size + 1, 2, none⟩ = some (.bool false) ∧ w'.cell? ⟨h4, 0, none⟩ = some (.int .i64 v.f0) ∧ w'.cell? ⟨h4, 1, none⟩ = some (.int .i64 v.f1) ∧ w'.cell? ⟨h4, 2, none⟩ = some (.string v.f2) ∧ w'.cell? ⟨h4, 3, none⟩ = some (.slice A3 v.f3.length c3) ∧ (convert 27 9 (.slice A l.length c)).run Try.prog w' = .ok (.string (strOfNums l)) w') (ds := []) #[false, false, false, false, false, false, false, false, false, false, false, false, false, false, false, false, false, false, false, false, false, false, false, false, false, false] (by kernel_rfl) rfl rfl ⟨((blk_cell HI4.out 1).trans rfl), ((blk_cell HI4.out 2).trans rfl), ((blk_cell V4.out 0).trans rfl), ((blk_cell V4.out 1).trans rfl), ((blk_cell V4.out 2).trans rfl), ((blk_cell V4.out 3).trans rfl), (Kd.C_string (P := Try.prog) Try.underlying27 Try.underlying5 Try.underlying9 (Kd.C_below HR.out HB4.out))⟩ (fun hHeld => ?_)
      generalize W3.drew = W4 at HI4 V4 G4 HB4 HR4 hHeld ⊢
      refine pure_ (i := 0) (N := some 11) (v := ?_) (a' := ?_) #[true, false, false, false, false, false, false, false, false, false, false, false, false, false, false, false, false, false, false, false, false, false, false, false, false, false] rfl rfl (by kernel_rfl) (fun _ _ _ h => h) (Or.inl ⟨by rfl, ?_⟩) ?_ ?_
      rotate_left
      · intro w'
        go_simp
        with_reducible rfl
      rotate_left
      · simp only [Act.put, List.setIfInBounds_toArray, List.set_cons_zero, List.set_cons_succ, i64_w, i32_w]
        rfl
      refine pure_ (i := 1) (N := some 12) (v := ?_) (a' := ?_) #[true, true, false, false, false, false, false, false, false, false, false, false, false, false, false, false, false, false, false, false, false, false, false, false, false, false] rfl rfl (by kernel_rfl) (fun _ _ _ h => h) (Or.inl ⟨by rfl, ?_⟩) ?_ ?_
      rotate_left
      · intro w'
        go_simp
        with_reducible rfl
      rotate_left
      · simp only [Act.put, List.setIfInBounds_toArray, List.set_cons_zero, List.set_cons_succ, i64_w, i32_w]
        rfl
      refine pure_ (i := 2) (N := some 13) (v := ?_) (a' := ?_) #[true, true, true, false, false, false, false, false, false, false, false, false, false, false, false, false, false, false, false, false, false, false, false, false, false, false] rfl rfl (by kernel_rfl) (fun _ _ _ h => h) (Or.inl ⟨by rfl, ?_⟩) ?_ ?_
      rotate_left
      · intro w'
        go_simp
        with_reducible rfl
      rotate_left
      · simp only [Act.put, List.setIfInBounds_toArray, List.set_cons_zero, List.set_cons_succ, i64_w, i32_w]
        rfl
      refine take_ (i := 3) (N := some 14) (v := ?_) (a' := ?_) #[true, true, true, true, false, false, false, false, false, false, false, false, false, false, false, false, false, false, false, false, false, false, false, false, false, false] rfl rfl (by kernel_rfl) (fun _ _ _ h => h) (Or.inl ⟨by rfl, ?_⟩) hHeld ?_ ?_
      rotate_left
      · rintro w' ⟨s0, s1, s2, s3, s4, s5, s6⟩
        go_simp
        with_reducible rfl
      rotate_left
      · simp only [Act.put, List.setIfInBounds_toArray, List.set_cons_zero, List.set_cons_succ, i64_w, i32_w]
        rfl
      refine pure_ (i := 4) (N := some 15) (v := ?_) (a' := ?_) #[true, true, true, true, true, false, false, false, false, false, false, false, false, false, false, false, false, false, false, false, false, false, false, false, false, false] rfl rfl (by kernel_rfl) (fun _ _ _ h => h) (Or.inl ⟨by rfl, ?_⟩) ?_ ?_
      rotate_left
      · intro w'
        go_simp
        with_reducible rfl
      rotate_left
      · simp only [Act.put, List.setIfInBounds_toArray, List.set_cons_zero, List.set_cons_succ, i64_w, i32_w]
        rfl
      refine pure_ (i := 5) (N := some 16) (v := ?_) (a' := ?_) #[true, true, true, true, true, true, false, false, false, false, false, false, false, false, false, false, false, false, false, false, false, false, false, false, false, false] rfl rfl (by kernel_rfl) (fun _ _ _ h => h) (Or.inl ⟨by rfl, ?_⟩) ?_ ?_
      rotate_left
      · intro w'
        go_simp
        with_reducible rfl
      rotate_left
      · simp only [Act.put, List.setIfInBounds_toArray, List.set_cons_zero, List.set_cons_succ, i64_w, i32_w]
        rfl
      refine pure_ (i := 6) (N := some 17) (v := ?_) (a' := ?_) #[true, true, true, true, true, true, true, false, false, false, false, false, false, false, false, false, false, false, false, false, false, false, false, false, false, false] rfl rfl (by kernel_rfl) (fun _ _ _ h => h) (Or.inl ⟨by rfl, ?_⟩) ?_ ?_
      rotate_left
      · intro w'
        go_simp
        with_reducible rfl
      rotate_left
      · simp only [Act.put, List.setIfInBounds_toArray, List.set_cons_zero, List.set_cons_succ, i64_w, i32_w]
        rfl
      refine pure_ (i := 7) (N := some 18) (v := ?_) (a' := ?_) #[true, true, true, true, true, true, true, true, false, false, false, false, false, false, false, false, false, false, false, false, false, false, false, false, false, false] rfl rfl (by kernel_rfl) (fun _ _ _ h => h) (Or.inl ⟨by rfl, ?_⟩) ?_ ?_
      rotate_left
      · intro w'
        go_simp
        with_reducible rfl
      rotate_left
      · simp only [Act.put, List.setIfInBounds_toArray, List.set_cons_zero, List.set_cons_succ, i64_w, i32_w]
        rfl
      refine pure_ (i := 9) (N := some 20) (v := ?_) (a' := ?_) #[true, true, true, true, true, true, true, true, false, true, false, false, false, false, false, false, false, false, false, false, false, false, false, false, false, false] rfl rfl (by kernel_rfl) (fun _ _ _ h => h) (Or.inl ⟨by rfl, ?_⟩) ?_ ?_
      rotate_left
      · intro w'
        go_simp
        with_reducible rfl
      rotate_left
      · simp only [Act.put, List.setIfInBounds_toArray, List.set_cons_zero, List.set_cons_succ, i64_w, i32_w]
        rfl
      refine pure_ (i := 10) (N := some 21) (v := ?_) (a' := ?_) #[true, true, true, true, true, true, true, true, false, true, true, false, false, false, false, false, false, false, false, false, false, false, false, false, false, false] rfl rfl (by kernel_rfl) (fun _ _ _ h => h) (Or.inl ⟨by rfl, ?_⟩) ?_ ?_
      rotate_left
      · intro w'
        go_simp
        with_reducible rfl
      rotate_left
      · simp only [Act.put, List.setIfInBounds_toArray, List.set_cons_zero, List.set_cons_succ, i64_w, i32_w]
        rfl
      refine take_ (i := 8) (N := some 19) (v := ?_) (a' := ?_) #[true, true, true, true, true, true, true, true, true, true, true, false, false, false, false, false, false, false, false, false, false, false, false, false, false, false] rfl rfl (by kernel_rfl) (fun _ _ _ h => h) (Or.inl ⟨by rfl, ?_⟩) hHeld ?_ ?_
      rotate_left
      · rintro w' ⟨s0, s1, s2, s3, s4, s5, s6⟩
        go_simp
        with_reducible rfl
      rotate_left
      · simp only [Act.put, List.setIfInBounds_toArray, List.set_cons_zero, List.set_cons_succ, i64_w, i32_w]
        rfl
      refine pure_ (i := 11) (N := some 22) (v := ?_) (a' := ?_) #[true, true, true, true, true, true, true, true, true, true, true, true, false, false, false, false, false, false, false, false, false, false, false, false, false, false] rfl rfl (by kernel_rfl) (fun _ _ _ h => h) (Or.inl ⟨by rfl, ?_⟩) ?_ ?_
      rotate_left
      · intro w'
        go_simp
        with_reducible rfl
      rotate_left
      · simp only [Act.put, List.setIfInBounds_toArray, List.set_cons_zero, List.set_cons_succ, i64_w, i32_w]
        rfl
      refine pure_ (i := 12) (N := some 23) (v := ?_) (a' := ?_) #[true, true, true, true, true, true, true, true, true, true, true, true, true, false, false, false, false, false, false, false, false, false, false, false, false, false] rfl rfl (by kernel_rfl) (fun _ _ _ h => h) (Or.inl ⟨by rfl, ?_⟩) ?_ ?_
      rotate_left
      · intro w'
        go_simp
        with_reducible rfl
      rotate_left
      · simp only [Act.put, List.setIfInBounds_toArray, List.set_cons_zero, List.set_cons_succ, i64_w, i32_w]
        rfl
      refine pure_ (i := 13) (N := some 24) (v := ?_) (a' := ?_) #[true, true, true, true, true, true, true, true, true, true, true, true, true, true, false, false, false, false, false, false, false, false, false, false, false, false] rfl rfl (by kernel_rfl) (fun _ _ _ h => h) (Or.inl ⟨by rfl, ?_⟩) ?_ ?_
      rotate_left
      · intro w'
        go_simp
        with_reducible rfl
      rotate_left
      · simp only [Act.put, List.setIfInBounds_toArray, List.set_cons_zero, List.set_cons_succ, i64_w, i32_w]
        rfl
      refine take_ (i := 14) (N := some 25) (v := ?_) (a' := ?_) #[true, true, true, true, true, true, true, true, true, true, true, true, true, true, true, false, false, false, false, false, false, false, false, false, false, false] rfl rfl (by kernel_rfl) (fun _ _ _ h => h) (Or.inl ⟨by rfl, ?_⟩) hHeld ?_ ?_
      rotate_left
      · rintro w' ⟨s0, s1, s2, s3, s4, s5, s6⟩
        go_simp
        with_reducible rfl
      rotate_left
      · simp only [Act.put, List.setIfInBounds_toArray, List.set_cons_zero, List.set_cons_succ, i64_w, i32_w]
        rfl
      refine one_ (i := 15) (N := some 26) #[true, true, true, true, true, true, true, true, true, true, true, true, true, true, true, true, false, false, false, false, false, false, false, false, false, false] rfl rfl (by kernel_rfl) (by decide) (fun K hK => ?_)
      refine goes_ Try.func13 (by kernel_rfl) rfl #[.agg #[.int .i64 v.f0, .int .i64 v.f1, .string v.f2, .slice A3 v.f3.length c3]] (by rfl) rfl rfl (by simp only [List.map_toArray, List.map_cons, List.map_nil]; rfl) ?_
      have hrd := Kd.R_reads' HR4.out
      refine (chartroomref01_Check.calls kc v.f0 v.f1 v.f2 A3 c3 v.f3 0 W4 hrd.2.2 hrd.2.1 hck).mono ?_
      rintro e W5 ⟨rfl, hb⟩
      clear hrd
      have HI5 := Aside0.mk (show IsRf W5 (w.heap.size + 1) A c l l.length false from blk_below HI4.out hb)
      have V5 := Aside0.mk (blk_below V4.out hb)
      have G5 := Aside0.mk (blk_below G4.out hb)
      have HB5 := Aside0.mk (HB4.out.trans (hb.mono HB4.out.size))
      have HR5 := Aside0.mk (Kd.R_below HR4.out hb)
      clear hb HI4 V4 G4 HB4 HR4
      refine ⟨_, rfl, ?_⟩
      refine hK.out _ _ ⟨((blk_cell HI5.out 1).trans rfl), ((blk_cell HI5.out 2).trans rfl), ((blk_cell V5.out 0).trans rfl), ((blk_cell V5.out 1).trans rfl), ((blk_cell V5.out 2).trans rfl), ((blk_cell V5.out 3).trans rfl), (Kd.C_string (P := Try.prog) Try.underlying27 Try.underlying5 Try.underlying9 (Kd.C_below HR.out HB5.out))⟩ (fun hHeld => ?_)
      clear hK K
      refine norm_ (a' := ?_) ?_ ?_
      rotate_left
      · show Act.put _ (some 26) _ = _
        simp only [Act.put, List.setIfInBounds_toArray, List.set_cons_zero, List.set_cons_succ, i64_w, i32_w]
        rfl
      refine pure_ (i := 16) (N := some 27) (v := ?_) (a' := ?_) #[true, true, true, true, true, true, true, true, true, true, true, true, true, true, true, true, true, false, false, false, false, false, false, false, false, false] rfl rfl (by kernel_rfl) (fun _ _ _ h => h) (Or.inl ⟨by rfl, ?_⟩) ?_ ?_
      rotate_left
      · intro w'
        go_simp
        with_reducible rfl
      rotate_left
      · simp only [Act.put, List.setIfInBounds_toArray, List.set_cons_zero, List.set_cons_succ, i64_w, i32_w]
        rfl
      refine pure_ (i := 17) (N := some 28) (v := ?_) (a' := ?_) #[true, true, true, true, true, true, true, true, true, true, true, true, true, true, true, true, true, true, false, false, false, false, false, false, false, false] rfl rfl (by kernel_rfl) (fun _ _ _ h => h) (Or.inl ⟨by rfl, ?_⟩) ?_ ?_
      rotate_left
      · intro w'
        go_simp
        with_reducible rfl
      rotate_left
      · simp only [Act.put, List.setIfInBounds_toArray, List.set_cons_zero, List.set_cons_succ, i64_w, i32_w]
        rfl
      refine pure_ (i := 18) (N := some 29) (v := ?_) (a' := ?_) #[true, true, true, true, true, true, true, true, true, true, true, true, true, true, true, true, true, true, true, false, false, false, false, false, false, false] rfl rfl (by kernel_rfl) (fun _ _ _ h => h) (Or.inl ⟨by rfl, ?_⟩) ?_ ?_
      rotate_left
      · intro w'
        go_simp
        with_reducible rfl
      rotate_left
      · simp only [Act.put, List.setIfInBounds_toArray, List.set_cons_zero, List.set_cons_succ, i64_w, i32_w]
        rfl
      refine pure_ (i := 22) (N := some 33) (v := ?_) (a' := ?_) #[true, true, true, true, true, true, true, true, true, true, true, true, true, true, true, true, true, true, true, false, false, false, true, false, false, false] rfl rfl (by kernel_rfl) (fun _ _ _ h => h) (Or.inl ⟨by rfl, ?_⟩) ?_ ?_
      rotate_left
      · intro w'
        go_simp
        with_reducible rfl
      rotate_left
      · simp only [Act.put, List.setIfInBounds_toArray, List.set_cons_zero, List.set_cons_succ, i64_w, i32_w]
        rfl
      refine take_ (i := 19) (N := some 30) (v := ?_) (a' := ?_) #[true, true, true, true, true, true, true, true, true, true, true, true, true, true, true, true, true, true, true, true, false, false, true, false, false, false] rfl rfl (by kernel_rfl) (fun _ _ _ h => h) (Or.inl ⟨by rfl, ?_⟩) hHeld ?_ ?_
      rotate_left
      · rintro w' ⟨s0, s1, s2, s3, s4, s5, s6⟩
        go_simp
        with_reducible rfl
      rotate_left
      · simp only [Act.put, List.setIfInBounds_toArray, List.set_cons_zero, List.set_cons_succ, i64_w, i32_w]
        rfl
      refine take_ (i := 23) (N := some 34) (v := ?_) (a' := ?_) #[true, true, true, true, true, true, true, true, true, true, true, true, true, true, true, true, true, true, true, true, false, false, true, true, false, false] rfl rfl (by kernel_rfl) (fun _ _ _ h => h) (Or.inl ⟨by rfl, ?_⟩) hHeld ?_ ?_
      rotate_left
      · rintro w' ⟨s0, s1, s2, s3, s4, s5, s6⟩
        go_simp
        with_reducible rfl
      rotate_left
      · simp only [Act.put, List.setIfInBounds_toArray, List.set_cons_zero, List.set_cons_succ, i64_w, i32_w]
        rfl
      refine one_ (i := 20) (N := some 31) #[true, true, true, true, true, true, true, true, true, true, true, true, true, true, true, true, true, true, true, true, true, false, true, true, false, false] rfl rfl (by kernel_rfl) (by decide) (fun K hK => ?_)
      refine goes_ Try.func23 (by kernel_rfl) rfl #[.agg #[.int .i64 v.f0, .int .i64 v.f1, .string v.f2, .slice A3 v.f3.length c3]] (by rfl) rfl rfl (by simp only [List.map_toArray, List.map_cons, List.map_nil]; rfl) ?_
      have hrd := Kd.R_reads' HR5.out
      refine (chartroomref01_encode.calls 0 v.f0 v.f1 v.f2 A3 c3 v.f3 l W5 hrd.2.2 hrd.2.1 hen).mono ?_
      rintro e W6 ⟨v8, rfl, hR8, hb⟩
      clear hrd
      obtain ⟨A8, c8, rfl, _, hC8⟩ := Kd.R_reads hR8
      have hcv8 := Kd.C_string (P := Try.prog) (c := c8) Try.underlying27 Try.underlying5 Try.underlying9 hC8
      clear hR8 hC8
      have HI6 := Aside0.mk (show IsRf W6 (w.heap.size + 1) A c l l.length false from blk_below HI5.out hb)
      have V6 := Aside0.mk (blk_below V5.out hb)
      have G6 := Aside0.mk (blk_below G5.out hb)
      have HB6 := Aside0.mk (HB5.out.trans (hb.mono HB5.out.size))
      have HR6 := Aside0.mk (Kd.R_below HR5.out hb)
      clear hb HI5 V5 G5 HB5 HR5
      refine ⟨_, rfl, ?_⟩
      refine hK.out _ _ ⟨((blk_cell HI6.out 1).trans rfl), ((blk_cell HI6.out 2).trans rfl), ((blk_cell V6.out 0).trans rfl), ((blk_cell V6.out 1).trans rfl), ((blk_cell V6.out 2).trans rfl), ((blk_cell V6.out 3).trans rfl), (Kd.C_string (P := Try.prog) Try.underlying27 Try.underlying5 Try.underlying9 (Kd.C_below HR.out HB6.out))⟩ (fun hHeld => ?_)
      clear hK K
      refine norm_ (a' := ?_) ?_ ?_
      rotate_left
      · show Act.put _ (some 31) _ = _
        simp only [Act.put, List.setIfInBounds_toArray, List.set_cons_zero, List.set_cons_succ, i64_w, i32_w]
        rfl
      refine one_ (i := 21) (N := some 32) #[true, true, true, true, true, true, true, true, true, true, true, true, true, true, true, true, true, true, true, true, true, true, true, true, false, false] rfl rfl (by kernel_rfl) (by decide) (fun K hK => ?_)
      refine value_ (w1 := ?_) (v := ?_) (by rfl) rfl ?_ ?_
      rotate_left 2
      · go_simp
        constructor
        · rfl
        · rfl
      refine hK.out _ _ ⟨((blk_cell HI6.out 1).trans rfl), ((blk_cell HI6.out 2).trans rfl), ((blk_cell V6.out 0).trans rfl), ((blk_cell V6.out 1).trans rfl), ((blk_cell V6.out 2).trans rfl), ((blk_cell V6.out 3).trans rfl), (Kd.C_string (P := Try.prog) Try.underlying27 Try.underlying5 Try.underlying9 (Kd.C_below HR.out HB6.out))⟩ (fun hHeld => ?_)
      clear hK K
      refine norm_ (a' := ?_) ?_ ?_
      rotate_left
      · show Act.put _ (some 32) _ = _
        simp only [Act.put, List.setIfInBounds_toArray, List.set_cons_zero, List.set_cons_succ, i64_w, i32_w]
        rfl
      refine pure_ (i := 24) (N := some 35) (v := ?_) (a' := ?_) #[true, true, true, true, true, true, true, true, true, true, true, true, true, true, true, true, true, true, true, true, true, true, true, true, true, false] rfl rfl (by kernel_rfl) (fun _ _ _ h => h) (Or.inl ⟨by rfl, ?_⟩) ?_ ?_
      rotate_left
      · intro w'
        go_simp
        with_reducible rfl
      rotate_left
      · simp only [Act.put, List.setIfInBounds_toArray, List.set_cons_zero, List.set_cons_succ, i64_w, i32_w]
        rfl
      refine pure_ (i := 25) (N := some 36) (v := ?_) (a' := ?_) #[true, true, true, true, true, true, true, true, true, true, true, true, true, true, true, true, true, true, true, true, true, true, true, true, true, true] rfl rfl (by kernel_rfl) (fun _ _ _ h => h) (Or.inl ⟨by rfl, ?_⟩) ?_ ?_
      rotate_left
      · intro w'
        go_simp
        with_reducible rfl
      rotate_left
      · simp only [Act.put, List.setIfInBounds_toArray, List.set_cons_zero, List.set_cons_succ, i64_w, i32_w]
        rfl
      refine done_ (by kernel_rfl) ?_
      have v0 := (blk_cell V6.out 0).trans (show _ = some (Value.int .i64 v.f0) from rfl)
      have v1 := (blk_cell V6.out 1).trans (show _ = some (Value.int .i64 v.f1) from rfl)
      have v2 := (blk_cell V6.out 2).trans (show _ = some (Value.string v.f2) from rfl)
      have v3 := (blk_cell V6.out 3).trans (show _ = some (Value.slice A3 v.f3.length c3) from rfl)
      have g0 := (blk_cell G6.out 0).trans (show _ = some (Value.int .i64 0) from rfl)
      have g1 := (blk_cell G6.out 1).trans (show _ = some (Value.int .i64 0) from rfl)
      have g2 := (blk_cell G6.out 2).trans (show _ = some (Value.string ⟨#[]⟩) from rfl)
      have g3 := (blk_cell G6.out 3).trans (show _ = some (Value.slice none 0 0) from rfl)
      have gf := fun j => blk_frozen G6.out j
      go_wp2
      have G9 := Aside0.mk (blk_put (blk_put (blk_put (blk_put (G6.out) 0 (.int .i64 v.f0) rfl) 1 (.int .i64 v.f1) rfl) 2 (.string v.f2) rfl) 3 (.slice A3 v.f3.length c3) rfl)
      have HB9 := Aside0.mk (below_set (j := 3) (v := (.slice A3 v.f3.length c3)) (below_set (j := 2) (v := (.string v.f2)) (below_set (j := 1) (v := (.int .i64 v.f1)) (below_set (j := 0) (v := (.int .i64 v.f0)) (HB6.out) (Nat.le_refl _)) (Nat.le_refl _)) (Nat.le_refl _)) (Nat.le_refl _))
      have HR9 := Aside0.mk (Kd.R_far (p := ⟨w.heap.size, 3, none⟩) (Kd.R_far (p := ⟨w.heap.size, 2, none⟩) (Kd.R_far (p := ⟨w.heap.size, 1, none⟩) (Kd.R_far (p := ⟨w.heap.size, 0, none⟩) (HR6.out) (fun k hk => by show k ≠ w.heap.size; omega) (.int .i64 v.f0)) (fun k hk => by show k ≠ w.heap.size; omega) (.int .i64 v.f1)) (fun k hk => by show k ≠ w.heap.size; omega) (.string v.f2)) (fun k hk => by show k ≠ w.heap.size; omega) (.slice A3 v.f3.length c3))
      have d0 := (blk_cell G9.out 0).trans (show _ = some (Value.int .i64 v.f0) from rfl)
      have d1 := (blk_cell G9.out 1).trans (show _ = some (Value.int .i64 v.f1) from rfl)
      have d2 := (blk_cell G9.out 2).trans (show _ = some (Value.string v.f2) from rfl)
      have d3 := (blk_cell G9.out 3).trans (show _ = some (Value.slice A3 v.f3.length c3) from rfl)
      refine bodyPost_ret (v := .tuple #[.agg #[.int .i64 v.f0, .int .i64 v.f1, .string v.f2, .slice A3 v.f3.length c3], .int .i64 0]) (by simp [results, Try.results15, go_sem, d0, d1, d2, d3]) rfl ⟨.slice A3 v.f3.length c3, ?_, ?_, HB9.out⟩
      · first | rfl | rw [hP]
      · first | exact Kd.R_mono HR9.out (fun _ _ => trivial) | (rw [hP]; exact Kd.R_mono HR9.out (fun _ _ => trivial))
    · have hP : decP l = (z24, 10) := by
        unfold decP
        rw [hval]
        cases hd : l.drop at1 with
        | nil =>
          have : (l.drop at1).length = 0 := by rw [hd]; rfl
          rw [List.length_drop] at this
          omega
        | cons x y => rfl
      have hne : (at1 == l.length) = false := by simpa using hat
      have hne2 : ((at1 : Int) != (l.length : Int)) = true := by simp; omega
      have g0 := (blk_cell G3.out 0).trans (show _ = some (Value.int .i64 0) from rfl)
      have g1 := (blk_cell G3.out 1).trans (show _ = some (Value.int .i64 0) from rfl)
      have g2 := (blk_cell G3.out 2).trans (show _ = some (Value.string ⟨#[]⟩) from rfl)
      have g3 := (blk_cell G3.out 3).trans (show _ = some (Value.slice none 0 0) from rfl)
      have gf := fun j => blk_frozen G3.out j
      go_quiet (fail)
      go_wp2
      have G9 := Aside0.mk (blk_put (blk_put (blk_put (blk_put (blk_drewN G3.out nq) 0 (.int .i64 0) rfl) 1 (.int .i64 0) rfl) 2 (.string ⟨#[]⟩) rfl) 3 (.slice none 0 0) rfl)
      have HB9 := Aside0.mk (below_set (j := 3) (v := (.slice none 0 0)) (below_set (j := 2) (v := (.string ⟨#[]⟩)) (below_set (j := 1) (v := (.int .i64 0)) (below_set (j := 0) (v := (.int .i64 0)) (pw_below_drewN HB3.out nq) (Nat.le_refl _)) (Nat.le_refl _)) (Nat.le_refl _)) (Nat.le_refl _))
      have d0 := (blk_cell G9.out 0).trans (show _ = some (Value.int .i64 0) from rfl)
      have d1 := (blk_cell G9.out 1).trans (show _ = some (Value.int .i64 0) from rfl)
      have d2 := (blk_cell G9.out 2).trans (show _ = some (Value.string ⟨#[]⟩) from rfl)
      have d3 := (blk_cell G9.out 3).trans (show _ = some (Value.slice none 0 0) from rfl)
      refine bodyPost_ret (v := .tuple #[.agg #[.int .i64 0, .int .i64 0, .string ⟨#[]⟩, .slice none 0 0], .int .i64 10]) (by simp [results, Try.results15, go_sem, d0, d1, d2, d3]) rfl ⟨.slice none 0 0, ?_, ?_, HB9.out⟩
      · first | rfl | (rw [hP]; rfl)
      · first | exact Kd.R_nil _ _ _ _ _ | (rw [hP]; exact Kd.R_nil _ _ _ _ _)
def chartroomref01_Decode.f (k : Nat) (l0 : List Int) : Option (Int × Int × ByteArray × (List (S24)) × Int) := if l0.length < 2000000000 then (if (l0.all fun x => decide (0 ≤ x ∧ x < 256)) = true then some ((decP l0).1.f0, (decP l0).1.f1, (decP l0).1.f2, (decP l0).1.f3, (decP l0).2) else none) else none
theorem chartroomref01_Decode.mono : ∀ a0 k, LeO (chartroomref01_Decode.f k a0) (chartroomref01_Decode.f (k + 1) a0) := fun _ _ => LeO.refl _
theorem chartroomref01_Decode.calls (k : Nat) (A0 : Option Addr) (c0 : Nat) (l0 : List Int) (r1 : Int) (r2 : Int) (r3 : ByteArray) (r4 : List (S24)) (r5 : Int) (w : World) (hr0 : Kd.C (Kd.int .u8) w A0 l0.length l0) (hc0 : l0.length ≤ c0) (h : chartroomref01_Decode.f k l0 = some (r1, r2, r3, r4, r5)) :
    Calls Try.prog 15 #[.slice A0 l0.length c0] w fun e w' => ∃ v4_ : Value, e = .returned (.tuple #[.agg #[.int .i64 r1, .int .i64 r2, .string r3, v4_], .int .i64 r5]) ∧ Kd.R k24 24 w' w.heap.size (fun _ => True) v4_ r4 ∧ Below w.heap.size w w' := by
  unfold chartroomref01_Decode.f at h
  split at h
  · split at h
    · rename_i hl hb
      simp only [Option.some.injEq, Prod.mk.injEq] at h
      obtain ⟨rfl, rfl, rfl, rfl, rfl⟩ := h
      exact rdecode_walk A0 c0 l0 w hr0 hc0 hl (fun x hx => by simpa using List.all_eq_true.1 hb x hx)
    · cases h
  · cases h
end Go.Proofs.Ytncejmjicjlanaa.Q
