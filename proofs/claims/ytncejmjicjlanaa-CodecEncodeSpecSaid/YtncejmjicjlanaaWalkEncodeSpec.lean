/- The walk of CodecEncodeSpec: for every value in memory the law's function returns true. Conditions: the value's lists read as told, its numbers and texts are those of the model. -/
import Derived.Test.YtncejmjicjlanaaQ1
import Derived.Test.YtncejmjicjlanaaQ2
import Derived.Test.YtncejmjicjlanaaQ3
import Derived.Test.YtncejmjicjlanaaQ4
import Derived.Test.YtncejmjicjlanaaEvalB
import Derived.Test.YtncejmjicjlanaaHandSane
namespace Go.Proofs.Ytncejmjicjlanaa.Q
open Go.RowKit Go.Proofs.YtncejmjicjlanaaW.PrintWords Go.Proofs.YtncejmjicjlanaaW.PrintLast Go.Proofs.YtncejmjicjlanaaW.PrintMore
set_option linter.unusedVariables false
set_option linter.unusedSimpArgs false
/-- One value in a new row. -/
theorem vals1 {W : World} {B : Nat} {Kn N : Int} {S : ByteArray} {A : Option Addr} {c : Nat} {L : List S24} (h : W.heap[B]? = some (.cells #[.int .i64 Kn, .int .i64 N, .string S, .slice A L.length c] 24 (0, 0))) (hr : Kd.C k24 W A L.length L) (hc : L.length ≤ c) : Kd.C k24 W (some ⟨B, 0, none⟩) 1 [⟨Kn, N, S, L⟩] := by
  refine ⟨rfl, by omega, fun _ => ⟨_, rfl, fun j p hj => ?_⟩⟩
  match j, hj with
  | 0, hj =>
    simp at hj
    subst hj
    refine ⟨_, rfl, k24_mk _ _ hc hr, fun i u hu => ?_⟩
    rw [add_plain, blk_cell h]
    match i, hu with
    | 0, hu => simpa using hu
    | 1, hu => simpa using hu
    | 2, hu => simpa using hu
    | 3, hu => simpa using hu
set_option maxHeartbeats 4000000 in
set_option maxRecDepth 100000 in
theorem encodeSpec_walk (Kn N : Int) (S : ByteArray) (A : Option Addr) (c : Nat) (L : List S24) (w : World) (hr : Kd.C k24 w A L.length L) (hc : L.length ≤ c) (hok : okI ⟨Kn, N, S, L⟩ = true) :
    Calls Try.prog 3 #[.agg #[.int .i64 Kn, .int .i64 N, .string S, .slice A L.length c]] w fun e w' => e = .returned (.bool true) ∧ Below w.heap.size w w' := by
  have hu24 := Try.underlying24
  have HR := Aside0.mk hr
  have HC := Aside0.mk hc
  obtain ⟨kf, hf⟩ := few_ev ⟨Kn, N, S, L⟩
  have HF := Aside0.mk (hf kf (Nat.le_refl _))
  have HOK := Aside0.mk hok
  clear hr hc hf hok
  go_enter Try.func3, Try.ntmps3
  go_wp2_with fail
  have BK := Aside0.mk (blk_new w (.cells #[.int .i64 Kn, .int .i64 N, .string S, .slice A L.length c] 24))
  have HB := Aside0.mk (below_alloc (Below.refl w.heap.size w) (.cells #[.int .i64 Kn, .int .i64 N, .string S, .slice A L.length c] 24))
  generalize w.alloc (.cells #[.int .i64 Kn, .int .i64 N, .string S, .slice A L.length c] 24) = W0 at *
  refine (sane_calls W0).mono ?_
  rintro e W1 ⟨rfl, hb⟩
  replace BK := Aside0.mk (blk_below BK.out hb)
  replace HB := Aside0.mk (HB.out.trans (hb.mono HB.out.size))
  clear hb
  have c0 : W1.cell? ⟨w.heap.size, 0, none⟩ = some (.int .i64 Kn) := (blk_cell BK.out 0).trans rfl
  have c1 : W1.cell? ⟨w.heap.size, 1, none⟩ = some (.int .i64 N) := (blk_cell BK.out 1).trans rfl
  have c2 : W1.cell? ⟨w.heap.size, 2, none⟩ = some (.string S) := (blk_cell BK.out 2).trans rfl
  have c3 : W1.cell? ⟨w.heap.size, 3, none⟩ = some (.slice A L.length c) := (blk_cell BK.out 3).trans rfl
  go_wp2_with fail
  clear c0 c1 c2 c3
  have hX := blk_new W1 (.cells #[.int .i64 Kn, .int .i64 N, .string S, .slice A L.length c] 24)
  have BK2 := Aside0.mk (blk_alloc BK.out (.cells #[.int .i64 Kn, .int .i64 N, .string S, .slice A L.length c] 24))
  have HB2 := Aside0.mk (below_alloc HB.out (.cells #[.int .i64 Kn, .int .i64 N, .string S, .slice A L.length c] 24))
  clear BK HB
  generalize W1.heap.size = B1 at *
  generalize W1.alloc (.cells #[.int .i64 Kn, .int .i64 N, .string S, .slice A L.length c] 24) = W2 at *
  have hV := vals1 hX (Kd.C_below HR.out HB2.out) HC.out
  clear hX
  by_cases hcnt : cntP ⟨Kn, N, S, L⟩ 20 ≤ 200
  case neg =>
    have HF2 := HF.out
    simp only [hcnt, decide_false] at HF2
    refine (chartroomlaw01_few.calls kf _ 1 [⟨Kn, N, S, L⟩] false W2 hV (by simp) HF2).mono ?_
    rintro e W3 ⟨rfl, hb⟩
    go_wp2
    refine bodyPost_ret (v := .bool true) (by simp [results, Try.results3, go_sem]) rfl ⟨rfl, HB2.out.trans (hb.mono HB2.out.size)⟩
  have HF2 := HF.out
  simp only [hcnt, decide_true] at HF2
  obtain ⟨hlen, hsm⟩ := few_facts _ HOK.out hcnt
  obtain ⟨k1, h1⟩ := enc_ev _ hlen hsm
  obtain ⟨k2, h2⟩ := renc_ev _ hlen hsm HOK.out
  obtain ⟨k3, h3⟩ := size_ev _ hlen hsm
  obtain ⟨k4, h4⟩ := rsize_ev _ hlen hsm HOK.out
  obtain ⟨k5, h5⟩ := check_ev _ hsm
  obtain ⟨k6, h6⟩ := rcheck_ev _ hsm
  have E1 := Aside0.mk (h1 k1 (Nat.le_refl _))
  have E2 := Aside0.mk (h2 k2 (Nat.le_refl _))
  have E3 := Aside0.mk (h3 k3 (Nat.le_refl _))
  have E4 := Aside0.mk (h4 k4 (Nat.le_refl _))
  have E5 := Aside0.mk (h5 k5 (Nat.le_refl _))
  have E6 := Aside0.mk (h6 k6 (Nat.le_refl _))
  clear h1 h2 h3 h4 h5 h6 hlen hsm hcnt HF HOK
  simp only at E1 E2 E3 E4 E5 E6
  generalize encA ⟨Kn, N, S, L⟩ = E at *
  generalize chkP ⟨Kn, N, S, L⟩ = T at *
  refine (chartroomlaw01_few.calls kf _ 1 [⟨Kn, N, S, L⟩] true W2 hV (by simp) HF2).mono ?_
  rintro e W3 ⟨rfl, hb⟩
  have BK3 := Aside0.mk (blk_below BK2.out hb)
  have HB3 := Aside0.mk (HB2.out.trans (hb.mono HB2.out.size))
  clear hb hV HF2 BK2 HB2
  have c0 : W3.cell? ⟨w.heap.size, 0, none⟩ = some (.int .i64 Kn) := (blk_cell BK3.out 0).trans rfl
  have c1 : W3.cell? ⟨w.heap.size, 1, none⟩ = some (.int .i64 N) := (blk_cell BK3.out 1).trans rfl
  have c2 : W3.cell? ⟨w.heap.size, 2, none⟩ = some (.string S) := (blk_cell BK3.out 2).trans rfl
  have c3 : W3.cell? ⟨w.heap.size, 3, none⟩ = some (.slice A L.length c) := (blk_cell BK3.out 3).trans rfl
  go_wp2_with fail
  clear c0 c1 c2 c3
  refine (codec_Encode.calls k1 Kn N S A c L E T W3 (Kd.C_below HR.out HB3.out) HC.out E1.out).mono ?_
  rintro e W4 ⟨v1, rfl, hR, hb⟩
  have BK4 := Aside0.mk (blk_below BK3.out hb)
  have HB4 := Aside0.mk (HB3.out.trans (hb.mono HB3.out.size))
  obtain ⟨A1, n1, rfl, hc1, hC1⟩ := Kd.R_reads hR
  have R1 := Aside0.mk hC1
  clear hR hc1 hC1
  clear hb BK3 HB3
  have c0 : W4.cell? ⟨w.heap.size, 0, none⟩ = some (.int .i64 Kn) := (blk_cell BK4.out 0).trans rfl
  have c1 : W4.cell? ⟨w.heap.size, 1, none⟩ = some (.int .i64 N) := (blk_cell BK4.out 1).trans rfl
  have c2 : W4.cell? ⟨w.heap.size, 2, none⟩ = some (.string S) := (blk_cell BK4.out 2).trans rfl
  have c3 : W4.cell? ⟨w.heap.size, 3, none⟩ = some (.slice A L.length c) := (blk_cell BK4.out 3).trans rfl
  go_wp2_with fail
  clear c0 c1 c2 c3
  refine (chartroomref01_Encode.calls k2 Kn N S A c L E T W4 (Kd.C_below HR.out HB4.out) HC.out E2.out).mono ?_
  rintro e W5 ⟨v1, rfl, hR, hb⟩
  have BK5 := Aside0.mk (blk_below BK4.out hb)
  have HB5 := Aside0.mk (HB4.out.trans (hb.mono HB4.out.size))
  obtain ⟨A2, n2, rfl, hc2, hC2⟩ := Kd.R_reads hR
  have R2 := Aside0.mk hC2
  have R1 := Aside0.mk (Kd.C_below R1.out hb)
  clear hR hc2 hC2
  clear hb BK4 HB4
  have c0 : W5.cell? ⟨w.heap.size, 0, none⟩ = some (.int .i64 Kn) := (blk_cell BK5.out 0).trans rfl
  have c1 : W5.cell? ⟨w.heap.size, 1, none⟩ = some (.int .i64 N) := (blk_cell BK5.out 1).trans rfl
  have c2 : W5.cell? ⟨w.heap.size, 2, none⟩ = some (.string S) := (blk_cell BK5.out 2).trans rfl
  have c3 : W5.cell? ⟨w.heap.size, 3, none⟩ = some (.slice A L.length c) := (blk_cell BK5.out 3).trans rfl
  go_wp2_with fail
  clear c0 c1 c2 c3
  refine (codec_Size.calls k3 Kn N S A c L (E.length : Int) T W5 (Kd.C_below HR.out HB5.out) HC.out E3.out).mono ?_
  rintro e W6 ⟨rfl, hb⟩
  have BK6 := Aside0.mk (blk_below BK5.out hb)
  have HB6 := Aside0.mk (HB5.out.trans (hb.mono HB5.out.size))
  have R2 := Aside0.mk (Kd.C_below R2.out hb)
  have R1 := Aside0.mk (Kd.C_below R1.out hb)
  clear hb BK5 HB5
  have c0 : W6.cell? ⟨w.heap.size, 0, none⟩ = some (.int .i64 Kn) := (blk_cell BK6.out 0).trans rfl
  have c1 : W6.cell? ⟨w.heap.size, 1, none⟩ = some (.int .i64 N) := (blk_cell BK6.out 1).trans rfl
  have c2 : W6.cell? ⟨w.heap.size, 2, none⟩ = some (.string S) := (blk_cell BK6.out 2).trans rfl
  have c3 : W6.cell? ⟨w.heap.size, 3, none⟩ = some (.slice A L.length c) := (blk_cell BK6.out 3).trans rfl
  go_wp2_with fail
  clear c0 c1 c2 c3
  refine (chartroomref01_Size.calls k4 Kn N S A c L (E.length : Int) T W6 (Kd.C_below HR.out HB6.out) HC.out E4.out).mono ?_
  rintro e W7 ⟨rfl, hb⟩
  have BK7 := Aside0.mk (blk_below BK6.out hb)
  have HB7 := Aside0.mk (HB6.out.trans (hb.mono HB6.out.size))
  have R2 := Aside0.mk (Kd.C_below R2.out hb)
  have R1 := Aside0.mk (Kd.C_below R1.out hb)
  clear hb BK6 HB6
  go_wp2_with fail
  refine start_ (n := 28) (S := fun w' => w'.cell? ⟨w.heap.size, 0, none⟩ = some (.int .i64 Kn) ∧ w'.cell? ⟨w.heap.size, 1, none⟩ = some (.int .i64 N) ∧ w'.cell? ⟨w.heap.size, 2, none⟩ = some (.string S) ∧ w'.cell? ⟨w.heap.size, 3, none⟩ = some (.slice A L.length c) ∧ (convert 27 9 (.slice A1 E.length n1)).run Try.prog w' = .ok (.string (strOfNums E)) w' ∧ (convert 27 9 (.slice A2 E.length n2)).run Try.prog w' = .ok (.string (strOfNums E)) w') (ds := []) #[false, false, false, false, false, false, false, false, false, false, false, false, false, false, false, false, false, false, false, false, false, false, false, false, false, false, false, false] (by kernel_rfl) rfl rfl ⟨((blk_cell BK7.out 0).trans rfl), ((blk_cell BK7.out 1).trans rfl), ((blk_cell BK7.out 2).trans rfl), ((blk_cell BK7.out 3).trans rfl), (Kd.C_string (P := Try.prog) Try.underlying27 Try.underlying5 Try.underlying9 R1.out), (Kd.C_string (P := Try.prog) Try.underlying27 Try.underlying5 Try.underlying9 R2.out)⟩ (fun hHeld => ?_)
  have BK8 := Aside0.mk (blk_drew BK7.out)
  have HB8 := Aside0.mk (below_drew1 HB7.out)
  replace R1 := Aside0.mk (Kd.C_drew R1.out)
  replace R2 := Aside0.mk (Kd.C_drew R2.out)
  clear BK7 HB7
  generalize W7.drew = W8 at BK8 HB8 R1 R2 hHeld ⊢
  refine pure_ (i := 0) (N := some 37) (v := ?_) (a' := ?_) #[true, false, false, false, false, false, false, false, false, false, false, false, false, false, false, false, false, false, false, false, false, false, false, false, false, false, false, false] rfl rfl (by kernel_rfl) (fun _ _ _ h => h) (Or.inl ⟨by rfl, ?_⟩) ?_ ?_
  rotate_left
  · intro w'
    go_simp
    with_reducible rfl
  rotate_left
  · simp only [Act.put, List.setIfInBounds_toArray, List.set_cons_zero, List.set_cons_succ, i64_w, i32_w]
    rfl
  refine pure_ (i := 2) (N := some 39) (v := ?_) (a' := ?_) #[true, false, true, false, false, false, false, false, false, false, false, false, false, false, false, false, false, false, false, false, false, false, false, false, false, false, false, false] rfl rfl (by kernel_rfl) (fun _ _ _ h => h) (Or.inl ⟨by rfl, ?_⟩) ?_ ?_
  rotate_left
  · intro w'
    go_simp
    with_reducible rfl
  rotate_left
  · simp only [Act.put, List.setIfInBounds_toArray, List.set_cons_zero, List.set_cons_succ, i64_w, i32_w]
    rfl
  refine take_ (i := 1) (N := some 38) (v := ?_) (a' := ?_) #[true, true, true, false, false, false, false, false, false, false, false, false, false, false, false, false, false, false, false, false, false, false, false, false, false, false, false, false] rfl rfl (by kernel_rfl) (fun _ _ _ h => h) (Or.inl ⟨by rfl, ?_⟩) hHeld ?_ ?_
  rotate_left
  · rintro w' ⟨s0, s1, s2, s3, s4, s5⟩
    go_simp
    with_reducible rfl
  rotate_left
  · simp only [Act.put, List.setIfInBounds_toArray, List.set_cons_zero, List.set_cons_succ, i64_w, i32_w]
    rfl
  refine take_ (i := 3) (N := some 40) (v := ?_) (a' := ?_) #[true, true, true, true, false, false, false, false, false, false, false, false, false, false, false, false, false, false, false, false, false, false, false, false, false, false, false, false] rfl rfl (by kernel_rfl) (fun _ _ _ h => h) (Or.inl ⟨by rfl, ?_⟩) hHeld ?_ ?_
  rotate_left
  · rintro w' ⟨s0, s1, s2, s3, s4, s5⟩
    go_simp
    with_reducible rfl
  rotate_left
  · simp only [Act.put, List.setIfInBounds_toArray, List.set_cons_zero, List.set_cons_succ, i64_w, i32_w]
    rfl
  refine pure_ (i := 4) (N := some 41) (v := ?_) (a' := ?_) #[true, true, true, true, true, false, false, false, false, false, false, false, false, false, false, false, false, false, false, false, false, false, false, false, false, false, false, false] rfl rfl (by kernel_rfl) (fun _ _ _ h => h) (Or.inl ⟨by rfl, ?_⟩) ?_ ?_
  rotate_left
  · intro w'
    go_simp
    with_reducible rfl
  rotate_left
  · simp only [Act.put, List.setIfInBounds_toArray, List.set_cons_zero, List.set_cons_succ, i64_w, i32_w]
    rfl
  refine pure_ (i := 5) (N := some 42) (v := ?_) (a' := ?_) #[true, true, true, true, true, true, false, false, false, false, false, false, false, false, false, false, false, false, false, false, false, false, false, false, false, false, false, false] rfl rfl (by kernel_rfl) (fun _ _ _ h => h) (Or.inl ⟨by rfl, ?_⟩) ?_ ?_
  rotate_left
  · intro w'
    go_simp
    with_reducible rfl
  rotate_left
  · simp only [Act.put, List.setIfInBounds_toArray, List.set_cons_zero, List.set_cons_succ, i64_w, i32_w]
    rfl
  refine pure_ (i := 6) (N := some 43) (v := ?_) (a' := ?_) #[true, true, true, true, true, true, true, false, false, false, false, false, false, false, false, false, false, false, false, false, false, false, false, false, false, false, false, false] rfl rfl (by kernel_rfl) (fun _ _ _ h => h) (Or.inl ⟨by rfl, ?_⟩) ?_ ?_
  rotate_left
  · intro w'
    go_simp
    with_reducible rfl
  rotate_left
  · simp only [Act.put, List.setIfInBounds_toArray, List.set_cons_zero, List.set_cons_succ, i64_w, i32_w]
    rfl
  refine pure_ (i := 7) (N := some 44) (v := ?_) (a' := ?_) #[true, true, true, true, true, true, true, true, false, false, false, false, false, false, false, false, false, false, false, false, false, false, false, false, false, false, false, false] rfl rfl (by kernel_rfl) (fun _ _ _ h => h) (Or.inl ⟨by rfl, ?_⟩) ?_ ?_
  rotate_left
  · intro w'
    go_simp
    with_reducible rfl
  rotate_left
  · simp only [Act.put, List.setIfInBounds_toArray, List.set_cons_zero, List.set_cons_succ, i64_w, i32_w]
    rfl
  refine pure_ (i := 8) (N := some 45) (v := ?_) (a' := ?_) #[true, true, true, true, true, true, true, true, true, false, false, false, false, false, false, false, false, false, false, false, false, false, false, false, false, false, false, false] rfl rfl (by kernel_rfl) (fun _ _ _ h => h) (Or.inl ⟨by rfl, ?_⟩) ?_ ?_
  rotate_left
  · intro w'
    go_simp
    with_reducible rfl
  rotate_left
  · simp only [Act.put, List.setIfInBounds_toArray, List.set_cons_zero, List.set_cons_succ, i64_w, i32_w]
    rfl
  refine pure_ (i := 9) (N := some 46) (v := ?_) (a' := ?_) #[true, true, true, true, true, true, true, true, true, true, false, false, false, false, false, false, false, false, false, false, false, false, false, false, false, false, false, false] rfl rfl (by kernel_rfl) (fun _ _ _ h => h) (Or.inl ⟨by rfl, ?_⟩) ?_ ?_
  rotate_left
  · intro w'
    go_simp
    with_reducible rfl
  rotate_left
  · simp only [Act.put, List.setIfInBounds_toArray, List.set_cons_zero, List.set_cons_succ, i64_w, i32_w]
    rfl
  refine pure_ (i := 10) (N := some 47) (v := ?_) (a' := ?_) #[true, true, true, true, true, true, true, true, true, true, true, false, false, false, false, false, false, false, false, false, false, false, false, false, false, false, false, false] rfl rfl (by kernel_rfl) (fun _ _ _ h => h) (Or.inl ⟨by rfl, ?_⟩) ?_ ?_
  rotate_left
  · intro w'
    go_simp
    with_reducible rfl
  rotate_left
  · simp only [Act.put, List.setIfInBounds_toArray, List.set_cons_zero, List.set_cons_succ, i64_w, i32_w]
    rfl
  refine pure_ (i := 11) (N := some 48) (v := ?_) (a' := ?_) #[true, true, true, true, true, true, true, true, true, true, true, true, false, false, false, false, false, false, false, false, false, false, false, false, false, false, false, false] rfl rfl (by kernel_rfl) (fun _ _ _ h => h) (Or.inl ⟨by rfl, ?_⟩) ?_ ?_
  rotate_left
  · intro w'
    go_simp
    with_reducible rfl
  rotate_left
  · simp only [Act.put, List.setIfInBounds_toArray, List.set_cons_zero, List.set_cons_succ, i64_w, i32_w]
    rfl
  refine pure_ (i := 12) (N := some 49) (v := ?_) (a' := ?_) #[true, true, true, true, true, true, true, true, true, true, true, true, true, false, false, false, false, false, false, false, false, false, false, false, false, false, false, false] rfl rfl (by kernel_rfl) (fun _ _ _ h => h) (Or.inl ⟨by rfl, ?_⟩) ?_ ?_
  rotate_left
  · intro w'
    go_simp
    with_reducible rfl
  rotate_left
  · simp only [Act.put, List.setIfInBounds_toArray, List.set_cons_zero, List.set_cons_succ, i64_w, i32_w]
    rfl
  refine pure_ (i := 13) (N := some 50) (v := ?_) (a' := ?_) #[true, true, true, true, true, true, true, true, true, true, true, true, true, true, false, false, false, false, false, false, false, false, false, false, false, false, false, false] rfl rfl (by kernel_rfl) (fun _ _ _ h => h) (Or.inl ⟨by rfl, ?_⟩) ?_ ?_
  rotate_left
  · intro w'
    go_simp
    with_reducible rfl
  rotate_left
  · simp only [Act.put, List.setIfInBounds_toArray, List.set_cons_zero, List.set_cons_succ, i64_w, i32_w]
    rfl
  refine pure_ (i := 14) (N := some 51) (v := ?_) (a' := ?_) #[true, true, true, true, true, true, true, true, true, true, true, true, true, true, true, false, false, false, false, false, false, false, false, false, false, false, false, false] rfl rfl (by kernel_rfl) (fun _ _ _ h => h) (Or.inl ⟨by rfl, ?_⟩) ?_ ?_
  rotate_left
  · intro w'
    go_simp
    with_reducible rfl
  rotate_left
  · simp only [Act.put, List.setIfInBounds_toArray, List.set_cons_zero, List.set_cons_succ, i64_w, i32_w]
    rfl
  refine pure_ (i := 15) (N := some 52) (v := ?_) (a' := ?_) #[true, true, true, true, true, true, true, true, true, true, true, true, true, true, true, true, false, false, false, false, false, false, false, false, false, false, false, false] rfl rfl (by kernel_rfl) (fun _ _ _ h => h) (Or.inl ⟨by rfl, ?_⟩) ?_ ?_
  rotate_left
  · intro w'
    go_simp
    with_reducible rfl
  rotate_left
  · simp only [Act.put, List.setIfInBounds_toArray, List.set_cons_zero, List.set_cons_succ, i64_w, i32_w]
    rfl
  refine pure_ (i := 16) (N := some 53) (v := ?_) (a' := ?_) #[true, true, true, true, true, true, true, true, true, true, true, true, true, true, true, true, true, false, false, false, false, false, false, false, false, false, false, false] rfl rfl (by kernel_rfl) (fun _ _ _ h => h) (Or.inl ⟨by rfl, ?_⟩) ?_ ?_
  rotate_left
  · intro w'
    go_simp
    with_reducible rfl
  rotate_left
  · simp only [Act.put, List.setIfInBounds_toArray, List.set_cons_zero, List.set_cons_succ, i64_w, i32_w]
    rfl
  refine pure_ (i := 17) (N := some 54) (v := ?_) (a' := ?_) #[true, true, true, true, true, true, true, true, true, true, true, true, true, true, true, true, true, true, false, false, false, false, false, false, false, false, false, false] rfl rfl (by kernel_rfl) (fun _ _ _ h => h) (Or.inl ⟨by rfl, ?_⟩) ?_ ?_
  rotate_left
  · intro w'
    go_simp
    with_reducible rfl
  rotate_left
  · simp only [Act.put, List.setIfInBounds_toArray, List.set_cons_zero, List.set_cons_succ, i64_w, i32_w]
    rfl
  refine pure_ (i := 18) (N := some 55) (v := ?_) (a' := ?_) #[true, true, true, true, true, true, true, true, true, true, true, true, true, true, true, true, true, true, true, false, false, false, false, false, false, false, false, false] rfl rfl (by kernel_rfl) (fun _ _ _ h => h) (Or.inl ⟨by rfl, ?_⟩) ?_ ?_
  rotate_left
  · intro w'
    go_simp
    with_reducible rfl
  rotate_left
  · simp only [Act.put, List.setIfInBounds_toArray, List.set_cons_zero, List.set_cons_succ, i64_w, i32_w]
    rfl
  refine pure_ (i := 19) (N := some 56) (v := ?_) (a' := ?_) #[true, true, true, true, true, true, true, true, true, true, true, true, true, true, true, true, true, true, true, true, false, false, false, false, false, false, false, false] rfl rfl (by kernel_rfl) (fun _ _ _ h => h) (Or.inl ⟨by rfl, ?_⟩) ?_ ?_
  rotate_left
  · intro w'
    go_simp
    with_reducible rfl
  rotate_left
  · simp only [Act.put, List.setIfInBounds_toArray, List.set_cons_zero, List.set_cons_succ, i64_w, i32_w]
    rfl
  refine pure_ (i := 20) (N := some 57) (v := ?_) (a' := ?_) #[true, true, true, true, true, true, true, true, true, true, true, true, true, true, true, true, true, true, true, true, true, false, false, false, false, false, false, false] rfl rfl (by kernel_rfl) (fun _ _ _ h => h) (Or.inl ⟨by rfl, ?_⟩) ?_ ?_
  rotate_left
  · intro w'
    go_simp
    with_reducible rfl
  rotate_left
  · simp only [Act.put, List.setIfInBounds_toArray, List.set_cons_zero, List.set_cons_succ, i64_w, i32_w]
    rfl
  refine take_ (i := 21) (N := some 58) (v := ?_) (a' := ?_) #[true, true, true, true, true, true, true, true, true, true, true, true, true, true, true, true, true, true, true, true, true, true, false, false, false, false, false, false] rfl rfl (by kernel_rfl) (fun _ _ _ h => h) (Or.inl ⟨by rfl, ?_⟩) hHeld ?_ ?_
  rotate_left
  · rintro w' ⟨s0, s1, s2, s3, s4, s5⟩
    go_simp
    with_reducible rfl
  rotate_left
  · simp only [Act.put, List.setIfInBounds_toArray, List.set_cons_zero, List.set_cons_succ, i64_w, i32_w]
    rfl
  refine take_ (i := 23) (N := some 60) (v := ?_) (a' := ?_) #[true, true, true, true, true, true, true, true, true, true, true, true, true, true, true, true, true, true, true, true, true, true, false, true, false, false, false, false] rfl rfl (by kernel_rfl) (fun _ _ _ h => h) (Or.inl ⟨by rfl, ?_⟩) hHeld ?_ ?_
  rotate_left
  · rintro w' ⟨s0, s1, s2, s3, s4, s5⟩
    go_simp
    with_reducible rfl
  rotate_left
  · simp only [Act.put, List.setIfInBounds_toArray, List.set_cons_zero, List.set_cons_succ, i64_w, i32_w]
    rfl
  refine one_ (i := 22) (N := some 59) #[true, true, true, true, true, true, true, true, true, true, true, true, true, true, true, true, true, true, true, true, true, true, true, true, false, false, false, false] rfl rfl (by kernel_rfl) (by decide) (fun K hK => ?_)
  refine goes_ Try.func12 (by kernel_rfl) rfl #[.agg #[.int .i64 Kn, .int .i64 N, .string S, .slice A L.length c]] (by rfl) rfl rfl (by simp only [List.map_toArray, List.map_cons, List.map_nil]; rfl) ?_
  refine (codec_Check.calls k5 Kn N S A c L T W8 (Kd.C_below HR.out HB8.out) HC.out E5.out).mono ?_
  rintro e W9 ⟨rfl, hb⟩
  have BK9 := Aside0.mk (blk_below BK8.out hb)
  have HB9 := Aside0.mk (HB8.out.trans (hb.mono HB8.out.size))
  have R1 := Aside0.mk (Kd.C_below R1.out hb)
  have R2 := Aside0.mk (Kd.C_below R2.out hb)
  clear hb BK8 HB8
  refine ⟨_, rfl, ?_⟩
  refine hK.out _ _ ⟨((blk_cell BK9.out 0).trans rfl), ((blk_cell BK9.out 1).trans rfl), ((blk_cell BK9.out 2).trans rfl), ((blk_cell BK9.out 3).trans rfl), (Kd.C_string (P := Try.prog) Try.underlying27 Try.underlying5 Try.underlying9 R1.out), (Kd.C_string (P := Try.prog) Try.underlying27 Try.underlying5 Try.underlying9 R2.out)⟩ (fun hHeld => ?_)
  clear hK K
  refine norm_ (a' := ?_) ?_ ?_
  rotate_left
  · show Act.put _ (some 59) _ = _
    simp only [Act.put, List.setIfInBounds_toArray, List.set_cons_zero, List.set_cons_succ, i64_w, i32_w]
    rfl
  refine one_ (i := 24) (N := some 61) #[true, true, true, true, true, true, true, true, true, true, true, true, true, true, true, true, true, true, true, true, true, true, true, true, true, false, false, false] rfl rfl (by kernel_rfl) (by decide) (fun K hK => ?_)
  refine goes_ Try.func13 (by kernel_rfl) rfl #[.agg #[.int .i64 Kn, .int .i64 N, .string S, .slice A L.length c]] (by rfl) rfl rfl (by simp only [List.map_toArray, List.map_cons, List.map_nil]; rfl) ?_
  refine (chartroomref01_Check.calls k6 Kn N S A c L T W9 (Kd.C_below HR.out HB9.out) HC.out E6.out).mono ?_
  rintro e W10 ⟨rfl, hb⟩
  have BK10 := Aside0.mk (blk_below BK9.out hb)
  have HB10 := Aside0.mk (HB9.out.trans (hb.mono HB9.out.size))
  have R1 := Aside0.mk (Kd.C_below R1.out hb)
  have R2 := Aside0.mk (Kd.C_below R2.out hb)
  clear hb BK9 HB9
  refine ⟨_, rfl, ?_⟩
  refine hK.out _ _ ⟨((blk_cell BK10.out 0).trans rfl), ((blk_cell BK10.out 1).trans rfl), ((blk_cell BK10.out 2).trans rfl), ((blk_cell BK10.out 3).trans rfl), (Kd.C_string (P := Try.prog) Try.underlying27 Try.underlying5 Try.underlying9 R1.out), (Kd.C_string (P := Try.prog) Try.underlying27 Try.underlying5 Try.underlying9 R2.out)⟩ (fun hHeld => ?_)
  clear hK K
  refine norm_ (a' := ?_) ?_ ?_
  rotate_left
  · show Act.put _ (some 61) _ = _
    simp only [Act.put, List.setIfInBounds_toArray, List.set_cons_zero, List.set_cons_succ, i64_w, i32_w]
    rfl
  refine pure_ (i := 25) (N := some 62) (v := ?_) (a' := ?_) #[true, true, true, true, true, true, true, true, true, true, true, true, true, true, true, true, true, true, true, true, true, true, true, true, true, true, false, false] rfl rfl (by kernel_rfl) (fun _ _ _ h => h) (Or.inl ⟨by rfl, ?_⟩) ?_ ?_
  rotate_left
  · intro w'
    go_simp
    with_reducible rfl
  rotate_left
  · simp only [Act.put, List.setIfInBounds_toArray, List.set_cons_zero, List.set_cons_succ, i64_w, i32_w]
    rfl
  refine pure_ (i := 26) (N := some 63) (v := ?_) (a' := ?_) #[true, true, true, true, true, true, true, true, true, true, true, true, true, true, true, true, true, true, true, true, true, true, true, true, true, true, true, false] rfl rfl (by kernel_rfl) (fun _ _ _ h => h) (Or.inl ⟨by rfl, ?_⟩) ?_ ?_
  rotate_left
  · intro w'
    go_simp
    with_reducible rfl
  rotate_left
  · simp only [Act.put, List.setIfInBounds_toArray, List.set_cons_zero, List.set_cons_succ, i64_w, i32_w]
    rfl
  refine pure_ (i := 27) (N := some 2) (v := ?_) (a' := ?_) #[true, true, true, true, true, true, true, true, true, true, true, true, true, true, true, true, true, true, true, true, true, true, true, true, true, true, true, true] rfl rfl (by kernel_rfl) (fun _ _ _ h => h) (Or.inl ⟨by rfl, ?_⟩) ?_ ?_
  rotate_left
  · intro w'
    go_simp
    with_reducible rfl
  rotate_left
  · simp only [Act.put, List.setIfInBounds_toArray, List.set_cons_zero, List.set_cons_succ, i64_w, i32_w]
    rfl
  refine done_ (by kernel_rfl) ?_
  go_wp2
  refine bodyPost_ret (v := .bool true) (by simp [results, Try.results3, go_sem]) rfl ⟨rfl, HB10.out⟩
end Go.Proofs.Ytncejmjicjlanaa.Q
