/- Contracts of codec's writers of numbers and of texts: the encoding behind what was there; the row that is appended to is the call's own. -/
import Derived.Test.YtncejmjicjlanaaQ2
import Derived.Test.YtncejmjicjlanaaEncP
import Derived.Test.YtncejmjicjlanaaHandStr
import Derived.Laws.Pointers
namespace Go.Proofs.Ytncejmjicjlanaa.Q
open Go.RowKit Go.Proofs.YtncejmjicjlanaaW.PrintWords Go.Proofs.YtncejmjicjlanaaW.PrintLast Go.Proofs.YtncejmjicjlanaaW.PrintMore
set_option linter.unusedVariables false
set_option linter.unusedSimpArgs false
/-- How a writer ends: r behind its own row. -/
def WPost (w0 w : World) (P0 : Nat → Prop) (r : List Int) (e : Ending) (w' : World) : Prop :=
  ∃ v0, e = .returned v0 ∧ Kd.R (Kd.int .u8) 5 w' w0.heap.size (fun k => P0 k ∨ w.heap.size ≤ k) v0 r ∧ Below w0.heap.size w0 w' ∧ Kept w w' P0
set_option maxHeartbeats 400000 in
theorem unsigned_calls (n : Int) (w : World) : Calls Try.prog 35 #[.int .i64 n] w fun e w' => e = .returned (.int .u64 (unsP n)) ∧ w' = w := by
  go_enter Try.func35, Try.ntmps35
  go_wp2
  refine bodyPost_ret (v := .int .u64 (unsP n)) (by simp [results, Try.results35, go_sem, unsP]) rfl ⟨rfl, rfl⟩
set_option maxHeartbeats 4000000 in
set_option maxRecDepth 100000 in
theorem write_int (K N : Int) (S : ByteArray) (A : Option Addr) (c : Nat) (L : List S24) (P0 : Nat → Prop) (u : Value) (l0 : List Int) (w0 w : World) (hB : Below w0.heap.size w0 w) (hu0 : Kd.R (Kd.int .u8) 5 w w0.heap.size P0 u l0) (hl : (l0 ++ (1 :: numl (unsP N))).length < 140737487000000) :
    Calls Try.prog 33 #[u, .agg #[.int .i64 K, .int .i64 N, .string S, .slice A L.length c]] w (WPost w0 w P0 (l0 ++ (1 :: numl (unsP N)))) := by
  have hu24 := Try.underlying24
  have HU := Aside0.mk hu0
  have HB := Aside0.mk hB
  have HL := Aside0.mk hl
  clear hu0 hB hl
  go_enter Try.func33, Try.ntmps33
  go_wp2_with fail
  have BK := Aside0.mk (blk_new w (.cells #[.int .i64 K, .int .i64 N, .string S, .slice A L.length c] 24))
  have HO := Aside0.mk (Kd.R_mono (Kd.R_alloc (Kd.R_bound HU.out) (.cells #[.int .i64 K, .int .i64 N, .string S, .slice A L.length c] 24)) (ok' := fun k => (P0 k ∧ k < w.heap.size) ∨ w.heap.size + 1 ≤ k) (fun k hk => .inl ⟨hk.1, hk.2.2.1⟩))
  have HK := Aside0.mk (Kept.alloc (Kept.refl w P0) (.cells #[.int .i64 K, .int .i64 N, .string S, .slice A L.length c] 24))
  have HSZ := Aside0.mk (show (w.alloc (.cells #[.int .i64 K, .int .i64 N, .string S, .slice A L.length c] 24)).heap.size = w.heap.size + 1 by simp)
  have HB1 := Aside0.mk (below_alloc HB.out (.cells #[.int .i64 K, .int .i64 N, .string S, .slice A L.length c] 24))
  have hw0 := HB.out.size
  clear HB HU
  generalize w.alloc (.cells #[.int .i64 K, .int .i64 N, .string S, .slice A L.length c] 24) = W1 at *
  refine start_ (n := 8) (S := fun w' => w'.cell? ⟨w.heap.size, 1, none⟩ = some (.int .i64 N)) (ds := []) #[false, false, false, false, false, false, false, false] (by kernel_rfl) rfl rfl ((by exact (blk_cell BK.out 1).trans rfl)) (fun hHeld => ?_)
  replace BK := Aside0.mk (blk_drew BK.out)
  replace HO := Aside0.mk (Kd.R_drew HO.out)
  replace HK := Aside0.mk (Kept.drew HK.out)
  replace HB1 := Aside0.mk (below_drew1 HB1.out)
  replace HSZ := Aside0.mk (show W1.drew.heap.size = w.heap.size + 1 from HSZ.out)
  generalize W1.drew = W2 at BK HO HK HB1 HSZ hHeld ⊢
  refine pure_ (i := 0) (N := some 5) (v := ?_) (a' := ?_) #[true, false, false, false, false, false, false, false] rfl rfl (by kernel_rfl) (fun _ _ _ h => h) (Or.inl ⟨by rfl, ?_⟩) ?_ ?_
  rotate_left
  · intro w'
    go_simp
    with_reducible rfl
  rotate_left
  · simp only [Act.put, List.setIfInBounds_toArray, List.set_cons_zero, List.set_cons_succ, i64_w, i32_w]
    rfl
  refine pure_ (i := 3) (N := some 8) (v := ?_) (a' := ?_) #[true, false, false, true, false, false, false, false] rfl rfl (by kernel_rfl) (fun _ _ _ h => h) (Or.inl ⟨by rfl, ?_⟩) ?_ ?_
  rotate_left
  · intro w'
    go_simp
    with_reducible rfl
  rotate_left
  · simp only [Act.put, List.setIfInBounds_toArray, List.set_cons_zero, List.set_cons_succ, i64_w, i32_w]
    rfl
  refine take_ (i := 4) (N := some 9) (v := ?_) (a' := ?_) #[true, false, false, true, true, false, false, false] rfl rfl (by kernel_rfl) (fun _ _ _ h => h) (Or.inl ⟨by rfl, ?_⟩) hHeld ?_ ?_
  rotate_left
  · intro w' s0
    go_simp
    with_reducible rfl
  rotate_left
  · simp only [Act.put, List.setIfInBounds_toArray, List.set_cons_zero, List.set_cons_succ, i64_w, i32_w]
    rfl
  refine one_ (i := 1) (N := some 6) #[true, true, false, true, true, false, false, false] rfl rfl (by kernel_rfl) (by decide) (fun K hK => ?_)
  refine value_ (w1 := ?_) (v := ?_) (by rfl) rfl ?_ ?_
  rotate_left 2
  · go_simp
    constructor
    · rfl
    · rfl
  refine hK.out _ _ (((blk_cell (blk_alloc BK.out _) 1).trans rfl)) (fun hHeld => ?_)
  clear hK K
  refine norm_ (a' := ?_) ?_ ?_
  rotate_left
  · show Act.put _ (some 6) _ = _
    simp only [Act.put, List.setIfInBounds_toArray, List.set_cons_zero, List.set_cons_succ, i64_w, i32_w]
    rfl
  refine one_ (i := 2) (N := some 7) #[true, true, true, true, true, false, false, false] rfl rfl (by kernel_rfl) (by decide) (fun K hK => ?_)
  refine Kd.R_append_step (Kd.int .u8) (w0 := w0) w0.heap.size (by rfl) (.tmp 5) (.tmp 6) 27 5 (.int .u8 0) 1 rfl Try.underlying27 info5 rfl (by decide) (by omega) u l0 1 [.int .u8 1] (fun k => (P0 k ∧ k < w.heap.size) ∨ w.heap.size + 1 ≤ k) (fun _ => False) rfl rfl rfl (fun _ hk => hk.elim) (fun k hk => .inr (by have := HSZ.out; omega)) HO.out HB1.out (by have := HSZ.out; omega) (by have := HL.out; simp at this; omega) ?_
  intro v3 W3 ho hb hg hat
  have BK3 := Aside0.mk (blk_grown BK.out hg (Kd.R_away HO.out (fun k hk => by omega)))
  have HK3 := Aside0.mk (Kept.of_grown hg HK.out (fun k hk => by rcases HO.out.1 k hk with h1 | h1; exact .inl h1.1; exact .inr (by omega)))
  have HO3 := Aside0.mk ho
  have HB3 := Aside0.mk hb
  have hs3 : w.heap.size + 1 ≤ W3.heap.size := by have h1 := HSZ.out; have h2 := hg.size; omega
  clear BK HK HO HB1 ho hb hg hat
  refine hK.out _ _ (((blk_cell BK3.out 1).trans rfl)) (fun hHeld => ?_)
  clear hK K
  refine norm_ (a' := ?_) ?_ ?_
  rotate_left
  · show Act.put _ (some 7) _ = _
    simp only [Act.put, List.setIfInBounds_toArray, List.set_cons_zero, List.set_cons_succ, i64_w, i32_w]
    rfl
  refine one_ (i := 5) (N := some 10) #[true, true, true, true, true, true, false, false] rfl rfl (by kernel_rfl) (by decide) (fun K hK => ?_)
  refine goes_ Try.func35 (by kernel_rfl) rfl #[.int .i64 N] (by rfl) rfl rfl (by simp only [List.map_toArray, List.map_cons, List.map_nil]; rfl) ?_
  refine (unsigned_calls N W3).mono ?_
  rintro e W4 ⟨rfl, rfl⟩
  refine ⟨_, rfl, ?_⟩
  refine hK.out _ _ (((blk_cell BK3.out 1).trans rfl)) (fun hHeld => ?_)
  clear hK K
  refine norm_ (a' := ?_) ?_ ?_
  rotate_left
  · show Act.put _ (some 10) _ = _
    simp only [Act.put, List.setIfInBounds_toArray, List.set_cons_zero, List.set_cons_succ, i64_w, i32_w]
    rfl
  refine one_ (i := 6) (N := some 11) #[true, true, true, true, true, true, true, false] rfl rfl (by kernel_rfl) (by decide) (fun K hK => ?_)
  refine goes_ Try.func34 (by kernel_rfl) rfl #[v3, .int .u64 (unsP N)] (by rfl) rfl rfl (by simp only [List.map_toArray, List.map_cons, List.map_nil]; rfl) ?_
  refine (codec_numeral.calls 10 _ v3 _ _ _ w0 W4 HB3.out HO3.out (numl_eval _ _ (unsP_range N).1 (unsP_range N).2 (by have := HL.out; simp at this ⊢; omega))).mono ?_
  rintro e W5 ⟨v5, rfl, ho5, hb5, hk5⟩
  have BK5 := Aside0.mk (blk_kept BK3.out hk5 (fun hk => by omega))
  have HK5 := Aside0.mk (Kept.then_ HK3.out hk5 (fun k hk => by rcases hk with hk | hk; exact .inl hk.1; exact .inr (by omega)))
  have HO5 := Aside0.mk ho5
  have HB5 := Aside0.mk hb5
  have hs5 : W4.heap.size ≤ W5.heap.size := hk5.1
  clear BK3 HK3 HO3 HB3 ho5 hb5 hk5
  refine ⟨_, rfl, ?_⟩
  refine hK.out _ _ (((blk_cell BK5.out 1).trans rfl)) (fun hHeld => ?_)
  clear hK K
  refine norm_ (a' := ?_) ?_ ?_
  rotate_left
  · show Act.put _ (some 11) _ = _
    simp only [Act.put, List.setIfInBounds_toArray, List.set_cons_zero, List.set_cons_succ, i64_w, i32_w]
    rfl
  refine pure_ (i := 7) (N := some 4) (v := ?_) (a' := ?_) #[true, true, true, true, true, true, true, true] rfl rfl (by kernel_rfl) (fun _ _ _ h => h) (Or.inl ⟨by rfl, ?_⟩) ?_ ?_
  rotate_left
  · intro w'
    go_simp
    with_reducible rfl
  rotate_left
  · simp only [Act.put, List.setIfInBounds_toArray, List.set_cons_zero, List.set_cons_succ, i64_w, i32_w]
    rfl
  refine done_ (by kernel_rfl) ?_
  go_wp2
  refine bodyPost_ret (v := v5) (by simp [results, Try.results33, go_sem]) rfl ⟨_, rfl, ?_, HB5.out, HK5.out⟩
  have h := Kd.R_mono HO5.out (ok' := fun k => P0 k ∨ w.heap.size ≤ k) (fun k hk => by rcases hk with (hk | hk) | hk; exact .inl hk.1; exact .inr (by omega); exact .inr (by omega))
  simpa using h
set_option maxHeartbeats 4000000 in
set_option maxRecDepth 100000 in
theorem write_text (K N : Int) (S : ByteArray) (A : Option Addr) (c : Nat) (L : List S24) (P0 : Nat → Prop) (u : Value) (l0 : List Int) (w0 w : World) (hB : Below w0.heap.size w0 w) (hu0 : Kd.R (Kd.int .u8) 5 w w0.heap.size P0 u l0) (hl : (l0 ++ (2 :: (numl (S.size : Int) ++ bytesOf S))).length < 140737487000000) :
    Calls Try.prog 36 #[u, .agg #[.int .i64 K, .int .i64 N, .string S, .slice A L.length c]] w (WPost w0 w P0 (l0 ++ (2 :: (numl (S.size : Int) ++ bytesOf S)))) := by
  have hsw : IntKind.u64.wrap (S.size : Int) = (S.size : Int) := by rw [IntKind.wrap_u64]; simp [bytesOf_length] at hl; omega
  have hu24 := Try.underlying24
  have HU := Aside0.mk hu0
  have HB := Aside0.mk hB
  have HL := Aside0.mk hl
  clear hu0 hB hl
  go_enter Try.func36, Try.ntmps36
  go_wp2_with fail
  have BK := Aside0.mk (blk_new w (.cells #[.int .i64 K, .int .i64 N, .string S, .slice A L.length c] 24))
  have HO := Aside0.mk (Kd.R_mono (Kd.R_alloc (Kd.R_bound HU.out) (.cells #[.int .i64 K, .int .i64 N, .string S, .slice A L.length c] 24)) (ok' := fun k => (P0 k ∧ k < w.heap.size) ∨ w.heap.size + 1 ≤ k) (fun k hk => .inl ⟨hk.1, hk.2.2.1⟩))
  have HK := Aside0.mk (Kept.alloc (Kept.refl w P0) (.cells #[.int .i64 K, .int .i64 N, .string S, .slice A L.length c] 24))
  have HSZ := Aside0.mk (show (w.alloc (.cells #[.int .i64 K, .int .i64 N, .string S, .slice A L.length c] 24)).heap.size = w.heap.size + 1 by simp)
  have HB1 := Aside0.mk (below_alloc HB.out (.cells #[.int .i64 K, .int .i64 N, .string S, .slice A L.length c] 24))
  have hw0 := HB.out.size
  clear HB HU
  generalize w.alloc (.cells #[.int .i64 K, .int .i64 N, .string S, .slice A L.length c] 24) = W1 at *
  refine start_ (n := 12) (S := fun w' => w'.cell? ⟨w.heap.size, 2, none⟩ = some (.string S)) (ds := []) #[false, false, false, false, false, false, false, false, false, false, false, false] (by kernel_rfl) rfl rfl ((by exact (blk_cell BK.out 2).trans rfl)) (fun hHeld => ?_)
  replace BK := Aside0.mk (blk_drew BK.out)
  replace HO := Aside0.mk (Kd.R_drew HO.out)
  replace HK := Aside0.mk (Kept.drew HK.out)
  replace HB1 := Aside0.mk (below_drew1 HB1.out)
  replace HSZ := Aside0.mk (show W1.drew.heap.size = w.heap.size + 1 from HSZ.out)
  generalize W1.drew = W2 at BK HO HK HB1 HSZ hHeld ⊢
  refine pure_ (i := 0) (N := some 5) (v := ?_) (a' := ?_) #[true, false, false, false, false, false, false, false, false, false, false, false] rfl rfl (by kernel_rfl) (fun _ _ _ h => h) (Or.inl ⟨by rfl, ?_⟩) ?_ ?_
  rotate_left
  · intro w'
    go_simp
    with_reducible rfl
  rotate_left
  · simp only [Act.put, List.setIfInBounds_toArray, List.set_cons_zero, List.set_cons_succ, i64_w, i32_w]
    rfl
  refine pure_ (i := 3) (N := some 8) (v := ?_) (a' := ?_) #[true, false, false, true, false, false, false, false, false, false, false, false] rfl rfl (by kernel_rfl) (fun _ _ _ h => h) (Or.inl ⟨by rfl, ?_⟩) ?_ ?_
  rotate_left
  · intro w'
    go_simp
    with_reducible rfl
  rotate_left
  · simp only [Act.put, List.setIfInBounds_toArray, List.set_cons_zero, List.set_cons_succ, i64_w, i32_w]
    rfl
  refine pure_ (i := 8) (N := some 13) (v := ?_) (a' := ?_) #[true, false, false, true, false, false, false, false, true, false, false, false] rfl rfl (by kernel_rfl) (fun _ _ _ h => h) (Or.inl ⟨by rfl, ?_⟩) ?_ ?_
  rotate_left
  · intro w'
    go_simp
    with_reducible rfl
  rotate_left
  · simp only [Act.put, List.setIfInBounds_toArray, List.set_cons_zero, List.set_cons_succ, i64_w, i32_w]
    rfl
  refine take_ (i := 4) (N := some 9) (v := ?_) (a' := ?_) #[true, false, false, true, true, false, false, false, true, false, false, false] rfl rfl (by kernel_rfl) (fun _ _ _ h => h) (Or.inl ⟨by rfl, ?_⟩) hHeld ?_ ?_
  rotate_left
  · intro w' s0
    go_simp
    with_reducible rfl
  rotate_left
  · simp only [Act.put, List.setIfInBounds_toArray, List.set_cons_zero, List.set_cons_succ, i64_w, i32_w]
    rfl
  refine pure_ (i := 5) (N := some 10) (v := ?_) (a' := ?_) #[true, false, false, true, true, true, false, false, true, false, false, false] rfl rfl (by kernel_rfl) (fun _ _ _ h => h) (Or.inl ⟨by rfl, ?_⟩) ?_ ?_
  rotate_left
  · intro w'
    go_simp
    with_reducible rfl
  rotate_left
  · simp only [Act.put, List.setIfInBounds_toArray, List.set_cons_zero, List.set_cons_succ, i64_w, i32_w]
    rfl
  refine pure_ (i := 6) (N := some 11) (v := ?_) (a' := ?_) #[true, false, false, true, true, true, true, false, true, false, false, false] rfl rfl (by kernel_rfl) (fun _ _ _ h => h) (Or.inl ⟨by rfl, ?_⟩) ?_ ?_
  rotate_left
  · intro w'
    go_simp
    with_reducible rfl
  rotate_left
  · simp only [Act.put, List.setIfInBounds_toArray, List.set_cons_zero, List.set_cons_succ, i64_w, i32_w]
    rfl
  refine take_ (i := 9) (N := some 14) (v := ?_) (a' := ?_) #[true, false, false, true, true, true, true, false, true, true, false, false] rfl rfl (by kernel_rfl) (fun _ _ _ h => h) (Or.inl ⟨by rfl, ?_⟩) hHeld ?_ ?_
  rotate_left
  · intro w' s0
    go_simp
    with_reducible rfl
  rotate_left
  · simp only [Act.put, List.setIfInBounds_toArray, List.set_cons_zero, List.set_cons_succ, i64_w, i32_w]
    rfl
  refine one_ (i := 1) (N := some 6) #[true, true, false, true, true, true, true, false, true, true, false, false] rfl rfl (by kernel_rfl) (by decide) (fun K hK => ?_)
  refine value_ (w1 := ?_) (v := ?_) (by rfl) rfl ?_ ?_
  rotate_left 2
  · go_simp
    constructor
    · rfl
    · rfl
  refine hK.out _ _ (((blk_cell (blk_alloc BK.out _) 2).trans rfl)) (fun hHeld => ?_)
  clear hK K
  refine norm_ (a' := ?_) ?_ ?_
  rotate_left
  · show Act.put _ (some 6) _ = _
    simp only [Act.put, List.setIfInBounds_toArray, List.set_cons_zero, List.set_cons_succ, i64_w, i32_w]
    rfl
  refine one_ (i := 2) (N := some 7) #[true, true, true, true, true, true, true, false, true, true, false, false] rfl rfl (by kernel_rfl) (by decide) (fun K hK => ?_)
  refine Kd.R_append_step (Kd.int .u8) (w0 := w0) w0.heap.size (by rfl) (.tmp 5) (.tmp 6) 27 5 (.int .u8 0) 1 rfl Try.underlying27 info5 rfl (by decide) (by omega) u l0 2 [.int .u8 2] (fun k => (P0 k ∧ k < w.heap.size) ∨ w.heap.size + 1 ≤ k) (fun _ => False) rfl rfl rfl (fun _ hk => hk.elim) (fun k hk => .inr (by have := HSZ.out; omega)) HO.out HB1.out (by have := HSZ.out; omega) (by have := HL.out; simp at this; omega) ?_
  intro v3 W3 ho hb hg hat
  have BK3 := Aside0.mk (blk_grown BK.out hg (Kd.R_away HO.out (fun k hk => by omega)))
  have HK3 := Aside0.mk (Kept.of_grown hg HK.out (fun k hk => by rcases HO.out.1 k hk with h1 | h1; exact .inl h1.1; exact .inr (by omega)))
  have HO3 := Aside0.mk ho
  have HB3 := Aside0.mk hb
  have hs3 : w.heap.size + 1 ≤ W3.heap.size := by have h1 := HSZ.out; have h2 := hg.size; omega
  clear BK HK HO HB1 ho hb hg hat
  refine hK.out _ _ (((blk_cell BK3.out 2).trans rfl)) (fun hHeld => ?_)
  clear hK K
  refine norm_ (a' := ?_) ?_ ?_
  rotate_left
  · show Act.put _ (some 7) _ = _
    simp only [Act.put, List.setIfInBounds_toArray, List.set_cons_zero, List.set_cons_succ, i64_w, i32_w]
    rfl
  refine one_ (i := 7) (N := some 12) #[true, true, true, true, true, true, true, true, true, true, false, false] rfl rfl (by kernel_rfl) (by decide) (fun K hK => ?_)
  refine goes_ Try.func34 (by kernel_rfl) rfl #[v3, .int .u64 (S.size : Int)] (by rfl) rfl rfl (by simp only [List.map_toArray, List.map_cons, List.map_nil]; rfl) ?_
  refine (codec_numeral.calls 10 _ v3 _ _ _ w0 W3 HB3.out HO3.out (numl_eval _ _ (by omega) (by have := HL.out; simp [bytesOf_length] at this; omega) (by have := HL.out; simp at this ⊢; omega))).mono ?_
  rintro e W5 ⟨v5, rfl, ho5, hb5, hk5⟩
  have BK5 := Aside0.mk (blk_kept BK3.out hk5 (fun hk => by omega))
  have HK5 := Aside0.mk (Kept.then_ HK3.out hk5 (fun k hk => by rcases hk with hk | hk; exact .inl hk.1; exact .inr (by omega)))
  have HO5 := Aside0.mk ho5
  have HB5 := Aside0.mk hb5
  have hs5 : W3.heap.size ≤ W5.heap.size := hk5.1
  clear BK3 HK3 HO3 HB3 ho5 hb5 hk5
  refine ⟨_, rfl, ?_⟩
  refine hK.out _ _ (((blk_cell BK5.out 2).trans rfl)) (fun hHeld => ?_)
  clear hK K
  refine norm_ (a' := ?_) ?_ ?_
  rotate_left
  · show Act.put _ (some 12) _ = _
    simp only [Act.put, List.setIfInBounds_toArray, List.set_cons_zero, List.set_cons_succ, i64_w, i32_w]
    rfl
  refine one_ (i := 10) (N := some 15) #[true, true, true, true, true, true, true, true, true, true, true, false] rfl rfl (by kernel_rfl) (by decide) (fun K hK => ?_)
  refine append_str_step (w0 := w0) w0.heap.size (by rfl) (.tmp 12) (.tmp 14) 27 9 5 rfl Try.underlying27 Try.underlying9 info5 v5 _ S (fun k => ((P0 k ∧ k < w.heap.size) ∨ w.heap.size + 1 ≤ k) ∨ W3.heap.size ≤ k) rfl rfl (fun k hk => .inr (by omega)) HO5.out HB5.out (by omega) (by have := HL.out; simp [bytesOf_length] at this ⊢; omega) ?_
  intro v7 W7 ho hb hg
  have BK7 := Aside0.mk (blk_grown BK5.out hg (Kd.R_away HO5.out (fun k hk => by omega)))
  have HK7 := Aside0.mk (Kept.of_grown hg HK5.out (fun k hk => by rcases HO5.out.1 k hk with (h1 | h1) | h1; exact .inl h1.1; exact .inr (by omega); exact .inr (by omega)))
  have HO7 := Aside0.mk ho
  have HB7 := Aside0.mk hb
  have hs7 : W5.heap.size ≤ W7.heap.size := hg.size
  clear BK5 HK5 HO5 HB5 ho hb hg
  refine hK.out _ _ (((blk_cell BK7.out 2).trans rfl)) (fun hHeld => ?_)
  clear hK K
  refine norm_ (a' := ?_) ?_ ?_
  rotate_left
  · show Act.put _ (some 15) _ = _
    simp only [Act.put, List.setIfInBounds_toArray, List.set_cons_zero, List.set_cons_succ, i64_w, i32_w]
    rfl
  refine pure_ (i := 11) (N := some 4) (v := ?_) (a' := ?_) #[true, true, true, true, true, true, true, true, true, true, true, true] rfl rfl (by kernel_rfl) (fun _ _ _ h => h) (Or.inl ⟨by rfl, ?_⟩) ?_ ?_
  rotate_left
  · intro w'
    go_simp
    with_reducible rfl
  rotate_left
  · simp only [Act.put, List.setIfInBounds_toArray, List.set_cons_zero, List.set_cons_succ, i64_w, i32_w]
    rfl
  refine done_ (by kernel_rfl) ?_
  go_wp2
  refine bodyPost_ret (v := v7) (by simp [results, Try.results36, go_sem]) rfl ⟨_, rfl, ?_, HB7.out, HK7.out⟩
  have h := Kd.R_mono HO7.out (ok' := fun k => P0 k ∨ w.heap.size ≤ k) (fun k hk => by rcases hk with (hk | hk) | hk; exact .inl hk.1; exact .inr (by omega); exact .inr (by omega))
  simpa using h
end Go.Proofs.Ytncejmjicjlanaa.Q
