/- Contract of ops.id: the list of the three numbers of an ID; nothing that was there changes. -/
import Derived.Test.YtncejmjicjlanaaDoorHandVals
namespace Go.Proofs.YtncejmjicjlanaaDoor.Q
open Go.RowKit Go.Proofs.YtncejmjicjlanaaDoorW.PrintWords Go.Proofs.YtncejmjicjlanaaDoorW.PrintLast Go.Proofs.YtncejmjicjlanaaDoorW.PrintMore
set_option linter.unusedVariables false
set_option linter.unusedSimpArgs false
set_option maxHeartbeats 4000000 in
set_option maxRecDepth 100000 in
theorem opsId (x0 x1 x2 : Int) (w : World) : Calls Tryd.prog 72 #[.agg #[.int .i64 x0, .int .i64 x1, .int .i64 x2]] w fun e w' => ∃ b, e = .returned (.agg #[.int .i64 3, .int .i64 0, .string ⟨#[]⟩, .slice (some ⟨b, 0, none⟩) 3 3]) ∧ Kd.C k63 w' (some ⟨b, 0, none⟩) 3 [nV x0, nV x1, nV x2] ∧ Below w.heap.size w w' := by
  have hu63 := Tryd.underlying63
  have hu43 := Tryd.underlying43
  go_enter Tryd.func72, Tryd.ntmps72
  go_wp2_with fail
  have X0 := Aside0.mk (blk_alloc (blk_new w (.cells #[.int .i64 x0, .int .i64 x1, .int .i64 x2] 43)) (.cells #[.int .i64 0, .int .i64 0, .string ⟨#[]⟩, .slice none 0 0] 63))
  have hH := blk_new (w.alloc (.cells #[.int .i64 x0, .int .i64 x1, .int .i64 x2] 43)) (.cells #[.int .i64 0, .int .i64 0, .string ⟨#[]⟩, .slice none 0 0] 63)
  rw [World.size_alloc] at hH
  have H0 := Aside0.mk hH
  clear hH
  have B0 := Aside0.mk (below_alloc (below_alloc (Below.refl w.heap.size w) (.cells #[.int .i64 x0, .int .i64 x1, .int .i64 x2] 43)) (.cells #[.int .i64 0, .int .i64 0, .string ⟨#[]⟩, .slice none 0 0] 63))
  generalize (w.alloc (.cells #[.int .i64 x0, .int .i64 x1, .int .i64 x2] 43)).alloc (.cells #[.int .i64 0, .int .i64 0, .string ⟨#[]⟩, .slice none 0 0] 63) = W0 at *
  refine start_ (n := 12) (S := fun w' => w'.cell? ⟨w.heap.size, 0, none⟩ = some (.int .i64 x0) ∧ w'.cell? ⟨w.heap.size, 1, none⟩ = some (.int .i64 x1) ∧ w'.cell? ⟨w.heap.size, 2, none⟩ = some (.int .i64 x2)) (ds := [11]) #[false, false, false, false, false, false, false, false, false, false, false, false] (by kernel_rfl) rfl rfl ⟨((blk_cell (blk_drew X0.out) 0).trans rfl), ((blk_cell (blk_drew X0.out) 1).trans rfl), ((blk_cell (blk_drew X0.out) 2).trans rfl)⟩ (fun hHeld => ?_)
  replace X0 := Aside0.mk (blk_drew X0.out)
  replace H0 := Aside0.mk (blk_drew H0.out)
  replace B0 := Aside0.mk (below_drew1 B0.out)
  generalize W0.drew = V0 at *
  refine pure_ (i := 0) (N := some 3) (v := ?_) (a' := ?_) #[true, false, false, false, false, false, false, false, false, false, false, false] rfl rfl (by kernel_rfl) (fun _ _ _ h => h) (Or.inl ⟨by rfl, ?_⟩) ?_ ?_
  rotate_left
  · intro w'
    go_simp
    with_reducible rfl
  rotate_left
  · simp only [Act.put, List.setIfInBounds_toArray, List.set_cons_zero, List.set_cons_succ, i64_w, i32_w]
    rfl
  refine pure_ (i := 3) (N := some 6) (v := ?_) (a' := ?_) #[true, false, false, true, false, false, false, false, false, false, false, false] rfl rfl (by kernel_rfl) (fun _ _ _ h => h) (Or.inl ⟨by rfl, ?_⟩) ?_ ?_
  rotate_left
  · intro w'
    go_simp
    with_reducible rfl
  rotate_left
  · simp only [Act.put, List.setIfInBounds_toArray, List.set_cons_zero, List.set_cons_succ, i64_w, i32_w]
    rfl
  refine pure_ (i := 6) (N := some 9) (v := ?_) (a' := ?_) #[true, false, false, true, false, false, true, false, false, false, false, false] rfl rfl (by kernel_rfl) (fun _ _ _ h => h) (Or.inl ⟨by rfl, ?_⟩) ?_ ?_
  rotate_left
  · intro w'
    go_simp
    with_reducible rfl
  rotate_left
  · simp only [Act.put, List.setIfInBounds_toArray, List.set_cons_zero, List.set_cons_succ, i64_w, i32_w]
    rfl
  refine take_ (i := 1) (N := some 4) (v := ?_) (a' := ?_) #[true, true, false, true, false, false, true, false, false, false, false, false] rfl rfl (by kernel_rfl) (fun _ _ _ h => h) (Or.inl ⟨by rfl, ?_⟩) hHeld ?_ ?_
  rotate_left
  · rintro w' ⟨s0, s1, s2⟩
    go_simp
    with_reducible rfl
  rotate_left
  · simp only [Act.put, List.setIfInBounds_toArray, List.set_cons_zero, List.set_cons_succ, i64_w, i32_w]
    rfl
  refine take_ (i := 4) (N := some 7) (v := ?_) (a' := ?_) #[true, true, false, true, true, false, true, false, false, false, false, false] rfl rfl (by kernel_rfl) (fun _ _ _ h => h) (Or.inl ⟨by rfl, ?_⟩) hHeld ?_ ?_
  rotate_left
  · rintro w' ⟨s0, s1, s2⟩
    go_simp
    with_reducible rfl
  rotate_left
  · simp only [Act.put, List.setIfInBounds_toArray, List.set_cons_zero, List.set_cons_succ, i64_w, i32_w]
    rfl
  refine take_ (i := 7) (N := some 10) (v := ?_) (a' := ?_) #[true, true, false, true, true, false, true, true, false, false, false, false] rfl rfl (by kernel_rfl) (fun _ _ _ h => h) (Or.inl ⟨by rfl, ?_⟩) hHeld ?_ ?_
  rotate_left
  · rintro w' ⟨s0, s1, s2⟩
    go_simp
    with_reducible rfl
  rotate_left
  · simp only [Act.put, List.setIfInBounds_toArray, List.set_cons_zero, List.set_cons_succ, i64_w, i32_w]
    rfl
  refine one_ (i := 2) (N := some 5) #[true, true, true, true, true, false, true, true, false, false, false, false] rfl rfl (by kernel_rfl) (by decide) (fun K hK => ?_)
  refine goes_ Tryd.func70 (by kernel_rfl) rfl #[.int .i64 x0] (by rfl) rfl rfl (by simp only [List.map_toArray, List.map_cons, List.map_nil]; rfl) ?_
  refine (opsNum x0 _).mono ?_
  rintro e V1 ⟨rfl, hb⟩
  refine ⟨_, rfl, ?_⟩
  have X1 := Aside0.mk (blk_below X0.out hb)
  have H1 := Aside0.mk (blk_below H0.out hb)
  have B1 := Aside0.mk (below_step B0.out hb)
  clear hb X0 H0 B0
  refine hK.out _ _ ⟨((blk_cell (X1.out) 0).trans rfl), ((blk_cell (X1.out) 1).trans rfl), ((blk_cell (X1.out) 2).trans rfl)⟩ (fun hHeld => ?_)
  clear hK K
  refine norm_ (a' := ?_) ?_ ?_
  rotate_left
  · show Act.put _ (some 5) _ = _
    simp only [Act.put, List.setIfInBounds_toArray, List.set_cons_zero, List.set_cons_succ, i64_w, i32_w]
    rfl
  refine one_ (i := 5) (N := some 8) #[true, true, true, true, true, true, true, true, false, false, false, false] rfl rfl (by kernel_rfl) (by decide) (fun K hK => ?_)
  refine goes_ Tryd.func70 (by kernel_rfl) rfl #[.int .i64 x1] (by rfl) rfl rfl (by simp only [List.map_toArray, List.map_cons, List.map_nil]; rfl) ?_
  refine (opsNum x1 _).mono ?_
  rintro e V2 ⟨rfl, hb⟩
  refine ⟨_, rfl, ?_⟩
  have X2 := Aside0.mk (blk_below X1.out hb)
  have H2 := Aside0.mk (blk_below H1.out hb)
  have B2 := Aside0.mk (below_step B1.out hb)
  clear hb X1 H1 B1
  refine hK.out _ _ ⟨((blk_cell (X2.out) 0).trans rfl), ((blk_cell (X2.out) 1).trans rfl), ((blk_cell (X2.out) 2).trans rfl)⟩ (fun hHeld => ?_)
  clear hK K
  refine norm_ (a' := ?_) ?_ ?_
  rotate_left
  · show Act.put _ (some 8) _ = _
    simp only [Act.put, List.setIfInBounds_toArray, List.set_cons_zero, List.set_cons_succ, i64_w, i32_w]
    rfl
  refine one_ (i := 8) (N := some 11) #[true, true, true, true, true, true, true, true, true, false, false, false] rfl rfl (by kernel_rfl) (by decide) (fun K hK => ?_)
  refine goes_ Tryd.func70 (by kernel_rfl) rfl #[.int .i64 x2] (by rfl) rfl rfl (by simp only [List.map_toArray, List.map_cons, List.map_nil]; rfl) ?_
  refine (opsNum x2 _).mono ?_
  rintro e V3 ⟨rfl, hb⟩
  refine ⟨_, rfl, ?_⟩
  have X3 := Aside0.mk (blk_below X2.out hb)
  have H3 := Aside0.mk (blk_below H2.out hb)
  have B3 := Aside0.mk (below_step B2.out hb)
  clear hb X2 H2 B2
  refine hK.out _ _ ⟨((blk_cell (X3.out) 0).trans rfl), ((blk_cell (X3.out) 1).trans rfl), ((blk_cell (X3.out) 2).trans rfl)⟩ (fun hHeld => ?_)
  clear hK K
  refine norm_ (a' := ?_) ?_ ?_
  rotate_left
  · show Act.put _ (some 11) _ = _
    simp only [Act.put, List.setIfInBounds_toArray, List.set_cons_zero, List.set_cons_succ, i64_w, i32_w]
    rfl
  refine one_ (i := 9) (N := some 12) #[true, true, true, true, true, true, true, true, true, true, false, false] rfl rfl (by kernel_rfl) (by decide) (fun K hK => ?_)
  refine value_ (w1 := ?_) (v := ?_) (by rfl) rfl ?_ ?_
  rotate_left 2
  · go_simp
    constructor
    · rfl
    · rfl
  have hT := blk_new V3 (.cells #[.int .i64 1, .int .i64 x0, .string ⟨#[]⟩, .slice none 0 0, .int .i64 1, .int .i64 x1, .string ⟨#[]⟩, .slice none 0 0, .int .i64 1, .int .i64 x2, .string ⟨#[]⟩, .slice none 0 0] 63)
  have X4 := Aside0.mk (blk_alloc X3.out (.cells #[.int .i64 1, .int .i64 x0, .string ⟨#[]⟩, .slice none 0 0, .int .i64 1, .int .i64 x1, .string ⟨#[]⟩, .slice none 0 0, .int .i64 1, .int .i64 x2, .string ⟨#[]⟩, .slice none 0 0] 63))
  have H4 := Aside0.mk (blk_alloc H3.out (.cells #[.int .i64 1, .int .i64 x0, .string ⟨#[]⟩, .slice none 0 0, .int .i64 1, .int .i64 x1, .string ⟨#[]⟩, .slice none 0 0, .int .i64 1, .int .i64 x2, .string ⟨#[]⟩, .slice none 0 0] 63))
  have B4 := Aside0.mk (below_alloc B3.out (.cells #[.int .i64 1, .int .i64 x0, .string ⟨#[]⟩, .slice none 0 0, .int .i64 1, .int .i64 x1, .string ⟨#[]⟩, .slice none 0 0, .int .i64 1, .int .i64 x2, .string ⟨#[]⟩, .slice none 0 0] 63))
  have NB : Aside0 (w.heap.size + 1 < V3.heap.size) := ⟨blk_lt H3.out⟩
  have T4 := Aside0.mk hT
  clear hT X3 H3 B3
  generalize V3.heap.size = bl at *
  generalize V3.alloc (.cells #[.int .i64 1, .int .i64 x0, .string ⟨#[]⟩, .slice none 0 0, .int .i64 1, .int .i64 x1, .string ⟨#[]⟩, .slice none 0 0, .int .i64 1, .int .i64 x2, .string ⟨#[]⟩, .slice none 0 0] 63) = V4 at *
  refine hK.out _ _ ⟨((blk_cell (X4.out) 0).trans rfl), ((blk_cell (X4.out) 1).trans rfl), ((blk_cell (X4.out) 2).trans rfl)⟩ (fun hHeld => ?_)
  clear hK K
  refine norm_ (a' := ?_) ?_ ?_
  rotate_left
  · show Act.put _ (some 12) _ = _
    simp only [Act.put, List.setIfInBounds_toArray, List.set_cons_zero, List.set_cons_succ, i64_w, i32_w]
    rfl
  refine one_ (i := 10) (N := some 13) #[true, true, true, true, true, true, true, true, true, true, true, false] rfl rfl (by kernel_rfl) (by decide) (fun K hK => ?_)
  refine goes_ Tryd.func69 (by kernel_rfl) rfl #[.slice (some ⟨bl, 0, none⟩) 3 3] (by rfl) rfl rfl (by simp only [List.map_toArray, List.map_cons, List.map_nil]; rfl) ?_
  refine (opsList (some ⟨bl, 0, none⟩) 3 3 _).mono ?_
  rintro e V5 ⟨rfl, hb⟩
  refine ⟨_, rfl, ?_⟩
  have X5 := Aside0.mk (blk_below X4.out hb)
  have H5 := Aside0.mk (blk_below H4.out hb)
  have B5 := Aside0.mk (below_step B4.out hb)
  have T5 := Aside0.mk (blk_below T4.out hb)
  clear hb X4 H4 B4 T4
  have hc0 : V5.cell? ⟨w.heap.size + 1, 0, none⟩ = some (.int .i64 0) := (blk_cell H5.out 0).trans rfl
  have hc1 : V5.cell? ⟨w.heap.size + 1, 1, none⟩ = some (.int .i64 0) := (blk_cell H5.out 1).trans rfl
  have hc2 : V5.cell? ⟨w.heap.size + 1, 2, none⟩ = some (.string ⟨#[]⟩) := (blk_cell H5.out 2).trans rfl
  have hc3 : V5.cell? ⟨w.heap.size + 1, 3, none⟩ = some (.slice none 0 0) := (blk_cell H5.out 3).trans rfl
  have hf0 := blk_frozen H5.out 0
  have hf1 := blk_frozen H5.out 1
  have hf2 := blk_frozen H5.out 2
  have hf3 := blk_frozen H5.out 3
  refine hK.out _ _ ⟨((blk_cell (X5.out) 0).trans rfl), ((blk_cell (X5.out) 1).trans rfl), ((blk_cell (X5.out) 2).trans rfl)⟩ (fun hHeld => ?_)
  clear hK K
  refine norm_ (a' := ?_) ?_ ?_
  rotate_left
  · show Act.put _ (some 13) _ = _
    simp only [Act.put, List.setIfInBounds_toArray, List.set_cons_zero, List.set_cons_succ, i64_w, i32_w]
    rfl
  refine last_ (i := 11) (N := none) #[true, true, true, true, true, true, true, true, true, true, true, true] rfl rfl (by kernel_rfl) (by decide) (fun K hK => ?_)
  refine skip_ (w1 := ?_) (by rfl) rfl ?_ ?_
  rotate_left
  · go_simp
    rfl
  refine hK.out _ _ ?_
  clear hK K
  refine done_ (by kernel_rfl) ?_
  go_wp2
  have hT6 : ((((V5.setCell ⟨w.heap.size + 1, 0, none⟩ (.int .i64 3)).setCell ⟨w.heap.size + 1, 1, none⟩ (.int .i64 0)).setCell ⟨w.heap.size + 1, 2, none⟩ (.string ⟨#[]⟩)).setCell ⟨w.heap.size + 1, 3, none⟩ (.slice (some ⟨bl, 0, none⟩) 3 3)).heap[bl]? = some (.cells #[.int .i64 1, .int .i64 x0, .string ⟨#[]⟩, .slice none 0 0, .int .i64 1, .int .i64 x1, .string ⟨#[]⟩, .slice none 0 0, .int .i64 1, .int .i64 x2, .string ⟨#[]⟩, .slice none 0 0] 63 (0, 0)) := by
    have hne : bl ≠ w.heap.size + 1 := by have := NB.out; omega
    rw [Below.heap_setCell _ _ _ _ hne, Below.heap_setCell _ _ _ _ hne, Below.heap_setCell _ _ _ _ hne, Below.heap_setCell _ _ _ _ hne]
    exact T5.out
  refine bodyPost_ret (v := .agg #[.int .i64 3, .int .i64 0, .string ⟨#[]⟩, .slice (some ⟨bl, 0, none⟩) 3 3]) (by simp [results, Tryd.results72, go_sem, hc0, hc1, hc2, hc3]) rfl ⟨bl, rfl, row_of (xs := [nV x0, nV x1, nV x2]) (vs := [[.int .i64 1, .int .i64 x0, .string ⟨#[]⟩, .slice none 0 0], [.int .i64 1, .int .i64 x1, .string ⟨#[]⟩, .slice none 0 0], [.int .i64 1, .int .i64 x2, .string ⟨#[]⟩, .slice none 0 0]]) hT6 rfl rfl (by simp) (fun j x v hx hv => by match j, hx, hv with | 0, hx, hv => (cases hx; cases hv; exact num_K _ _) | 1, hx, hv => (cases hx; cases hv; exact num_K _ _) | 2, hx, hv => (cases hx; cases hv; exact num_K _ _)), ?_⟩
  exact (((B5.out.setCell (p := ⟨w.heap.size + 1, 0, none⟩) (by show _ ≤ w.heap.size + 1; omega) _).setCell (p := ⟨w.heap.size + 1, 1, none⟩) (by show _ ≤ w.heap.size + 1; omega) _).setCell (p := ⟨w.heap.size + 1, 2, none⟩) (by show _ ≤ w.heap.size + 1; omega) _).setCell (p := ⟨w.heap.size + 1, 3, none⟩) (by show _ ≤ w.heap.size + 1; omega) _
end Go.Proofs.YtncejmjicjlanaaDoor.Q
