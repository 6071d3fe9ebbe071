/- Contract of codec.Decode: as the plain decP; nothing that was there changes, the value's lists are new. Condition: fewer than 2000000000 bytes. -/
import Derived.Test.YtncejmjicjlanaaHandValue
import Derived.Recover
import Derived.Laws.Pointers
namespace Go.Proofs.Ytncejmjicjlanaa.Q
open Go.RowKit Go.Proofs.YtncejmjicjlanaaW.PrintWords Go.Proofs.YtncejmjicjlanaaW.PrintLast Go.Proofs.YtncejmjicjlanaaW.PrintMore
set_option linter.unusedVariables false
set_option linter.unusedSimpArgs false
set_option maxHeartbeats 4000000 in
set_option maxRecDepth 100000 in
/-- The deferred closure behind a panic of the reader: the results are laid anew. -/
theorem catch_bad (g h : Nat) (x0 x1 x2 x3 y : Value) (w : World) (hg : w.heap[g]? = some (.cells #[x0, x1, x2, x3] 24 (0, 0))) (hh : w.heap[h]? = some (.cells #[y] 28 (0, 0))) (hn : g ≠ h) :
    CallsD Try.prog 27 #[.pointer (some ⟨g, 0, none⟩), .pointer (some ⟨h, 0, none⟩)] (.panicking [{ v := .iface 28 (.int .i64 10), recovered := false }]) w fun e u' w' =>
      e = .returned (.tuple #[]) ∧ u' = .panicking [{ v := .iface 28 (.int .i64 10), recovered := true }] ∧ w'.heap[g]? = some (.cells #[.int .i64 0, .int .i64 0, .string ⟨#[]⟩, .slice none 0 0] 24 (0, 0)) ∧ w'.heap[h]? = some (.cells #[.int .i64 10] 28 (0, 0)) ∧ ∀ B w0, B ≤ g → B ≤ h → Below B w0 w → Below B w0 w' := by
  have hc0 := blk_cell hg 0
  have hc1 := blk_cell hg 1
  have hc2 := blk_cell hg 2
  have hc3 := blk_cell hg 3
  have hfz := fun j => blk_frozen hg j
  have hd := blk_cell hh 0
  have hfd := blk_frozen hh 0
  simp at hc0 hc1 hc2 hc3 hd
  have hu24 := Try.underlying24
  have hta : ∀ W : World, (Instr.typeAssert (.iface 28 (.int .i64 10)) 20 28 false).run Try.prog W = .ok (.int .i64 10) W := fun W => by
    have h1 := Try.underlying28
    simp [Instr.typeAssert, go_sem, h1]
  have hn2 : ¬ h = g := fun e => hn e.symm
  refine callsD_of_wpS Try.func27 rfl fun c₀ cs hu => ?_
  apply wpS_seq
  apply wpS_region
  simp [wpOpsS, go_sem, recoverD, hu, Try.ntmps27, Exit.thenS]
  apply wpS_seq
  apply wpS_region
  simp [wpOpsS, go_sem, recoverD, hu, Try.ntmps27, Exit.thenS]
  refine wpS_cond (t := true) (by simp [Act.eval, Array.replicate]) ?_
  simp only [if_true]
  refine wpS_of_wp ?_
  simp [Array.replicate]
  go_wp2_with fail
  refine start_ (n := 5) (S := fun w' => True) (ds := [4]) #[false, false, false, false, false] (by kernel_rfl) rfl rfl trivial (fun hHeld => ?_)
  refine pure_ (i := 0) (N := some 6) (v := ?_) (a' := ?_) #[true, false, false, false, false] rfl rfl (by kernel_rfl) (fun _ _ _ h => h) (Or.inl ⟨by rfl, ?_⟩) ?_ ?_
  rotate_left
  · intro w'
    go_simp
    with_reducible rfl
  rotate_left
  · simp only [Act.put, List.setIfInBounds_toArray, List.set_cons_zero, List.set_cons_succ, i64_w, i32_w]
    rfl
  refine pure_ (i := 1) (N := some 7) (v := ?_) (a' := ?_) #[true, true, false, false, false] rfl rfl (by kernel_rfl) (fun _ _ _ h => h) (Or.inl ⟨by rfl, ?_⟩) ?_ ?_
  rotate_left
  · intro w'
    go_simp
    with_reducible rfl
  rotate_left
  · simp only [Act.put, List.setIfInBounds_toArray, List.set_cons_zero, List.set_cons_succ, i64_w, i32_w]
    rfl
  refine pure_ (i := 2) (N := some 8) (v := ?_) (a' := ?_) #[true, true, true, false, false] rfl rfl (by kernel_rfl) (fun _ _ _ h => h) (Or.inl ⟨by rfl, ?_⟩) ?_ ?_
  rotate_left
  · intro w'
    go_simp
    with_reducible rfl
  rotate_left
  · simp only [Act.put, List.setIfInBounds_toArray, List.set_cons_zero, List.set_cons_succ, i64_w, i32_w]
    rfl
  refine one_ (i := 3) (N := none) #[true, true, true, true, false] rfl rfl (by kernel_rfl) (by decide) (fun K hK => ?_)
  refine skip_ (w1 := ?_) (by rfl) rfl ?_ ?_
  rotate_left
  · go_simp
    rfl
  refine hK.out _ _ trivial (fun hHeld => ?_)
  clear hK K
  refine last_ (i := 4) (N := none) #[true, true, true, true, true] rfl rfl (by kernel_rfl) (by decide) (fun K hK => ?_)
  refine skip_ (w1 := ?_) (by rfl) rfl ?_ ?_
  rotate_left
  · go_simp
    rfl
  refine hK.out _ _ ?_
  clear hK K
  refine done_ (by kernel_rfl) ?_
  have hgs := blk_put (blk_put (blk_put (blk_put hg 0 (.int .i64 0) rfl) 1 (.int .i64 0) rfl) 2 (.string ⟨#[]⟩) rfl) 3 (.slice none 0 0) rfl
  have hhs := blk_far (blk_far (blk_far (blk_far hh (p := ⟨g, 0, none⟩) hn2 (.int .i64 0)) (p := ⟨g, 1, none⟩) hn2 (.int .i64 0)) (p := ⟨g, 2, none⟩) hn2 (.string ⟨#[]⟩)) (p := ⟨g, 3, none⟩) hn2 (.slice none 0 0)
  refine ⟨rfl, _, rfl, .tuple #[], by simp [results, Try.results27, go_sem], rfl, rfl, blk_drew (blk_far hgs (p := ⟨h, 0, none⟩) hn (.int .i64 10)), blk_drew (blk_put hhs 0 (.int .i64 10) rfl), fun B w0 h1 h2 hb => ?_⟩
  have hb5 := ((((hb.setCell (p := ⟨g, 0, none⟩) h1 (.int .i64 0)).setCell (p := ⟨g, 1, none⟩) h1 (.int .i64 0)).setCell (p := ⟨g, 2, none⟩) h1 (.string ⟨#[]⟩)).setCell (p := ⟨g, 3, none⟩) h1 (.slice none 0 0)).setCell (p := ⟨h, 0, none⟩) h2 (.int .i64 10)
  exact ⟨hb5.os, hb5.tape, hb5.output, hb5.size, hb5.block⟩
set_option maxHeartbeats 4000000 in
set_option maxRecDepth 100000 in
/-- The deferred closure behind a return: it does nothing. -/
theorem catch_idle (g h : Nat) (w : World) :
    CallsD Try.prog 27 #[.pointer (some ⟨g, 0, none⟩), .pointer (some ⟨h, 0, none⟩)] .returning w fun e u' w' => e = .returned (.tuple #[]) ∧ u' = .returning ∧ w' = w := by
  refine callsD_of_wpS Try.func27 rfl fun c₀ cs hu => ?_
  apply wpS_seq
  apply wpS_region
  simp [wpOpsS, go_sem, recoverD, hu, Try.ntmps27, Exit.thenS]
  apply wpS_seq
  apply wpS_region
  simp [wpOpsS, go_sem, recoverD, hu, Try.ntmps27, Exit.thenS]
  refine wpS_cond (t := false) (by simp [Act.eval, Array.replicate]) ?_
  simp only [Bool.false_eq_true, if_false]
  refine wpS_of_wp (wp_skip ?_)
  cases c₀
  simp_all [bodyPostS, results, Try.results27]
end Go.Proofs.Ytncejmjicjlanaa.Q
