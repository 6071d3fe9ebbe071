/- The iterator of vector.pairs over two lists of dots: it yields the merged pairs (device, number in the one, number in the other), in order, one round each. Conditions: both slices read as the lists. -/
import Derived.Test.YtncejmjicjlanaaDoorQ0
import Derived.Test.YtncejmjicjlanaaDoorRange
import Derived.TacticsInMore
import Derived.OwnWalkIn
import Derived.LoopNIn
import Derived.LoopIn
import Derived.BigRegion
import Derived.Outline
import Derived.StillTailTactics
namespace Go.Proofs.YtncejmjicjlanaaDoor.Q
open Go.RowKit Go.Proofs.YtncejmjicjlanaaDoorW.PrintWords Go.Proofs.YtncejmjicjlanaaDoorW.PrintLast Go.Proofs.YtncejmjicjlanaaDoorW.PrintMore
set_option linter.unusedVariables false
set_option linter.unusedSimpArgs false

/-- The pairs of two lists of dots: device, number in the first, number in the second. -/
def prs : List S24 → List S24 → List (Int × Int × Int)
  | [], [] => []
  | x :: a, [] => (x.f0, x.f1, 0) :: prs a []
  | [], y :: b => (y.f0, 0, y.f1) :: prs [] b
  | x :: a, y :: b => if x.f0 < y.f0 then (x.f0, x.f1, 0) :: prs a (y :: b) else if y.f0 < x.f0 then (y.f0, 0, y.f1) :: prs (x :: a) b else (x.f0, x.f1, y.f1) :: prs a b
  termination_by a b => a.length + b.length

def encPr (x : Int × Int × Int) : Array Value := #[.agg #[.int .i64 x.1, .int .i64 x.2.1, .int .i64 x.2.2]]
/-- The length of the slice that a block's cell holds. -/
def lenAt (W : World) (B : Nat) : Nat := match W.cell? ⟨B, 0, none⟩ with | some (.slice _ n _) => n | _ => 0
theorem lenAt_eq {W : World} {B n c : Nat} {A : Option Addr} (h : W.cell? ⟨B, 0, none⟩ = some (.slice A n c)) : lenAt W B = n := by simp [lenAt, h]

/-- The iterator's state: what is left of the two lists. -/
def Left (w0 : World) (Ba Bb : Nat) (la lb : List S24) (J : List (Int × Int × Int) → World → Prop) (pre : List (Int × Int × Int)) (ra rb : List S24) (W : World) : Prop :=
  prs la lb = pre ++ prs ra rb ∧ J pre W ∧ Below w0.heap.size w0 W ∧
  (∃ A c, W.heap[Ba]? = some (.cells #[.slice A ra.length c] 22 (0, 0)) ∧ ra.length ≤ c ∧ Kd.C k24 w0 A ra.length ra) ∧
  (∃ A c, W.heap[Bb]? = some (.cells #[.slice A rb.length c] 22 (0, 0)) ∧ rb.length ≤ c ∧ Kd.C k24 w0 A rb.length rb)

theorem prs_l (x : S24) (a : List S24) : prs (x :: a) [] = (x.f0, x.f1, 0) :: prs a [] := by rw [prs]
theorem prs_r (y : S24) (b : List S24) : prs [] (y :: b) = (y.f0, 0, y.f1) :: prs [] b := by rw [prs]
theorem prs_lt {x y : S24} (a b : List S24) (h : x.f0 < y.f0) : prs (x :: a) (y :: b) = (x.f0, x.f1, 0) :: prs a (y :: b) := by rw [prs, if_pos h]
theorem prs_gt {x y : S24} (a b : List S24) (h2 : y.f0 < x.f0) : prs (x :: a) (y :: b) = (y.f0, 0, y.f1) :: prs (x :: a) b := by rw [prs, if_neg (by omega), if_pos h2]
theorem prs_eq {x y : S24} (a b : List S24) (h1 : y.f0 ≤ x.f0) (h3 : x.f0 ≤ y.f0) : prs (x :: a) (y :: b) = (x.f0, x.f1, y.f1) :: prs a b := by rw [prs, if_neg (by omega), if_neg (by omega)]
theorem drop1 {w : World} {ad : Addr} {c : Nat} {x : S24} {l : List S24} (h : Kd.C k24 w (some ad) (x :: l).length (x :: l)) (hc : (x :: l).length ≤ c) : Kd.C k24 w (if c = 1 then some ad else some (ad.add 2)) l.length l := Kd.C_drop (m := 1) h (by simp) hc
theorem cut1 (ad : Addr) (n c : Nat) (W : World) : (Instr.slice 22 (.slice (some ad) (n + 1) c) (some (.int .i64 1)) none none).run Tryd.prog W = .ok (.slice (if c = 1 then some ad else some (ad.add 2)) n (c - 1)) W := by
  obtain ⟨i0, hi, hz0, hz1, hz2⟩ := info_parts info24
  have := cut_from (P := Tryd.prog) 22 24 .i64 Tryd.underlying22 hi 2 hz1 (some ad) (n + 1) c 1 (by omega) (by omega) W
  simpa using this
theorem iter3 {Ba Bb Bp : Nat} {wr W2 : World} (h : IterStep Ba Bb wr W2) (hp : wr.heap.size = Bp) (u0 u1 u2 : Value) : IterStep Ba Bb wr (((W2.setCell ⟨Bp, 0, none⟩ u0).setCell ⟨Bp, 1, none⟩ u1).setCell ⟨Bp, 2, none⟩ u2) :=
  ((h.setN (p := ⟨Bp, 0, none⟩) (by show _ ≤ Bp; omega) u0).setN (p := ⟨Bp, 1, none⟩) (by show _ ≤ Bp; omega) u1).setN (p := ⟨Bp, 2, none⟩) (by show _ ≤ Bp; omega) u2
theorem iter_below {Ba Bb n0 : Nat} {A B : World} (h : IterStep Ba Bb A B) (ha : n0 ≤ Ba) (hb : n0 ≤ Bb) (hn : n0 ≤ A.heap.size) : Below n0 A B := ⟨h.os, h.tape, h.output, h.size, fun k hk => h.block k (by omega) (by omega) (by omega)⟩
theorem blk_heap {w w1 : World} (h : w1.heap = w.heap) {g : Nat} {o : Obj} (hb : w.heap[g]? = some o) : w1.heap[g]? = some o := by rw [h]; exact hb
theorem cell_heap {w w1 : World} (h : w1.heap = w.heap) {a : Addr} {v : Value} (hc : w.cell? a = some v) : w1.cell? a = some v := by
  unfold World.cell? at *
  rw [h]
  exact hc
theorem set3_cell {W : World} {Bp : Nat} {p : Addr} {u0 u1 u2 v : Value} (h : W.cell? p = some v) (hne : p.block ≠ Bp) : (((W.setCell ⟨Bp, 0, none⟩ u0).setCell ⟨Bp, 1, none⟩ u1).setCell ⟨Bp, 2, none⟩ u2).cell? p = some v := by
  have e : (((W.setCell ⟨Bp, 0, none⟩ u0).setCell ⟨Bp, 1, none⟩ u1).setCell ⟨Bp, 2, none⟩ u2).heap[p.block]? = W.heap[p.block]? := by
    rw [Below.heap_setCell _ _ _ _ hne, Below.heap_setCell _ _ _ _ hne, Below.heap_setCell _ _ _ _ hne]
  exact (World.cell?_of_block e).trans h
theorem set3_blk {W : World} {Bp k : Nat} {u0 u1 u2 : Value} (hne : k ≠ Bp) : (((W.setCell ⟨Bp, 0, none⟩ u0).setCell ⟨Bp, 1, none⟩ u1).setCell ⟨Bp, 2, none⟩ u2).heap[k]? = W.heap[k]? := by
  rw [Below.heap_setCell _ _ _ _ hne, Below.heap_setCell _ _ _ _ hne, Below.heap_setCell _ _ _ _ hne]
theorem set3_same {W : World} {Bp : Nat} {t : TypeId} {v0 v1 v2 u0 u1 u2 : Value} (h : W.heap[Bp]? = some (.cells #[v0, v1, v2] t (0, 0))) : (((W.setCell ⟨Bp, 0, none⟩ u0).setCell ⟨Bp, 1, none⟩ u1).setCell ⟨Bp, 2, none⟩ u2).heap[Bp]? = some (.cells #[u0, u1, u2] t (0, 0)) := by
  have := blk_set (blk_set (blk_set h 0 u0) 1 u1) 2 u2
  simpa using this
theorem set1_same {W : World} {B : Nat} {t : TypeId} {v0 u0 : Value} (h : W.heap[B]? = some (.cells #[v0] t (0, 0))) : (W.setCell ⟨B, 0, none⟩ u0).heap[B]? = some (.cells #[u0] t (0, 0)) := by
  have := blk_set h 0 u0
  simpa using this

theorem AllReadyL.cons_same {P : Program} {ops : Array Oper} {Q : Exit → Act → World → Prop} {md : Region.Mode} {S : World → Prop} {ds : List Nat} {fuel : Nat} {listed : Array Bool} {a : Act} {w : World} {i : Nat} {o : Oper} {rs : List Nat} {v : Value} (ho : ops[i]? = some o)
    (hw : Region.wanted o (yielded ops a.tmps) = true) (hrun : (execOp a.eval o).run P w = .ok (.value v) w) (h : wpAnyLast P md ops Q S ds fuel (listed.setIfInBounds i true) (a.put o.dst v) w) (hs : AllReadyL P md ops Q S ds fuel listed a w rs) : AllReadyL P md ops Q S ds fuel listed a w (i :: rs) := fun j hj => by
  rcases List.mem_cons.1 hj with rfl | hj
  · exact wpOp_step ho (fun K' hK => value_ hw rfl hrun (hK _ _ ⟨fun _ h => h, h⟩))
  · exact hs j hj
/-- What the region of equal devices leaves. -/
def Fin2 (Ba Bb Bp : Nat) (wr : World) (u0 u1 u2 va vb : Value) (w' : World) : Prop :=
  w'.heap[Bp]? = some (.cells #[u0, u1, u2] 78 (0, 0)) ∧ w'.heap[Ba]? = some (.cells #[va] 22 (0, 0)) ∧ w'.heap[Bb]? = some (.cells #[vb] 22 (0, 0)) ∧ IterStep Ba Bb wr w'
theorem fin2 {Ba Bb Bp : Nat} {wr W2 Wx : World} {u0 u1 u2 va vb z0 z1 z2 va0 vb0 : Value} (hs : Wx.heap = W2.heap) (hq : Below W2.heap.size W2 Wx) (F0 : W2.heap[Bp]? = some (.cells #[z0, z1, z2] 78 (0, 0))) (FA : W2.heap[Ba]? = some (.cells #[va0] 22 (0, 0))) (FB : W2.heap[Bb]? = some (.cells #[vb0] 22 (0, 0)))
    (HI : IterStep Ba Bb wr W2) (HBP : wr.heap.size = Bp) (hA : Ba < Bp) (hB : Bb < Bp) (hab : Ba ≠ Bb) :
    Fin2 Ba Bb Bp wr u0 u1 u2 va vb (((((Wx.setCell ⟨Bp, 0, none⟩ u0).setCell ⟨Bp, 1, none⟩ u1).setCell ⟨Bp, 2, none⟩ u2).setCell ⟨Ba, 0, none⟩ va).setCell ⟨Bb, 0, none⟩ vb) := by
  have g0 := set3_same (u0 := u0) (u1 := u1) (u2 := u2) (blk_heap hs F0)
  have g1 := (set3_blk (W := Wx) (u0 := u0) (u1 := u1) (u2 := u2) (show Ba ≠ Bp by omega)).trans (blk_heap hs FA)
  have g2 := (set3_blk (W := Wx) (u0 := u0) (u1 := u1) (u2 := u2) (show Bb ≠ Bp by omega)).trans (blk_heap hs FB)
  have gi := iter3 (HI.trans (IterStep.below hq)) HBP u0 u1 u2
  refine ⟨?_, ?_, ?_, (gi.setA va).setB vb⟩
  · rw [Below.heap_setCell _ _ _ _ (show Bp ≠ Bb by omega), Below.heap_setCell _ _ _ _ (show Bp ≠ Ba by omega)]; exact g0
  · rw [Below.heap_setCell _ _ _ _ hab]; exact set1_same g1
  · exact set1_same ((Below.heap_setCell _ _ _ _ (Ne.symm hab)).trans g2)
set_option maxHeartbeats 8000000 in
set_option maxRecDepth 100000 in
theorem pairs1_all (A0 : Option Addr) (c0 : Nat) (la : List S24) (A1 : Option Addr) (c1 : Nat) (lb : List S24) (w0 : World) (Ba Bb : Nat) (W : World) (hab : Ba ≠ Bb) (h0a : w0.heap.size ≤ Ba) (h0b : w0.heap.size ≤ Bb)
    (hB : Below w0.heap.size w0 W) (hA : W.heap[Ba]? = some (.cells #[.slice A0 la.length c0] 22 (0, 0))) (hBb : W.heap[Bb]? = some (.cells #[.slice A1 lb.length c1] 22 (0, 0)))
    (hra : Kd.C k24 w0 A0 la.length la) (hca : la.length ≤ c0) (hrb : Kd.C k24 w0 A1 lb.length lb) (hcb : lb.length ≤ c1) :
    SeqAll Tryd.prog 84 #[.pointer (some ⟨Ba, 0, none⟩), .pointer (some ⟨Bb, 0, none⟩)] encPr Ba Bb w0.heap.size (prs la lb) W := by
  intro n l J hJ hY W1 hk hsz h0
  have HL : Left w0 Ba Bb la lb J [] la lb W1 := ⟨rfl, h0, hB.trans hk.below, ⟨A0, c0, hk.a.trans hA, hca, hra⟩, ⟨A1, c1, hk.b.trans hBb, hcb, hrb⟩⟩
  clear hk hA hBb hra hrb hB h0
  have HJ := Aside0.mk hJ
  have HY := Aside0.mk hY
  clear hJ hY
  refine callsIn_of_wp Tryd.func84 rfl trivial ?_
  simp only [Tryd.ntmps84, List.size_toArray, List.length_cons, List.length_nil, Nat.reduceAdd, Nat.reduceSub, Array.replicate_succ, Array.replicate_zero, List.push_toArray, List.append_toArray, List.nil_append, List.cons_append]
  refine wpIn_wide.2 ?_
  go_wp2_with fail
  go_loopw [4] (fun v wr => ∃ pre ra rb, Left w0 Ba Bb la lb J pre ra rb wr) (fun v wr => lenAt wr Ba + lenAt wr Bb)
  case atStart => exact ⟨[], la, lb, HL⟩
  case round =>
    clear HL
    obtain ⟨pre, ra, rb, HL⟩ := hrel
    have HL' := Aside0.mk HL
    obtain ⟨hp, hj, hW, ⟨Aa, ca, hba, hla, hra⟩, ⟨Ab, cb, hbb, hlb, hrb⟩⟩ := HL
    have hca := blk_cell hba 0
    have hcb := blk_cell hbb 0
    have hfa := blk_frozen hba 0
    have hfb := blk_frozen hbb 0
    have HP := Aside0.mk hp
    have HJ0 := Aside0.mk hj
    clear hp hj
    match ra, rb with
    | [], [] =>
      simp at hca hcb
      go_wp2_with fail
      go_end0
      have hfin := HP.out
      simp [prs] at hfin
      exact ⟨⟨_, rfl⟩, hfin ▸ HJ0.out⟩
    | x :: ra', [] =>
      simp at hca hcb
      obtain ⟨ad, rfl, hx0, hx1⟩ := at_T24 (Kd.C_below hra hW) (0 : Int) (by omega) (by simp)
      simp [rd_T24] at hx0 hx1
      have lx : ad.block < wr.heap.size := World.block_lt_of_cell? _ _ hx0
      have Dx := Aside0.mk (drop1 hra hla)
      have HRA := Aside0.mk hra
      have HRB := Aside0.mk hrb
      have la := blk_lt hba
      have lb := blk_lt hbb
      clear hra hrb
      go_wp2_with fail
      have hit := IterStep.below (Ba := Ba) (Bb := Bb) (below_alloc (Below.refl wr.heap.size wr) (.cells #[.int .i64 0, .int .i64 0, .int .i64 0] 78))
      have f0 := blk_new wr (.cells #[.int .i64 0, .int .i64 0, .int .i64 0] 78)
      have fx0 : (wr.alloc (.cells #[.int .i64 0, .int .i64 0, .int .i64 0] 78)).cell? ad = some (.int .i64 x.f0) := ((below_alloc (Below.refl _ _) _).cell lx).trans hx0
      have fx1 : (wr.alloc (.cells #[.int .i64 0, .int .i64 0, .int .i64 0] 78)).cell? ⟨ad.block, ad.off + 1, none⟩ = some (.int .i64 x.f1) := ((below_alloc (Below.refl _ _) _).cell (p := ⟨ad.block, ad.off + 1, none⟩) lx).trans hx1
      clear hx0 hx1
      have fa := blk_alloc hba (.cells #[.int .i64 0, .int .i64 0, .int .i64 0] 78)
      have fb := blk_alloc hbb (.cells #[.int .i64 0, .int .i64 0, .int .i64 0] 78)
      clear hca hcb hfa hfb
      generalize hW2 : wr.alloc (.cells #[.int .i64 0, .int .i64 0, .int .i64 0] 78) = W2 at *
      generalize hBp : wr.heap.size = Bp at *
      have hc0 := blk_cell f0 0
      have hc1 := blk_cell f0 1
      have hc2 := blk_cell f0 2
      have hfp := fun j => blk_frozen f0 j
      have hca := blk_cell fa 0
      have hcb := blk_cell fb 0
      have hfa := blk_frozen fa 0
      have hfb := blk_frozen fb 0
      simp at hc0 hc1 hc2 hca hcb
      have h1 : ¬ Bp = Ba := by omega
      have h2 : ¬ Bp = Bb := by omega
      have h3 : ¬ Bb = Ba := fun e => hab e.symm
      have F0 := Aside0.mk f0
      have FA := Aside0.mk fa
      have FB := Aside0.mk fb
      have HW2 := Aside0.mk hW2
      have HI := Aside0.mk hit
      have HBA := Aside0.mk hba
      have HBB := Aside0.mk hbb
      have HBP := Aside0.mk hBp
      clear f0 fa fb hW2 hit hba hbb hBp
      have hslA : ∀ W : World, (Instr.slice 22 (.slice (some ad) (ra'.length + 1) ca) (some (.int .i64 1)) none none).run Tryd.prog W = .ok (.slice (if ca = 1 then some ad else some (ad.add 2)) ra'.length (ca - 1)) W := fun W => cut1 _ _ _ W
      generalize hA2 : (if ca = 1 then some ad else some (ad.add 2)) = A2 at hslA
      have HA2 := Aside0.mk hA2
      clear hA2
      go_quiet (fail)
      go_wp2_with fail
      refine start_ (n := 13) (S := fun w' => w'.cell? ⟨Ba, 0, none⟩ = some (.slice (some ad) (ra'.length + 1) ca) ∧ w'.cell? ad = some (.int .i64 x.f0) ∧ w'.cell? ⟨ad.block, ad.off + 1, none⟩ = some (.int .i64 x.f1)) (ds := [12]) #[false, false, false, false, false, false, false, false, false, false, false, false, false] (by kernel_rfl) rfl rfl ⟨(by go_keep), (by go_keep), (by go_keep)⟩ (fun hHeld => ?_)
      refine take_ (i := 0) (N := some 50) (v := ?_) (a' := ?_) #[true, false, false, false, false, false, false, false, false, false, false, false, false] rfl rfl (by kernel_rfl) (fun _ _ _ h => h) (Or.inl ⟨by rfl, ?_⟩) hHeld ?_ ?_
      rotate_left
      · rintro w' ⟨s0, s1, s2⟩
        go_simp
        with_reducible rfl
      rotate_left
      · simp only [Act.put, List.setIfInBounds_toArray, List.set_cons_zero, List.set_cons_succ, i64_w, i32_w]
        rfl
      refine pure_ (i := 1) (N := some 51) (v := ?_) (a' := ?_) #[true, true, false, false, false, false, false, false, false, false, false, false, false] rfl rfl (by kernel_rfl) (fun _ _ _ h => h) (Or.inl ⟨by rfl, ?_⟩) ?_ ?_
      rotate_left
      · intro w'
        go_simp
        with_reducible rfl
      rotate_left
      · simp only [Act.put, List.setIfInBounds_toArray, List.set_cons_zero, List.set_cons_succ, i64_w, i32_w]
        rfl
      refine pure_ (i := 2) (N := some 52) (v := ?_) (a' := ?_) #[true, true, true, false, false, false, false, false, false, false, false, false, false] rfl rfl (by kernel_rfl) (fun _ _ _ h => h) (Or.inl ⟨by rfl, ?_⟩) ?_ ?_
      rotate_left
      · intro w'
        go_simp
        with_reducible rfl
      rotate_left
      · simp only [Act.put, List.setIfInBounds_toArray, List.set_cons_zero, List.set_cons_succ, i64_w, i32_w]
        rfl
      refine take_ (i := 3) (N := some 53) (v := ?_) (a' := ?_) #[true, true, true, true, false, false, false, false, false, false, false, false, false] rfl rfl (by kernel_rfl) (fun _ _ _ h => h) (Or.inl ⟨by rfl, ?_⟩) hHeld ?_ ?_
      rotate_left
      · rintro w' ⟨s0, s1, s2⟩
        go_simp
        with_reducible rfl
      rotate_left
      · simp only [Act.put, List.setIfInBounds_toArray, List.set_cons_zero, List.set_cons_succ, i64_w, i32_w]
        rfl
      refine take_ (i := 4) (N := some 54) (v := ?_) (a' := ?_) #[true, true, true, true, true, false, false, false, false, false, false, false, false] rfl rfl (by kernel_rfl) (fun _ _ _ h => h) (Or.inl ⟨by rfl, ?_⟩) hHeld ?_ ?_
      rotate_left
      · rintro w' ⟨s0, s1, s2⟩
        go_simp
        with_reducible rfl
      rotate_left
      · simp only [Act.put, List.setIfInBounds_toArray, List.set_cons_zero, List.set_cons_succ, i64_w, i32_w]
        rfl
      refine pure_ (i := 5) (N := some 55) (v := ?_) (a' := ?_) #[true, true, true, true, true, true, false, false, false, false, false, false, false] rfl rfl (by kernel_rfl) (fun _ _ _ h => h) (Or.inl ⟨by rfl, ?_⟩) ?_ ?_
      rotate_left
      · intro w'
        go_simp
        with_reducible rfl
      rotate_left
      · simp only [Act.put, List.setIfInBounds_toArray, List.set_cons_zero, List.set_cons_succ, i64_w, i32_w]
        rfl
      refine pure_ (i := 6) (N := some 56) (v := ?_) (a' := ?_) #[true, true, true, true, true, true, true, false, false, false, false, false, false] rfl rfl (by kernel_rfl) (fun _ _ _ h => h) (Or.inl ⟨by rfl, ?_⟩) ?_ ?_
      rotate_left
      · intro w'
        go_simp
        with_reducible rfl
      rotate_left
      · simp only [Act.put, List.setIfInBounds_toArray, List.set_cons_zero, List.set_cons_succ, i64_w, i32_w]
        rfl
      refine take_ (i := 7) (N := some 57) (v := ?_) (a' := ?_) #[true, true, true, true, true, true, true, true, false, false, false, false, false] rfl rfl (by kernel_rfl) (fun _ _ _ h => h) (Or.inl ⟨by rfl, ?_⟩) hHeld ?_ ?_
      rotate_left
      · rintro w' ⟨s0, s1, s2⟩
        go_simp
        with_reducible rfl
      rotate_left
      · simp only [Act.put, List.setIfInBounds_toArray, List.set_cons_zero, List.set_cons_succ, i64_w, i32_w]
        rfl
      refine pure_ (i := 8) (N := some 58) (v := ?_) (a' := ?_) #[true, true, true, true, true, true, true, true, true, false, false, false, false] rfl rfl (by kernel_rfl) (fun _ _ _ h => h) (Or.inl ⟨by rfl, ?_⟩) ?_ ?_
      rotate_left
      · intro w'
        go_simp
        with_reducible rfl
      rotate_left
      · simp only [Act.put, List.setIfInBounds_toArray, List.set_cons_zero, List.set_cons_succ, i64_w, i32_w]
        rfl
      refine take_ (i := 9) (N := some 59) (v := ?_) (a' := ?_) #[true, true, true, true, true, true, true, true, true, true, false, false, false] rfl rfl (by kernel_rfl) (fun _ _ _ h => h) (Or.inl ⟨by rfl, ?_⟩) hHeld ?_ ?_
      rotate_left
      · rintro w' ⟨s0, s1, s2⟩
        go_simp
        with_reducible rfl
      rotate_left
      · simp only [Act.put, List.setIfInBounds_toArray, List.set_cons_zero, List.set_cons_succ, i64_w, i32_w]
        rfl
      refine pure_ (i := 10) (N := some 60) (v := ?_) (a' := ?_) #[true, true, true, true, true, true, true, true, true, true, true, false, false] rfl rfl (by kernel_rfl) (fun _ _ _ h => h) (Or.inl ⟨by rfl, ?_⟩) ?_ ?_
      rotate_left
      · intro w'
        go_simp
        with_reducible rfl
      rotate_left
      · simp only [Act.put, List.setIfInBounds_toArray, List.set_cons_zero, List.set_cons_succ, i64_w, i32_w]
        rfl
      refine one_ (i := 11) (N := none) #[true, true, true, true, true, true, true, true, true, true, true, true, false] rfl rfl (by kernel_rfl) (by decide) (fun K hK => ?_)
      refine skip_ (w1 := ?_) (by rfl) rfl ?_ ?_
      rotate_left
      · go_simp
        rfl
      refine hK.out _ _ ⟨set3_cell (hHeld.1) (by show Ba ≠ _; omega), set3_cell (hHeld.2.1) (by show ad.block ≠ _; omega), set3_cell (hHeld.2.2) (by show ad.block ≠ _; omega)⟩ (fun hHeld => ?_)
      clear hK K
      refine last_ (i := 12) (N := none) #[true, true, true, true, true, true, true, true, true, true, true, true, true] rfl rfl (by kernel_rfl) (by decide) (fun K hK => ?_)
      refine skip_ (w1 := ?_) (by rfl) rfl ?_ ?_
      rotate_left
      · go_simp
        rfl
      refine hK.out _ _ ?_
      clear hK K
      refine done_ (by kernel_rfl) ?_
      go_upto_region 7 with (fail)
      generalize hW3 : W2.drewN _ = W3
      have hs : W3.heap = W2.heap := by rw [← hW3]; rfl
      have hq : Below W2.heap.size W2 W3 := by rw [← hW3]; exact pw_below_drewN (Below.refl _ _) _
      have g0 := set3_same (u0 := .int .i64 x.f0) (u1 := .int .i64 x.f1) (u2 := .int .i64 (0)) (blk_heap hs F0.out)
      have g1 := (set3_blk (W := W3) (u0 := .int .i64 x.f0) (u1 := .int .i64 x.f1) (u2 := .int .i64 (0)) (show Ba ≠ Bp by omega)).trans (blk_heap hs FA.out)
      have g2 := (set3_blk (W := W3) (u0 := .int .i64 x.f0) (u1 := .int .i64 x.f1) (u2 := .int .i64 (0)) (show Bb ≠ Bp by omega)).trans (blk_heap hs FB.out)
      have gi := iter3 (HI.out.trans (IterStep.below hq)) HBP.out (.int .i64 x.f0) (.int .i64 x.f1) (.int .i64 (0))
      generalize hW4 : ((W3.setCell ⟨Bp, 0, none⟩ (.int .i64 x.f0)).setCell ⟨Bp, 1, none⟩ (.int .i64 x.f1)).setCell ⟨Bp, 2, none⟩ (.int .i64 (0)) = W4 at *
      replace g0 := (Below.heap_setCell W4 ⟨Ba, 0, none⟩ (.slice A2 ra'.length (ca - 1)) Bp (by show Bp ≠ Ba; omega)).trans g0
      replace g2 := (Below.heap_setCell W4 ⟨Ba, 0, none⟩ (.slice A2 ra'.length (ca - 1)) Bb h3).trans g2
      replace g1 := set1_same (u0 := .slice A2 ra'.length (ca - 1)) g1
      replace gi := gi.setA (.slice A2 ra'.length (ca - 1))
      generalize hWA : W4.setCell ⟨Ba, 0, none⟩ (.slice A2 ra'.length (ca - 1)) = WA at *
      clear hs hq
      have hpr := prs_l x ra'
      obtain ⟨fn, tmps, assign, body, hy, hR⟩ := HY.out pre (x.f0, x.f1, 0) (prs ra' []) WA (by rw [HP.out, hpr]) (HJ.out _ _ _ HJ0.out gi)
      have hW5 : Below w0.heap.size w0 WA := hW.trans (iter_below gi h0a h0b hW.size)
      have hp0 := blk_cell g0 0
      have hp1 := blk_cell g0 1
      have hp2 := blk_cell g0 2
      simp at hp0 hp1 hp2
      have HPR := Aside0.mk hpr
      have G1 := Aside0.mk g1
      have G2 := Aside0.mk g2
      clear hpr g0 g1 g2 gi
      clear hc0 hc1 hc2 hfp hca hcb hfa hfb
      simp only [encPr] at hy
      refine (wpIn_wide (n := n)).1 ?_
      gi_wp2
      refine ⟨fun h => by simp [Fence.wide] at h, hR.mono ?_⟩
      rintro e W6 ⟨rfl, hj6, hk6⟩
      gi_wp2
      go_wp2
      go_roundw
      case rel => exact ⟨pre ++ [(x.f0, x.f1, 0)], ra', [], by rw [HP.out, HPR.out]; simp, hj6, hW5.trans hk6.below, ⟨A2, ca - 1, hk6.a.trans G1.out, by simp at hla; omega, HA2.out ▸ Dx.out⟩, ⟨_, _, hk6.b.trans G2.out, hlb, HRB.out⟩⟩
      case measure => rw [lenAt_eq ((blk_cell (hk6.a.trans G1.out) 0).trans rfl), lenAt_eq ((blk_cell (hk6.b.trans G2.out) 0).trans rfl), lenAt_eq ((blk_cell HBA.out 0).trans rfl), lenAt_eq ((blk_cell HBB.out 0).trans rfl)]; simp; try omega
    | [], y :: rb' =>
      simp at hca hcb
      obtain ⟨bd, rfl, hy0, hy1⟩ := at_T24 (Kd.C_below hrb hW) (0 : Int) (by omega) (by simp)
      simp [rd_T24] at hy0 hy1
      have ly : bd.block < wr.heap.size := World.block_lt_of_cell? _ _ hy0
      have Dy := Aside0.mk (drop1 hrb hlb)
      have HRA := Aside0.mk hra
      have HRB := Aside0.mk hrb
      have la := blk_lt hba
      have lb := blk_lt hbb
      clear hra hrb
      go_wp2_with fail
      have hit := IterStep.below (Ba := Ba) (Bb := Bb) (below_alloc (Below.refl wr.heap.size wr) (.cells #[.int .i64 0, .int .i64 0, .int .i64 0] 78))
      have f0 := blk_new wr (.cells #[.int .i64 0, .int .i64 0, .int .i64 0] 78)
      have fy0 : (wr.alloc (.cells #[.int .i64 0, .int .i64 0, .int .i64 0] 78)).cell? bd = some (.int .i64 y.f0) := ((below_alloc (Below.refl _ _) _).cell ly).trans hy0
      have fy1 : (wr.alloc (.cells #[.int .i64 0, .int .i64 0, .int .i64 0] 78)).cell? ⟨bd.block, bd.off + 1, none⟩ = some (.int .i64 y.f1) := ((below_alloc (Below.refl _ _) _).cell (p := ⟨bd.block, bd.off + 1, none⟩) ly).trans hy1
      clear hy0 hy1
      have fa := blk_alloc hba (.cells #[.int .i64 0, .int .i64 0, .int .i64 0] 78)
      have fb := blk_alloc hbb (.cells #[.int .i64 0, .int .i64 0, .int .i64 0] 78)
      clear hca hcb hfa hfb
      generalize hW2 : wr.alloc (.cells #[.int .i64 0, .int .i64 0, .int .i64 0] 78) = W2 at *
      generalize hBp : wr.heap.size = Bp at *
      have hc0 := blk_cell f0 0
      have hc1 := blk_cell f0 1
      have hc2 := blk_cell f0 2
      have hfp := fun j => blk_frozen f0 j
      have hca := blk_cell fa 0
      have hcb := blk_cell fb 0
      have hfa := blk_frozen fa 0
      have hfb := blk_frozen fb 0
      simp at hc0 hc1 hc2 hca hcb
      have h1 : ¬ Bp = Ba := by omega
      have h2 : ¬ Bp = Bb := by omega
      have h3 : ¬ Bb = Ba := fun e => hab e.symm
      have F0 := Aside0.mk f0
      have FA := Aside0.mk fa
      have FB := Aside0.mk fb
      have HW2 := Aside0.mk hW2
      have HI := Aside0.mk hit
      have HBA := Aside0.mk hba
      have HBB := Aside0.mk hbb
      have HBP := Aside0.mk hBp
      clear f0 fa fb hW2 hit hba hbb hBp
      have hslB : ∀ W : World, (Instr.slice 22 (.slice (some bd) (rb'.length + 1) cb) (some (.int .i64 1)) none none).run Tryd.prog W = .ok (.slice (if cb = 1 then some bd else some (bd.add 2)) rb'.length (cb - 1)) W := fun W => cut1 _ _ _ W
      generalize hB2 : (if cb = 1 then some bd else some (bd.add 2)) = B2 at hslB
      have HB2 := Aside0.mk hB2
      clear hB2
      refine start_ (n := 20) (S := fun w' => w'.cell? ⟨Ba, 0, none⟩ = some (.slice Aa 0 ca) ∧ w'.cell? ⟨Bb, 0, none⟩ = some (.slice (some bd) (rb'.length + 1) cb)) (ds := []) #[false, false, false, false, false, false, false, false, false, false, false, false, false, false, false, false, false, false, false, false] (by kernel_rfl) rfl rfl ⟨(by go_keep), (by go_keep)⟩ (fun hHeld => ?_)
      refine take_ (i := 0) (N := some 31) (v := ?_) (a' := ?_) #[true, false, false, false, false, false, false, false, false, false, false, false, false, false, false, false, false, false, false, false] rfl rfl (by kernel_rfl) (fun _ _ _ h => h) (Or.inl ⟨by rfl, ?_⟩) hHeld ?_ ?_
      rotate_left
      · rintro w' ⟨s0, s1⟩
        go_simp
        with_reducible rfl
      rotate_left
      · simp only [Act.put, List.setIfInBounds_toArray, List.set_cons_zero, List.set_cons_succ, i64_w, i32_w]
        rfl
      refine pure_ (i := 1) (N := some 32) (v := ?_) (a' := ?_) #[true, true, false, false, false, false, false, false, false, false, false, false, false, false, false, false, false, false, false, false] rfl rfl (by kernel_rfl) (fun _ _ _ h => h) (Or.inl ⟨by rfl, ?_⟩) ?_ ?_
      rotate_left
      · intro w'
        go_simp
        with_reducible rfl
      rotate_left
      · simp only [Act.put, List.setIfInBounds_toArray, List.set_cons_zero, List.set_cons_succ, i64_w, i32_w]
        rfl
      refine pure_ (i := 2) (N := some 33) (v := ?_) (a' := ?_) #[true, true, true, false, false, false, false, false, false, false, false, false, false, false, false, false, false, false, false, false] rfl rfl (by kernel_rfl) (fun _ _ _ h => h) (Or.inl ⟨by rfl, ?_⟩) ?_ ?_
      rotate_left
      · intro w'
        go_simp
        with_reducible rfl
      rotate_left
      · simp only [Act.put, List.setIfInBounds_toArray, List.set_cons_zero, List.set_cons_succ, i64_w, i32_w]
        rfl
      refine pure_ (i := 3) (N := some 34) (v := ?_) (a' := ?_) #[true, true, true, true, false, false, false, false, false, false, false, false, false, false, false, false, false, false, false, false] rfl rfl (by kernel_rfl) (fun _ _ _ h => h) (Or.inl ⟨by rfl, ?_⟩) ?_ ?_
      rotate_left
      · intro w'
        go_simp
        with_reducible rfl
      rotate_left
      · simp only [Act.put, List.setIfInBounds_toArray, List.set_cons_zero, List.set_cons_succ, i64_w, i32_w]
        rfl
      refine take_ (i := 4) (N := some 35) (v := ?_) (a' := ?_) #[true, true, true, true, true, false, false, false, false, false, false, false, false, false, false, false, false, false, false, false] rfl rfl (by kernel_rfl) (fun _ _ _ h => h) (Or.inl ⟨by rfl, ?_⟩) hHeld ?_ ?_
      rotate_left
      · rintro w' ⟨s0, s1⟩
        go_simp
        with_reducible rfl
      rotate_left
      · simp only [Act.put, List.setIfInBounds_toArray, List.set_cons_zero, List.set_cons_succ, i64_w, i32_w]
        rfl
      refine pure_ (i := 5) (N := some 36) (v := ?_) (a' := ?_) #[true, true, true, true, true, true, false, false, false, false, false, false, false, false, false, false, false, false, false, false] rfl rfl (by kernel_rfl) (fun _ _ _ h => h) (Or.inl ⟨by rfl, ?_⟩) ?_ ?_
      rotate_left
      · intro w'
        go_simp
        with_reducible rfl
      rotate_left
      · simp only [Act.put, List.setIfInBounds_toArray, List.set_cons_zero, List.set_cons_succ, i64_w, i32_w]
        rfl
      refine pure_ (i := 6) (N := some 37) (v := ?_) (a' := ?_) #[true, true, true, true, true, true, true, false, false, false, false, false, false, false, false, false, false, false, false, false] rfl rfl (by kernel_rfl) (fun _ _ _ h => h) (Or.inl ⟨by rfl, ?_⟩) ?_ ?_
      rotate_left
      · intro w'
        go_simp
        with_reducible rfl
      rotate_left
      · simp only [Act.put, List.setIfInBounds_toArray, List.set_cons_zero, List.set_cons_succ, i64_w, i32_w]
        rfl
      refine pure_ (i := 7) (N := some 38) (v := ?_) (a' := ?_) #[true, true, true, true, true, true, true, true, false, false, false, false, false, false, false, false, false, false, false, false] rfl rfl (by kernel_rfl) (fun _ _ _ h => h) (Or.inl ⟨by rfl, ?_⟩) ?_ ?_
      rotate_left
      · intro w'
        go_simp
        with_reducible rfl
      rotate_left
      · simp only [Act.put, List.setIfInBounds_toArray, List.set_cons_zero, List.set_cons_succ, i64_w, i32_w]
        rfl
      refine pure_ (i := 8) (N := some 39) (v := undef) (a' := ?_) #[true, true, true, true, true, true, true, true, true, false, false, false, false, false, false, false, false, false, false, false] rfl rfl (by kernel_rfl) (fun _ _ _ h => h) (Or.inr ⟨by rfl, rfl⟩) ?_ ?_
      rotate_left
      · simp only [Act.put, List.setIfInBounds_toArray, List.set_cons_zero, List.set_cons_succ, i64_w, i32_w]
        rfl
      refine pure_ (i := 9) (N := some 40) (v := undef) (a' := ?_) #[true, true, true, true, true, true, true, true, true, true, false, false, false, false, false, false, false, false, false, false] rfl rfl (by kernel_rfl) (fun _ _ _ h => h) (Or.inr ⟨by rfl, rfl⟩) ?_ ?_
      rotate_left
      · simp only [Act.put, List.setIfInBounds_toArray, List.set_cons_zero, List.set_cons_succ, i64_w, i32_w]
        rfl
      refine pure_ (i := 10) (N := some 41) (v := undef) (a' := ?_) #[true, true, true, true, true, true, true, true, true, true, true, false, false, false, false, false, false, false, false, false] rfl rfl (by kernel_rfl) (fun _ _ _ h => h) (Or.inr ⟨by rfl, rfl⟩) ?_ ?_
      rotate_left
      · simp only [Act.put, List.setIfInBounds_toArray, List.set_cons_zero, List.set_cons_succ, i64_w, i32_w]
        rfl
      refine pure_ (i := 11) (N := some 42) (v := undef) (a' := ?_) #[true, true, true, true, true, true, true, true, true, true, true, true, false, false, false, false, false, false, false, false] rfl rfl (by kernel_rfl) (fun _ _ _ h => h) (Or.inr ⟨by rfl, rfl⟩) ?_ ?_
      rotate_left
      · simp only [Act.put, List.setIfInBounds_toArray, List.set_cons_zero, List.set_cons_succ, i64_w, i32_w]
        rfl
      refine pure_ (i := 12) (N := some 43) (v := undef) (a' := ?_) #[true, true, true, true, true, true, true, true, true, true, true, true, true, false, false, false, false, false, false, false] rfl rfl (by kernel_rfl) (fun _ _ _ h => h) (Or.inr ⟨by rfl, rfl⟩) ?_ ?_
      rotate_left
      · simp only [Act.put, List.setIfInBounds_toArray, List.set_cons_zero, List.set_cons_succ, i64_w, i32_w]
        rfl
      refine pure_ (i := 13) (N := some 44) (v := undef) (a' := ?_) #[true, true, true, true, true, true, true, true, true, true, true, true, true, true, false, false, false, false, false, false] rfl rfl (by kernel_rfl) (fun _ _ _ h => h) (Or.inr ⟨by rfl, rfl⟩) ?_ ?_
      rotate_left
      · simp only [Act.put, List.setIfInBounds_toArray, List.set_cons_zero, List.set_cons_succ, i64_w, i32_w]
        rfl
      refine pure_ (i := 14) (N := some 45) (v := undef) (a' := ?_) #[true, true, true, true, true, true, true, true, true, true, true, true, true, true, true, false, false, false, false, false] rfl rfl (by kernel_rfl) (fun _ _ _ h => h) (Or.inr ⟨by rfl, rfl⟩) ?_ ?_
      rotate_left
      · simp only [Act.put, List.setIfInBounds_toArray, List.set_cons_zero, List.set_cons_succ, i64_w, i32_w]
        rfl
      refine pure_ (i := 15) (N := some 46) (v := undef) (a' := ?_) #[true, true, true, true, true, true, true, true, true, true, true, true, true, true, true, true, false, false, false, false] rfl rfl (by kernel_rfl) (fun _ _ _ h => h) (Or.inr ⟨by rfl, rfl⟩) ?_ ?_
      rotate_left
      · simp only [Act.put, List.setIfInBounds_toArray, List.set_cons_zero, List.set_cons_succ, i64_w, i32_w]
        rfl
      refine pure_ (i := 16) (N := some 47) (v := undef) (a' := ?_) #[true, true, true, true, true, true, true, true, true, true, true, true, true, true, true, true, true, false, false, false] rfl rfl (by kernel_rfl) (fun _ _ _ h => h) (Or.inr ⟨by rfl, rfl⟩) ?_ ?_
      rotate_left
      · simp only [Act.put, List.setIfInBounds_toArray, List.set_cons_zero, List.set_cons_succ, i64_w, i32_w]
        rfl
      refine pure_ (i := 17) (N := some 48) (v := ?_) (a' := ?_) #[true, true, true, true, true, true, true, true, true, true, true, true, true, true, true, true, true, true, false, false] rfl rfl (by kernel_rfl) (fun _ _ _ h => h) (Or.inl ⟨by rfl, ?_⟩) ?_ ?_
      rotate_left
      · intro w'
        go_simp
        with_reducible rfl
      rotate_left
      · simp only [Act.put, List.setIfInBounds_toArray, List.set_cons_zero, List.set_cons_succ, i64_w, i32_w]
        rfl
      refine pure_ (i := 18) (N := some 49) (v := ?_) (a' := ?_) #[true, true, true, true, true, true, true, true, true, true, true, true, true, true, true, true, true, true, true, false] rfl rfl (by kernel_rfl) (fun _ _ _ h => h) (Or.inl ⟨by rfl, ?_⟩) ?_ ?_
      rotate_left
      · intro w'
        go_simp
        with_reducible rfl
      rotate_left
      · simp only [Act.put, List.setIfInBounds_toArray, List.set_cons_zero, List.set_cons_succ, i64_w, i32_w]
        rfl
      refine pure_ (i := 19) (N := some 30) (v := ?_) (a' := ?_) #[true, true, true, true, true, true, true, true, true, true, true, true, true, true, true, true, true, true, true, true] rfl rfl (by kernel_rfl) (fun _ _ _ h => h) (Or.inl ⟨by rfl, ?_⟩) ?_ ?_
      rotate_left
      · intro w'
        go_simp
        with_reducible rfl
      rotate_left
      · simp only [Act.put, List.setIfInBounds_toArray, List.set_cons_zero, List.set_cons_succ, i64_w, i32_w]
        rfl
      refine done_ (by kernel_rfl) ?_
      go_wp2_with fail
      go_quiet (fail)
      go_wp2_with fail
      refine start_ (n := 13) (S := fun w' => w'.cell? ⟨Bb, 0, none⟩ = some (.slice (some bd) (rb'.length + 1) cb) ∧ w'.cell? bd = some (.int .i64 y.f0) ∧ w'.cell? ⟨bd.block, bd.off + 1, none⟩ = some (.int .i64 y.f1)) (ds := [12]) #[false, false, false, false, false, false, false, false, false, false, false, false, false] (by kernel_rfl) rfl rfl ⟨(by go_keep), (by go_keep), (by go_keep)⟩ (fun hHeld => ?_)
      refine take_ (i := 0) (N := some 76) (v := ?_) (a' := ?_) #[true, false, false, false, false, false, false, false, false, false, false, false, false] rfl rfl (by kernel_rfl) (fun _ _ _ h => h) (Or.inl ⟨by rfl, ?_⟩) hHeld ?_ ?_
      rotate_left
      · rintro w' ⟨s0, s1, s2⟩
        go_simp
        with_reducible rfl
      rotate_left
      · simp only [Act.put, List.setIfInBounds_toArray, List.set_cons_zero, List.set_cons_succ, i64_w, i32_w]
        rfl
      refine pure_ (i := 1) (N := some 77) (v := ?_) (a' := ?_) #[true, true, false, false, false, false, false, false, false, false, false, false, false] rfl rfl (by kernel_rfl) (fun _ _ _ h => h) (Or.inl ⟨by rfl, ?_⟩) ?_ ?_
      rotate_left
      · intro w'
        go_simp
        with_reducible rfl
      rotate_left
      · simp only [Act.put, List.setIfInBounds_toArray, List.set_cons_zero, List.set_cons_succ, i64_w, i32_w]
        rfl
      refine pure_ (i := 2) (N := some 78) (v := ?_) (a' := ?_) #[true, true, true, false, false, false, false, false, false, false, false, false, false] rfl rfl (by kernel_rfl) (fun _ _ _ h => h) (Or.inl ⟨by rfl, ?_⟩) ?_ ?_
      rotate_left
      · intro w'
        go_simp
        with_reducible rfl
      rotate_left
      · simp only [Act.put, List.setIfInBounds_toArray, List.set_cons_zero, List.set_cons_succ, i64_w, i32_w]
        rfl
      refine take_ (i := 3) (N := some 79) (v := ?_) (a' := ?_) #[true, true, true, true, false, false, false, false, false, false, false, false, false] rfl rfl (by kernel_rfl) (fun _ _ _ h => h) (Or.inl ⟨by rfl, ?_⟩) hHeld ?_ ?_
      rotate_left
      · rintro w' ⟨s0, s1, s2⟩
        go_simp
        with_reducible rfl
      rotate_left
      · simp only [Act.put, List.setIfInBounds_toArray, List.set_cons_zero, List.set_cons_succ, i64_w, i32_w]
        rfl
      refine take_ (i := 4) (N := some 80) (v := ?_) (a' := ?_) #[true, true, true, true, true, false, false, false, false, false, false, false, false] rfl rfl (by kernel_rfl) (fun _ _ _ h => h) (Or.inl ⟨by rfl, ?_⟩) hHeld ?_ ?_
      rotate_left
      · rintro w' ⟨s0, s1, s2⟩
        go_simp
        with_reducible rfl
      rotate_left
      · simp only [Act.put, List.setIfInBounds_toArray, List.set_cons_zero, List.set_cons_succ, i64_w, i32_w]
        rfl
      refine pure_ (i := 5) (N := some 81) (v := ?_) (a' := ?_) #[true, true, true, true, true, true, false, false, false, false, false, false, false] rfl rfl (by kernel_rfl) (fun _ _ _ h => h) (Or.inl ⟨by rfl, ?_⟩) ?_ ?_
      rotate_left
      · intro w'
        go_simp
        with_reducible rfl
      rotate_left
      · simp only [Act.put, List.setIfInBounds_toArray, List.set_cons_zero, List.set_cons_succ, i64_w, i32_w]
        rfl
      refine pure_ (i := 6) (N := some 82) (v := ?_) (a' := ?_) #[true, true, true, true, true, true, true, false, false, false, false, false, false] rfl rfl (by kernel_rfl) (fun _ _ _ h => h) (Or.inl ⟨by rfl, ?_⟩) ?_ ?_
      rotate_left
      · intro w'
        go_simp
        with_reducible rfl
      rotate_left
      · simp only [Act.put, List.setIfInBounds_toArray, List.set_cons_zero, List.set_cons_succ, i64_w, i32_w]
        rfl
      refine take_ (i := 7) (N := some 83) (v := ?_) (a' := ?_) #[true, true, true, true, true, true, true, true, false, false, false, false, false] rfl rfl (by kernel_rfl) (fun _ _ _ h => h) (Or.inl ⟨by rfl, ?_⟩) hHeld ?_ ?_
      rotate_left
      · rintro w' ⟨s0, s1, s2⟩
        go_simp
        with_reducible rfl
      rotate_left
      · simp only [Act.put, List.setIfInBounds_toArray, List.set_cons_zero, List.set_cons_succ, i64_w, i32_w]
        rfl
      refine pure_ (i := 8) (N := some 84) (v := ?_) (a' := ?_) #[true, true, true, true, true, true, true, true, true, false, false, false, false] rfl rfl (by kernel_rfl) (fun _ _ _ h => h) (Or.inl ⟨by rfl, ?_⟩) ?_ ?_
      rotate_left
      · intro w'
        go_simp
        with_reducible rfl
      rotate_left
      · simp only [Act.put, List.setIfInBounds_toArray, List.set_cons_zero, List.set_cons_succ, i64_w, i32_w]
        rfl
      refine take_ (i := 9) (N := some 85) (v := ?_) (a' := ?_) #[true, true, true, true, true, true, true, true, true, true, false, false, false] rfl rfl (by kernel_rfl) (fun _ _ _ h => h) (Or.inl ⟨by rfl, ?_⟩) hHeld ?_ ?_
      rotate_left
      · rintro w' ⟨s0, s1, s2⟩
        go_simp
        with_reducible rfl
      rotate_left
      · simp only [Act.put, List.setIfInBounds_toArray, List.set_cons_zero, List.set_cons_succ, i64_w, i32_w]
        rfl
      refine pure_ (i := 10) (N := some 86) (v := ?_) (a' := ?_) #[true, true, true, true, true, true, true, true, true, true, true, false, false] rfl rfl (by kernel_rfl) (fun _ _ _ h => h) (Or.inl ⟨by rfl, ?_⟩) ?_ ?_
      rotate_left
      · intro w'
        go_simp
        with_reducible rfl
      rotate_left
      · simp only [Act.put, List.setIfInBounds_toArray, List.set_cons_zero, List.set_cons_succ, i64_w, i32_w]
        rfl
      refine one_ (i := 11) (N := none) #[true, true, true, true, true, true, true, true, true, true, true, true, false] rfl rfl (by kernel_rfl) (by decide) (fun K hK => ?_)
      refine skip_ (w1 := ?_) (by rfl) rfl ?_ ?_
      rotate_left
      · go_simp
        rfl
      refine hK.out _ _ ⟨set3_cell (hHeld.1) (by show Bb ≠ _; omega), set3_cell (hHeld.2.1) (by show bd.block ≠ _; omega), set3_cell (hHeld.2.2) (by show bd.block ≠ _; omega)⟩ (fun hHeld => ?_)
      clear hK K
      refine last_ (i := 12) (N := none) #[true, true, true, true, true, true, true, true, true, true, true, true, true] rfl rfl (by kernel_rfl) (by decide) (fun K hK => ?_)
      refine skip_ (w1 := ?_) (by rfl) rfl ?_ ?_
      rotate_left
      · go_simp
        rfl
      refine hK.out _ _ ?_
      clear hK K
      refine done_ (by kernel_rfl) ?_
      go_upto_region 7 with (fail)
      generalize hW3 : W2.drewN _ = W3
      have hs : W3.heap = W2.heap := by rw [← hW3]; rfl
      have hq : Below W2.heap.size W2 W3 := by rw [← hW3]; exact pw_below_drewN (Below.refl _ _) _
      have g0 := set3_same (u0 := .int .i64 y.f0) (u1 := .int .i64 (0)) (u2 := .int .i64 y.f1) (blk_heap hs F0.out)
      have g1 := (set3_blk (W := W3) (u0 := .int .i64 y.f0) (u1 := .int .i64 (0)) (u2 := .int .i64 y.f1) (show Ba ≠ Bp by omega)).trans (blk_heap hs FA.out)
      have g2 := (set3_blk (W := W3) (u0 := .int .i64 y.f0) (u1 := .int .i64 (0)) (u2 := .int .i64 y.f1) (show Bb ≠ Bp by omega)).trans (blk_heap hs FB.out)
      have gi := iter3 (HI.out.trans (IterStep.below hq)) HBP.out (.int .i64 y.f0) (.int .i64 (0)) (.int .i64 y.f1)
      generalize hW4 : ((W3.setCell ⟨Bp, 0, none⟩ (.int .i64 y.f0)).setCell ⟨Bp, 1, none⟩ (.int .i64 (0))).setCell ⟨Bp, 2, none⟩ (.int .i64 y.f1) = W4 at *
      replace g0 := (Below.heap_setCell W4 ⟨Bb, 0, none⟩ (.slice B2 rb'.length (cb - 1)) Bp (by show Bp ≠ Bb; omega)).trans g0
      replace g1 := (Below.heap_setCell W4 ⟨Bb, 0, none⟩ (.slice B2 rb'.length (cb - 1)) Ba hab).trans g1
      replace g2 := set1_same (u0 := .slice B2 rb'.length (cb - 1)) g2
      replace gi := gi.setB (.slice B2 rb'.length (cb - 1))
      generalize hWB : W4.setCell ⟨Bb, 0, none⟩ (.slice B2 rb'.length (cb - 1)) = WB at *
      clear hs hq
      have hpr := prs_r y rb'
      obtain ⟨fn, tmps, assign, body, hy, hR⟩ := HY.out pre (y.f0, 0, y.f1) (prs [] rb') WB (by rw [HP.out, hpr]) (HJ.out _ _ _ HJ0.out gi)
      have hW5 : Below w0.heap.size w0 WB := hW.trans (iter_below gi h0a h0b hW.size)
      have hp0 := blk_cell g0 0
      have hp1 := blk_cell g0 1
      have hp2 := blk_cell g0 2
      simp at hp0 hp1 hp2
      have HPR := Aside0.mk hpr
      have G1 := Aside0.mk g1
      have G2 := Aside0.mk g2
      clear hpr g0 g1 g2 gi
      clear hc0 hc1 hc2 hfp hca hcb hfa hfb
      simp only [encPr] at hy
      refine (wpIn_wide (n := n)).1 ?_
      gi_wp2
      refine ⟨fun h => by simp [Fence.wide] at h, hR.mono ?_⟩
      rintro e W6 ⟨rfl, hj6, hk6⟩
      gi_wp2
      go_wp2
      go_roundw
      case rel => exact ⟨pre ++ [(y.f0, 0, y.f1)], [], rb', by rw [HP.out, HPR.out]; simp, hj6, hW5.trans hk6.below, ⟨_, _, hk6.a.trans G1.out, hla, HRA.out⟩, ⟨B2, cb - 1, hk6.b.trans G2.out, by simp at hlb; omega, HB2.out ▸ Dy.out⟩⟩
      case measure => rw [lenAt_eq ((blk_cell (hk6.a.trans G1.out) 0).trans rfl), lenAt_eq ((blk_cell (hk6.b.trans G2.out) 0).trans rfl), lenAt_eq ((blk_cell HBA.out 0).trans rfl), lenAt_eq ((blk_cell HBB.out 0).trans rfl)]; simp; try omega
    | x :: ra', y :: rb' =>
      rcases Int.lt_trichotomy x.f0 y.f0 with hcmp | hcmp | hcmp
      · skip
        simp at hca hcb
        obtain ⟨ad, rfl, hx0, hx1⟩ := at_T24 (Kd.C_below hra hW) (0 : Int) (by omega) (by simp)
        simp [rd_T24] at hx0 hx1
        have lx : ad.block < wr.heap.size := World.block_lt_of_cell? _ _ hx0
        have Dx := Aside0.mk (drop1 hra hla)
        obtain ⟨bd, rfl, hy0, hy1⟩ := at_T24 (Kd.C_below hrb hW) (0 : Int) (by omega) (by simp)
        simp [rd_T24] at hy0 hy1
        have ly : bd.block < wr.heap.size := World.block_lt_of_cell? _ _ hy0
        have Dy := Aside0.mk (drop1 hrb hlb)
        have HRA := Aside0.mk hra
        have HRB := Aside0.mk hrb
        have la := blk_lt hba
        have lb := blk_lt hbb
        have hlt : decide (x.f0 < y.f0) = true := by simp; omega
        have HC := Aside0.mk hcmp
        clear hcmp
        clear hra hrb
        go_wp2_with fail
        have hit := IterStep.below (Ba := Ba) (Bb := Bb) (below_alloc (Below.refl wr.heap.size wr) (.cells #[.int .i64 0, .int .i64 0, .int .i64 0] 78))
        have f0 := blk_new wr (.cells #[.int .i64 0, .int .i64 0, .int .i64 0] 78)
        have fx0 : (wr.alloc (.cells #[.int .i64 0, .int .i64 0, .int .i64 0] 78)).cell? ad = some (.int .i64 x.f0) := ((below_alloc (Below.refl _ _) _).cell lx).trans hx0
        have fx1 : (wr.alloc (.cells #[.int .i64 0, .int .i64 0, .int .i64 0] 78)).cell? ⟨ad.block, ad.off + 1, none⟩ = some (.int .i64 x.f1) := ((below_alloc (Below.refl _ _) _).cell (p := ⟨ad.block, ad.off + 1, none⟩) lx).trans hx1
        clear hx0 hx1
        have fy0 : (wr.alloc (.cells #[.int .i64 0, .int .i64 0, .int .i64 0] 78)).cell? bd = some (.int .i64 y.f0) := ((below_alloc (Below.refl _ _) _).cell ly).trans hy0
        have fy1 : (wr.alloc (.cells #[.int .i64 0, .int .i64 0, .int .i64 0] 78)).cell? ⟨bd.block, bd.off + 1, none⟩ = some (.int .i64 y.f1) := ((below_alloc (Below.refl _ _) _).cell (p := ⟨bd.block, bd.off + 1, none⟩) ly).trans hy1
        clear hy0 hy1
        have fa := blk_alloc hba (.cells #[.int .i64 0, .int .i64 0, .int .i64 0] 78)
        have fb := blk_alloc hbb (.cells #[.int .i64 0, .int .i64 0, .int .i64 0] 78)
        clear hca hcb hfa hfb
        generalize hW2 : wr.alloc (.cells #[.int .i64 0, .int .i64 0, .int .i64 0] 78) = W2 at *
        generalize hBp : wr.heap.size = Bp at *
        have hc0 := blk_cell f0 0
        have hc1 := blk_cell f0 1
        have hc2 := blk_cell f0 2
        have hfp := fun j => blk_frozen f0 j
        have hca := blk_cell fa 0
        have hcb := blk_cell fb 0
        have hfa := blk_frozen fa 0
        have hfb := blk_frozen fb 0
        simp at hc0 hc1 hc2 hca hcb
        have h1 : ¬ Bp = Ba := by omega
        have h2 : ¬ Bp = Bb := by omega
        have h3 : ¬ Bb = Ba := fun e => hab e.symm
        have F0 := Aside0.mk f0
        have FA := Aside0.mk fa
        have FB := Aside0.mk fb
        have HW2 := Aside0.mk hW2
        have HI := Aside0.mk hit
        have HBA := Aside0.mk hba
        have HBB := Aside0.mk hbb
        have HBP := Aside0.mk hBp
        clear f0 fa fb hW2 hit hba hbb hBp
        have hslA : ∀ W : World, (Instr.slice 22 (.slice (some ad) (ra'.length + 1) ca) (some (.int .i64 1)) none none).run Tryd.prog W = .ok (.slice (if ca = 1 then some ad else some (ad.add 2)) ra'.length (ca - 1)) W := fun W => cut1 _ _ _ W
        generalize hA2 : (if ca = 1 then some ad else some (ad.add 2)) = A2 at hslA
        have HA2 := Aside0.mk hA2
        clear hA2
        go_quiet (fail)
        go_wp2_with fail
        refine start_ (n := 13) (S := fun w' => w'.cell? ⟨Ba, 0, none⟩ = some (.slice (some ad) (ra'.length + 1) ca) ∧ w'.cell? ad = some (.int .i64 x.f0) ∧ w'.cell? ⟨ad.block, ad.off + 1, none⟩ = some (.int .i64 x.f1)) (ds := [12]) #[false, false, false, false, false, false, false, false, false, false, false, false, false] (by kernel_rfl) rfl rfl ⟨(by go_keep), (by go_keep), (by go_keep)⟩ (fun hHeld => ?_)
        refine take_ (i := 0) (N := some 50) (v := ?_) (a' := ?_) #[true, false, false, false, false, false, false, false, false, false, false, false, false] rfl rfl (by kernel_rfl) (fun _ _ _ h => h) (Or.inl ⟨by rfl, ?_⟩) hHeld ?_ ?_
        rotate_left
        · rintro w' ⟨s0, s1, s2⟩
          go_simp
          with_reducible rfl
        rotate_left
        · simp only [Act.put, List.setIfInBounds_toArray, List.set_cons_zero, List.set_cons_succ, i64_w, i32_w]
          rfl
        refine pure_ (i := 1) (N := some 51) (v := ?_) (a' := ?_) #[true, true, false, false, false, false, false, false, false, false, false, false, false] rfl rfl (by kernel_rfl) (fun _ _ _ h => h) (Or.inl ⟨by rfl, ?_⟩) ?_ ?_
        rotate_left
        · intro w'
          go_simp
          with_reducible rfl
        rotate_left
        · simp only [Act.put, List.setIfInBounds_toArray, List.set_cons_zero, List.set_cons_succ, i64_w, i32_w]
          rfl
        refine pure_ (i := 2) (N := some 52) (v := ?_) (a' := ?_) #[true, true, true, false, false, false, false, false, false, false, false, false, false] rfl rfl (by kernel_rfl) (fun _ _ _ h => h) (Or.inl ⟨by rfl, ?_⟩) ?_ ?_
        rotate_left
        · intro w'
          go_simp
          with_reducible rfl
        rotate_left
        · simp only [Act.put, List.setIfInBounds_toArray, List.set_cons_zero, List.set_cons_succ, i64_w, i32_w]
          rfl
        refine take_ (i := 3) (N := some 53) (v := ?_) (a' := ?_) #[true, true, true, true, false, false, false, false, false, false, false, false, false] rfl rfl (by kernel_rfl) (fun _ _ _ h => h) (Or.inl ⟨by rfl, ?_⟩) hHeld ?_ ?_
        rotate_left
        · rintro w' ⟨s0, s1, s2⟩
          go_simp
          with_reducible rfl
        rotate_left
        · simp only [Act.put, List.setIfInBounds_toArray, List.set_cons_zero, List.set_cons_succ, i64_w, i32_w]
          rfl
        refine take_ (i := 4) (N := some 54) (v := ?_) (a' := ?_) #[true, true, true, true, true, false, false, false, false, false, false, false, false] rfl rfl (by kernel_rfl) (fun _ _ _ h => h) (Or.inl ⟨by rfl, ?_⟩) hHeld ?_ ?_
        rotate_left
        · rintro w' ⟨s0, s1, s2⟩
          go_simp
          with_reducible rfl
        rotate_left
        · simp only [Act.put, List.setIfInBounds_toArray, List.set_cons_zero, List.set_cons_succ, i64_w, i32_w]
          rfl
        refine pure_ (i := 5) (N := some 55) (v := ?_) (a' := ?_) #[true, true, true, true, true, true, false, false, false, false, false, false, false] rfl rfl (by kernel_rfl) (fun _ _ _ h => h) (Or.inl ⟨by rfl, ?_⟩) ?_ ?_
        rotate_left
        · intro w'
          go_simp
          with_reducible rfl
        rotate_left
        · simp only [Act.put, List.setIfInBounds_toArray, List.set_cons_zero, List.set_cons_succ, i64_w, i32_w]
          rfl
        refine pure_ (i := 6) (N := some 56) (v := ?_) (a' := ?_) #[true, true, true, true, true, true, true, false, false, false, false, false, false] rfl rfl (by kernel_rfl) (fun _ _ _ h => h) (Or.inl ⟨by rfl, ?_⟩) ?_ ?_
        rotate_left
        · intro w'
          go_simp
          with_reducible rfl
        rotate_left
        · simp only [Act.put, List.setIfInBounds_toArray, List.set_cons_zero, List.set_cons_succ, i64_w, i32_w]
          rfl
        refine take_ (i := 7) (N := some 57) (v := ?_) (a' := ?_) #[true, true, true, true, true, true, true, true, false, false, false, false, false] rfl rfl (by kernel_rfl) (fun _ _ _ h => h) (Or.inl ⟨by rfl, ?_⟩) hHeld ?_ ?_
        rotate_left
        · rintro w' ⟨s0, s1, s2⟩
          go_simp
          with_reducible rfl
        rotate_left
        · simp only [Act.put, List.setIfInBounds_toArray, List.set_cons_zero, List.set_cons_succ, i64_w, i32_w]
          rfl
        refine pure_ (i := 8) (N := some 58) (v := ?_) (a' := ?_) #[true, true, true, true, true, true, true, true, true, false, false, false, false] rfl rfl (by kernel_rfl) (fun _ _ _ h => h) (Or.inl ⟨by rfl, ?_⟩) ?_ ?_
        rotate_left
        · intro w'
          go_simp
          with_reducible rfl
        rotate_left
        · simp only [Act.put, List.setIfInBounds_toArray, List.set_cons_zero, List.set_cons_succ, i64_w, i32_w]
          rfl
        refine take_ (i := 9) (N := some 59) (v := ?_) (a' := ?_) #[true, true, true, true, true, true, true, true, true, true, false, false, false] rfl rfl (by kernel_rfl) (fun _ _ _ h => h) (Or.inl ⟨by rfl, ?_⟩) hHeld ?_ ?_
        rotate_left
        · rintro w' ⟨s0, s1, s2⟩
          go_simp
          with_reducible rfl
        rotate_left
        · simp only [Act.put, List.setIfInBounds_toArray, List.set_cons_zero, List.set_cons_succ, i64_w, i32_w]
          rfl
        refine pure_ (i := 10) (N := some 60) (v := ?_) (a' := ?_) #[true, true, true, true, true, true, true, true, true, true, true, false, false] rfl rfl (by kernel_rfl) (fun _ _ _ h => h) (Or.inl ⟨by rfl, ?_⟩) ?_ ?_
        rotate_left
        · intro w'
          go_simp
          with_reducible rfl
        rotate_left
        · simp only [Act.put, List.setIfInBounds_toArray, List.set_cons_zero, List.set_cons_succ, i64_w, i32_w]
          rfl
        refine one_ (i := 11) (N := none) #[true, true, true, true, true, true, true, true, true, true, true, true, false] rfl rfl (by kernel_rfl) (by decide) (fun K hK => ?_)
        refine skip_ (w1 := ?_) (by rfl) rfl ?_ ?_
        rotate_left
        · go_simp
          rfl
        refine hK.out _ _ ⟨set3_cell (hHeld.1) (by show Ba ≠ _; omega), set3_cell (hHeld.2.1) (by show ad.block ≠ _; omega), set3_cell (hHeld.2.2) (by show ad.block ≠ _; omega)⟩ (fun hHeld => ?_)
        clear hK K
        refine last_ (i := 12) (N := none) #[true, true, true, true, true, true, true, true, true, true, true, true, true] rfl rfl (by kernel_rfl) (by decide) (fun K hK => ?_)
        refine skip_ (w1 := ?_) (by rfl) rfl ?_ ?_
        rotate_left
        · go_simp
          rfl
        refine hK.out _ _ ?_
        clear hK K
        refine done_ (by kernel_rfl) ?_
        go_upto_region 7 with (fail)
        generalize hW3 : W2.drewN _ = W3
        have hs : W3.heap = W2.heap := by rw [← hW3]; rfl
        have hq : Below W2.heap.size W2 W3 := by rw [← hW3]; exact pw_below_drewN (Below.refl _ _) _
        have g0 := set3_same (u0 := .int .i64 x.f0) (u1 := .int .i64 x.f1) (u2 := .int .i64 (0)) (blk_heap hs F0.out)
        have g1 := (set3_blk (W := W3) (u0 := .int .i64 x.f0) (u1 := .int .i64 x.f1) (u2 := .int .i64 (0)) (show Ba ≠ Bp by omega)).trans (blk_heap hs FA.out)
        have g2 := (set3_blk (W := W3) (u0 := .int .i64 x.f0) (u1 := .int .i64 x.f1) (u2 := .int .i64 (0)) (show Bb ≠ Bp by omega)).trans (blk_heap hs FB.out)
        have gi := iter3 (HI.out.trans (IterStep.below hq)) HBP.out (.int .i64 x.f0) (.int .i64 x.f1) (.int .i64 (0))
        generalize hW4 : ((W3.setCell ⟨Bp, 0, none⟩ (.int .i64 x.f0)).setCell ⟨Bp, 1, none⟩ (.int .i64 x.f1)).setCell ⟨Bp, 2, none⟩ (.int .i64 (0)) = W4 at *
        replace g0 := (Below.heap_setCell W4 ⟨Ba, 0, none⟩ (.slice A2 ra'.length (ca - 1)) Bp (by show Bp ≠ Ba; omega)).trans g0
        replace g2 := (Below.heap_setCell W4 ⟨Ba, 0, none⟩ (.slice A2 ra'.length (ca - 1)) Bb h3).trans g2
        replace g1 := set1_same (u0 := .slice A2 ra'.length (ca - 1)) g1
        replace gi := gi.setA (.slice A2 ra'.length (ca - 1))
        generalize hWA : W4.setCell ⟨Ba, 0, none⟩ (.slice A2 ra'.length (ca - 1)) = WA at *
        clear hs hq
        have hpr := prs_lt ra' rb' HC.out
        obtain ⟨fn, tmps, assign, body, hy, hR⟩ := HY.out pre (x.f0, x.f1, 0) (prs ra' (y :: rb')) WA (by rw [HP.out, hpr]) (HJ.out _ _ _ HJ0.out gi)
        have hW5 : Below w0.heap.size w0 WA := hW.trans (iter_below gi h0a h0b hW.size)
        have hp0 := blk_cell g0 0
        have hp1 := blk_cell g0 1
        have hp2 := blk_cell g0 2
        simp at hp0 hp1 hp2
        have HPR := Aside0.mk hpr
        have G1 := Aside0.mk g1
        have G2 := Aside0.mk g2
        clear hpr g0 g1 g2 gi
        clear hc0 hc1 hc2 hfp hca hcb hfa hfb
        simp only [encPr] at hy
        refine (wpIn_wide (n := n)).1 ?_
        gi_wp2
        refine ⟨fun h => by simp [Fence.wide] at h, hR.mono ?_⟩
        rintro e W6 ⟨rfl, hj6, hk6⟩
        gi_wp2
        go_wp2
        go_roundw
        case rel => exact ⟨pre ++ [(x.f0, x.f1, 0)], ra', (y :: rb'), by rw [HP.out, HPR.out]; simp, hj6, hW5.trans hk6.below, ⟨A2, ca - 1, hk6.a.trans G1.out, by simp at hla; omega, HA2.out ▸ Dx.out⟩, ⟨_, _, hk6.b.trans G2.out, hlb, HRB.out⟩⟩
        case measure => rw [lenAt_eq ((blk_cell (hk6.a.trans G1.out) 0).trans rfl), lenAt_eq ((blk_cell (hk6.b.trans G2.out) 0).trans rfl), lenAt_eq ((blk_cell HBA.out 0).trans rfl), lenAt_eq ((blk_cell HBB.out 0).trans rfl)]; simp; try omega
      · replace hcmp : y.f0 ≤ x.f0 ∧ x.f0 ≤ y.f0 := by omega
        simp at hca hcb
        obtain ⟨ad, rfl, hx0, hx1⟩ := at_T24 (Kd.C_below hra hW) (0 : Int) (by omega) (by simp)
        simp [rd_T24] at hx0 hx1
        have lx : ad.block < wr.heap.size := World.block_lt_of_cell? _ _ hx0
        have Dx := Aside0.mk (drop1 hra hla)
        obtain ⟨bd, rfl, hy0, hy1⟩ := at_T24 (Kd.C_below hrb hW) (0 : Int) (by omega) (by simp)
        simp [rd_T24] at hy0 hy1
        have ly : bd.block < wr.heap.size := World.block_lt_of_cell? _ _ hy0
        have Dy := Aside0.mk (drop1 hrb hlb)
        have HRA := Aside0.mk hra
        have HRB := Aside0.mk hrb
        have la := blk_lt hba
        have lb := blk_lt hbb
        have hlt : decide (x.f0 < y.f0) = false := by simp; omega
        have hgt : decide (y.f0 < x.f0) = false := by simp; omega
        have HC := Aside0.mk hcmp
        clear hcmp
        clear hra hrb
        go_wp2_with fail
        have hit := IterStep.below (Ba := Ba) (Bb := Bb) (below_alloc (Below.refl wr.heap.size wr) (.cells #[.int .i64 0, .int .i64 0, .int .i64 0] 78))
        have f0 := blk_new wr (.cells #[.int .i64 0, .int .i64 0, .int .i64 0] 78)
        have fx0 : (wr.alloc (.cells #[.int .i64 0, .int .i64 0, .int .i64 0] 78)).cell? ad = some (.int .i64 x.f0) := ((below_alloc (Below.refl _ _) _).cell lx).trans hx0
        have fx1 : (wr.alloc (.cells #[.int .i64 0, .int .i64 0, .int .i64 0] 78)).cell? ⟨ad.block, ad.off + 1, none⟩ = some (.int .i64 x.f1) := ((below_alloc (Below.refl _ _) _).cell (p := ⟨ad.block, ad.off + 1, none⟩) lx).trans hx1
        clear hx0 hx1
        have fy0 : (wr.alloc (.cells #[.int .i64 0, .int .i64 0, .int .i64 0] 78)).cell? bd = some (.int .i64 y.f0) := ((below_alloc (Below.refl _ _) _).cell ly).trans hy0
        have fy1 : (wr.alloc (.cells #[.int .i64 0, .int .i64 0, .int .i64 0] 78)).cell? ⟨bd.block, bd.off + 1, none⟩ = some (.int .i64 y.f1) := ((below_alloc (Below.refl _ _) _).cell (p := ⟨bd.block, bd.off + 1, none⟩) ly).trans hy1
        clear hy0 hy1
        have fa := blk_alloc hba (.cells #[.int .i64 0, .int .i64 0, .int .i64 0] 78)
        have fb := blk_alloc hbb (.cells #[.int .i64 0, .int .i64 0, .int .i64 0] 78)
        clear hca hcb hfa hfb
        generalize hW2 : wr.alloc (.cells #[.int .i64 0, .int .i64 0, .int .i64 0] 78) = W2 at *
        generalize hBp : wr.heap.size = Bp at *
        have hc0 := blk_cell f0 0
        have hc1 := blk_cell f0 1
        have hc2 := blk_cell f0 2
        have hfp := fun j => blk_frozen f0 j
        have hca := blk_cell fa 0
        have hcb := blk_cell fb 0
        have hfa := blk_frozen fa 0
        have hfb := blk_frozen fb 0
        simp at hc0 hc1 hc2 hca hcb
        have h1 : ¬ Bp = Ba := by omega
        have h2 : ¬ Bp = Bb := by omega
        have h3 : ¬ Bb = Ba := fun e => hab e.symm
        have F0 := Aside0.mk f0
        have FA := Aside0.mk fa
        have FB := Aside0.mk fb
        have HW2 := Aside0.mk hW2
        have HI := Aside0.mk hit
        have HBA := Aside0.mk hba
        have HBB := Aside0.mk hbb
        have HBP := Aside0.mk hBp
        clear f0 fa fb hW2 hit hba hbb hBp
        have hslA : ∀ W : World, (Instr.slice 22 (.slice (some ad) (ra'.length + 1) ca) (some (.int .i64 1)) none none).run Tryd.prog W = .ok (.slice (if ca = 1 then some ad else some (ad.add 2)) ra'.length (ca - 1)) W := fun W => cut1 _ _ _ W
        generalize hA2 : (if ca = 1 then some ad else some (ad.add 2)) = A2 at hslA
        have HA2 := Aside0.mk hA2
        clear hA2
        have hslB : ∀ W : World, (Instr.slice 22 (.slice (some bd) (rb'.length + 1) cb) (some (.int .i64 1)) none none).run Tryd.prog W = .ok (.slice (if cb = 1 then some bd else some (bd.add 2)) rb'.length (cb - 1)) W := fun W => cut1 _ _ _ W
        generalize hB2 : (if cb = 1 then some bd else some (bd.add 2)) = B2 at hslB
        have HB2 := Aside0.mk hB2
        clear hB2
        go_quiet (fail)
        go_wp2_with fail
        go_quiet (fail)
        go_wp2_with fail
        refine start_ (n := 20) (S := fun w' => w'.cell? ⟨Ba, 0, none⟩ = some (.slice (some ad) (ra'.length + 1) ca) ∧ w'.cell? ⟨Bb, 0, none⟩ = some (.slice (some bd) (rb'.length + 1) cb) ∧ w'.cell? ad = some (.int .i64 x.f0) ∧ w'.cell? ⟨ad.block, ad.off + 1, none⟩ = some (.int .i64 x.f1) ∧ w'.cell? ⟨bd.block, bd.off + 1, none⟩ = some (.int .i64 y.f1)) (ds := [18, 19]) #[false, false, false, false, false, false, false, false, false, false, false, false, false, false, false, false, false, false, false, false] (by kernel_rfl) rfl rfl ⟨(by go_keep), (by go_keep), (by go_keep), (by go_keep), (by go_keep)⟩ (fun hHeld => ?_)
        refine take_ (i := 0) (N := some 13) (v := ?_) (a' := ?_) #[true, false, false, false, false, false, false, false, false, false, false, false, false, false, false, false, false, false, false, false] rfl rfl (by kernel_rfl) (fun _ _ _ h => h) (Or.inl ⟨by rfl, ?_⟩) hHeld ?_ ?_
        rotate_left
        · rintro w' ⟨s0, s1, s2, s3, s4⟩
          go_simp
          with_reducible rfl
        rotate_left
        · simp only [Act.put, List.setIfInBounds_toArray, List.set_cons_zero, List.set_cons_succ, i64_w, i32_w]
          rfl
        refine pure_ (i := 1) (N := some 14) (v := ?_) (a' := ?_) #[true, true, false, false, false, false, false, false, false, false, false, false, false, false, false, false, false, false, false, false] rfl rfl (by kernel_rfl) (fun _ _ _ h => h) (Or.inl ⟨by rfl, ?_⟩) ?_ ?_
        rotate_left
        · intro w'
          go_simp
          with_reducible rfl
        rotate_left
        · simp only [Act.put, List.setIfInBounds_toArray, List.set_cons_zero, List.set_cons_succ, i64_w, i32_w]
          rfl
        refine pure_ (i := 2) (N := some 15) (v := ?_) (a' := ?_) #[true, true, true, false, false, false, false, false, false, false, false, false, false, false, false, false, false, false, false, false] rfl rfl (by kernel_rfl) (fun _ _ _ h => h) (Or.inl ⟨by rfl, ?_⟩) ?_ ?_
        rotate_left
        · intro w'
          go_simp
          with_reducible rfl
        rotate_left
        · simp only [Act.put, List.setIfInBounds_toArray, List.set_cons_zero, List.set_cons_succ, i64_w, i32_w]
          rfl
        refine take_ (i := 3) (N := some 16) (v := ?_) (a' := ?_) #[true, true, true, true, false, false, false, false, false, false, false, false, false, false, false, false, false, false, false, false] rfl rfl (by kernel_rfl) (fun _ _ _ h => h) (Or.inl ⟨by rfl, ?_⟩) hHeld ?_ ?_
        rotate_left
        · rintro w' ⟨s0, s1, s2, s3, s4⟩
          go_simp
          with_reducible rfl
        rotate_left
        · simp only [Act.put, List.setIfInBounds_toArray, List.set_cons_zero, List.set_cons_succ, i64_w, i32_w]
          rfl
        refine take_ (i := 4) (N := some 17) (v := ?_) (a' := ?_) #[true, true, true, true, true, false, false, false, false, false, false, false, false, false, false, false, false, false, false, false] rfl rfl (by kernel_rfl) (fun _ _ _ h => h) (Or.inl ⟨by rfl, ?_⟩) hHeld ?_ ?_
        rotate_left
        · rintro w' ⟨s0, s1, s2, s3, s4⟩
          go_simp
          with_reducible rfl
        rotate_left
        · simp only [Act.put, List.setIfInBounds_toArray, List.set_cons_zero, List.set_cons_succ, i64_w, i32_w]
          rfl
        refine pure_ (i := 5) (N := some 18) (v := ?_) (a' := ?_) #[true, true, true, true, true, true, false, false, false, false, false, false, false, false, false, false, false, false, false, false] rfl rfl (by kernel_rfl) (fun _ _ _ h => h) (Or.inl ⟨by rfl, ?_⟩) ?_ ?_
        rotate_left
        · intro w'
          go_simp
          with_reducible rfl
        rotate_left
        · simp only [Act.put, List.setIfInBounds_toArray, List.set_cons_zero, List.set_cons_succ, i64_w, i32_w]
          rfl
        refine pure_ (i := 6) (N := some 19) (v := ?_) (a' := ?_) #[true, true, true, true, true, true, true, false, false, false, false, false, false, false, false, false, false, false, false, false] rfl rfl (by kernel_rfl) (fun _ _ _ h => h) (Or.inl ⟨by rfl, ?_⟩) ?_ ?_
        rotate_left
        · intro w'
          go_simp
          with_reducible rfl
        rotate_left
        · simp only [Act.put, List.setIfInBounds_toArray, List.set_cons_zero, List.set_cons_succ, i64_w, i32_w]
          rfl
        refine take_ (i := 7) (N := some 20) (v := ?_) (a' := ?_) #[true, true, true, true, true, true, true, true, false, false, false, false, false, false, false, false, false, false, false, false] rfl rfl (by kernel_rfl) (fun _ _ _ h => h) (Or.inl ⟨by rfl, ?_⟩) hHeld ?_ ?_
        rotate_left
        · rintro w' ⟨s0, s1, s2, s3, s4⟩
          go_simp
          with_reducible rfl
        rotate_left
        · simp only [Act.put, List.setIfInBounds_toArray, List.set_cons_zero, List.set_cons_succ, i64_w, i32_w]
          rfl
        refine take_ (i := 8) (N := some 21) (v := ?_) (a' := ?_) #[true, true, true, true, true, true, true, true, true, false, false, false, false, false, false, false, false, false, false, false] rfl rfl (by kernel_rfl) (fun _ _ _ h => h) (Or.inl ⟨by rfl, ?_⟩) hHeld ?_ ?_
        rotate_left
        · rintro w' ⟨s0, s1, s2, s3, s4⟩
          go_simp
          with_reducible rfl
        rotate_left
        · simp only [Act.put, List.setIfInBounds_toArray, List.set_cons_zero, List.set_cons_succ, i64_w, i32_w]
          rfl
        refine pure_ (i := 9) (N := some 22) (v := ?_) (a' := ?_) #[true, true, true, true, true, true, true, true, true, true, false, false, false, false, false, false, false, false, false, false] rfl rfl (by kernel_rfl) (fun _ _ _ h => h) (Or.inl ⟨by rfl, ?_⟩) ?_ ?_
        rotate_left
        · intro w'
          go_simp
          with_reducible rfl
        rotate_left
        · simp only [Act.put, List.setIfInBounds_toArray, List.set_cons_zero, List.set_cons_succ, i64_w, i32_w]
          rfl
        refine pure_ (i := 10) (N := some 23) (v := ?_) (a' := ?_) #[true, true, true, true, true, true, true, true, true, true, true, false, false, false, false, false, false, false, false, false] rfl rfl (by kernel_rfl) (fun _ _ _ h => h) (Or.inl ⟨by rfl, ?_⟩) ?_ ?_
        rotate_left
        · intro w'
          go_simp
          with_reducible rfl
        rotate_left
        · simp only [Act.put, List.setIfInBounds_toArray, List.set_cons_zero, List.set_cons_succ, i64_w, i32_w]
          rfl
        refine take_ (i := 11) (N := some 24) (v := ?_) (a' := ?_) #[true, true, true, true, true, true, true, true, true, true, true, true, false, false, false, false, false, false, false, false] rfl rfl (by kernel_rfl) (fun _ _ _ h => h) (Or.inl ⟨by rfl, ?_⟩) hHeld ?_ ?_
        rotate_left
        · rintro w' ⟨s0, s1, s2, s3, s4⟩
          go_simp
          with_reducible rfl
        rotate_left
        · simp only [Act.put, List.setIfInBounds_toArray, List.set_cons_zero, List.set_cons_succ, i64_w, i32_w]
          rfl
        refine pure_ (i := 12) (N := some 25) (v := ?_) (a' := ?_) #[true, true, true, true, true, true, true, true, true, true, true, true, true, false, false, false, false, false, false, false] rfl rfl (by kernel_rfl) (fun _ _ _ h => h) (Or.inl ⟨by rfl, ?_⟩) ?_ ?_
        rotate_left
        · intro w'
          go_simp
          with_reducible rfl
        rotate_left
        · simp only [Act.put, List.setIfInBounds_toArray, List.set_cons_zero, List.set_cons_succ, i64_w, i32_w]
          rfl
        refine take_ (i := 13) (N := some 26) (v := ?_) (a' := ?_) #[true, true, true, true, true, true, true, true, true, true, true, true, true, true, false, false, false, false, false, false] rfl rfl (by kernel_rfl) (fun _ _ _ h => h) (Or.inl ⟨by rfl, ?_⟩) hHeld ?_ ?_
        rotate_left
        · rintro w' ⟨s0, s1, s2, s3, s4⟩
          go_simp
          with_reducible rfl
        rotate_left
        · simp only [Act.put, List.setIfInBounds_toArray, List.set_cons_zero, List.set_cons_succ, i64_w, i32_w]
          rfl
        refine pure_ (i := 14) (N := some 27) (v := ?_) (a' := ?_) #[true, true, true, true, true, true, true, true, true, true, true, true, true, true, true, false, false, false, false, false] rfl rfl (by kernel_rfl) (fun _ _ _ h => h) (Or.inl ⟨by rfl, ?_⟩) ?_ ?_
        rotate_left
        · intro w'
          go_simp
          with_reducible rfl
        rotate_left
        · simp only [Act.put, List.setIfInBounds_toArray, List.set_cons_zero, List.set_cons_succ, i64_w, i32_w]
          rfl
        have hcB : (W2.cell? ⟨Bb, 0, none⟩ = some (.slice (some bd) (rb'.length + 1) cb)) := hcb
        refine join_ (σ := Unit) 0 #[true, true, true, true, true, true, true, true, true, true, true, true, true, true, true, true, true, true, true, true] (fun _ => [(28, .slice (some bd) (rb'.length + 1) cb), (29, .slice B2 rb'.length (cb - 1))]) (fun _ w' => Fin2 Ba Bb Bp wr (.int .i64 x.f0) (.int .i64 x.f1) (.int .i64 y.f1) (.slice A2 ra'.length (ca - 1)) (.slice B2 rb'.length (cb - 1)) w') ?_ ?_
        rotate_left
        · intro hCont
          refine wpAnyLast_ready (rs := [15, 17]) (by kernel_rfl) (by simp) ?_
          refine AllReadyL.cons_same (v := .slice (some bd) (rb'.length + 1) cb) rfl (by rfl) (by first | (go_simp; done) | (go_simp; rfl)) ?_ ?_
          · skip
            refine norm_ (a' := ?_) ?_ ?_
            rotate_left
            · show Act.put _ (some 28) _ = _
              simp only [Act.put, List.setIfInBounds_toArray, List.set_cons_zero, List.set_cons_succ, i64_w, i32_w]
              rfl
            refine pure_ (i := 16) (N := some 29) (v := ?_) (a' := ?_) #[true, true, true, true, true, true, true, true, true, true, true, true, true, true, true, true, true, false, false, false] rfl rfl (by kernel_rfl) (fun _ _ _ h => h) (Or.inl ⟨by rfl, ?_⟩) ?_ ?_
            rotate_left
            · intro w'
              go_simp
              with_reducible rfl
            rotate_left
            · simp only [Act.put, List.setIfInBounds_toArray, List.set_cons_zero, List.set_cons_succ, i64_w, i32_w]
              rfl
            refine one_ (i := 17) (N := none) #[true, true, true, true, true, true, true, true, true, true, true, true, true, true, true, true, true, true, false, false] rfl rfl (by kernel_rfl) (by decide) (fun K hK => ?_)
            refine skip_ (w1 := ?_) (by rfl) rfl ?_ ?_
            rotate_left
            · go_simp
              rfl
            refine hK.out _ _ ⟨set3_cell (hHeld.1) (by show Ba ≠ _; omega), set3_cell (hHeld.2.1) (by show Bb ≠ _; omega), set3_cell (hHeld.2.2.1) (by show ad.block ≠ _; omega), set3_cell (hHeld.2.2.2.1) (by show ad.block ≠ _; omega), set3_cell (hHeld.2.2.2.2) (by show bd.block ≠ _; omega)⟩ (fun hHeld => ?_)
            clear hK K
            refine last_ (i := 18) (N := none) #[true, true, true, true, true, true, true, true, true, true, true, true, true, true, true, true, true, true, true, false] rfl rfl (by kernel_rfl) (by decide) (fun K hK => ?_)
            refine skip_ (w1 := ?_) (by rfl) rfl ?_ ?_
            rotate_left
            · go_simp
              rfl
            refine hK.out _ _ ?_
            clear hK K
            refine last_ (i := 19) (N := none) #[true, true, true, true, true, true, true, true, true, true, true, true, true, true, true, true, true, true, true, true] rfl rfl (by kernel_rfl) (by decide) (fun K hK => ?_)
            refine skip_ (w1 := ?_) (by rfl) rfl ?_ ?_
            rotate_left
            · go_simp
              rfl
            refine hK.out _ _ ?_
            clear hK K
            exact norm_ (by simp only [putAll, Act.put, List.setIfInBounds_toArray, List.set_cons_zero, List.set_cons_succ]) (hCont () _ (fin2 (W2 := W2) rfl (pw_below_drewN (Below.refl _ _) _) F0.out FA.out FB.out HI.out HBP.out la lb hab))
          · refine AllReadyL.cons rfl (by decide) (fun K hK => ?_) AllReadyL.nil
            refine skip_ (w1 := ?_) (by rfl) rfl ?_ ?_
            rotate_left
            · go_simp
              rfl
            refine hK.out _ _ ⟨set3_cell (hHeld.1) (by show Ba ≠ _; omega), set3_cell (hHeld.2.1) (by show Bb ≠ _; omega), set3_cell (hHeld.2.2.1) (by show ad.block ≠ _; omega), set3_cell (hHeld.2.2.2.1) (by show ad.block ≠ _; omega), set3_cell (hHeld.2.2.2.2) (by show bd.block ≠ _; omega)⟩ (fun hHeld => ?_)
            clear hK K
            refine wpAnyLast_ready (rs := [15, 18]) (by kernel_rfl) (by simp) ?_
            refine AllReadyL.cons_same (v := .slice (some bd) (rb'.length + 1) cb) rfl (by rfl) (by first | (go_simp; done) | (go_simp; rfl)) ?_ ?_
            · skip
              refine norm_ (a' := ?_) ?_ ?_
              rotate_left
              · show Act.put _ (some 28) _ = _
                simp only [Act.put, List.setIfInBounds_toArray, List.set_cons_zero, List.set_cons_succ, i64_w, i32_w]
                rfl
              refine pure_ (i := 16) (N := some 29) (v := ?_) (a' := ?_) #[true, true, true, true, true, true, true, true, true, true, true, true, true, true, true, true, true, true, false, false] rfl rfl (by kernel_rfl) (fun _ _ _ h => h) (Or.inl ⟨by rfl, ?_⟩) ?_ ?_
              rotate_left
              · intro w'
                go_simp
                with_reducible rfl
              rotate_left
              · simp only [Act.put, List.setIfInBounds_toArray, List.set_cons_zero, List.set_cons_succ, i64_w, i32_w]
                rfl
              refine last_ (i := 18) (N := none) #[true, true, true, true, true, true, true, true, true, true, true, true, true, true, true, true, true, true, true, false] rfl rfl (by kernel_rfl) (by decide) (fun K hK => ?_)
              refine skip_ (w1 := ?_) (by rfl) rfl ?_ ?_
              rotate_left
              · go_simp
                rfl
              refine hK.out _ _ ?_
              clear hK K
              refine last_ (i := 19) (N := none) #[true, true, true, true, true, true, true, true, true, true, true, true, true, true, true, true, true, true, true, true] rfl rfl (by kernel_rfl) (by decide) (fun K hK => ?_)
              refine skip_ (w1 := ?_) (by rfl) rfl ?_ ?_
              rotate_left
              · go_simp
                rfl
              refine hK.out _ _ ?_
              clear hK K
              exact norm_ (by simp only [putAll, Act.put, List.setIfInBounds_toArray, List.set_cons_zero, List.set_cons_succ]) (hCont () _ (fin2 (W2 := W2) rfl (pw_below_drewN (Below.refl _ _) _) F0.out FA.out FB.out HI.out HBP.out la lb hab))
            · refine AllReadyL.cons_last rfl (by decide) (fun K hK => ?_) AllReadyL.nil
              refine skip_ (w1 := ?_) (by rfl) rfl ?_ ?_
              rotate_left
              · go_simp
                rfl
              refine hK.out _ _ ?_
              clear hK K
              refine wpAnyLast_ready (rs := [15]) (by kernel_rfl) (by simp) ?_
              refine AllReadyL.cons_same (v := .slice (some bd) (rb'.length + 1) cb) rfl (by rfl) (by first | (go_simp; done) | (go_simp; rfl)) ?_ AllReadyL.nil
              refine norm_ (a' := ?_) ?_ ?_
              rotate_left
              · show Act.put _ (some 28) _ = _
                simp only [Act.put, List.setIfInBounds_toArray, List.set_cons_zero, List.set_cons_succ, i64_w, i32_w]
                rfl
              refine pure_ (i := 16) (N := some 29) (v := ?_) (a' := ?_) #[true, true, true, true, true, true, true, true, true, true, true, true, true, true, true, true, true, true, true, false] rfl rfl (by kernel_rfl) (fun _ _ _ h => h) (Or.inl ⟨by rfl, ?_⟩) ?_ ?_
              rotate_left
              · intro w'
                go_simp
                with_reducible rfl
              rotate_left
              · simp only [Act.put, List.setIfInBounds_toArray, List.set_cons_zero, List.set_cons_succ, i64_w, i32_w]
                rfl
              refine last_ (i := 19) (N := none) #[true, true, true, true, true, true, true, true, true, true, true, true, true, true, true, true, true, true, true, true] rfl rfl (by kernel_rfl) (by decide) (fun K hK => ?_)
              refine skip_ (w1 := ?_) (by rfl) rfl ?_ ?_
              rotate_left
              · go_simp
                rfl
              refine hK.out _ _ ?_
              clear hK K
              exact norm_ (by simp only [putAll, Act.put, List.setIfInBounds_toArray, List.set_cons_zero, List.set_cons_succ]) (hCont () _ (fin2 (W2 := W2) rfl (pw_below_drewN (Below.refl _ _) _) F0.out FA.out FB.out HI.out HBP.out la lb hab))
        rintro _ W5 ⟨g0, g1, g2, gi⟩
        refine norm_ (a' := ?_) ?_ ?_
        rotate_left
        · simp only [putAll, Act.put, List.setIfInBounds_toArray, List.set_cons_zero, List.set_cons_succ]
          rfl
        refine done_ (by kernel_rfl) ?_
        have G0 := Aside0.mk g0
        have G1 := Aside0.mk g1
        have G2 := Aside0.mk g2
        have GI := Aside0.mk gi
        clear g0 g1 g2 gi
        go_upto_region 7 with (fail)
        have g0 := G0.out
        have g1 := G1.out
        have g2 := G2.out
        have gi := GI.out
        clear G0 G1 G2 GI
        have hpr := prs_eq ra' rb' HC.out.1 HC.out.2
        obtain ⟨fn, tmps, assign, body, hy, hR⟩ := HY.out pre (x.f0, x.f1, y.f1) (prs ra' rb') W5 (by rw [HP.out, hpr]) (HJ.out _ _ _ HJ0.out gi)
        have hW5 : Below w0.heap.size w0 W5 := hW.trans (iter_below gi h0a h0b hW.size)
        have hp0 := blk_cell g0 0
        have hp1 := blk_cell g0 1
        have hp2 := blk_cell g0 2
        simp at hp0 hp1 hp2
        have HPR := Aside0.mk hpr
        have G1 := Aside0.mk g1
        have G2 := Aside0.mk g2
        clear hpr g0 g1 g2 gi
        clear hc0 hc1 hc2 hfp hca hcb hfa hfb
        simp only [encPr] at hy
        refine (wpIn_wide (n := n)).1 ?_
        gi_wp2
        refine ⟨fun h => by simp [Fence.wide] at h, hR.mono ?_⟩
        rintro e W6 ⟨rfl, hj6, hk6⟩
        gi_wp2
        go_wp2
        go_roundw
        case rel => exact ⟨pre ++ [(x.f0, x.f1, y.f1)], ra', rb', by rw [HP.out, HPR.out]; simp, hj6, hW5.trans hk6.below, ⟨A2, ca - 1, hk6.a.trans G1.out, by simp at hla; omega, HA2.out ▸ Dx.out⟩, ⟨B2, cb - 1, hk6.b.trans G2.out, by simp at hlb; omega, HB2.out ▸ Dy.out⟩⟩
        case measure => rw [lenAt_eq ((blk_cell (hk6.a.trans G1.out) 0).trans rfl), lenAt_eq ((blk_cell (hk6.b.trans G2.out) 0).trans rfl), lenAt_eq ((blk_cell HBA.out 0).trans rfl), lenAt_eq ((blk_cell HBB.out 0).trans rfl)]; simp; try omega
      · skip
        simp at hca hcb
        obtain ⟨ad, rfl, hx0, hx1⟩ := at_T24 (Kd.C_below hra hW) (0 : Int) (by omega) (by simp)
        simp [rd_T24] at hx0 hx1
        have lx : ad.block < wr.heap.size := World.block_lt_of_cell? _ _ hx0
        have Dx := Aside0.mk (drop1 hra hla)
        obtain ⟨bd, rfl, hy0, hy1⟩ := at_T24 (Kd.C_below hrb hW) (0 : Int) (by omega) (by simp)
        simp [rd_T24] at hy0 hy1
        have ly : bd.block < wr.heap.size := World.block_lt_of_cell? _ _ hy0
        have Dy := Aside0.mk (drop1 hrb hlb)
        have HRA := Aside0.mk hra
        have HRB := Aside0.mk hrb
        have la := blk_lt hba
        have lb := blk_lt hbb
        have hlt : decide (x.f0 < y.f0) = false := by simp; omega
        have hgt : decide (y.f0 < x.f0) = true := by simp; omega
        have HC := Aside0.mk hcmp
        clear hcmp
        clear hra hrb
        go_wp2_with fail
        have hit := IterStep.below (Ba := Ba) (Bb := Bb) (below_alloc (Below.refl wr.heap.size wr) (.cells #[.int .i64 0, .int .i64 0, .int .i64 0] 78))
        have f0 := blk_new wr (.cells #[.int .i64 0, .int .i64 0, .int .i64 0] 78)
        have fx0 : (wr.alloc (.cells #[.int .i64 0, .int .i64 0, .int .i64 0] 78)).cell? ad = some (.int .i64 x.f0) := ((below_alloc (Below.refl _ _) _).cell lx).trans hx0
        have fx1 : (wr.alloc (.cells #[.int .i64 0, .int .i64 0, .int .i64 0] 78)).cell? ⟨ad.block, ad.off + 1, none⟩ = some (.int .i64 x.f1) := ((below_alloc (Below.refl _ _) _).cell (p := ⟨ad.block, ad.off + 1, none⟩) lx).trans hx1
        clear hx0 hx1
        have fy0 : (wr.alloc (.cells #[.int .i64 0, .int .i64 0, .int .i64 0] 78)).cell? bd = some (.int .i64 y.f0) := ((below_alloc (Below.refl _ _) _).cell ly).trans hy0
        have fy1 : (wr.alloc (.cells #[.int .i64 0, .int .i64 0, .int .i64 0] 78)).cell? ⟨bd.block, bd.off + 1, none⟩ = some (.int .i64 y.f1) := ((below_alloc (Below.refl _ _) _).cell (p := ⟨bd.block, bd.off + 1, none⟩) ly).trans hy1
        clear hy0 hy1
        have fa := blk_alloc hba (.cells #[.int .i64 0, .int .i64 0, .int .i64 0] 78)
        have fb := blk_alloc hbb (.cells #[.int .i64 0, .int .i64 0, .int .i64 0] 78)
        clear hca hcb hfa hfb
        generalize hW2 : wr.alloc (.cells #[.int .i64 0, .int .i64 0, .int .i64 0] 78) = W2 at *
        generalize hBp : wr.heap.size = Bp at *
        have hc0 := blk_cell f0 0
        have hc1 := blk_cell f0 1
        have hc2 := blk_cell f0 2
        have hfp := fun j => blk_frozen f0 j
        have hca := blk_cell fa 0
        have hcb := blk_cell fb 0
        have hfa := blk_frozen fa 0
        have hfb := blk_frozen fb 0
        simp at hc0 hc1 hc2 hca hcb
        have h1 : ¬ Bp = Ba := by omega
        have h2 : ¬ Bp = Bb := by omega
        have h3 : ¬ Bb = Ba := fun e => hab e.symm
        have F0 := Aside0.mk f0
        have FA := Aside0.mk fa
        have FB := Aside0.mk fb
        have HW2 := Aside0.mk hW2
        have HI := Aside0.mk hit
        have HBA := Aside0.mk hba
        have HBB := Aside0.mk hbb
        have HBP := Aside0.mk hBp
        clear f0 fa fb hW2 hit hba hbb hBp
        have hslB : ∀ W : World, (Instr.slice 22 (.slice (some bd) (rb'.length + 1) cb) (some (.int .i64 1)) none none).run Tryd.prog W = .ok (.slice (if cb = 1 then some bd else some (bd.add 2)) rb'.length (cb - 1)) W := fun W => cut1 _ _ _ W
        generalize hB2 : (if cb = 1 then some bd else some (bd.add 2)) = B2 at hslB
        have HB2 := Aside0.mk hB2
        clear hB2
        go_quiet (fail)
        go_wp2_with fail
        go_quiet (fail)
        go_wp2_with fail
        refine start_ (n := 13) (S := fun w' => w'.cell? ⟨Bb, 0, none⟩ = some (.slice (some bd) (rb'.length + 1) cb) ∧ w'.cell? bd = some (.int .i64 y.f0) ∧ w'.cell? ⟨bd.block, bd.off + 1, none⟩ = some (.int .i64 y.f1)) (ds := [12]) #[false, false, false, false, false, false, false, false, false, false, false, false, false] (by kernel_rfl) rfl rfl ⟨(by go_keep), (by go_keep), (by go_keep)⟩ (fun hHeld => ?_)
        refine take_ (i := 0) (N := some 76) (v := ?_) (a' := ?_) #[true, false, false, false, false, false, false, false, false, false, false, false, false] rfl rfl (by kernel_rfl) (fun _ _ _ h => h) (Or.inl ⟨by rfl, ?_⟩) hHeld ?_ ?_
        rotate_left
        · rintro w' ⟨s0, s1, s2⟩
          go_simp
          with_reducible rfl
        rotate_left
        · simp only [Act.put, List.setIfInBounds_toArray, List.set_cons_zero, List.set_cons_succ, i64_w, i32_w]
          rfl
        refine pure_ (i := 1) (N := some 77) (v := ?_) (a' := ?_) #[true, true, false, false, false, false, false, false, false, false, false, false, false] rfl rfl (by kernel_rfl) (fun _ _ _ h => h) (Or.inl ⟨by rfl, ?_⟩) ?_ ?_
        rotate_left
        · intro w'
          go_simp
          with_reducible rfl
        rotate_left
        · simp only [Act.put, List.setIfInBounds_toArray, List.set_cons_zero, List.set_cons_succ, i64_w, i32_w]
          rfl
        refine pure_ (i := 2) (N := some 78) (v := ?_) (a' := ?_) #[true, true, true, false, false, false, false, false, false, false, false, false, false] rfl rfl (by kernel_rfl) (fun _ _ _ h => h) (Or.inl ⟨by rfl, ?_⟩) ?_ ?_
        rotate_left
        · intro w'
          go_simp
          with_reducible rfl
        rotate_left
        · simp only [Act.put, List.setIfInBounds_toArray, List.set_cons_zero, List.set_cons_succ, i64_w, i32_w]
          rfl
        refine take_ (i := 3) (N := some 79) (v := ?_) (a' := ?_) #[true, true, true, true, false, false, false, false, false, false, false, false, false] rfl rfl (by kernel_rfl) (fun _ _ _ h => h) (Or.inl ⟨by rfl, ?_⟩) hHeld ?_ ?_
        rotate_left
        · rintro w' ⟨s0, s1, s2⟩
          go_simp
          with_reducible rfl
        rotate_left
        · simp only [Act.put, List.setIfInBounds_toArray, List.set_cons_zero, List.set_cons_succ, i64_w, i32_w]
          rfl
        refine take_ (i := 4) (N := some 80) (v := ?_) (a' := ?_) #[true, true, true, true, true, false, false, false, false, false, false, false, false] rfl rfl (by kernel_rfl) (fun _ _ _ h => h) (Or.inl ⟨by rfl, ?_⟩) hHeld ?_ ?_
        rotate_left
        · rintro w' ⟨s0, s1, s2⟩
          go_simp
          with_reducible rfl
        rotate_left
        · simp only [Act.put, List.setIfInBounds_toArray, List.set_cons_zero, List.set_cons_succ, i64_w, i32_w]
          rfl
        refine pure_ (i := 5) (N := some 81) (v := ?_) (a' := ?_) #[true, true, true, true, true, true, false, false, false, false, false, false, false] rfl rfl (by kernel_rfl) (fun _ _ _ h => h) (Or.inl ⟨by rfl, ?_⟩) ?_ ?_
        rotate_left
        · intro w'
          go_simp
          with_reducible rfl
        rotate_left
        · simp only [Act.put, List.setIfInBounds_toArray, List.set_cons_zero, List.set_cons_succ, i64_w, i32_w]
          rfl
        refine pure_ (i := 6) (N := some 82) (v := ?_) (a' := ?_) #[true, true, true, true, true, true, true, false, false, false, false, false, false] rfl rfl (by kernel_rfl) (fun _ _ _ h => h) (Or.inl ⟨by rfl, ?_⟩) ?_ ?_
        rotate_left
        · intro w'
          go_simp
          with_reducible rfl
        rotate_left
        · simp only [Act.put, List.setIfInBounds_toArray, List.set_cons_zero, List.set_cons_succ, i64_w, i32_w]
          rfl
        refine take_ (i := 7) (N := some 83) (v := ?_) (a' := ?_) #[true, true, true, true, true, true, true, true, false, false, false, false, false] rfl rfl (by kernel_rfl) (fun _ _ _ h => h) (Or.inl ⟨by rfl, ?_⟩) hHeld ?_ ?_
        rotate_left
        · rintro w' ⟨s0, s1, s2⟩
          go_simp
          with_reducible rfl
        rotate_left
        · simp only [Act.put, List.setIfInBounds_toArray, List.set_cons_zero, List.set_cons_succ, i64_w, i32_w]
          rfl
        refine pure_ (i := 8) (N := some 84) (v := ?_) (a' := ?_) #[true, true, true, true, true, true, true, true, true, false, false, false, false] rfl rfl (by kernel_rfl) (fun _ _ _ h => h) (Or.inl ⟨by rfl, ?_⟩) ?_ ?_
        rotate_left
        · intro w'
          go_simp
          with_reducible rfl
        rotate_left
        · simp only [Act.put, List.setIfInBounds_toArray, List.set_cons_zero, List.set_cons_succ, i64_w, i32_w]
          rfl
        refine take_ (i := 9) (N := some 85) (v := ?_) (a' := ?_) #[true, true, true, true, true, true, true, true, true, true, false, false, false] rfl rfl (by kernel_rfl) (fun _ _ _ h => h) (Or.inl ⟨by rfl, ?_⟩) hHeld ?_ ?_
        rotate_left
        · rintro w' ⟨s0, s1, s2⟩
          go_simp
          with_reducible rfl
        rotate_left
        · simp only [Act.put, List.setIfInBounds_toArray, List.set_cons_zero, List.set_cons_succ, i64_w, i32_w]
          rfl
        refine pure_ (i := 10) (N := some 86) (v := ?_) (a' := ?_) #[true, true, true, true, true, true, true, true, true, true, true, false, false] rfl rfl (by kernel_rfl) (fun _ _ _ h => h) (Or.inl ⟨by rfl, ?_⟩) ?_ ?_
        rotate_left
        · intro w'
          go_simp
          with_reducible rfl
        rotate_left
        · simp only [Act.put, List.setIfInBounds_toArray, List.set_cons_zero, List.set_cons_succ, i64_w, i32_w]
          rfl
        refine one_ (i := 11) (N := none) #[true, true, true, true, true, true, true, true, true, true, true, true, false] rfl rfl (by kernel_rfl) (by decide) (fun K hK => ?_)
        refine skip_ (w1 := ?_) (by rfl) rfl ?_ ?_
        rotate_left
        · go_simp
          rfl
        refine hK.out _ _ ⟨set3_cell (hHeld.1) (by show Bb ≠ _; omega), set3_cell (hHeld.2.1) (by show bd.block ≠ _; omega), set3_cell (hHeld.2.2) (by show bd.block ≠ _; omega)⟩ (fun hHeld => ?_)
        clear hK K
        refine last_ (i := 12) (N := none) #[true, true, true, true, true, true, true, true, true, true, true, true, true] rfl rfl (by kernel_rfl) (by decide) (fun K hK => ?_)
        refine skip_ (w1 := ?_) (by rfl) rfl ?_ ?_
        rotate_left
        · go_simp
          rfl
        refine hK.out _ _ ?_
        clear hK K
        refine done_ (by kernel_rfl) ?_
        go_upto_region 7 with (fail)
        generalize hW3 : W2.drewN _ = W3
        have hs : W3.heap = W2.heap := by rw [← hW3]; rfl
        have hq : Below W2.heap.size W2 W3 := by rw [← hW3]; exact pw_below_drewN (Below.refl _ _) _
        have g0 := set3_same (u0 := .int .i64 y.f0) (u1 := .int .i64 (0)) (u2 := .int .i64 y.f1) (blk_heap hs F0.out)
        have g1 := (set3_blk (W := W3) (u0 := .int .i64 y.f0) (u1 := .int .i64 (0)) (u2 := .int .i64 y.f1) (show Ba ≠ Bp by omega)).trans (blk_heap hs FA.out)
        have g2 := (set3_blk (W := W3) (u0 := .int .i64 y.f0) (u1 := .int .i64 (0)) (u2 := .int .i64 y.f1) (show Bb ≠ Bp by omega)).trans (blk_heap hs FB.out)
        have gi := iter3 (HI.out.trans (IterStep.below hq)) HBP.out (.int .i64 y.f0) (.int .i64 (0)) (.int .i64 y.f1)
        generalize hW4 : ((W3.setCell ⟨Bp, 0, none⟩ (.int .i64 y.f0)).setCell ⟨Bp, 1, none⟩ (.int .i64 (0))).setCell ⟨Bp, 2, none⟩ (.int .i64 y.f1) = W4 at *
        replace g0 := (Below.heap_setCell W4 ⟨Bb, 0, none⟩ (.slice B2 rb'.length (cb - 1)) Bp (by show Bp ≠ Bb; omega)).trans g0
        replace g1 := (Below.heap_setCell W4 ⟨Bb, 0, none⟩ (.slice B2 rb'.length (cb - 1)) Ba hab).trans g1
        replace g2 := set1_same (u0 := .slice B2 rb'.length (cb - 1)) g2
        replace gi := gi.setB (.slice B2 rb'.length (cb - 1))
        generalize hWB : W4.setCell ⟨Bb, 0, none⟩ (.slice B2 rb'.length (cb - 1)) = WB at *
        clear hs hq
        have hpr := prs_gt ra' rb' HC.out
        obtain ⟨fn, tmps, assign, body, hy, hR⟩ := HY.out pre (y.f0, 0, y.f1) (prs (x :: ra') rb') WB (by rw [HP.out, hpr]) (HJ.out _ _ _ HJ0.out gi)
        have hW5 : Below w0.heap.size w0 WB := hW.trans (iter_below gi h0a h0b hW.size)
        have hp0 := blk_cell g0 0
        have hp1 := blk_cell g0 1
        have hp2 := blk_cell g0 2
        simp at hp0 hp1 hp2
        have HPR := Aside0.mk hpr
        have G1 := Aside0.mk g1
        have G2 := Aside0.mk g2
        clear hpr g0 g1 g2 gi
        clear hc0 hc1 hc2 hfp hca hcb hfa hfb
        simp only [encPr] at hy
        refine (wpIn_wide (n := n)).1 ?_
        gi_wp2
        refine ⟨fun h => by simp [Fence.wide] at h, hR.mono ?_⟩
        rintro e W6 ⟨rfl, hj6, hk6⟩
        gi_wp2
        go_wp2
        go_roundw
        case rel => exact ⟨pre ++ [(y.f0, 0, y.f1)], (x :: ra'), rb', by rw [HP.out, HPR.out]; simp, hj6, hW5.trans hk6.below, ⟨_, _, hk6.a.trans G1.out, hla, HRA.out⟩, ⟨B2, cb - 1, hk6.b.trans G2.out, by simp at hlb; omega, HB2.out ▸ Dy.out⟩⟩
        case measure => rw [lenAt_eq ((blk_cell (hk6.a.trans G1.out) 0).trans rfl), lenAt_eq ((blk_cell (hk6.b.trans G2.out) 0).trans rfl), lenAt_eq ((blk_cell HBA.out 0).trans rfl), lenAt_eq ((blk_cell HBB.out 0).trans rfl)]; simp; try omega
end Go.Proofs.YtncejmjicjlanaaDoor.Q
