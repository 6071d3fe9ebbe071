/- Contract of ops.Compare: the order of two operations; nothing that was there changes. Conditions: the contexts read as lists of at most 100000, the texts are short, the listed variables hold what their initialisers gave. -/
import Derived.Test.YtncejmjicjlanaaDoorOps5
import Derived.Test.YtncejmjicjlanaaDoorCmp
import Derived.Test.YtncejmjicjlanaaDoorBytesC
namespace Go.Proofs.YtncejmjicjlanaaDoor.Q
open Go.RowKit Go.Proofs.YtncejmjicjlanaaDoorW.PrintWords Go.Proofs.YtncejmjicjlanaaDoorW.PrintLast Go.Proofs.YtncejmjicjlanaaDoorW.PrintMore
set_option linter.unusedVariables false
set_option linter.unusedSimpArgs false
/-- The order of two numbers; the first that is not zero; the order of two operations. -/
def cmpI (x y : Int) : Int := if x < y then -1 else if x > y then 1 else 0
def orI (x y z : Int) : Int := if x ≠ 0 then x else if y ≠ 0 then y else z
def encO (o : S45) : List Int := if opChk o = 0 then encP (opV o) else []
def opCmp (o p : S45) : Int := if orI (cmpI o.f1 p.f1) (cmpI o.f0.f0 p.f0.f0) (cmpI o.f0.f1 p.f0.f1) = 0 then cmpB (encO o) (encO p) else orI (cmpI o.f1 p.f1) (cmpI o.f0.f0 p.f0.f0) (cmpI o.f0.f1 p.f0.f1)
theorem cmpI_eq (x y : Int) : cmp_Compare_int.f x y = some (cmpI x y) := by
  unfold cmp_Compare_int.f cmp_isNaN_int.f cmpI
  simp
  repeat' split
  all_goals rfl
theorem orI_eq (x y z : Int) : cmp_Or_int.f 5 [x, y, z] = some (orI x y z) := by
  unfold cmp_Or_int.f orI
  by_cases hx : x = 0 <;> by_cases hy : y = 0 <;> by_cases hz : z = 0 <;> simp [cmp_Or_int.l0, rd, wrap64, hx, hy, hz]
theorem ints3_C {W : World} {B : Nat} {x y z : Int} (h : W.heap[B]? = some (.cells #[.int .i64 x, .int .i64 y, .int .i64 z] 3 (0, 0))) : Kd.C (Kd.int .i64) W (some ⟨B, 0, none⟩) 3 [x, y, z] := by
  refine ⟨rfl, by omega, fun _ => ⟨_, rfl, fun j p hj => ⟨[.int .i64 p], rfl, rfl, fun i u hu => ?_⟩⟩⟩
  rw [add_plain, blk_cell h]
  have hs : (Kd.int .i64).sz = 1 := rfl
  rw [hs]
  match i, hu with
  | 0, hu =>
    match j, hj with
    | 0, hj => simp at hj hu; subst hj; subst hu; rfl
    | 1, hj => simp at hj hu; subst hj; subst hu; rfl
    | 2, hj => simp at hj hu; subst hj; subst hu; rfl

set_option maxHeartbeats 8000000 in
set_option maxRecDepth 100000 in
theorem opsCompare_calls (o p : S45) (A A2 : Option Addr) (c c2 : Nat) (w : World) (hGG : GlobG w) (hGK : GlobK w) (hr : Kd.C k24 w A o.f2.length o.f2) (hc : o.f2.length ≤ c) (hl : o.f2.length ≤ 100000) (hsz : o.f3.f1.size + o.f7.size + o.f8.size ≤ 1000000) (hr2 : Kd.C k24 w A2 p.f2.length p.f2) (hc2 : p.f2.length ≤ c2) (hl2 : p.f2.length ≤ 100000) (hsz2 : p.f3.f1.size + p.f7.size + p.f8.size ≤ 1000000) :
    Calls Tryd.prog 39 #[.agg (opC o A c), .agg (opC p A2 c2)] w fun e w' => e = .returned (.int .i64 (opCmp o p)) ∧ Below w.heap.size w w' := by
  have hu45 := Tryd.underlying45
  have hu24 := Tryd.underlying24
  have HX := Aside0.mk (And.intro hGG (And.intro hGK (And.intro (And.intro hr (And.intro hc (And.intro hl hsz))) (And.intro hr2 (And.intro hc2 (And.intro hl2 hsz2))))))
  clear hGG hGK hr hc hl hsz hr2 hc2 hl2 hsz2
  have HB := Aside0.mk (Below.refl w.heap.size w)
  generalize hq : opCmp o p = R
  unfold opCmp at hq
  have HQ := Aside0.mk hq
  clear hq
  go_enter Tryd.func39, Tryd.ntmps39
  go_wp2_with (first | ((with_reducible refine gate_dst (N := 2) rfl ?_); refine box_event ?hg (N := 2) ?hd (cs := opC o A c) (t := 45) ?hr ?_; (case hd => rfl); (case hg => rfl); (case hr => first | (go_simp; done) | (go_simp; rfl)); intro g hg w1 hbox hb; have n1_ := Aside0.mk (below_step HB.out hb); have n2_ := Aside0.mk (by rw [hg]; exact below_size HB.out : w.heap.size ≤ g); clear HB; have HB := n1_; have Gg := n2_; clear n1_ n2_;  have HO := Aside0.mk (show IsOp w1 g o A c from hbox); clear hb hbox hg) | ((with_reducible refine gate_dst (N := 3) rfl ?_); refine box_event ?hg (N := 3) ?hd (cs := opC p A2 c2) (t := 45) ?hr ?_; (case hd => rfl); (case hg => rfl); (case hr => first | (go_simp; done) | (go_simp; rfl)); intro g2 hg w1 hbox hb; have n1_ := Aside0.mk (below_step HB.out hb); have n2_ := Aside0.mk (by rw [hg]; exact below_size HB.out : w.heap.size ≤ g2); clear HB; have HB := n1_; have Gg2 := n2_; clear n1_ n2_; have HO0 := Aside0.mk (IsOp.below HO.out hb); clear HO; have HP0 := Aside0.mk (show IsOp w1 g2 p A2 c2 from hbox); clear hb hbox hg))
  have HB0 := HB
  clear HB
  refine start_ (n := 22) (S := fun w' => w'.cell? ⟨g, 0, none⟩ = some (.int .i64 o.f0.f0) ∧ w'.cell? ⟨g, 1, none⟩ = some (.int .i64 o.f0.f1) ∧ w'.cell? ⟨g, 2, none⟩ = some (.int .i64 o.f1) ∧ w'.cell? ⟨g2, 0, none⟩ = some (.int .i64 p.f0.f0) ∧ w'.cell? ⟨g2, 1, none⟩ = some (.int .i64 p.f0.f1) ∧ w'.cell? ⟨g2, 2, none⟩ = some (.int .i64 p.f1)) (ds := []) #[false, false, false, false, false, false, false, false, false, false, false, false, false, false, false, false, false, false, false, false, false, false] (by kernel_rfl) rfl rfl ⟨(IsOp.c0 HO0.out), (IsOp.c1 HO0.out), (IsOp.c2 HO0.out), (IsOp.c0 HP0.out), (IsOp.c1 HP0.out), (IsOp.c2 HP0.out)⟩ (fun hHeld => ?_)
  replace HO0 := Aside0.mk (show IsOp w1.drew g o A c from HO0.out)
  replace HP0 := Aside0.mk (show IsOp w1.drew g2 p A2 c2 from HP0.out)
  replace HB0 := Aside0.mk (below_drew1 HB0.out)
  generalize w1.drew = V0 at *
  refine pure_ (i := 0) (N := some 9) (v := ?_) (a' := ?_) #[true, false, false, false, false, false, false, false, false, false, false, false, false, false, false, false, false, false, false, false, false, false] rfl rfl (by kernel_rfl) (fun _ _ _ h => h) (Or.inl ⟨by rfl, ?_⟩) ?_ ?_
  rotate_left
  · intro w'
    go_simp
    with_reducible rfl
  rotate_left
  · simp only [Act.put, List.setIfInBounds_toArray, List.set_cons_zero, List.set_cons_succ, i64_w, i32_w]
    rfl
  refine pure_ (i := 2) (N := some 11) (v := ?_) (a' := ?_) #[true, false, true, false, false, false, false, false, false, false, false, false, false, false, false, false, false, false, false, false, false, false] rfl rfl (by kernel_rfl) (fun _ _ _ h => h) (Or.inl ⟨by rfl, ?_⟩) ?_ ?_
  rotate_left
  · intro w'
    go_simp
    with_reducible rfl
  rotate_left
  · simp only [Act.put, List.setIfInBounds_toArray, List.set_cons_zero, List.set_cons_succ, i64_w, i32_w]
    rfl
  refine pure_ (i := 5) (N := some 14) (v := ?_) (a' := ?_) #[true, false, true, false, false, true, false, false, false, false, false, false, false, false, false, false, false, false, false, false, false, false] rfl rfl (by kernel_rfl) (fun _ _ _ h => h) (Or.inl ⟨by rfl, ?_⟩) ?_ ?_
  rotate_left
  · intro w'
    go_simp
    with_reducible rfl
  rotate_left
  · simp only [Act.put, List.setIfInBounds_toArray, List.set_cons_zero, List.set_cons_succ, i64_w, i32_w]
    rfl
  refine pure_ (i := 6) (N := some 15) (v := ?_) (a' := ?_) #[true, false, true, false, false, true, true, false, false, false, false, false, false, false, false, false, false, false, false, false, false, false] rfl rfl (by kernel_rfl) (fun _ _ _ h => h) (Or.inl ⟨by rfl, ?_⟩) ?_ ?_
  rotate_left
  · intro w'
    go_simp
    with_reducible rfl
  rotate_left
  · simp only [Act.put, List.setIfInBounds_toArray, List.set_cons_zero, List.set_cons_succ, i64_w, i32_w]
    rfl
  refine pure_ (i := 8) (N := some 17) (v := ?_) (a' := ?_) #[true, false, true, false, false, true, true, false, true, false, false, false, false, false, false, false, false, false, false, false, false, false] rfl rfl (by kernel_rfl) (fun _ _ _ h => h) (Or.inl ⟨by rfl, ?_⟩) ?_ ?_
  rotate_left
  · intro w'
    go_simp
    with_reducible rfl
  rotate_left
  · simp only [Act.put, List.setIfInBounds_toArray, List.set_cons_zero, List.set_cons_succ, i64_w, i32_w]
    rfl
  refine pure_ (i := 9) (N := some 18) (v := ?_) (a' := ?_) #[true, false, true, false, false, true, true, false, true, true, false, false, false, false, false, false, false, false, false, false, false, false] rfl rfl (by kernel_rfl) (fun _ _ _ h => h) (Or.inl ⟨by rfl, ?_⟩) ?_ ?_
  rotate_left
  · intro w'
    go_simp
    with_reducible rfl
  rotate_left
  · simp only [Act.put, List.setIfInBounds_toArray, List.set_cons_zero, List.set_cons_succ, i64_w, i32_w]
    rfl
  refine pure_ (i := 12) (N := some 21) (v := ?_) (a' := ?_) #[true, false, true, false, false, true, true, false, true, true, false, false, true, false, false, false, false, false, false, false, false, false] rfl rfl (by kernel_rfl) (fun _ _ _ h => h) (Or.inl ⟨by rfl, ?_⟩) ?_ ?_
  rotate_left
  · intro w'
    go_simp
    with_reducible rfl
  rotate_left
  · simp only [Act.put, List.setIfInBounds_toArray, List.set_cons_zero, List.set_cons_succ, i64_w, i32_w]
    rfl
  refine pure_ (i := 13) (N := some 22) (v := ?_) (a' := ?_) #[true, false, true, false, false, true, true, false, true, true, false, false, true, true, false, false, false, false, false, false, false, false] rfl rfl (by kernel_rfl) (fun _ _ _ h => h) (Or.inl ⟨by rfl, ?_⟩) ?_ ?_
  rotate_left
  · intro w'
    go_simp
    with_reducible rfl
  rotate_left
  · simp only [Act.put, List.setIfInBounds_toArray, List.set_cons_zero, List.set_cons_succ, i64_w, i32_w]
    rfl
  refine pure_ (i := 15) (N := some 24) (v := ?_) (a' := ?_) #[true, false, true, false, false, true, true, false, true, true, false, false, true, true, false, true, false, false, false, false, false, false] rfl rfl (by kernel_rfl) (fun _ _ _ h => h) (Or.inl ⟨by rfl, ?_⟩) ?_ ?_
  rotate_left
  · intro w'
    go_simp
    with_reducible rfl
  rotate_left
  · simp only [Act.put, List.setIfInBounds_toArray, List.set_cons_zero, List.set_cons_succ, i64_w, i32_w]
    rfl
  refine pure_ (i := 16) (N := some 25) (v := ?_) (a' := ?_) #[true, false, true, false, false, true, true, false, true, true, false, false, true, true, false, true, true, false, false, false, false, false] rfl rfl (by kernel_rfl) (fun _ _ _ h => h) (Or.inl ⟨by rfl, ?_⟩) ?_ ?_
  rotate_left
  · intro w'
    go_simp
    with_reducible rfl
  rotate_left
  · simp only [Act.put, List.setIfInBounds_toArray, List.set_cons_zero, List.set_cons_succ, i64_w, i32_w]
    rfl
  refine take_ (i := 1) (N := some 10) (v := ?_) (a' := ?_) #[true, true, true, false, false, true, true, false, true, true, false, false, true, true, false, true, true, false, false, false, false, false] rfl rfl (by kernel_rfl) (fun _ _ _ h => h) (Or.inl ⟨by rfl, ?_⟩) hHeld ?_ ?_
  rotate_left
  · rintro w' ⟨s0, s1, s2, s3, s4, s5⟩
    go_simp
    with_reducible rfl
  rotate_left
  · simp only [Act.put, List.setIfInBounds_toArray, List.set_cons_zero, List.set_cons_succ, i64_w, i32_w]
    rfl
  refine take_ (i := 3) (N := some 12) (v := ?_) (a' := ?_) #[true, true, true, true, false, true, true, false, true, true, false, false, true, true, false, true, true, false, false, false, false, false] rfl rfl (by kernel_rfl) (fun _ _ _ h => h) (Or.inl ⟨by rfl, ?_⟩) hHeld ?_ ?_
  rotate_left
  · rintro w' ⟨s0, s1, s2, s3, s4, s5⟩
    go_simp
    with_reducible rfl
  rotate_left
  · simp only [Act.put, List.setIfInBounds_toArray, List.set_cons_zero, List.set_cons_succ, i64_w, i32_w]
    rfl
  refine take_ (i := 7) (N := some 16) (v := ?_) (a' := ?_) #[true, true, true, true, false, true, true, true, true, true, false, false, true, true, false, true, true, false, false, false, false, false] rfl rfl (by kernel_rfl) (fun _ _ _ h => h) (Or.inl ⟨by rfl, ?_⟩) hHeld ?_ ?_
  rotate_left
  · rintro w' ⟨s0, s1, s2, s3, s4, s5⟩
    go_simp
    with_reducible rfl
  rotate_left
  · simp only [Act.put, List.setIfInBounds_toArray, List.set_cons_zero, List.set_cons_succ, i64_w, i32_w]
    rfl
  refine take_ (i := 10) (N := some 19) (v := ?_) (a' := ?_) #[true, true, true, true, false, true, true, true, true, true, true, false, true, true, false, true, true, false, false, false, false, false] rfl rfl (by kernel_rfl) (fun _ _ _ h => h) (Or.inl ⟨by rfl, ?_⟩) hHeld ?_ ?_
  rotate_left
  · rintro w' ⟨s0, s1, s2, s3, s4, s5⟩
    go_simp
    with_reducible rfl
  rotate_left
  · simp only [Act.put, List.setIfInBounds_toArray, List.set_cons_zero, List.set_cons_succ, i64_w, i32_w]
    rfl
  refine take_ (i := 14) (N := some 23) (v := ?_) (a' := ?_) #[true, true, true, true, false, true, true, true, true, true, true, false, true, true, true, true, true, false, false, false, false, false] rfl rfl (by kernel_rfl) (fun _ _ _ h => h) (Or.inl ⟨by rfl, ?_⟩) hHeld ?_ ?_
  rotate_left
  · rintro w' ⟨s0, s1, s2, s3, s4, s5⟩
    go_simp
    with_reducible rfl
  rotate_left
  · simp only [Act.put, List.setIfInBounds_toArray, List.set_cons_zero, List.set_cons_succ, i64_w, i32_w]
    rfl
  refine take_ (i := 17) (N := some 26) (v := ?_) (a' := ?_) #[true, true, true, true, false, true, true, true, true, true, true, false, true, true, true, true, true, true, false, false, false, false] rfl rfl (by kernel_rfl) (fun _ _ _ h => h) (Or.inl ⟨by rfl, ?_⟩) hHeld ?_ ?_
  rotate_left
  · rintro w' ⟨s0, s1, s2, s3, s4, s5⟩
    go_simp
    with_reducible rfl
  rotate_left
  · simp only [Act.put, List.setIfInBounds_toArray, List.set_cons_zero, List.set_cons_succ, i64_w, i32_w]
    rfl
  refine one_ (i := 4) (N := some 13) #[true, true, true, true, true, true, true, true, true, true, true, false, true, true, true, true, true, true, false, false, false, false] rfl rfl (by kernel_rfl) (by decide) (fun K hK => ?_)
  refine goes_ Tryd.func66 (by kernel_rfl) rfl #[.int .i64 o.f1, .int .i64 p.f1] (by rfl) rfl rfl (by simp only [List.map_toArray, List.map_cons, List.map_nil]; rfl) ?_
  refine (cmp_Compare_int.calls o.f1 p.f1 _ V0 (cmpI_eq _ _)).mono ?_
  rintro e V1 ⟨rfl, hd⟩
  have hb := hd.below
  clear hd
  have HO1 := Aside0.mk (IsOp.below HO0.out hb)
  have HP1 := Aside0.mk (IsOp.below HP0.out hb)
  have HB1 := Aside0.mk (below_step HB0.out hb)
  clear hb HO0 HP0 HB0
  refine ⟨_, rfl, ?_⟩
  refine hK.out _ _ ⟨(IsOp.c0 HO1.out), (IsOp.c1 HO1.out), (IsOp.c2 HO1.out), (IsOp.c0 HP1.out), (IsOp.c1 HP1.out), (IsOp.c2 HP1.out)⟩ (fun hHeld => ?_)
  clear hK K
  refine norm_ (a' := ?_) ?_ ?_
  rotate_left
  · show Act.put _ (some 13) _ = _
    simp only [Act.put, List.setIfInBounds_toArray, List.set_cons_zero, List.set_cons_succ, i64_w, i32_w]
    rfl
  refine one_ (i := 11) (N := some 20) #[true, true, true, true, true, true, true, true, true, true, true, true, true, true, true, true, true, true, false, false, false, false] rfl rfl (by kernel_rfl) (by decide) (fun K hK => ?_)
  refine goes_ Tryd.func66 (by kernel_rfl) rfl #[.int .i64 o.f0.f0, .int .i64 p.f0.f0] (by rfl) rfl rfl (by simp only [List.map_toArray, List.map_cons, List.map_nil]; rfl) ?_
  refine (cmp_Compare_int.calls o.f0.f0 p.f0.f0 _ V1 (cmpI_eq _ _)).mono ?_
  rintro e V2 ⟨rfl, hd⟩
  have hb := hd.below
  clear hd
  have HO2 := Aside0.mk (IsOp.below HO1.out hb)
  have HP2 := Aside0.mk (IsOp.below HP1.out hb)
  have HB2 := Aside0.mk (below_step HB1.out hb)
  clear hb HO1 HP1 HB1
  refine ⟨_, rfl, ?_⟩
  refine hK.out _ _ ⟨(IsOp.c0 HO2.out), (IsOp.c1 HO2.out), (IsOp.c2 HO2.out), (IsOp.c0 HP2.out), (IsOp.c1 HP2.out), (IsOp.c2 HP2.out)⟩ (fun hHeld => ?_)
  clear hK K
  refine norm_ (a' := ?_) ?_ ?_
  rotate_left
  · show Act.put _ (some 20) _ = _
    simp only [Act.put, List.setIfInBounds_toArray, List.set_cons_zero, List.set_cons_succ, i64_w, i32_w]
    rfl
  refine one_ (i := 18) (N := some 27) #[true, true, true, true, true, true, true, true, true, true, true, true, true, true, true, true, true, true, true, false, false, false] rfl rfl (by kernel_rfl) (by decide) (fun K hK => ?_)
  refine goes_ Tryd.func66 (by kernel_rfl) rfl #[.int .i64 o.f0.f1, .int .i64 p.f0.f1] (by rfl) rfl rfl (by simp only [List.map_toArray, List.map_cons, List.map_nil]; rfl) ?_
  refine (cmp_Compare_int.calls o.f0.f1 p.f0.f1 _ V2 (cmpI_eq _ _)).mono ?_
  rintro e V3 ⟨rfl, hd⟩
  have hb := hd.below
  clear hd
  have HO3 := Aside0.mk (IsOp.below HO2.out hb)
  have HP3 := Aside0.mk (IsOp.below HP2.out hb)
  have HB3 := Aside0.mk (below_step HB2.out hb)
  clear hb HO2 HP2 HB2
  refine ⟨_, rfl, ?_⟩
  refine hK.out _ _ ⟨(IsOp.c0 HO3.out), (IsOp.c1 HO3.out), (IsOp.c2 HO3.out), (IsOp.c0 HP3.out), (IsOp.c1 HP3.out), (IsOp.c2 HP3.out)⟩ (fun hHeld => ?_)
  clear hK K
  refine norm_ (a' := ?_) ?_ ?_
  rotate_left
  · show Act.put _ (some 27) _ = _
    simp only [Act.put, List.setIfInBounds_toArray, List.set_cons_zero, List.set_cons_succ, i64_w, i32_w]
    rfl
  refine one_ (i := 19) (N := some 28) #[true, true, true, true, true, true, true, true, true, true, true, true, true, true, true, true, true, true, true, true, false, false] rfl rfl (by kernel_rfl) (by decide) (fun K hK => ?_)
  refine value_ (w1 := ?_) (v := ?_) (by rfl) rfl ?_ ?_
  rotate_left 2
  · go_simp
    constructor
    · rfl
    · rfl
  have hT := blk_new V3 (.cells #[.int .i64 (cmpI o.f1 p.f1), .int .i64 (cmpI o.f0.f0 p.f0.f0), .int .i64 (cmpI o.f0.f1 p.f0.f1)] 3)
  have hb := below_alloc (Below.refl V3.heap.size V3) (.cells #[.int .i64 (cmpI o.f1 p.f1), .int .i64 (cmpI o.f0.f0 p.f0.f0), .int .i64 (cmpI o.f0.f1 p.f0.f1)] 3)
  have HO4 := Aside0.mk (IsOp.below HO3.out hb)
  have HP4 := Aside0.mk (IsOp.below HP3.out hb)
  have HB4 := Aside0.mk (below_step HB3.out hb)
  clear hb HO3 HP3 HB3
  generalize V3.heap.size = bl at *
  generalize V3.alloc (.cells #[.int .i64 (cmpI o.f1 p.f1), .int .i64 (cmpI o.f0.f0 p.f0.f0), .int .i64 (cmpI o.f0.f1 p.f0.f1)] 3) = V4 at *
  have T4 := Aside0.mk (ints3_C hT)
  clear hT
  refine hK.out _ _ ⟨(IsOp.c0 HO4.out), (IsOp.c1 HO4.out), (IsOp.c2 HO4.out), (IsOp.c0 HP4.out), (IsOp.c1 HP4.out), (IsOp.c2 HP4.out)⟩ (fun hHeld => ?_)
  clear hK K
  refine norm_ (a' := ?_) ?_ ?_
  rotate_left
  · show Act.put _ (some 28) _ = _
    simp only [Act.put, List.setIfInBounds_toArray, List.set_cons_zero, List.set_cons_succ, i64_w, i32_w]
    rfl
  refine one_ (i := 20) (N := some 29) #[true, true, true, true, true, true, true, true, true, true, true, true, true, true, true, true, true, true, true, true, true, false] rfl rfl (by kernel_rfl) (by decide) (fun K hK => ?_)
  refine goes_ Tryd.func65 (by kernel_rfl) rfl #[.slice (some ⟨bl, 0, none⟩) 3 3] (by rfl) rfl rfl (by simp only [List.map_toArray, List.map_cons, List.map_nil]; rfl) ?_
  refine (cmp_Or_int.calls 5 (some ⟨bl, 0, none⟩) 3 _ _ V4 T4.out (Nat.le_refl _) (orI_eq _ _ _)).mono ?_
  rintro e V5 ⟨rfl, hd⟩
  have hb := hd.below
  clear hd
  have HO5 := Aside0.mk (IsOp.below HO4.out hb)
  have HP5 := Aside0.mk (IsOp.below HP4.out hb)
  have HB5 := Aside0.mk (below_step HB4.out hb)
  clear hb HO4 HP4 HB4
  refine ⟨_, rfl, ?_⟩
  refine hK.out _ _ ⟨(IsOp.c0 HO5.out), (IsOp.c1 HO5.out), (IsOp.c2 HO5.out), (IsOp.c0 HP5.out), (IsOp.c1 HP5.out), (IsOp.c2 HP5.out)⟩ (fun hHeld => ?_)
  clear hK K
  refine norm_ (a' := ?_) ?_ ?_
  rotate_left
  · show Act.put _ (some 29) _ = _
    simp only [Act.put, List.setIfInBounds_toArray, List.set_cons_zero, List.set_cons_succ, i64_w, i32_w]
    rfl
  refine pure_ (i := 21) (N := some 4) (v := ?_) (a' := ?_) #[true, true, true, true, true, true, true, true, true, true, true, true, true, true, true, true, true, true, true, true, true, true] rfl rfl (by kernel_rfl) (fun _ _ _ h => h) (Or.inl ⟨by rfl, ?_⟩) ?_ ?_
  rotate_left
  · intro w'
    go_simp
    with_reducible rfl
  rotate_left
  · simp only [Act.put, List.setIfInBounds_toArray, List.set_cons_zero, List.set_cons_succ, i64_w, i32_w]
    rfl
  refine done_ (by kernel_rfl) ?_
  by_cases k1 : orI (cmpI o.f1 p.f1) (cmpI o.f0.f0 p.f0.f0) (cmpI o.f0.f1 p.f0.f1) = 0
  rotate_left
  · have b1 : (orI (cmpI o.f1 p.f1) (cmpI o.f0.f0 p.f0.f0) (cmpI o.f0.f1 p.f0.f1) == 0) = false := beq_eq_false_iff_ne.mpr k1
    obtain rfl : orI (cmpI o.f1 p.f1) (cmpI o.f0.f0 p.f0.f0) (cmpI o.f0.f1 p.f0.f1) = R := by rw [← HQ.out, if_neg k1]
    go_wp2
    go_ret
    exact ⟨rfl, HB5.out⟩
  have b1 : (orI (cmpI o.f1 p.f1) (cmpI o.f0.f0 p.f0.f0) (cmpI o.f0.f1 p.f0.f1) == 0) = true := beq_iff_eq.mpr k1
  obtain rfl : cmpB (encO o) (encO p) = R := by rw [← HQ.out, if_pos k1]
  clear k1 HQ T4
  obtain ⟨hGG, hGK, ⟨hr, hc, hl, hsz⟩, hr2, hc2, hl2, hsz2⟩ := HX.out
  go_wp2_with ((with_reducible refine gate_dst (N := 33) rfl ?_); refine load_event (by rfl) 45 (.tmp 2) rfl g rfl 45 (opC o A c) (0, 0) _ HO5.out Tryd.underlying45 rfl size45 ?_)
  refine (opsEncode_calls o A c V5 (GlobG_below hGG HB5.out) (GlobK_below hGK HB5.out) (Kd.C_below hr HB5.out) hc hl hsz).mono ?_
  rintro e V6 ⟨v1, rfl, hR1, hb⟩
  replace hR1 : Kd.R (Kd.int .u8) 5 V6 V5.heap.size (fun _ => True) v1 (encO o) := hR1
  obtain ⟨A3, c3, rfl, hc3, hC3⟩ := Kd.R_reads hR1
  have RA := Aside0.mk hC3
  have HP6 := Aside0.mk (IsOp.below HP5.out hb)
  have HB6 := Aside0.mk (below_step HB5.out hb)
  clear hb HO5 HP5 HB5 hR1 hC3 hc3 b1
  go_wp2_with ((with_reducible refine gate_dst (N := 38) rfl ?_); refine load_event (by rfl) 45 (.tmp 3) rfl g2 rfl 45 (opC p A2 c2) (0, 0) _ HP6.out Tryd.underlying45 rfl size45 ?_)
  refine (opsEncode_calls p A2 c2 V6 (GlobG_below hGG HB6.out) (GlobK_below hGK HB6.out) (Kd.C_below hr2 HB6.out) hc2 hl2 hsz2).mono ?_
  rintro e V7 ⟨v2, rfl, hR2, hb⟩
  replace hR2 : Kd.R (Kd.int .u8) 5 V7 V6.heap.size (fun _ => True) v2 (encO p) := hR2
  obtain ⟨A4, c4, rfl, hc4, hC4⟩ := Kd.R_reads hR2
  have RB := Aside0.mk hC4
  have RA7 := Aside0.mk (Kd.C_below RA.out hb)
  have HB7 := Aside0.mk (below_step HB6.out hb)
  clear hb HP6 HB6 hR2 hC4 hc4 RA
  go_wp2_with fail
  refine (bytesCompare_calls A3 A4 c3 c4 _ _ V7 RA7.out RB.out).mono ?_
  rintro e V8 ⟨rfl, rfl⟩
  go_wp2
  go_ret
  exact ⟨rfl, HB7.out⟩

end Go.Proofs.YtncejmjicjlanaaDoor.Q
