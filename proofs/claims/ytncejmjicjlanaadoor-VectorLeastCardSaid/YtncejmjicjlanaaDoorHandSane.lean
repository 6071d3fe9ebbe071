import Derived.Test.YtncejmjicjlanaaDoorHandCompare
import Derived.Test.YtncejmjicjlanaaDoorHandMerge
import Derived.Test.YtncejmjicjlanaaDoorQ4
import Derived.Test.YtncejmjicjlanaaDoorQ5
namespace Go.Proofs.YtncejmjicjlanaaDoor.Q
open Go.RowKit Go.Proofs.YtncejmjicjlanaaDoorW.PrintWords Go.Proofs.YtncejmjicjlanaaDoorW.PrintLast Go.Proofs.YtncejmjicjlanaaDoorW.PrintMore
set_option linter.unusedVariables false
set_option linter.unusedSimpArgs false

def sA : List S24 := [⟨2, 5⟩]
def sB : List S24 := [⟨2, 3⟩, ⟨7, 1⟩]
def sJ : List S24 := [⟨2, 5⟩, ⟨7, 1⟩]
def sM : List S24 := [⟨2, 3⟩]
def sO : List S24 := [⟨0, 1⟩]
def sZ : List S24 := [⟨0, 0⟩]
theorem ckA : vector_Check.f 20 sA = some 0 := by kernel_rfl
theorem ckB : vector_Check.f 20 sB = some 0 := by kernel_rfl
theorem ckAB : vector_check.f 20 sA sB = some 0 := by kernel_rfl
theorem pAB : prs sA sB = [(2, 5, 3), (7, 0, 1)] := by simp [prs, sA, sB]
theorem sjoin : vector_Join.f 20 sA sB = some (sJ, 0) := by
  unfold vector_Join.f
  rw [ckAB, pAB]
  kernel_rfl
theorem smeet : vector_Meet.f 20 sA sB = some (sM, 0) := by
  unfold vector_Meet.f
  rw [ckAB, pAB]
  kernel_rfl
theorem scmp : vector_Compare.f 20 sA sB = some (2, 0) := by
  unfold vector_Compare.f
  rw [ckAB, pAB]
  kernel_rfl
theorem swith : vector_With.f 20 sA 2 4 = some (sA, 0) := by
  unfold vector_With.f vector_Join.f
  rw [show vector_check.f 20 sA [(⟨2, 4⟩ : S24)] = some 0 by kernel_rfl, show prs sA [(⟨2, 4⟩ : S24)] = [(2, 5, 4)] by simp [prs, sA]]
  kernel_rfl
theorem sleast : vector_Compare.f 20 [] sO = some (-1, 0) := by
  unfold vector_Compare.f
  rw [show vector_check.f 20 [] sO = some 0 by kernel_rfl, show prs [] sO = [(0, 0, 1)] by simp [prs, sO]]
  kernel_rfl
theorem swith0 : vector_With.f 20 sA 0 0 = some ([], 120) := by
  unfold vector_With.f vector_Join.f
  rw [show vector_check.f 20 sA [(⟨0, 0⟩ : S24)] = some 120 by kernel_rfl]
  kernel_rfl
theorem sck0 : vector_Check.f 20 [] = some 0 := by kernel_rfl
theorem sckz : vector_Check.f 20 sZ = some 120 := by kernel_rfl
theorem sat0 : vector_At.f [] 3 = some 0 := by kernel_rfl
theorem sat7 : vector_At.f sB 7 = some 1 := by kernel_rfl
theorem scv1 : vector_Covers.f sJ 2 3 = some true := by kernel_rfl
theorem scv2 : vector_Covers.f sJ 2 6 = some false := by kernel_rfl
theorem scv3 : vector_Covers.f sJ 3 1 = some false := by kernel_rfl
theorem scv4 : vector_Covers.f sA 2 0 = some false := by kernel_rfl
theorem ssame1 : chartroomref12_Same.f 20 sJ sJ = some true := by kernel_rfl
theorem ssame2 : chartroomref12_Same.f 20 sM sM = some true := by kernel_rfl
theorem ssame3 : chartroomref12_Same.f 20 sA sA = some true := by kernel_rfl

theorem row1 {W : World} {B : Nat} {x0 x1 : Int} (h : W.heap[B]? = some (.cells #[.int .i64 x0, .int .i64 x1] 24 (0, 0))) : Kd.C k24 W (some ⟨B, 0, none⟩) 1 [⟨x0, x1⟩] := by
  refine ⟨rfl, by omega, fun _ => ⟨_, rfl, fun j p hj => ?_⟩⟩
  cases j with
  | succ j => simp at hj
  | zero =>
    simp at hj
    subst hj
    refine ⟨_, rfl, k24_mk _ _, fun i u hu => ?_⟩
    rw [add_plain, blk_cell h]
    simpa using hu
theorem row2 {W : World} {B : Nat} {x0 x1 y0 y1 : Int} (h : W.heap[B]? = some (.cells #[.int .i64 x0, .int .i64 x1, .int .i64 y0, .int .i64 y1] 24 (0, 0))) : Kd.C k24 W (some ⟨B, 0, none⟩) 2 [⟨x0, x1⟩, ⟨y0, y1⟩] := by
  refine ⟨rfl, by omega, fun _ => ⟨_, rfl, fun j p hj => ?_⟩⟩
  match j, hj with
  | 0, hj =>
    simp at hj
    subst hj
    refine ⟨_, rfl, k24_mk _ _, fun i u hu => ?_⟩
    rw [add_plain, blk_cell h]
    match i, hu with
    | 0, hu => simpa using hu
    | 1, hu => simpa using hu
  | 1, hj =>
    simp at hj
    subst hj
    refine ⟨_, rfl, k24_mk _ _, fun i u hu => ?_⟩
    rw [add_plain, blk_cell h]
    match i, hu with
    | 0, hu => simpa [show k24.sz = 2 from rfl] using hu
    | 1, hu => simpa [show k24.sz = 2 from rfl] using hu

set_option maxHeartbeats 2000000 in
set_option maxRecDepth 100000 in
theorem sane_calls (w : World) (hGG : GlobG w) (hGL : GlobL w) :
    Calls Tryd.prog 17 #[] w fun e w' => e = .returned (.bool true) ∧ Below w.heap.size w w' := by
  have HGG := Aside0.mk hGG
  clear hGG
  have HGL := Aside0.mk hGL
  clear hGL
  go_enter Tryd.func17, Tryd.ntmps17
  go_wp2_with fail
  have hA := blk_alloc (blk_new w (.cells #[.int .i64 2, .int .i64 5] 24)) (.cells #[.int .i64 2, .int .i64 3, .int .i64 7, .int .i64 1] 24)
  have hB := blk_new (w.alloc (.cells #[.int .i64 2, .int .i64 5] 24)) (.cells #[.int .i64 2, .int .i64 3, .int .i64 7, .int .i64 1] 24)
  rw [World.size_alloc] at hB
  have hb := below_alloc (below_alloc (Below.refl w.heap.size w) (.cells #[.int .i64 2, .int .i64 5] 24)) (.cells #[.int .i64 2, .int .i64 3, .int .i64 7, .int .i64 1] 24)
  generalize hW : (w.alloc (.cells #[.int .i64 2, .int .i64 5] 24)).alloc (.cells #[.int .i64 2, .int .i64 3, .int .i64 7, .int .i64 1] 24) = W1 at *
  have RA : Aside0 (Kd.C k24 W1 _ sA.length sA) := ⟨row1 hA⟩
  have RB : Aside0 (Kd.C k24 W1 _ sB.length sB) := ⟨row2 hB⟩
  have HB := Aside0.mk hb
  clear hW hA hB hb
  refine (vector_Join.calls 20 _ _ sA _ _ sB sJ 0 W1 (GlobG_below HGG.out HB.out) RA.out (Nat.le_refl _) RB.out (Nat.le_refl _) sjoin).mono ?_
  rintro e W2 ⟨v1, rfl, hR, hb⟩
  obtain ⟨AJ, cj, rfl, hcj, hCJ⟩ := Kd.R_reads hR
  have RJ := Aside0.mk hCJ
  have RA := Aside0.mk (Kd.C_below RA.out hb)
  have RB := Aside0.mk (Kd.C_below RB.out hb)
  have HB := Aside0.mk (HB.out.trans (hb.mono HB.out.size))
  have HCJ := Aside0.mk hcj
  clear hR hb hcj hCJ
  go_wp2_with fail
  refine (vector_Meet.calls 20 _ _ sA _ _ sB sM 0 W2 (GlobL_below HGL.out HB.out) RA.out (Nat.le_refl _) RB.out (Nat.le_refl _) smeet).mono ?_
  rintro e W3 ⟨v1, rfl, hR, hb⟩
  obtain ⟨AM, cm, rfl, hcm, hCM⟩ := Kd.R_reads hR
  have RM := Aside0.mk hCM
  have RA := Aside0.mk (Kd.C_below RA.out hb)
  have RB := Aside0.mk (Kd.C_below RB.out hb)
  have RJ := Aside0.mk (Kd.C_below RJ.out hb)
  have HB := Aside0.mk (HB.out.trans (hb.mono HB.out.size))
  have HCM := Aside0.mk hcm
  clear hR hb hcm hCM
  go_wp2_with fail
  refine (vector_Compare.calls 20 _ _ sA _ _ sB 2 0 W3 RA.out (Nat.le_refl _) RB.out (Nat.le_refl _) scmp).mono ?_
  rintro e W4 ⟨rfl, hb⟩
  have RA := Aside0.mk (Kd.C_below RA.out hb)
  have RB := Aside0.mk (Kd.C_below RB.out hb)
  have RJ := Aside0.mk (Kd.C_below RJ.out hb)
  have RM := Aside0.mk (Kd.C_below RM.out hb)
  have HB := Aside0.mk (HB.out.trans (hb.mono HB.out.size))
  clear hb
  go_wp2_with fail
  refine (vector_With.calls 20 _ _ sA 2 4 sA 0 W4 (GlobG_below HGG.out HB.out) RA.out (Nat.le_refl _) swith).mono ?_
  rintro e W5 ⟨v1, rfl, hR, hb⟩
  obtain ⟨AW, cw, rfl, hc_, hC_⟩ := Kd.R_reads hR
  have RW := Aside0.mk hC_
  have Hcw := Aside0.mk hc_
  clear hR hc_ hC_
  have RA := Aside0.mk (Kd.C_below RA.out hb)
  have RB := Aside0.mk (Kd.C_below RB.out hb)
  have RJ := Aside0.mk (Kd.C_below RJ.out hb)
  have RM := Aside0.mk (Kd.C_below RM.out hb)
  have HB := Aside0.mk (HB.out.trans (hb.mono HB.out.size))
  clear hb
  go_wp2_with fail
  have hO := blk_new W5 (.cells #[.int .i64 0, .int .i64 1] 24)
  have hb := below_alloc (Below.refl W5.heap.size W5) (.cells #[.int .i64 0, .int .i64 1] 24)
  generalize hW : W5.alloc (.cells #[.int .i64 0, .int .i64 1] 24) = W6 at *
  have RO : Aside0 (Kd.C k24 W6 _ sO.length sO) := ⟨row1 hO⟩
  have RA := Aside0.mk (Kd.C_below RA.out hb)
  have RB := Aside0.mk (Kd.C_below RB.out hb)
  have RJ := Aside0.mk (Kd.C_below RJ.out hb)
  have RM := Aside0.mk (Kd.C_below RM.out hb)
  have RW := Aside0.mk (Kd.C_below RW.out hb)
  have HB := Aside0.mk (HB.out.trans (hb.mono HB.out.size))
  clear hb hW hO
  refine (vector_Compare.calls 20 none 0 [] _ _ sO (-1) 0 W6 (Kd.C_nil _ _) (Nat.le_refl _) RO.out (Nat.le_refl _) sleast).mono ?_
  rintro e W7 ⟨rfl, hb⟩
  have RA := Aside0.mk (Kd.C_below RA.out hb)
  have RB := Aside0.mk (Kd.C_below RB.out hb)
  have RJ := Aside0.mk (Kd.C_below RJ.out hb)
  have RM := Aside0.mk (Kd.C_below RM.out hb)
  have RW := Aside0.mk (Kd.C_below RW.out hb)
  have HB := Aside0.mk (HB.out.trans (hb.mono HB.out.size))
  clear hb
  go_wp2_with fail
  refine (vector_With.calls 20 _ _ sA 0 0 [] 120 W7 (GlobG_below HGG.out HB.out) RA.out (Nat.le_refl _) swith0).mono ?_
  rintro e W8 ⟨v1, rfl, hR, hb⟩
  clear hR
  have RA := Aside0.mk (Kd.C_below RA.out hb)
  have RB := Aside0.mk (Kd.C_below RB.out hb)
  have RJ := Aside0.mk (Kd.C_below RJ.out hb)
  have RM := Aside0.mk (Kd.C_below RM.out hb)
  have RW := Aside0.mk (Kd.C_below RW.out hb)
  have HB := Aside0.mk (HB.out.trans (hb.mono HB.out.size))
  clear hb
  go_wp2_with fail
  refine (vector_Check.calls 20 none 0 [] 0 W8 (Kd.C_nil _ _) (Nat.le_refl _) sck0).mono ?_
  rintro e W9 ⟨rfl, hb⟩
  have RA := Aside0.mk (Kd.C_below RA.out hb)
  have RB := Aside0.mk (Kd.C_below RB.out hb)
  have RJ := Aside0.mk (Kd.C_below RJ.out hb)
  have RM := Aside0.mk (Kd.C_below RM.out hb)
  have RW := Aside0.mk (Kd.C_below RW.out hb)
  have HB := Aside0.mk (HB.out.trans (hb.mono HB.out.size))
  clear hb
  go_wp2_with fail
  have hO := blk_new W9 (.cells #[.int .i64 0, .int .i64 0] 24)
  have hb := below_alloc (Below.refl W9.heap.size W9) (.cells #[.int .i64 0, .int .i64 0] 24)
  generalize hW : W9.alloc (.cells #[.int .i64 0, .int .i64 0] 24) = W10 at *
  have RZ : Aside0 (Kd.C k24 W10 _ sZ.length sZ) := ⟨row1 hO⟩
  have RA := Aside0.mk (Kd.C_below RA.out hb)
  have RB := Aside0.mk (Kd.C_below RB.out hb)
  have RJ := Aside0.mk (Kd.C_below RJ.out hb)
  have RM := Aside0.mk (Kd.C_below RM.out hb)
  have RW := Aside0.mk (Kd.C_below RW.out hb)
  have HB := Aside0.mk (HB.out.trans (hb.mono HB.out.size))
  clear hb hW hO
  refine (vector_Check.calls 20 _ _ sZ 120 W10 RZ.out (Nat.le_refl _) sckz).mono ?_
  rintro e W11 ⟨rfl, hb⟩
  have RA := Aside0.mk (Kd.C_below RA.out hb)
  have RB := Aside0.mk (Kd.C_below RB.out hb)
  have RJ := Aside0.mk (Kd.C_below RJ.out hb)
  have RM := Aside0.mk (Kd.C_below RM.out hb)
  have RW := Aside0.mk (Kd.C_below RW.out hb)
  have HB := Aside0.mk (HB.out.trans (hb.mono HB.out.size))
  clear hb
  go_wp2_with fail
  refine (vector_At.calls none 0 [] 3 0 W11 (Kd.C_nil _ _) (Nat.le_refl _) sat0).mono ?_
  rintro e W12 ⟨rfl, hb⟩
  have RA := Aside0.mk (Kd.C_below RA.out hb)
  have RB := Aside0.mk (Kd.C_below RB.out hb)
  have RJ := Aside0.mk (Kd.C_below RJ.out hb)
  have RM := Aside0.mk (Kd.C_below RM.out hb)
  have RW := Aside0.mk (Kd.C_below RW.out hb)
  have HB := Aside0.mk (HB.out.trans (hb.mono HB.out.size))
  clear hb
  go_wp2_with fail
  refine (vector_At.calls _ _ sB 7 1 W12 RB.out (Nat.le_refl _) sat7).mono ?_
  rintro e W13 ⟨rfl, hb⟩
  have RA := Aside0.mk (Kd.C_below RA.out hb)
  have RB := Aside0.mk (Kd.C_below RB.out hb)
  have RJ := Aside0.mk (Kd.C_below RJ.out hb)
  have RM := Aside0.mk (Kd.C_below RM.out hb)
  have RW := Aside0.mk (Kd.C_below RW.out hb)
  have HB := Aside0.mk (HB.out.trans (hb.mono HB.out.size))
  clear hb
  go_wp2_with fail
  refine (vector_Covers.calls _ _ sJ 2 3 true W13 RJ.out HCJ.out scv1).mono ?_
  rintro e W14 ⟨rfl, hb⟩
  have RA := Aside0.mk (Kd.C_below RA.out hb)
  have RB := Aside0.mk (Kd.C_below RB.out hb)
  have RJ := Aside0.mk (Kd.C_below RJ.out hb)
  have RM := Aside0.mk (Kd.C_below RM.out hb)
  have RW := Aside0.mk (Kd.C_below RW.out hb)
  have HB := Aside0.mk (HB.out.trans (hb.mono HB.out.size))
  clear hb
  go_wp2_with fail
  refine (vector_Covers.calls _ _ sJ 2 6 false W14 RJ.out HCJ.out scv2).mono ?_
  rintro e W15 ⟨rfl, hb⟩
  have RA := Aside0.mk (Kd.C_below RA.out hb)
  have RB := Aside0.mk (Kd.C_below RB.out hb)
  have RJ := Aside0.mk (Kd.C_below RJ.out hb)
  have RM := Aside0.mk (Kd.C_below RM.out hb)
  have RW := Aside0.mk (Kd.C_below RW.out hb)
  have HB := Aside0.mk (HB.out.trans (hb.mono HB.out.size))
  clear hb
  go_wp2_with fail
  refine (vector_Covers.calls _ _ sJ 3 1 false W15 RJ.out HCJ.out scv3).mono ?_
  rintro e W16 ⟨rfl, hb⟩
  have RA := Aside0.mk (Kd.C_below RA.out hb)
  have RB := Aside0.mk (Kd.C_below RB.out hb)
  have RJ := Aside0.mk (Kd.C_below RJ.out hb)
  have RM := Aside0.mk (Kd.C_below RM.out hb)
  have RW := Aside0.mk (Kd.C_below RW.out hb)
  have HB := Aside0.mk (HB.out.trans (hb.mono HB.out.size))
  clear hb
  go_wp2_with fail
  refine (vector_Covers.calls _ _ sA 2 0 false W16 RA.out (Nat.le_refl _) scv4).mono ?_
  rintro e W17 ⟨rfl, hb⟩
  have RA := Aside0.mk (Kd.C_below RA.out hb)
  have RB := Aside0.mk (Kd.C_below RB.out hb)
  have RJ := Aside0.mk (Kd.C_below RJ.out hb)
  have RM := Aside0.mk (Kd.C_below RM.out hb)
  have RW := Aside0.mk (Kd.C_below RW.out hb)
  have HB := Aside0.mk (HB.out.trans (hb.mono HB.out.size))
  clear hb
  go_wp2_with fail
  have hO := blk_new W17 (.cells #[.int .i64 2, .int .i64 5, .int .i64 7, .int .i64 1] 24)
  have hb := below_alloc (Below.refl W17.heap.size W17) (.cells #[.int .i64 2, .int .i64 5, .int .i64 7, .int .i64 1] 24)
  generalize hW : W17.alloc (.cells #[.int .i64 2, .int .i64 5, .int .i64 7, .int .i64 1] 24) = W18 at *
  have RO : Aside0 (Kd.C k24 W18 _ sJ.length sJ) := ⟨row2 hO⟩
  have RA := Aside0.mk (Kd.C_below RA.out hb)
  have RB := Aside0.mk (Kd.C_below RB.out hb)
  have RJ := Aside0.mk (Kd.C_below RJ.out hb)
  have RM := Aside0.mk (Kd.C_below RM.out hb)
  have RW := Aside0.mk (Kd.C_below RW.out hb)
  have HB := Aside0.mk (HB.out.trans (hb.mono HB.out.size))
  clear hb hW hO
  refine (chartroomref12_Same.calls 20 _ _ sJ _ _ sJ true W18 RJ.out HCJ.out RO.out (Nat.le_refl _) ssame1).mono ?_
  rintro e W19 ⟨rfl, hd⟩
  have hb := hd.below
  clear hd
  have RA := Aside0.mk (Kd.C_below RA.out hb)
  have RB := Aside0.mk (Kd.C_below RB.out hb)
  have RJ := Aside0.mk (Kd.C_below RJ.out hb)
  have RM := Aside0.mk (Kd.C_below RM.out hb)
  have RW := Aside0.mk (Kd.C_below RW.out hb)
  have HB := Aside0.mk (HB.out.trans (hb.mono HB.out.size))
  clear hb
  go_wp2_with fail
  have hO := blk_new W19 (.cells #[.int .i64 2, .int .i64 3] 24)
  have hb := below_alloc (Below.refl W19.heap.size W19) (.cells #[.int .i64 2, .int .i64 3] 24)
  generalize hW : W19.alloc (.cells #[.int .i64 2, .int .i64 3] 24) = W20 at *
  have RO : Aside0 (Kd.C k24 W20 _ sM.length sM) := ⟨row1 hO⟩
  have RA := Aside0.mk (Kd.C_below RA.out hb)
  have RB := Aside0.mk (Kd.C_below RB.out hb)
  have RJ := Aside0.mk (Kd.C_below RJ.out hb)
  have RM := Aside0.mk (Kd.C_below RM.out hb)
  have RW := Aside0.mk (Kd.C_below RW.out hb)
  have HB := Aside0.mk (HB.out.trans (hb.mono HB.out.size))
  clear hb hW hO
  refine (chartroomref12_Same.calls 20 _ _ sM _ _ sM true W20 RM.out HCM.out RO.out (Nat.le_refl _) ssame2).mono ?_
  rintro e W21 ⟨rfl, hd⟩
  have hb := hd.below
  clear hd
  have RA := Aside0.mk (Kd.C_below RA.out hb)
  have RB := Aside0.mk (Kd.C_below RB.out hb)
  have RJ := Aside0.mk (Kd.C_below RJ.out hb)
  have RM := Aside0.mk (Kd.C_below RM.out hb)
  have RW := Aside0.mk (Kd.C_below RW.out hb)
  have HB := Aside0.mk (HB.out.trans (hb.mono HB.out.size))
  clear hb
  go_wp2_with fail
  refine (chartroomref12_Same.calls 20 _ _ sA _ _ sA true W21 RW.out Hcw.out RA.out (Nat.le_refl _) ssame3).mono ?_
  rintro e W22 ⟨rfl, hd⟩
  have hb := hd.below
  clear hd
  have RA := Aside0.mk (Kd.C_below RA.out hb)
  have RB := Aside0.mk (Kd.C_below RB.out hb)
  have RJ := Aside0.mk (Kd.C_below RJ.out hb)
  have RM := Aside0.mk (Kd.C_below RM.out hb)
  have RW := Aside0.mk (Kd.C_below RW.out hb)
  have HB := Aside0.mk (HB.out.trans (hb.mono HB.out.size))
  clear hb
  go_wp2_with fail
  go_ret
  exact ⟨rfl, HB.out⟩

/-- It runs with enough rounds, whatever they are. -/
def chartroomlaw12_sane.f (k : Nat) : Option Bool := if 20 ≤ k then some true else none
theorem chartroomlaw12_sane.mono : ∀ k, LeO (chartroomlaw12_sane.f k) (chartroomlaw12_sane.f (k + 1)) := by
  intro k r h
  unfold chartroomlaw12_sane.f at h ⊢
  by_cases hk : 20 ≤ k
  · rw [if_pos (by omega)]
    rwa [if_pos hk] at h
  · rw [if_neg hk] at h
    simp at h
theorem chartroomlaw12_sane.calls (k : Nat) (r : Bool) (w : World) (hGG : GlobG w) (hGL : GlobL w) (h : chartroomlaw12_sane.f k = some r) :
    Calls Tryd.prog 17 #[] w fun e w' => e = .returned (.bool r) ∧ Below w.heap.size w w' := by
  unfold chartroomlaw12_sane.f at h
  by_cases hk : 20 ≤ k
  · rw [if_pos hk] at h
    obtain rfl := Option.some.inj h
    exact sane_calls w hGG hGL
  · rw [if_neg hk] at h
    simp at h
end Go.Proofs.YtncejmjicjlanaaDoor.Q
