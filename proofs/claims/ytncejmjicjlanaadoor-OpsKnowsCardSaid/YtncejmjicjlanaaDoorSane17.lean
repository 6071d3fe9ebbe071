/- Contract of chapter 17's sane: it returns true; nothing that was there changes. Condition: the listed variables hold what their initialisers gave. -/
import Derived.Test.YtncejmjicjlanaaDoorOps6
import Derived.Test.YtncejmjicjlanaaDoorOps8
namespace Go.Proofs.YtncejmjicjlanaaDoor.Q
open Go.RowKit Go.Proofs.YtncejmjicjlanaaDoorW.PrintWords Go.Proofs.YtncejmjicjlanaaDoorW.PrintLast Go.Proofs.YtncejmjicjlanaaDoorW.PrintMore
set_option linter.unusedVariables false
set_option linter.unusedSimpArgs false
def oS : S45 := ⟨⟨1, 1⟩, 1, [], ⟨3, ⟨#[99]⟩⟩, 5, ⟨0, 0, 0⟩, ⟨0, 0, 0⟩, ⟨#[]⟩, ⟨#[]⟩, 5, false⟩
def lS : S45 := ⟨⟨1, 1⟩, 2, [], ⟨3, ⟨#[99]⟩⟩, 5, ⟨0, 0, 0⟩, ⟨0, 0, 0⟩, ⟨#[]⟩, ⟨#[]⟩, 5, false⟩
def uS : S45 := ⟨⟨1, 1⟩, 1, [], ⟨1, ⟨#[]⟩⟩, 2, ⟨2, 1, 0⟩, ⟨0, 0, 0⟩, ⟨#[]⟩, ⟨#[]⟩, 0, false⟩
theorem chkn : chk2 [] [(⟨1, 1⟩ : S24)] = 0 := by decide +kernel
theorem sameP_refl (o : S45) : sameP o o = true := by simp [sameP]
theorem restO : restP oS = z45 := by kernel_rfl
theorem restL : restP lS = z45 := by kernel_rfl
theorem sane_o : opChk oS = 0 := by
  have h : sameP (restP oS) z45 = true := by rw [restO]; exact sameP_refl z45
  unfold opChk
  rw [h]
  decide +kernel
theorem sane_l : opChk lS = 0 := by
  have h : sameP (restP lS) z45 = true := by rw [restL]; exact sameP_refl z45
  unfold opChk
  rw [h]
  decide +kernel
theorem sane_z : opChk z45 = 170 := by
  unfold opChk
  rw [if_neg (by decide +kernel)]
theorem sane_u : opChk uS = 170 := by
  unfold opChk
  have hf : fieldsP uS = false := by decide +kernel
  rw [hf]
  generalize sameP (restP uS) z45 = b
  cases b <;> decide +kernel
def bS : List Int := encP (opV oS)
theorem sane_e : encO oS = bS := by unfold encO; rw [if_pos sane_o]; rfl
theorem bS_dec : decP bS = (opV oS, 0) := by kernel_rfl
theorem sane_d : opDec bS = (oS, 0) := by
  have hr : readP (decP bS).1.f3 = oS := by rw [bS_dec]; kernel_rfl
  unfold opDec
  rw [hr, if_pos (by rw [bS_dec]), if_pos sane_o, if_pos (by show ((strOfNums bS).toList == (strOfNums bS).toList) = true; exact beq_self_eq_true _)]
theorem nil_dec : decP [] = (z63, 10) := by kernel_rfl
theorem sane_n : opDec [] = (z45, 10) := by
  unfold opDec
  rw [nil_dec, if_neg (by decide)]
theorem cmpB_refl (xs : List Int) : cmpB xs xs = 0 := by
  unfold cmpB
  induction (strOfNums xs).data.toList with
  | nil => rfl
  | cons a l ih =>
    unfold Lib.compareBytes
    rw [if_neg (UInt8.lt_irrefl a), if_neg (UInt8.lt_irrefl a), ih]
theorem opCmp_refl (o : S45) : opCmp o o = 0 := by
  unfold opCmp
  simp [cmpI, orI, cmpB_refl]
theorem sane_c : opCmp oS oS = 0 := opCmp_refl oS
theorem sane_c1 : opCmp oS lS = -1 := by unfold opCmp; simp [cmpI, orI, oS, lS]
theorem sane_c2 : opCmp lS oS = 1 := by unfold opCmp; simp [cmpI, orI, oS, lS]
theorem sane_s : sameP oS lS = false := by simp [sameP, oS, lS]
theorem bS_bytes : Bytes bS := fun x hx => by
  have h : (bS.all fun x => decide (0 ≤ x ∧ x < 256)) = true := by decide +kernel
  simpa using List.all_eq_true.1 h x hx
theorem nil_cod : codec_Decode.f 0 [] = some (0, 0, ⟨#[]⟩, [], 10) := by kernel_rfl
theorem bS_pos : decide ((0 : Int) < (bS.length : Int)) = true := by decide +kernel
theorem bS_pn : 0 < bS.length := by have h := of_decide_eq_true bS_pos; omega

set_option maxHeartbeats 8000000 in
set_option maxRecDepth 100000 in
theorem sane17_calls (w : World) (hGG : GlobG w) (hGK : GlobK w) : Calls Tryd.prog 34 #[] w fun e w' => e = .returned (.bool true) ∧ Below w.heap.size w w' := by
  have hu45 := Tryd.underlying45
  have hu63 := Tryd.underlying63
  have hu41 := Tryd.underlying41
  have hu43 := Tryd.underlying43
  have hu24 := Tryd.underlying24
  have HG := Aside0.mk hGG
  have HK := Aside0.mk hGK
  clear hGG hGK
  have HB := Aside0.mk (Below.refl w.heap.size w)
  go_enter Tryd.func34, Tryd.ntmps34
  go_wp2_with (first | ((with_reducible refine gate_dst (N := 1) rfl ?_); refine box_event ?hg (N := 1) ?hd (cs := opC z45 none 0) (t := 45) ?hr ?_; (case hd => rfl); (case hg => rfl); (case hr => first | (go_simp; done) | (go_simp; rfl)); intro g1 hg wa hbox hba; have PA := Aside0.mk (And.intro hg hba); have BA := Aside0.mk hbox; clear hba hbox hg) | ((with_reducible refine gate_store (t := 45) (p := 1) rfl ?_); refine row_event BA.out (by rfl) _ _ rfl rfl (cs' := opC oS none 0) rfl size45 rfl (by simp [opC, Value.oneCell']) ?_; intro w6 h1 h2 h3; have hb := h3 _ _ (Nat.le_of_eq PA.out.1.symm) PA.out.2; have HB_ := Aside0.mk (below_step HB.out hb); clear HB; have HB := HB_; clear HB_; have H1 := Aside0.mk h1; clear hb h1 h2 h3 PA BA) | ((with_reducible refine gate_dst (N := 19) rfl ?_); refine load_event (by rfl) 45 (.tmp 1) rfl g1 rfl 45 (opC oS none 0) (0, 0) _ H1.out Tryd.underlying45 rfl size45 ?_))
  replace H1 := Aside0.mk (show IsOp _ g1 oS none 0 from H1.out)
  refine (opsEncode_calls oS none 0 _ (GlobG_below HG.out HB.out) (GlobK_below HK.out HB.out) (Kd.C_nil _ _) (Nat.le_refl _) (by decide) (by decide)).mono ?_
  rintro e W1 ⟨v1, rfl, hR, hb⟩
  rw [if_pos sane_o] at hR
  rw [sane_o]
  replace hR : Kd.R (Kd.int .u8) 5 _ _ (fun _ => True) v1 bS := hR
  obtain ⟨Aa, ca, rfl, hca, hCa⟩ := Kd.R_reads hR
  have HCA := Aside0.mk hca
  clear hca
  have RA := Aside0.mk hCa
  clear hR hCa
  have H1_ := Aside0.mk (IsOp.below H1.out hb)
  have HB_ := Aside0.mk (below_step HB.out hb)
  clear HB H1
  have H1 := H1_
  have HB := HB_
  clear HB_ H1_
  clear hb
  go_wp2_with fail
  refine (lawNum 0 _).mono ?_
  rintro e W2 ⟨rfl, hb⟩
  have H1_ := Aside0.mk (IsOp.below H1.out hb)
  have RA_ := Aside0.mk (Kd.C_below RA.out hb)
  have HB_ := Aside0.mk (below_step HB.out hb)
  clear HB H1 RA
  have H1 := H1_
  have RA := RA_
  have HB := HB_
  clear HB_ H1_ RA_
  clear hb
  go_wp2_with fail
  refine (lawNum 0 _).mono ?_
  rintro e W3 ⟨rfl, hb⟩
  have H1_ := Aside0.mk (IsOp.below H1.out hb)
  have RA_ := Aside0.mk (Kd.C_below RA.out hb)
  have HB_ := Aside0.mk (below_step HB.out hb)
  clear HB H1 RA
  have H1 := H1_
  have RA := RA_
  have HB := HB_
  clear HB_ H1_ RA_
  clear hb
  go_wp2_with fail
  refine (lawNum 0 _).mono ?_
  rintro e W4 ⟨rfl, hb⟩
  have H1_ := Aside0.mk (IsOp.below H1.out hb)
  have RA_ := Aside0.mk (Kd.C_below RA.out hb)
  have HB_ := Aside0.mk (below_step HB.out hb)
  clear HB H1 RA
  have H1 := H1_
  have RA := RA_
  have HB := HB_
  clear HB_ H1_ RA_
  clear hb
  go_wp2_with fail
  have hT := blk_new W4 (.cells #[.int .i64 1, .int .i64 0, .string ⟨#[]⟩, .slice none 0 0, .int .i64 1, .int .i64 0, .string ⟨#[]⟩, .slice none 0 0, .int .i64 1, .int .i64 0, .string ⟨#[]⟩, .slice none 0 0] 63)
  have hb := below_alloc (Below.refl W4.heap.size W4) (.cells #[.int .i64 1, .int .i64 0, .string ⟨#[]⟩, .slice none 0 0, .int .i64 1, .int .i64 0, .string ⟨#[]⟩, .slice none 0 0, .int .i64 1, .int .i64 0, .string ⟨#[]⟩, .slice none 0 0] 63)
  have H1_ := Aside0.mk (IsOp.below H1.out hb)
  have RA_ := Aside0.mk (Kd.C_below RA.out hb)
  have HB_ := Aside0.mk (below_step HB.out hb)
  clear HB H1 RA
  have H1 := H1_
  have RA := RA_
  have HB := HB_
  clear HB_ H1_ RA_
  clear hb
  generalize W4.heap.size = zb at *
  generalize W4.alloc (.cells #[.int .i64 1, .int .i64 0, .string ⟨#[]⟩, .slice none 0 0, .int .i64 1, .int .i64 0, .string ⟨#[]⟩, .slice none 0 0, .int .i64 1, .int .i64 0, .string ⟨#[]⟩, .slice none 0 0] 63) = Wz at *
  have RZ := Aside0.mk (row_of (xs := [nV 0, nV 0, nV 0]) (vs := [[.int .i64 1, .int .i64 0, .string ⟨#[]⟩, .slice none 0 0], [.int .i64 1, .int .i64 0, .string ⟨#[]⟩, .slice none 0 0], [.int .i64 1, .int .i64 0, .string ⟨#[]⟩, .slice none 0 0]]) hT rfl rfl (by simp) (fun j x v hx hv => by match j, hx, hv with | 0, hx, hv => (cases hx; cases hv; exact num_K _ _) | 1, hx, hv => (cases hx; cases hv; exact num_K _ _) | 2, hx, hv => (cases hx; cases hv; exact num_K _ _)))
  clear hT
  refine (lawList (some ⟨zb, 0, none⟩) 3 3 _).mono ?_
  rintro e W5 ⟨rfl, hb⟩
  have H1_ := Aside0.mk (IsOp.below H1.out hb)
  have RA_ := Aside0.mk (Kd.C_below RA.out hb)
  have RZ_ := Aside0.mk (Kd.C_below RZ.out hb)
  have HB_ := Aside0.mk (below_step HB.out hb)
  clear HB H1 RA RZ
  have H1 := H1_
  have RA := RA_
  have RZ := RZ_
  have HB := HB_
  clear HB_ H1_ RA_ RZ_
  clear hb
  go_wp2_with (first | ((with_reducible refine gate_dst (N := 4) rfl ?_); refine box_event ?hg (N := 4) ?hd (cs := #[.int .i64 0, .int .i64 0, .string ⟨#[]⟩, .slice none 0 0]) (t := 63) ?hr ?_; (case hd => rfl); (case hg => rfl); (case hr => first | (go_simp; done) | (go_simp; rfl)); intro b4 hg wa hbox hba; have PA := Aside0.mk (And.intro hg hba); have BA := Aside0.mk hbox; clear hba hbox hg) | ((with_reducible refine gate_store (t := 63) (p := 4) rfl ?_); refine row_event BA.out (by rfl) _ _ rfl rfl (cs' := #[.int .i64 3, .int .i64 0, .string ⟨#[]⟩, .slice (some ⟨zb, 0, none⟩) 3 3]) rfl size63n rfl (by simp [opC, Value.oneCell']) ?_; intro w6 h1 h2 h3; have hb := h3 _ _ (Nat.le_of_eq PA.out.1.symm) PA.out.2; have H1_ := Aside0.mk (IsOp.below H1.out hb); have RA_ := Aside0.mk (Kd.C_below RA.out hb); have RZ_ := Aside0.mk (Kd.C_below RZ.out hb); have HB_ := Aside0.mk (below_step HB.out hb); clear HB H1 RA RZ; have H1 := H1_; have RA := RA_; have RZ := RZ_; have HB := HB_; clear HB_ H1_ RA_ RZ_; have HZ := Aside0.mk h1; clear hb h1 h2 h3 PA BA))
  obtain ⟨kk, hkk⟩ := enc_ok oS (by decide) (by decide)
  have HEN := Aside0.mk (show codec_Encode.f kk 3 0 ⟨#[]⟩ (opL oS) = some (bS, 0) from hkk)
  clear hkk
  refine start_ (n := 23) (S := fun w' => w'.cell? ⟨b4, 0, none⟩ = some (.int .i64 3) ∧ w'.cell? ⟨b4, 1, none⟩ = some (.int .i64 0) ∧ w'.cell? ⟨b4, 2, none⟩ = some (.string ⟨#[]⟩) ∧ w'.cell? ⟨b4, 3, none⟩ = some (.slice (some ⟨zb, 0, none⟩) 3 3)) (ds := []) #[false, false, false, false, false, false, false, false, false, false, false, false, false, false, false, false, false, false, false, false, false, false, false] (by kernel_rfl) rfl rfl ⟨((blk_cell HZ.out 0).trans rfl), ((blk_cell HZ.out 1).trans rfl), ((blk_cell HZ.out 2).trans rfl), ((blk_cell HZ.out 3).trans rfl)⟩ (fun hHeld => ?_)
  replace H1 := Aside0.mk (show IsOp w6.drew _ _ _ _ from H1.out)
  replace RA := Aside0.mk (Kd.C_drew RA.out)
  replace RZ := Aside0.mk (Kd.C_drew RZ.out)
  replace HZ := Aside0.mk (blk_drew HZ.out)
  replace HB := Aside0.mk (below_drew1 HB.out)
  generalize w6.drew = V0 at *
  refine take_ (i := 9) (N := some 38) (v := ?_) (a' := ?_) #[false, false, false, false, false, false, false, false, false, true, false, false, false, false, false, false, false, false, false, false, false, false, false] rfl rfl (by kernel_rfl) (fun _ _ _ h => h) (Or.inl ⟨by rfl, ?_⟩) hHeld ?_ ?_
  rotate_left
  · rintro w' ⟨s0, s1, s2, s3⟩
    go_simp
    with_reducible rfl
  rotate_left
  · simp only [Act.put, List.setIfInBounds_toArray, List.set_cons_zero, List.set_cons_succ, i64_w, i32_w]
    rfl
  refine take_ (i := 10) (N := some 39) (v := ?_) (a' := ?_) #[false, false, false, false, false, false, false, false, false, true, true, false, false, false, false, false, false, false, false, false, false, false, false] rfl rfl (by kernel_rfl) (fun _ _ _ h => h) (Or.inl ⟨by rfl, ?_⟩) hHeld ?_ ?_
  rotate_left
  · rintro w' ⟨s0, s1, s2, s3⟩
    go_simp
    with_reducible rfl
  rotate_left
  · simp only [Act.put, List.setIfInBounds_toArray, List.set_cons_zero, List.set_cons_succ, i64_w, i32_w]
    rfl
  refine one_ (i := 0) (N := some 29) #[true, false, false, false, false, false, false, false, false, true, true, false, false, false, false, false, false, false, false, false, false, false, false] rfl rfl (by kernel_rfl) (by decide) (fun K hK => ?_)
  refine goes_ Tryd.func58 (by kernel_rfl) rfl #[.int .i64 1] (by rfl) rfl rfl (by simp only [List.map_toArray, List.map_cons, List.map_nil]; rfl) ?_
  refine (lawNum 1 _).mono ?_
  rintro e V1 ⟨rfl, hb⟩
  have H1_ := Aside0.mk (IsOp.below H1.out hb)
  have RA_ := Aside0.mk (Kd.C_below RA.out hb)
  have RZ_ := Aside0.mk (Kd.C_below RZ.out hb)
  have HZ_ := Aside0.mk (blk_below HZ.out hb)
  have HB_ := Aside0.mk (below_step HB.out hb)
  clear HB H1 RA RZ HZ
  have H1 := H1_
  have RA := RA_
  have RZ := RZ_
  have HZ := HZ_
  have HB := HB_
  clear HB_ H1_ RA_ RZ_ HZ_
  clear hb
  refine ⟨_, rfl, ?_⟩
  refine hK.out _ _ ⟨((blk_cell HZ.out 0).trans rfl), ((blk_cell HZ.out 1).trans rfl), ((blk_cell HZ.out 2).trans rfl), ((blk_cell HZ.out 3).trans rfl)⟩ (fun hHeld => ?_)
  clear hK K
  refine norm_ (a' := ?_) ?_ ?_
  rotate_left
  · show Act.put _ (some 29) _ = _
    simp only [Act.put, List.setIfInBounds_toArray, List.set_cons_zero, List.set_cons_succ, i64_w, i32_w]
    rfl
  refine one_ (i := 1) (N := some 30) #[true, true, false, false, false, false, false, false, false, true, true, false, false, false, false, false, false, false, false, false, false, false, false] rfl rfl (by kernel_rfl) (by decide) (fun K hK => ?_)
  refine goes_ Tryd.func58 (by kernel_rfl) rfl #[.int .i64 1] (by rfl) rfl rfl (by simp only [List.map_toArray, List.map_cons, List.map_nil]; rfl) ?_
  refine (lawNum 1 _).mono ?_
  rintro e V2 ⟨rfl, hb⟩
  have H1_ := Aside0.mk (IsOp.below H1.out hb)
  have RA_ := Aside0.mk (Kd.C_below RA.out hb)
  have RZ_ := Aside0.mk (Kd.C_below RZ.out hb)
  have HZ_ := Aside0.mk (blk_below HZ.out hb)
  have HB_ := Aside0.mk (below_step HB.out hb)
  clear HB H1 RA RZ HZ
  have H1 := H1_
  have RA := RA_
  have RZ := RZ_
  have HZ := HZ_
  have HB := HB_
  clear HB_ H1_ RA_ RZ_ HZ_
  clear hb
  refine ⟨_, rfl, ?_⟩
  refine hK.out _ _ ⟨((blk_cell HZ.out 0).trans rfl), ((blk_cell HZ.out 1).trans rfl), ((blk_cell HZ.out 2).trans rfl), ((blk_cell HZ.out 3).trans rfl)⟩ (fun hHeld => ?_)
  clear hK K
  refine norm_ (a' := ?_) ?_ ?_
  rotate_left
  · show Act.put _ (some 30) _ = _
    simp only [Act.put, List.setIfInBounds_toArray, List.set_cons_zero, List.set_cons_succ, i64_w, i32_w]
    rfl
  refine one_ (i := 2) (N := some 31) #[true, true, true, false, false, false, false, false, false, true, true, false, false, false, false, false, false, false, false, false, false, false, false] rfl rfl (by kernel_rfl) (by decide) (fun K hK => ?_)
  refine goes_ Tryd.func58 (by kernel_rfl) rfl #[.int .i64 1] (by rfl) rfl rfl (by simp only [List.map_toArray, List.map_cons, List.map_nil]; rfl) ?_
  refine (lawNum 1 _).mono ?_
  rintro e V3 ⟨rfl, hb⟩
  have H1_ := Aside0.mk (IsOp.below H1.out hb)
  have RA_ := Aside0.mk (Kd.C_below RA.out hb)
  have RZ_ := Aside0.mk (Kd.C_below RZ.out hb)
  have HZ_ := Aside0.mk (blk_below HZ.out hb)
  have HB_ := Aside0.mk (below_step HB.out hb)
  clear HB H1 RA RZ HZ
  have H1 := H1_
  have RA := RA_
  have RZ := RZ_
  have HZ := HZ_
  have HB := HB_
  clear HB_ H1_ RA_ RZ_ HZ_
  clear hb
  refine ⟨_, rfl, ?_⟩
  refine hK.out _ _ ⟨((blk_cell HZ.out 0).trans rfl), ((blk_cell HZ.out 1).trans rfl), ((blk_cell HZ.out 2).trans rfl), ((blk_cell HZ.out 3).trans rfl)⟩ (fun hHeld => ?_)
  clear hK K
  refine norm_ (a' := ?_) ?_ ?_
  rotate_left
  · show Act.put _ (some 31) _ = _
    simp only [Act.put, List.setIfInBounds_toArray, List.set_cons_zero, List.set_cons_succ, i64_w, i32_w]
    rfl
  refine one_ (i := 3) (N := some 32) #[true, true, true, true, false, false, false, false, false, true, true, false, false, false, false, false, false, false, false, false, false, false, false] rfl rfl (by kernel_rfl) (by decide) (fun K hK => ?_)
  refine goes_ Tryd.func57 (by kernel_rfl) rfl #[.slice none 0 0] (by rfl) rfl rfl (by simp only [List.map_toArray, List.map_cons, List.map_nil]; rfl) ?_
  refine (lawList none 0 0 _).mono ?_
  rintro e V4 ⟨rfl, hb⟩
  have H1_ := Aside0.mk (IsOp.below H1.out hb)
  have RA_ := Aside0.mk (Kd.C_below RA.out hb)
  have RZ_ := Aside0.mk (Kd.C_below RZ.out hb)
  have HZ_ := Aside0.mk (blk_below HZ.out hb)
  have HB_ := Aside0.mk (below_step HB.out hb)
  clear HB H1 RA RZ HZ
  have H1 := H1_
  have RA := RA_
  have RZ := RZ_
  have HZ := HZ_
  have HB := HB_
  clear HB_ H1_ RA_ RZ_ HZ_
  clear hb
  refine ⟨_, rfl, ?_⟩
  refine hK.out _ _ ⟨((blk_cell HZ.out 0).trans rfl), ((blk_cell HZ.out 1).trans rfl), ((blk_cell HZ.out 2).trans rfl), ((blk_cell HZ.out 3).trans rfl)⟩ (fun hHeld => ?_)
  clear hK K
  refine norm_ (a' := ?_) ?_ ?_
  rotate_left
  · show Act.put _ (some 32) _ = _
    simp only [Act.put, List.setIfInBounds_toArray, List.set_cons_zero, List.set_cons_succ, i64_w, i32_w]
    rfl
  refine one_ (i := 4) (N := some 33) #[true, true, true, true, true, false, false, false, false, true, true, false, false, false, false, false, false, false, false, false, false, false, false] rfl rfl (by kernel_rfl) (by decide) (fun K hK => ?_)
  refine goes_ Tryd.func58 (by kernel_rfl) rfl #[.int .i64 3] (by rfl) rfl rfl (by simp only [List.map_toArray, List.map_cons, List.map_nil]; rfl) ?_
  refine (lawNum 3 _).mono ?_
  rintro e V5 ⟨rfl, hb⟩
  have H1_ := Aside0.mk (IsOp.below H1.out hb)
  have RA_ := Aside0.mk (Kd.C_below RA.out hb)
  have RZ_ := Aside0.mk (Kd.C_below RZ.out hb)
  have HZ_ := Aside0.mk (blk_below HZ.out hb)
  have HB_ := Aside0.mk (below_step HB.out hb)
  clear HB H1 RA RZ HZ
  have H1 := H1_
  have RA := RA_
  have RZ := RZ_
  have HZ := HZ_
  have HB := HB_
  clear HB_ H1_ RA_ RZ_ HZ_
  clear hb
  refine ⟨_, rfl, ?_⟩
  refine hK.out _ _ ⟨((blk_cell HZ.out 0).trans rfl), ((blk_cell HZ.out 1).trans rfl), ((blk_cell HZ.out 2).trans rfl), ((blk_cell HZ.out 3).trans rfl)⟩ (fun hHeld => ?_)
  clear hK K
  refine norm_ (a' := ?_) ?_ ?_
  rotate_left
  · show Act.put _ (some 33) _ = _
    simp only [Act.put, List.setIfInBounds_toArray, List.set_cons_zero, List.set_cons_succ, i64_w, i32_w]
    rfl
  refine one_ (i := 5) (N := some 34) #[true, true, true, true, true, true, false, false, false, true, true, false, false, false, false, false, false, false, false, false, false, false, false] rfl rfl (by kernel_rfl) (by decide) (fun K hK => ?_)
  refine goes_ Tryd.func60 (by kernel_rfl) rfl #[.string ⟨#[99]⟩] (by rfl) rfl rfl (by simp only [List.map_toArray, List.map_cons, List.map_nil]; rfl) ?_
  refine (lawText ⟨#[99]⟩ _).mono ?_
  rintro e V6 ⟨rfl, hb⟩
  have H1_ := Aside0.mk (IsOp.below H1.out hb)
  have RA_ := Aside0.mk (Kd.C_below RA.out hb)
  have RZ_ := Aside0.mk (Kd.C_below RZ.out hb)
  have HZ_ := Aside0.mk (blk_below HZ.out hb)
  have HB_ := Aside0.mk (below_step HB.out hb)
  clear HB H1 RA RZ HZ
  have H1 := H1_
  have RA := RA_
  have RZ := RZ_
  have HZ := HZ_
  have HB := HB_
  clear HB_ H1_ RA_ RZ_ HZ_
  clear hb
  refine ⟨_, rfl, ?_⟩
  refine hK.out _ _ ⟨((blk_cell HZ.out 0).trans rfl), ((blk_cell HZ.out 1).trans rfl), ((blk_cell HZ.out 2).trans rfl), ((blk_cell HZ.out 3).trans rfl)⟩ (fun hHeld => ?_)
  clear hK K
  refine norm_ (a' := ?_) ?_ ?_
  rotate_left
  · show Act.put _ (some 34) _ = _
    simp only [Act.put, List.setIfInBounds_toArray, List.set_cons_zero, List.set_cons_succ, i64_w, i32_w]
    rfl
  refine one_ (i := 6) (N := some 35) #[true, true, true, true, true, true, true, false, false, true, true, false, false, false, false, false, false, false, false, false, false, false, false] rfl rfl (by kernel_rfl) (by decide) (fun K hK => ?_)
  refine value_ (w1 := ?_) (v := ?_) (by rfl) rfl ?_ ?_
  rotate_left 2
  · go_simp
    constructor
    · rfl
    · rfl
  have hT := blk_new V6 (.cells #[.int .i64 1, .int .i64 3, .string ⟨#[]⟩, .slice none 0 0, .int .i64 2, .int .i64 0, .string ⟨#[99]⟩, .slice none 0 0] 63)
  have hb := below_alloc (Below.refl V6.heap.size V6) (.cells #[.int .i64 1, .int .i64 3, .string ⟨#[]⟩, .slice none 0 0, .int .i64 2, .int .i64 0, .string ⟨#[99]⟩, .slice none 0 0] 63)
  have H1_ := Aside0.mk (IsOp.below H1.out hb)
  have RA_ := Aside0.mk (Kd.C_below RA.out hb)
  have RZ_ := Aside0.mk (Kd.C_below RZ.out hb)
  have HZ_ := Aside0.mk (blk_below HZ.out hb)
  have HB_ := Aside0.mk (below_step HB.out hb)
  clear HB H1 RA RZ HZ
  have H1 := H1_
  have RA := RA_
  have RZ := RZ_
  have HZ := HZ_
  have HB := HB_
  clear HB_ H1_ RA_ RZ_ HZ_
  clear hb
  generalize V6.heap.size = bp at *
  generalize V6.alloc (.cells #[.int .i64 1, .int .i64 3, .string ⟨#[]⟩, .slice none 0 0, .int .i64 2, .int .i64 0, .string ⟨#[99]⟩, .slice none 0 0] 63) = V7 at *
  have RP := Aside0.mk (row_of (xs := [nV 3, tV ⟨#[99]⟩]) (vs := [[.int .i64 1, .int .i64 3, .string ⟨#[]⟩, .slice none 0 0], [.int .i64 2, .int .i64 0, .string ⟨#[99]⟩, .slice none 0 0]]) hT rfl rfl (Nat.le_of_ble_eq_true rfl) (fun j x v hx hv => by match j, hx, hv with | 0, hx, hv => (cases hx; cases hv; exact num_K _ _) | 1, hx, hv => (cases hx; cases hv; exact text_K _ _)))
  clear hT
  refine hK.out _ _ ⟨((blk_cell HZ.out 0).trans rfl), ((blk_cell HZ.out 1).trans rfl), ((blk_cell HZ.out 2).trans rfl), ((blk_cell HZ.out 3).trans rfl)⟩ (fun hHeld => ?_)
  clear hK K
  refine norm_ (a' := ?_) ?_ ?_
  rotate_left
  · show Act.put _ (some 35) _ = _
    simp only [Act.put, List.setIfInBounds_toArray, List.set_cons_zero, List.set_cons_succ, i64_w, i32_w]
    rfl
  refine one_ (i := 7) (N := some 36) #[true, true, true, true, true, true, true, true, false, true, true, false, false, false, false, false, false, false, false, false, false, false, false] rfl rfl (by kernel_rfl) (by decide) (fun K hK => ?_)
  refine goes_ Tryd.func57 (by kernel_rfl) rfl #[.slice (some ⟨bp, 0, none⟩) 2 2] (by rfl) rfl rfl (by simp only [List.map_toArray, List.map_cons, List.map_nil]; rfl) ?_
  refine (lawList (some ⟨bp, 0, none⟩) 2 2 _).mono ?_
  rintro e V8 ⟨rfl, hb⟩
  have H1_ := Aside0.mk (IsOp.below H1.out hb)
  have RA_ := Aside0.mk (Kd.C_below RA.out hb)
  have RZ_ := Aside0.mk (Kd.C_below RZ.out hb)
  have HZ_ := Aside0.mk (blk_below HZ.out hb)
  have RP_ := Aside0.mk (Kd.C_below RP.out hb)
  have HB_ := Aside0.mk (below_step HB.out hb)
  clear HB H1 RA RZ HZ RP
  have H1 := H1_
  have RA := RA_
  have RZ := RZ_
  have HZ := HZ_
  have RP := RP_
  have HB := HB_
  clear HB_ H1_ RA_ RZ_ HZ_ RP_
  clear hb
  refine ⟨_, rfl, ?_⟩
  refine hK.out _ _ ⟨((blk_cell HZ.out 0).trans rfl), ((blk_cell HZ.out 1).trans rfl), ((blk_cell HZ.out 2).trans rfl), ((blk_cell HZ.out 3).trans rfl)⟩ (fun hHeld => ?_)
  clear hK K
  refine norm_ (a' := ?_) ?_ ?_
  rotate_left
  · show Act.put _ (some 36) _ = _
    simp only [Act.put, List.setIfInBounds_toArray, List.set_cons_zero, List.set_cons_succ, i64_w, i32_w]
    rfl
  refine one_ (i := 8) (N := some 37) #[true, true, true, true, true, true, true, true, true, true, true, false, false, false, false, false, false, false, false, false, false, false, false] rfl rfl (by kernel_rfl) (by decide) (fun K hK => ?_)
  refine goes_ Tryd.func58 (by kernel_rfl) rfl #[.int .i64 5] (by rfl) rfl rfl (by simp only [List.map_toArray, List.map_cons, List.map_nil]; rfl) ?_
  refine (lawNum 5 _).mono ?_
  rintro e V9 ⟨rfl, hb⟩
  have H1_ := Aside0.mk (IsOp.below H1.out hb)
  have RA_ := Aside0.mk (Kd.C_below RA.out hb)
  have RZ_ := Aside0.mk (Kd.C_below RZ.out hb)
  have HZ_ := Aside0.mk (blk_below HZ.out hb)
  have RP_ := Aside0.mk (Kd.C_below RP.out hb)
  have HB_ := Aside0.mk (below_step HB.out hb)
  clear HB H1 RA RZ HZ RP
  have H1 := H1_
  have RA := RA_
  have RZ := RZ_
  have HZ := HZ_
  have RP := RP_
  have HB := HB_
  clear HB_ H1_ RA_ RZ_ HZ_ RP_
  clear hb
  refine ⟨_, rfl, ?_⟩
  refine hK.out _ _ ⟨((blk_cell HZ.out 0).trans rfl), ((blk_cell HZ.out 1).trans rfl), ((blk_cell HZ.out 2).trans rfl), ((blk_cell HZ.out 3).trans rfl)⟩ (fun hHeld => ?_)
  clear hK K
  refine norm_ (a' := ?_) ?_ ?_
  rotate_left
  · show Act.put _ (some 37) _ = _
    simp only [Act.put, List.setIfInBounds_toArray, List.set_cons_zero, List.set_cons_succ, i64_w, i32_w]
    rfl
  refine one_ (i := 11) (N := some 40) #[true, true, true, true, true, true, true, true, true, true, true, true, false, false, false, false, false, false, false, false, false, false, false] rfl rfl (by kernel_rfl) (by decide) (fun K hK => ?_)
  refine goes_ Tryd.func60 (by kernel_rfl) rfl #[.string ⟨#[]⟩] (by rfl) rfl rfl (by simp only [List.map_toArray, List.map_cons, List.map_nil]; rfl) ?_
  refine (lawText ⟨#[]⟩ _).mono ?_
  rintro e V10 ⟨rfl, hb⟩
  have H1_ := Aside0.mk (IsOp.below H1.out hb)
  have RA_ := Aside0.mk (Kd.C_below RA.out hb)
  have RZ_ := Aside0.mk (Kd.C_below RZ.out hb)
  have HZ_ := Aside0.mk (blk_below HZ.out hb)
  have RP_ := Aside0.mk (Kd.C_below RP.out hb)
  have HB_ := Aside0.mk (below_step HB.out hb)
  clear HB H1 RA RZ HZ RP
  have H1 := H1_
  have RA := RA_
  have RZ := RZ_
  have HZ := HZ_
  have RP := RP_
  have HB := HB_
  clear HB_ H1_ RA_ RZ_ HZ_ RP_
  clear hb
  refine ⟨_, rfl, ?_⟩
  refine hK.out _ _ ⟨((blk_cell HZ.out 0).trans rfl), ((blk_cell HZ.out 1).trans rfl), ((blk_cell HZ.out 2).trans rfl), ((blk_cell HZ.out 3).trans rfl)⟩ (fun hHeld => ?_)
  clear hK K
  refine norm_ (a' := ?_) ?_ ?_
  rotate_left
  · show Act.put _ (some 40) _ = _
    simp only [Act.put, List.setIfInBounds_toArray, List.set_cons_zero, List.set_cons_succ, i64_w, i32_w]
    rfl
  refine one_ (i := 12) (N := some 41) #[true, true, true, true, true, true, true, true, true, true, true, true, true, false, false, false, false, false, false, false, false, false, false] rfl rfl (by kernel_rfl) (by decide) (fun K hK => ?_)
  refine goes_ Tryd.func60 (by kernel_rfl) rfl #[.string ⟨#[]⟩] (by rfl) rfl rfl (by simp only [List.map_toArray, List.map_cons, List.map_nil]; rfl) ?_
  refine (lawText ⟨#[]⟩ _).mono ?_
  rintro e V11 ⟨rfl, hb⟩
  have H1_ := Aside0.mk (IsOp.below H1.out hb)
  have RA_ := Aside0.mk (Kd.C_below RA.out hb)
  have RZ_ := Aside0.mk (Kd.C_below RZ.out hb)
  have HZ_ := Aside0.mk (blk_below HZ.out hb)
  have RP_ := Aside0.mk (Kd.C_below RP.out hb)
  have HB_ := Aside0.mk (below_step HB.out hb)
  clear HB H1 RA RZ HZ RP
  have H1 := H1_
  have RA := RA_
  have RZ := RZ_
  have HZ := HZ_
  have RP := RP_
  have HB := HB_
  clear HB_ H1_ RA_ RZ_ HZ_ RP_
  clear hb
  refine ⟨_, rfl, ?_⟩
  refine hK.out _ _ ⟨((blk_cell HZ.out 0).trans rfl), ((blk_cell HZ.out 1).trans rfl), ((blk_cell HZ.out 2).trans rfl), ((blk_cell HZ.out 3).trans rfl)⟩ (fun hHeld => ?_)
  clear hK K
  refine norm_ (a' := ?_) ?_ ?_
  rotate_left
  · show Act.put _ (some 41) _ = _
    simp only [Act.put, List.setIfInBounds_toArray, List.set_cons_zero, List.set_cons_succ, i64_w, i32_w]
    rfl
  refine one_ (i := 13) (N := some 42) #[true, true, true, true, true, true, true, true, true, true, true, true, true, true, false, false, false, false, false, false, false, false, false] rfl rfl (by kernel_rfl) (by decide) (fun K hK => ?_)
  refine goes_ Tryd.func58 (by kernel_rfl) rfl #[.int .i64 5] (by rfl) rfl rfl (by simp only [List.map_toArray, List.map_cons, List.map_nil]; rfl) ?_
  refine (lawNum 5 _).mono ?_
  rintro e V12 ⟨rfl, hb⟩
  have H1_ := Aside0.mk (IsOp.below H1.out hb)
  have RA_ := Aside0.mk (Kd.C_below RA.out hb)
  have RZ_ := Aside0.mk (Kd.C_below RZ.out hb)
  have HZ_ := Aside0.mk (blk_below HZ.out hb)
  have RP_ := Aside0.mk (Kd.C_below RP.out hb)
  have HB_ := Aside0.mk (below_step HB.out hb)
  clear HB H1 RA RZ HZ RP
  have H1 := H1_
  have RA := RA_
  have RZ := RZ_
  have HZ := HZ_
  have RP := RP_
  have HB := HB_
  clear HB_ H1_ RA_ RZ_ HZ_ RP_
  clear hb
  refine ⟨_, rfl, ?_⟩
  refine hK.out _ _ ⟨((blk_cell HZ.out 0).trans rfl), ((blk_cell HZ.out 1).trans rfl), ((blk_cell HZ.out 2).trans rfl), ((blk_cell HZ.out 3).trans rfl)⟩ (fun hHeld => ?_)
  clear hK K
  refine norm_ (a' := ?_) ?_ ?_
  rotate_left
  · show Act.put _ (some 42) _ = _
    simp only [Act.put, List.setIfInBounds_toArray, List.set_cons_zero, List.set_cons_succ, i64_w, i32_w]
    rfl
  refine one_ (i := 14) (N := some 43) #[true, true, true, true, true, true, true, true, true, true, true, true, true, true, true, false, false, false, false, false, false, false, false] rfl rfl (by kernel_rfl) (by decide) (fun K hK => ?_)
  refine goes_ Tryd.func58 (by kernel_rfl) rfl #[.int .i64 0] (by rfl) rfl rfl (by simp only [List.map_toArray, List.map_cons, List.map_nil]; rfl) ?_
  refine (lawNum 0 _).mono ?_
  rintro e V13 ⟨rfl, hb⟩
  have H1_ := Aside0.mk (IsOp.below H1.out hb)
  have RA_ := Aside0.mk (Kd.C_below RA.out hb)
  have RZ_ := Aside0.mk (Kd.C_below RZ.out hb)
  have HZ_ := Aside0.mk (blk_below HZ.out hb)
  have RP_ := Aside0.mk (Kd.C_below RP.out hb)
  have HB_ := Aside0.mk (below_step HB.out hb)
  clear HB H1 RA RZ HZ RP
  have H1 := H1_
  have RA := RA_
  have RZ := RZ_
  have HZ := HZ_
  have RP := RP_
  have HB := HB_
  clear HB_ H1_ RA_ RZ_ HZ_ RP_
  clear hb
  refine ⟨_, rfl, ?_⟩
  refine hK.out _ _ ⟨((blk_cell HZ.out 0).trans rfl), ((blk_cell HZ.out 1).trans rfl), ((blk_cell HZ.out 2).trans rfl), ((blk_cell HZ.out 3).trans rfl)⟩ (fun hHeld => ?_)
  clear hK K
  refine norm_ (a' := ?_) ?_ ?_
  rotate_left
  · show Act.put _ (some 43) _ = _
    simp only [Act.put, List.setIfInBounds_toArray, List.set_cons_zero, List.set_cons_succ, i64_w, i32_w]
    rfl
  refine one_ (i := 15) (N := some 44) #[true, true, true, true, true, true, true, true, true, true, true, true, true, true, true, true, false, false, false, false, false, false, false] rfl rfl (by kernel_rfl) (by decide) (fun K hK => ?_)
  refine value_ (w1 := ?_) (v := ?_) (by rfl) rfl ?_ ?_
  rotate_left 2
  · go_simp
    constructor
    · rfl
    · rfl
  have hT := blk_new V13 (.cells #[.int .i64 1, .int .i64 1, .string ⟨#[]⟩, .slice none 0 0, .int .i64 1, .int .i64 1, .string ⟨#[]⟩, .slice none 0 0, .int .i64 1, .int .i64 1, .string ⟨#[]⟩, .slice none 0 0, .int .i64 3, .int .i64 0, .string ⟨#[]⟩, .slice none 0 0, .int .i64 3, .int .i64 0, .string ⟨#[]⟩, .slice (some ⟨bp, 0, none⟩) 2 2, .int .i64 1, .int .i64 5, .string ⟨#[]⟩, .slice none 0 0, .int .i64 3, .int .i64 0, .string ⟨#[]⟩, .slice (some ⟨zb, 0, none⟩) 3 3, .int .i64 3, .int .i64 0, .string ⟨#[]⟩, .slice (some ⟨zb, 0, none⟩) 3 3, .int .i64 2, .int .i64 0, .string ⟨#[]⟩, .slice none 0 0, .int .i64 2, .int .i64 0, .string ⟨#[]⟩, .slice none 0 0, .int .i64 1, .int .i64 5, .string ⟨#[]⟩, .slice none 0 0, .int .i64 1, .int .i64 0, .string ⟨#[]⟩, .slice none 0 0] 63)
  have hb := below_alloc (Below.refl V13.heap.size V13) (.cells #[.int .i64 1, .int .i64 1, .string ⟨#[]⟩, .slice none 0 0, .int .i64 1, .int .i64 1, .string ⟨#[]⟩, .slice none 0 0, .int .i64 1, .int .i64 1, .string ⟨#[]⟩, .slice none 0 0, .int .i64 3, .int .i64 0, .string ⟨#[]⟩, .slice none 0 0, .int .i64 3, .int .i64 0, .string ⟨#[]⟩, .slice (some ⟨bp, 0, none⟩) 2 2, .int .i64 1, .int .i64 5, .string ⟨#[]⟩, .slice none 0 0, .int .i64 3, .int .i64 0, .string ⟨#[]⟩, .slice (some ⟨zb, 0, none⟩) 3 3, .int .i64 3, .int .i64 0, .string ⟨#[]⟩, .slice (some ⟨zb, 0, none⟩) 3 3, .int .i64 2, .int .i64 0, .string ⟨#[]⟩, .slice none 0 0, .int .i64 2, .int .i64 0, .string ⟨#[]⟩, .slice none 0 0, .int .i64 1, .int .i64 5, .string ⟨#[]⟩, .slice none 0 0, .int .i64 1, .int .i64 0, .string ⟨#[]⟩, .slice none 0 0] 63)
  have H1_ := Aside0.mk (IsOp.below H1.out hb)
  have RA_ := Aside0.mk (Kd.C_below RA.out hb)
  have RZ_ := Aside0.mk (Kd.C_below RZ.out hb)
  have HZ_ := Aside0.mk (blk_below HZ.out hb)
  have RP_ := Aside0.mk (Kd.C_below RP.out hb)
  have HB_ := Aside0.mk (below_step HB.out hb)
  clear HB H1 RA RZ HZ RP
  have H1 := H1_
  have RA := RA_
  have RZ := RZ_
  have HZ := HZ_
  have RP := RP_
  have HB := HB_
  clear HB_ H1_ RA_ RZ_ HZ_ RP_
  clear hb
  generalize V13.heap.size = bl at *
  generalize V13.alloc (.cells #[.int .i64 1, .int .i64 1, .string ⟨#[]⟩, .slice none 0 0, .int .i64 1, .int .i64 1, .string ⟨#[]⟩, .slice none 0 0, .int .i64 1, .int .i64 1, .string ⟨#[]⟩, .slice none 0 0, .int .i64 3, .int .i64 0, .string ⟨#[]⟩, .slice none 0 0, .int .i64 3, .int .i64 0, .string ⟨#[]⟩, .slice (some ⟨bp, 0, none⟩) 2 2, .int .i64 1, .int .i64 5, .string ⟨#[]⟩, .slice none 0 0, .int .i64 3, .int .i64 0, .string ⟨#[]⟩, .slice (some ⟨zb, 0, none⟩) 3 3, .int .i64 3, .int .i64 0, .string ⟨#[]⟩, .slice (some ⟨zb, 0, none⟩) 3 3, .int .i64 2, .int .i64 0, .string ⟨#[]⟩, .slice none 0 0, .int .i64 2, .int .i64 0, .string ⟨#[]⟩, .slice none 0 0, .int .i64 1, .int .i64 5, .string ⟨#[]⟩, .slice none 0 0, .int .i64 1, .int .i64 0, .string ⟨#[]⟩, .slice none 0 0] 63) = V14 at *
  have RL := Aside0.mk (row_of (xs := opL oS) (vs := [[.int .i64 1, .int .i64 1, .string ⟨#[]⟩, .slice none 0 0], [.int .i64 1, .int .i64 1, .string ⟨#[]⟩, .slice none 0 0], [.int .i64 1, .int .i64 1, .string ⟨#[]⟩, .slice none 0 0], [.int .i64 3, .int .i64 0, .string ⟨#[]⟩, .slice none 0 0], [.int .i64 3, .int .i64 0, .string ⟨#[]⟩, .slice (some ⟨bp, 0, none⟩) 2 2], [.int .i64 1, .int .i64 5, .string ⟨#[]⟩, .slice none 0 0], [.int .i64 3, .int .i64 0, .string ⟨#[]⟩, .slice (some ⟨zb, 0, none⟩) 3 3], [.int .i64 3, .int .i64 0, .string ⟨#[]⟩, .slice (some ⟨zb, 0, none⟩) 3 3], [.int .i64 2, .int .i64 0, .string ⟨#[]⟩, .slice none 0 0], [.int .i64 2, .int .i64 0, .string ⟨#[]⟩, .slice none 0 0], [.int .i64 1, .int .i64 5, .string ⟨#[]⟩, .slice none 0 0], [.int .i64 1, .int .i64 0, .string ⟨#[]⟩, .slice none 0 0]]) hT rfl rfl (Nat.le_of_ble_eq_true rfl) (fun j x v hx hv => by match j, hx, hv with | 0, hx, hv => (cases hx; cases hv; exact num_K _ _) | 1, hx, hv => (cases hx; cases hv; exact num_K _ _) | 2, hx, hv => (cases hx; cases hv; exact num_K _ _) | 3, hx, hv => (cases hx; cases hv; exact list_K (L := []) (Nat.le_refl _) (Kd.C_nil _ _)) | 4, hx, hv => (cases hx; cases hv; exact list_K (L := [nV 3, tV ⟨#[99]⟩]) (Nat.le_refl _) RP.out) | 5, hx, hv => (cases hx; cases hv; exact num_K _ _) | 6, hx, hv => (cases hx; cases hv; exact list_K (L := [nV 0, nV 0, nV 0]) (Nat.le_refl _) RZ.out) | 7, hx, hv => (cases hx; cases hv; exact list_K (L := [nV 0, nV 0, nV 0]) (Nat.le_refl _) RZ.out) | 8, hx, hv => (cases hx; cases hv; exact text_K _ _) | 9, hx, hv => (cases hx; cases hv; exact text_K _ _) | 10, hx, hv => (cases hx; cases hv; exact num_K _ _) | 11, hx, hv => (cases hx; cases hv; exact num_K _ _)))
  clear hT
  refine hK.out _ _ ⟨((blk_cell HZ.out 0).trans rfl), ((blk_cell HZ.out 1).trans rfl), ((blk_cell HZ.out 2).trans rfl), ((blk_cell HZ.out 3).trans rfl)⟩ (fun hHeld => ?_)
  clear hK K
  refine norm_ (a' := ?_) ?_ ?_
  rotate_left
  · show Act.put _ (some 44) _ = _
    simp only [Act.put, List.setIfInBounds_toArray, List.set_cons_zero, List.set_cons_succ, i64_w, i32_w]
    rfl
  refine one_ (i := 16) (N := some 45) #[true, true, true, true, true, true, true, true, true, true, true, true, true, true, true, true, true, false, false, false, false, false, false] rfl rfl (by kernel_rfl) (by decide) (fun K hK => ?_)
  refine goes_ Tryd.func57 (by kernel_rfl) rfl #[.slice (some ⟨bl, 0, none⟩) 12 12] (by rfl) rfl rfl (by simp only [List.map_toArray, List.map_cons, List.map_nil]; rfl) ?_
  refine (lawList (some ⟨bl, 0, none⟩) 12 12 _).mono ?_
  rintro e V15 ⟨rfl, hb⟩
  have H1_ := Aside0.mk (IsOp.below H1.out hb)
  have RA_ := Aside0.mk (Kd.C_below RA.out hb)
  have RZ_ := Aside0.mk (Kd.C_below RZ.out hb)
  have HZ_ := Aside0.mk (blk_below HZ.out hb)
  have RP_ := Aside0.mk (Kd.C_below RP.out hb)
  have RL_ := Aside0.mk (Kd.C_below RL.out hb)
  have HB_ := Aside0.mk (below_step HB.out hb)
  clear HB H1 RA RZ HZ RP RL
  have H1 := H1_
  have RA := RA_
  have RZ := RZ_
  have HZ := HZ_
  have RP := RP_
  have RL := RL_
  have HB := HB_
  clear HB_ H1_ RA_ RZ_ HZ_ RP_ RL_
  clear hb
  refine ⟨_, rfl, ?_⟩
  refine hK.out _ _ ⟨((blk_cell HZ.out 0).trans rfl), ((blk_cell HZ.out 1).trans rfl), ((blk_cell HZ.out 2).trans rfl), ((blk_cell HZ.out 3).trans rfl)⟩ (fun hHeld => ?_)
  clear hK K
  refine norm_ (a' := ?_) ?_ ?_
  rotate_left
  · show Act.put _ (some 45) _ = _
    simp only [Act.put, List.setIfInBounds_toArray, List.set_cons_zero, List.set_cons_succ, i64_w, i32_w]
    rfl
  refine one_ (i := 17) (N := some 46) #[true, true, true, true, true, true, true, true, true, true, true, true, true, true, true, true, true, true, false, false, false, false, false] rfl rfl (by kernel_rfl) (by decide) (fun K hK => ?_)
  refine goes_ Tryd.func59 (by kernel_rfl) rfl #[.agg #[.int .i64 3, .int .i64 0, .string ⟨#[]⟩, .slice (some ⟨bl, 0, none⟩) 12 12]] (by rfl) rfl rfl (by simp only [List.map_toArray, List.map_cons, List.map_nil]; rfl) ?_
  refine (codec_Encode.calls kk 3 0 ⟨#[]⟩ (some ⟨bl, 0, none⟩) 12 (opL oS) bS 0 V15 RL.out (Nat.le_refl _) HEN.out).mono ?_
  rintro e V16 ⟨v9, rfl, hR, hb⟩
  obtain ⟨Ab, cb, rfl, hcb, hCb⟩ := Kd.R_reads hR
  have RB := Aside0.mk hCb
  clear hR hCb hcb
  have H1_ := Aside0.mk (IsOp.below H1.out hb)
  have RA_ := Aside0.mk (Kd.C_below RA.out hb)
  have RZ_ := Aside0.mk (Kd.C_below RZ.out hb)
  have HZ_ := Aside0.mk (blk_below HZ.out hb)
  have RP_ := Aside0.mk (Kd.C_below RP.out hb)
  have RL_ := Aside0.mk (Kd.C_below RL.out hb)
  have HB_ := Aside0.mk (below_step HB.out hb)
  clear HB H1 RA RZ HZ RP RL
  have H1 := H1_
  have RA := RA_
  have RZ := RZ_
  have HZ := HZ_
  have RP := RP_
  have RL := RL_
  have HB := HB_
  clear HB_ H1_ RA_ RZ_ HZ_ RP_ RL_
  clear hb
  refine ⟨_, rfl, ?_⟩
  refine hK.out _ _ ⟨((blk_cell HZ.out 0).trans rfl), ((blk_cell HZ.out 1).trans rfl), ((blk_cell HZ.out 2).trans rfl), ((blk_cell HZ.out 3).trans rfl)⟩ (fun hHeld => ?_)
  clear hK K
  refine norm_ (a' := ?_) ?_ ?_
  rotate_left
  · show Act.put _ (some 46) _ = _
    simp only [Act.put, List.setIfInBounds_toArray, List.set_cons_zero, List.set_cons_succ, i64_w, i32_w]
    rfl
  refine pure_ (i := 18) (N := some 28) (v := ?_) (a' := ?_) #[true, true, true, true, true, true, true, true, true, true, true, true, true, true, true, true, true, true, true, false, false, false, false] rfl rfl (by kernel_rfl) (fun _ _ _ h => h) (Or.inl ⟨by rfl, ?_⟩) ?_ ?_
  rotate_left
  · intro w'
    go_simp
    with_reducible rfl
  rotate_left
  · simp only [Act.put, List.setIfInBounds_toArray, List.set_cons_zero, List.set_cons_succ, i64_w, i32_w]
    rfl
  refine pure_ (i := 19) (N := some 47) (v := ?_) (a' := ?_) #[true, true, true, true, true, true, true, true, true, true, true, true, true, true, true, true, true, true, true, true, false, false, false] rfl rfl (by kernel_rfl) (fun _ _ _ h => h) (Or.inl ⟨by rfl, ?_⟩) ?_ ?_
  rotate_left
  · intro w'
    go_simp
    with_reducible rfl
  rotate_left
  · simp only [Act.put, List.setIfInBounds_toArray, List.set_cons_zero, List.set_cons_succ, i64_w, i32_w]
    rfl
  refine pure_ (i := 20) (N := some 48) (v := ?_) (a' := ?_) #[true, true, true, true, true, true, true, true, true, true, true, true, true, true, true, true, true, true, true, true, true, false, false] rfl rfl (by kernel_rfl) (fun _ _ _ h => h) (Or.inl ⟨by rfl, ?_⟩) ?_ ?_
  rotate_left
  · intro w'
    go_simp
    with_reducible rfl
  rotate_left
  · simp only [Act.put, List.setIfInBounds_toArray, List.set_cons_zero, List.set_cons_succ, i64_w, i32_w]
    rfl
  refine pure_ (i := 21) (N := some 5) (v := ?_) (a' := ?_) #[true, true, true, true, true, true, true, true, true, true, true, true, true, true, true, true, true, true, true, true, true, true, false] rfl rfl (by kernel_rfl) (fun _ _ _ h => h) (Or.inl ⟨by rfl, ?_⟩) ?_ ?_
  rotate_left
  · intro w'
    go_simp
    with_reducible rfl
  rotate_left
  · simp only [Act.put, List.setIfInBounds_toArray, List.set_cons_zero, List.set_cons_succ, i64_w, i32_w]
    rfl
  refine pure_ (i := 22) (N := some 6) (v := ?_) (a' := ?_) #[true, true, true, true, true, true, true, true, true, true, true, true, true, true, true, true, true, true, true, true, true, true, true] rfl rfl (by kernel_rfl) (fun _ _ _ h => h) (Or.inl ⟨by rfl, ?_⟩) ?_ ?_
  rotate_left
  · intro w'
    go_simp
    with_reducible rfl
  rotate_left
  · simp only [Act.put, List.setIfInBounds_toArray, List.set_cons_zero, List.set_cons_succ, i64_w, i32_w]
    rfl
  refine done_ (by kernel_rfl) ?_
  clear RP RL RZ HZ HEN
  go_wp2_with fail
  refine (opsDecode_calls Aa ca bS _ (GlobG_below HG.out HB.out) (GlobK_below HK.out HB.out) RA.out HCA.out (by decide +kernel) bS_bytes).mono ?_
  rintro e W6 h9
  rw [sane_d] at h9
  obtain ⟨A7, c7, rfl, hR, hb⟩ := h9
  have HC7 := Aside0.mk (Kd.R_reads' hR).2.1
  clear hR
  have H1_ := Aside0.mk (IsOp.below H1.out hb)
  have RA_ := Aside0.mk (Kd.C_below RA.out hb)
  have RB_ := Aside0.mk (Kd.C_below RB.out hb)
  have HB_ := Aside0.mk (below_step HB.out hb)
  clear HB H1 RA RB
  have H1 := H1_
  have RA := RA_
  have RB := RB_
  have HB := HB_
  clear HB_ H1_ RA_ RB_
  clear hb
  go_wp2_with (first | ((with_reducible refine gate_dst (N := 7) rfl ?_); refine box_event ?hg (N := 7) ?hd (cs := opC z45 none 0) (t := 45) ?hr ?_; (case hd => rfl); (case hg => rfl); (case hr => first | (go_simp; done) | (go_simp; rfl)); intro g7 hg wa hbox hba; have PA := Aside0.mk (And.intro hg hba); have BA := Aside0.mk hbox; clear hba hbox hg) | ((with_reducible refine gate_store (t := 45) (p := 7) rfl ?_); refine row_event BA.out (by rfl) _ _ rfl rfl (cs' := opC oS A7 c7) rfl size45 rfl (by simp [opC, Value.oneCell']) ?_; intro w6 h1 h2 h3; have hb := h3 _ _ (Nat.le_of_eq PA.out.1.symm) PA.out.2; have H1_ := Aside0.mk (IsOp.below H1.out hb); have RA_ := Aside0.mk (Kd.C_below RA.out hb); have RB_ := Aside0.mk (Kd.C_below RB.out hb); have HB_ := Aside0.mk (below_step HB.out hb); clear HB H1 RA RB; have H1 := H1_; have RA := RA_; have RB := RB_; have HB := HB_; clear HB_ H1_ RA_ RB_; have H7 := Aside0.mk h1; clear hb h1 h2 h3 PA BA))
  replace H7 := Aside0.mk (show IsOp _ g7 oS A7 c7 from H7.out)
  refine (opsDecode_calls none 0 [] _ (GlobG_below HG.out HB.out) (GlobK_below HK.out HB.out) (Kd.C_nil _ _) (Nat.le_refl _) (by decide) (fun _ h => by cases h)).mono ?_
  rintro e W7 h9
  rw [sane_n] at h9
  obtain ⟨A9, c9, rfl, hR, hb⟩ := h9
  clear hR
  have H1_ := Aside0.mk (IsOp.below H1.out hb)
  have RA_ := Aside0.mk (Kd.C_below RA.out hb)
  have RB_ := Aside0.mk (Kd.C_below RB.out hb)
  have H7_ := Aside0.mk (IsOp.below H7.out hb)
  have HB_ := Aside0.mk (below_step HB.out hb)
  clear HB H1 RA RB H7
  have H1 := H1_
  have RA := RA_
  have RB := RB_
  have H7 := H7_
  have HB := HB_
  clear HB_ H1_ RA_ RB_ H7_
  clear hb
  go_wp2_with (first | ((with_reducible refine gate_dst (N := 9) rfl ?_); refine box_event ?hg (N := 9) ?hd (cs := opC z45 none 0) (t := 45) ?hr ?_; (case hd => rfl); (case hg => rfl); (case hr => first | (go_simp; done) | (go_simp; rfl)); intro g9 hg wa hbox hba; have PA := Aside0.mk (And.intro hg hba); have BA := Aside0.mk hbox; clear hba hbox hg) | ((with_reducible refine gate_store (t := 45) (p := 9) rfl ?_); refine row_event BA.out (by rfl) _ _ rfl rfl (cs' := opC z45 A9 c9) rfl size45 rfl (by simp [opC, Value.oneCell']) ?_; intro w6 h1 h2 h3; have hb := h3 _ _ (Nat.le_of_eq PA.out.1.symm) PA.out.2; have H1_ := Aside0.mk (IsOp.below H1.out hb); have RA_ := Aside0.mk (Kd.C_below RA.out hb); have RB_ := Aside0.mk (Kd.C_below RB.out hb); have H7_ := Aside0.mk (IsOp.below H7.out hb); have HB_ := Aside0.mk (below_step HB.out hb); clear HB H1 RA RB H7; have H1 := H1_; have RA := RA_; have RB := RB_; have H7 := H7_; have HB := HB_; clear HB_ H1_ RA_ RB_ H7_; have H9 := Aside0.mk h1; clear hb h1 h2 h3 PA BA))
  clear H9
  refine (codec_Decode.calls 0 none 0 [] _ _ _ _ _ _ (Kd.C_nil _ _) (Nat.le_refl _) nil_cod).mono ?_
  rintro e W8 ⟨v11, rfl, hR, hb⟩
  obtain ⟨A11, c11, rfl⟩ := Kd.R_slice hR
  clear hR
  have H1_ := Aside0.mk (IsOp.below H1.out hb)
  have RA_ := Aside0.mk (Kd.C_below RA.out hb)
  have RB_ := Aside0.mk (Kd.C_below RB.out hb)
  have H7_ := Aside0.mk (IsOp.below H7.out hb)
  have HB_ := Aside0.mk (below_step HB.out hb)
  clear HB H1 RA RB H7
  have H1 := H1_
  have RA := RA_
  have RB := RB_
  have H7 := H7_
  have HB := HB_
  clear HB_ H1_ RA_ RB_ H7_
  clear hb
  go_wp2_with (first | ((with_reducible refine gate_dst (N := 11) rfl ?_); refine box_event ?hg (N := 11) ?hd (cs := #[.int .i64 0, .int .i64 0, .string ⟨#[]⟩, .slice none 0 0]) (t := 63) ?hr ?_; (case hd => rfl); (case hg => rfl); (case hr => first | (go_simp; done) | (go_simp; rfl)); intro g11 hg wa hbox hba; have PA := Aside0.mk (And.intro hg hba); have BA := Aside0.mk hbox; clear hba hbox hg) | ((with_reducible refine gate_store (t := 63) (p := 11) rfl ?_); refine row_event BA.out (by rfl) _ _ rfl rfl (cs' := #[.int .i64 0, .int .i64 0, .string ⟨#[]⟩, .slice A11 0 c11]) rfl size63n rfl (by simp [opC, Value.oneCell']) ?_; intro w6 h1 h2 h3; have hb := h3 _ _ (Nat.le_of_eq PA.out.1.symm) PA.out.2; have H1_ := Aside0.mk (IsOp.below H1.out hb); have RA_ := Aside0.mk (Kd.C_below RA.out hb); have RB_ := Aside0.mk (Kd.C_below RB.out hb); have H7_ := Aside0.mk (IsOp.below H7.out hb); have HB_ := Aside0.mk (below_step HB.out hb); clear HB H1 RA RB H7; have H1 := H1_; have RA := RA_; have RB := RB_; have H7 := H7_; have HB := HB_; clear HB_ H1_ RA_ RB_ H7_; clear hb h1 h2 h3 PA BA) | ((with_reducible refine gate_dst (N := 62) rfl ?_); refine load_event (by rfl) 45 (.tmp 1) rfl g1 rfl 45 (opC oS none 0) (0, 0) _ H1.out Tryd.underlying45 rfl size45 ?_) | ((with_reducible refine gate_dst (N := 13) rfl ?_); refine box_event ?hg (N := 13) ?hd (cs := opC z45 none 0) (t := 45) ?hr ?_; (case hd => rfl); (case hg => rfl); (case hr => first | (go_simp; done) | (go_simp; rfl)); intro g13 hg wa hbox hba; have PA := Aside0.mk (And.intro hg hba); have BA := Aside0.mk hbox; clear hba hbox hg) | ((with_reducible refine gate_store (t := 45) (p := 13) rfl ?_); refine row_event BA.out (by rfl) _ _ rfl rfl (cs' := opC oS none 0) rfl size45 rfl (by simp [opC, Value.oneCell']) ?_; intro w6 h1 h2 h3; have P13 := Aside0.mk (And.intro PA.out.1 (h3 _ _ (Nat.le_of_eq PA.out.1.symm) PA.out.2)); have B13 := Aside0.mk h1; clear h1 h2 h3 PA BA) | ((with_reducible refine gate_store (t := 3) (p := 63) rfl ?_); refine putG_event (o := oS) (A := none) (c := 0) B13.out (by rfl) 3 _ _ rfl 2 rfl (.int .i64 2) rfl [.int .i64 2] rfl size3 (by simp [Value.oneCell']) (Nat.le_of_ble_eq_true rfl) (fun _ => lS) none 0 rfl ?_; intro w9 hi hc; have hb := Ch.below P13.out.2 hc P13.out.2.size (fun i hi => by subst hi; exact Nat.le_of_eq P13.out.1.symm); have H1_ := Aside0.mk (IsOp.below H1.out hb); have RA_ := Aside0.mk (Kd.C_below RA.out hb); have RB_ := Aside0.mk (Kd.C_below RB.out hb); have H7_ := Aside0.mk (IsOp.below H7.out hb); have HB_ := Aside0.mk (below_step HB.out hb); clear HB H1 RA RB H7; have H1 := H1_; have RA := RA_; have RB := RB_; have H7 := H7_; have HB := HB_; clear HB_ H1_ RA_ RB_ H7_; have H13 := Aside0.mk hi; clear hb hi hc P13 B13; have c0 := IsOp.c0 (o := oS) (A := none) (c := 0) H1.out; have c1 := IsOp.c1 (o := oS) (A := none) (c := 0) H1.out) | ((with_reducible refine gate_dst (N := 14) rfl ?_); refine box_event ?hg (N := 14) ?hd (cs := opC z45 none 0) (t := 45) ?hr ?_; (case hd => rfl); (case hg => rfl); (case hr => first | (go_simp; done) | (go_simp; rfl)); intro g14 hg wa hbox hba; have PA := Aside0.mk (And.intro hg hba); have BA := Aside0.mk hbox; clear hba hbox hg) | ((with_reducible refine gate_store (t := 45) (p := 14) rfl ?_); refine row_event BA.out (by rfl) _ _ rfl rfl (cs' := opC uS none 0) rfl size45 rfl (by simp [opC, Value.oneCell']) ?_; intro w6 h1 h2 h3; have hb := h3 _ _ (Nat.le_of_eq PA.out.1.symm) PA.out.2; have H1_ := Aside0.mk (IsOp.below H1.out hb); have RA_ := Aside0.mk (Kd.C_below RA.out hb); have RB_ := Aside0.mk (Kd.C_below RB.out hb); have H7_ := Aside0.mk (IsOp.below H7.out hb); have H13_ := Aside0.mk (IsOp.below H13.out hb); have HB_ := Aside0.mk (below_step HB.out hb); clear HB H1 RA RB H7 H13; have H1 := H1_; have RA := RA_; have RB := RB_; have H7 := H7_; have H13 := H13_; have HB := HB_; clear HB_ H1_ RA_ RB_ H7_ H13_; have H14 := Aside0.mk h1; have ka := Kd.C_string (P := Tryd.prog) (c := ca) Tryd.underlying54 Tryd.underlying5 Tryd.underlying9 RA.out; have kb := Kd.C_string (P := Tryd.prog) (c := cb) Tryd.underlying54 Tryd.underlying5 Tryd.underlying9 RB.out; have hps := bS_pos; have hpn := bS_pn; clear hb h1 h2 h3 PA BA; refine Aside0.out ?_))
  refine ⟨?_⟩
  iterate 4 go_step
  simp only [List.append]
  go_wp2_with (first | ((with_reducible refine gate_dst (N := 92) rfl ?_); refine load_event (by rfl) 45 (.tmp 7) rfl g7 rfl 45 (opC oS A7 c7) (0, 0) _ H7.out Tryd.underlying45 rfl size45 ?_) | ((with_reducible refine gate_dst (N := 93) rfl ?_); refine load_event (by rfl) 45 (.tmp 1) rfl g1 rfl 45 (opC oS none 0) (0, 0) _ H1.out Tryd.underlying45 rfl size45 ?_))
  clear ka kb hps hpn RA RB
  replace H14 := Aside0.mk (show IsOp _ g14 uS none 0 from H14.out)
  refine (oSame_calls oS oS A7 none c7 0 _ (show Kd.C k24 _ A7 0 [] from ⟨rfl, by decide, fun h => absurd h (by decide)⟩) HC7.out (Kd.C_nil _ _) (Nat.le_refl _) (by decide)).mono ?_
  rintro e W9 ⟨rfl, hb⟩
  rw [sameP_refl]
  have H1_ := Aside0.mk (IsOp.below H1.out hb)
  have H7_ := Aside0.mk (IsOp.below H7.out hb)
  have H13_ := Aside0.mk (IsOp.below H13.out hb)
  have H14_ := Aside0.mk (IsOp.below H14.out hb)
  have HB_ := Aside0.mk (below_step HB.out hb)
  clear HB H1 H7 H13 H14
  have H1 := H1_
  have H7 := H7_
  have H13 := H13_
  have H14 := H14_
  have HB := HB_
  clear HB_ H1_ H7_ H13_ H14_
  clear hb
  clear H7
  go_wp2_with fail
  refine (opsCheck_calls z45 none 0 _ (GlobG_below HG.out HB.out) (GlobK_below HK.out HB.out) (Kd.C_nil _ _) (Nat.le_refl _) (by decide)).mono ?_
  rintro e W10 ⟨rfl, hb⟩
  rw [sane_z]
  have H1_ := Aside0.mk (IsOp.below H1.out hb)
  have H13_ := Aside0.mk (IsOp.below H13.out hb)
  have H14_ := Aside0.mk (IsOp.below H14.out hb)
  have HB_ := Aside0.mk (below_step HB.out hb)
  clear HB H1 H13 H14
  have H1 := H1_
  have H13 := H13_
  have H14 := H14_
  have HB := HB_
  clear HB_ H1_ H13_ H14_
  clear hb
  go_wp2_with (first | ((with_reducible refine gate_dst (N := 111) rfl ?_); refine load_event (by rfl) 45 (.tmp 1) rfl g1 rfl 45 (opC oS none 0) (0, 0) _ H1.out Tryd.underlying45 rfl size45 ?_))
  refine (opsCheck_calls oS none 0 _ (GlobG_below HG.out HB.out) (GlobK_below HK.out HB.out) (Kd.C_nil _ _) (Nat.le_refl _) (by decide)).mono ?_
  rintro e W11 ⟨rfl, hb⟩
  rw [sane_o]
  have H1_ := Aside0.mk (IsOp.below H1.out hb)
  have H13_ := Aside0.mk (IsOp.below H13.out hb)
  have H14_ := Aside0.mk (IsOp.below H14.out hb)
  have HB_ := Aside0.mk (below_step HB.out hb)
  clear HB H1 H13 H14
  have H1 := H1_
  have H13 := H13_
  have H14 := H14_
  have HB := HB_
  clear HB_ H1_ H13_ H14_
  clear hb
  go_wp2_with (first | ((with_reducible refine gate_dst (N := 116) rfl ?_); refine load_event (by rfl) 45 (.tmp 1) rfl g1 rfl 45 (opC oS none 0) (0, 0) _ H1.out Tryd.underlying45 rfl size45 ?_) | ((with_reducible refine gate_dst (N := 117) rfl ?_); refine load_event (by rfl) 45 (.tmp 1) rfl g1 rfl 45 (opC oS none 0) (0, 0) _ H1.out Tryd.underlying45 rfl size45 ?_))
  refine (opsCompare_calls oS oS none none 0 0 _ (GlobG_below HG.out HB.out) (GlobK_below HK.out HB.out) (Kd.C_nil _ _) (Nat.le_refl _) (by decide) (by decide) (Kd.C_nil _ _) (Nat.le_refl _) (by decide) (by decide)).mono ?_
  rintro e W12 ⟨rfl, hb⟩
  rw [sane_c]
  have H1_ := Aside0.mk (IsOp.below H1.out hb)
  have H13_ := Aside0.mk (IsOp.below H13.out hb)
  have H14_ := Aside0.mk (IsOp.below H14.out hb)
  have HB_ := Aside0.mk (below_step HB.out hb)
  clear HB H1 H13 H14
  have H1 := H1_
  have H13 := H13_
  have H14 := H14_
  have HB := HB_
  clear HB_ H1_ H13_ H14_
  clear hb
  go_wp2_with (first | ((with_reducible refine gate_dst (N := 122) rfl ?_); refine load_event (by rfl) 45 (.tmp 1) rfl g1 rfl 45 (opC oS none 0) (0, 0) _ H1.out Tryd.underlying45 rfl size45 ?_) | ((with_reducible refine gate_dst (N := 123) rfl ?_); refine load_event (by rfl) 45 (.tmp 13) rfl g13 rfl 45 (opC lS none 0) (0, 0) _ H13.out Tryd.underlying45 rfl size45 ?_))
  refine (opsCompare_calls oS lS none none 0 0 _ (GlobG_below HG.out HB.out) (GlobK_below HK.out HB.out) (Kd.C_nil _ _) (Nat.le_refl _) (by decide) (by decide) (Kd.C_nil _ _) (Nat.le_refl _) (by decide) (by decide)).mono ?_
  rintro e W13 ⟨rfl, hb⟩
  rw [sane_c1]
  have H1_ := Aside0.mk (IsOp.below H1.out hb)
  have H13_ := Aside0.mk (IsOp.below H13.out hb)
  have H14_ := Aside0.mk (IsOp.below H14.out hb)
  have HB_ := Aside0.mk (below_step HB.out hb)
  clear HB H1 H13 H14
  have H1 := H1_
  have H13 := H13_
  have H14 := H14_
  have HB := HB_
  clear HB_ H1_ H13_ H14_
  clear hb
  go_wp2_with (first | ((with_reducible refine gate_dst (N := 128) rfl ?_); refine load_event (by rfl) 45 (.tmp 13) rfl g13 rfl 45 (opC lS none 0) (0, 0) _ H13.out Tryd.underlying45 rfl size45 ?_) | ((with_reducible refine gate_dst (N := 129) rfl ?_); refine load_event (by rfl) 45 (.tmp 1) rfl g1 rfl 45 (opC oS none 0) (0, 0) _ H1.out Tryd.underlying45 rfl size45 ?_))
  refine (opsCompare_calls lS oS none none 0 0 _ (GlobG_below HG.out HB.out) (GlobK_below HK.out HB.out) (Kd.C_nil _ _) (Nat.le_refl _) (by decide) (by decide) (Kd.C_nil _ _) (Nat.le_refl _) (by decide) (by decide)).mono ?_
  rintro e W14 ⟨rfl, hb⟩
  rw [sane_c2]
  have H1_ := Aside0.mk (IsOp.below H1.out hb)
  have H13_ := Aside0.mk (IsOp.below H13.out hb)
  have H14_ := Aside0.mk (IsOp.below H14.out hb)
  have HB_ := Aside0.mk (below_step HB.out hb)
  clear HB H1 H13 H14
  have H1 := H1_
  have H13 := H13_
  have H14 := H14_
  have HB := HB_
  clear HB_ H1_ H13_ H14_
  clear hb
  go_wp2_with (first | ((with_reducible refine gate_dst (N := 134) rfl ?_); refine load_event (by rfl) 45 (.tmp 14) rfl g14 rfl 45 (opC uS none 0) (0, 0) _ H14.out Tryd.underlying45 rfl size45 ?_))
  refine (opsCheck_calls uS none 0 _ (GlobG_below HG.out HB.out) (GlobK_below HK.out HB.out) (Kd.C_nil _ _) (Nat.le_refl _) (by decide)).mono ?_
  rintro e W15 ⟨rfl, hb⟩
  rw [sane_u]
  have H1_ := Aside0.mk (IsOp.below H1.out hb)
  have H13_ := Aside0.mk (IsOp.below H13.out hb)
  have H14_ := Aside0.mk (IsOp.below H14.out hb)
  have HB_ := Aside0.mk (below_step HB.out hb)
  clear HB H1 H13 H14
  have H1 := H1_
  have H13 := H13_
  have H14 := H14_
  have HB := HB_
  clear HB_ H1_ H13_ H14_
  clear hb
  clear H14
  go_wp2_with (first | ((with_reducible refine gate_dst (N := 139) rfl ?_); refine load_event (by rfl) 45 (.tmp 1) rfl g1 rfl 45 (opC oS none 0) (0, 0) _ H1.out Tryd.underlying45 rfl size45 ?_) | ((with_reducible refine gate_dst (N := 140) rfl ?_); refine load_event (by rfl) 45 (.tmp 13) rfl g13 rfl 45 (opC lS none 0) (0, 0) _ H13.out Tryd.underlying45 rfl size45 ?_))
  refine (oSame_calls oS lS none none 0 0 _ (Kd.C_nil _ _) (Nat.le_refl _) (Kd.C_nil _ _) (Nat.le_refl _) (by decide)).mono ?_
  rintro e W16 ⟨rfl, hb⟩
  rw [sane_s]
  have H1_ := Aside0.mk (IsOp.below H1.out hb)
  have H13_ := Aside0.mk (IsOp.below H13.out hb)
  have HB_ := Aside0.mk (below_step HB.out hb)
  clear HB H1 H13
  have H1 := H1_
  have H13 := H13_
  have HB := HB_
  clear HB_ H1_ H13_
  clear hb
  go_wp2
  go_ret
  exact ⟨rfl, HB.out⟩
end Go.Proofs.YtncejmjicjlanaaDoor.Q
