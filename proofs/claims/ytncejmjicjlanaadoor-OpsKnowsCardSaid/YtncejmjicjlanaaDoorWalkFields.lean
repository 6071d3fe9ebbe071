/- The walk of the law OpsFields: it answers true; nothing that was there changes. -/
import Derived.Test.YtncejmjicjlanaaDoorSane17
import Derived.Test.YtncejmjicjlanaaDoorOpsF
namespace Go.Proofs.YtncejmjicjlanaaDoor.Q
open Go.RowKit Go.Proofs.YtncejmjicjlanaaDoorW.PrintWords Go.Proofs.YtncejmjicjlanaaDoorW.PrintLast Go.Proofs.YtncejmjicjlanaaDoorW.PrintMore
set_option linter.unusedVariables false
set_option linter.unusedSimpArgs false
theorem below_of {g : Nat} {W W1 : World} (h : g = W.heap.size ∧ Below W.heap.size W W1) : Below W.heap.size W W1 := h.2
theorem opChk_or (o : S45) : opChk o = 0 ∨ opChk o = 170 := by
  unfold opChk
  repeat' split
  all_goals first | exact Or.inl rfl | exact Or.inr rfl
theorem opChk_zero {o : S45} (h : opChk o = 0) : chk2 [] [o.f0] = 0 ∧ ¬ o.f1 < 1 ∧ ¬ 1099511627776 < o.f1 ∧ chk o.f2 = 0 ∧ covP o.f2 o.f0.f0 o.f0.f1 = false ∧ (∃ pf, kindAt o.f4 = some pf ∧ o.f3.f0 = pf.1) ∧ fieldsP o = true ∧ sameP (restP o) z45 = true := by
  unfold opChk at h
  by_cases k1 : chk2 [] [o.f0] = 0
  rotate_left
  · rw [if_neg k1] at h; cases h
  rw [if_pos k1] at h
  by_cases k2 : o.f1 < 1
  · rw [if_pos k2] at h; cases h
  rw [if_neg k2] at h
  by_cases k3 : 1099511627776 < o.f1
  · rw [if_pos k3] at h; cases h
  rw [if_neg k3] at h
  by_cases k4 : chk o.f2 = 0
  rotate_left
  · rw [if_neg k4] at h; cases h
  rw [if_pos k4] at h
  by_cases k5 : covP o.f2 o.f0.f0 o.f0.f1 = true
  · rw [if_pos k5] at h; cases h
  rw [if_neg k5] at h
  refine ⟨k1, k2, k3, k4, by simpa using k5, ?_⟩
  cases hk : kindAt o.f4 with
  | none => rw [hk] at h; cases h
  | some pf =>
    rw [hk] at h
    dsimp only at h
    by_cases k6 : o.f3.f0 = pf.1
    rotate_left
    · rw [if_neg k6] at h; cases h
    rw [if_pos k6] at h
    by_cases k7 : 64 < (o.f3.f1.size : Int)
    · rw [if_pos k7] at h; cases h
    rw [if_neg k7] at h
    by_cases k8 : fieldsP o = true
    rotate_left
    · rw [if_neg k8] at h; cases h
    rw [if_pos k8] at h
    by_cases k9 : sameP (restP o) z45 = true
    rotate_left
    · rw [if_neg k9] at h; cases h
    exact ⟨⟨pf, rfl, k6⟩, k8, k9⟩
def ch0 (o : S45) : S45 := { o with f3 := ⟨wrap64 (o.f3.f0.tmod 4 + 1), o.f3.f1⟩ }
def ch1 (o : S45) : S45 := { o with f1 := 0 }
def ch2 (o : S45) : S45 := { o with f0 := ⟨o.f0.f0, 1048577⟩ }
def ch3 (o : S45) : S45 := { o with f7 := ⟨#[107]⟩ }
def ch4 (o : S45) : S45 := { o with f6 := ⟨1, 1, 0⟩ }
def ch5 (o : S45) : S45 := { o with f10 := true }
def ch6 (o : S45) : S45 := { o with f9 := 1 }
def ch7 (o : S45) : S45 := { o with f2 := mrg mx (prs o.f2 [o.f0]) }
theorem bad_of {o : S45} (h : opChk o = 0 → False) : opChk o = 170 := (opChk_or o).resolve_left h
theorem kindAt_part {K p : Int} {f : Nat} (h : kindAt K = some (p, f)) : 1 ≤ p ∧ p ≤ 4 := by
  unfold kindAt at h
  repeat' split at h
  all_goals first
    | cases h; done
    | (simp only [Option.some.injEq, Prod.mk.injEq] at h; omega)
theorem ch0_bad {o : S45} (h : opChk o = 0) : opChk (ch0 o) = 170 := bad_of fun h2 => by
  obtain ⟨⟨p, f⟩, hk, hp⟩ := (opChk_zero h).2.2.2.2.2.1
  obtain ⟨⟨p2, f2⟩, hk2, hp2⟩ := (opChk_zero h2).2.2.2.2.2.1
  rw [show (ch0 o).f4 = o.f4 from rfl, hk] at hk2
  obtain ⟨rfl, rfl⟩ := Prod.mk.inj (Option.some.inj hk2)
  obtain ⟨l1, l2⟩ := kindAt_part hk
  change o.f3.f0 = p at hp
  change wrap64 (o.f3.f0.tmod 4 + 1) = p at hp2
  have e := hp2
  clear hp2 hk h h2
  rw [hp, Int.tmod_eq_emod_of_nonneg (by omega)] at e
  unfold wrap64 at e
  omega
theorem ch1_bad {o : S45} (h : opChk o = 0) : opChk (ch1 o) = 170 := bad_of fun h2 => (opChk_zero h2).2.1 (by show (0 : Int) < 1; decide)
theorem ch2_bad {o : S45} (h : opChk o = 0) : opChk (ch2 o) = 170 := bad_of fun h2 => by
  have h3 := (chk2_zero.1 (opChk_zero h2).1).2
  have h4 : Dot ⟨o.f0.f0, 1048577⟩ := h3.1
  have := h4.2.2.2
  simp at this
theorem rest_of {o : S45} (h : opChk o = 0) : sameP (restP o) z45 = true := (opChk_zero h).2.2.2.2.2.2.2
theorem ch3_bad {o : S45} (h : opChk o = 0) (n3 : o.f4 ≠ 3) (n4 : o.f4 ≠ 4) : opChk (ch3 o) = 170 := bad_of fun h2 => by
  have h3 := rest_of h2
  unfold restP at h3
  simp only [ch3, n3, n4, if_false] at h3
  repeat' split at h3
  all_goals simp [sameP, z45] at h3
theorem same_z {p : S45} (h : sameP p z45 = true) : p.f6.f0 = 0 ∧ p.f9 = 0 ∧ p.f10 = false := by
  simp only [sameP, z45, Bool.and_eq_true, beq_iff_eq] at h
  obtain ⟨_, _, _, _, _, _, ⟨h6, _⟩, _, _, h9, h10⟩ := h
  exact ⟨h6, h9, h10⟩
theorem rest_f6 {o : S45} (n8 : o.f4 ≠ 8) : (restP o).f6 = o.f6 := by
  unfold restP
  simp only [n8, if_false]
  repeat' split
  all_goals rfl
theorem ch4_bad {o : S45} (h : opChk o = 0) (n8 : o.f4 ≠ 8) : opChk (ch4 o) = 170 := bad_of fun h2 => by
  have h3 := rest_of h2
  have h4 := (same_z h3).1
  rw [rest_f6 (o := ch4 o) n8] at h4
  revert h4
  simp [ch4]
theorem rest_f10 {o : S45} (n8 : o.f4 ≠ 8) : (restP o).f10 = o.f10 := by
  unfold restP
  simp only [n8, if_false]
  repeat' split
  all_goals rfl
theorem ch5_bad {o : S45} (h : opChk o = 0) (n8 : o.f4 ≠ 8) : opChk (ch5 o) = 170 := bad_of fun h2 => by
  have h3 := rest_of h2
  have h4 := (same_z h3).2.2
  rw [rest_f10 (o := ch5 o) n8] at h4
  revert h4
  simp [ch5]
theorem rest_f9 {o : S45} (n5 : o.f4 ≠ 5) (n7 : o.f4 ≠ 7) (n8 : o.f4 ≠ 8) : (restP o).f9 = o.f9 := by
  unfold restP
  simp only [n5, n7, n8, if_false]
  repeat' split
  all_goals rfl
theorem ch6_bad {o : S45} (h : opChk o = 0) (n5 : o.f4 ≠ 5) (n7 : o.f4 ≠ 7) (n8 : o.f4 ≠ 8) : opChk (ch6 o) = 170 := bad_of fun h2 => by
  have h3 := rest_of h2
  have h4 := (same_z h3).2.1
  rw [rest_f9 (o := ch6 o) n5 n7 n8] at h4
  revert h4
  simp [ch6]
theorem ch7_bad {o : S45} (h : opChk o = 0) : opChk (ch7 o) = 170 := bad_of fun h2 => by
  obtain ⟨z1, _, _, z4, _⟩ := opChk_zero h
  have c2 := (opChk_zero h2).2.2.2.2.1
  have v1 := (chk2_zero.1 z1).2
  have v2 : Valid o.f2 := (chk2_zero (a := []) (b := o.f2)).1 (by unfold chk2; rw [if_pos (chk2_zero.1 z1).1]; exact z4) |>.2
  have d : Dot o.f0 := v1.1
  replace c2 : (if o.f0.f1 ≥ 1 then decide (o.f0.f1 ≤ atN (mrg mx (prs o.f2 [o.f0])) o.f0.f0) else false) = false := c2
  rw [if_pos d.2.2.1, join_at v2 v1] at c2
  have ha : atN [o.f0] o.f0.f0 = o.f0.f1 := by simp [atN]
  rw [ha] at c2
  have := of_decide_eq_false c2
  omega
theorem with_ok {o : S45} (h : opChk o = 0) (hl : o.f2.length ≤ 600) : vector_With.f (o.f2.length + 2) o.f2 o.f0.f0 o.f0.f1 = some ((ch7 o).f2, 0) ∧ (ch7 o).f2.length ≤ 100000 := by
  obtain ⟨z1, _, _, z4, _⟩ := opChk_zero h
  have v1 := (chk2_zero.1 z1).2
  have v2 : Valid o.f2 := (chk2_zero (a := []) (b := o.f2)).1 (by unfold chk2; rw [if_pos (chk2_zero.1 z1).1]; exact z4) |>.2
  refine ⟨?_, ?_⟩
  · unfold vector_With.f
    rw [Join_eq (o.f2.length + 2) o.f2 _ (by omega) (by simp) (by omega) (by simp), Option.bind_some, if_pos (chk2_zero.2 ⟨v2, v1⟩)]
    rfl
  · have := mrg_len mx v2 v1
    simp only [ch7]
    simp only [List.length_cons, List.length_nil] at this
    omega
set_option maxHeartbeats 8000000 in
set_option maxRecDepth 100000 in
theorem opsFields_calls (o : S45) (A : Option Addr) (c : Nat) (x : Int) (w : World) (hGG : GlobG w) (hGK : GlobK w) (hr : Kd.C k24 w A o.f2.length o.f2) (hc : o.f2.length ≤ c) (hx : 0 ≤ x) (hx2 : x < 256) :
    Calls Tryd.prog 9 #[.agg (opC o A c), .int .u8 x] w fun e w' => e = .returned (.bool true) ∧ Below w.heap.size w w' := by
  have hu45 := Tryd.underlying45
  have hu41 := Tryd.underlying41
  have hu43 := Tryd.underlying43
  have hu24 := Tryd.underlying24
  have HR := Aside0.mk hr
  have HC := Aside0.mk hc
  have HG := Aside0.mk hGG
  have HK := Aside0.mk hGK
  have HX := Aside0.mk (And.intro hx hx2)
  clear hr hc hGG hGK hx hx2
  have HB := Aside0.mk (Below.refl w.heap.size w)
  go_enter Tryd.func9, Tryd.ntmps9
  go_wp2_with (first | ((with_reducible refine gate_dst (N := 2) rfl ?_); refine box_event ?hg (N := 2) ?hd (cs := opC o A c) (t := 45) ?hr ?_; (case hd => rfl); (case hg => rfl); (case hr => first | (go_simp; done) | (go_simp; rfl)); intro g hg w1 hbox hb; have n1_ := Aside0.mk (below_step HB.out hb); have n2_ := Aside0.mk (by rw [hg]; exact below_size HB.out : w.heap.size ≤ g); clear HB; have HB := n1_; have Gg := n2_; clear n1_ n2_; have HO := Aside0.mk (show IsOp w1 g o A c from hbox); clear hb hbox hg))
  refine (sane17_calls _ (GlobG_below HG.out HB.out) (GlobK_below HK.out HB.out)).mono ?_
  rintro e W1 ⟨rfl, hb⟩
  have HO_ := Aside0.mk (IsOp.below HO.out hb)
  have HB_ := Aside0.mk (below_step HB.out hb)
  clear HB HO
  have HO := HO_
  have HB := HB_
  clear HB_ HO_
  clear hb
  go_wp2_with (first | ((with_reducible refine gate_dst (N := 10) rfl ?_); refine load_event (by rfl) 45 (.tmp 2) rfl g rfl 45 (opC o A c) (0, 0) _ HO.out Tryd.underlying45 rfl size45 ?_))
  refine (fewO_calls o A c _).mono ?_
  rintro e W2 ⟨rfl, hb⟩
  have HO_ := Aside0.mk (IsOp.below HO.out hb)
  have HB_ := Aside0.mk (below_step HB.out hb)
  clear HB HO
  have HO := HO_
  have HB := HB_
  clear HB_ HO_
  clear hb
  by_cases kf : fewO o = true
  rotate_left
  · rw [show fewO o = false by simpa using kf]
    go_wp2
    go_ret
    exact ⟨rfl, HB.out⟩
  rw [kf]
  have HF := Aside0.mk (fewO_len kf)
  clear kf
  go_wp2_with (first | ((with_reducible refine gate_dst (N := 14) rfl ?_); refine load_event (by rfl) 45 (.tmp 2) rfl g rfl 45 (opC o A c) (0, 0) _ HO.out Tryd.underlying45 rfl size45 ?_))
  refine (opsCheck_calls o A c _ (GlobG_below HG.out HB.out) (GlobK_below HK.out HB.out) (Kd.C_below HR.out HB.out) HC.out (Nat.le_trans HF.out (by decide))).mono ?_
  rintro e W3 ⟨rfl, hb⟩
  have HO_ := Aside0.mk (IsOp.below HO.out hb)
  have HB_ := Aside0.mk (below_step HB.out hb)
  clear HB HO
  have HO := HO_
  have HB := HB_
  clear HB_ HO_
  clear hb
  by_cases kc : opChk o = 0
  rotate_left
  · have b1 : (opChk o != 0) = true := bne_iff_ne.mpr kc
    clear kc
    go_wp2
    go_ret
    exact ⟨rfl, HB.out⟩
  rw [kc]
  have HV := Aside0.mk kc
  clear kc
  go_wp2_with (first | ((with_reducible refine gate_dst (N := 18) rfl ?_); refine load_event (by rfl) 45 (.tmp 2) rfl g rfl 45 (opC o A c) (0, 0) _ HO.out Tryd.underlying45 rfl size45 ?_) | ((with_reducible refine gate_dst (N := 5) rfl ?_); refine box_event ?hg (N := 5) ?hd (cs := opC z45 none 0) (t := 45) ?hr ?_; (case hd => rfl); (case hg => rfl); (case hr => first | (go_simp; done) | (go_simp; rfl)); intro g5 hg wa hbox hba; have PA := Aside0.mk (And.intro hg hba); have BA := Aside0.mk hbox; clear hba hbox hg) | ((with_reducible refine gate_store (t := 45) (p := 5) rfl ?_); refine row_event BA.out (by rfl) _ _ rfl rfl (cs' := opC o A c) rfl size45 rfl (by simp [opC, Value.oneCell']) ?_; intro w6 h1 h2 h3; have P5 := Aside0.mk (And.intro PA.out.1 (h3 _ _ (Nat.le_of_eq PA.out.1.symm) PA.out.2)); have H5 := Aside0.mk h1; clear h1 h2 h3 PA BA; refine Aside0.out ?_))
  replace H5 := Aside0.mk (show IsOp _ g5 o A c from H5.out)
  have HZ := Aside0.mk (opChk_zero HV.out)
  have hx8 : x.tmod 8 = 0 ∨ x.tmod 8 = 1 ∨ x.tmod 8 = 2 ∨ x.tmod 8 = 3 ∨ x.tmod 8 = 4 ∨ x.tmod 8 = 5 ∨ x.tmod 8 = 6 ∨ x.tmod 8 = 7 := by rw [Int.tmod_eq_emod_of_nonneg HX.out.1]; omega
  clear HX
  refine ⟨?_⟩
  rcases hx8 with hm | hm | hm | hm | hm | hm | hm | hm
  · have h0 := HZ.out
    clear h0
    have e4 := IsOp.c4 (IsOp.below HO.out (below_of P5.out))
    go_wp2_with (first | ((with_reducible refine gate_store (t := 3) (p := 29) rfl ?_); refine putG_event (o := o) (A := A) (c := c) H5.out (by rfl) 3 _ _ rfl 4 rfl (.int .i64 (wrap64 (o.f3.f0.tmod 4 + 1))) rfl [.int .i64 (wrap64 (o.f3.f0.tmod 4 + 1))] rfl size3 (by simp [Value.oneCell']) (Nat.le_of_ble_eq_true rfl) (fun _ => ch0 o) A c rfl ?_; intro w9 hi hc; have hb := Ch.below P5.out.2 hc P5.out.2.size (fun i hi => by subst hi; exact Nat.le_of_eq P5.out.1.symm); have HO_ := Aside0.mk (IsOp.below HO.out hb); have HB_ := Aside0.mk (below_step HB.out hb); clear HB HO; have HO := HO_; have HB := HB_; clear HB_ HO_; clear P5 H5; have H5 := Aside0.mk hi; clear hb hi hc) | ((with_reducible refine gate_dst (N := 91) rfl ?_); refine load_event (by rfl) 45 (.tmp 5) rfl g5 rfl 45 (opC (ch0 o) A c) (0, 0) _ H5.out Tryd.underlying45 rfl size45 ?_))
    refine (opsCheck_calls (ch0 o) A c _ (GlobG_below HG.out HB.out) (GlobK_below HK.out HB.out) (Kd.C_below HR.out HB.out) HC.out (Nat.le_trans HF.out (by decide))).mono ?_
    rintro e W8 ⟨rfl, hb⟩
    rw [ch0_bad HV.out]
    have HB_ := Aside0.mk (below_step HB.out hb)
    clear hb HB
    have HB := HB_
    clear HB_
    go_wp2
    go_ret
    exact ⟨rfl, HB.out⟩
  · have h0 := HZ.out
    clear h0
    go_wp2_with (first | ((with_reducible refine gate_store (t := 3) (p := 32) rfl ?_); refine putG_event (o := o) (A := A) (c := c) H5.out (by rfl) 3 _ _ rfl 2 rfl (.int .i64 0) rfl [.int .i64 0] rfl size3 (by simp [Value.oneCell']) (Nat.le_of_ble_eq_true rfl) (fun _ => ch1 o) A c rfl ?_; intro w9 hi hc; have hb := Ch.below P5.out.2 hc P5.out.2.size (fun i hi => by subst hi; exact Nat.le_of_eq P5.out.1.symm); have HO_ := Aside0.mk (IsOp.below HO.out hb); have HB_ := Aside0.mk (below_step HB.out hb); clear HB HO; have HO := HO_; have HB := HB_; clear HB_ HO_; clear P5 H5; have H5 := Aside0.mk hi; clear hb hi hc) | ((with_reducible refine gate_dst (N := 91) rfl ?_); refine load_event (by rfl) 45 (.tmp 5) rfl g5 rfl 45 (opC (ch1 o) A c) (0, 0) _ H5.out Tryd.underlying45 rfl size45 ?_))
    refine (opsCheck_calls (ch1 o) A c _ (GlobG_below HG.out HB.out) (GlobK_below HK.out HB.out) (Kd.C_below HR.out HB.out) HC.out (Nat.le_trans HF.out (by decide))).mono ?_
    rintro e W8 ⟨rfl, hb⟩
    rw [ch1_bad HV.out]
    have HB_ := Aside0.mk (below_step HB.out hb)
    clear hb HB
    have HB := HB_
    clear HB_
    go_wp2
    go_ret
    exact ⟨rfl, HB.out⟩
  · have h0 := HZ.out
    clear h0
    go_wp2_with (first | ((with_reducible refine gate_store (t := 3) (p := 36) rfl ?_); refine putG_event (o := o) (A := A) (c := c) H5.out (by rfl) 3 _ _ rfl 1 rfl (.int .i64 1048577) rfl [.int .i64 1048577] rfl size3 (by simp [Value.oneCell']) (Nat.le_of_ble_eq_true rfl) (fun _ => ch2 o) A c rfl ?_; intro w9 hi hc; have hb := Ch.below P5.out.2 hc P5.out.2.size (fun i hi => by subst hi; exact Nat.le_of_eq P5.out.1.symm); have HO_ := Aside0.mk (IsOp.below HO.out hb); have HB_ := Aside0.mk (below_step HB.out hb); clear HB HO; have HO := HO_; have HB := HB_; clear HB_ HO_; clear P5 H5; have H5 := Aside0.mk hi; clear hb hi hc) | ((with_reducible refine gate_dst (N := 91) rfl ?_); refine load_event (by rfl) 45 (.tmp 5) rfl g5 rfl 45 (opC (ch2 o) A c) (0, 0) _ H5.out Tryd.underlying45 rfl size45 ?_))
    refine (opsCheck_calls (ch2 o) A c _ (GlobG_below HG.out HB.out) (GlobK_below HK.out HB.out) (Kd.C_below HR.out HB.out) HC.out (Nat.le_trans HF.out (by decide))).mono ?_
    rintro e W8 ⟨rfl, hb⟩
    rw [ch2_bad HV.out]
    have HB_ := Aside0.mk (below_step HB.out hb)
    clear hb HB
    have HB := HB_
    clear HB_
    go_wp2
    go_ret
    exact ⟨rfl, HB.out⟩
  · have h0 := HZ.out
    clear h0
    have e6 := IsOp.c6 (IsOp.below HO.out (below_of P5.out))
    by_cases kp : o.f4 = 3
    · have d3 := beq_iff_eq.mpr kp
      clear kp
      go_wp2
      go_ret
      exact ⟨rfl, below_step HB.out (below_of P5.out)⟩
    have d3 : (o.f4 == 3) = false := beq_eq_false_iff_ne.mpr kp
    have N3 := Aside0.mk kp
    clear kp
    by_cases kp : o.f4 = 4
    · have d4 := beq_iff_eq.mpr kp
      clear kp
      go_wp2
      go_ret
      exact ⟨rfl, below_step HB.out (below_of P5.out)⟩
    have d4 : (o.f4 == 4) = false := beq_eq_false_iff_ne.mpr kp
    have N4 := Aside0.mk kp
    clear kp
    go_wp2_with (first | ((with_reducible refine gate_store (t := 9) (p := 47) rfl ?_); refine putG_event (o := o) (A := A) (c := c) H5.out (by rfl) 9 _ _ rfl 13 rfl (.string ⟨#[107]⟩) rfl [.string ⟨#[107]⟩] rfl size9 (by simp [Value.oneCell']) (Nat.le_of_ble_eq_true rfl) (fun _ => ch3 o) A c rfl ?_; intro w9 hi hc; have hb := Ch.below P5.out.2 hc P5.out.2.size (fun i hi => by subst hi; exact Nat.le_of_eq P5.out.1.symm); have HO_ := Aside0.mk (IsOp.below HO.out hb); have HB_ := Aside0.mk (below_step HB.out hb); clear HB HO; have HO := HO_; have HB := HB_; clear HB_ HO_; clear P5 H5; have H5 := Aside0.mk hi; clear hb hi hc) | ((with_reducible refine gate_dst (N := 91) rfl ?_); refine load_event (by rfl) 45 (.tmp 5) rfl g5 rfl 45 (opC (ch3 o) A c) (0, 0) _ H5.out Tryd.underlying45 rfl size45 ?_))
    refine (opsCheck_calls (ch3 o) A c _ (GlobG_below HG.out HB.out) (GlobK_below HK.out HB.out) (Kd.C_below HR.out HB.out) HC.out (Nat.le_trans HF.out (by decide))).mono ?_
    rintro e W8 ⟨rfl, hb⟩
    rw [ch3_bad HV.out N3.out N4.out]
    have HB_ := Aside0.mk (below_step HB.out hb)
    clear hb HB
    have HB := HB_
    clear HB_
    go_wp2
    go_ret
    exact ⟨rfl, HB.out⟩
  · have h0 := HZ.out
    clear h0
    have e6 := IsOp.c6 (IsOp.below HO.out (below_of P5.out))
    by_cases kp : o.f4 = 8
    · have d8 := beq_iff_eq.mpr kp
      clear kp
      go_wp2
      go_ret
      exact ⟨rfl, below_step HB.out (below_of P5.out)⟩
    have d8 : (o.f4 == 8) = false := beq_eq_false_iff_ne.mpr kp
    have N8 := Aside0.mk kp
    clear kp
    go_wp2_with (first | ((with_reducible refine gate_store (t := 43) (p := 54) rfl ?_); refine putG_event (o := o) (A := A) (c := c) H5.out (by rfl) 43 _ _ rfl 10 rfl (.agg #[.int .i64 1, .int .i64 1, .int .i64 0]) rfl [.int .i64 1, .int .i64 1, .int .i64 0] rfl size43 (by simp [Value.oneCell']) (Nat.le_of_ble_eq_true rfl) (fun _ => ch4 o) A c rfl ?_; intro w9 hi hc; have hb := Ch.below P5.out.2 hc P5.out.2.size (fun i hi => by subst hi; exact Nat.le_of_eq P5.out.1.symm); have HO_ := Aside0.mk (IsOp.below HO.out hb); have HB_ := Aside0.mk (below_step HB.out hb); clear HB HO; have HO := HO_; have HB := HB_; clear HB_ HO_; clear P5 H5; have H5 := Aside0.mk hi; clear hb hi hc) | ((with_reducible refine gate_dst (N := 91) rfl ?_); refine load_event (by rfl) 45 (.tmp 5) rfl g5 rfl 45 (opC (ch4 o) A c) (0, 0) _ H5.out Tryd.underlying45 rfl size45 ?_))
    refine (opsCheck_calls (ch4 o) A c _ (GlobG_below HG.out HB.out) (GlobK_below HK.out HB.out) (Kd.C_below HR.out HB.out) HC.out (Nat.le_trans HF.out (by decide))).mono ?_
    rintro e W8 ⟨rfl, hb⟩
    rw [ch4_bad HV.out N8.out]
    have HB_ := Aside0.mk (below_step HB.out hb)
    clear hb HB
    have HB := HB_
    clear HB_
    go_wp2
    go_ret
    exact ⟨rfl, HB.out⟩
  · have h0 := HZ.out
    clear h0
    have e6 := IsOp.c6 (IsOp.below HO.out (below_of P5.out))
    by_cases kp : o.f4 = 8
    · have d8 := beq_iff_eq.mpr kp
      clear kp
      go_wp2
      go_ret
      exact ⟨rfl, below_step HB.out (below_of P5.out)⟩
    have d8 : (o.f4 == 8) = false := beq_eq_false_iff_ne.mpr kp
    have N8 := Aside0.mk kp
    clear kp
    go_wp2_with (first | ((with_reducible refine gate_store (t := 4) (p := 60) rfl ?_); refine putG_event (o := o) (A := A) (c := c) H5.out (by rfl) 4 _ _ rfl 16 rfl (.bool true) rfl [.bool true] rfl size4 (by simp [Value.oneCell']) (Nat.le_of_ble_eq_true rfl) (fun _ => ch5 o) A c rfl ?_; intro w9 hi hc; have hb := Ch.below P5.out.2 hc P5.out.2.size (fun i hi => by subst hi; exact Nat.le_of_eq P5.out.1.symm); have HO_ := Aside0.mk (IsOp.below HO.out hb); have HB_ := Aside0.mk (below_step HB.out hb); clear HB HO; have HO := HO_; have HB := HB_; clear HB_ HO_; clear P5 H5; have H5 := Aside0.mk hi; clear hb hi hc) | ((with_reducible refine gate_dst (N := 91) rfl ?_); refine load_event (by rfl) 45 (.tmp 5) rfl g5 rfl 45 (opC (ch5 o) A c) (0, 0) _ H5.out Tryd.underlying45 rfl size45 ?_))
    refine (opsCheck_calls (ch5 o) A c _ (GlobG_below HG.out HB.out) (GlobK_below HK.out HB.out) (Kd.C_below HR.out HB.out) HC.out (Nat.le_trans HF.out (by decide))).mono ?_
    rintro e W8 ⟨rfl, hb⟩
    rw [ch5_bad HV.out N8.out]
    have HB_ := Aside0.mk (below_step HB.out hb)
    clear hb HB
    have HB := HB_
    clear HB_
    go_wp2
    go_ret
    exact ⟨rfl, HB.out⟩
  · have h0 := HZ.out
    clear h0
    have e6 := IsOp.c6 (IsOp.below HO.out (below_of P5.out))
    by_cases kp : o.f4 = 5
    · have d5 := beq_iff_eq.mpr kp
      clear kp
      go_wp2
      go_ret
      exact ⟨rfl, below_step HB.out (below_of P5.out)⟩
    have d5 : (o.f4 == 5) = false := beq_eq_false_iff_ne.mpr kp
    have N5 := Aside0.mk kp
    clear kp
    by_cases kp : o.f4 = 7
    · have d7 := beq_iff_eq.mpr kp
      clear kp
      go_wp2
      go_ret
      exact ⟨rfl, below_step HB.out (below_of P5.out)⟩
    have d7 : (o.f4 == 7) = false := beq_eq_false_iff_ne.mpr kp
    have N7 := Aside0.mk kp
    clear kp
    by_cases kp : o.f4 = 8
    · have d8 := beq_iff_eq.mpr kp
      clear kp
      go_wp2
      go_ret
      exact ⟨rfl, below_step HB.out (below_of P5.out)⟩
    have d8 : (o.f4 == 8) = false := beq_eq_false_iff_ne.mpr kp
    have N8 := Aside0.mk kp
    clear kp
    go_wp2_with (first | ((with_reducible refine gate_store (t := 3) (p := 76) rfl ?_); refine putG_event (o := o) (A := A) (c := c) H5.out (by rfl) 3 _ _ rfl 15 rfl (.int .i64 1) rfl [.int .i64 1] rfl size3 (by simp [Value.oneCell']) (Nat.le_of_ble_eq_true rfl) (fun _ => ch6 o) A c rfl ?_; intro w9 hi hc; have hb := Ch.below P5.out.2 hc P5.out.2.size (fun i hi => by subst hi; exact Nat.le_of_eq P5.out.1.symm); have HO_ := Aside0.mk (IsOp.below HO.out hb); have HB_ := Aside0.mk (below_step HB.out hb); clear HB HO; have HO := HO_; have HB := HB_; clear HB_ HO_; clear P5 H5; have H5 := Aside0.mk hi; clear hb hi hc) | ((with_reducible refine gate_dst (N := 91) rfl ?_); refine load_event (by rfl) 45 (.tmp 5) rfl g5 rfl 45 (opC (ch6 o) A c) (0, 0) _ H5.out Tryd.underlying45 rfl size45 ?_))
    refine (opsCheck_calls (ch6 o) A c _ (GlobG_below HG.out HB.out) (GlobK_below HK.out HB.out) (Kd.C_below HR.out HB.out) HC.out (Nat.le_trans HF.out (by decide))).mono ?_
    rintro e W8 ⟨rfl, hb⟩
    rw [ch6_bad HV.out N5.out N7.out N8.out]
    have HB_ := Aside0.mk (below_step HB.out hb)
    clear hb HB
    have HB := HB_
    clear HB_
    go_wp2
    go_ret
    exact ⟨rfl, HB.out⟩
  · have h0 := HZ.out
    clear h0
    have dt := IsOp.dot (IsOp.below HO.out (below_of P5.out))
    have e0 := IsOp.c0 (IsOp.below HO.out (below_of P5.out))
    have e1 := IsOp.c1 (IsOp.below HO.out (below_of P5.out))
    have e3 := IsOp.c3 (IsOp.below HO.out (below_of P5.out))
    obtain ⟨hv1, hv2⟩ := with_ok HV.out HF.out
    have HW := Aside0.mk hv1
    have HW2 := Aside0.mk hv2
    clear hv1 hv2
    go_wp2_with fail
    refine (vector_With.calls (o.f2.length + 2) A c o.f2 o.f0.f0 o.f0.f1 _ _ _ (GlobG_below HG.out (below_step HB.out (below_of P5.out))) (Kd.C_below HR.out (below_step HB.out (below_of P5.out))) HC.out HW.out).mono ?_
    rintro e W7 ⟨v1, rfl, hR, hb⟩
    have hg5 := blk_lt (show _ = some _ from H5.out)
    have P5_ := Aside0.mk (And.intro P5.out.1 (below_step P5.out.2 hb))
    have H5_ := Aside0.mk (IsOp.below H5.out hb)
    clear P5 H5 hb
    have P5 := P5_
    have H5 := H5_
    clear P5_ H5_
    obtain ⟨A7, c7, rfl⟩ := Kd.R_slice hR
    have H7 := Aside0.mk (Kd.R_mono (ok' := fun k => k ≠ g5) (Kd.R_bound hR) (fun k hk => by have := hk.2.1; omega))
    clear hR hg5
    go_wp2_with (first | ((with_reducible refine gate_store (t := 22) (p := 90) rfl ?_); refine putG_event (o := o) (A := A) (c := c) H5.out (by rfl) 22 _ _ rfl 3 rfl (.slice A7 (ch7 o).f2.length c7) rfl [.slice A7 (ch7 o).f2.length c7] rfl size22 (by simp [Value.oneCell']) (Nat.le_of_ble_eq_true rfl) (fun _ => ch7 o) A7 c7 rfl ?_; intro w9 hi hc; have hb := Ch.below P5.out.2 hc P5.out.2.size (fun i hi => by subst hi; exact Nat.le_of_eq P5.out.1.symm); have HO_ := Aside0.mk (IsOp.below HO.out hb); have HB_ := Aside0.mk (below_step HB.out hb); clear HB HO; have HO := HO_; have HB := HB_; clear HB_ HO_; have H7_ := Aside0.mk (Kd.R_step H7.out (fun k hk hlt => hc.2 k hlt hk)); clear P5 H5 H7; have H7 := H7_; clear H7_; have H5 := Aside0.mk hi; clear hb hi hc) | ((with_reducible refine gate_dst (N := 91) rfl ?_); refine load_event (by rfl) 45 (.tmp 5) rfl g5 rfl 45 (opC (ch7 o) A7 c7) (0, 0) _ H5.out Tryd.underlying45 rfl size45 ?_))
    refine (opsCheck_calls (ch7 o) A7 c7 _ (GlobG_below HG.out HB.out) (GlobK_below HK.out HB.out) (Kd.R_reads' H7.out).2.2 (Kd.R_reads' H7.out).2.1 HW2.out).mono ?_
    rintro e W8 ⟨rfl, hb⟩
    rw [ch7_bad HV.out]
    have HB_ := Aside0.mk (below_step HB.out hb)
    clear hb HB
    have HB := HB_
    clear HB_
    go_wp2
    go_ret
    exact ⟨rfl, HB.out⟩
end Go.Proofs.YtncejmjicjlanaaDoor.Q
