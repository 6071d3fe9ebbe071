/- The walk of the law OpsKnows: it answers true; nothing that was there changes. -/
import Derived.Test.YtncejmjicjlanaaDoorWalkFields
import Derived.Test.YtncejmjicjlanaaDoorFewD
namespace Go.Proofs.YtncejmjicjlanaaDoor.Q
open Go.RowKit Go.Proofs.YtncejmjicjlanaaDoorW.PrintWords Go.Proofs.YtncejmjicjlanaaDoorW.PrintLast Go.Proofs.YtncejmjicjlanaaDoorW.PrintMore
set_option linter.unusedVariables false
set_option linter.unusedSimpArgs false
def kn00 (o : S45) : S45 := { o with f2 := [] }
def kn0 (o : S45) : S45 := { o with f2 := [], f0 := ⟨o.f0.f0, 1⟩ }
def kn1 (o : S45) (l : List S24) : S45 := { o with f2 := mrg mx (prs o.f2 l) }
theorem valid_of {o : S45} (h : opChk o = 0) : Valid o.f2 := (chk2_zero (a := []) (b := o.f2)).1 (by unfold chk2; rw [if_pos (chk2_zero.1 (opChk_zero h).1).1]; exact (opChk_zero h).2.2.2.1) |>.2
theorem chk2_eq {o : S45} {l : List S24} (h : opChk o = 0) : chk l = chk2 o.f2 l := by unfold chk2; rw [if_pos (valid_of h)]
theorem kn1_len {o : S45} {l : List S24} (h : opChk o = 0) (hl : Valid l) (h1 : o.f2.length ≤ 600) (h2 : l.length ≤ 600) : (kn1 o l).f2.length ≤ 100000 := by
  have := mrg_len mx (valid_of h) hl
  simp only [kn1]
  omega
theorem kn0_kn (o : S45) (x : S43) : knP (kn0 o) x = false := by
  cases hk : knP (kn0 o) x with
  | false => rfl
  | true =>
    unfold knP at hk
    have hc : covP (kn0 o).f2 x.f0 x.f1 = false := by
      unfold covP
      split
      · exact decide_eq_false (by show ¬ x.f1 ≤ (0 : Int); omega)
      · rfl
    simp only [hc, Bool.false_eq_true, if_false] at hk
    repeat' split at hk
    all_goals first
      | cases hk; done
      | (have h9 := of_decide_eq_true hk; simp only [kn0] at h9; omega)
theorem rest_f5 {o : S45} (n1 : o.f4 ≠ 1) (n2 : o.f4 ≠ 2) (n6 : o.f4 ≠ 6) (n7 : o.f4 ≠ 7) (n8 : o.f4 ≠ 8) : (restP o).f5 = o.f5 := by
  unfold restP
  simp only [n1, n2, n6, n7, n8, if_false]
  repeat' split
  all_goals rfl
theorem same_z5 {p : S45} (h : sameP p z45 = true) : noId p.f5 = true := by
  simp only [sameP, z45, Bool.and_eq_true, beq_iff_eq] at h
  obtain ⟨_, _, _, _, _, ⟨h1, h2, h3⟩, _⟩ := h
  simp [noId, h1, h2, h3]
theorem kn0_bad {o : S45} (h : opChk o = 0) (hz : noId o.f5 = false) : opChk (kn0 o) = 170 := bad_of fun h2 => by
  obtain ⟨_, _, _, _, _, _, hf, hs⟩ := opChk_zero h2
  have hk : ∀ x, knP (kn0 o) x = false := kn0_kn o
  have hbe : beP (kn0 o) = false := by unfold beP; rw [hk]; rw [if_neg (by show ¬ noId o.f5 = true; rw [hz]; decide)]
  unfold fieldsP at hf
  simp only [show (kn0 o).f4 = o.f4 from rfl] at hf
  by_cases n1 : o.f4 = 1
  · rw [if_pos n1] at hf; simp [f1P, hbe] at hf
  rw [if_neg n1] at hf
  by_cases n2 : o.f4 = 2
  · rw [if_pos n2, hk] at hf; cases hf
  by_cases n6 : o.f4 = 6
  · simp [show (kn0 o).f4 = o.f4 from rfl, n6, f6P, hbe] at hf
  by_cases n7 : o.f4 = 7
  · simp [show (kn0 o).f4 = o.f4 from rfl, n7, f7P, hk] at hf
  by_cases n8 : o.f4 = 8
  · simp [show (kn0 o).f4 = o.f4 from rfl, n8, f8P, hk] at hf
  have h5 := same_z5 hs
  rw [rest_f5 (o := kn0 o) n1 n2 n6 n7 n8] at h5
  rw [show (kn0 o).f5 = o.f5 from rfl, hz] at h5
  cases h5
theorem cov_mono {o : S45} {l : List S24} (h1 : Valid o.f2) (h2 : Valid l) {d s : Int} (h : covP o.f2 d s = true) : covP (kn1 o l).f2 d s = true := by
  unfold covP at h ⊢
  by_cases k : s ≥ 1
  · rw [if_pos k] at h ⊢
    have := of_decide_eq_true h
    refine decide_eq_true ?_
    show s ≤ atN (mrg mx (prs o.f2 l)) d
    rw [join_at h1 h2]
    omega
  · rw [if_neg k] at h; cases h
theorem kn_mono {o : S45} {l : List S24} (h1 : Valid o.f2) (h2 : Valid l) {x : S43} (h : knP o x = true) : knP (kn1 o l) x = true := by
  unfold knP at h ⊢
  by_cases q : covP o.f2 x.f0 x.f1 = true
  · rw [if_pos q] at h
    rw [if_pos (cov_mono h1 h2 q)]
    exact h
  · rw [if_neg q] at h
    by_cases q2 : covP (kn1 o l).f2 x.f0 x.f1 = true
    · rw [if_pos q2]
      repeat' split at h
      all_goals first
        | cases h; done
        | ((repeat' split) <;> first | rfl | omega)
    · rw [if_neg q2]
      exact h
theorem be_mono {o : S45} {l : List S24} (h1 : Valid o.f2) (h2 : Valid l) (h : beP o = true) : beP (kn1 o l) = true := by
  unfold beP at h ⊢
  by_cases q : noId o.f5 = true
  · rw [if_pos (show noId (kn1 o l).f5 = true from q)]
  · rw [if_neg q] at h
    rw [if_neg (show ¬ noId (kn1 o l).f5 = true from q)]
    exact kn_mono h1 h2 h
theorem fields_mono {o : S45} {l : List S24} (h1 : Valid o.f2) (h2 : Valid l) (h : fieldsP o = true) : fieldsP (kn1 o l) = true := by
  have hb := be_mono (l := l) h1 h2
  have hk : ∀ x, knP o x = true → knP (kn1 o l) x = true := fun x hx => kn_mono h1 h2 hx
  unfold fieldsP at h ⊢
  simp only [show (kn1 o l).f4 = o.f4 from rfl]
  by_cases n1 : o.f4 = 1
  · rw [if_pos n1] at h ⊢
    unfold f1P at h ⊢
    by_cases q : beP o = true
    · rw [if_pos (hb q)]; rw [if_pos q] at h; exact h
    · rw [if_neg q] at h; cases h
  rw [if_neg n1] at h ⊢
  by_cases n2 : o.f4 = 2
  · rw [if_pos n2] at h ⊢; exact hk _ h
  rw [if_neg n2] at h ⊢
  by_cases n3 : o.f4 = 3
  · rw [if_pos n3] at h ⊢; exact h
  rw [if_neg n3] at h ⊢
  by_cases n4 : o.f4 = 4
  · rw [if_pos n4] at h ⊢; exact h
  rw [if_neg n4] at h ⊢
  by_cases n5 : o.f4 = 5
  · rw [if_pos n5] at h ⊢; exact h
  rw [if_neg n5] at h ⊢
  by_cases n6 : o.f4 = 6
  · rw [if_pos n6] at h ⊢
    unfold f6P at h ⊢
    by_cases q : beP o = true
    · rw [if_pos (hb q)]; rw [if_pos q] at h; exact h
    · rw [if_neg q] at h; cases h
  rw [if_neg n6] at h ⊢
  by_cases n7 : o.f4 = 7
  · rw [if_pos n7] at h ⊢
    unfold f7P at h ⊢
    by_cases q : knP o o.f5 = true
    · rw [if_pos (show knP (kn1 o l) (kn1 o l).f5 = true from hk _ q)]; rw [if_pos q] at h; exact h
    · rw [if_neg q] at h; cases h
  rw [if_neg n7] at h ⊢
  by_cases n8 : o.f4 = 8
  · rw [if_pos n8] at h ⊢
    unfold f8P at h ⊢
    by_cases q : knP o o.f5 = true
    · rw [if_pos (show knP (kn1 o l) (kn1 o l).f5 = true from hk _ q)]
      rw [if_pos q] at h
      by_cases q2 : knP o o.f6 = true
      · rw [if_pos (show knP (kn1 o l) (kn1 o l).f6 = true from hk _ q2)]; rw [if_pos q2] at h; exact h
      · rw [if_neg q2] at h; cases h
    · rw [if_neg q] at h; cases h
  rw [if_neg n8] at h; cases h
theorem name_le {o : S45} (h : opChk o = 0) : ¬ 64 < (o.f3.f1.size : Int) := by
  obtain ⟨k1, k2, k3, k4, k5, ⟨pf, hk, k6⟩, _⟩ := opChk_zero h
  unfold opChk at h
  rw [if_pos k1, if_neg k2, if_neg k3, if_pos k4, if_neg (by rw [k5]; decide), hk] at h
  dsimp only at h
  rw [if_pos k6] at h
  intro k7
  rw [if_pos k7] at h
  cases h
theorem kn1_law {o : S45} {l : List S24} (h : opChk o = 0) (hl : Valid l) : (covP (kn1 o l).f2 o.f0.f0 o.f0.f1 != (opChk (kn1 o l) == 0)) = true := by
  have hn := name_le h
  have hv := valid_of h
  obtain ⟨k1, k2, k3, k4, k5, ⟨pf, hk, k6⟩, hf, hs⟩ := opChk_zero h
  by_cases q : covP (kn1 o l).f2 o.f0.f0 o.f0.f1 = true
  · have : opChk (kn1 o l) = 170 := bad_of fun h2 => by
      have := (opChk_zero h2).2.2.2.2.1
      rw [show (kn1 o l).f0 = o.f0 from rfl, q] at this
      cases this
    rw [q, this]
    rfl
  · have : opChk (kn1 o l) = 0 := by
      unfold opChk
      have hv2 : chk (kn1 o l).f2 = 0 := if_pos (join_valid hv hl)
      rw [if_pos (show chk2 [] [(kn1 o l).f0] = 0 from k1), if_neg (show ¬ (kn1 o l).f1 < 1 from k2), if_neg (show ¬ 1099511627776 < (kn1 o l).f1 from k3), if_pos hv2, if_neg (show ¬ covP (kn1 o l).f2 (kn1 o l).f0.f0 (kn1 o l).f0.f1 = true from q), show kindAt (kn1 o l).f4 = some pf from hk]
      dsimp only
      rw [if_pos (show (kn1 o l).f3.f0 = pf.1 from k6), if_neg (show ¬ 64 < ((kn1 o l).f3.f1.size : Int) from hn), if_pos (fields_mono hv hl hf), if_pos (show sameP (restP (kn1 o l)) z45 = true from hs)]
    rw [this, show covP (kn1 o l).f2 o.f0.f0 o.f0.f1 = false by simpa using q]
    rfl
set_option maxHeartbeats 8000000 in
set_option maxRecDepth 100000 in
theorem opsKnows_calls (o : S45) (A : Option Addr) (c : Nat) (A2 : Option Addr) (c2 : Nat) (l : List S24) (w : World) (hGG : GlobG w) (hGK : GlobK w) (hr : Kd.C k24 w A o.f2.length o.f2) (hc : o.f2.length ≤ c) (hr2 : Kd.C k24 w A2 l.length l) (hc2 : l.length ≤ c2) :
    Calls Tryd.prog 7 #[.agg (opC o A c), .slice A2 l.length c2] w fun e w' => e = .returned (.bool true) ∧ Below w.heap.size w w' := by
  have hu45 := Tryd.underlying45
  have hu41 := Tryd.underlying41
  have hu43 := Tryd.underlying43
  have hu24 := Tryd.underlying24
  have HR := Aside0.mk hr
  have HC := Aside0.mk hc
  have HR2 := Aside0.mk hr2
  have HC2 := Aside0.mk hc2
  have HG := Aside0.mk hGG
  have HK := Aside0.mk hGK
  clear hr hc hr2 hc2 hGG hGK
  have HB := Aside0.mk (Below.refl w.heap.size w)
  go_enter Tryd.func7, Tryd.ntmps7
  go_wp2_with (first | ((with_reducible refine gate_dst (N := 2) rfl ?_); refine box_event ?hg (N := 2) ?hd (cs := opC o A c) (t := 45) ?hr ?_; (case hd => rfl); (case hg => rfl); (case hr => first | (go_simp; done) | (go_simp; rfl)); intro g hg w1 hbox hb; have n1_ := Aside0.mk (below_step HB.out hb); have n2_ := Aside0.mk (by rw [hg]; exact below_size HB.out : w.heap.size ≤ g); clear HB; have HB := n1_; have Gg := n2_; clear n1_ n2_; have HO := Aside0.mk (show IsOp w1 g o A c from hbox); clear hb hbox hg))
  refine (sane17_calls _ (GlobG_below HG.out HB.out) (GlobK_below HK.out HB.out)).mono ?_
  rintro e W1 ⟨rfl, hb⟩
  have HO_ := Aside0.mk (IsOp.below HO.out hb)
  have HB_ := Aside0.mk (below_step HB.out hb)
  clear HB HO
  have HO := HO_
  have HB := HB_
  clear HB_ HO_
  clear hb
  go_wp2_with (first | ((with_reducible refine gate_dst (N := 11) rfl ?_); refine load_event (by rfl) 45 (.tmp 2) rfl g rfl 45 (opC o A c) (0, 0) _ HO.out Tryd.underlying45 rfl size45 ?_))
  refine (fewO_calls o A c _).mono ?_
  rintro e W2 ⟨rfl, hb⟩
  have HO_ := Aside0.mk (IsOp.below HO.out hb)
  have HB_ := Aside0.mk (below_step HB.out hb)
  clear HB HO
  have HO := HO_
  have HB := HB_
  clear HB_ HO_
  clear hb
  by_cases kf : fewO o = true
  rotate_left
  · rw [show fewO o = false by simpa using kf]
    go_wp2
    go_ret
    exact ⟨rfl, HB.out⟩
  rw [kf]
  have HF := Aside0.mk (fewO_len kf)
  clear kf
  go_wp2_with fail
  refine (fewD_calls A2 c2 l _).mono ?_
  rintro e W3 ⟨rfl, hb⟩
  have HO_ := Aside0.mk (IsOp.below HO.out hb)
  have HB_ := Aside0.mk (below_step HB.out hb)
  clear HB HO
  have HO := HO_
  have HB := HB_
  clear HB_ HO_
  clear hb
  by_cases kl : (l.length : Int) ≤ 600
  rotate_left
  · rw [decide_eq_false kl]
    clear kl
    go_wp2
    go_ret
    exact ⟨rfl, HB.out⟩
  rw [decide_eq_true kl]
  have HL := Aside0.mk (show l.length ≤ 600 by omega)
  clear kl
  go_wp2_with (first | ((with_reducible refine gate_dst (N := 20) rfl ?_); refine load_event (by rfl) 45 (.tmp 2) rfl g rfl 45 (opC o A c) (0, 0) _ HO.out Tryd.underlying45 rfl size45 ?_))
  refine (opsCheck_calls o A c _ (GlobG_below HG.out HB.out) (GlobK_below HK.out HB.out) (Kd.C_below HR.out HB.out) HC.out (Nat.le_trans HF.out (by decide))).mono ?_
  rintro e W4 ⟨rfl, hb⟩
  have HO_ := Aside0.mk (IsOp.below HO.out hb)
  have HB_ := Aside0.mk (below_step HB.out hb)
  clear HB HO
  have HO := HO_
  have HB := HB_
  clear HB_ HO_
  clear hb
  by_cases kc : opChk o = 0
  rotate_left
  · have b1 : (opChk o != 0) = true := bne_iff_ne.mpr kc
    clear kc
    go_wp2
    go_ret
    exact ⟨rfl, HB.out⟩
  rw [kc]
  have HV := Aside0.mk kc
  clear kc
  cases hz : noId o.f5
  · have HZ := Aside0.mk hz
    unfold noId at hz
    have e7 := IsOp.c7 HO.out
    have e8 := IsOp.c8 HO.out
    have e9 := IsOp.c9 HO.out
    have q43 := eqA43
    go_wp2_with (first | ((with_reducible refine gate_dst (N := 28) rfl ?_); refine load_event (by rfl) 45 (.tmp 2) rfl g rfl 45 (opC o A c) (0, 0) _ HO.out Tryd.underlying45 rfl size45 ?_) | ((with_reducible refine gate_dst (N := 5) rfl ?_); refine box_event ?hg (N := 5) ?hd (cs := opC z45 none 0) (t := 45) ?hr ?_; (case hd => rfl); (case hg => rfl); (case hr => first | (go_simp; done) | (go_simp; rfl)); intro g5 hg wa hbox hba; have PA := Aside0.mk (And.intro hg hba); have BA := Aside0.mk hbox; clear hba hbox hg) | ((with_reducible refine gate_store (t := 45) (p := 5) rfl ?_); refine row_event BA.out (by rfl) _ _ rfl rfl (cs' := opC o A c) rfl size45 rfl (by simp [opC, Value.oneCell']) ?_; intro w6 h1 h2 h3; have P5 := Aside0.mk (And.intro PA.out.1 (h3 _ _ (Nat.le_of_eq PA.out.1.symm) PA.out.2)); have H5 := Aside0.mk h1; clear h1 h2 h3 PA BA; refine Aside0.out ?_))
    replace H5 := Aside0.mk (show IsOp _ g5 o A c from H5.out)
    clear e7 e8 e9 hz q43
    refine ⟨?_⟩
    go_wp2_with (first | ((with_reducible refine gate_store (t := 22) (p := 29) rfl ?_); refine putG_event (o := o) (A := A) (c := c) H5.out (by rfl) 22 _ _ rfl 3 rfl (.slice none 0 0) rfl [.slice none 0 0] rfl size22 (by simp [Value.oneCell']) (Nat.le_of_ble_eq_true rfl) (fun _ => kn00 o) none 0 rfl ?_; intro w9 hi hc; have hb := Ch.below P5.out.2 hc P5.out.2.size (fun i hi => by subst hi; exact Nat.le_of_eq P5.out.1.symm); have P5_ := Aside0.mk (And.intro P5.out.1 hb); clear P5 H5; have P5 := P5_; clear P5_; have H5 := Aside0.mk hi; clear hb hi hc) | ((with_reducible refine gate_store (t := 3) (p := 31) rfl ?_); refine putG_event (o := kn00 o) (A := none) (c := 0) H5.out (by rfl) 3 _ _ rfl 1 rfl (.int .i64 1) rfl [.int .i64 1] rfl size3 (by simp [Value.oneCell']) (Nat.le_of_ble_eq_true rfl) (fun _ => kn0 o) none 0 rfl ?_; intro w9 hi hc; have hb := Ch.below P5.out.2 hc P5.out.2.size (fun i hi => by subst hi; exact Nat.le_of_eq P5.out.1.symm); have P5_ := Aside0.mk (And.intro P5.out.1 hb); clear P5 H5; have P5 := P5_; clear P5_; have H5 := Aside0.mk hi; clear hb hi hc) | ((with_reducible refine gate_dst (N := 32) rfl ?_); refine load_event (by rfl) 45 (.tmp 5) rfl g5 rfl 45 (opC (kn0 o) none 0) (0, 0) _ H5.out Tryd.underlying45 rfl size45 ?_))
    replace HO := Aside0.mk (IsOp.below HO.out P5.out.2)
    replace HB := Aside0.mk (below_step HB.out P5.out.2)
    clear P5 H5
    refine (opsCheck_calls (kn0 o) none 0 _ (GlobG_below HG.out HB.out) (GlobK_below HK.out HB.out) (Kd.C_nil _ _) (Nat.le_refl _) (Nat.zero_le _)).mono ?_
    rintro e W80 ⟨rfl, hb⟩
    rw [kn0_bad HV.out HZ.out]
    have HO_ := Aside0.mk (IsOp.below HO.out hb)
    have HB_ := Aside0.mk (below_step HB.out hb)
    clear HB HO
    have HO := HO_
    have HB := HB_
    clear HB_ HO_
    clear hb HZ
    have e3 := IsOp.c3 HO.out
    go_wp2_with fail
    clear e3
    have hj := Join_eq (601 + 601) o.f2 l (Nat.le_trans HF.out (by decide)) (Nat.le_trans HL.out (by decide)) (Nat.lt_of_le_of_lt HF.out (by decide)) (Nat.lt_of_le_of_lt HL.out (by decide))
    by_cases kj : chk2 o.f2 l = 0
    rotate_left
    · rw [if_neg kj] at hj
      refine (vector_Join.calls (601 + 601) A c o.f2 A2 c2 l _ _ _ (GlobG_below HG.out HB.out) (Kd.C_below HR.out HB.out) HC.out (Kd.C_below HR2.out HB.out) HC2.out hj).mono ?_
      rintro e W5 ⟨v1, rfl, _, hb⟩
      have HO_ := Aside0.mk (IsOp.below HO.out hb)
      have HB_ := Aside0.mk (below_step HB.out hb)
      clear HB HO
      have HO := HO_
      have HB := HB_
      clear HB_ HO_
      clear hb
      clear hj
      have b2 : (chk2 o.f2 l != 0) = true := bne_iff_ne.mpr kj
      clear kj
      have HKE := Aside0.mk (chk2_eq (l := l) HV.out)
      go_wp2_with fail
      refine (vector_Check.calls (l.length + 1) A2 c2 l _ _ (Kd.C_below HR2.out HB.out) HC2.out (vCheck_eq _ _ (Nat.le_trans HL.out (by decide)) (by omega))).mono ?_
      rintro e W90 ⟨rfl, hb⟩
      rw [HKE.out]
      have HO_ := Aside0.mk (IsOp.below HO.out hb)
      have HB_ := Aside0.mk (below_step HB.out hb)
      clear HB HO
      have HO := HO_
      have HB := HB_
      clear HB_ HO_
      clear hb b2
      go_wp2
      go_ret
      exact ⟨by simp, HB.out⟩
    rw [if_pos kj] at hj
    refine (vector_Join.calls (601 + 601) A c o.f2 A2 c2 l _ _ _ (GlobG_below HG.out HB.out) (Kd.C_below HR.out HB.out) HC.out (Kd.C_below HR2.out HB.out) HC2.out hj).mono ?_
    rintro e W6 ⟨v1, rfl, hR, hb⟩
    obtain ⟨A7, c7, rfl⟩ := Kd.R_slice hR
    have HO_ := Aside0.mk (IsOp.below HO.out hb)
    have HB_ := Aside0.mk (below_step HB.out hb)
    clear HB HO
    have HO := HO_
    have HB := HB_
    clear HB_ HO_
    clear hb
    clear hj
    have HVL := Aside0.mk (chk2_zero.1 kj).2
    clear kj
    have H7 := Aside0.mk hR
    clear hR
    go_wp2_with (first | ((with_reducible refine gate_dst (N := 48) rfl ?_); refine load_event (by rfl) 45 (.tmp 2) rfl g rfl 45 (opC o A c) (0, 0) _ HO.out Tryd.underlying45 rfl size45 ?_) | ((with_reducible refine gate_dst (N := 8) rfl ?_); refine box_event ?hg (N := 8) ?hd (cs := opC z45 none 0) (t := 45) ?hr ?_; (case hd => rfl); (case hg => rfl); (case hr => first | (go_simp; done) | (go_simp; rfl)); intro g8 hg wa hbox hba; have PA := Aside0.mk (And.intro hg hba); have BA := Aside0.mk hbox; clear hba hbox hg) | ((with_reducible refine gate_store (t := 45) (p := 8) rfl ?_); refine row_event BA.out (by rfl) _ _ rfl rfl (cs' := opC o A c) rfl size45 rfl (by simp [opC, Value.oneCell']) ?_; intro w6 h1 h2 h3; have P8 := Aside0.mk (And.intro PA.out.1 (h3 _ _ (Nat.le_of_eq PA.out.1.symm) PA.out.2)); have H8 := Aside0.mk h1; clear h1 h2 h3 PA BA; refine Aside0.out ?_))
    replace H8 := Aside0.mk (show IsOp _ g8 o A c from H8.out)
    refine ⟨?_⟩
    replace H7 := Aside0.mk (Kd.R_mono (ok' := fun k => k ≠ g8) (Kd.R_bound H7.out) (fun k hk => by have h1 := P8.out.1; have h2 := hk.2.2.1; omega))
    replace H7 := Aside0.mk (Kd.R_below H7.out P8.out.2)
    go_wp2_with (first | ((with_reducible refine gate_store (t := 22) (p := 50) rfl ?_); refine putG_event (o := o) (A := A) (c := c) H8.out (by rfl) 22 _ _ rfl 3 rfl (.slice A7 (kn1 o l).f2.length c7) rfl [.slice A7 (kn1 o l).f2.length c7] rfl size22 (by simp [Value.oneCell']) (Nat.le_of_ble_eq_true rfl) (fun _ => kn1 o l) A7 c7 rfl ?_; intro w9 hi hc; have hb := Ch.below P8.out.2 hc P8.out.2.size (fun i hi => by subst hi; exact Nat.le_of_eq P8.out.1.symm); have P8_ := Aside0.mk (And.intro P8.out.1 hb); clear P8 H8; have P8 := P8_; clear P8_; have H8 := Aside0.mk hi; have H7_ := Aside0.mk (Kd.R_step H7.out (fun k hk hlt => hc.2 k hlt hk)); clear H7; have H7 := H7_; clear H7_; clear hb hi hc))
    replace HO := Aside0.mk (IsOp.below HO.out P8.out.2)
    replace HB := Aside0.mk (below_step HB.out P8.out.2)
    have H7C := Aside0.mk (Kd.R_reads' H7.out).2.2
    have H7L := Aside0.mk (Kd.R_reads' H7.out).2.1
    clear H7 P8
    refine start_ (n := 9) (S := fun w' => w'.cell? ⟨g, 0, none⟩ = some (.int .i64 o.f0.f0) ∧ w'.cell? ⟨g, 1, none⟩ = some (.int .i64 o.f0.f1) ∧ w'.cell? ⟨g8, 0, none⟩ = some (.int .i64 (kn1 o l).f0.f0) ∧ w'.cell? ⟨g8, 1, none⟩ = some (.int .i64 (kn1 o l).f0.f1) ∧ w'.cell? ⟨g8, 2, none⟩ = some (.int .i64 (kn1 o l).f1) ∧ w'.cell? ⟨g8, 3, none⟩ = some (.slice A7 (kn1 o l).f2.length c7) ∧ w'.cell? ⟨g8, 4, none⟩ = some (.int .i64 (kn1 o l).f3.f0) ∧ w'.cell? ⟨g8, 5, none⟩ = some (.string (kn1 o l).f3.f1) ∧ w'.cell? ⟨g8, 6, none⟩ = some (.int .i64 (kn1 o l).f4) ∧ w'.cell? ⟨g8, 7, none⟩ = some (.int .i64 (kn1 o l).f5.f0) ∧ w'.cell? ⟨g8, 8, none⟩ = some (.int .i64 (kn1 o l).f5.f1) ∧ w'.cell? ⟨g8, 9, none⟩ = some (.int .i64 (kn1 o l).f5.f2) ∧ w'.cell? ⟨g8, 10, none⟩ = some (.int .i64 (kn1 o l).f6.f0) ∧ w'.cell? ⟨g8, 11, none⟩ = some (.int .i64 (kn1 o l).f6.f1) ∧ w'.cell? ⟨g8, 12, none⟩ = some (.int .i64 (kn1 o l).f6.f2) ∧ w'.cell? ⟨g8, 13, none⟩ = some (.string (kn1 o l).f7) ∧ w'.cell? ⟨g8, 14, none⟩ = some (.string (kn1 o l).f8) ∧ w'.cell? ⟨g8, 15, none⟩ = some (.int .i64 (kn1 o l).f9) ∧ w'.cell? ⟨g8, 16, none⟩ = some (.bool (kn1 o l).f10)) (ds := []) #[false, false, false, false, false, false, false, false, false] (by kernel_rfl) rfl rfl ⟨(IsOp.c0 HO.out), (IsOp.c1 HO.out), (IsOp.c0 H8.out), (IsOp.c1 H8.out), (IsOp.c2 H8.out), (IsOp.c3 H8.out), (IsOp.c4 H8.out), (IsOp.c5 H8.out), (IsOp.c6 H8.out), (IsOp.c7 H8.out), (IsOp.c8 H8.out), (IsOp.c9 H8.out), (IsOp.c10 H8.out), (IsOp.c11 H8.out), (IsOp.c12 H8.out), (IsOp.c13 H8.out), (IsOp.c14 H8.out), (IsOp.c15 H8.out), (IsOp.c16 H8.out)⟩ (fun hHeld => ?_)
    replace HO := Aside0.mk (show IsOp w9.drew _ _ _ _ from HO.out)
    replace H8 := Aside0.mk (show IsOp w9.drew _ _ _ _ from H8.out)
    replace H7C := Aside0.mk (Kd.C_drew H7C.out)
    replace HB := Aside0.mk (below_drew1 HB.out)
    generalize w9.drew = V0 at *
    refine pure_ (i := 0) (N := some 51) (v := ?_) (a' := ?_) #[true, false, false, false, false, false, false, false, false] rfl rfl (by kernel_rfl) (fun _ _ _ h => h) (Or.inl ⟨by rfl, ?_⟩) ?_ ?_
    rotate_left
    · intro w'
      go_simp
      with_reducible rfl
    rotate_left
    · simp only [Act.put, List.setIfInBounds_toArray, List.set_cons_zero, List.set_cons_succ, i64_w, i32_w]
      rfl
    refine pure_ (i := 1) (N := some 52) (v := ?_) (a' := ?_) #[true, true, false, false, false, false, false, false, false] rfl rfl (by kernel_rfl) (fun _ _ _ h => h) (Or.inl ⟨by rfl, ?_⟩) ?_ ?_
    rotate_left
    · intro w'
      go_simp
      with_reducible rfl
    rotate_left
    · simp only [Act.put, List.setIfInBounds_toArray, List.set_cons_zero, List.set_cons_succ, i64_w, i32_w]
      rfl
    refine take_ (i := 2) (N := some 53) (v := ?_) (a' := ?_) #[true, true, true, false, false, false, false, false, false] rfl rfl (by kernel_rfl) (fun _ _ _ h => h) (Or.inl ⟨by rfl, ?_⟩) hHeld ?_ ?_
    rotate_left
    · rintro w' ⟨s0, s1, s2, s3, s4, s5, s6, s7, s8, s9, s10, s11, s12, s13, s14, s15, s16, s17, s18⟩
      go_simp
      with_reducible rfl
    rotate_left
    · simp only [Act.put, List.setIfInBounds_toArray, List.set_cons_zero, List.set_cons_succ, i64_w, i32_w]
      rfl
    refine take_ (i := 4) (N := some 55) (v := ?_) (a' := ?_) #[true, true, true, false, true, false, false, false, false] rfl rfl (by kernel_rfl) (fun _ _ _ h => h) (Or.inl ⟨by rfl, ?_⟩) hHeld ?_ ?_
    rotate_left
    · rintro w' ⟨s0, s1, s2, s3, s4, s5, s6, s7, s8, s9, s10, s11, s12, s13, s14, s15, s16, s17, s18⟩
      go_simp
      with_reducible rfl
    rotate_left
    · simp only [Act.put, List.setIfInBounds_toArray, List.set_cons_zero, List.set_cons_succ, i64_w, i32_w]
      rfl
    refine one_ (i := 3) (N := some 54) #[true, true, true, true, true, false, false, false, false] rfl rfl (by kernel_rfl) (by decide) (fun K hK => ?_)
    refine goes_ Tryd.func25 (by kernel_rfl) rfl #[.slice A7 (kn1 o l).f2.length c7, dotV o.f0] (by rfl) rfl rfl (by simp only [List.map_toArray, List.map_cons, List.map_nil]; rfl) ?_
    refine (vector_Covers.calls A7 c7 (kn1 o l).f2 o.f0.f0 o.f0.f1 _ _ H7C.out H7L.out (covers_eq _ _ _)).mono ?_
    rintro e V1 ⟨rfl, hb⟩
    have HO_ := Aside0.mk (IsOp.below HO.out hb)
    have H8_ := Aside0.mk (IsOp.below H8.out hb)
    have H7C_ := Aside0.mk (Kd.C_below H7C.out hb)
    have HB_ := Aside0.mk (below_step HB.out hb)
    clear HB HO H8 H7C
    have HO := HO_
    have H8 := H8_
    have H7C := H7C_
    have HB := HB_
    clear HB_ HO_ H8_ H7C_
    clear hb
    refine ⟨_, rfl, ?_⟩
    refine hK.out _ _ ⟨(IsOp.c0 HO.out), (IsOp.c1 HO.out), (IsOp.c0 H8.out), (IsOp.c1 H8.out), (IsOp.c2 H8.out), (IsOp.c3 H8.out), (IsOp.c4 H8.out), (IsOp.c5 H8.out), (IsOp.c6 H8.out), (IsOp.c7 H8.out), (IsOp.c8 H8.out), (IsOp.c9 H8.out), (IsOp.c10 H8.out), (IsOp.c11 H8.out), (IsOp.c12 H8.out), (IsOp.c13 H8.out), (IsOp.c14 H8.out), (IsOp.c15 H8.out), (IsOp.c16 H8.out)⟩ (fun hHeld => ?_)
    clear hK K
    refine norm_ (a' := ?_) ?_ ?_
    rotate_left
    · show Act.put _ (some 54) _ = _
      simp only [Act.put, List.setIfInBounds_toArray, List.set_cons_zero, List.set_cons_succ, i64_w, i32_w]
      rfl
    refine one_ (i := 5) (N := some 56) #[true, true, true, true, true, true, false, false, false] rfl rfl (by kernel_rfl) (by decide) (fun K hK => ?_)
    refine goes_ Tryd.func36 (by kernel_rfl) rfl #[.agg (opC (kn1 o l) A7 c7)] (by rfl) rfl rfl (by simp only [List.map_toArray, List.map_cons, List.map_nil]; rfl) ?_
    refine (opsCheck_calls (kn1 o l) A7 c7 _ (GlobG_below HG.out HB.out) (GlobK_below HK.out HB.out) H7C.out H7L.out (kn1_len HV.out HVL.out HF.out HL.out)).mono ?_
    rintro e V2 ⟨rfl, hb⟩
    have HO_ := Aside0.mk (IsOp.below HO.out hb)
    have H8_ := Aside0.mk (IsOp.below H8.out hb)
    have H7C_ := Aside0.mk (Kd.C_below H7C.out hb)
    have HB_ := Aside0.mk (below_step HB.out hb)
    clear HB HO H8 H7C
    have HO := HO_
    have H8 := H8_
    have H7C := H7C_
    have HB := HB_
    clear HB_ HO_ H8_ H7C_
    clear hb
    refine ⟨_, rfl, ?_⟩
    refine hK.out _ _ ⟨(IsOp.c0 HO.out), (IsOp.c1 HO.out), (IsOp.c0 H8.out), (IsOp.c1 H8.out), (IsOp.c2 H8.out), (IsOp.c3 H8.out), (IsOp.c4 H8.out), (IsOp.c5 H8.out), (IsOp.c6 H8.out), (IsOp.c7 H8.out), (IsOp.c8 H8.out), (IsOp.c9 H8.out), (IsOp.c10 H8.out), (IsOp.c11 H8.out), (IsOp.c12 H8.out), (IsOp.c13 H8.out), (IsOp.c14 H8.out), (IsOp.c15 H8.out), (IsOp.c16 H8.out)⟩ (fun hHeld => ?_)
    clear hK K
    refine norm_ (a' := ?_) ?_ ?_
    rotate_left
    · show Act.put _ (some 56) _ = _
      simp only [Act.put, List.setIfInBounds_toArray, List.set_cons_zero, List.set_cons_succ, i64_w, i32_w]
      rfl
    refine pure_ (i := 6) (N := some 57) (v := ?_) (a' := ?_) #[true, true, true, true, true, true, true, false, false] rfl rfl (by kernel_rfl) (fun _ _ _ h => h) (Or.inl ⟨by rfl, ?_⟩) ?_ ?_
    rotate_left
    · intro w'
      go_simp
      with_reducible rfl
    rotate_left
    · simp only [Act.put, List.setIfInBounds_toArray, List.set_cons_zero, List.set_cons_succ, i64_w, i32_w]
      rfl
    refine pure_ (i := 7) (N := some 58) (v := ?_) (a' := ?_) #[true, true, true, true, true, true, true, true, false] rfl rfl (by kernel_rfl) (fun _ _ _ h => h) (Or.inl ⟨by rfl, ?_⟩) ?_ ?_
    rotate_left
    · intro w'
      go_simp
      with_reducible rfl
    rotate_left
    · simp only [Act.put, List.setIfInBounds_toArray, List.set_cons_zero, List.set_cons_succ, i64_w, i32_w]
      rfl
    refine pure_ (i := 8) (N := some 4) (v := ?_) (a' := ?_) #[true, true, true, true, true, true, true, true, true] rfl rfl (by kernel_rfl) (fun _ _ _ h => h) (Or.inl ⟨by rfl, ?_⟩) ?_ ?_
    rotate_left
    · intro w'
      go_simp
      with_reducible rfl
    rotate_left
    · simp only [Act.put, List.setIfInBounds_toArray, List.set_cons_zero, List.set_cons_succ, i64_w, i32_w]
      rfl
    refine done_ (by kernel_rfl) ?_
    go_wp2
    go_ret
    exact ⟨congrArg (fun b => Ending.returned (Value.bool b)) (kn1_law HV.out HVL.out), HB.out⟩
  · unfold noId at hz
    have e7 := IsOp.c7 HO.out
    have e8 := IsOp.c8 HO.out
    have e9 := IsOp.c9 HO.out
    have q43 := eqA43
    have e3 := IsOp.c3 HO.out
    go_wp2_with fail
    clear e3
    have hj := Join_eq (601 + 601) o.f2 l (Nat.le_trans HF.out (by decide)) (Nat.le_trans HL.out (by decide)) (Nat.lt_of_le_of_lt HF.out (by decide)) (Nat.lt_of_le_of_lt HL.out (by decide))
    by_cases kj : chk2 o.f2 l = 0
    rotate_left
    · rw [if_neg kj] at hj
      refine (vector_Join.calls (601 + 601) A c o.f2 A2 c2 l _ _ _ (GlobG_below HG.out HB.out) (Kd.C_below HR.out HB.out) HC.out (Kd.C_below HR2.out HB.out) HC2.out hj).mono ?_
      rintro e W7 ⟨v1, rfl, _, hb⟩
      have HO_ := Aside0.mk (IsOp.below HO.out hb)
      have HB_ := Aside0.mk (below_step HB.out hb)
      clear HB HO
      have HO := HO_
      have HB := HB_
      clear HB_ HO_
      clear hb
      clear hj
      have b2 : (chk2 o.f2 l != 0) = true := bne_iff_ne.mpr kj
      clear kj
      have HKE := Aside0.mk (chk2_eq (l := l) HV.out)
      go_wp2_with fail
      refine (vector_Check.calls (l.length + 1) A2 c2 l _ _ (Kd.C_below HR2.out HB.out) HC2.out (vCheck_eq _ _ (Nat.le_trans HL.out (by decide)) (by omega))).mono ?_
      rintro e W90 ⟨rfl, hb⟩
      rw [HKE.out]
      have HO_ := Aside0.mk (IsOp.below HO.out hb)
      have HB_ := Aside0.mk (below_step HB.out hb)
      clear HB HO
      have HO := HO_
      have HB := HB_
      clear HB_ HO_
      clear hb b2
      go_wp2
      go_ret
      exact ⟨by simp, HB.out⟩
    rw [if_pos kj] at hj
    refine (vector_Join.calls (601 + 601) A c o.f2 A2 c2 l _ _ _ (GlobG_below HG.out HB.out) (Kd.C_below HR.out HB.out) HC.out (Kd.C_below HR2.out HB.out) HC2.out hj).mono ?_
    rintro e W8 ⟨v1, rfl, hR, hb⟩
    obtain ⟨A7, c7, rfl⟩ := Kd.R_slice hR
    have HO_ := Aside0.mk (IsOp.below HO.out hb)
    have HB_ := Aside0.mk (below_step HB.out hb)
    clear HB HO
    have HO := HO_
    have HB := HB_
    clear HB_ HO_
    clear hb
    clear hj
    have HVL := Aside0.mk (chk2_zero.1 kj).2
    clear kj
    have H7 := Aside0.mk hR
    clear hR
    go_wp2_with (first | ((with_reducible refine gate_dst (N := 48) rfl ?_); refine load_event (by rfl) 45 (.tmp 2) rfl g rfl 45 (opC o A c) (0, 0) _ HO.out Tryd.underlying45 rfl size45 ?_) | ((with_reducible refine gate_dst (N := 8) rfl ?_); refine box_event ?hg (N := 8) ?hd (cs := opC z45 none 0) (t := 45) ?hr ?_; (case hd => rfl); (case hg => rfl); (case hr => first | (go_simp; done) | (go_simp; rfl)); intro g8 hg wa hbox hba; have PA := Aside0.mk (And.intro hg hba); have BA := Aside0.mk hbox; clear hba hbox hg) | ((with_reducible refine gate_store (t := 45) (p := 8) rfl ?_); refine row_event BA.out (by rfl) _ _ rfl rfl (cs' := opC o A c) rfl size45 rfl (by simp [opC, Value.oneCell']) ?_; intro w6 h1 h2 h3; have P8 := Aside0.mk (And.intro PA.out.1 (h3 _ _ (Nat.le_of_eq PA.out.1.symm) PA.out.2)); have H8 := Aside0.mk h1; clear h1 h2 h3 PA BA; refine Aside0.out ?_))
    replace H8 := Aside0.mk (show IsOp _ g8 o A c from H8.out)
    refine ⟨?_⟩
    replace H7 := Aside0.mk (Kd.R_mono (ok' := fun k => k ≠ g8) (Kd.R_bound H7.out) (fun k hk => by have h1 := P8.out.1; have h2 := hk.2.2.1; omega))
    replace H7 := Aside0.mk (Kd.R_below H7.out P8.out.2)
    go_wp2_with (first | ((with_reducible refine gate_store (t := 22) (p := 50) rfl ?_); refine putG_event (o := o) (A := A) (c := c) H8.out (by rfl) 22 _ _ rfl 3 rfl (.slice A7 (kn1 o l).f2.length c7) rfl [.slice A7 (kn1 o l).f2.length c7] rfl size22 (by simp [Value.oneCell']) (Nat.le_of_ble_eq_true rfl) (fun _ => kn1 o l) A7 c7 rfl ?_; intro w9 hi hc; have hb := Ch.below P8.out.2 hc P8.out.2.size (fun i hi => by subst hi; exact Nat.le_of_eq P8.out.1.symm); have P8_ := Aside0.mk (And.intro P8.out.1 hb); clear P8 H8; have P8 := P8_; clear P8_; have H8 := Aside0.mk hi; have H7_ := Aside0.mk (Kd.R_step H7.out (fun k hk hlt => hc.2 k hlt hk)); clear H7; have H7 := H7_; clear H7_; clear hb hi hc))
    replace HO := Aside0.mk (IsOp.below HO.out P8.out.2)
    replace HB := Aside0.mk (below_step HB.out P8.out.2)
    have H7C := Aside0.mk (Kd.R_reads' H7.out).2.2
    have H7L := Aside0.mk (Kd.R_reads' H7.out).2.1
    clear H7 P8
    refine start_ (n := 9) (S := fun w' => w'.cell? ⟨g, 0, none⟩ = some (.int .i64 o.f0.f0) ∧ w'.cell? ⟨g, 1, none⟩ = some (.int .i64 o.f0.f1) ∧ w'.cell? ⟨g8, 0, none⟩ = some (.int .i64 (kn1 o l).f0.f0) ∧ w'.cell? ⟨g8, 1, none⟩ = some (.int .i64 (kn1 o l).f0.f1) ∧ w'.cell? ⟨g8, 2, none⟩ = some (.int .i64 (kn1 o l).f1) ∧ w'.cell? ⟨g8, 3, none⟩ = some (.slice A7 (kn1 o l).f2.length c7) ∧ w'.cell? ⟨g8, 4, none⟩ = some (.int .i64 (kn1 o l).f3.f0) ∧ w'.cell? ⟨g8, 5, none⟩ = some (.string (kn1 o l).f3.f1) ∧ w'.cell? ⟨g8, 6, none⟩ = some (.int .i64 (kn1 o l).f4) ∧ w'.cell? ⟨g8, 7, none⟩ = some (.int .i64 (kn1 o l).f5.f0) ∧ w'.cell? ⟨g8, 8, none⟩ = some (.int .i64 (kn1 o l).f5.f1) ∧ w'.cell? ⟨g8, 9, none⟩ = some (.int .i64 (kn1 o l).f5.f2) ∧ w'.cell? ⟨g8, 10, none⟩ = some (.int .i64 (kn1 o l).f6.f0) ∧ w'.cell? ⟨g8, 11, none⟩ = some (.int .i64 (kn1 o l).f6.f1) ∧ w'.cell? ⟨g8, 12, none⟩ = some (.int .i64 (kn1 o l).f6.f2) ∧ w'.cell? ⟨g8, 13, none⟩ = some (.string (kn1 o l).f7) ∧ w'.cell? ⟨g8, 14, none⟩ = some (.string (kn1 o l).f8) ∧ w'.cell? ⟨g8, 15, none⟩ = some (.int .i64 (kn1 o l).f9) ∧ w'.cell? ⟨g8, 16, none⟩ = some (.bool (kn1 o l).f10)) (ds := []) #[false, false, false, false, false, false, false, false, false] (by kernel_rfl) rfl rfl ⟨(IsOp.c0 HO.out), (IsOp.c1 HO.out), (IsOp.c0 H8.out), (IsOp.c1 H8.out), (IsOp.c2 H8.out), (IsOp.c3 H8.out), (IsOp.c4 H8.out), (IsOp.c5 H8.out), (IsOp.c6 H8.out), (IsOp.c7 H8.out), (IsOp.c8 H8.out), (IsOp.c9 H8.out), (IsOp.c10 H8.out), (IsOp.c11 H8.out), (IsOp.c12 H8.out), (IsOp.c13 H8.out), (IsOp.c14 H8.out), (IsOp.c15 H8.out), (IsOp.c16 H8.out)⟩ (fun hHeld => ?_)
    replace HO := Aside0.mk (show IsOp w9.drew _ _ _ _ from HO.out)
    replace H8 := Aside0.mk (show IsOp w9.drew _ _ _ _ from H8.out)
    replace H7C := Aside0.mk (Kd.C_drew H7C.out)
    replace HB := Aside0.mk (below_drew1 HB.out)
    generalize w9.drew = V0 at *
    refine pure_ (i := 0) (N := some 51) (v := ?_) (a' := ?_) #[true, false, false, false, false, false, false, false, false] rfl rfl (by kernel_rfl) (fun _ _ _ h => h) (Or.inl ⟨by rfl, ?_⟩) ?_ ?_
    rotate_left
    · intro w'
      go_simp
      with_reducible rfl
    rotate_left
    · simp only [Act.put, List.setIfInBounds_toArray, List.set_cons_zero, List.set_cons_succ, i64_w, i32_w]
      rfl
    refine pure_ (i := 1) (N := some 52) (v := ?_) (a' := ?_) #[true, true, false, false, false, false, false, false, false] rfl rfl (by kernel_rfl) (fun _ _ _ h => h) (Or.inl ⟨by rfl, ?_⟩) ?_ ?_
    rotate_left
    · intro w'
      go_simp
      with_reducible rfl
    rotate_left
    · simp only [Act.put, List.setIfInBounds_toArray, List.set_cons_zero, List.set_cons_succ, i64_w, i32_w]
      rfl
    refine take_ (i := 2) (N := some 53) (v := ?_) (a' := ?_) #[true, true, true, false, false, false, false, false, false] rfl rfl (by kernel_rfl) (fun _ _ _ h => h) (Or.inl ⟨by rfl, ?_⟩) hHeld ?_ ?_
    rotate_left
    · rintro w' ⟨s0, s1, s2, s3, s4, s5, s6, s7, s8, s9, s10, s11, s12, s13, s14, s15, s16, s17, s18⟩
      go_simp
      with_reducible rfl
    rotate_left
    · simp only [Act.put, List.setIfInBounds_toArray, List.set_cons_zero, List.set_cons_succ, i64_w, i32_w]
      rfl
    refine take_ (i := 4) (N := some 55) (v := ?_) (a' := ?_) #[true, true, true, false, true, false, false, false, false] rfl rfl (by kernel_rfl) (fun _ _ _ h => h) (Or.inl ⟨by rfl, ?_⟩) hHeld ?_ ?_
    rotate_left
    · rintro w' ⟨s0, s1, s2, s3, s4, s5, s6, s7, s8, s9, s10, s11, s12, s13, s14, s15, s16, s17, s18⟩
      go_simp
      with_reducible rfl
    rotate_left
    · simp only [Act.put, List.setIfInBounds_toArray, List.set_cons_zero, List.set_cons_succ, i64_w, i32_w]
      rfl
    refine one_ (i := 3) (N := some 54) #[true, true, true, true, true, false, false, false, false] rfl rfl (by kernel_rfl) (by decide) (fun K hK => ?_)
    refine goes_ Tryd.func25 (by kernel_rfl) rfl #[.slice A7 (kn1 o l).f2.length c7, dotV o.f0] (by rfl) rfl rfl (by simp only [List.map_toArray, List.map_cons, List.map_nil]; rfl) ?_
    refine (vector_Covers.calls A7 c7 (kn1 o l).f2 o.f0.f0 o.f0.f1 _ _ H7C.out H7L.out (covers_eq _ _ _)).mono ?_
    rintro e V1 ⟨rfl, hb⟩
    have HO_ := Aside0.mk (IsOp.below HO.out hb)
    have H8_ := Aside0.mk (IsOp.below H8.out hb)
    have H7C_ := Aside0.mk (Kd.C_below H7C.out hb)
    have HB_ := Aside0.mk (below_step HB.out hb)
    clear HB HO H8 H7C
    have HO := HO_
    have H8 := H8_
    have H7C := H7C_
    have HB := HB_
    clear HB_ HO_ H8_ H7C_
    clear hb
    refine ⟨_, rfl, ?_⟩
    refine hK.out _ _ ⟨(IsOp.c0 HO.out), (IsOp.c1 HO.out), (IsOp.c0 H8.out), (IsOp.c1 H8.out), (IsOp.c2 H8.out), (IsOp.c3 H8.out), (IsOp.c4 H8.out), (IsOp.c5 H8.out), (IsOp.c6 H8.out), (IsOp.c7 H8.out), (IsOp.c8 H8.out), (IsOp.c9 H8.out), (IsOp.c10 H8.out), (IsOp.c11 H8.out), (IsOp.c12 H8.out), (IsOp.c13 H8.out), (IsOp.c14 H8.out), (IsOp.c15 H8.out), (IsOp.c16 H8.out)⟩ (fun hHeld => ?_)
    clear hK K
    refine norm_ (a' := ?_) ?_ ?_
    rotate_left
    · show Act.put _ (some 54) _ = _
      simp only [Act.put, List.setIfInBounds_toArray, List.set_cons_zero, List.set_cons_succ, i64_w, i32_w]
      rfl
    refine one_ (i := 5) (N := some 56) #[true, true, true, true, true, true, false, false, false] rfl rfl (by kernel_rfl) (by decide) (fun K hK => ?_)
    refine goes_ Tryd.func36 (by kernel_rfl) rfl #[.agg (opC (kn1 o l) A7 c7)] (by rfl) rfl rfl (by simp only [List.map_toArray, List.map_cons, List.map_nil]; rfl) ?_
    refine (opsCheck_calls (kn1 o l) A7 c7 _ (GlobG_below HG.out HB.out) (GlobK_below HK.out HB.out) H7C.out H7L.out (kn1_len HV.out HVL.out HF.out HL.out)).mono ?_
    rintro e V2 ⟨rfl, hb⟩
    have HO_ := Aside0.mk (IsOp.below HO.out hb)
    have H8_ := Aside0.mk (IsOp.below H8.out hb)
    have H7C_ := Aside0.mk (Kd.C_below H7C.out hb)
    have HB_ := Aside0.mk (below_step HB.out hb)
    clear HB HO H8 H7C
    have HO := HO_
    have H8 := H8_
    have H7C := H7C_
    have HB := HB_
    clear HB_ HO_ H8_ H7C_
    clear hb
    refine ⟨_, rfl, ?_⟩
    refine hK.out _ _ ⟨(IsOp.c0 HO.out), (IsOp.c1 HO.out), (IsOp.c0 H8.out), (IsOp.c1 H8.out), (IsOp.c2 H8.out), (IsOp.c3 H8.out), (IsOp.c4 H8.out), (IsOp.c5 H8.out), (IsOp.c6 H8.out), (IsOp.c7 H8.out), (IsOp.c8 H8.out), (IsOp.c9 H8.out), (IsOp.c10 H8.out), (IsOp.c11 H8.out), (IsOp.c12 H8.out), (IsOp.c13 H8.out), (IsOp.c14 H8.out), (IsOp.c15 H8.out), (IsOp.c16 H8.out)⟩ (fun hHeld => ?_)
    clear hK K
    refine norm_ (a' := ?_) ?_ ?_
    rotate_left
    · show Act.put _ (some 56) _ = _
      simp only [Act.put, List.setIfInBounds_toArray, List.set_cons_zero, List.set_cons_succ, i64_w, i32_w]
      rfl
    refine pure_ (i := 6) (N := some 57) (v := ?_) (a' := ?_) #[true, true, true, true, true, true, true, false, false] rfl rfl (by kernel_rfl) (fun _ _ _ h => h) (Or.inl ⟨by rfl, ?_⟩) ?_ ?_
    rotate_left
    · intro w'
      go_simp
      with_reducible rfl
    rotate_left
    · simp only [Act.put, List.setIfInBounds_toArray, List.set_cons_zero, List.set_cons_succ, i64_w, i32_w]
      rfl
    refine pure_ (i := 7) (N := some 58) (v := ?_) (a' := ?_) #[true, true, true, true, true, true, true, true, false] rfl rfl (by kernel_rfl) (fun _ _ _ h => h) (Or.inl ⟨by rfl, ?_⟩) ?_ ?_
    rotate_left
    · intro w'
      go_simp
      with_reducible rfl
    rotate_left
    · simp only [Act.put, List.setIfInBounds_toArray, List.set_cons_zero, List.set_cons_succ, i64_w, i32_w]
      rfl
    refine pure_ (i := 8) (N := some 4) (v := ?_) (a' := ?_) #[true, true, true, true, true, true, true, true, true] rfl rfl (by kernel_rfl) (fun _ _ _ h => h) (Or.inl ⟨by rfl, ?_⟩) ?_ ?_
    rotate_left
    · intro w'
      go_simp
      with_reducible rfl
    rotate_left
    · simp only [Act.put, List.setIfInBounds_toArray, List.set_cons_zero, List.set_cons_succ, i64_w, i32_w]
      rfl
    refine done_ (by kernel_rfl) ?_
    go_wp2
    go_ret
    exact ⟨congrArg (fun b => Ending.returned (Value.bool b)) (kn1_law HV.out HVL.out), HB.out⟩
end Go.Proofs.YtncejmjicjlanaaDoor.Q
