/- Rows of values in memory; the values of an operation; one round of the loop of ops.Encode. -/
import Derived.Test.YtncejmjicjlanaaDoorOps4
import Derived.Test.YtncejmjicjlanaaDoorHandOpsId
import Derived.Test.YtncejmjicjlanaaDoorOpsV
namespace Go.Proofs.YtncejmjicjlanaaDoor.Q
open Go.RowKit Go.Proofs.YtncejmjicjlanaaDoorW.PrintWords Go.Proofs.YtncejmjicjlanaaDoorW.PrintLast Go.Proofs.YtncejmjicjlanaaDoorW.PrintMore
set_option linter.unusedVariables false
set_option linter.unusedSimpArgs false
theorem opsNumE (n m : Int) (h : n = m) (w : World) : Calls Tryd.prog 70 #[.int .i64 n] w fun e w' => e = .returned (.agg #[.int .i64 1, .int .i64 m, .string ⟨#[]⟩, .slice none 0 0]) ∧ Below w.heap.size w w' := by
  subst h
  exact opsNum n w
theorem num_M (W : World) (base : Nat) (ok : Nat → Prop) (n : Int) : k63.M W base ok (nV n) [.int .i64 1, .int .i64 n, .string ⟨#[]⟩, .slice none 0 0] := k63_mkM W base ok (nV n) (Kd.R_nil _ _ _ _ _)
/-- Two numbers in a new row, as a row of the call's own. -/
theorem nums2_R {W : World} {B base : Nat} {x y : Int} {ok : Nat → Prop} (h : W.heap[B]? = some (.cells #[.int .i64 1, .int .i64 x, .string ⟨#[]⟩, .slice none 0 0, .int .i64 1, .int .i64 y, .string ⟨#[]⟩, .slice none 0 0] 63 (0, 0))) (hb : base ≤ B) (hok : ok B) : Kd.R k63 63 W base ok (.slice (some ⟨B, 0, none⟩) 2 2) [nV x, nV y] :=
  ⟨fun k hk => by simp [Value.ownBlock] at hk; exact hk ▸ hok, _, ⟨rfl, .inr ⟨B, 2, _, rfl, hb, h, by simp, by decide, rfl, rfl⟩⟩, Reps.c4 (num_M _ _ _ _) (Reps.c4 (num_M _ _ _ _) (Reps.none _ _))⟩
/-- The state of the loop: the operation's block, the context's block with what was appended. -/
structure Ec (w W : World) (g b : Nat) (o : S45) (A : Option Addr) (c : Nat) (u : Value) (vs : List S63) : Prop where
  hb : Below w.heap.size w W
  lg : w.heap.size ≤ g
  lb : w.heap.size ≤ b
  ne : g ≠ b
  io : IsOp W g o A c
  ib : W.heap[b]? = some (.cells #[.int .i64 3, .int .i64 0, .string ⟨#[]⟩, u] 63 (0, 0))
  hu : Kd.R k63 63 W w.heap.size (fun k => k ≠ g ∧ k ≠ b) u vs
theorem Ec.below {w W W1 : World} {g b c : Nat} {o : S45} {A : Option Addr} {u : Value} {vs : List S63} (h : Ec w W g b o A c u vs) (hb : Below W.heap.size W W1) : Ec w W1 g b o A c u vs :=
  ⟨below_step h.hb hb, h.lg, h.lb, h.ne, h.io.below hb, blk_below h.ib hb, Kd.R_below h.hu hb⟩
theorem Ec.drew {w W : World} {g b c : Nat} {o : S45} {A : Option Addr} {u : Value} {vs : List S63} (h : Ec w W g b o A c u vs) : Ec w W.drew g b o A c u vs := ⟨below_drew1 h.hb, h.lg, h.lb, h.ne, blk_drew h.io, blk_drew h.ib, Kd.R_drew h.hu⟩
theorem Ec.c3 {w W : World} {g b c : Nat} {o : S45} {A : Option Addr} {u : Value} {vs : List S63} (h : Ec w W g b o A c u vs) : W.cell? ⟨b, 3, none⟩ = some u := (blk_cell h.ib 3).trans rfl
theorem Ec.put {w W : World} {g b c : Nat} {o : S45} {A : Option Addr} {u u1 : Value} {vs vs1 : List S63} (h : Ec w W g b o A c u vs) (hu : Kd.R k63 63 W w.heap.size (fun k => k ≠ g ∧ k ≠ b) u1 vs1) : Ec w (W.setCell ⟨b, 3, none⟩ u1) g b o A c u1 vs1 :=
  ⟨below_set h.hb h.lb, h.lg, h.lb, h.ne, blk_far h.io h.ne u1, blk_put h.ib 3 u1 rfl, Kd.R_far hu (fun _ hk => hk.2) u1⟩
theorem Ec.grown {w W W1 : World} {g b c : Nat} {o : S45} {A : Option Addr} {u : Value} {vs : List S63} (h : Ec w W g b o A c u vs) (hb : Below w.heap.size W W1) (hg : W.grownBy W1 u.ownBlock) : IsOp W1 g o A c ∧ W1.heap[b]? = some (.cells #[.int .i64 3, .int .i64 0, .string ⟨#[]⟩, u] 63 (0, 0)) ∧ Below w.heap.size w W1 :=
  ⟨(hg.block _ (blk_lt h.io) (fun e => (h.hu.1 g e.symm).1 rfl)).trans h.io, (hg.block _ (blk_lt h.ib) (fun e => (h.hu.1 b e.symm).2 rfl)).trans h.ib, h.hb.trans hb⟩

theorem size63 : (Tryd.prog.info? 63).map (·.size) = some 4 := by kernel_rfl
theorem size24' : (Tryd.prog.info? 24).map (·.size) = some 2 := size24
set_option maxHeartbeats 8000000 in
set_option maxRecDepth 100000 in
theorem opsEncode_calls (o : S45) (A : Option Addr) (c : Nat) (w : World) (hGG : GlobG w) (hGK : GlobK w) (hr : Kd.C k24 w A o.f2.length o.f2) (hc : o.f2.length ≤ c) (hl : o.f2.length ≤ 100000) (hsz : o.f3.f1.size + o.f7.size + o.f8.size ≤ 1000000) :
    Calls Tryd.prog 43 #[.agg (opC o A c)] w fun e w' => ∃ v, e = .returned (.tuple #[v, .int .i64 (opChk o)]) ∧ Kd.R (Kd.int .u8) 5 w' w.heap.size (fun _ => True) v (if opChk o = 0 then encP (opV o) else []) ∧ Below w.heap.size w w' := by
  have hu45 := Tryd.underlying45
  have hu63 := Tryd.underlying63
  have hu41 := Tryd.underlying41
  have hu24 := Tryd.underlying24
  have hu22 := Tryd.underlying22
  have HR := Aside0.mk hr
  have HC := Aside0.mk hc
  have HG := Aside0.mk hGG
  have HK := Aside0.mk hGK
  have HL := Aside0.mk hl
  have HSZ := Aside0.mk hsz
  clear hr hc hGG hGK hl hsz
  have HB := Aside0.mk (Below.refl w.heap.size w)
  generalize hE : (if opChk o = 0 then encP (opV o) else []) = E
  have HEQ := Aside0.mk hE
  clear hE
  go_enter Tryd.func43, Tryd.ntmps43
  go_wp2_with (first | ((with_reducible refine gate_dst (N := 1) rfl ?_); refine box_event ?hg (N := 1) ?hd (cs := opC o A c) (t := 45) ?hr ?_; (case hd => rfl); (case hg => rfl); (case hr => first | (go_simp; done) | (go_simp; rfl)); intro g hg w1 hbox hb; have n1_ := Aside0.mk (below_step HB.out hb); have n2_ := Aside0.mk (by rw [hg]; exact below_size HB.out : w.heap.size ≤ g); clear HB; have HB := n1_; have Gg := n2_; clear n1_ n2_; have HO := Aside0.mk (show IsOp w1 g o A c from hbox); clear hb hbox hg) | ((with_reducible refine gate_dst (N := 9) rfl ?_); refine load_event (by rfl) 45 (.tmp 1) rfl g rfl 45 (opC o A c) (0, 0) _ HO.out Tryd.underlying45 rfl size45 ?_))
  refine (opsCheck_calls o A c _ (GlobG_below HG.out HB.out) (GlobK_below HK.out HB.out) (Kd.C_below HR.out HB.out) HC.out HL.out).mono ?_
  rintro e W1 ⟨rfl, hb⟩
  have HO_ := Aside0.mk (IsOp.below HO.out hb)
  have HB_ := Aside0.mk (below_step HB.out hb)
  clear HO HB
  have HO := HO_
  have HB := HB_
  clear HO_ HB_ hb
  clear HG HK
  by_cases k1 : opChk o = 0
  rotate_left
  · have b1 : (opChk o != 0) = true := bne_iff_ne.mpr k1
    go_wp2
    refine bodyPost_ret (v := .tuple #[.slice none 0 0, .int .i64 (opChk o)]) (by simp [results, Tryd.results43, go_sem]) rfl ⟨_, rfl, ?_, HB.out⟩
    rw [← HEQ.out, if_neg k1]
    exact Kd.R_nil _ _ _ _ _
  rw [k1]
  have HK1 := Aside0.mk k1
  clear k1
  go_wp2_with fail
  refine (opsList none 0 0 _).mono ?_
  rintro e W2 ⟨rfl, hb⟩
  have HO_ := Aside0.mk (IsOp.below HO.out hb)
  have HB_ := Aside0.mk (below_step HB.out hb)
  clear HO HB
  have HO := HO_
  have HB := HB_
  clear HO_ HB_ hb
  go_wp2_with (first | ((with_reducible refine gate_dst (N := 5) rfl ?_); refine box_event ?hg (N := 5) ?hd (cs := #[.int .i64 0, .int .i64 0, .string ⟨#[]⟩, .slice none 0 0]) (t := 63) ?hr ?_; (case hd => rfl); (case hg => rfl); (case hr => first | (go_simp; done) | (go_simp; rfl)); intro b hg w5 hbox hb; have n0_ := Aside0.mk (show g ≠ b by have := blk_lt HO.out; omega); have n1_ := Aside0.mk (below_step HB.out hb); have n2_ := Aside0.mk (by rw [hg]; exact below_size HB.out : w.heap.size ≤ b); have n3_ := Aside0.mk (IsOp.below HO.out hb); clear HB HO; have HB := n1_; have Gb := n2_; have HO := n3_; have Ngb := n0_; clear n0_ n1_ n2_ n3_; have B5 := Aside0.mk hbox; clear hb hbox hg) | ((with_reducible refine gate_store (t := 63) (p := 5) rfl ?_); refine row_event B5.out (by rfl) _ _ rfl rfl (cs' := #[.int .i64 3, .int .i64 0, .string ⟨#[]⟩, .slice none 0 0]) rfl size63 rfl (by simp [Value.oneCell']) ?_; intro w6 h1 h2 h3; have HE := Aside0.mk (show Ec w w6 g b o A c (.slice none 0 0) [] from ⟨h3 _ _ Gb.out HB.out, Gg.out, Gb.out, Ngb.out, (h2 _ Ngb.out).trans HO.out, h1, Kd.R_nil _ _ _ _ _⟩); have e3 := IsOp.c3 HE.out.io; clear HB HO B5 Gb Gg Ngb h1 h2 h3))
  clear e3
  go_loopg [18] o.f2.length (fun kq v18 wr => ∃ (i : Nat) (vs : List S63) (u : Value), v18 = .int .i64 (i : Int) ∧ Aside0 (i + kq = o.f2.length) ∧ Aside0 (vs = dotsV (o.f2.take i)) ∧ Aside0 (Ec w wr g b o A c u vs))
  case atStart => exact ⟨0, [], _, rfl, ⟨by omega⟩, ⟨rfl⟩, HE⟩
  case round =>
    clear HE
    obtain ⟨i, vs, u, rfl, HIK, HV, HE⟩ := hrel
    cases gk with
    | zero =>
      have hlt : decide (i < o.f2.length) = false := by have := HIK.out; simp; omega
      obtain ⟨Ac, cc, rfl⟩ := Kd.R_slice HE.out.hu
      obtain rfl : vs = dotsV o.f2 := by rw [HV.out, List.take_of_length_le (by have := HIK.out; omega)]
      have HE_ := HE.out
      rw [dotsV_len] at HE_
      have HE0 := Aside0.mk HE_
      have HCC := Aside0.mk (Kd.R_reads' HE_.hu).2.1
      clear HE HE_ HV HIK
      obtain ⟨kk, hkk⟩ := enc_ok o HL.out HSZ.out
      have HEN := Aside0.mk hkk
      clear hkk
      have e16 := IsOp.c16 HE0.out.io
      have HON : Aside0 ((if o.f10 then (1 : Int) else 0) = onI o) := ⟨rfl⟩
      cases hon : o.f10
      all_goals
        rw [hon] at e16 HON
        have hOn := HON.out
        simp only [Bool.false_eq_true, if_false, if_true] at hOn
        have HO2 := Aside0.mk hOn
        clear HON hOn
        go_wp2_with fail
        clear e16 hlt
        refine start_ (n := 49) (S := fun w' => w'.cell? ⟨g, 0, none⟩ = some (.int .i64 o.f0.f0) ∧ w'.cell? ⟨g, 1, none⟩ = some (.int .i64 o.f0.f1) ∧ w'.cell? ⟨g, 2, none⟩ = some (.int .i64 o.f1) ∧ w'.cell? ⟨g, 4, none⟩ = some (.int .i64 o.f3.f0) ∧ w'.cell? ⟨g, 5, none⟩ = some (.string o.f3.f1) ∧ w'.cell? ⟨g, 6, none⟩ = some (.int .i64 o.f4) ∧ w'.cell? ⟨g, 7, none⟩ = some (.int .i64 o.f5.f0) ∧ w'.cell? ⟨g, 8, none⟩ = some (.int .i64 o.f5.f1) ∧ w'.cell? ⟨g, 9, none⟩ = some (.int .i64 o.f5.f2) ∧ w'.cell? ⟨g, 10, none⟩ = some (.int .i64 o.f6.f0) ∧ w'.cell? ⟨g, 11, none⟩ = some (.int .i64 o.f6.f1) ∧ w'.cell? ⟨g, 12, none⟩ = some (.int .i64 o.f6.f2) ∧ w'.cell? ⟨g, 13, none⟩ = some (.string o.f7) ∧ w'.cell? ⟨g, 14, none⟩ = some (.string o.f8) ∧ w'.cell? ⟨g, 15, none⟩ = some (.int .i64 o.f9) ∧ w'.cell? ⟨b, 0, none⟩ = some (.int .i64 3) ∧ w'.cell? ⟨b, 1, none⟩ = some (.int .i64 0) ∧ w'.cell? ⟨b, 2, none⟩ = some (.string ⟨#[]⟩) ∧ w'.cell? ⟨b, 3, none⟩ = some (.slice Ac o.f2.length cc)) (ds := []) #[false, false, false, false, false, false, false, false, false, false, false, false, false, false, false, false, false, false, false, false, false, false, false, false, false, false, false, false, false, false, false, false, false, false, false, false, false, false, false, false, false, false, false, false, false, false, false, false, false] (by kernel_rfl) rfl rfl ⟨(IsOp.c0 HE0.out.io), (IsOp.c1 HE0.out.io), (IsOp.c2 HE0.out.io), (IsOp.c4 HE0.out.io), (IsOp.c5 HE0.out.io), (IsOp.c6 HE0.out.io), (IsOp.c7 HE0.out.io), (IsOp.c8 HE0.out.io), (IsOp.c9 HE0.out.io), (IsOp.c10 HE0.out.io), (IsOp.c11 HE0.out.io), (IsOp.c12 HE0.out.io), (IsOp.c13 HE0.out.io), (IsOp.c14 HE0.out.io), (IsOp.c15 HE0.out.io), ((blk_cell HE0.out.ib 0).trans rfl), ((blk_cell HE0.out.ib 1).trans rfl), ((blk_cell HE0.out.ib 2).trans rfl), ((blk_cell HE0.out.ib 3).trans rfl)⟩ (fun hHeld => ?_)
        replace HE0 := Aside0.mk HE0.out.drew
        generalize wr.drew = V0 at *
        refine pure_ (i := 0) (N := some 38) (v := ?_) (a' := ?_) #[true, false, false, false, false, false, false, false, false, false, false, false, false, false, false, false, false, false, false, false, false, false, false, false, false, false, false, false, false, false, false, false, false, false, false, false, false, false, false, false, false, false, false, false, false, false, false, false, false] rfl rfl (by kernel_rfl) (fun _ _ _ h => h) (Or.inl ⟨by rfl, ?_⟩) ?_ ?_
        rotate_left
        · intro w'
          go_simp
          with_reducible rfl
        rotate_left
        · simp only [Act.put, List.setIfInBounds_toArray, List.set_cons_zero, List.set_cons_succ, i64_w, i32_w]
          rfl
        refine pure_ (i := 1) (N := some 39) (v := ?_) (a' := ?_) #[true, true, false, false, false, false, false, false, false, false, false, false, false, false, false, false, false, false, false, false, false, false, false, false, false, false, false, false, false, false, false, false, false, false, false, false, false, false, false, false, false, false, false, false, false, false, false, false, false] rfl rfl (by kernel_rfl) (fun _ _ _ h => h) (Or.inl ⟨by rfl, ?_⟩) ?_ ?_
        rotate_left
        · intro w'
          go_simp
          with_reducible rfl
        rotate_left
        · simp only [Act.put, List.setIfInBounds_toArray, List.set_cons_zero, List.set_cons_succ, i64_w, i32_w]
          rfl
        refine pure_ (i := 4) (N := some 42) (v := ?_) (a' := ?_) #[true, true, false, false, true, false, false, false, false, false, false, false, false, false, false, false, false, false, false, false, false, false, false, false, false, false, false, false, false, false, false, false, false, false, false, false, false, false, false, false, false, false, false, false, false, false, false, false, false] rfl rfl (by kernel_rfl) (fun _ _ _ h => h) (Or.inl ⟨by rfl, ?_⟩) ?_ ?_
        rotate_left
        · intro w'
          go_simp
          with_reducible rfl
        rotate_left
        · simp only [Act.put, List.setIfInBounds_toArray, List.set_cons_zero, List.set_cons_succ, i64_w, i32_w]
          rfl
        refine pure_ (i := 5) (N := some 43) (v := ?_) (a' := ?_) #[true, true, false, false, true, true, false, false, false, false, false, false, false, false, false, false, false, false, false, false, false, false, false, false, false, false, false, false, false, false, false, false, false, false, false, false, false, false, false, false, false, false, false, false, false, false, false, false, false] rfl rfl (by kernel_rfl) (fun _ _ _ h => h) (Or.inl ⟨by rfl, ?_⟩) ?_ ?_
        rotate_left
        · intro w'
          go_simp
          with_reducible rfl
        rotate_left
        · simp only [Act.put, List.setIfInBounds_toArray, List.set_cons_zero, List.set_cons_succ, i64_w, i32_w]
          rfl
        refine pure_ (i := 8) (N := some 46) (v := ?_) (a' := ?_) #[true, true, false, false, true, true, false, false, true, false, false, false, false, false, false, false, false, false, false, false, false, false, false, false, false, false, false, false, false, false, false, false, false, false, false, false, false, false, false, false, false, false, false, false, false, false, false, false, false] rfl rfl (by kernel_rfl) (fun _ _ _ h => h) (Or.inl ⟨by rfl, ?_⟩) ?_ ?_
        rotate_left
        · intro w'
          go_simp
          with_reducible rfl
        rotate_left
        · simp only [Act.put, List.setIfInBounds_toArray, List.set_cons_zero, List.set_cons_succ, i64_w, i32_w]
          rfl
        refine pure_ (i := 12) (N := some 50) (v := ?_) (a' := ?_) #[true, true, false, false, true, true, false, false, true, false, false, false, true, false, false, false, false, false, false, false, false, false, false, false, false, false, false, false, false, false, false, false, false, false, false, false, false, false, false, false, false, false, false, false, false, false, false, false, false] rfl rfl (by kernel_rfl) (fun _ _ _ h => h) (Or.inl ⟨by rfl, ?_⟩) ?_ ?_
        rotate_left
        · intro w'
          go_simp
          with_reducible rfl
        rotate_left
        · simp only [Act.put, List.setIfInBounds_toArray, List.set_cons_zero, List.set_cons_succ, i64_w, i32_w]
          rfl
        refine pure_ (i := 13) (N := some 51) (v := ?_) (a' := ?_) #[true, true, false, false, true, true, false, false, true, false, false, false, true, true, false, false, false, false, false, false, false, false, false, false, false, false, false, false, false, false, false, false, false, false, false, false, false, false, false, false, false, false, false, false, false, false, false, false, false] rfl rfl (by kernel_rfl) (fun _ _ _ h => h) (Or.inl ⟨by rfl, ?_⟩) ?_ ?_
        rotate_left
        · intro w'
          go_simp
          with_reducible rfl
        rotate_left
        · simp only [Act.put, List.setIfInBounds_toArray, List.set_cons_zero, List.set_cons_succ, i64_w, i32_w]
          rfl
        refine pure_ (i := 16) (N := some 54) (v := ?_) (a' := ?_) #[true, true, false, false, true, true, false, false, true, false, false, false, true, true, false, false, true, false, false, false, false, false, false, false, false, false, false, false, false, false, false, false, false, false, false, false, false, false, false, false, false, false, false, false, false, false, false, false, false] rfl rfl (by kernel_rfl) (fun _ _ _ h => h) (Or.inl ⟨by rfl, ?_⟩) ?_ ?_
        rotate_left
        · intro w'
          go_simp
          with_reducible rfl
        rotate_left
        · simp only [Act.put, List.setIfInBounds_toArray, List.set_cons_zero, List.set_cons_succ, i64_w, i32_w]
          rfl
        refine pure_ (i := 17) (N := some 55) (v := ?_) (a' := ?_) #[true, true, false, false, true, true, false, false, true, false, false, false, true, true, false, false, true, true, false, false, false, false, false, false, false, false, false, false, false, false, false, false, false, false, false, false, false, false, false, false, false, false, false, false, false, false, false, false, false] rfl rfl (by kernel_rfl) (fun _ _ _ h => h) (Or.inl ⟨by rfl, ?_⟩) ?_ ?_
        rotate_left
        · intro w'
          go_simp
          with_reducible rfl
        rotate_left
        · simp only [Act.put, List.setIfInBounds_toArray, List.set_cons_zero, List.set_cons_succ, i64_w, i32_w]
          rfl
        refine pure_ (i := 22) (N := some 60) (v := ?_) (a' := ?_) #[true, true, false, false, true, true, false, false, true, false, false, false, true, true, false, false, true, true, false, false, false, false, true, false, false, false, false, false, false, false, false, false, false, false, false, false, false, false, false, false, false, false, false, false, false, false, false, false, false] rfl rfl (by kernel_rfl) (fun _ _ _ h => h) (Or.inl ⟨by rfl, ?_⟩) ?_ ?_
        rotate_left
        · intro w'
          go_simp
          with_reducible rfl
        rotate_left
        · simp only [Act.put, List.setIfInBounds_toArray, List.set_cons_zero, List.set_cons_succ, i64_w, i32_w]
          rfl
        refine pure_ (i := 25) (N := some 63) (v := ?_) (a' := ?_) #[true, true, false, false, true, true, false, false, true, false, false, false, true, true, false, false, true, true, false, false, false, false, true, false, false, true, false, false, false, false, false, false, false, false, false, false, false, false, false, false, false, false, false, false, false, false, false, false, false] rfl rfl (by kernel_rfl) (fun _ _ _ h => h) (Or.inl ⟨by rfl, ?_⟩) ?_ ?_
        rotate_left
        · intro w'
          go_simp
          with_reducible rfl
        rotate_left
        · simp only [Act.put, List.setIfInBounds_toArray, List.set_cons_zero, List.set_cons_succ, i64_w, i32_w]
          rfl
        refine pure_ (i := 28) (N := some 66) (v := ?_) (a' := ?_) #[true, true, false, false, true, true, false, false, true, false, false, false, true, true, false, false, true, true, false, false, false, false, true, false, false, true, false, false, true, false, false, false, false, false, false, false, false, false, false, false, false, false, false, false, false, false, false, false, false] rfl rfl (by kernel_rfl) (fun _ _ _ h => h) (Or.inl ⟨by rfl, ?_⟩) ?_ ?_
        rotate_left
        · intro w'
          go_simp
          with_reducible rfl
        rotate_left
        · simp only [Act.put, List.setIfInBounds_toArray, List.set_cons_zero, List.set_cons_succ, i64_w, i32_w]
          rfl
        refine pure_ (i := 31) (N := some 69) (v := ?_) (a' := ?_) #[true, true, false, false, true, true, false, false, true, false, false, false, true, true, false, false, true, true, false, false, false, false, true, false, false, true, false, false, true, false, false, true, false, false, false, false, false, false, false, false, false, false, false, false, false, false, false, false, false] rfl rfl (by kernel_rfl) (fun _ _ _ h => h) (Or.inl ⟨by rfl, ?_⟩) ?_ ?_
        rotate_left
        · intro w'
          go_simp
          with_reducible rfl
        rotate_left
        · simp only [Act.put, List.setIfInBounds_toArray, List.set_cons_zero, List.set_cons_succ, i64_w, i32_w]
          rfl
        refine pure_ (i := 34) (N := some 72) (v := ?_) (a' := ?_) #[true, true, false, false, true, true, false, false, true, false, false, false, true, true, false, false, true, true, false, false, false, false, true, false, false, true, false, false, true, false, false, true, false, false, true, false, false, false, false, false, false, false, false, false, false, false, false, false, false] rfl rfl (by kernel_rfl) (fun _ _ _ h => h) (Or.inl ⟨by rfl, ?_⟩) ?_ ?_
        rotate_left
        · intro w'
          go_simp
          with_reducible rfl
        rotate_left
        · simp only [Act.put, List.setIfInBounds_toArray, List.set_cons_zero, List.set_cons_succ, i64_w, i32_w]
          rfl
        refine pure_ (i := 37) (N := some 75) (v := ?_) (a' := ?_) #[true, true, false, false, true, true, false, false, true, false, false, false, true, true, false, false, true, true, false, false, false, false, true, false, false, true, false, false, true, false, false, true, false, false, true, false, false, true, false, false, false, false, false, false, false, false, false, false, false] rfl rfl (by kernel_rfl) (fun _ _ _ h => h) (Or.inl ⟨by rfl, ?_⟩) ?_ ?_
        rotate_left
        · intro w'
          go_simp
          with_reducible rfl
        rotate_left
        · simp only [Act.put, List.setIfInBounds_toArray, List.set_cons_zero, List.set_cons_succ, i64_w, i32_w]
          rfl
        refine pure_ (i := 40) (N := some 78) (v := ?_) (a' := ?_) #[true, true, false, false, true, true, false, false, true, false, false, false, true, true, false, false, true, true, false, false, false, false, true, false, false, true, false, false, true, false, false, true, false, false, true, false, false, true, false, false, true, false, false, false, false, false, false, false, false] rfl rfl (by kernel_rfl) (fun _ _ _ h => h) (Or.inl ⟨by rfl, ?_⟩) ?_ ?_
        rotate_left
        · intro w'
          go_simp
          with_reducible rfl
        rotate_left
        · simp only [Act.put, List.setIfInBounds_toArray, List.set_cons_zero, List.set_cons_succ, i64_w, i32_w]
          rfl
        refine take_ (i := 2) (N := some 40) (v := ?_) (a' := ?_) #[true, true, true, false, true, true, false, false, true, false, false, false, true, true, false, false, true, true, false, false, false, false, true, false, false, true, false, false, true, false, false, true, false, false, true, false, false, true, false, false, true, false, false, false, false, false, false, false, false] rfl rfl (by kernel_rfl) (fun _ _ _ h => h) (Or.inl ⟨by rfl, ?_⟩) hHeld ?_ ?_
        rotate_left
        · rintro w' ⟨s0, s1, s2, s3, s4, s5, s6, s7, s8, s9, s10, s11, s12, s13, s14, s15, s16, s17, s18⟩
          go_simp
          with_reducible rfl
        rotate_left
        · simp only [Act.put, List.setIfInBounds_toArray, List.set_cons_zero, List.set_cons_succ, i64_w, i32_w]
          rfl
        refine take_ (i := 6) (N := some 44) (v := ?_) (a' := ?_) #[true, true, true, false, true, true, true, false, true, false, false, false, true, true, false, false, true, true, false, false, false, false, true, false, false, true, false, false, true, false, false, true, false, false, true, false, false, true, false, false, true, false, false, false, false, false, false, false, false] rfl rfl (by kernel_rfl) (fun _ _ _ h => h) (Or.inl ⟨by rfl, ?_⟩) hHeld ?_ ?_
        rotate_left
        · rintro w' ⟨s0, s1, s2, s3, s4, s5, s6, s7, s8, s9, s10, s11, s12, s13, s14, s15, s16, s17, s18⟩
          go_simp
          with_reducible rfl
        rotate_left
        · simp only [Act.put, List.setIfInBounds_toArray, List.set_cons_zero, List.set_cons_succ, i64_w, i32_w]
          rfl
        refine take_ (i := 9) (N := some 47) (v := ?_) (a' := ?_) #[true, true, true, false, true, true, true, false, true, true, false, false, true, true, false, false, true, true, false, false, false, false, true, false, false, true, false, false, true, false, false, true, false, false, true, false, false, true, false, false, true, false, false, false, false, false, false, false, false] rfl rfl (by kernel_rfl) (fun _ _ _ h => h) (Or.inl ⟨by rfl, ?_⟩) hHeld ?_ ?_
        rotate_left
        · rintro w' ⟨s0, s1, s2, s3, s4, s5, s6, s7, s8, s9, s10, s11, s12, s13, s14, s15, s16, s17, s18⟩
          go_simp
          with_reducible rfl
        rotate_left
        · simp only [Act.put, List.setIfInBounds_toArray, List.set_cons_zero, List.set_cons_succ, i64_w, i32_w]
          rfl
        refine take_ (i := 11) (N := some 49) (v := ?_) (a' := ?_) #[true, true, true, false, true, true, true, false, true, true, false, true, true, true, false, false, true, true, false, false, false, false, true, false, false, true, false, false, true, false, false, true, false, false, true, false, false, true, false, false, true, false, false, false, false, false, false, false, false] rfl rfl (by kernel_rfl) (fun _ _ _ h => h) (Or.inl ⟨by rfl, ?_⟩) hHeld ?_ ?_
        rotate_left
        · rintro w' ⟨s0, s1, s2, s3, s4, s5, s6, s7, s8, s9, s10, s11, s12, s13, s14, s15, s16, s17, s18⟩
          go_simp
          with_reducible rfl
        rotate_left
        · simp only [Act.put, List.setIfInBounds_toArray, List.set_cons_zero, List.set_cons_succ, i64_w, i32_w]
          rfl
        refine take_ (i := 14) (N := some 52) (v := ?_) (a' := ?_) #[true, true, true, false, true, true, true, false, true, true, false, true, true, true, true, false, true, true, false, false, false, false, true, false, false, true, false, false, true, false, false, true, false, false, true, false, false, true, false, false, true, false, false, false, false, false, false, false, false] rfl rfl (by kernel_rfl) (fun _ _ _ h => h) (Or.inl ⟨by rfl, ?_⟩) hHeld ?_ ?_
        rotate_left
        · rintro w' ⟨s0, s1, s2, s3, s4, s5, s6, s7, s8, s9, s10, s11, s12, s13, s14, s15, s16, s17, s18⟩
          go_simp
          with_reducible rfl
        rotate_left
        · simp only [Act.put, List.setIfInBounds_toArray, List.set_cons_zero, List.set_cons_succ, i64_w, i32_w]
          rfl
        refine take_ (i := 18) (N := some 56) (v := ?_) (a' := ?_) #[true, true, true, false, true, true, true, false, true, true, false, true, true, true, true, false, true, true, true, false, false, false, true, false, false, true, false, false, true, false, false, true, false, false, true, false, false, true, false, false, true, false, false, false, false, false, false, false, false] rfl rfl (by kernel_rfl) (fun _ _ _ h => h) (Or.inl ⟨by rfl, ?_⟩) hHeld ?_ ?_
        rotate_left
        · rintro w' ⟨s0, s1, s2, s3, s4, s5, s6, s7, s8, s9, s10, s11, s12, s13, s14, s15, s16, s17, s18⟩
          go_simp
          with_reducible rfl
        rotate_left
        · simp only [Act.put, List.setIfInBounds_toArray, List.set_cons_zero, List.set_cons_succ, i64_w, i32_w]
          rfl
        refine take_ (i := 23) (N := some 61) (v := ?_) (a' := ?_) #[true, true, true, false, true, true, true, false, true, true, false, true, true, true, true, false, true, true, true, false, false, false, true, true, false, true, false, false, true, false, false, true, false, false, true, false, false, true, false, false, true, false, false, false, false, false, false, false, false] rfl rfl (by kernel_rfl) (fun _ _ _ h => h) (Or.inl ⟨by rfl, ?_⟩) hHeld ?_ ?_
        rotate_left
        · rintro w' ⟨s0, s1, s2, s3, s4, s5, s6, s7, s8, s9, s10, s11, s12, s13, s14, s15, s16, s17, s18⟩
          go_simp
          with_reducible rfl
        rotate_left
        · simp only [Act.put, List.setIfInBounds_toArray, List.set_cons_zero, List.set_cons_succ, i64_w, i32_w]
          rfl
        refine take_ (i := 26) (N := some 64) (v := ?_) (a' := ?_) #[true, true, true, false, true, true, true, false, true, true, false, true, true, true, true, false, true, true, true, false, false, false, true, true, false, true, true, false, true, false, false, true, false, false, true, false, false, true, false, false, true, false, false, false, false, false, false, false, false] rfl rfl (by kernel_rfl) (fun _ _ _ h => h) (Or.inl ⟨by rfl, ?_⟩) hHeld ?_ ?_
        rotate_left
        · rintro w' ⟨s0, s1, s2, s3, s4, s5, s6, s7, s8, s9, s10, s11, s12, s13, s14, s15, s16, s17, s18⟩
          go_simp
          with_reducible rfl
        rotate_left
        · simp only [Act.put, List.setIfInBounds_toArray, List.set_cons_zero, List.set_cons_succ, i64_w, i32_w]
          rfl
        refine take_ (i := 29) (N := some 67) (v := ?_) (a' := ?_) #[true, true, true, false, true, true, true, false, true, true, false, true, true, true, true, false, true, true, true, false, false, false, true, true, false, true, true, false, true, true, false, true, false, false, true, false, false, true, false, false, true, false, false, false, false, false, false, false, false] rfl rfl (by kernel_rfl) (fun _ _ _ h => h) (Or.inl ⟨by rfl, ?_⟩) hHeld ?_ ?_
        rotate_left
        · rintro w' ⟨s0, s1, s2, s3, s4, s5, s6, s7, s8, s9, s10, s11, s12, s13, s14, s15, s16, s17, s18⟩
          go_simp
          with_reducible rfl
        rotate_left
        · simp only [Act.put, List.setIfInBounds_toArray, List.set_cons_zero, List.set_cons_succ, i64_w, i32_w]
          rfl
        refine take_ (i := 32) (N := some 70) (v := ?_) (a' := ?_) #[true, true, true, false, true, true, true, false, true, true, false, true, true, true, true, false, true, true, true, false, false, false, true, true, false, true, true, false, true, true, false, true, true, false, true, false, false, true, false, false, true, false, false, false, false, false, false, false, false] rfl rfl (by kernel_rfl) (fun _ _ _ h => h) (Or.inl ⟨by rfl, ?_⟩) hHeld ?_ ?_
        rotate_left
        · rintro w' ⟨s0, s1, s2, s3, s4, s5, s6, s7, s8, s9, s10, s11, s12, s13, s14, s15, s16, s17, s18⟩
          go_simp
          with_reducible rfl
        rotate_left
        · simp only [Act.put, List.setIfInBounds_toArray, List.set_cons_zero, List.set_cons_succ, i64_w, i32_w]
          rfl
        refine take_ (i := 35) (N := some 73) (v := ?_) (a' := ?_) #[true, true, true, false, true, true, true, false, true, true, false, true, true, true, true, false, true, true, true, false, false, false, true, true, false, true, true, false, true, true, false, true, true, false, true, true, false, true, false, false, true, false, false, false, false, false, false, false, false] rfl rfl (by kernel_rfl) (fun _ _ _ h => h) (Or.inl ⟨by rfl, ?_⟩) hHeld ?_ ?_
        rotate_left
        · rintro w' ⟨s0, s1, s2, s3, s4, s5, s6, s7, s8, s9, s10, s11, s12, s13, s14, s15, s16, s17, s18⟩
          go_simp
          with_reducible rfl
        rotate_left
        · simp only [Act.put, List.setIfInBounds_toArray, List.set_cons_zero, List.set_cons_succ, i64_w, i32_w]
          rfl
        refine take_ (i := 38) (N := some 76) (v := ?_) (a' := ?_) #[true, true, true, false, true, true, true, false, true, true, false, true, true, true, true, false, true, true, true, false, false, false, true, true, false, true, true, false, true, true, false, true, true, false, true, true, false, true, true, false, true, false, false, false, false, false, false, false, false] rfl rfl (by kernel_rfl) (fun _ _ _ h => h) (Or.inl ⟨by rfl, ?_⟩) hHeld ?_ ?_
        rotate_left
        · rintro w' ⟨s0, s1, s2, s3, s4, s5, s6, s7, s8, s9, s10, s11, s12, s13, s14, s15, s16, s17, s18⟩
          go_simp
          with_reducible rfl
        rotate_left
        · simp only [Act.put, List.setIfInBounds_toArray, List.set_cons_zero, List.set_cons_succ, i64_w, i32_w]
          rfl
        refine one_ (i := 3) (N := some 41) #[true, true, true, true, true, true, true, false, true, true, false, true, true, true, true, false, true, true, true, false, false, false, true, true, false, true, true, false, true, true, false, true, true, false, true, true, false, true, true, false, true, false, false, false, false, false, false, false, false] rfl rfl (by kernel_rfl) (by decide) (fun K hK => ?_)
        refine goes_ Tryd.func70 (by kernel_rfl) rfl #[.int .i64 o.f0.f0] (by rfl) rfl rfl (by simp only [List.map_toArray, List.map_cons, List.map_nil]; rfl) ?_
        refine (opsNum o.f0.f0 V0).mono ?_
        rintro e V1 ⟨rfl, hb⟩
        have HE1 := Aside0.mk (HE0.out.below hb)
        clear hb HE0
        refine ⟨_, rfl, ?_⟩
        refine hK.out _ _ ⟨(IsOp.c0 HE1.out.io), (IsOp.c1 HE1.out.io), (IsOp.c2 HE1.out.io), (IsOp.c4 HE1.out.io), (IsOp.c5 HE1.out.io), (IsOp.c6 HE1.out.io), (IsOp.c7 HE1.out.io), (IsOp.c8 HE1.out.io), (IsOp.c9 HE1.out.io), (IsOp.c10 HE1.out.io), (IsOp.c11 HE1.out.io), (IsOp.c12 HE1.out.io), (IsOp.c13 HE1.out.io), (IsOp.c14 HE1.out.io), (IsOp.c15 HE1.out.io), ((blk_cell HE1.out.ib 0).trans rfl), ((blk_cell HE1.out.ib 1).trans rfl), ((blk_cell HE1.out.ib 2).trans rfl), ((blk_cell HE1.out.ib 3).trans rfl)⟩ (fun hHeld => ?_)
        clear hK K
        refine norm_ (a' := ?_) ?_ ?_
        rotate_left
        · show Act.put _ (some 41) _ = _
          simp only [Act.put, List.setIfInBounds_toArray, List.set_cons_zero, List.set_cons_succ, i64_w, i32_w]
          rfl
        refine one_ (i := 7) (N := some 45) #[true, true, true, true, true, true, true, true, true, true, false, true, true, true, true, false, true, true, true, false, false, false, true, true, false, true, true, false, true, true, false, true, true, false, true, true, false, true, true, false, true, false, false, false, false, false, false, false, false] rfl rfl (by kernel_rfl) (by decide) (fun K hK => ?_)
        refine goes_ Tryd.func70 (by kernel_rfl) rfl #[.int .i64 o.f0.f1] (by rfl) rfl rfl (by simp only [List.map_toArray, List.map_cons, List.map_nil]; rfl) ?_
        refine (opsNum o.f0.f1 V1).mono ?_
        rintro e V2 ⟨rfl, hb⟩
        have HE2 := Aside0.mk (HE1.out.below hb)
        clear hb HE1
        refine ⟨_, rfl, ?_⟩
        refine hK.out _ _ ⟨(IsOp.c0 HE2.out.io), (IsOp.c1 HE2.out.io), (IsOp.c2 HE2.out.io), (IsOp.c4 HE2.out.io), (IsOp.c5 HE2.out.io), (IsOp.c6 HE2.out.io), (IsOp.c7 HE2.out.io), (IsOp.c8 HE2.out.io), (IsOp.c9 HE2.out.io), (IsOp.c10 HE2.out.io), (IsOp.c11 HE2.out.io), (IsOp.c12 HE2.out.io), (IsOp.c13 HE2.out.io), (IsOp.c14 HE2.out.io), (IsOp.c15 HE2.out.io), ((blk_cell HE2.out.ib 0).trans rfl), ((blk_cell HE2.out.ib 1).trans rfl), ((blk_cell HE2.out.ib 2).trans rfl), ((blk_cell HE2.out.ib 3).trans rfl)⟩ (fun hHeld => ?_)
        clear hK K
        refine norm_ (a' := ?_) ?_ ?_
        rotate_left
        · show Act.put _ (some 45) _ = _
          simp only [Act.put, List.setIfInBounds_toArray, List.set_cons_zero, List.set_cons_succ, i64_w, i32_w]
          rfl
        refine one_ (i := 10) (N := some 48) #[true, true, true, true, true, true, true, true, true, true, true, true, true, true, true, false, true, true, true, false, false, false, true, true, false, true, true, false, true, true, false, true, true, false, true, true, false, true, true, false, true, false, false, false, false, false, false, false, false] rfl rfl (by kernel_rfl) (by decide) (fun K hK => ?_)
        refine goes_ Tryd.func70 (by kernel_rfl) rfl #[.int .i64 o.f1] (by rfl) rfl rfl (by simp only [List.map_toArray, List.map_cons, List.map_nil]; rfl) ?_
        refine (opsNum o.f1 V2).mono ?_
        rintro e V3 ⟨rfl, hb⟩
        have HE3 := Aside0.mk (HE2.out.below hb)
        clear hb HE2
        refine ⟨_, rfl, ?_⟩
        refine hK.out _ _ ⟨(IsOp.c0 HE3.out.io), (IsOp.c1 HE3.out.io), (IsOp.c2 HE3.out.io), (IsOp.c4 HE3.out.io), (IsOp.c5 HE3.out.io), (IsOp.c6 HE3.out.io), (IsOp.c7 HE3.out.io), (IsOp.c8 HE3.out.io), (IsOp.c9 HE3.out.io), (IsOp.c10 HE3.out.io), (IsOp.c11 HE3.out.io), (IsOp.c12 HE3.out.io), (IsOp.c13 HE3.out.io), (IsOp.c14 HE3.out.io), (IsOp.c15 HE3.out.io), ((blk_cell HE3.out.ib 0).trans rfl), ((blk_cell HE3.out.ib 1).trans rfl), ((blk_cell HE3.out.ib 2).trans rfl), ((blk_cell HE3.out.ib 3).trans rfl)⟩ (fun hHeld => ?_)
        clear hK K
        refine norm_ (a' := ?_) ?_ ?_
        rotate_left
        · show Act.put _ (some 48) _ = _
          simp only [Act.put, List.setIfInBounds_toArray, List.set_cons_zero, List.set_cons_succ, i64_w, i32_w]
          rfl
        refine one_ (i := 15) (N := some 53) #[true, true, true, true, true, true, true, true, true, true, true, true, true, true, true, true, true, true, true, false, false, false, true, true, false, true, true, false, true, true, false, true, true, false, true, true, false, true, true, false, true, false, false, false, false, false, false, false, false] rfl rfl (by kernel_rfl) (by decide) (fun K hK => ?_)
        refine goes_ Tryd.func70 (by kernel_rfl) rfl #[.int .i64 o.f3.f0] (by rfl) rfl rfl (by simp only [List.map_toArray, List.map_cons, List.map_nil]; rfl) ?_
        refine (opsNum o.f3.f0 V3).mono ?_
        rintro e V4 ⟨rfl, hb⟩
        have HE4 := Aside0.mk (HE3.out.below hb)
        clear hb HE3
        refine ⟨_, rfl, ?_⟩
        refine hK.out _ _ ⟨(IsOp.c0 HE4.out.io), (IsOp.c1 HE4.out.io), (IsOp.c2 HE4.out.io), (IsOp.c4 HE4.out.io), (IsOp.c5 HE4.out.io), (IsOp.c6 HE4.out.io), (IsOp.c7 HE4.out.io), (IsOp.c8 HE4.out.io), (IsOp.c9 HE4.out.io), (IsOp.c10 HE4.out.io), (IsOp.c11 HE4.out.io), (IsOp.c12 HE4.out.io), (IsOp.c13 HE4.out.io), (IsOp.c14 HE4.out.io), (IsOp.c15 HE4.out.io), ((blk_cell HE4.out.ib 0).trans rfl), ((blk_cell HE4.out.ib 1).trans rfl), ((blk_cell HE4.out.ib 2).trans rfl), ((blk_cell HE4.out.ib 3).trans rfl)⟩ (fun hHeld => ?_)
        clear hK K
        refine norm_ (a' := ?_) ?_ ?_
        rotate_left
        · show Act.put _ (some 53) _ = _
          simp only [Act.put, List.setIfInBounds_toArray, List.set_cons_zero, List.set_cons_succ, i64_w, i32_w]
          rfl
        refine one_ (i := 19) (N := some 57) #[true, true, true, true, true, true, true, true, true, true, true, true, true, true, true, true, true, true, true, true, false, false, true, true, false, true, true, false, true, true, false, true, true, false, true, true, false, true, true, false, true, false, false, false, false, false, false, false, false] rfl rfl (by kernel_rfl) (by decide) (fun K hK => ?_)
        refine goes_ Tryd.func71 (by kernel_rfl) rfl #[.string o.f3.f1] (by rfl) rfl rfl (by simp only [List.map_toArray, List.map_cons, List.map_nil]; rfl) ?_
        refine (opsText o.f3.f1 V4).mono ?_
        rintro e V5 ⟨rfl, hb⟩
        have HE5 := Aside0.mk (HE4.out.below hb)
        clear hb HE4
        refine ⟨_, rfl, ?_⟩
        refine hK.out _ _ ⟨(IsOp.c0 HE5.out.io), (IsOp.c1 HE5.out.io), (IsOp.c2 HE5.out.io), (IsOp.c4 HE5.out.io), (IsOp.c5 HE5.out.io), (IsOp.c6 HE5.out.io), (IsOp.c7 HE5.out.io), (IsOp.c8 HE5.out.io), (IsOp.c9 HE5.out.io), (IsOp.c10 HE5.out.io), (IsOp.c11 HE5.out.io), (IsOp.c12 HE5.out.io), (IsOp.c13 HE5.out.io), (IsOp.c14 HE5.out.io), (IsOp.c15 HE5.out.io), ((blk_cell HE5.out.ib 0).trans rfl), ((blk_cell HE5.out.ib 1).trans rfl), ((blk_cell HE5.out.ib 2).trans rfl), ((blk_cell HE5.out.ib 3).trans rfl)⟩ (fun hHeld => ?_)
        clear hK K
        refine norm_ (a' := ?_) ?_ ?_
        rotate_left
        · show Act.put _ (some 57) _ = _
          simp only [Act.put, List.setIfInBounds_toArray, List.set_cons_zero, List.set_cons_succ, i64_w, i32_w]
          rfl
        refine one_ (i := 20) (N := some 58) #[true, true, true, true, true, true, true, true, true, true, true, true, true, true, true, true, true, true, true, true, true, false, true, true, false, true, true, false, true, true, false, true, true, false, true, true, false, true, true, false, true, false, false, false, false, false, false, false, false] rfl rfl (by kernel_rfl) (by decide) (fun K hK => ?_)
        refine value_ (w1 := ?_) (v := ?_) (by rfl) rfl ?_ ?_
        rotate_left 2
        · go_simp
          constructor
          · rfl
          · rfl
        have hT := blk_new V5 (.cells #[.int .i64 1, .int .i64 o.f3.f0, .string ⟨#[]⟩, .slice none 0 0, .int .i64 2, .int .i64 0, .string o.f3.f1, .slice none 0 0] 63)
        have hb := below_alloc (Below.refl V5.heap.size V5) (.cells #[.int .i64 1, .int .i64 o.f3.f0, .string ⟨#[]⟩, .slice none 0 0, .int .i64 2, .int .i64 0, .string o.f3.f1, .slice none 0 0] 63)
        have HE6 := Aside0.mk (HE5.out.below hb)
        clear hb HE5
        generalize V5.heap.size = bp at *
        generalize V5.alloc (.cells #[.int .i64 1, .int .i64 o.f3.f0, .string ⟨#[]⟩, .slice none 0 0, .int .i64 2, .int .i64 0, .string o.f3.f1, .slice none 0 0] 63) = V6 at *
        have PT := Aside0.mk (row_of (xs := [nV o.f3.f0, tV o.f3.f1]) (vs := [[.int .i64 1, .int .i64 o.f3.f0, .string ⟨#[]⟩, .slice none 0 0], [.int .i64 2, .int .i64 0, .string o.f3.f1, .slice none 0 0]]) hT rfl rfl (by simp) (fun j x v hx hv => by match j, hx, hv with | 0, hx, hv => (cases hx; cases hv; exact num_K _ _) | 1, hx, hv => (cases hx; cases hv; exact text_K _ _)))
        clear hT
        refine hK.out _ _ ⟨(IsOp.c0 HE6.out.io), (IsOp.c1 HE6.out.io), (IsOp.c2 HE6.out.io), (IsOp.c4 HE6.out.io), (IsOp.c5 HE6.out.io), (IsOp.c6 HE6.out.io), (IsOp.c7 HE6.out.io), (IsOp.c8 HE6.out.io), (IsOp.c9 HE6.out.io), (IsOp.c10 HE6.out.io), (IsOp.c11 HE6.out.io), (IsOp.c12 HE6.out.io), (IsOp.c13 HE6.out.io), (IsOp.c14 HE6.out.io), (IsOp.c15 HE6.out.io), ((blk_cell HE6.out.ib 0).trans rfl), ((blk_cell HE6.out.ib 1).trans rfl), ((blk_cell HE6.out.ib 2).trans rfl), ((blk_cell HE6.out.ib 3).trans rfl)⟩ (fun hHeld => ?_)
        clear hK K
        refine norm_ (a' := ?_) ?_ ?_
        rotate_left
        · show Act.put _ (some 58) _ = _
          simp only [Act.put, List.setIfInBounds_toArray, List.set_cons_zero, List.set_cons_succ, i64_w, i32_w]
          rfl
        refine one_ (i := 21) (N := some 59) #[true, true, true, true, true, true, true, true, true, true, true, true, true, true, true, true, true, true, true, true, true, true, true, true, false, true, true, false, true, true, false, true, true, false, true, true, false, true, true, false, true, false, false, false, false, false, false, false, false] rfl rfl (by kernel_rfl) (by decide) (fun K hK => ?_)
        refine goes_ Tryd.func69 (by kernel_rfl) rfl #[.slice (some ⟨bp, 0, none⟩) 2 2] (by rfl) rfl rfl (by simp only [List.map_toArray, List.map_cons, List.map_nil]; rfl) ?_
        refine (opsList (some ⟨bp, 0, none⟩) 2 2 V6).mono ?_
        rintro e V7 ⟨rfl, hb⟩
        have HE7 := Aside0.mk (HE6.out.below hb)
        replace PT := Aside0.mk (Kd.C_below PT.out hb)
        clear hb HE6
        refine ⟨_, rfl, ?_⟩
        refine hK.out _ _ ⟨(IsOp.c0 HE7.out.io), (IsOp.c1 HE7.out.io), (IsOp.c2 HE7.out.io), (IsOp.c4 HE7.out.io), (IsOp.c5 HE7.out.io), (IsOp.c6 HE7.out.io), (IsOp.c7 HE7.out.io), (IsOp.c8 HE7.out.io), (IsOp.c9 HE7.out.io), (IsOp.c10 HE7.out.io), (IsOp.c11 HE7.out.io), (IsOp.c12 HE7.out.io), (IsOp.c13 HE7.out.io), (IsOp.c14 HE7.out.io), (IsOp.c15 HE7.out.io), ((blk_cell HE7.out.ib 0).trans rfl), ((blk_cell HE7.out.ib 1).trans rfl), ((blk_cell HE7.out.ib 2).trans rfl), ((blk_cell HE7.out.ib 3).trans rfl)⟩ (fun hHeld => ?_)
        clear hK K
        refine norm_ (a' := ?_) ?_ ?_
        rotate_left
        · show Act.put _ (some 59) _ = _
          simp only [Act.put, List.setIfInBounds_toArray, List.set_cons_zero, List.set_cons_succ, i64_w, i32_w]
          rfl
        refine one_ (i := 24) (N := some 62) #[true, true, true, true, true, true, true, true, true, true, true, true, true, true, true, true, true, true, true, true, true, true, true, true, true, true, true, false, true, true, false, true, true, false, true, true, false, true, true, false, true, false, false, false, false, false, false, false, false] rfl rfl (by kernel_rfl) (by decide) (fun K hK => ?_)
        refine goes_ Tryd.func70 (by kernel_rfl) rfl #[.int .i64 o.f4] (by rfl) rfl rfl (by simp only [List.map_toArray, List.map_cons, List.map_nil]; rfl) ?_
        refine (opsNum o.f4 V7).mono ?_
        rintro e V8 ⟨rfl, hb⟩
        have HE8 := Aside0.mk (HE7.out.below hb)
        replace PT := Aside0.mk (Kd.C_below PT.out hb)
        clear hb HE7
        refine ⟨_, rfl, ?_⟩
        refine hK.out _ _ ⟨(IsOp.c0 HE8.out.io), (IsOp.c1 HE8.out.io), (IsOp.c2 HE8.out.io), (IsOp.c4 HE8.out.io), (IsOp.c5 HE8.out.io), (IsOp.c6 HE8.out.io), (IsOp.c7 HE8.out.io), (IsOp.c8 HE8.out.io), (IsOp.c9 HE8.out.io), (IsOp.c10 HE8.out.io), (IsOp.c11 HE8.out.io), (IsOp.c12 HE8.out.io), (IsOp.c13 HE8.out.io), (IsOp.c14 HE8.out.io), (IsOp.c15 HE8.out.io), ((blk_cell HE8.out.ib 0).trans rfl), ((blk_cell HE8.out.ib 1).trans rfl), ((blk_cell HE8.out.ib 2).trans rfl), ((blk_cell HE8.out.ib 3).trans rfl)⟩ (fun hHeld => ?_)
        clear hK K
        refine norm_ (a' := ?_) ?_ ?_
        rotate_left
        · show Act.put _ (some 62) _ = _
          simp only [Act.put, List.setIfInBounds_toArray, List.set_cons_zero, List.set_cons_succ, i64_w, i32_w]
          rfl
        refine one_ (i := 27) (N := some 65) #[true, true, true, true, true, true, true, true, true, true, true, true, true, true, true, true, true, true, true, true, true, true, true, true, true, true, true, true, true, true, false, true, true, false, true, true, false, true, true, false, true, false, false, false, false, false, false, false, false] rfl rfl (by kernel_rfl) (by decide) (fun K hK => ?_)
        refine goes_ Tryd.func72 (by kernel_rfl) rfl #[.agg #[.int .i64 o.f5.f0, .int .i64 o.f5.f1, .int .i64 o.f5.f2]] (by rfl) rfl rfl (by simp only [List.map_toArray, List.map_cons, List.map_nil]; rfl) ?_
        refine (opsId o.f5.f0 o.f5.f1 o.f5.f2 V8).mono ?_
        rintro e V9 ⟨bPF, rfl, hn, hb⟩
        have HE9 := Aside0.mk (HE8.out.below hb)
        replace PT := Aside0.mk (Kd.C_below PT.out hb)
        clear hb HE8
        have PF := Aside0.mk hn
        clear hn
        refine ⟨_, rfl, ?_⟩
        refine hK.out _ _ ⟨(IsOp.c0 HE9.out.io), (IsOp.c1 HE9.out.io), (IsOp.c2 HE9.out.io), (IsOp.c4 HE9.out.io), (IsOp.c5 HE9.out.io), (IsOp.c6 HE9.out.io), (IsOp.c7 HE9.out.io), (IsOp.c8 HE9.out.io), (IsOp.c9 HE9.out.io), (IsOp.c10 HE9.out.io), (IsOp.c11 HE9.out.io), (IsOp.c12 HE9.out.io), (IsOp.c13 HE9.out.io), (IsOp.c14 HE9.out.io), (IsOp.c15 HE9.out.io), ((blk_cell HE9.out.ib 0).trans rfl), ((blk_cell HE9.out.ib 1).trans rfl), ((blk_cell HE9.out.ib 2).trans rfl), ((blk_cell HE9.out.ib 3).trans rfl)⟩ (fun hHeld => ?_)
        clear hK K
        refine norm_ (a' := ?_) ?_ ?_
        rotate_left
        · show Act.put _ (some 65) _ = _
          simp only [Act.put, List.setIfInBounds_toArray, List.set_cons_zero, List.set_cons_succ, i64_w, i32_w]
          rfl
        refine one_ (i := 30) (N := some 68) #[true, true, true, true, true, true, true, true, true, true, true, true, true, true, true, true, true, true, true, true, true, true, true, true, true, true, true, true, true, true, true, true, true, false, true, true, false, true, true, false, true, false, false, false, false, false, false, false, false] rfl rfl (by kernel_rfl) (by decide) (fun K hK => ?_)
        refine goes_ Tryd.func72 (by kernel_rfl) rfl #[.agg #[.int .i64 o.f6.f0, .int .i64 o.f6.f1, .int .i64 o.f6.f2]] (by rfl) rfl rfl (by simp only [List.map_toArray, List.map_cons, List.map_nil]; rfl) ?_
        refine (opsId o.f6.f0 o.f6.f1 o.f6.f2 V9).mono ?_
        rintro e V10 ⟨bPG, rfl, hn, hb⟩
        have HE10 := Aside0.mk (HE9.out.below hb)
        replace PT := Aside0.mk (Kd.C_below PT.out hb)
        replace PF := Aside0.mk (Kd.C_below PF.out hb)
        clear hb HE9
        have PG := Aside0.mk hn
        clear hn
        refine ⟨_, rfl, ?_⟩
        refine hK.out _ _ ⟨(IsOp.c0 HE10.out.io), (IsOp.c1 HE10.out.io), (IsOp.c2 HE10.out.io), (IsOp.c4 HE10.out.io), (IsOp.c5 HE10.out.io), (IsOp.c6 HE10.out.io), (IsOp.c7 HE10.out.io), (IsOp.c8 HE10.out.io), (IsOp.c9 HE10.out.io), (IsOp.c10 HE10.out.io), (IsOp.c11 HE10.out.io), (IsOp.c12 HE10.out.io), (IsOp.c13 HE10.out.io), (IsOp.c14 HE10.out.io), (IsOp.c15 HE10.out.io), ((blk_cell HE10.out.ib 0).trans rfl), ((blk_cell HE10.out.ib 1).trans rfl), ((blk_cell HE10.out.ib 2).trans rfl), ((blk_cell HE10.out.ib 3).trans rfl)⟩ (fun hHeld => ?_)
        clear hK K
        refine norm_ (a' := ?_) ?_ ?_
        rotate_left
        · show Act.put _ (some 68) _ = _
          simp only [Act.put, List.setIfInBounds_toArray, List.set_cons_zero, List.set_cons_succ, i64_w, i32_w]
          rfl
        refine one_ (i := 33) (N := some 71) #[true, true, true, true, true, true, true, true, true, true, true, true, true, true, true, true, true, true, true, true, true, true, true, true, true, true, true, true, true, true, true, true, true, true, true, true, false, true, true, false, true, false, false, false, false, false, false, false, false] rfl rfl (by kernel_rfl) (by decide) (fun K hK => ?_)
        refine goes_ Tryd.func71 (by kernel_rfl) rfl #[.string o.f7] (by rfl) rfl rfl (by simp only [List.map_toArray, List.map_cons, List.map_nil]; rfl) ?_
        refine (opsText o.f7 V10).mono ?_
        rintro e V11 ⟨rfl, hb⟩
        have HE11 := Aside0.mk (HE10.out.below hb)
        replace PT := Aside0.mk (Kd.C_below PT.out hb)
        replace PF := Aside0.mk (Kd.C_below PF.out hb)
        replace PG := Aside0.mk (Kd.C_below PG.out hb)
        clear hb HE10
        refine ⟨_, rfl, ?_⟩
        refine hK.out _ _ ⟨(IsOp.c0 HE11.out.io), (IsOp.c1 HE11.out.io), (IsOp.c2 HE11.out.io), (IsOp.c4 HE11.out.io), (IsOp.c5 HE11.out.io), (IsOp.c6 HE11.out.io), (IsOp.c7 HE11.out.io), (IsOp.c8 HE11.out.io), (IsOp.c9 HE11.out.io), (IsOp.c10 HE11.out.io), (IsOp.c11 HE11.out.io), (IsOp.c12 HE11.out.io), (IsOp.c13 HE11.out.io), (IsOp.c14 HE11.out.io), (IsOp.c15 HE11.out.io), ((blk_cell HE11.out.ib 0).trans rfl), ((blk_cell HE11.out.ib 1).trans rfl), ((blk_cell HE11.out.ib 2).trans rfl), ((blk_cell HE11.out.ib 3).trans rfl)⟩ (fun hHeld => ?_)
        clear hK K
        refine norm_ (a' := ?_) ?_ ?_
        rotate_left
        · show Act.put _ (some 71) _ = _
          simp only [Act.put, List.setIfInBounds_toArray, List.set_cons_zero, List.set_cons_succ, i64_w, i32_w]
          rfl
        refine one_ (i := 36) (N := some 74) #[true, true, true, true, true, true, true, true, true, true, true, true, true, true, true, true, true, true, true, true, true, true, true, true, true, true, true, true, true, true, true, true, true, true, true, true, true, true, true, false, true, false, false, false, false, false, false, false, false] rfl rfl (by kernel_rfl) (by decide) (fun K hK => ?_)
        refine goes_ Tryd.func71 (by kernel_rfl) rfl #[.string o.f8] (by rfl) rfl rfl (by simp only [List.map_toArray, List.map_cons, List.map_nil]; rfl) ?_
        refine (opsText o.f8 V11).mono ?_
        rintro e V12 ⟨rfl, hb⟩
        have HE12 := Aside0.mk (HE11.out.below hb)
        replace PT := Aside0.mk (Kd.C_below PT.out hb)
        replace PF := Aside0.mk (Kd.C_below PF.out hb)
        replace PG := Aside0.mk (Kd.C_below PG.out hb)
        clear hb HE11
        refine ⟨_, rfl, ?_⟩
        refine hK.out _ _ ⟨(IsOp.c0 HE12.out.io), (IsOp.c1 HE12.out.io), (IsOp.c2 HE12.out.io), (IsOp.c4 HE12.out.io), (IsOp.c5 HE12.out.io), (IsOp.c6 HE12.out.io), (IsOp.c7 HE12.out.io), (IsOp.c8 HE12.out.io), (IsOp.c9 HE12.out.io), (IsOp.c10 HE12.out.io), (IsOp.c11 HE12.out.io), (IsOp.c12 HE12.out.io), (IsOp.c13 HE12.out.io), (IsOp.c14 HE12.out.io), (IsOp.c15 HE12.out.io), ((blk_cell HE12.out.ib 0).trans rfl), ((blk_cell HE12.out.ib 1).trans rfl), ((blk_cell HE12.out.ib 2).trans rfl), ((blk_cell HE12.out.ib 3).trans rfl)⟩ (fun hHeld => ?_)
        clear hK K
        refine norm_ (a' := ?_) ?_ ?_
        rotate_left
        · show Act.put _ (some 74) _ = _
          simp only [Act.put, List.setIfInBounds_toArray, List.set_cons_zero, List.set_cons_succ, i64_w, i32_w]
          rfl
        refine one_ (i := 39) (N := some 77) #[true, true, true, true, true, true, true, true, true, true, true, true, true, true, true, true, true, true, true, true, true, true, true, true, true, true, true, true, true, true, true, true, true, true, true, true, true, true, true, true, true, false, false, false, false, false, false, false, false] rfl rfl (by kernel_rfl) (by decide) (fun K hK => ?_)
        refine goes_ Tryd.func70 (by kernel_rfl) rfl #[.int .i64 o.f9] (by rfl) rfl rfl (by simp only [List.map_toArray, List.map_cons, List.map_nil]; rfl) ?_
        refine (opsNum o.f9 V12).mono ?_
        rintro e V13 ⟨rfl, hb⟩
        have HE13 := Aside0.mk (HE12.out.below hb)
        replace PT := Aside0.mk (Kd.C_below PT.out hb)
        replace PF := Aside0.mk (Kd.C_below PF.out hb)
        replace PG := Aside0.mk (Kd.C_below PG.out hb)
        clear hb HE12
        refine ⟨_, rfl, ?_⟩
        refine hK.out _ _ ⟨(IsOp.c0 HE13.out.io), (IsOp.c1 HE13.out.io), (IsOp.c2 HE13.out.io), (IsOp.c4 HE13.out.io), (IsOp.c5 HE13.out.io), (IsOp.c6 HE13.out.io), (IsOp.c7 HE13.out.io), (IsOp.c8 HE13.out.io), (IsOp.c9 HE13.out.io), (IsOp.c10 HE13.out.io), (IsOp.c11 HE13.out.io), (IsOp.c12 HE13.out.io), (IsOp.c13 HE13.out.io), (IsOp.c14 HE13.out.io), (IsOp.c15 HE13.out.io), ((blk_cell HE13.out.ib 0).trans rfl), ((blk_cell HE13.out.ib 1).trans rfl), ((blk_cell HE13.out.ib 2).trans rfl), ((blk_cell HE13.out.ib 3).trans rfl)⟩ (fun hHeld => ?_)
        clear hK K
        refine norm_ (a' := ?_) ?_ ?_
        rotate_left
        · show Act.put _ (some 77) _ = _
          simp only [Act.put, List.setIfInBounds_toArray, List.set_cons_zero, List.set_cons_succ, i64_w, i32_w]
          rfl
        refine one_ (i := 41) (N := some 79) #[true, true, true, true, true, true, true, true, true, true, true, true, true, true, true, true, true, true, true, true, true, true, true, true, true, true, true, true, true, true, true, true, true, true, true, true, true, true, true, true, true, true, false, false, false, false, false, false, false] rfl rfl (by kernel_rfl) (by decide) (fun K hK => ?_)
        refine goes_ Tryd.func70 (by kernel_rfl) rfl #[_] (by rfl) rfl rfl (by simp only [List.map_toArray, List.map_cons, List.map_nil]; rfl) ?_
        refine (opsNumE _ (onI o) HO2.out V13).mono ?_
        rintro e V14 ⟨rfl, hb⟩
        have HE14 := Aside0.mk (HE13.out.below hb)
        replace PT := Aside0.mk (Kd.C_below PT.out hb)
        replace PF := Aside0.mk (Kd.C_below PF.out hb)
        replace PG := Aside0.mk (Kd.C_below PG.out hb)
        clear hb HE13
        refine ⟨_, rfl, ?_⟩
        refine hK.out _ _ ⟨(IsOp.c0 HE14.out.io), (IsOp.c1 HE14.out.io), (IsOp.c2 HE14.out.io), (IsOp.c4 HE14.out.io), (IsOp.c5 HE14.out.io), (IsOp.c6 HE14.out.io), (IsOp.c7 HE14.out.io), (IsOp.c8 HE14.out.io), (IsOp.c9 HE14.out.io), (IsOp.c10 HE14.out.io), (IsOp.c11 HE14.out.io), (IsOp.c12 HE14.out.io), (IsOp.c13 HE14.out.io), (IsOp.c14 HE14.out.io), (IsOp.c15 HE14.out.io), ((blk_cell HE14.out.ib 0).trans rfl), ((blk_cell HE14.out.ib 1).trans rfl), ((blk_cell HE14.out.ib 2).trans rfl), ((blk_cell HE14.out.ib 3).trans rfl)⟩ (fun hHeld => ?_)
        clear hK K
        refine norm_ (a' := ?_) ?_ ?_
        rotate_left
        · show Act.put _ (some 79) _ = _
          simp only [Act.put, List.setIfInBounds_toArray, List.set_cons_zero, List.set_cons_succ, i64_w, i32_w]
          rfl
        refine one_ (i := 42) (N := some 80) #[true, true, true, true, true, true, true, true, true, true, true, true, true, true, true, true, true, true, true, true, true, true, true, true, true, true, true, true, true, true, true, true, true, true, true, true, true, true, true, true, true, true, true, false, false, false, false, false, false] rfl rfl (by kernel_rfl) (by decide) (fun K hK => ?_)
        refine value_ (w1 := ?_) (v := ?_) (by rfl) rfl ?_ ?_
        rotate_left 2
        · go_simp
          constructor
          · rfl
          · rfl
        have hT := blk_new V14 (.cells #[.int .i64 1, .int .i64 o.f0.f0, .string ⟨#[]⟩, .slice none 0 0, .int .i64 1, .int .i64 o.f0.f1, .string ⟨#[]⟩, .slice none 0 0, .int .i64 1, .int .i64 o.f1, .string ⟨#[]⟩, .slice none 0 0, .int .i64 3, .int .i64 0, .string ⟨#[]⟩, .slice Ac o.f2.length cc, .int .i64 3, .int .i64 0, .string ⟨#[]⟩, .slice (some ⟨bp, 0, none⟩) 2 2, .int .i64 1, .int .i64 o.f4, .string ⟨#[]⟩, .slice none 0 0, .int .i64 3, .int .i64 0, .string ⟨#[]⟩, .slice (some ⟨bPF, 0, none⟩) 3 3, .int .i64 3, .int .i64 0, .string ⟨#[]⟩, .slice (some ⟨bPG, 0, none⟩) 3 3, .int .i64 2, .int .i64 0, .string o.f7, .slice none 0 0, .int .i64 2, .int .i64 0, .string o.f8, .slice none 0 0, .int .i64 1, .int .i64 o.f9, .string ⟨#[]⟩, .slice none 0 0, .int .i64 1, .int .i64 (onI o), .string ⟨#[]⟩, .slice none 0 0] 63)
        have hb := below_alloc (Below.refl V14.heap.size V14) (.cells #[.int .i64 1, .int .i64 o.f0.f0, .string ⟨#[]⟩, .slice none 0 0, .int .i64 1, .int .i64 o.f0.f1, .string ⟨#[]⟩, .slice none 0 0, .int .i64 1, .int .i64 o.f1, .string ⟨#[]⟩, .slice none 0 0, .int .i64 3, .int .i64 0, .string ⟨#[]⟩, .slice Ac o.f2.length cc, .int .i64 3, .int .i64 0, .string ⟨#[]⟩, .slice (some ⟨bp, 0, none⟩) 2 2, .int .i64 1, .int .i64 o.f4, .string ⟨#[]⟩, .slice none 0 0, .int .i64 3, .int .i64 0, .string ⟨#[]⟩, .slice (some ⟨bPF, 0, none⟩) 3 3, .int .i64 3, .int .i64 0, .string ⟨#[]⟩, .slice (some ⟨bPG, 0, none⟩) 3 3, .int .i64 2, .int .i64 0, .string o.f7, .slice none 0 0, .int .i64 2, .int .i64 0, .string o.f8, .slice none 0 0, .int .i64 1, .int .i64 o.f9, .string ⟨#[]⟩, .slice none 0 0, .int .i64 1, .int .i64 (onI o), .string ⟨#[]⟩, .slice none 0 0] 63)
        have HE15 := Aside0.mk (HE14.out.below hb)
        replace PT := Aside0.mk (Kd.C_below PT.out hb)
        replace PF := Aside0.mk (Kd.C_below PF.out hb)
        replace PG := Aside0.mk (Kd.C_below PG.out hb)
        clear hb HE14
        generalize V14.heap.size = bl at *
        generalize V14.alloc (.cells #[.int .i64 1, .int .i64 o.f0.f0, .string ⟨#[]⟩, .slice none 0 0, .int .i64 1, .int .i64 o.f0.f1, .string ⟨#[]⟩, .slice none 0 0, .int .i64 1, .int .i64 o.f1, .string ⟨#[]⟩, .slice none 0 0, .int .i64 3, .int .i64 0, .string ⟨#[]⟩, .slice Ac o.f2.length cc, .int .i64 3, .int .i64 0, .string ⟨#[]⟩, .slice (some ⟨bp, 0, none⟩) 2 2, .int .i64 1, .int .i64 o.f4, .string ⟨#[]⟩, .slice none 0 0, .int .i64 3, .int .i64 0, .string ⟨#[]⟩, .slice (some ⟨bPF, 0, none⟩) 3 3, .int .i64 3, .int .i64 0, .string ⟨#[]⟩, .slice (some ⟨bPG, 0, none⟩) 3 3, .int .i64 2, .int .i64 0, .string o.f7, .slice none 0 0, .int .i64 2, .int .i64 0, .string o.f8, .slice none 0 0, .int .i64 1, .int .i64 o.f9, .string ⟨#[]⟩, .slice none 0 0, .int .i64 1, .int .i64 (onI o), .string ⟨#[]⟩, .slice none 0 0] 63) = V15 at *
        have RL := Aside0.mk (row_of (xs := opL o) (vs := [[.int .i64 1, .int .i64 o.f0.f0, .string ⟨#[]⟩, .slice none 0 0], [.int .i64 1, .int .i64 o.f0.f1, .string ⟨#[]⟩, .slice none 0 0], [.int .i64 1, .int .i64 o.f1, .string ⟨#[]⟩, .slice none 0 0], [.int .i64 3, .int .i64 0, .string ⟨#[]⟩, .slice Ac o.f2.length cc], [.int .i64 3, .int .i64 0, .string ⟨#[]⟩, .slice (some ⟨bp, 0, none⟩) 2 2], [.int .i64 1, .int .i64 o.f4, .string ⟨#[]⟩, .slice none 0 0], [.int .i64 3, .int .i64 0, .string ⟨#[]⟩, .slice (some ⟨bPF, 0, none⟩) 3 3], [.int .i64 3, .int .i64 0, .string ⟨#[]⟩, .slice (some ⟨bPG, 0, none⟩) 3 3], [.int .i64 2, .int .i64 0, .string o.f7, .slice none 0 0], [.int .i64 2, .int .i64 0, .string o.f8, .slice none 0 0], [.int .i64 1, .int .i64 o.f9, .string ⟨#[]⟩, .slice none 0 0], [.int .i64 1, .int .i64 (onI o), .string ⟨#[]⟩, .slice none 0 0]]) hT rfl rfl (Nat.le_of_ble_eq_true rfl) (fun j x v hx hv => by match j, hx, hv with | 0, hx, hv => (cases hx; cases hv; exact num_K _ _) | 1, hx, hv => (cases hx; cases hv; exact num_K _ _) | 2, hx, hv => (cases hx; cases hv; exact num_K _ _) | 3, hx, hv => (cases hx; cases hv; exact (by have h := list_K (c := cc) (by rw [dotsV_len]; exact HCC.out) (Kd.R_reads' HE15.out.hu).2.2; rw [dotsV_len] at h; exact h)) | 4, hx, hv => (cases hx; cases hv; exact list_K (L := [nV o.f3.f0, tV o.f3.f1]) (Nat.le_refl _) PT.out) | 5, hx, hv => (cases hx; cases hv; exact num_K _ _) | 6, hx, hv => (cases hx; cases hv; exact list_K (L := [nV o.f5.f0, nV o.f5.f1, nV o.f5.f2]) (Nat.le_refl _) PF.out) | 7, hx, hv => (cases hx; cases hv; exact list_K (L := [nV o.f6.f0, nV o.f6.f1, nV o.f6.f2]) (Nat.le_refl _) PG.out) | 8, hx, hv => (cases hx; cases hv; exact text_K _ _) | 9, hx, hv => (cases hx; cases hv; exact text_K _ _) | 10, hx, hv => (cases hx; cases hv; exact num_K _ _) | 11, hx, hv => (cases hx; cases hv; exact num_K _ _)))
        clear hT
        refine hK.out _ _ ⟨(IsOp.c0 HE15.out.io), (IsOp.c1 HE15.out.io), (IsOp.c2 HE15.out.io), (IsOp.c4 HE15.out.io), (IsOp.c5 HE15.out.io), (IsOp.c6 HE15.out.io), (IsOp.c7 HE15.out.io), (IsOp.c8 HE15.out.io), (IsOp.c9 HE15.out.io), (IsOp.c10 HE15.out.io), (IsOp.c11 HE15.out.io), (IsOp.c12 HE15.out.io), (IsOp.c13 HE15.out.io), (IsOp.c14 HE15.out.io), (IsOp.c15 HE15.out.io), ((blk_cell HE15.out.ib 0).trans rfl), ((blk_cell HE15.out.ib 1).trans rfl), ((blk_cell HE15.out.ib 2).trans rfl), ((blk_cell HE15.out.ib 3).trans rfl)⟩ (fun hHeld => ?_)
        clear hK K
        refine norm_ (a' := ?_) ?_ ?_
        rotate_left
        · show Act.put _ (some 80) _ = _
          simp only [Act.put, List.setIfInBounds_toArray, List.set_cons_zero, List.set_cons_succ, i64_w, i32_w]
          rfl
        refine one_ (i := 43) (N := some 81) #[true, true, true, true, true, true, true, true, true, true, true, true, true, true, true, true, true, true, true, true, true, true, true, true, true, true, true, true, true, true, true, true, true, true, true, true, true, true, true, true, true, true, true, true, false, false, false, false, false] rfl rfl (by kernel_rfl) (by decide) (fun K hK => ?_)
        refine goes_ Tryd.func69 (by kernel_rfl) rfl #[.slice (some ⟨bl, 0, none⟩) 12 12] (by rfl) rfl rfl (by simp only [List.map_toArray, List.map_cons, List.map_nil]; rfl) ?_
        refine (opsList (some ⟨bl, 0, none⟩) 12 12 V15).mono ?_
        rintro e V16 ⟨rfl, hb⟩
        have HE16 := Aside0.mk (HE15.out.below hb)
        replace PT := Aside0.mk (Kd.C_below PT.out hb)
        replace PF := Aside0.mk (Kd.C_below PF.out hb)
        replace PG := Aside0.mk (Kd.C_below PG.out hb)
        replace RL := Aside0.mk (Kd.C_below RL.out hb)
        clear hb HE15
        refine ⟨_, rfl, ?_⟩
        refine hK.out _ _ ⟨(IsOp.c0 HE16.out.io), (IsOp.c1 HE16.out.io), (IsOp.c2 HE16.out.io), (IsOp.c4 HE16.out.io), (IsOp.c5 HE16.out.io), (IsOp.c6 HE16.out.io), (IsOp.c7 HE16.out.io), (IsOp.c8 HE16.out.io), (IsOp.c9 HE16.out.io), (IsOp.c10 HE16.out.io), (IsOp.c11 HE16.out.io), (IsOp.c12 HE16.out.io), (IsOp.c13 HE16.out.io), (IsOp.c14 HE16.out.io), (IsOp.c15 HE16.out.io), ((blk_cell HE16.out.ib 0).trans rfl), ((blk_cell HE16.out.ib 1).trans rfl), ((blk_cell HE16.out.ib 2).trans rfl), ((blk_cell HE16.out.ib 3).trans rfl)⟩ (fun hHeld => ?_)
        clear hK K
        refine norm_ (a' := ?_) ?_ ?_
        rotate_left
        · show Act.put _ (some 81) _ = _
          simp only [Act.put, List.setIfInBounds_toArray, List.set_cons_zero, List.set_cons_succ, i64_w, i32_w]
          rfl
        refine one_ (i := 44) (N := some 82) #[true, true, true, true, true, true, true, true, true, true, true, true, true, true, true, true, true, true, true, true, true, true, true, true, true, true, true, true, true, true, true, true, true, true, true, true, true, true, true, true, true, true, true, true, true, false, false, false, false] rfl rfl (by kernel_rfl) (by decide) (fun K hK => ?_)
        refine goes_ Tryd.func59 (by kernel_rfl) rfl #[.agg #[.int .i64 3, .int .i64 0, .string ⟨#[]⟩, .slice (some ⟨bl, 0, none⟩) 12 12]] (by rfl) rfl rfl (by simp only [List.map_toArray, List.map_cons, List.map_nil]; rfl) ?_
        refine (codec_Encode.calls kk 3 0 ⟨#[]⟩ (some ⟨bl, 0, none⟩) 12 (opL o) (encP (opV o)) 0 V16 RL.out (Nat.le_refl _) HEN.out).mono ?_
        rintro e V17 ⟨v9, rfl, hR9, hb⟩
        have HR9 := Aside0.mk (Kd.R_lower hR9 HE16.out.hb.size)
        clear hR9
        have HE17 := Aside0.mk (HE16.out.below hb)
        replace PT := Aside0.mk (Kd.C_below PT.out hb)
        replace PF := Aside0.mk (Kd.C_below PF.out hb)
        replace PG := Aside0.mk (Kd.C_below PG.out hb)
        replace RL := Aside0.mk (Kd.C_below RL.out hb)
        clear hb HE16
        refine ⟨_, rfl, ?_⟩
        refine hK.out _ _ ⟨(IsOp.c0 HE17.out.io), (IsOp.c1 HE17.out.io), (IsOp.c2 HE17.out.io), (IsOp.c4 HE17.out.io), (IsOp.c5 HE17.out.io), (IsOp.c6 HE17.out.io), (IsOp.c7 HE17.out.io), (IsOp.c8 HE17.out.io), (IsOp.c9 HE17.out.io), (IsOp.c10 HE17.out.io), (IsOp.c11 HE17.out.io), (IsOp.c12 HE17.out.io), (IsOp.c13 HE17.out.io), (IsOp.c14 HE17.out.io), (IsOp.c15 HE17.out.io), ((blk_cell HE17.out.ib 0).trans rfl), ((blk_cell HE17.out.ib 1).trans rfl), ((blk_cell HE17.out.ib 2).trans rfl), ((blk_cell HE17.out.ib 3).trans rfl)⟩ (fun hHeld => ?_)
        clear hK K
        refine norm_ (a' := ?_) ?_ ?_
        rotate_left
        · show Act.put _ (some 82) _ = _
          simp only [Act.put, List.setIfInBounds_toArray, List.set_cons_zero, List.set_cons_succ, i64_w, i32_w]
          rfl
        refine pure_ (i := 45) (N := some 83) (v := ?_) (a' := ?_) #[true, true, true, true, true, true, true, true, true, true, true, true, true, true, true, true, true, true, true, true, true, true, true, true, true, true, true, true, true, true, true, true, true, true, true, true, true, true, true, true, true, true, true, true, true, true, false, false, false] rfl rfl (by kernel_rfl) (fun _ _ _ h => h) (Or.inl ⟨by rfl, ?_⟩) ?_ ?_
        rotate_left
        · intro w'
          go_simp
          with_reducible rfl
        rotate_left
        · simp only [Act.put, List.setIfInBounds_toArray, List.set_cons_zero, List.set_cons_succ, i64_w, i32_w]
          rfl
        refine pure_ (i := 46) (N := some 84) (v := ?_) (a' := ?_) #[true, true, true, true, true, true, true, true, true, true, true, true, true, true, true, true, true, true, true, true, true, true, true, true, true, true, true, true, true, true, true, true, true, true, true, true, true, true, true, true, true, true, true, true, true, true, true, false, false] rfl rfl (by kernel_rfl) (fun _ _ _ h => h) (Or.inl ⟨by rfl, ?_⟩) ?_ ?_
        rotate_left
        · intro w'
          go_simp
          with_reducible rfl
        rotate_left
        · simp only [Act.put, List.setIfInBounds_toArray, List.set_cons_zero, List.set_cons_succ, i64_w, i32_w]
          rfl
        refine pure_ (i := 47) (N := some 2) (v := ?_) (a' := ?_) #[true, true, true, true, true, true, true, true, true, true, true, true, true, true, true, true, true, true, true, true, true, true, true, true, true, true, true, true, true, true, true, true, true, true, true, true, true, true, true, true, true, true, true, true, true, true, true, true, false] rfl rfl (by kernel_rfl) (fun _ _ _ h => h) (Or.inl ⟨by rfl, ?_⟩) ?_ ?_
        rotate_left
        · intro w'
          go_simp
          with_reducible rfl
        rotate_left
        · simp only [Act.put, List.setIfInBounds_toArray, List.set_cons_zero, List.set_cons_succ, i64_w, i32_w]
          rfl
        refine pure_ (i := 48) (N := some 3) (v := ?_) (a' := ?_) #[true, true, true, true, true, true, true, true, true, true, true, true, true, true, true, true, true, true, true, true, true, true, true, true, true, true, true, true, true, true, true, true, true, true, true, true, true, true, true, true, true, true, true, true, true, true, true, true, true] rfl rfl (by kernel_rfl) (fun _ _ _ h => h) (Or.inl ⟨by rfl, ?_⟩) ?_ ?_
        rotate_left
        · intro w'
          go_simp
          with_reducible rfl
        rotate_left
        · simp only [Act.put, List.setIfInBounds_toArray, List.set_cons_zero, List.set_cons_succ, i64_w, i32_w]
          rfl
        refine done_ (by kernel_rfl) ?_
        go_wp2
        refine bodyPost_ret (v := .tuple #[v9, .int .i64 0]) (by simp [results, Tryd.results43, go_sem]) rfl ⟨_, by rw [HK1.out], ?_, HE17.out.hb⟩
        rw [← HEQ.out, if_pos HK1.out]
        exact HR9.out
    | succ k1 =>
      have hil : i < o.f2.length := by have := HIK.out; omega
      have hlt : decide (i < o.f2.length) = true := decide_eq_true hil
      obtain ⟨ad, rfl, q0, q1⟩ := at_T24 (Kd.C_below HR.out HE.out.hb) (i : Int) (by omega) (by omega)
      simp only [Int.toNat_natCast] at q0 q1
      have HVS := Aside0.mk (dotsV_snoc o.f2 i hil)
      have HVL : Aside0 (vs.length ≤ 100000) := ⟨by rw [HV.out]; unfold dotsV; rw [List.length_map, List.length_take]; have := HL.out; omega⟩
      generalize rd_T24 o.f2 (i : Int) = x at *
      have p0 : (0 : Int) ≤ (i : Int) := by omega
      have p1 : (i : Int) < (o.f2.length : Int) := by omega
      go_wp2_with (first | ((with_reducible refine gate_dst (N := 7) rfl ?_); refine box_event ?hg (N := 7) ?hd (cs := #[.int .i64 0, .int .i64 0]) (t := 24) ?hr ?_; (case hd => rfl); (case hg => rfl); (case hr => first | (go_simp; done) | (go_simp; rfl)); intro g7 hg w7 hbox hb; have NX := Aside0.mk (show ∀ k, u.ownBlock = some k → k < g7 from fun k e => by rw [hg]; exact Kd.R_lt HE.out.hu k e); have N7 := Aside0.mk (show g ≠ g7 ∧ b ≠ g7 ∧ w.heap.size ≤ g7 from ⟨by have := blk_lt HE.out.io; omega, by have := blk_lt HE.out.ib; omega, by rw [hg]; exact HE.out.hb.size⟩); have RB := Aside0.mk (show Kd.R k63 63 w7 w.heap.size (fun k => (k ≠ g ∧ k ≠ b) ∧ k ≠ g7) u vs from Kd.R_below (Kd.R_mono (Kd.R_bound HE.out.hu) (fun k hk => ⟨hk.1, by have := hk.2.2.1; omega⟩)) hb); have n1_ := Aside0.mk (HE.out.below hb); clear HE; have HE := n1_; clear n1_; have B7 := Aside0.mk hbox; clear hb hbox hg) | ((with_reducible refine gate_store (t := 24) (p := 7) rfl ?_); refine row_event B7.out (by rfl) _ _ rfl rfl (cs' := #[.int .i64 x.f0, .int .i64 x.f1]) rfl size24 rfl (by simp [Value.oneCell']) ?_; intro W0 h1 h2 h3; have HE0 := Aside0.mk (show Ec w W0 g b o (some ad) c u vs from ⟨h3 _ _ N7.out.2.2 HE.out.hb, HE.out.lg, HE.out.lb, HE.out.ne, (h2 _ N7.out.1).trans HE.out.io, (h2 _ N7.out.2.1).trans HE.out.ib, Kd.R_mono (Kd.R_step RB.out (fun k hk hl => h2 k hk.2)) (fun _ hk => hk.1)⟩); have HX0 := Aside0.mk h1; clear HE B7 RB N7 h1 h2 h3))
      clear q0 q1 hlt p0 p1
      refine start_ (n := 14) (S := fun w' => w'.cell? ⟨b, 3, none⟩ = some u ∧ w'.cell? ⟨g7, 0, none⟩ = some (.int .i64 x.f0) ∧ w'.cell? ⟨g7, 1, none⟩ = some (.int .i64 x.f1)) (ds := [13]) #[false, false, false, false, false, false, false, false, false, false, false, false, false, false] (by kernel_rfl) rfl rfl ⟨(HE0.out.c3), ((blk_cell HX0.out 0).trans rfl), ((blk_cell HX0.out 1).trans rfl)⟩ (fun hHeld => ?_)
      replace HE0 := Aside0.mk HE0.out.drew
      replace HX0 := Aside0.mk (blk_drew HX0.out)
      generalize W0.drew = V0 at *
      refine pure_ (i := 0) (N := some 22) (v := ?_) (a' := ?_) #[true, false, false, false, false, false, false, false, false, false, false, false, false, false] rfl rfl (by kernel_rfl) (fun _ _ _ h => h) (Or.inl ⟨by rfl, ?_⟩) ?_ ?_
      rotate_left
      · intro w'
        go_simp
        with_reducible rfl
      rotate_left
      · simp only [Act.put, List.setIfInBounds_toArray, List.set_cons_zero, List.set_cons_succ, i64_w, i32_w]
        rfl
      refine pure_ (i := 2) (N := some 24) (v := ?_) (a' := ?_) #[true, false, true, false, false, false, false, false, false, false, false, false, false, false] rfl rfl (by kernel_rfl) (fun _ _ _ h => h) (Or.inl ⟨by rfl, ?_⟩) ?_ ?_
      rotate_left
      · intro w'
        go_simp
        with_reducible rfl
      rotate_left
      · simp only [Act.put, List.setIfInBounds_toArray, List.set_cons_zero, List.set_cons_succ, i64_w, i32_w]
        rfl
      refine pure_ (i := 5) (N := some 27) (v := ?_) (a' := ?_) #[true, false, true, false, false, true, false, false, false, false, false, false, false, false] rfl rfl (by kernel_rfl) (fun _ _ _ h => h) (Or.inl ⟨by rfl, ?_⟩) ?_ ?_
      rotate_left
      · intro w'
        go_simp
        with_reducible rfl
      rotate_left
      · simp only [Act.put, List.setIfInBounds_toArray, List.set_cons_zero, List.set_cons_succ, i64_w, i32_w]
        rfl
      refine take_ (i := 1) (N := some 23) (v := ?_) (a' := ?_) #[true, true, true, false, false, true, false, false, false, false, false, false, false, false] rfl rfl (by kernel_rfl) (fun _ _ _ h => h) (Or.inl ⟨by rfl, ?_⟩) hHeld ?_ ?_
      rotate_left
      · rintro w' ⟨s0, s1, s2⟩
        go_simp
        with_reducible rfl
      rotate_left
      · simp only [Act.put, List.setIfInBounds_toArray, List.set_cons_zero, List.set_cons_succ, i64_w, i32_w]
        rfl
      refine take_ (i := 3) (N := some 25) (v := ?_) (a' := ?_) #[true, true, true, true, false, true, false, false, false, false, false, false, false, false] rfl rfl (by kernel_rfl) (fun _ _ _ h => h) (Or.inl ⟨by rfl, ?_⟩) hHeld ?_ ?_
      rotate_left
      · rintro w' ⟨s0, s1, s2⟩
        go_simp
        with_reducible rfl
      rotate_left
      · simp only [Act.put, List.setIfInBounds_toArray, List.set_cons_zero, List.set_cons_succ, i64_w, i32_w]
        rfl
      refine take_ (i := 6) (N := some 28) (v := ?_) (a' := ?_) #[true, true, true, true, false, true, true, false, false, false, false, false, false, false] rfl rfl (by kernel_rfl) (fun _ _ _ h => h) (Or.inl ⟨by rfl, ?_⟩) hHeld ?_ ?_
      rotate_left
      · rintro w' ⟨s0, s1, s2⟩
        go_simp
        with_reducible rfl
      rotate_left
      · simp only [Act.put, List.setIfInBounds_toArray, List.set_cons_zero, List.set_cons_succ, i64_w, i32_w]
        rfl
      refine one_ (i := 4) (N := some 26) #[true, true, true, true, true, true, true, false, false, false, false, false, false, false] rfl rfl (by kernel_rfl) (by decide) (fun K hK => ?_)
      refine goes_ Tryd.func70 (by kernel_rfl) rfl #[.int .i64 x.f0] (by rfl) rfl rfl (by simp only [List.map_toArray, List.map_cons, List.map_nil]; rfl) ?_
      refine (opsNum x.f0 V0).mono ?_
      rintro e V1 ⟨rfl, hb⟩
      have HE1 := Aside0.mk (HE0.out.below hb)
      have HX1 := Aside0.mk (blk_below HX0.out hb)
      clear hb HE0 HX0
      refine ⟨_, rfl, ?_⟩
      refine hK.out _ _ ⟨(HE1.out.c3), ((blk_cell HX1.out 0).trans rfl), ((blk_cell HX1.out 1).trans rfl)⟩ (fun hHeld => ?_)
      clear hK K
      refine norm_ (a' := ?_) ?_ ?_
      rotate_left
      · show Act.put _ (some 26) _ = _
        simp only [Act.put, List.setIfInBounds_toArray, List.set_cons_zero, List.set_cons_succ, i64_w, i32_w]
        rfl
      refine one_ (i := 7) (N := some 29) #[true, true, true, true, true, true, true, true, false, false, false, false, false, false] rfl rfl (by kernel_rfl) (by decide) (fun K hK => ?_)
      refine goes_ Tryd.func70 (by kernel_rfl) rfl #[.int .i64 x.f1] (by rfl) rfl rfl (by simp only [List.map_toArray, List.map_cons, List.map_nil]; rfl) ?_
      refine (opsNum x.f1 V1).mono ?_
      rintro e V2 ⟨rfl, hb⟩
      have HE2 := Aside0.mk (HE1.out.below hb)
      have HX2 := Aside0.mk (blk_below HX1.out hb)
      clear hb HE1 HX1
      refine ⟨_, rfl, ?_⟩
      refine hK.out _ _ ⟨(HE2.out.c3), ((blk_cell HX2.out 0).trans rfl), ((blk_cell HX2.out 1).trans rfl)⟩ (fun hHeld => ?_)
      clear hK K
      refine norm_ (a' := ?_) ?_ ?_
      rotate_left
      · show Act.put _ (some 29) _ = _
        simp only [Act.put, List.setIfInBounds_toArray, List.set_cons_zero, List.set_cons_succ, i64_w, i32_w]
        rfl
      refine one_ (i := 8) (N := some 30) #[true, true, true, true, true, true, true, true, true, false, false, false, false, false] rfl rfl (by kernel_rfl) (by decide) (fun K hK => ?_)
      refine value_ (w1 := ?_) (v := ?_) (by rfl) rfl ?_ ?_
      rotate_left 2
      · go_simp
        constructor
        · rfl
        · rfl
      have LB := Aside0.mk (show b < V2.heap.size ∧ g < V2.heap.size ∧ w.heap.size ≤ V2.heap.size from ⟨blk_lt HE2.out.ib, blk_lt HE2.out.io, HE2.out.hb.size⟩)
      have NU := Aside0.mk (show ∀ k, u.ownBlock = some k → k < V2.heap.size from fun k e => Kd.R_lt HE2.out.hu k e)
      have T3 := Aside0.mk (blk_new V2 (.cells #[.int .i64 1, .int .i64 x.f0, .string ⟨#[]⟩, .slice none 0 0, .int .i64 1, .int .i64 x.f1, .string ⟨#[]⟩, .slice none 0 0] 63))
      have hb := below_alloc (Below.refl V2.heap.size V2) (.cells #[.int .i64 1, .int .i64 x.f0, .string ⟨#[]⟩, .slice none 0 0, .int .i64 1, .int .i64 x.f1, .string ⟨#[]⟩, .slice none 0 0] 63)
      have HE3 := Aside0.mk (HE2.out.below hb)
      have HX3 := Aside0.mk (blk_below HX2.out hb)
      clear hb HE2 HX2
      generalize V2.heap.size = bl at *
      generalize V2.alloc (.cells #[.int .i64 1, .int .i64 x.f0, .string ⟨#[]⟩, .slice none 0 0, .int .i64 1, .int .i64 x.f1, .string ⟨#[]⟩, .slice none 0 0] 63) = V3 at *
      refine hK.out _ _ ⟨(HE3.out.c3), ((blk_cell HX3.out 0).trans rfl), ((blk_cell HX3.out 1).trans rfl)⟩ (fun hHeld => ?_)
      clear hK K
      refine norm_ (a' := ?_) ?_ ?_
      rotate_left
      · show Act.put _ (some 30) _ = _
        simp only [Act.put, List.setIfInBounds_toArray, List.set_cons_zero, List.set_cons_succ, i64_w, i32_w]
        rfl
      refine one_ (i := 9) (N := some 31) #[true, true, true, true, true, true, true, true, true, true, false, false, false, false] rfl rfl (by kernel_rfl) (by decide) (fun K hK => ?_)
      refine goes_ Tryd.func69 (by kernel_rfl) rfl #[.slice (some ⟨bl, 0, none⟩) 2 2] (by rfl) rfl rfl (by simp only [List.map_toArray, List.map_cons, List.map_nil]; rfl) ?_
      refine (opsList (some ⟨bl, 0, none⟩) 2 2 V3).mono ?_
      rintro e V4 ⟨rfl, hb⟩
      have T4 := Aside0.mk (blk_below T3.out hb)
      have HE4 := Aside0.mk (HE3.out.below hb)
      have HX4 := Aside0.mk (blk_below HX3.out hb)
      clear hb HE3 HX3
      clear T3
      refine ⟨_, rfl, ?_⟩
      refine hK.out _ _ ⟨(HE4.out.c3), ((blk_cell HX4.out 0).trans rfl), ((blk_cell HX4.out 1).trans rfl)⟩ (fun hHeld => ?_)
      clear hK K
      refine norm_ (a' := ?_) ?_ ?_
      rotate_left
      · show Act.put _ (some 31) _ = _
        simp only [Act.put, List.setIfInBounds_toArray, List.set_cons_zero, List.set_cons_succ, i64_w, i32_w]
        rfl
      refine one_ (i := 10) (N := some 32) #[true, true, true, true, true, true, true, true, true, true, true, false, false, false] rfl rfl (by kernel_rfl) (by decide) (fun K hK => ?_)
      refine value_ (w1 := ?_) (v := ?_) (by rfl) rfl ?_ ?_
      rotate_left 2
      · go_simp
        constructor
        · rfl
        · rfl
      refine hK.out _ _ ⟨((blk_cell (blk_alloc HE4.out.ib _) 3).trans rfl), ((blk_cell (blk_alloc HX4.out _) 0).trans rfl), ((blk_cell (blk_alloc HX4.out _) 1).trans rfl)⟩ (fun hHeld => ?_)
      clear hK K
      refine norm_ (a' := ?_) ?_ ?_
      rotate_left
      · show Act.put _ (some 32) _ = _
        simp only [Act.put, List.setIfInBounds_toArray, List.set_cons_zero, List.set_cons_succ, i64_w, i32_w]
        rfl
      refine one_ (i := 11) (N := some 33) #[true, true, true, true, true, true, true, true, true, true, true, true, false, false] rfl rfl (by kernel_rfl) (by decide) (fun K hK => ?_)
      have hR4 := nums2_R (base := w.heap.size) (ok := fun k => (k ≠ g ∧ k ≠ b) ∧ some k ≠ u.ownBlock) T4.out (by have := LB.out; omega) ⟨⟨by have := LB.out; omega, by have := LB.out; omega⟩, fun e => Nat.lt_irrefl _ (NU.out bl e.symm)⟩
      refine Kd.R_append_step k63 (w0 := V4) w.heap.size (by rfl) (.tmp 23) (.tmp 32) 61 63 (.agg #[(.int .i64 0), (.int .i64 0), (.string ⟨#[]⟩), (.slice none 0 0)]) 56 rfl Tryd.underlying61 info63 rfl (by decide) (by decide) u vs (lV [nV x.f0, nV x.f1]) [.int .i64 3, .int .i64 0, .string ⟨#[]⟩, .slice (some ⟨bl, 0, none⟩) 2 2] (fun k => k ≠ g ∧ k ≠ b) (fun k => (k ≠ g ∧ k ≠ b) ∧ some k ≠ u.ownBlock) rfl rfl (k63_mkM _ _ _ (lV [nV x.f0, nV x.f1]) hR4) (fun _ hk => hk) (fun k hk => ⟨by have h1 := blk_lt HE4.out.io; omega, by have h1 := blk_lt HE4.out.ib; omega⟩) HE4.out.hu (Below.refl _ _) (by exact HE4.out.hb.size) (by have h1 := HVL.out; omega) ?_
      intro v7 w7 ho hb hg hat
      obtain ⟨A7, c7, rfl⟩ := Kd.R_slice ho
      obtain ⟨q1, q2, q3⟩ := HE4.out.grown hb hg
      have X7 := (blk_cell q2 3).trans (show _ = some u from rfl)
      have HX7 := Aside0.mk ((hg.block _ (blk_lt HX4.out) (fun e => by have := NX.out g7 e.symm; omega)).trans HX4.out)
      have hln : (vs ++ [lV [nV x.f0, nV x.f1]]).length = vs.length + 1 := by simp
      rw [hln] at ho
      have HQ7 := Aside0.mk (And.intro q1 (And.intro q2 (And.intro q3 ho)))
      have LG := Aside0.mk (And.intro HE4.out.lg (And.intro HE4.out.lb HE4.out.ne))
      clear ho hb hg hat q1 q2 q3 hln HE4 HX4 T4 LB NU hR4
      refine hK.out _ _ ⟨X7, ((blk_cell HX7.out 0).trans rfl), ((blk_cell HX7.out 1).trans rfl)⟩ (fun hHeld => ?_)
      clear hK K
      refine norm_ (a' := ?_) ?_ ?_
      rotate_left
      · show Act.put _ (some 33) _ = _
        simp only [Act.put, List.setIfInBounds_toArray, List.set_cons_zero, List.set_cons_succ, i64_w, i32_w]
        rfl
      refine pure_ (i := 12) (N := some 34) (v := ?_) (a' := ?_) #[true, true, true, true, true, true, true, true, true, true, true, true, true, false] rfl rfl (by kernel_rfl) (fun _ _ _ h => h) (Or.inl ⟨by rfl, ?_⟩) ?_ ?_
      rotate_left
      · intro w'
        go_simp
        with_reducible rfl
      rotate_left
      · simp only [Act.put, List.setIfInBounds_toArray, List.set_cons_zero, List.set_cons_succ, i64_w, i32_w]
        rfl
      refine last_ (i := 13) (N := none) #[true, true, true, true, true, true, true, true, true, true, true, true, true, true] rfl rfl (by kernel_rfl) (by decide) (fun K hK => ?_)
      have hs7 := (blk_cell HQ7.out.2.1 3).trans (show _ = some u from rfl)
      have hf7 := blk_frozen HQ7.out.2.1 3
      refine skip_ (w1 := ?_) (by rfl) rfl ?_ ?_
      rotate_left
      · go_simp
        rfl
      refine hK.out _ _ ?_
      clear hK K
      refine done_ (by kernel_rfl) ?_
      go_wp2
      have hw : Value.int .i64 (wrap64 ((i : Int) + 1)) = .int .i64 ((i + 1 : Nat) : Int) := by have h1 := HL.out; have h2 := HIK.out; rw [IntWalk.wrap64_in _ (by omega)]; rfl
      go_roundg k1
      case measure => have := HIK.out; omega
      case rel => exact ⟨i + 1, vs ++ [lV [nV x.f0, nV x.f1]], _, hw, ⟨by have := HIK.out; omega⟩, ⟨by rw [HVS.out, HV.out]⟩, ⟨⟨below_set HQ7.out.2.2.1 LG.out.2.1, LG.out.1, LG.out.2.1, LG.out.2.2, blk_far HQ7.out.1 LG.out.2.2 _, blk_put HQ7.out.2.1 3 _ rfl, Kd.R_far HQ7.out.2.2.2 (fun _ hk => hk.2) _⟩⟩⟩

end Go.Proofs.YtncejmjicjlanaaDoor.Q
