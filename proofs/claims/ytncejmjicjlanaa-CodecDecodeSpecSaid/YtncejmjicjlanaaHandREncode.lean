/- Contract of the reference's encode: the same plain encoding encP; nothing that was there changes, the bytes are new. Conditions: the value's lists read as told, the encoding is no longer than memory holds. -/
import Derived.Test.YtncejmjicjlanaaQ3
import Derived.Test.YtncejmjicjlanaaPNum
import Derived.Test.YtncejmjicjlanaaHandStr
namespace Go.Proofs.Ytncejmjicjlanaa.Q
open Go.RowKit Go.Proofs.YtncejmjicjlanaaW.PrintWords Go.Proofs.YtncejmjicjlanaaW.PrintLast Go.Proofs.YtncejmjicjlanaaW.PrintMore
set_option linter.unusedVariables false
set_option linter.unusedSimpArgs false
theorem rnumeral_eval : ∀ (k : Nat) (u : Int), 0 ≤ u → u < 128 ^ (k + 1) → k ≤ 20 → u < 18446744073709551616 → chartroomref01_numeral.f (k + 1) u = some (numF (k + 1) u)
  | 0, u, h0, h1, hk, hu => by
    unfold chartroomref01_numeral.f numF
    rw [if_pos (by simp at h1; omega), if_neg (by simp at h1; omega)]
  | k + 1, u, h0, h1, hk, hu => by
    unfold chartroomref01_numeral.f numF
    by_cases h : u < 128
    · rw [if_pos h, if_neg (by omega)]
    · rw [if_neg h, if_pos (by omega)]
      have e1 : Int.tmod u 128 = u % 128 := Int.tmod_eq_emod_of_nonneg h0
      have e2 : Int.tdiv u 128 = u / 128 := Int.tdiv_eq_ediv_of_nonneg h0
      have e3 : IntKind.u64.wrap (u / 128) = u / 128 := by rw [IntKind.wrap_u64]; omega
      have e4 : IntKind.u64.wrap (u % 128 + 128) % 256 = u % 128 + 128 := by rw [IntKind.wrap_u64]; omega
      rw [e1, e2, e3, e4, rnumeral_eval k (u / 128) (by omega) (by rw [Int.pow_succ] at h1; omega) (by omega) (by omega)]
      have hl := numF_len (k + 1) (u / 128)
      simp only [Option.bind_some]
      rw [if_pos (by simp; omega), first_digit u h0]
      rfl
theorem rnuml_eval (u : Int) (h0 : 0 ≤ u) (h1 : u < 18446744073709551616) : chartroomref01_numeral.f 10 u = some (numl u) :=
  rnumeral_eval 9 u h0 (by have : (18446744073709551616 : Int) ≤ 128 ^ (9 + 1) := by decide
                           omega) (by decide) h1
theorem runs_eval (n : Int) (h0 : -9223372036854775808 ≤ n) (h1 : n ≤ 9223372036854775807) : chartroomref01_unsigned.f n = some (unsP n) := by
  unfold chartroomref01_unsigned.f
  rw [unsP_eq n h0 h1]
  by_cases h : n ≥ 0
  · rw [if_pos h, if_pos (by omega)]
    simp only [IntKind.wrap_u64]
    congr 1
    omega
  · rw [if_neg h, if_neg (by omega), IntWalk.wrap64_in (n + 1) (by omega), IntWalk.wrap64_in _ (by omega)]
    simp only [IntKind.wrap_u64]
    congr 1
    omega
/-- One new byte, as a row of the call's own. -/
theorem lit1_R {W : World} {B base : Nat} {x : Int} {ok : Nat → Prop} (h : W.heap[B]? = some (.cells #[.int .u8 x] 5 (0, 0))) (hb : base ≤ B) (hok : ok B) : Kd.R (Kd.int .u8) 5 W base ok (.slice (some ⟨B, 0, none⟩) 1 1) [x] :=
  Kd.R_of_own ⟨rfl, .inr ⟨B, 1, _, rfl, hb, h, (by simp), by decide, rfl, rfl⟩⟩ (fun k hk => by
    simp [Value.ownBlock] at hk
    exact hk ▸ hok)
/-- The contract, for values up to a size. -/
def REncOk (n : Nat) : Prop := ∀ (v : S24) (A : Option Addr) (c : Nat) (w : World), SizeOf.sizeOf v < n → okI v = true → Kd.C k24 w A v.f3.length v.f3 → v.f3.length ≤ c → (encP v).length < 140737487000000 →
    Calls Try.prog 23 #[.agg #[.int .i64 v.f0, .int .i64 v.f1, .string v.f2, .slice A v.f3.length c]] w fun e w' => ∃ v0_ : Value, e = .returned v0_ ∧ Kd.R (Kd.int .u8) 5 w' w.heap.size (fun _ => True) v0_ (encP v) ∧ Below w.heap.size w w'
set_option maxHeartbeats 4000000 in
set_option maxRecDepth 100000 in
theorem renc_int (K N : Int) (S : ByteArray) (A : Option Addr) (c : Nat) (L : List S24) (w : World) (hK : K = 1) (hn0 : -9223372036854775808 ≤ N) (hn1 : N ≤ 9223372036854775807) (hr : Kd.C k24 w A L.length L) (hc : L.length ≤ c) (hl : (1 :: numl (unsP N)).length < 140737487000000) :
    Calls Try.prog 23 #[.agg #[.int .i64 K, .int .i64 N, .string S, .slice A L.length c]] w fun e w' => ∃ v0_ : Value, e = .returned v0_ ∧ Kd.R (Kd.int .u8) 5 w' w.heap.size (fun _ => True) v0_ (1 :: numl (unsP N)) ∧ Below w.heap.size w w' := by
  have hu24 := Try.underlying24
  have HR := Aside0.mk hr
  have HC := Aside0.mk hc
  have HL := Aside0.mk hl
  have HU := Aside0.mk (runs_eval N hn0 hn1)
  subst hK
  clear hr hc hl hn0 hn1
  go_enter Try.func23, Try.ntmps23
  go_wp2_with fail
  have hT := blk_new (w.alloc (.cells #[.int .i64 1, .int .i64 N, .string S, .slice A L.length c] 24)) (.cells #[.int .u8 1] 5)
  rw [World.size_alloc] at hT
  have hb := below_alloc (below_alloc (Below.refl w.heap.size w) (.cells #[.int .i64 1, .int .i64 N, .string S, .slice A L.length c] 24)) (.cells #[.int .u8 1] 5)
  generalize (w.alloc (.cells #[.int .i64 1, .int .i64 N, .string S, .slice A L.length c] 24)).alloc (.cells #[.int .u8 1] 5) = W1 at *
  refine (chartroomref01_unsigned.calls N (unsP N) W1 HU.out).mono ?_
  rintro e W2 ⟨rfl, n2, rfl⟩
  have hru := unsP_range N
  go_wp2_with fail
  refine (chartroomref01_numeral.calls 10 (unsP N) (numl (unsP N)) (W1.drewN n2) (rnuml_eval _ hru.1 hru.2)).mono ?_
  rintro e W3 ⟨v3, rfl, hR3, hb3⟩
  have hT3 := blk_below (blk_drewN hT n2) hb3
  have hs3 := blk_lt (blk_drewN hT n2)
  have HO := Aside0.mk (lit1_R (ok := fun k => k = w.heap.size + 1 ∨ W3.heap.size ≤ k) hT3 (Nat.le_succ _) (.inl rfl))
  have HBn := Aside0.mk ((pw_below_drewN hb n2).trans (hb3.mono (pw_below_drewN hb n2).size))
  obtain ⟨A3, c3, rfl, hc3, hC3⟩ := Kd.R_reads hR3
  have HC3 := Aside0.mk hC3
  clear hb hT hT3 hR3 hb3 hc3 hC3
  have hl2 := numF_len 10 (unsP N)
  go_wp2_with (first | ((with_reducible refine gate_builtin (b := .append) (xs := #[.tmp 9, .tmp 13]) rfl ?_); at_builtin; refine Kd.R_append_rows (Kd.int .u8) (w0 := w) w.heap.size rfl (.tmp 9) (.tmp 13) 27 5 (.int .u8 0) 1 rfl Try.underlying27 info5 rfl (by decide) (by omega) (.slice (some ⟨w.heap.size + 1, 0, none⟩) 1 1) [1] (numl (unsP N)) _ _ _ (fun k => k = w.heap.size + 1 ∨ W3.heap.size ≤ k) (fun _ => False) rfl rfl HO.out HC3.out (fun _ _ h => h) (fun _ h => h.elim) (fun k hk => by omega) HBn.out (by have := HBn.out.size; omega) (by have : (numl (unsP N)).length ≤ 10 := hl2; simp; omega) ?_; intro v9 w9 ho hb hg hat; have HO9 := Aside0.mk ho; have HB9 := Aside0.mk hb; have HG9 := Aside0.mk hg; clear ho hb hg hat))
  refine bodyPost_ret (v := v9) (by simp [results, Try.results23, go_sem]) rfl ⟨_, rfl, Kd.R_mono HO9.out (fun _ _ => trivial), HB9.out⟩
set_option maxHeartbeats 4000000 in
set_option maxRecDepth 100000 in
theorem renc_text (K N : Int) (S : ByteArray) (A : Option Addr) (c : Nat) (L : List S24) (w : World) (hK : K = 2) (hr : Kd.C k24 w A L.length L) (hc : L.length ≤ c) (hl : (2 :: (numl (S.size : Int) ++ bytesOf S)).length < 140737487000000) :
    Calls Try.prog 23 #[.agg #[.int .i64 K, .int .i64 N, .string S, .slice A L.length c]] w fun e w' => ∃ v0_ : Value, e = .returned v0_ ∧ Kd.R (Kd.int .u8) 5 w' w.heap.size (fun _ => True) v0_ (2 :: (numl (S.size : Int) ++ bytesOf S)) ∧ Below w.heap.size w w' := by
  have hu24 := Try.underlying24
  have HR := Aside0.mk hr
  have HC := Aside0.mk hc
  have HL := Aside0.mk hl
  have hsz : S.size < 140737487000000 := by simp [bytesOf_length] at hl; omega
  have HSZ := Aside0.mk hsz
  have hsw : IntKind.u64.wrap (S.size : Int) = (S.size : Int) := by rw [IntKind.wrap_u64]; omega
  subst hK
  clear hr hc hl hsz
  go_enter Try.func23, Try.ntmps23
  go_wp2_with fail
  have BK := Aside0.mk (blk_new w (.cells #[.int .i64 2, .int .i64 N, .string S, .slice A L.length c] 24))
  have HB := Aside0.mk (below_alloc (Below.refl w.heap.size w) (.cells #[.int .i64 2, .int .i64 N, .string S, .slice A L.length c] 24))
  generalize w.alloc (.cells #[.int .i64 2, .int .i64 N, .string S, .slice A L.length c] 24) = W0 at *
  refine start_ (n := 11) (S := fun w' => w'.cell? ⟨w.heap.size, 2, none⟩ = some (.string S)) (ds := []) #[false, false, false, false, false, false, false, false, false, false, false] (by kernel_rfl) rfl rfl ((by exact (blk_cell BK.out 2).trans rfl)) (fun hHeld => ?_)
  replace BK := Aside0.mk (blk_drew BK.out)
  replace HB := Aside0.mk (below_drew1 HB.out)
  generalize W0.drew = W1 at BK HB hHeld ⊢
  refine pure_ (i := 1) (N := some 18) (v := ?_) (a' := ?_) #[false, true, false, false, false, false, false, false, false, false, false] rfl rfl (by kernel_rfl) (fun _ _ _ h => h) (Or.inl ⟨by rfl, ?_⟩) ?_ ?_
  rotate_left
  · intro w'
    go_simp
    with_reducible rfl
  rotate_left
  · simp only [Act.put, List.setIfInBounds_toArray, List.set_cons_zero, List.set_cons_succ, i64_w, i32_w]
    rfl
  refine pure_ (i := 7) (N := some 24) (v := ?_) (a' := ?_) #[false, true, false, false, false, false, false, true, false, false, false] rfl rfl (by kernel_rfl) (fun _ _ _ h => h) (Or.inl ⟨by rfl, ?_⟩) ?_ ?_
  rotate_left
  · intro w'
    go_simp
    with_reducible rfl
  rotate_left
  · simp only [Act.put, List.setIfInBounds_toArray, List.set_cons_zero, List.set_cons_succ, i64_w, i32_w]
    rfl
  refine take_ (i := 2) (N := some 19) (v := ?_) (a' := ?_) #[false, true, true, false, false, false, false, true, false, false, false] rfl rfl (by kernel_rfl) (fun _ _ _ h => h) (Or.inl ⟨by rfl, ?_⟩) hHeld ?_ ?_
  rotate_left
  · intro w' s0
    go_simp
    with_reducible rfl
  rotate_left
  · simp only [Act.put, List.setIfInBounds_toArray, List.set_cons_zero, List.set_cons_succ, i64_w, i32_w]
    rfl
  refine pure_ (i := 3) (N := some 20) (v := ?_) (a' := ?_) #[false, true, true, true, false, false, false, true, false, false, false] rfl rfl (by kernel_rfl) (fun _ _ _ h => h) (Or.inl ⟨by rfl, ?_⟩) ?_ ?_
  rotate_left
  · intro w'
    go_simp
    with_reducible rfl
  rotate_left
  · simp only [Act.put, List.setIfInBounds_toArray, List.set_cons_zero, List.set_cons_succ, i64_w, i32_w]
    rfl
  refine pure_ (i := 4) (N := some 21) (v := ?_) (a' := ?_) #[false, true, true, true, true, false, false, true, false, false, false] rfl rfl (by kernel_rfl) (fun _ _ _ h => h) (Or.inl ⟨by rfl, ?_⟩) ?_ ?_
  rotate_left
  · intro w'
    go_simp
    with_reducible rfl
  rotate_left
  · simp only [Act.put, List.setIfInBounds_toArray, List.set_cons_zero, List.set_cons_succ, i64_w, i32_w]
    rfl
  refine take_ (i := 8) (N := some 25) (v := ?_) (a' := ?_) #[false, true, true, true, true, false, false, true, true, false, false] rfl rfl (by kernel_rfl) (fun _ _ _ h => h) (Or.inl ⟨by rfl, ?_⟩) hHeld ?_ ?_
  rotate_left
  · intro w' s0
    go_simp
    with_reducible rfl
  rotate_left
  · simp only [Act.put, List.setIfInBounds_toArray, List.set_cons_zero, List.set_cons_succ, i64_w, i32_w]
    rfl
  refine join_ (σ := Nat × Option Addr × Nat) 3 #[true, true, true, true, true, true, false, true, true, false, false] (fun s => [(17, .slice (some ⟨s.1, 0, none⟩) 1 1), (22, .slice s.2.1 (numl (S.size : Int)).length s.2.2)]) (fun s w' => w'.heap[s.1]? = some (.cells #[.int .u8 2] 5 (0, 0)) ∧ w.heap.size + 1 ≤ s.1 ∧ Kd.C (Kd.int .u8) w' s.2.1 (numl (S.size : Int)).length (numl (S.size : Int)) ∧ Below w.heap.size w w' ∧ w'.heap[w.heap.size]? = some (.cells #[.int .i64 2, .int .i64 N, .string S, .slice A L.length c] 24 (0, 0))) ?_ ?_
  rotate_left
  · intro hCont
    refine two_ (i := 0) (j := 5) (Ni := some 17) (Nj := some 22) #[true, true, true, true, true, false, false, true, true, false, false] #[false, true, true, true, true, true, false, true, true, false, false] rfl rfl rfl rfl (by kernel_rfl) (by decide) (by decide) (fun K hK => ?_) (fun K hK => ?_)
    · skip
      refine value_ (w1 := ?_) (v := ?_) (by rfl) rfl ?_ ?_
      rotate_left 2
      · go_simp
        constructor
        · rfl
        · rfl
      refine hK.out _ _ (((blk_cell (blk_alloc BK.out _) 2).trans rfl)) (fun hHeld => ?_)
      clear hK K
      refine norm_ (a' := ?_) ?_ ?_
      rotate_left
      · show Act.put _ (some 17) _ = _
        simp only [Act.put, List.setIfInBounds_toArray, List.set_cons_zero, List.set_cons_succ, i64_w, i32_w]
        rfl
      refine one_ (i := 5) (N := some 22) #[true, true, true, true, true, true, false, true, true, false, false] rfl rfl (by kernel_rfl) (by decide) (fun K hK => ?_)
      refine goes_ Try.func38 (by kernel_rfl) rfl #[.int .u64 (S.size : Int)] (by rfl) rfl rfl (by simp only [List.map_toArray, List.map_cons, List.map_nil]; rfl) ?_
      refine (chartroomref01_numeral.calls 10 (S.size : Int) (numl (S.size : Int)) (W1.alloc (.cells #[.int .u8 2] 5)) (rnuml_eval _ (by omega) (by have := HSZ.out; omega))).mono ?_
      rintro e W3 ⟨v3, rfl, hR3, hb3⟩
      obtain ⟨A3, c3, rfl, hc3, hC3⟩ := Kd.R_reads hR3
      refine ⟨_, rfl, ?_⟩
      refine hK.out _ _ (((blk_cell (blk_below (blk_alloc BK.out _) hb3) 2).trans rfl)) (fun hHeld => ?_)
      clear hK K
      refine norm_ (a' := ?_) ?_ ?_
      rotate_left
      · show Act.put _ (some 22) _ = _
        simp only [Act.put, List.setIfInBounds_toArray, List.set_cons_zero, List.set_cons_succ, i64_w, i32_w]
        rfl
      exact norm_ (by simp only [putAll, Act.put, List.setIfInBounds_toArray, List.set_cons_zero, List.set_cons_succ]) (hCont (W1.heap.size, A3, c3) _ ⟨blk_below (blk_new W1 (.cells #[.int .u8 2] 5)) hb3, (by have := blk_lt BK.out; omega), hC3, (below_alloc HB.out (.cells #[.int .u8 2] 5)).trans (hb3.mono (by have := HB.out.size; simp; omega)), blk_below (blk_alloc BK.out (.cells #[.int .u8 2] 5)) hb3⟩)
    · skip
      refine goes_ Try.func38 (by kernel_rfl) rfl #[.int .u64 (S.size : Int)] (by rfl) rfl rfl (by simp only [List.map_toArray, List.map_cons, List.map_nil]; rfl) ?_
      refine (chartroomref01_numeral.calls 10 (S.size : Int) (numl (S.size : Int)) (W1) (rnuml_eval _ (by omega) (by have := HSZ.out; omega))).mono ?_
      rintro e W3 ⟨v3, rfl, hR3, hb3⟩
      obtain ⟨A3, c3, rfl, hc3, hC3⟩ := Kd.R_reads hR3
      refine ⟨_, rfl, ?_⟩
      refine hK.out _ _ (((blk_cell (blk_below BK.out hb3) 2).trans rfl)) (fun hHeld => ?_)
      clear hK K
      refine norm_ (a' := ?_) ?_ ?_
      rotate_left
      · show Act.put _ (some 22) _ = _
        simp only [Act.put, List.setIfInBounds_toArray, List.set_cons_zero, List.set_cons_succ, i64_w, i32_w]
        rfl
      refine one_ (i := 0) (N := some 17) #[true, true, true, true, true, true, false, true, true, false, false] rfl rfl (by kernel_rfl) (by decide) (fun K hK => ?_)
      refine value_ (w1 := ?_) (v := ?_) (by rfl) rfl ?_ ?_
      rotate_left 2
      · go_simp
        constructor
        · rfl
        · rfl
      refine hK.out _ _ (((blk_cell (blk_alloc (blk_below BK.out hb3) _) 2).trans rfl)) (fun hHeld => ?_)
      clear hK K
      refine norm_ (a' := ?_) ?_ ?_
      rotate_left
      · show Act.put _ (some 17) _ = _
        simp only [Act.put, List.setIfInBounds_toArray, List.set_cons_zero, List.set_cons_succ, i64_w, i32_w]
        rfl
      exact norm_ (by simp only [putAll, Act.put, List.setIfInBounds_toArray, List.set_cons_zero, List.set_cons_succ]) (hCont (W3.heap.size, A3, c3) _ ⟨blk_new W3 (.cells #[.int .u8 2] 5), (by have h1 := blk_lt BK.out; have h2 := hb3.size; omega), Kd.C_below hC3 (below_alloc (Below.refl _ _) _), below_alloc (HB.out.trans (hb3.mono HB.out.size)) (.cells #[.int .u8 2] 5), blk_alloc (blk_below BK.out hb3) _⟩)
  rintro ⟨B, A3, c3⟩ W4 ⟨hLit, hBs, hC4, hb4, hbk4⟩
  have hHeld : W4.cell? ⟨w.heap.size, 2, none⟩ = some (.string S) := (blk_cell hbk4 2).trans rfl
  have HO := Aside0.mk (lit1_R (ok := fun k => k = B ∨ W4.heap.size ≤ k) hLit (Nat.le_trans (Nat.le_succ _) hBs) (.inl rfl))
  have hB4 := blk_lt hLit
  have HC4 := Aside0.mk hC4
  have HBn := Aside0.mk hb4
  have BK4 := Aside0.mk hbk4
  clear hLit hC4 hb4 hbk4 BK HB
  refine norm_ (a' := ?_) ?_ ?_
  rotate_left
  · simp only [putAll, Act.put, List.setIfInBounds_toArray, List.set_cons_zero, List.set_cons_succ]
    rfl
  refine one_ (i := 6) (N := some 23) #[true, true, true, true, true, true, true, true, true, false, false] rfl rfl (by kernel_rfl) (by decide) (fun K hK => ?_)
  refine Kd.R_append_rows_step (Kd.int .u8) (w0 := w) w.heap.size (by rfl) (.tmp 17) (.tmp 22) 27 5 (.int .u8 0) 1 rfl Try.underlying27 info5 rfl (by decide) (by omega) (.slice (some ⟨B, 0, none⟩) 1 1) [2] (numl (S.size : Int)) _ _ _ (fun k => k = B ∨ W4.heap.size ≤ k) (fun _ => False) rfl rfl HO.out HC4.out (fun _ _ h => h) (fun _ h => h.elim) (fun k hk => .inr hk) HBn.out (by have := HBn.out.size; omega) (by have : (numl (S.size : Int)).length ≤ 10 := numF_len 10 _; simp; omega) ?_
  intro v5 W5 ho hb hg hat
  have HLT := Aside0.mk (show w.heap.size < W4.heap.size from blk_lt BK4.out)
  have BK5 := Aside0.mk (blk_grown BK4.out hg (Kd.R_away HO.out (fun k hk => by have h4 := blk_lt BK4.out; omega)))
  have HO5 := Aside0.mk ho
  have HB5 := Aside0.mk hb
  have hs5 : W4.heap.size ≤ W5.heap.size := hg.size
  clear BK4 ho hb hg hat HO HC4 HBn
  refine hK.out _ _ (((blk_cell BK5.out 2).trans rfl)) (fun hHeld => ?_)
  clear hK K
  refine norm_ (a' := ?_) ?_ ?_
  rotate_left
  · show Act.put _ (some 23) _ = _
    simp only [Act.put, List.setIfInBounds_toArray, List.set_cons_zero, List.set_cons_succ, i64_w, i32_w]
    rfl
  refine one_ (i := 9) (N := some 26) #[true, true, true, true, true, true, true, true, true, true, false] rfl rfl (by kernel_rfl) (by decide) (fun K hK => ?_)
  refine append_str_step (w0 := w) w.heap.size (by rfl) (.tmp 23) (.tmp 25) 27 9 5 rfl Try.underlying27 Try.underlying9 info5 v5 _ S (fun k => k = B ∨ W4.heap.size ≤ k) rfl rfl (fun k hk => .inr (by omega)) HO5.out HB5.out (by have := HB5.out.size; omega) (by have h1 := HL.out; simp [bytesOf_length] at h1 ⊢; omega) ?_
  intro v7 W7 ho hb hg
  have BK7 := Aside0.mk (blk_grown BK5.out hg (Kd.R_away HO5.out (fun k hk => by have h4 := HLT.out; omega)))
  have HO7 := Aside0.mk ho
  have HB7 := Aside0.mk hb
  clear BK5 HO5 HB5 ho hb hg
  refine hK.out _ _ (((blk_cell BK7.out 2).trans rfl)) (fun hHeld => ?_)
  clear hK K
  refine norm_ (a' := ?_) ?_ ?_
  rotate_left
  · show Act.put _ (some 26) _ = _
    simp only [Act.put, List.setIfInBounds_toArray, List.set_cons_zero, List.set_cons_succ, i64_w, i32_w]
    rfl
  refine pure_ (i := 10) (N := some 2) (v := ?_) (a' := ?_) #[true, true, true, true, true, true, true, true, true, true, true] rfl rfl (by kernel_rfl) (fun _ _ _ h => h) (Or.inl ⟨by rfl, ?_⟩) ?_ ?_
  rotate_left
  · intro w'
    go_simp
    with_reducible rfl
  rotate_left
  · simp only [Act.put, List.setIfInBounds_toArray, List.set_cons_zero, List.set_cons_succ, i64_w, i32_w]
    rfl
  refine done_ (by kernel_rfl) ?_
  go_wp2
  refine bodyPost_ret (v := v7) (by simp [results, Try.results23, go_sem]) rfl ⟨_, rfl, ?_, HB7.out⟩
  have h := Kd.R_mono HO7.out (ok' := fun _ => True) (fun _ _ => trivial)
  simpa using h
set_option maxHeartbeats 4000000 in
set_option maxRecDepth 100000 in
theorem renc_list (K N : Int) (S : ByteArray) (A : Option Addr) (c : Nat) (L : List S24) (w : World) (n : Nat) (ih : REncOk n) (hs : SizeOf.sizeOf L ≤ n) (hok : okIL L = true) (k1 : ¬ K = 1) (k2 : ¬ K = 2) (hr : Kd.C k24 w A L.length L) (hc : L.length ≤ c) (hl : (3 :: (numl (L.length : Int) ++ encL L)).length < 140737487000000) :
    Calls Try.prog 23 #[.agg #[.int .i64 K, .int .i64 N, .string S, .slice A L.length c]] w fun e w' => ∃ v0_ : Value, e = .returned v0_ ∧ Kd.R (Kd.int .u8) 5 w' w.heap.size (fun _ => True) v0_ (3 :: (numl (L.length : Int) ++ encL L)) ∧ Below w.heap.size w w' := by
  have hu24 := Try.underlying24
  have HR := Aside0.mk hr
  have HC := Aside0.mk hc
  have HL := Aside0.mk hl
  have hll : L.length < 140737487000000 := by have := encL_len L; simp at hl; omega
  have HLL := Aside0.mk hll
  have hsw : IntKind.u64.wrap (L.length : Int) = (L.length : Int) := by rw [IntKind.wrap_u64]; omega
  have e1 : (K == 1) = false := by simpa using k1
  have e2 : (K == 2) = false := by simpa using k2
  have IH := Aside0.mk ih
  have HS := Aside0.mk hs
  have HOK := Aside0.mk hok
  clear hr hc hl ih hs hok k1 k2 hll
  go_enter Try.func23, Try.ntmps23
  go_wp2_with fail
  have hT := blk_new (w.alloc (.cells #[.int .i64 K, .int .i64 N, .string S, .slice A L.length c] 24)) (.cells #[.int .u8 3] 5)
  have hX := blk_alloc (blk_new w (.cells #[.int .i64 K, .int .i64 N, .string S, .slice A L.length c] 24)) (.cells #[.int .u8 3] 5)
  rw [World.size_alloc] at hT
  have hb := below_alloc (below_alloc (Below.refl w.heap.size w) (.cells #[.int .i64 K, .int .i64 N, .string S, .slice A L.length c] 24)) (.cells #[.int .u8 3] 5)
  generalize (w.alloc (.cells #[.int .i64 K, .int .i64 N, .string S, .slice A L.length c] 24)).alloc (.cells #[.int .u8 3] 5) = W1 at *
  refine (chartroomref01_numeral.calls 10 (L.length : Int) (numl (L.length : Int)) W1 (rnuml_eval _ (by omega) (by have := HLL.out; omega))).mono ?_
  rintro e W3 ⟨v3, rfl, hR3, hb3⟩
  have hT3 := blk_below hT hb3
  have HSZ3 := Aside0.mk (show w.heap.size + 1 < W3.heap.size from blk_lt hT3)
  have HO := Aside0.mk (lit1_R (ok := fun k => w.heap.size + 1 ≤ k) hT3 (Nat.le_succ _) (Nat.le_refl _))
  have HBn := Aside0.mk (hb.trans (hb3.mono hb.size))
  have BK3 := Aside0.mk (blk_below hX hb3)
  obtain ⟨A3, c3, rfl, hc3, hC3⟩ := Kd.R_reads hR3
  have HC3 := Aside0.mk hC3
  clear hb hT hT3 hX hR3 hb3 hc3 hC3
  go_wp2_with (first | ((with_reducible refine gate_builtin (b := .append) (xs := #[.tmp 27, .tmp 32]) rfl ?_); at_builtin; refine Kd.R_append_rows (Kd.int .u8) (w0 := w) w.heap.size rfl (.tmp 27) (.tmp 32) 27 5 (.int .u8 0) 1 rfl Try.underlying27 info5 rfl (by decide) (by omega) (.slice (some ⟨w.heap.size + 1, 0, none⟩) 1 1) [3] (numl (L.length : Int)) _ _ _ (fun k => w.heap.size + 1 ≤ k) (fun _ => False) rfl rfl HO.out HC3.out (fun _ _ h => h) (fun _ h => h.elim) (fun k hk => by have := HBn.out.size; have := HSZ3.out; omega) HBn.out (by have := HBn.out.size; omega) (by have : (numl (L.length : Int)).length ≤ 10 := numF_len 10 _; simp; omega) ?_; intro v9 w9 ho hb hg hat; have HO9 := Aside0.mk ho; have HB9 := Aside0.mk hb; have HG9 := Aside0.mk hg; clear ho hb hg hat))
  have BK9 := Aside0.mk (blk_grown BK3.out HG9.out (Kd.R_away HO.out (fun k hk => by omega)))
  clear BK3 HG9 HO HC3 HBn HSZ3
  go_loopg [3, 4] L.length (fun kq u3 v4 wr => ∃ (i : Nat), v4 = .int .i64 (i : Int) ∧ Aside0 (i + kq = L.length) ∧ Aside0 (Kd.R (Kd.int .u8) 5 wr w.heap.size (fun k => w.heap.size + 1 ≤ k) u3 ([3] ++ numl (L.length : Int) ++ encL (L.take i))) ∧ Aside0 (wr.heap[w.heap.size]? = some (.cells #[.int .i64 K, .int .i64 N, .string S, .slice A L.length c] 24 (0, 0))) ∧ Aside0 (Below w.heap.size w wr))
  case atStart => exact ⟨0, rfl, ⟨by omega⟩, ⟨by simpa [encL] using HO9.out⟩, BK9, HB9⟩
  case round =>
    clear HO9 BK9 HB9
    obtain ⟨i, rfl, HIK, HO5, BK5, HB5⟩ := hrel
    have hc3 : wr.cell? ⟨w.heap.size, 3, none⟩ = some (.slice A L.length c) := (blk_cell BK5.out 3).trans rfl
    cases gk with
    | zero =>
      have hlt : decide (i < L.length) = false := by have := HIK.out; simp; omega
      have hi : i = L.length := by have := HIK.out; omega
      go_wp2
      refine bodyPost_ret (v := u3) (by simp [results, Try.results23, go_sem]) rfl ⟨_, rfl, ?_, HB5.out⟩
      have h := Kd.R_mono HO5.out (ok' := fun _ => True) (fun _ _ => trivial)
      rw [hi, List.take_length] at h
      simpa using h
    | succ k1 =>
      have hi : i < L.length := by have := HIK.out; omega
      have hlt : decide (i < L.length) = true := by simpa using hi
      obtain ⟨ad, A1, c1, rfl, hx0, hx1, hx2, hx3, hl3, hi3⟩ := at_T24 (Kd.C_below HR.out HB5.out) (i : Int) (by omega) (by omega)
      have hrd : rd_T24 L (i : Int) = L[i] := by simp [rd_T24, List.getD, List.getElem?_eq_getElem hi]
      have HXm := Aside0.mk (show L[i] ∈ L from List.getElem_mem hi)
      rw [hrd] at hx0 hx1 hx2 hx3 hl3 hi3
      have HXS := Aside0.mk (encL_snoc L i hi)
      have HEL := Aside0.mk (encL_take_le L (i + 1))
      generalize hxx : L[i] = x at *
      obtain ⟨K1, N1, S1, L1⟩ := x
      simp only [Int.toNat_natCast] at hx0 hx1 hx2 hx3 hl3 hi3
      clear hrd hxx
      have hlx : (encP ⟨K1, N1, S1, L1⟩).length < 140737487000000 := by
        have h1 := HL.out
        have h2 := HEL.out
        rw [HXS.out] at h2
        simp at h1 h2 ⊢
        omega
      have HX := Aside0.mk (IH.out ⟨K1, N1, S1, L1⟩ A1 c1 wr (Nat.lt_of_lt_of_le (List.sizeOf_lt_of_mem HXm.out) HS.out) (okIL_mem HOK.out HXm.out) hi3 hl3 hlx)
      clear hi3 hl3 hlx
      go_wp2_with fail
      clear hx0 hx1 hx2 hx3 hc3
      refine HX.out.mono ?_
      rintro e W6 ⟨v9, rfl, hR9, hb9⟩
      obtain ⟨A9, c9, rfl, _, hC9⟩ := Kd.R_reads hR9
      have HC9 := Aside0.mk hC9
      have HO6 := Aside0.mk (Kd.R_below HO5.out hb9)
      have HBn := Aside0.mk (HB5.out.trans (hb9.mono HB5.out.size))
      have BK6 := Aside0.mk (blk_below BK5.out hb9)
      have HS6 := Aside0.mk (show w.heap.size < W6.heap.size from blk_lt BK6.out)
      clear hR9 hb9 hC9 HX HO5 HB5 BK5
      go_wp2_with (first | ((with_reducible refine gate_builtin (b := .append) (xs := #[.tmp 41, .tmp 47]) rfl ?_); at_builtin; refine Kd.R_append_rows (Kd.int .u8) (w0 := w) w.heap.size rfl (.tmp 41) (.tmp 47) 27 5 (.int .u8 0) 1 rfl Try.underlying27 info5 rfl (by decide) (by omega) u3 ([3] ++ numl (L.length : Int) ++ encL (L.take i)) (encP ⟨K1, N1, S1, L1⟩) _ _ _ (fun k => w.heap.size + 1 ≤ k) (fun _ => False) rfl rfl HO6.out HC9.out (fun _ _ h => h) (fun _ h => h.elim) (fun k hk => by have := HBn.out.size; have := HS6.out; omega) HBn.out (by have := HBn.out.size; omega) (by have h1 := HL.out; have h2 := HEL.out; rw [HXS.out] at h2; simp at h1 h2 ⊢; omega) ?_; intro v9 w9 ho hb hg hat; have HO9 := Aside0.mk ho; have HB9 := Aside0.mk hb; have HG9 := Aside0.mk hg; clear ho hb hg hat))
      have BK9 := Aside0.mk (blk_grown BK6.out HG9.out (Kd.R_away HO6.out (fun k hk => by omega)))
      clear BK6 HG9 HO6 HC9 HBn HS6
      have hw : Value.int .i64 (wrap64 ((i : Int) + 1)) = .int .i64 ((i + 1 : Nat) : Int) := by have h1 := HLL.out; have h2 := HIK.out; rw [IntWalk.wrap64_in _ (by omega)]; rfl
      go_roundg k1
      case measure => have := HIK.out; omega
      case rel =>
        refine ⟨i + 1, hw, ⟨by have := HIK.out; omega⟩, ⟨?_⟩, BK9, HB9⟩
        rw [HXS.out]
        simpa using HO9.out
theorem renc_calls : ∀ n, REncOk n
  | 0 => fun v _ _ _ h => absurd h (by omega)
  | n + 1 => by
    intro v A c w hs hok hr hc hl
    obtain ⟨K, N, S, L⟩ := v
    simp only at hr hc
    have hp := okI_parts hok
    by_cases k1 : K = 1
    · have e : encP ⟨K, N, S, L⟩ = 1 :: numl (unsP N) := by simp [encP, k1]
      rw [e] at hl ⊢
      exact renc_int K N S A c L w k1 hp.1.1.1 hp.1.1.2 hr hc hl
    by_cases k2 : K = 2
    · have e : encP ⟨K, N, S, L⟩ = 2 :: (numl (S.size : Int) ++ bytesOf S) := by simp [encP, k2]
      rw [e] at hl ⊢
      exact renc_text K N S A c L w k2 hr hc hl
    · have e : encP ⟨K, N, S, L⟩ = 3 :: (numl (L.length : Int) ++ encL L) := by simp [encP, k1, k2]
      rw [e] at hl ⊢
      exact renc_list K N S A c L w n (renc_calls n) (by rw [S24.mk.sizeOf_spec] at hs; omega) hp.2 k1 k2 hr hc hl
def chartroomref01_encode.f (k : Nat) (a0_0 : Int) (a0_1 : Int) (a0_2 : ByteArray) (l0_3 : List (S24)) : Option (List Int) := if (encP ⟨a0_0, a0_1, a0_2, l0_3⟩).length < 140737487000000 then (if okI ⟨a0_0, a0_1, a0_2, l0_3⟩ = true then some (encP ⟨a0_0, a0_1, a0_2, l0_3⟩) else none) else none
theorem chartroomref01_encode.mono : ∀ a0 a1 a2 a3 k, LeO (chartroomref01_encode.f k a0 a1 a2 a3) (chartroomref01_encode.f (k + 1) a0 a1 a2 a3) := fun _ _ _ _ _ => LeO.refl _
theorem chartroomref01_encode.calls (k : Nat) (a0_0 : Int) (a0_1 : Int) (a0_2 : ByteArray) (A0_3 : Option Addr) (c0_3 : Nat) (l0_3 : List (S24)) (r : List Int) (w : World) (hr0_3 : Kd.C k24 w A0_3 l0_3.length l0_3) (hc0_3 : l0_3.length ≤ c0_3) (h : chartroomref01_encode.f k a0_0 a0_1 a0_2 l0_3 = some r) :
    Calls Try.prog 23 #[.agg #[.int .i64 a0_0, .int .i64 a0_1, .string a0_2, .slice A0_3 l0_3.length c0_3]] w fun e w' => ∃ v0_ : Value, e = .returned (v0_) ∧ Kd.R (Kd.int .u8) 5 w' w.heap.size (fun _ => True) v0_ r ∧ Below w.heap.size w w' := by
  unfold chartroomref01_encode.f at h
  split at h
  · rename_i hl
    split at h
    · rename_i hok
      injection h with h
      subst h
      exact renc_calls _ ⟨a0_0, a0_1, a0_2, l0_3⟩ A0_3 c0_3 w (Nat.lt_succ_self _) hok hr0_3 hc0_3 hl
    · cases h
  · cases h
end Go.Proofs.Ytncejmjicjlanaa.Q
