/- Contract of codec.Encode, with its writers. Rendered out of seat A's texts by cod.py of this session. -/
import Derived.Test.YtncejmjicjlanaaDoorQ8
import Derived.Test.YtncejmjicjlanaaDoorCodF
import Derived.IntWalk
import Derived.Laws.EntriesVeiled
import Derived.Laws.Pointers
namespace Go.Proofs.YtncejmjicjlanaaDoor.Q
section
set_option maxRecDepth 100000
open Go.RowKit Go.Proofs.YtncejmjicjlanaaDoorW.PrintWords Go.Proofs.YtncejmjicjlanaaDoorW.PrintLast Go.Proofs.YtncejmjicjlanaaDoorW.PrintMore
set_option linter.unusedVariables false
set_option linter.unusedSimpArgs false
theorem append_str_at {P : Program} (w : World) (base : Nat) (t u ty e : TypeId) (i : TypeInfo) (ht : P.underlying t = some (.slice e)) (hu : P.underlying u = some .string) (hi : P.info? e = some i) (hz : i.zero = some (.int .u8 0))
    (hsize : i.size = 1) (hby : i.bytes = 1) (v : Value) (n : Nat) (xs : List Value) (hown : w.ownsRow base e 1 v n xs) (s : ByteArray)
    (h63 : n + s.size ≤ maxLen) (hbytes : n + s.size ≤ 140737488355328) (hbase : base ≤ w.heap.size) :
    ∃ v' w', (Builtin.append_ #[t, u] ty #[v, .string s]).run P w = .ok v' w' ∧ w'.ownsRow base e 1 v' (n + s.size) (xs ++ Lib.strCells s) ∧ w.grownBy w' v.ownBlock ∧ (v'.ownBlock = v.ownBlock ∨ v'.ownBlock = some w.heap.size) := by
  obtain ⟨v', w', hr, ho, hg, hnil⟩ := Lib.run_append_own_string (P := P) w base t u ty e i ht hu hi hz hsize hby v n xs hown s h63 hbytes hbase
  refine ⟨v', w', hr, ho, hg, ?_⟩
  have hown2 := hown
  have hxl : xs.length = n := by simpa using hown.1
  rcases hown.2 with ⟨rfl, rfl⟩ | ⟨g, cap, cur, rfl, hbg, hgr, hnc, hcm, hcs, htake⟩
  · by_cases hm : s.size = 0
    · exact .inl (by rw [hnil.2 ⟨rfl, hm⟩])
    · have hr2 := run_append_nil_string (P := P) w t u ty e i (.int .u8 0) ht hu hi hz s (by omega) (by omega) (by rw [hby]; omega)
      rw [hr] at hr2
      injection hr2 with hv _
      subst hv
      exact .inr rfl
  · by_cases hroom : n + s.size ≤ cap
    · have hcs' : cur.size = cap := by simpa using hcs
      have hr2 := Lib.run_append_room_string (P := P) w t u ty e i ht hu hi hsize g n cap cur hgr s hroom (by omega)
      rw [hr] at hr2
      injection hr2 with hv _
      subst hv
      exact .inl rfl
    · have holds : ∀ j u, xs[j]? = some u → w.cell? ((⟨g, 0, none⟩ : Addr).add j) = some u := hown2.cells (g := g) rfl
      have hr2 := Lib.run_append_grow_string (P := P) w t u ty e i (.int .u8 0) ht hu hi hz ⟨g, 0, none⟩ n cap xs (by rw [hsize]; simpa using hxl) holds s (by omega) (by omega) (by rw [hby]; exact growslice_fits (by omega) (by omega))
      rw [hr] at hr2
      injection hr2 with hv _
      subst hv
      exact .inr rfl
section
variable {P : Program} {b : Bool} {o : Oper} {a : Act} {Q : Exit → Act → World → Prop} {Kc : Act → World → Prop}
theorem append_str_step {w0 W : World} (base : Nat) (hw : b = true) (s x : Operand) (t u e : TypeId)
    (ho : o.op = .call { callee := .builtin .append, args := #[s, x], argTypes := #[t, u] })
    (ht : P.underlying t = some (.slice e)) (hu : P.underlying u = some .string) (hinfo : (P.info? e).map (fun i => (i.zero, i.size, i.bytes)) = some (some (.int .u8 0), 1, 1))
    (v : Value) (xs : List Int) (y : ByteArray) (ok : Nat → Prop) (hs : a.eval s = v) (hx : a.eval x = .string y)
    (hfresh : ∀ k, W.heap.size ≤ k → ok k) (HO : Kd.R (Kd.int .u8) e W base ok v xs) (HB : Below base w0 W) (hbase : base ≤ W.heap.size) (hl : xs.length + y.size ≤ 140737488355328)
    (h : ∀ v1 w1, Kd.R (Kd.int .u8) e w1 base ok v1 (xs ++ bytesOf y) → Below base w0 w1 → W.grownBy w1 v.ownBlock → Kc (a.put o.dst v1) w1) :
    if b = true then Oper.wp P o a W Kc Q else Kc (a.put o.dst undef) W := by
  rw [if_pos hw]
  obtain ⟨i0, hi, hzz⟩ := Option.map_eq_some_iff.1 hinfo
  simp only [Prod.mk.injEq] at hzz
  obtain ⟨hz0, hz1, hz2⟩ := hzz
  have HOw := Kd.own_of_R HO
  obtain ⟨v1, w1, hr, hown, hg, hat⟩ := append_str_at (P := P) W base t u o.type e i0 ht hu hi hz0 hz1 hz2 v xs.length _ HOw y (by simp only [maxLen]; omega) hl hbase
  unfold Oper.wp execOp
  simp only [ho, resolve, invoke, builtin, Sem.run_bind, Sem.run_pure, Result.andThen_ok, List.map_toArray, List.map_cons, List.map_nil, hs, hx, hr]
  have hl2 : (xs ++ bytesOf y).length = xs.length + y.size := by rw [List.length_append, bytesOf_length]
  have hc : encs (Value.int .u8) (xs ++ bytesOf y) = encs (Value.int .u8) xs ++ Lib.strCells y := by
    simp [encs, bytesOf, Lib.strCells]
  refine h v1 w1 (Kd.R_of_own (by rw [hl2, hc]; exact hown) (fun k hk => ?_)) (HB.grown hg hbase (own_base HOw)) hg
  rcases hat with hat | hat
  · exact HO.1 k (hat ▸ hk)
  · rw [hat] at hk
    injection hk with hk
    exact hfresh k (by omega)
end
end
section
set_option maxRecDepth 100000
set_option linter.unusedVariables false
open Go.RowKit Go.Proofs.YtncejmjicjlanaaDoorW.PrintWords Go.Proofs.YtncejmjicjlanaaDoorW.PrintLast Go.Proofs.YtncejmjicjlanaaDoorW.PrintMore
/-- The digits of a number. -/
def numF : Nat → Int → List Int
  | 0, _ => []
  | k + 1, u => if u ≥ 128 then (Go.bits .or .u8 (u % 256) 128) :: numF k (u / 128) else [u % 256]
def numl (u : Int) : List Int := numF 10 u
/-- The unsigned form of an integer. -/
def unsP (n : Int) : Int := Go.bits .xor .u64 (IntKind.u64.wrap ((IntKind.u64.wrap n) * 2)) (IntKind.u64.wrap (n / 9223372036854775808))
mutual
/-- The encoding of a value. -/
def encP : S63 → List Int
  | ⟨K, N, S, L⟩ => if K = 1 then 1 :: numl (unsP N) else if K = 2 then 2 :: (numl (S.size : Int) ++ bytesOf S) else 3 :: (numl (L.length : Int) ++ encL L)
def encL : List S63 → List Int
  | [] => []
  | v :: vs => encP v ++ encL vs
end
mutual
/-- Has a value, and has what it holds, a kind that there is? -/
def wfP : S63 → Bool
  | ⟨K, N, S, L⟩ => if K = 3 then wfL L else (K == 1 || K == 2)
def wfL : List S63 → Bool
  | [] => true
  | v :: vs => wfP v && wfL vs
end
mutual
/-- Are the numbers of a value, and of what it holds, numbers of 64 bits? -/
def okI : S63 → Bool
  | ⟨K, N, S, L⟩ => decide ((-9223372036854775808 ≤ N ∧ N ≤ 9223372036854775807) ∧ S.size < 9223372036854775808) && okIL L
def okIL : List S63 → Bool
  | [] => true
  | v :: vs => okI v && okIL vs
end
theorem okIL_mem : ∀ {L : List S63} {v : S63}, okIL L = true → v ∈ L → okI v = true
  | [], v, _, h => by cases h
  | x :: L, v, h, hm => by
    unfold okIL at h
    rw [Bool.and_eq_true] at h
    rcases List.mem_cons.1 hm with rfl | hm
    · exact h.1
    · exact okIL_mem h.2 hm
theorem okI_parts {K N : Int} {S : ByteArray} {L : List S63} (h : okI ⟨K, N, S, L⟩ = true) : ((-9223372036854775808 ≤ N ∧ N ≤ 9223372036854775807) ∧ S.size < 9223372036854775808) ∧ okIL L = true := by
  unfold okI at h
  rw [Bool.and_eq_true, decide_eq_true_eq] at h
  exact h
theorem wfL_mem : ∀ {L : List S63} {v : S63}, wfL L = true → v ∈ L → wfP v = true
  | [], v, _, h => by cases h
  | x :: L, v, h, hm => by
    unfold wfL at h
    rw [Bool.and_eq_true] at h
    rcases List.mem_cons.1 hm with rfl | hm
    · exact h.1
    · exact wfL_mem h.2 hm
theorem encL_append : ∀ (a b : List S63), encL (a ++ b) = encL a ++ encL b
  | [], b => by simp [encL]
  | v :: a, b => by simp [encL, encL_append a b]
theorem encL_snoc (L : List S63) (i : Nat) (h : i < L.length) : encL (L.take (i + 1)) = encL (L.take i) ++ encP L[i] := by
  rw [List.take_succ_eq_append_getElem h, encL_append]
  simp [encL]
theorem encL_take_le (L : List S63) (i : Nat) : (encL (L.take i)).length ≤ (encL L).length := by
  have h : encL L = encL (L.take i) ++ encL (L.drop i) := by rw [← encL_append, List.take_append_drop]
  rw [h, List.length_append]
  omega
theorem encP_pos (v : S63) : 0 < (encP v).length := by
  obtain ⟨K, N, S, L⟩ := v
  unfold encP
  split
  · simp
  · split <;> simp
theorem encL_len : ∀ (L : List S63), L.length ≤ (encL L).length
  | [] => by simp
  | v :: L => by
    have := encL_len L
    have := encP_pos v
    simp [encL]
    omega
theorem numeral_eval : ∀ (k : Nat) (l : List Int) (u : Int), 0 ≤ u → u < 128 ^ (k + 1) → l.length + k < 140737488355328 → codec_numeral.l0 (k + 1) l u = some (l ++ numF (k + 1) u)
  | 0, l, u, h0, h1, hl => by
    unfold codec_numeral.l0 numF
    rw [if_neg (by simp at h1; omega), if_pos (by omega), if_neg (by simp at h1; omega)]
  | k + 1, l, u, h0, h1, hl => by
    unfold codec_numeral.l0 numF
    by_cases hu : u ≥ 128
    · rw [if_pos hu, if_pos (by omega), if_pos hu]
      rw [numeral_eval k _ _ (by omega) (by rw [Int.pow_succ] at h1; omega) (by simp; omega)]
      simp
    · rw [if_neg hu, if_pos (by omega), if_neg hu]
theorem numl_eval (l : List Int) (u : Int) (h0 : 0 ≤ u) (h1 : u < 18446744073709551616) (hl : l.length < 140737488000000) : codec_numeral.f 10 l u = some (l ++ numl u) :=
  numeral_eval 9 l u h0 (by have : (18446744073709551616 : Int) ≤ 128 ^ (9 + 1) := by decide
                            omega) (by omega)
theorem numF_len : ∀ (k : Nat) (u : Int), (numF k u).length ≤ k
  | 0, u => by simp [numF]
  | k + 1, u => by
    unfold numF
    split
    · have := numF_len k (u / 128)
      simp; omega
    · simp
theorem unsP_range (n : Int) : 0 ≤ unsP n ∧ unsP n < 18446744073709551616 := by
  unfold unsP Go.bits
  simp only [IntKind.wrap_u64]
  omega
end
section
set_option maxRecDepth 100000
open Go.RowKit Go.Proofs.YtncejmjicjlanaaDoorW.PrintWords Go.Proofs.YtncejmjicjlanaaDoorW.PrintLast Go.Proofs.YtncejmjicjlanaaDoorW.PrintMore
set_option linter.unusedVariables false
set_option linter.unusedSimpArgs false
/-- How a writer ends: r behind its own row. -/
def WPost (w0 w : World) (P0 : Nat → Prop) (r : List Int) (e : Ending) (w' : World) : Prop :=
  ∃ v0, e = .returned v0 ∧ Kd.R (Kd.int .u8) 5 w' w0.heap.size (fun k => P0 k ∨ w.heap.size ≤ k) v0 r ∧ Below w0.heap.size w0 w' ∧ Kept w w' P0
set_option maxHeartbeats 400000 in
theorem unsigned_calls (n : Int) (w : World) : Calls Tryd.prog 106 #[.int .i64 n] w fun e w' => e = .returned (.int .u64 (unsP n)) ∧ w' = w := by
  go_enter Tryd.func106, Tryd.ntmps106
  go_wp2
  refine bodyPost_ret (v := .int .u64 (unsP n)) (by simp [results, Tryd.results106, go_sem, unsP]) rfl ⟨rfl, rfl⟩
set_option maxHeartbeats 4000000 in
set_option maxRecDepth 100000 in
theorem write_int (K N : Int) (S : ByteArray) (A : Option Addr) (c : Nat) (L : List S63) (P0 : Nat → Prop) (u : Value) (l0 : List Int) (w0 w : World) (hB : Below w0.heap.size w0 w) (hu0 : Kd.R (Kd.int .u8) 5 w w0.heap.size P0 u l0) (hl : (l0 ++ (1 :: numl (unsP N))).length < 140737487000000) :
    Calls Tryd.prog 104 #[u, .agg #[.int .i64 K, .int .i64 N, .string S, .slice A L.length c]] w (WPost w0 w P0 (l0 ++ (1 :: numl (unsP N)))) := by
  have hu63 := Tryd.underlying63
  have HU := Aside0.mk hu0
  have HB := Aside0.mk hB
  have HL := Aside0.mk hl
  clear hu0 hB hl
  go_enter Tryd.func104, Tryd.ntmps104
  go_wp2_with fail
  have BK := Aside0.mk (blk_new w (.cells #[.int .i64 K, .int .i64 N, .string S, .slice A L.length c] 63))
  have HO := Aside0.mk (Kd.R_mono (Kd.R_alloc (Kd.R_bound HU.out) (.cells #[.int .i64 K, .int .i64 N, .string S, .slice A L.length c] 63)) (ok' := fun k => (P0 k ∧ k < w.heap.size) ∨ w.heap.size + 1 ≤ k) (fun k hk => .inl ⟨hk.1, hk.2.2.1⟩))
  have HK := Aside0.mk (Kept.alloc (Kept.refl w P0) (.cells #[.int .i64 K, .int .i64 N, .string S, .slice A L.length c] 63))
  have HSZ := Aside0.mk (show (w.alloc (.cells #[.int .i64 K, .int .i64 N, .string S, .slice A L.length c] 63)).heap.size = w.heap.size + 1 by simp)
  have HB1 := Aside0.mk (below_alloc HB.out (.cells #[.int .i64 K, .int .i64 N, .string S, .slice A L.length c] 63))
  have hw0 := HB.out.size
  clear HB HU
  generalize w.alloc (.cells #[.int .i64 K, .int .i64 N, .string S, .slice A L.length c] 63) = W1 at *
  refine start_ (n := 8) (S := fun w' => w'.cell? ⟨w.heap.size, 1, none⟩ = some (.int .i64 N)) (ds := []) #[false, false, false, false, false, false, false, false] (by kernel_rfl) rfl rfl ((by exact (blk_cell BK.out 1).trans rfl)) (fun hHeld => ?_)
  replace BK := Aside0.mk (blk_drew BK.out)
  replace HO := Aside0.mk (Kd.R_drew HO.out)
  replace HK := Aside0.mk (Kept.drew HK.out)
  replace HB1 := Aside0.mk (below_drew1 HB1.out)
  replace HSZ := Aside0.mk (show W1.drew.heap.size = w.heap.size + 1 from HSZ.out)
  generalize W1.drew = W2 at BK HO HK HB1 HSZ hHeld ⊢
  refine pure_ (i := 0) (N := some 5) (v := ?_) (a' := ?_) #[true, false, false, false, false, false, false, false] rfl rfl (by kernel_rfl) (fun _ _ _ h => h) (Or.inl ⟨by rfl, ?_⟩) ?_ ?_
  rotate_left
  · intro w'
    go_simp
    with_reducible rfl
  rotate_left
  · simp only [Act.put, List.setIfInBounds_toArray, List.set_cons_zero, List.set_cons_succ, i64_w, i32_w]
    rfl
  refine pure_ (i := 3) (N := some 8) (v := ?_) (a' := ?_) #[true, false, false, true, false, false, false, false] rfl rfl (by kernel_rfl) (fun _ _ _ h => h) (Or.inl ⟨by rfl, ?_⟩) ?_ ?_
  rotate_left
  · intro w'
    go_simp
    with_reducible rfl
  rotate_left
  · simp only [Act.put, List.setIfInBounds_toArray, List.set_cons_zero, List.set_cons_succ, i64_w, i32_w]
    rfl
  refine take_ (i := 4) (N := some 9) (v := ?_) (a' := ?_) #[true, false, false, true, true, false, false, false] rfl rfl (by kernel_rfl) (fun _ _ _ h => h) (Or.inl ⟨by rfl, ?_⟩) hHeld ?_ ?_
  rotate_left
  · intro w' s0
    go_simp
    with_reducible rfl
  rotate_left
  · simp only [Act.put, List.setIfInBounds_toArray, List.set_cons_zero, List.set_cons_succ, i64_w, i32_w]
    rfl
  refine one_ (i := 1) (N := some 6) #[true, true, false, true, true, false, false, false] rfl rfl (by kernel_rfl) (by decide) (fun K hK => ?_)
  refine value_ (w1 := ?_) (v := ?_) (by rfl) rfl ?_ ?_
  rotate_left 2
  · go_simp
    constructor
    · rfl
    · rfl
  refine hK.out _ _ (((blk_cell (blk_alloc BK.out _) 1).trans rfl)) (fun hHeld => ?_)
  clear hK K
  refine norm_ (a' := ?_) ?_ ?_
  rotate_left
  · show Act.put _ (some 6) _ = _
    simp only [Act.put, List.setIfInBounds_toArray, List.set_cons_zero, List.set_cons_succ, i64_w, i32_w]
    rfl
  refine one_ (i := 2) (N := some 7) #[true, true, true, true, true, false, false, false] rfl rfl (by kernel_rfl) (by decide) (fun K hK => ?_)
  refine Kd.R_append_step (Kd.int .u8) (w0 := w0) w0.heap.size (by rfl) (.tmp 5) (.tmp 6) 54 5 (.int .u8 0) 1 rfl Tryd.underlying54 info5 rfl (by decide) (by omega) u l0 1 [.int .u8 1] (fun k => (P0 k ∧ k < w.heap.size) ∨ w.heap.size + 1 ≤ k) (fun _ => False) rfl rfl rfl (fun _ hk => hk.elim) (fun k hk => .inr (by have := HSZ.out; omega)) HO.out HB1.out (by have := HSZ.out; omega) (by have := HL.out; simp at this; omega) ?_
  intro v3 W3 ho hb hg hat
  have BK3 := Aside0.mk (blk_grown BK.out hg (Kd.R_away HO.out (fun k hk => by omega)))
  have HK3 := Aside0.mk (Kept.of_grown hg HK.out (fun k hk => by rcases HO.out.1 k hk with h1 | h1; exact .inl h1.1; exact .inr (by omega)))
  have HO3 := Aside0.mk ho
  have HB3 := Aside0.mk hb
  have hs3 : w.heap.size + 1 ≤ W3.heap.size := by have h1 := HSZ.out; have h2 := hg.size; omega
  clear BK HK HO HB1 ho hb hg hat
  refine hK.out _ _ (((blk_cell BK3.out 1).trans rfl)) (fun hHeld => ?_)
  clear hK K
  refine norm_ (a' := ?_) ?_ ?_
  rotate_left
  · show Act.put _ (some 7) _ = _
    simp only [Act.put, List.setIfInBounds_toArray, List.set_cons_zero, List.set_cons_succ, i64_w, i32_w]
    rfl
  refine one_ (i := 5) (N := some 10) #[true, true, true, true, true, true, false, false] rfl rfl (by kernel_rfl) (by decide) (fun K hK => ?_)
  refine goes_ Tryd.func106 (by kernel_rfl) rfl #[.int .i64 N] (by rfl) rfl rfl (by simp only [List.map_toArray, List.map_cons, List.map_nil]; rfl) ?_
  refine (unsigned_calls N W3).mono ?_
  rintro e W4 ⟨rfl, rfl⟩
  refine ⟨_, rfl, ?_⟩
  refine hK.out _ _ (((blk_cell BK3.out 1).trans rfl)) (fun hHeld => ?_)
  clear hK K
  refine norm_ (a' := ?_) ?_ ?_
  rotate_left
  · show Act.put _ (some 10) _ = _
    simp only [Act.put, List.setIfInBounds_toArray, List.set_cons_zero, List.set_cons_succ, i64_w, i32_w]
    rfl
  refine one_ (i := 6) (N := some 11) #[true, true, true, true, true, true, true, false] rfl rfl (by kernel_rfl) (by decide) (fun K hK => ?_)
  refine goes_ Tryd.func105 (by kernel_rfl) rfl #[v3, .int .u64 (unsP N)] (by rfl) rfl rfl (by simp only [List.map_toArray, List.map_cons, List.map_nil]; rfl) ?_
  refine (codec_numeral.calls 10 _ v3 _ _ _ w0 W4 HB3.out HO3.out (numl_eval _ _ (unsP_range N).1 (unsP_range N).2 (by have := HL.out; simp at this ⊢; omega))).mono ?_
  rintro e W5 ⟨v5, rfl, ho5, hb5, hk5⟩
  have BK5 := Aside0.mk (blk_kept BK3.out hk5 (fun hk => by omega))
  have HK5 := Aside0.mk (Kept.then_ HK3.out hk5 (fun k hk => by rcases hk with hk | hk; exact .inl hk.1; exact .inr (by omega)))
  have HO5 := Aside0.mk ho5
  have HB5 := Aside0.mk hb5
  have hs5 : W4.heap.size ≤ W5.heap.size := hk5.1
  clear BK3 HK3 HO3 HB3 ho5 hb5 hk5
  refine ⟨_, rfl, ?_⟩
  refine hK.out _ _ (((blk_cell BK5.out 1).trans rfl)) (fun hHeld => ?_)
  clear hK K
  refine norm_ (a' := ?_) ?_ ?_
  rotate_left
  · show Act.put _ (some 11) _ = _
    simp only [Act.put, List.setIfInBounds_toArray, List.set_cons_zero, List.set_cons_succ, i64_w, i32_w]
    rfl
  refine pure_ (i := 7) (N := some 4) (v := ?_) (a' := ?_) #[true, true, true, true, true, true, true, true] rfl rfl (by kernel_rfl) (fun _ _ _ h => h) (Or.inl ⟨by rfl, ?_⟩) ?_ ?_
  rotate_left
  · intro w'
    go_simp
    with_reducible rfl
  rotate_left
  · simp only [Act.put, List.setIfInBounds_toArray, List.set_cons_zero, List.set_cons_succ, i64_w, i32_w]
    rfl
  refine done_ (by kernel_rfl) ?_
  go_wp2
  refine bodyPost_ret (v := v5) (by simp [results, Tryd.results104, go_sem]) rfl ⟨_, rfl, ?_, HB5.out, HK5.out⟩
  have h := Kd.R_mono HO5.out (ok' := fun k => P0 k ∨ w.heap.size ≤ k) (fun k hk => by rcases hk with (hk | hk) | hk; exact .inl hk.1; exact .inr (by omega); exact .inr (by omega))
  simpa using h
set_option maxHeartbeats 4000000 in
set_option maxRecDepth 100000 in
theorem write_text (K N : Int) (S : ByteArray) (A : Option Addr) (c : Nat) (L : List S63) (P0 : Nat → Prop) (u : Value) (l0 : List Int) (w0 w : World) (hB : Below w0.heap.size w0 w) (hu0 : Kd.R (Kd.int .u8) 5 w w0.heap.size P0 u l0) (hl : (l0 ++ (2 :: (numl (S.size : Int) ++ bytesOf S))).length < 140737487000000) :
    Calls Tryd.prog 107 #[u, .agg #[.int .i64 K, .int .i64 N, .string S, .slice A L.length c]] w (WPost w0 w P0 (l0 ++ (2 :: (numl (S.size : Int) ++ bytesOf S)))) := by
  have hsw : IntKind.u64.wrap (S.size : Int) = (S.size : Int) := by rw [IntKind.wrap_u64]; simp [bytesOf_length] at hl; omega
  have hu63 := Tryd.underlying63
  have HU := Aside0.mk hu0
  have HB := Aside0.mk hB
  have HL := Aside0.mk hl
  clear hu0 hB hl
  go_enter Tryd.func107, Tryd.ntmps107
  go_wp2_with fail
  have BK := Aside0.mk (blk_new w (.cells #[.int .i64 K, .int .i64 N, .string S, .slice A L.length c] 63))
  have HO := Aside0.mk (Kd.R_mono (Kd.R_alloc (Kd.R_bound HU.out) (.cells #[.int .i64 K, .int .i64 N, .string S, .slice A L.length c] 63)) (ok' := fun k => (P0 k ∧ k < w.heap.size) ∨ w.heap.size + 1 ≤ k) (fun k hk => .inl ⟨hk.1, hk.2.2.1⟩))
  have HK := Aside0.mk (Kept.alloc (Kept.refl w P0) (.cells #[.int .i64 K, .int .i64 N, .string S, .slice A L.length c] 63))
  have HSZ := Aside0.mk (show (w.alloc (.cells #[.int .i64 K, .int .i64 N, .string S, .slice A L.length c] 63)).heap.size = w.heap.size + 1 by simp)
  have HB1 := Aside0.mk (below_alloc HB.out (.cells #[.int .i64 K, .int .i64 N, .string S, .slice A L.length c] 63))
  have hw0 := HB.out.size
  clear HB HU
  generalize w.alloc (.cells #[.int .i64 K, .int .i64 N, .string S, .slice A L.length c] 63) = W1 at *
  refine start_ (n := 12) (S := fun w' => w'.cell? ⟨w.heap.size, 2, none⟩ = some (.string S)) (ds := []) #[false, false, false, false, false, false, false, false, false, false, false, false] (by kernel_rfl) rfl rfl ((by exact (blk_cell BK.out 2).trans rfl)) (fun hHeld => ?_)
  replace BK := Aside0.mk (blk_drew BK.out)
  replace HO := Aside0.mk (Kd.R_drew HO.out)
  replace HK := Aside0.mk (Kept.drew HK.out)
  replace HB1 := Aside0.mk (below_drew1 HB1.out)
  replace HSZ := Aside0.mk (show W1.drew.heap.size = w.heap.size + 1 from HSZ.out)
  generalize W1.drew = W2 at BK HO HK HB1 HSZ hHeld ⊢
  refine pure_ (i := 0) (N := some 5) (v := ?_) (a' := ?_) #[true, false, false, false, false, false, false, false, false, false, false, false] rfl rfl (by kernel_rfl) (fun _ _ _ h => h) (Or.inl ⟨by rfl, ?_⟩) ?_ ?_
  rotate_left
  · intro w'
    go_simp
    with_reducible rfl
  rotate_left
  · simp only [Act.put, List.setIfInBounds_toArray, List.set_cons_zero, List.set_cons_succ, i64_w, i32_w]
    rfl
  refine pure_ (i := 3) (N := some 8) (v := ?_) (a' := ?_) #[true, false, false, true, false, false, false, false, false, false, false, false] rfl rfl (by kernel_rfl) (fun _ _ _ h => h) (Or.inl ⟨by rfl, ?_⟩) ?_ ?_
  rotate_left
  · intro w'
    go_simp
    with_reducible rfl
  rotate_left
  · simp only [Act.put, List.setIfInBounds_toArray, List.set_cons_zero, List.set_cons_succ, i64_w, i32_w]
    rfl
  refine pure_ (i := 8) (N := some 13) (v := ?_) (a' := ?_) #[true, false, false, true, false, false, false, false, true, false, false, false] rfl rfl (by kernel_rfl) (fun _ _ _ h => h) (Or.inl ⟨by rfl, ?_⟩) ?_ ?_
  rotate_left
  · intro w'
    go_simp
    with_reducible rfl
  rotate_left
  · simp only [Act.put, List.setIfInBounds_toArray, List.set_cons_zero, List.set_cons_succ, i64_w, i32_w]
    rfl
  refine take_ (i := 4) (N := some 9) (v := ?_) (a' := ?_) #[true, false, false, true, true, false, false, false, true, false, false, false] rfl rfl (by kernel_rfl) (fun _ _ _ h => h) (Or.inl ⟨by rfl, ?_⟩) hHeld ?_ ?_
  rotate_left
  · intro w' s0
    go_simp
    with_reducible rfl
  rotate_left
  · simp only [Act.put, List.setIfInBounds_toArray, List.set_cons_zero, List.set_cons_succ, i64_w, i32_w]
    rfl
  refine pure_ (i := 5) (N := some 10) (v := ?_) (a' := ?_) #[true, false, false, true, true, true, false, false, true, false, false, false] rfl rfl (by kernel_rfl) (fun _ _ _ h => h) (Or.inl ⟨by rfl, ?_⟩) ?_ ?_
  rotate_left
  · intro w'
    go_simp
    with_reducible rfl
  rotate_left
  · simp only [Act.put, List.setIfInBounds_toArray, List.set_cons_zero, List.set_cons_succ, i64_w, i32_w]
    rfl
  refine pure_ (i := 6) (N := some 11) (v := ?_) (a' := ?_) #[true, false, false, true, true, true, true, false, true, false, false, false] rfl rfl (by kernel_rfl) (fun _ _ _ h => h) (Or.inl ⟨by rfl, ?_⟩) ?_ ?_
  rotate_left
  · intro w'
    go_simp
    with_reducible rfl
  rotate_left
  · simp only [Act.put, List.setIfInBounds_toArray, List.set_cons_zero, List.set_cons_succ, i64_w, i32_w]
    rfl
  refine take_ (i := 9) (N := some 14) (v := ?_) (a' := ?_) #[true, false, false, true, true, true, true, false, true, true, false, false] rfl rfl (by kernel_rfl) (fun _ _ _ h => h) (Or.inl ⟨by rfl, ?_⟩) hHeld ?_ ?_
  rotate_left
  · intro w' s0
    go_simp
    with_reducible rfl
  rotate_left
  · simp only [Act.put, List.setIfInBounds_toArray, List.set_cons_zero, List.set_cons_succ, i64_w, i32_w]
    rfl
  refine one_ (i := 1) (N := some 6) #[true, true, false, true, true, true, true, false, true, true, false, false] rfl rfl (by kernel_rfl) (by decide) (fun K hK => ?_)
  refine value_ (w1 := ?_) (v := ?_) (by rfl) rfl ?_ ?_
  rotate_left 2
  · go_simp
    constructor
    · rfl
    · rfl
  refine hK.out _ _ (((blk_cell (blk_alloc BK.out _) 2).trans rfl)) (fun hHeld => ?_)
  clear hK K
  refine norm_ (a' := ?_) ?_ ?_
  rotate_left
  · show Act.put _ (some 6) _ = _
    simp only [Act.put, List.setIfInBounds_toArray, List.set_cons_zero, List.set_cons_succ, i64_w, i32_w]
    rfl
  refine one_ (i := 2) (N := some 7) #[true, true, true, true, true, true, true, false, true, true, false, false] rfl rfl (by kernel_rfl) (by decide) (fun K hK => ?_)
  refine Kd.R_append_step (Kd.int .u8) (w0 := w0) w0.heap.size (by rfl) (.tmp 5) (.tmp 6) 54 5 (.int .u8 0) 1 rfl Tryd.underlying54 info5 rfl (by decide) (by omega) u l0 2 [.int .u8 2] (fun k => (P0 k ∧ k < w.heap.size) ∨ w.heap.size + 1 ≤ k) (fun _ => False) rfl rfl rfl (fun _ hk => hk.elim) (fun k hk => .inr (by have := HSZ.out; omega)) HO.out HB1.out (by have := HSZ.out; omega) (by have := HL.out; simp at this; omega) ?_
  intro v3 W3 ho hb hg hat
  have BK3 := Aside0.mk (blk_grown BK.out hg (Kd.R_away HO.out (fun k hk => by omega)))
  have HK3 := Aside0.mk (Kept.of_grown hg HK.out (fun k hk => by rcases HO.out.1 k hk with h1 | h1; exact .inl h1.1; exact .inr (by omega)))
  have HO3 := Aside0.mk ho
  have HB3 := Aside0.mk hb
  have hs3 : w.heap.size + 1 ≤ W3.heap.size := by have h1 := HSZ.out; have h2 := hg.size; omega
  clear BK HK HO HB1 ho hb hg hat
  refine hK.out _ _ (((blk_cell BK3.out 2).trans rfl)) (fun hHeld => ?_)
  clear hK K
  refine norm_ (a' := ?_) ?_ ?_
  rotate_left
  · show Act.put _ (some 7) _ = _
    simp only [Act.put, List.setIfInBounds_toArray, List.set_cons_zero, List.set_cons_succ, i64_w, i32_w]
    rfl
  refine one_ (i := 7) (N := some 12) #[true, true, true, true, true, true, true, true, true, true, false, false] rfl rfl (by kernel_rfl) (by decide) (fun K hK => ?_)
  refine goes_ Tryd.func105 (by kernel_rfl) rfl #[v3, .int .u64 (S.size : Int)] (by rfl) rfl rfl (by simp only [List.map_toArray, List.map_cons, List.map_nil]; rfl) ?_
  refine (codec_numeral.calls 10 _ v3 _ _ _ w0 W3 HB3.out HO3.out (numl_eval _ _ (by omega) (by have := HL.out; simp [bytesOf_length] at this; omega) (by have := HL.out; simp at this ⊢; omega))).mono ?_
  rintro e W5 ⟨v5, rfl, ho5, hb5, hk5⟩
  have BK5 := Aside0.mk (blk_kept BK3.out hk5 (fun hk => by omega))
  have HK5 := Aside0.mk (Kept.then_ HK3.out hk5 (fun k hk => by rcases hk with hk | hk; exact .inl hk.1; exact .inr (by omega)))
  have HO5 := Aside0.mk ho5
  have HB5 := Aside0.mk hb5
  have hs5 : W3.heap.size ≤ W5.heap.size := hk5.1
  clear BK3 HK3 HO3 HB3 ho5 hb5 hk5
  refine ⟨_, rfl, ?_⟩
  refine hK.out _ _ (((blk_cell BK5.out 2).trans rfl)) (fun hHeld => ?_)
  clear hK K
  refine norm_ (a' := ?_) ?_ ?_
  rotate_left
  · show Act.put _ (some 12) _ = _
    simp only [Act.put, List.setIfInBounds_toArray, List.set_cons_zero, List.set_cons_succ, i64_w, i32_w]
    rfl
  refine one_ (i := 10) (N := some 15) #[true, true, true, true, true, true, true, true, true, true, true, false] rfl rfl (by kernel_rfl) (by decide) (fun K hK => ?_)
  refine append_str_step (w0 := w0) w0.heap.size (by rfl) (.tmp 12) (.tmp 14) 54 9 5 rfl Tryd.underlying54 Tryd.underlying9 info5 v5 _ S (fun k => ((P0 k ∧ k < w.heap.size) ∨ w.heap.size + 1 ≤ k) ∨ W3.heap.size ≤ k) rfl rfl (fun k hk => .inr (by omega)) HO5.out HB5.out (by omega) (by have := HL.out; simp [bytesOf_length] at this ⊢; omega) ?_
  intro v7 W7 ho hb hg
  have BK7 := Aside0.mk (blk_grown BK5.out hg (Kd.R_away HO5.out (fun k hk => by omega)))
  have HK7 := Aside0.mk (Kept.of_grown hg HK5.out (fun k hk => by rcases HO5.out.1 k hk with (h1 | h1) | h1; exact .inl h1.1; exact .inr (by omega); exact .inr (by omega)))
  have HO7 := Aside0.mk ho
  have HB7 := Aside0.mk hb
  have hs7 : W5.heap.size ≤ W7.heap.size := hg.size
  clear BK5 HK5 HO5 HB5 ho hb hg
  refine hK.out _ _ (((blk_cell BK7.out 2).trans rfl)) (fun hHeld => ?_)
  clear hK K
  refine norm_ (a' := ?_) ?_ ?_
  rotate_left
  · show Act.put _ (some 15) _ = _
    simp only [Act.put, List.setIfInBounds_toArray, List.set_cons_zero, List.set_cons_succ, i64_w, i32_w]
    rfl
  refine pure_ (i := 11) (N := some 4) (v := ?_) (a' := ?_) #[true, true, true, true, true, true, true, true, true, true, true, true] rfl rfl (by kernel_rfl) (fun _ _ _ h => h) (Or.inl ⟨by rfl, ?_⟩) ?_ ?_
  rotate_left
  · intro w'
    go_simp
    with_reducible rfl
  rotate_left
  · simp only [Act.put, List.setIfInBounds_toArray, List.set_cons_zero, List.set_cons_succ, i64_w, i32_w]
    rfl
  refine done_ (by kernel_rfl) ?_
  go_wp2
  refine bodyPost_ret (v := v7) (by simp [results, Tryd.results107, go_sem]) rfl ⟨_, rfl, ?_, HB7.out, HK7.out⟩
  have h := Kd.R_mono HO7.out (ok' := fun k => P0 k ∨ w.heap.size ≤ k) (fun k hk => by rcases hk with (hk | hk) | hk; exact .inl hk.1; exact .inr (by omega); exact .inr (by omega))
  simpa using h
end
section
set_option maxRecDepth 100000
open Go.RowKit Go.Proofs.YtncejmjicjlanaaDoorW.PrintWords Go.Proofs.YtncejmjicjlanaaDoorW.PrintLast Go.Proofs.YtncejmjicjlanaaDoorW.PrintMore
set_option linter.unusedVariables false
set_option linter.unusedSimpArgs false
/-- A call through a function value, by its contract, in a region that draws its order. -/
theorem goesF_ {P : Program} {b : Bool} {oi : Oper} {N : Option Tmp} {a : Act} {w : World} {K : Act → World → Prop} {Q : Exit → Act → World → Prop} {f : FuncId} {fn : Func} {asx : Array Operand} {ts : Array TypeId} {x : Operand} {cap : Array Value} (hw : b = true) (hN : oi.dst = N) (hf : P.funcs[f]? = some fn) (hname : (fn.name == "runtime.NumGoroutine") = false) (hb : fn.body.isSome = true) (args : Array Value)
    (hop : oi.op = .call { callee := .value x, args := asx, argTypes := ts }) (hx : a.eval x = .func (.func f) #[] cap) (hargs : asx.map a.eval ++ cap = args)
    (h : Calls P f args w fun e w' => ∃ v, e = .returned v ∧ K (a.put N v) w') : if b = true then Oper.wp P oi a w K Q else K (a.put N undef) w := by
  rw [if_pos hw]
  subst hN
  unfold Oper.wp
  have hrun : (execOp a.eval oi).run P w = .ok (.enter f args) w := by
    have he := enters_ hf hname hb args w
    unfold execOp
    simp [hop, resolve, hx, Deferred.ofValue, invoke, hargs, he]
  rw [hrun, Oper.upon_enter]
  refine h.mono fun e w'' hh => ?_
  obtain ⟨v, rfl, hk⟩ := hh
  exact hk
/-- The writers' table: a variable that leads to it, and the table. -/
def IsWr (W : World) (p gw : Nat) : Prop := W.heap[p]? = some (.cells #[.pointer (some ⟨gw, 0, none⟩)] 113 (0, 0)) ∧ W.heap[gw]? = some (.cells #[.nilFunc, .func (.func 104) #[] #[], .func (.func 107) #[] #[], .func (.func 108) #[] #[.pointer (some ⟨p, 0, none⟩)]] 130 (0, 0))
theorem IsWr.of {W W' : World} {p gw : Nat} (h : IsWr W p gw) (e1 : W'.heap[p]? = W.heap[p]?) (e2 : W'.heap[gw]? = W.heap[gw]?) : IsWr W' p gw := ⟨e1.trans h.1, e2.trans h.2⟩
theorem IsWr.lt {W : World} {p gw : Nat} (h : IsWr W p gw) : p < W.heap.size ∧ gw < W.heap.size := ⟨blk_lt h.1, blk_lt h.2⟩
theorem IsWr.below {W W' : World} {p gw : Nat} (h : IsWr W p gw) (hb : Below W.heap.size W W') : IsWr W' p gw := h.of (hb.block _ h.lt.1) (hb.block _ h.lt.2)
theorem IsWr.kept {W W' : World} {p gw : Nat} {S : Nat → Prop} (h : IsWr W p gw) (hk : Kept W W' S) (h1 : ¬ S p) (h2 : ¬ S gw) : IsWr W' p gw := h.of (hk.2 _ h.lt.1 h1) (hk.2 _ h.lt.2 h2)
/-- The writer of a kind, and what it captures. -/
def fnOf (K : Int) : Nat := if K = 1 then 104 else if K = 2 then 107 else 108
def capOf (K : Int) (p : Nat) : Array Value := if K = 1 then #[] else if K = 2 then #[] else #[.pointer (some ⟨p, 0, none⟩)]
/-- The writers' contract, for values up to a size. -/
def WriteOk (n : Nat) : Prop := ∀ (v : S63) (p gw : Nat) (A : Option Addr) (c : Nat) (P0 : Nat → Prop) (u : Value) (l0 : List Int) (w0 w : World), SizeOf.sizeOf v < n → wfP v = true → Below w0.heap.size w0 w → Kd.R (Kd.int .u8) 5 w w0.heap.size P0 u l0 → IsWr w p gw → ¬ P0 p → ¬ P0 gw → Kd.C k63 w0 A v.f3.length v.f3 → v.f3.length ≤ c → (l0 ++ encP v).length < 140737487000000 →
    Calls Tryd.prog (fnOf v.f0) (#[u, .agg #[.int .i64 v.f0, .int .i64 v.f1, .string v.f2, .slice A v.f3.length c]] ++ capOf v.f0 p) w (WPost w0 w P0 (l0 ++ encP v))
set_option maxHeartbeats 4000000 in
set_option maxRecDepth 100000 in
theorem write_list (n : Nat) (ih : WriteOk n) (N : Int) (S : ByteArray) (A : Option Addr) (c : Nat) (L : List S63) (p gw : Nat) (P0 : Nat → Prop) (u : Value) (l0 : List Int) (w0 w : World) (hs : SizeOf.sizeOf L ≤ n) (hwf : wfL L = true) (hB : Below w0.heap.size w0 w) (hu0 : Kd.R (Kd.int .u8) 5 w w0.heap.size P0 u l0) (hW : IsWr w p gw) (hp : ¬ P0 p) (hgw : ¬ P0 gw) (hr : Kd.C k63 w0 A L.length L) (hc : L.length ≤ c) (hl : (l0 ++ (3 :: (numl (L.length : Int) ++ encL L))).length < 140737487000000) :
    Calls Tryd.prog 108 #[u, .agg #[.int .i64 3, .int .i64 N, .string S, .slice A L.length c], .pointer (some ⟨p, 0, none⟩)] w (WPost w0 w P0 (l0 ++ (3 :: (numl (L.length : Int) ++ encL L)))) := by
  have hll : L.length < 140737487000000 := by have := encL_len L; simp at hl; omega
  have hsw : IntKind.u64.wrap (L.length : Int) = (L.length : Int) := by rw [IntKind.wrap_u64]; omega
  have HPG := Aside0.mk hW.lt
  have HNP : Aside0 (¬ P0 p ∧ ¬ P0 gw) := ⟨⟨hp, hgw⟩⟩
  have HW := Aside0.mk (hW.below (below_alloc (Below.refl _ _) (.cells #[.int .i64 3, .int .i64 N, .string S, .slice A L.length c] 63)))
  have HLL := Aside0.mk hll
  have HR := Aside0.mk hr
  have HC := Aside0.mk hc
  have HS := Aside0.mk hs
  have HWF := Aside0.mk hwf
  have IH := Aside0.mk ih
  clear hW hp hgw hll hr hc hs hwf ih
  have hu63 := Tryd.underlying63
  have HU := Aside0.mk hu0
  have HB := Aside0.mk hB
  have HL := Aside0.mk hl
  clear hu0 hB hl
  go_enter Tryd.func108, Tryd.ntmps108
  go_wp2_with fail
  have BK := Aside0.mk (blk_new w (.cells #[.int .i64 3, .int .i64 N, .string S, .slice A L.length c] 63))
  have HO := Aside0.mk (Kd.R_mono (Kd.R_alloc (Kd.R_bound HU.out) (.cells #[.int .i64 3, .int .i64 N, .string S, .slice A L.length c] 63)) (ok' := fun k => (P0 k ∧ k < w.heap.size) ∨ w.heap.size + 1 ≤ k) (fun k hk => .inl ⟨hk.1, hk.2.2.1⟩))
  have HK := Aside0.mk (Kept.alloc (Kept.refl w P0) (.cells #[.int .i64 3, .int .i64 N, .string S, .slice A L.length c] 63))
  have HSZ := Aside0.mk (show (w.alloc (.cells #[.int .i64 3, .int .i64 N, .string S, .slice A L.length c] 63)).heap.size = w.heap.size + 1 by simp)
  have HB1 := Aside0.mk (below_alloc HB.out (.cells #[.int .i64 3, .int .i64 N, .string S, .slice A L.length c] 63))
  have hw0 := HB.out.size
  clear HB HU
  generalize w.alloc (.cells #[.int .i64 3, .int .i64 N, .string S, .slice A L.length c] 63) = W1 at *
  refine start_ (n := 9) (S := fun w' => w'.cell? ⟨w.heap.size, 3, none⟩ = some (.slice A L.length c)) (ds := []) #[false, false, false, false, false, false, false, false, false] (by kernel_rfl) rfl rfl ((by exact (blk_cell BK.out 3).trans rfl)) (fun hHeld => ?_)
  replace BK := Aside0.mk (blk_drew BK.out)
  replace HO := Aside0.mk (Kd.R_drew HO.out)
  replace HK := Aside0.mk (Kept.drew HK.out)
  replace HB1 := Aside0.mk (below_drew1 HB1.out)
  replace HW := Aside0.mk (show IsWr W1.drew p gw from HW.out)
  replace HSZ := Aside0.mk (show W1.drew.heap.size = w.heap.size + 1 from HSZ.out)
  generalize W1.drew = W2 at BK HO HK HB1 HSZ HW hHeld ⊢
  refine pure_ (i := 0) (N := some 8) (v := ?_) (a' := ?_) #[true, false, false, false, false, false, false, false, false] rfl rfl (by kernel_rfl) (fun _ _ _ h => h) (Or.inl ⟨by rfl, ?_⟩) ?_ ?_
  rotate_left
  · intro w'
    go_simp
    with_reducible rfl
  rotate_left
  · simp only [Act.put, List.setIfInBounds_toArray, List.set_cons_zero, List.set_cons_succ, i64_w, i32_w]
    rfl
  refine pure_ (i := 3) (N := some 11) (v := ?_) (a' := ?_) #[true, false, false, true, false, false, false, false, false] rfl rfl (by kernel_rfl) (fun _ _ _ h => h) (Or.inl ⟨by rfl, ?_⟩) ?_ ?_
  rotate_left
  · intro w'
    go_simp
    with_reducible rfl
  rotate_left
  · simp only [Act.put, List.setIfInBounds_toArray, List.set_cons_zero, List.set_cons_succ, i64_w, i32_w]
    rfl
  refine take_ (i := 4) (N := some 12) (v := ?_) (a' := ?_) #[true, false, false, true, true, false, false, false, false] rfl rfl (by kernel_rfl) (fun _ _ _ h => h) (Or.inl ⟨by rfl, ?_⟩) hHeld ?_ ?_
  rotate_left
  · intro w' s0
    go_simp
    with_reducible rfl
  rotate_left
  · simp only [Act.put, List.setIfInBounds_toArray, List.set_cons_zero, List.set_cons_succ, i64_w, i32_w]
    rfl
  refine pure_ (i := 5) (N := some 13) (v := ?_) (a' := ?_) #[true, false, false, true, true, true, false, false, false] rfl rfl (by kernel_rfl) (fun _ _ _ h => h) (Or.inl ⟨by rfl, ?_⟩) ?_ ?_
  rotate_left
  · intro w'
    go_simp
    with_reducible rfl
  rotate_left
  · simp only [Act.put, List.setIfInBounds_toArray, List.set_cons_zero, List.set_cons_succ, i64_w, i32_w]
    rfl
  refine pure_ (i := 6) (N := some 14) (v := ?_) (a' := ?_) #[true, false, false, true, true, true, true, false, false] rfl rfl (by kernel_rfl) (fun _ _ _ h => h) (Or.inl ⟨by rfl, ?_⟩) ?_ ?_
  rotate_left
  · intro w'
    go_simp
    with_reducible rfl
  rotate_left
  · simp only [Act.put, List.setIfInBounds_toArray, List.set_cons_zero, List.set_cons_succ, i64_w, i32_w]
    rfl
  refine one_ (i := 1) (N := some 9) #[true, true, false, true, true, true, true, false, false] rfl rfl (by kernel_rfl) (by decide) (fun K hK => ?_)
  refine value_ (w1 := ?_) (v := ?_) (by rfl) rfl ?_ ?_
  rotate_left 2
  · go_simp
    constructor
    · rfl
    · rfl
  refine hK.out _ _ (((blk_cell (blk_alloc BK.out _) 3).trans rfl)) (fun hHeld => ?_)
  clear hK K
  refine norm_ (a' := ?_) ?_ ?_
  rotate_left
  · show Act.put _ (some 9) _ = _
    simp only [Act.put, List.setIfInBounds_toArray, List.set_cons_zero, List.set_cons_succ, i64_w, i32_w]
    rfl
  refine one_ (i := 2) (N := some 10) #[true, true, true, true, true, true, true, false, false] rfl rfl (by kernel_rfl) (by decide) (fun K hK => ?_)
  refine Kd.R_append_step (Kd.int .u8) (w0 := w0) w0.heap.size (by rfl) (.tmp 8) (.tmp 9) 54 5 (.int .u8 0) 1 rfl Tryd.underlying54 info5 rfl (by decide) (by omega) u l0 3 [.int .u8 3] (fun k => (P0 k ∧ k < w.heap.size) ∨ w.heap.size + 1 ≤ k) (fun _ => False) rfl rfl rfl (fun _ hk => hk.elim) (fun k hk => .inr (by have := HSZ.out; omega)) HO.out HB1.out (by have := HSZ.out; omega) (by have := HL.out; simp at this; omega) ?_
  intro v3 W3 ho hb hg hat
  have BK3 := Aside0.mk (blk_grown BK.out hg (Kd.R_away HO.out (fun k hk => by omega)))
  have HK3 := Aside0.mk (Kept.of_grown hg HK.out (fun k hk => by rcases HO.out.1 k hk with h1 | h1; exact .inl h1.1; exact .inr (by omega)))
  have HO3 := Aside0.mk ho
  have HB3 := Aside0.mk hb
  have hs3 : w.heap.size + 1 ≤ W3.heap.size := by have h1 := HSZ.out; have h2 := hg.size; omega
  have HW3 := Aside0.mk (HW.out.of (hg.block _ (by have := HSZ.out; have := HPG.out; omega) (Kd.R_away HO.out (fun k hk => by rintro rfl; rcases hk with hk | hk; exact HNP.out.1 hk.1; have := HPG.out; omega))) (hg.block _ (by have := HSZ.out; have := HPG.out; omega) (Kd.R_away HO.out (fun k hk => by rintro rfl; rcases hk with hk | hk; exact HNP.out.2 hk.1; have := HPG.out; omega))))
  clear BK HK HO HB1 ho hb hg hat
  clear HW
  refine hK.out _ _ (((blk_cell BK3.out 3).trans rfl)) (fun hHeld => ?_)
  clear hK K
  refine norm_ (a' := ?_) ?_ ?_
  rotate_left
  · show Act.put _ (some 10) _ = _
    simp only [Act.put, List.setIfInBounds_toArray, List.set_cons_zero, List.set_cons_succ, i64_w, i32_w]
    rfl
  refine one_ (i := 7) (N := some 15) #[true, true, true, true, true, true, true, true, false] rfl rfl (by kernel_rfl) (by decide) (fun K hK => ?_)
  refine goes_ Tryd.func105 (by kernel_rfl) rfl #[v3, .int .u64 (L.length : Int)] (by rfl) rfl rfl (by simp only [List.map_toArray, List.map_cons, List.map_nil]; rfl) ?_
  refine (codec_numeral.calls 10 _ v3 _ _ _ w0 W3 HB3.out HO3.out (numl_eval _ _ (by omega) (by have := HLL.out; omega) (by have := HL.out; simp at this ⊢; omega))).mono ?_
  rintro e W5 ⟨v5, rfl, ho5, hb5, hk5⟩
  have BK5 := Aside0.mk (blk_kept BK3.out hk5 (fun hk => by omega))
  have HK5 := Aside0.mk (Kept.then_ HK3.out hk5 (fun k hk => by rcases hk with hk | hk; exact .inl hk.1; exact .inr (by omega)))
  have HO5 := Aside0.mk ho5
  have HB5 := Aside0.mk hb5
  have hs5 : W3.heap.size ≤ W5.heap.size := hk5.1
  have HW5 := Aside0.mk (HW3.out.kept hk5 (fun hk => by rcases hk with hk | hk; exact HNP.out.1 hk.1; have := HPG.out; omega) (fun hk => by rcases hk with hk | hk; exact HNP.out.2 hk.1; have := HPG.out; omega))
  clear BK3 HK3 HO3 HB3 ho5 hb5 hk5
  clear HW3
  refine ⟨_, rfl, ?_⟩
  refine hK.out _ _ (((blk_cell BK5.out 3).trans rfl)) (fun hHeld => ?_)
  clear hK K
  refine norm_ (a' := ?_) ?_ ?_
  rotate_left
  · show Act.put _ (some 15) _ = _
    simp only [Act.put, List.setIfInBounds_toArray, List.set_cons_zero, List.set_cons_succ, i64_w, i32_w]
    rfl
  refine pure_ (i := 8) (N := some 0) (v := ?_) (a' := ?_) #[true, true, true, true, true, true, true, true, true] rfl rfl (by kernel_rfl) (fun _ _ _ h => h) (Or.inl ⟨by rfl, ?_⟩) ?_ ?_
  rotate_left
  · intro w'
    go_simp
    with_reducible rfl
  rotate_left
  · simp only [Act.put, List.setIfInBounds_toArray, List.set_cons_zero, List.set_cons_succ, i64_w, i32_w]
    rfl
  refine done_ (by kernel_rfl) ?_
  obtain ⟨hc3⟩ : Aside0 (W5.cell? ⟨w.heap.size, 3, none⟩ = some (.slice A L.length c)) := ⟨(blk_cell BK5.out 3).trans rfl⟩
  replace HO5 := Aside0.mk (Kd.R_mono HO5.out (ok' := fun k => (P0 k ∧ k < w.heap.size) ∨ w.heap.size + 1 ≤ k) (fun k hk => by rcases hk with hk | hk; exact hk; exact .inr (by omega)))
  replace HW5 := Aside0.mk HW5.out
  have HS5 := Aside0.mk (show w.heap.size + 1 ≤ W5.heap.size by omega)
  clear BK5 hc3
  go_wp2_with fail
  go_loopg [0, 19] L.length (fun kq v0 v19 wr => ∃ (i : Nat), v19 = .int .i64 (i : Int) ∧ Aside0 (i + kq = L.length) ∧ Aside0 (Kd.R (Kd.int .u8) 5 wr w0.heap.size (fun k => (P0 k ∧ k < w.heap.size) ∨ w.heap.size + 1 ≤ k) v0 (l0 ++ [3] ++ numl (L.length : Int) ++ encL (L.take i))) ∧ Aside0 (Kept w wr P0) ∧ Aside0 (Below w0.heap.size w0 wr) ∧ Aside0 (IsWr wr p gw) ∧ Aside0 (w.heap.size + 1 ≤ wr.heap.size))
  case atStart => exact ⟨0, rfl, ⟨by omega⟩, ⟨by simpa [encL] using HO5.out⟩, HK5, HB5, HW5, HS5⟩
  case round =>
    clear HO5 HK5 HB5 HW5 HS5
    obtain ⟨i, rfl, HIK, HO5, HK5, HB5, HW5, HS5⟩ := hrel
    cases gk with
    | zero =>
      have hlt : decide (i < L.length) = false := by have := HIK.out; simp; omega
      have hi : i = L.length := by have := HIK.out; omega
      go_wp2
      refine bodyPost_ret (v := u0) (by simp [results, Tryd.results108, go_sem]) rfl ⟨_, rfl, ?_, HB5.out, HK5.out⟩
      have h := Kd.R_mono HO5.out (ok' := fun k => P0 k ∨ w.heap.size ≤ k) (fun k hk => by rcases hk with hk | hk; exact .inl hk.1; exact .inr (by omega))
      rw [hi, List.take_length] at h
      simpa using h
    | succ k1 =>
      have hi : i < L.length := by have := HIK.out; omega
      have hlt : decide (i < L.length) = true := by simpa using hi
      obtain ⟨ad, A1, c1, rfl, hx0, hx1, hx2, hx3, hl3, hi3⟩ := at_T63 HR.out (i : Int) (by omega) (by omega)
      replace hx0 := (HB5.out.cell (World.block_lt_of_cell? w0 _ hx0)).trans hx0
      replace hx1 := (HB5.out.cell (World.block_lt_of_cell? w0 _ hx1)).trans hx1
      replace hx2 := (HB5.out.cell (World.block_lt_of_cell? w0 _ hx2)).trans hx2
      replace hx3 := (HB5.out.cell (World.block_lt_of_cell? w0 _ hx3)).trans hx3
      have hrd : rd_T63 L (i : Int) = L[i] := by simp [rd_T63, List.getD, List.getElem?_eq_getElem hi]
      have HXm := Aside0.mk (show L[i] ∈ L from List.getElem_mem hi)
      rw [hrd] at hx0 hx1 hx2 hx3 hl3 hi3
      have HXS := Aside0.mk (encL_snoc L i hi)
      have HEL := Aside0.mk (encL_take_le L (i + 1))
      generalize hxx : L[i] = x at *
      obtain ⟨K1, N1, S1, L1⟩ := x
      simp only [Int.toNat_natCast] at hx0 hx1 hx2 hx3 hl3 hi3
      clear hrd hxx
      have HI3 := Aside0.mk hi3
      have HL3 := Aside0.mk hl3
      clear hi3 hl3
      go_wp2_with fail
      clear hx0 hx1 hx2 hx3
      have BX := Aside0.mk (blk_new wr (.cells #[.int .i64 K1, .int .i64 N1, .string S1, .slice A1 L1.length c1] 63))
      have HO7 := Aside0.mk (Kd.R_alloc HO5.out (.cells #[.int .i64 K1, .int .i64 N1, .string S1, .slice A1 L1.length c1] 63))
      have HK7 := Aside0.mk (Kept.alloc HK5.out (.cells #[.int .i64 K1, .int .i64 N1, .string S1, .slice A1 L1.length c1] 63))
      have HB7 := Aside0.mk (below_alloc HB5.out (.cells #[.int .i64 K1, .int .i64 N1, .string S1, .slice A1 L1.length c1] 63))
      have HW7 := Aside0.mk (HW5.out.below (below_alloc (Below.refl _ _) (.cells #[.int .i64 K1, .int .i64 N1, .string S1, .slice A1 L1.length c1] 63)))
      have HS7 := Aside0.mk (show w.heap.size + 1 ≤ (wr.alloc (.cells #[.int .i64 K1, .int .i64 N1, .string S1, .slice A1 L1.length c1] 63)).heap.size by have := HS5.out; simp; omega)
      clear HO5 HK5 HB5 HW5 HS5
      generalize wr.heap.size = b at *
      generalize wr.alloc (.cells #[.int .i64 K1, .int .i64 N1, .string S1, .slice A1 L1.length c1] 63) = W6 at *
      have hwx := wfL_mem HWF.out HXm.out
      have hk3 : K1 = 1 ∨ K1 = 2 ∨ K1 = 3 := by
        unfold wfP at hwx
        by_cases h : K1 = 3
        · exact .inr (.inr h)
        · rw [if_neg h] at hwx
          simp at hwx
          omega
      have hsx : SizeOf.sizeOf (S63.mk K1 N1 S1 L1) < n := Nat.lt_of_lt_of_le (List.sizeOf_lt_of_mem HXm.out) HS.out
      have hlx : (l0 ++ [3] ++ numl (L.length : Int) ++ encL (L.take i) ++ encP ⟨K1, N1, S1, L1⟩).length < 140737487000000 := by
        have h1 := HL.out
        have h2 := HEL.out
        rw [HXS.out] at h2
        simp at h1 h2 ⊢
        omega
      rcases hk3 with rfl | rfl | rfl
      · have hnp : ¬ ((P0 p ∧ p < w.heap.size) ∨ w.heap.size + 1 ≤ p) := fun hk => by rcases hk with hk | hk; exact HNP.out.1 hk.1; have := HPG.out; omega
        have hng : ¬ ((P0 gw ∧ gw < w.heap.size) ∨ w.heap.size + 1 ≤ gw) := fun hk => by rcases hk with hk | hk; exact HNP.out.2 hk.1; have := HPG.out; omega
        replace BX := Aside0.mk (blk_drew BX.out)
        replace HO7 := Aside0.mk (Kd.R_drew HO7.out)
        replace HK7 := Aside0.mk (Kept.drew HK7.out)
        replace HB7 := Aside0.mk (below_drew1 HB7.out)
        replace HW7 := Aside0.mk (show IsWr W6.drew p gw from HW7.out)
        replace HS7 := Aside0.mk (show w.heap.size + 1 ≤ W6.drew.heap.size from HS7.out)
        refine start_ (n := 11) (S := fun w' => w'.cell? ⟨p, 0, none⟩ = some (.pointer (some ⟨gw, 0, none⟩)) ∧ w'.cell? ⟨gw, 1, none⟩ = some (.func (.func 104) #[] #[]) ∧ w'.cell? ⟨b, 0, none⟩ = some (.int .i64 1) ∧ w'.cell? ⟨b, 1, none⟩ = some (.int .i64 N1) ∧ w'.cell? ⟨b, 2, none⟩ = some (.string S1) ∧ w'.cell? ⟨b, 3, none⟩ = some (.slice A1 L1.length c1)) (ds := [9]) #[false, false, false, false, false, false, false, false, false, false, false] (by kernel_rfl) rfl rfl ⟨((blk_cell HW7.out.1 0).trans rfl), ((blk_cell HW7.out.2 1).trans rfl), ((blk_cell BX.out 0).trans rfl), ((blk_cell BX.out 1).trans rfl), ((blk_cell BX.out 2).trans rfl), ((blk_cell BX.out 3).trans rfl)⟩ (fun hHeld => ?_)
        generalize W6.drew = W7 at BX HO7 HK7 HB7 HW7 HS7 hHeld ⊢
        have hcall : Calls Tryd.prog 104 #[u0, .agg #[.int .i64 1, .int .i64 N1, .string S1, .slice A1 L1.length c1]] W7 (WPost w0 W7 (fun k => (P0 k ∧ k < w.heap.size) ∨ w.heap.size + 1 ≤ k) (l0 ++ [3] ++ numl (L.length : Int) ++ encL (L.take i) ++ encP ⟨1, N1, S1, L1⟩)) := by
          have h := IH.out ⟨1, N1, S1, L1⟩ p gw A1 c1 _ u0 _ w0 W7 hsx hwx HB7.out HO7.out HW7.out hnp hng HI3.out HL3.out hlx
          simpa [fnOf, capOf] using h
        refine pure_ (i := 1) (N := some 24) (v := ?_) (a' := ?_) #[false, true, false, false, false, false, false, false, false, false, false] rfl rfl (by kernel_rfl) (fun _ _ _ h => h) (Or.inl ⟨by rfl, ?_⟩) ?_ ?_
        rotate_left
        · intro w'
          go_simp
          with_reducible rfl
        rotate_left
        · simp only [Act.put, List.setIfInBounds_toArray, List.set_cons_zero, List.set_cons_succ, i64_w, i32_w]
          rfl
        refine pure_ (i := 7) (N := some 30) (v := ?_) (a' := ?_) #[false, true, false, false, false, false, false, true, false, false, false] rfl rfl (by kernel_rfl) (fun _ _ _ h => h) (Or.inl ⟨by rfl, ?_⟩) ?_ ?_
        rotate_left
        · intro w'
          go_simp
          with_reducible rfl
        rotate_left
        · simp only [Act.put, List.setIfInBounds_toArray, List.set_cons_zero, List.set_cons_succ, i64_w, i32_w]
          rfl
        refine take_ (i := 0) (N := some 23) (v := ?_) (a' := ?_) #[true, true, false, false, false, false, false, true, false, false, false] rfl rfl (by kernel_rfl) (fun _ _ _ h => h) (Or.inl ⟨by rfl, ?_⟩) hHeld ?_ ?_
        rotate_left
        · rintro w' ⟨s0, s1, s2, s3, s4, s5⟩
          go_simp
          with_reducible rfl
        rotate_left
        · simp only [Act.put, List.setIfInBounds_toArray, List.set_cons_zero, List.set_cons_succ, i64_w, i32_w]
          rfl
        refine pure_ (i := 3) (N := some 26) (v := ?_) (a' := ?_) #[true, true, false, true, false, false, false, true, false, false, false] rfl rfl (by kernel_rfl) (fun _ _ _ h => h) (Or.inl ⟨by rfl, ?_⟩) ?_ ?_
        rotate_left
        · intro w'
          go_simp
          with_reducible rfl
        rotate_left
        · simp only [Act.put, List.setIfInBounds_toArray, List.set_cons_zero, List.set_cons_succ, i64_w, i32_w]
          rfl
        refine take_ (i := 2) (N := some 25) (v := ?_) (a' := ?_) #[true, true, true, true, false, false, false, true, false, false, false] rfl rfl (by kernel_rfl) (fun _ _ _ h => h) (Or.inl ⟨by rfl, ?_⟩) hHeld ?_ ?_
        rotate_left
        · rintro w' ⟨s0, s1, s2, s3, s4, s5⟩
          go_simp
          with_reducible rfl
        rotate_left
        · simp only [Act.put, List.setIfInBounds_toArray, List.set_cons_zero, List.set_cons_succ, i64_w, i32_w]
          rfl
        refine pure_ (i := 4) (N := some 27) (v := ?_) (a' := ?_) #[true, true, true, true, true, false, false, true, false, false, false] rfl rfl (by kernel_rfl) (fun _ _ _ h => h) (Or.inl ⟨by rfl, ?_⟩) ?_ ?_
        rotate_left
        · intro w'
          go_simp
          with_reducible rfl
        rotate_left
        · simp only [Act.put, List.setIfInBounds_toArray, List.set_cons_zero, List.set_cons_succ, i64_w, i32_w]
          rfl
        refine pure_ (i := 5) (N := some 28) (v := ?_) (a' := ?_) #[true, true, true, true, true, true, false, true, false, false, false] rfl rfl (by kernel_rfl) (fun _ _ _ h => h) (Or.inl ⟨by rfl, ?_⟩) ?_ ?_
        rotate_left
        · intro w'
          go_simp
          with_reducible rfl
        rotate_left
        · simp only [Act.put, List.setIfInBounds_toArray, List.set_cons_zero, List.set_cons_succ, i64_w, i32_w]
          rfl
        refine take_ (i := 6) (N := some 29) (v := ?_) (a' := ?_) #[true, true, true, true, true, true, true, true, false, false, false] rfl rfl (by kernel_rfl) (fun _ _ _ h => h) (Or.inl ⟨by rfl, ?_⟩) hHeld ?_ ?_
        rotate_left
        · rintro w' ⟨s0, s1, s2, s3, s4, s5⟩
          go_simp
          with_reducible rfl
        rotate_left
        · simp only [Act.put, List.setIfInBounds_toArray, List.set_cons_zero, List.set_cons_succ, i64_w, i32_w]
          rfl
        refine take_ (i := 8) (N := some 31) (v := ?_) (a' := ?_) #[true, true, true, true, true, true, true, true, true, false, false] rfl rfl (by kernel_rfl) (fun _ _ _ h => h) (Or.inl ⟨by rfl, ?_⟩) hHeld ?_ ?_
        rotate_left
        · rintro w' ⟨s0, s1, s2, s3, s4, s5⟩
          go_simp
          with_reducible rfl
        rotate_left
        · simp only [Act.put, List.setIfInBounds_toArray, List.set_cons_zero, List.set_cons_succ, i64_w, i32_w]
          rfl
        refine last_ (i := 9) (N := some 32) #[true, true, true, true, true, true, true, true, true, true, false] rfl rfl (by kernel_rfl) (by decide) (fun K hK => ?_)
        refine goesF_ (by rfl) (by rfl) Tryd.func104 (by kernel_rfl) rfl #[u0, .agg #[.int .i64 1, .int .i64 N1, .string S1, .slice A1 L1.length c1]] (by rfl) (by rfl) (by simp only [List.map_toArray, List.map_cons, List.map_nil]; rfl) ?_
        refine hcall.mono ?_
        rintro e W9 ⟨u9, rfl, ho9, hb9, hk9⟩
        have HO9 := Aside0.mk ho9
        have HB9 := Aside0.mk hb9
        have HK9 := Aside0.mk (Kept.then_ HK7.out hk9 (fun k hk => by rcases hk with hk | hk; exact .inl hk.1; exact .inr (by omega)))
        have HW9 := Aside0.mk (HW7.out.kept hk9 hnp hng)
        have HS9 := Aside0.mk (show w.heap.size + 1 ≤ W9.heap.size from Nat.le_trans HS7.out hk9.1)
        clear ho9 hb9 hk9 hcall
        refine ⟨_, rfl, ?_⟩
        refine hK.out _ _ ?_
        clear hK K
        refine norm_ (a' := ?_) ?_ ?_
        rotate_left
        · show Act.put _ (some 32) _ = _
          simp only [Act.put, List.setIfInBounds_toArray, List.set_cons_zero, List.set_cons_succ, i64_w, i32_w]
          rfl
        refine pure_ (i := 10) (N := some 0) (v := ?_) (a' := ?_) #[true, true, true, true, true, true, true, true, true, true, true] rfl rfl (by kernel_rfl) (fun _ _ _ h => h) (Or.inl ⟨by rfl, ?_⟩) ?_ ?_
        rotate_left
        · intro w'
          go_simp
          with_reducible rfl
        rotate_left
        · simp only [Act.put, List.setIfInBounds_toArray, List.set_cons_zero, List.set_cons_succ, i64_w, i32_w]
          rfl
        refine done_ (by kernel_rfl) ?_
        go_wp2_with fail
        have hw : Value.int .i64 (wrap64 ((i : Int) + 1)) = .int .i64 ((i + 1 : Nat) : Int) := by have h1 := HLL.out; have h2 := HIK.out; rw [IntWalk.wrap64_in _ (by omega)]; rfl
        go_roundg k1
        case measure => have := HIK.out; omega
        case rel =>
          refine ⟨i + 1, hw, ⟨by have := HIK.out; omega⟩, ⟨?_⟩, HK9, HB9, HW9, HS9⟩
          have h := Kd.R_mono HO9.out (ok' := fun k => (P0 k ∧ k < w.heap.size) ∨ w.heap.size + 1 ≤ k) (fun k hk => by rcases hk with hk | hk; exact hk; exact .inr (by have := HS7.out; omega))
          rw [HXS.out]
          simpa using h
      · have hnp : ¬ ((P0 p ∧ p < w.heap.size) ∨ w.heap.size + 1 ≤ p) := fun hk => by rcases hk with hk | hk; exact HNP.out.1 hk.1; have := HPG.out; omega
        have hng : ¬ ((P0 gw ∧ gw < w.heap.size) ∨ w.heap.size + 1 ≤ gw) := fun hk => by rcases hk with hk | hk; exact HNP.out.2 hk.1; have := HPG.out; omega
        replace BX := Aside0.mk (blk_drew BX.out)
        replace HO7 := Aside0.mk (Kd.R_drew HO7.out)
        replace HK7 := Aside0.mk (Kept.drew HK7.out)
        replace HB7 := Aside0.mk (below_drew1 HB7.out)
        replace HW7 := Aside0.mk (show IsWr W6.drew p gw from HW7.out)
        replace HS7 := Aside0.mk (show w.heap.size + 1 ≤ W6.drew.heap.size from HS7.out)
        refine start_ (n := 11) (S := fun w' => w'.cell? ⟨p, 0, none⟩ = some (.pointer (some ⟨gw, 0, none⟩)) ∧ w'.cell? ⟨gw, 2, none⟩ = some (.func (.func 107) #[] #[]) ∧ w'.cell? ⟨b, 0, none⟩ = some (.int .i64 2) ∧ w'.cell? ⟨b, 1, none⟩ = some (.int .i64 N1) ∧ w'.cell? ⟨b, 2, none⟩ = some (.string S1) ∧ w'.cell? ⟨b, 3, none⟩ = some (.slice A1 L1.length c1)) (ds := [9]) #[false, false, false, false, false, false, false, false, false, false, false] (by kernel_rfl) rfl rfl ⟨((blk_cell HW7.out.1 0).trans rfl), ((blk_cell HW7.out.2 2).trans rfl), ((blk_cell BX.out 0).trans rfl), ((blk_cell BX.out 1).trans rfl), ((blk_cell BX.out 2).trans rfl), ((blk_cell BX.out 3).trans rfl)⟩ (fun hHeld => ?_)
        generalize W6.drew = W7 at BX HO7 HK7 HB7 HW7 HS7 hHeld ⊢
        have hcall : Calls Tryd.prog 107 #[u0, .agg #[.int .i64 2, .int .i64 N1, .string S1, .slice A1 L1.length c1]] W7 (WPost w0 W7 (fun k => (P0 k ∧ k < w.heap.size) ∨ w.heap.size + 1 ≤ k) (l0 ++ [3] ++ numl (L.length : Int) ++ encL (L.take i) ++ encP ⟨2, N1, S1, L1⟩)) := by
          have h := IH.out ⟨2, N1, S1, L1⟩ p gw A1 c1 _ u0 _ w0 W7 hsx hwx HB7.out HO7.out HW7.out hnp hng HI3.out HL3.out hlx
          simpa [fnOf, capOf] using h
        refine pure_ (i := 1) (N := some 24) (v := ?_) (a' := ?_) #[false, true, false, false, false, false, false, false, false, false, false] rfl rfl (by kernel_rfl) (fun _ _ _ h => h) (Or.inl ⟨by rfl, ?_⟩) ?_ ?_
        rotate_left
        · intro w'
          go_simp
          with_reducible rfl
        rotate_left
        · simp only [Act.put, List.setIfInBounds_toArray, List.set_cons_zero, List.set_cons_succ, i64_w, i32_w]
          rfl
        refine pure_ (i := 7) (N := some 30) (v := ?_) (a' := ?_) #[false, true, false, false, false, false, false, true, false, false, false] rfl rfl (by kernel_rfl) (fun _ _ _ h => h) (Or.inl ⟨by rfl, ?_⟩) ?_ ?_
        rotate_left
        · intro w'
          go_simp
          with_reducible rfl
        rotate_left
        · simp only [Act.put, List.setIfInBounds_toArray, List.set_cons_zero, List.set_cons_succ, i64_w, i32_w]
          rfl
        refine take_ (i := 0) (N := some 23) (v := ?_) (a' := ?_) #[true, true, false, false, false, false, false, true, false, false, false] rfl rfl (by kernel_rfl) (fun _ _ _ h => h) (Or.inl ⟨by rfl, ?_⟩) hHeld ?_ ?_
        rotate_left
        · rintro w' ⟨s0, s1, s2, s3, s4, s5⟩
          go_simp
          with_reducible rfl
        rotate_left
        · simp only [Act.put, List.setIfInBounds_toArray, List.set_cons_zero, List.set_cons_succ, i64_w, i32_w]
          rfl
        refine pure_ (i := 3) (N := some 26) (v := ?_) (a' := ?_) #[true, true, false, true, false, false, false, true, false, false, false] rfl rfl (by kernel_rfl) (fun _ _ _ h => h) (Or.inl ⟨by rfl, ?_⟩) ?_ ?_
        rotate_left
        · intro w'
          go_simp
          with_reducible rfl
        rotate_left
        · simp only [Act.put, List.setIfInBounds_toArray, List.set_cons_zero, List.set_cons_succ, i64_w, i32_w]
          rfl
        refine take_ (i := 2) (N := some 25) (v := ?_) (a' := ?_) #[true, true, true, true, false, false, false, true, false, false, false] rfl rfl (by kernel_rfl) (fun _ _ _ h => h) (Or.inl ⟨by rfl, ?_⟩) hHeld ?_ ?_
        rotate_left
        · rintro w' ⟨s0, s1, s2, s3, s4, s5⟩
          go_simp
          with_reducible rfl
        rotate_left
        · simp only [Act.put, List.setIfInBounds_toArray, List.set_cons_zero, List.set_cons_succ, i64_w, i32_w]
          rfl
        refine pure_ (i := 4) (N := some 27) (v := ?_) (a' := ?_) #[true, true, true, true, true, false, false, true, false, false, false] rfl rfl (by kernel_rfl) (fun _ _ _ h => h) (Or.inl ⟨by rfl, ?_⟩) ?_ ?_
        rotate_left
        · intro w'
          go_simp
          with_reducible rfl
        rotate_left
        · simp only [Act.put, List.setIfInBounds_toArray, List.set_cons_zero, List.set_cons_succ, i64_w, i32_w]
          rfl
        refine pure_ (i := 5) (N := some 28) (v := ?_) (a' := ?_) #[true, true, true, true, true, true, false, true, false, false, false] rfl rfl (by kernel_rfl) (fun _ _ _ h => h) (Or.inl ⟨by rfl, ?_⟩) ?_ ?_
        rotate_left
        · intro w'
          go_simp
          with_reducible rfl
        rotate_left
        · simp only [Act.put, List.setIfInBounds_toArray, List.set_cons_zero, List.set_cons_succ, i64_w, i32_w]
          rfl
        refine take_ (i := 6) (N := some 29) (v := ?_) (a' := ?_) #[true, true, true, true, true, true, true, true, false, false, false] rfl rfl (by kernel_rfl) (fun _ _ _ h => h) (Or.inl ⟨by rfl, ?_⟩) hHeld ?_ ?_
        rotate_left
        · rintro w' ⟨s0, s1, s2, s3, s4, s5⟩
          go_simp
          with_reducible rfl
        rotate_left
        · simp only [Act.put, List.setIfInBounds_toArray, List.set_cons_zero, List.set_cons_succ, i64_w, i32_w]
          rfl
        refine take_ (i := 8) (N := some 31) (v := ?_) (a' := ?_) #[true, true, true, true, true, true, true, true, true, false, false] rfl rfl (by kernel_rfl) (fun _ _ _ h => h) (Or.inl ⟨by rfl, ?_⟩) hHeld ?_ ?_
        rotate_left
        · rintro w' ⟨s0, s1, s2, s3, s4, s5⟩
          go_simp
          with_reducible rfl
        rotate_left
        · simp only [Act.put, List.setIfInBounds_toArray, List.set_cons_zero, List.set_cons_succ, i64_w, i32_w]
          rfl
        refine last_ (i := 9) (N := some 32) #[true, true, true, true, true, true, true, true, true, true, false] rfl rfl (by kernel_rfl) (by decide) (fun K hK => ?_)
        refine goesF_ (by rfl) (by rfl) Tryd.func107 (by kernel_rfl) rfl #[u0, .agg #[.int .i64 2, .int .i64 N1, .string S1, .slice A1 L1.length c1]] (by rfl) (by rfl) (by simp only [List.map_toArray, List.map_cons, List.map_nil]; rfl) ?_
        refine hcall.mono ?_
        rintro e W9 ⟨u9, rfl, ho9, hb9, hk9⟩
        have HO9 := Aside0.mk ho9
        have HB9 := Aside0.mk hb9
        have HK9 := Aside0.mk (Kept.then_ HK7.out hk9 (fun k hk => by rcases hk with hk | hk; exact .inl hk.1; exact .inr (by omega)))
        have HW9 := Aside0.mk (HW7.out.kept hk9 hnp hng)
        have HS9 := Aside0.mk (show w.heap.size + 1 ≤ W9.heap.size from Nat.le_trans HS7.out hk9.1)
        clear ho9 hb9 hk9 hcall
        refine ⟨_, rfl, ?_⟩
        refine hK.out _ _ ?_
        clear hK K
        refine norm_ (a' := ?_) ?_ ?_
        rotate_left
        · show Act.put _ (some 32) _ = _
          simp only [Act.put, List.setIfInBounds_toArray, List.set_cons_zero, List.set_cons_succ, i64_w, i32_w]
          rfl
        refine pure_ (i := 10) (N := some 0) (v := ?_) (a' := ?_) #[true, true, true, true, true, true, true, true, true, true, true] rfl rfl (by kernel_rfl) (fun _ _ _ h => h) (Or.inl ⟨by rfl, ?_⟩) ?_ ?_
        rotate_left
        · intro w'
          go_simp
          with_reducible rfl
        rotate_left
        · simp only [Act.put, List.setIfInBounds_toArray, List.set_cons_zero, List.set_cons_succ, i64_w, i32_w]
          rfl
        refine done_ (by kernel_rfl) ?_
        go_wp2_with fail
        have hw : Value.int .i64 (wrap64 ((i : Int) + 1)) = .int .i64 ((i + 1 : Nat) : Int) := by have h1 := HLL.out; have h2 := HIK.out; rw [IntWalk.wrap64_in _ (by omega)]; rfl
        go_roundg k1
        case measure => have := HIK.out; omega
        case rel =>
          refine ⟨i + 1, hw, ⟨by have := HIK.out; omega⟩, ⟨?_⟩, HK9, HB9, HW9, HS9⟩
          have h := Kd.R_mono HO9.out (ok' := fun k => (P0 k ∧ k < w.heap.size) ∨ w.heap.size + 1 ≤ k) (fun k hk => by rcases hk with hk | hk; exact hk; exact .inr (by have := HS7.out; omega))
          rw [HXS.out]
          simpa using h
      · have hnp : ¬ ((P0 p ∧ p < w.heap.size) ∨ w.heap.size + 1 ≤ p) := fun hk => by rcases hk with hk | hk; exact HNP.out.1 hk.1; have := HPG.out; omega
        have hng : ¬ ((P0 gw ∧ gw < w.heap.size) ∨ w.heap.size + 1 ≤ gw) := fun hk => by rcases hk with hk | hk; exact HNP.out.2 hk.1; have := HPG.out; omega
        replace BX := Aside0.mk (blk_drew BX.out)
        replace HO7 := Aside0.mk (Kd.R_drew HO7.out)
        replace HK7 := Aside0.mk (Kept.drew HK7.out)
        replace HB7 := Aside0.mk (below_drew1 HB7.out)
        replace HW7 := Aside0.mk (show IsWr W6.drew p gw from HW7.out)
        replace HS7 := Aside0.mk (show w.heap.size + 1 ≤ W6.drew.heap.size from HS7.out)
        refine start_ (n := 11) (S := fun w' => w'.cell? ⟨p, 0, none⟩ = some (.pointer (some ⟨gw, 0, none⟩)) ∧ w'.cell? ⟨gw, 3, none⟩ = some (.func (.func 108) #[] #[.pointer (some ⟨p, 0, none⟩)]) ∧ w'.cell? ⟨b, 0, none⟩ = some (.int .i64 3) ∧ w'.cell? ⟨b, 1, none⟩ = some (.int .i64 N1) ∧ w'.cell? ⟨b, 2, none⟩ = some (.string S1) ∧ w'.cell? ⟨b, 3, none⟩ = some (.slice A1 L1.length c1)) (ds := [9]) #[false, false, false, false, false, false, false, false, false, false, false] (by kernel_rfl) rfl rfl ⟨((blk_cell HW7.out.1 0).trans rfl), ((blk_cell HW7.out.2 3).trans rfl), ((blk_cell BX.out 0).trans rfl), ((blk_cell BX.out 1).trans rfl), ((blk_cell BX.out 2).trans rfl), ((blk_cell BX.out 3).trans rfl)⟩ (fun hHeld => ?_)
        generalize W6.drew = W7 at BX HO7 HK7 HB7 HW7 HS7 hHeld ⊢
        have hcall : Calls Tryd.prog 108 #[u0, .agg #[.int .i64 3, .int .i64 N1, .string S1, .slice A1 L1.length c1], .pointer (some ⟨p, 0, none⟩)] W7 (WPost w0 W7 (fun k => (P0 k ∧ k < w.heap.size) ∨ w.heap.size + 1 ≤ k) (l0 ++ [3] ++ numl (L.length : Int) ++ encL (L.take i) ++ encP ⟨3, N1, S1, L1⟩)) := by
          have h := IH.out ⟨3, N1, S1, L1⟩ p gw A1 c1 _ u0 _ w0 W7 hsx hwx HB7.out HO7.out HW7.out hnp hng HI3.out HL3.out hlx
          simpa [fnOf, capOf] using h
        refine pure_ (i := 1) (N := some 24) (v := ?_) (a' := ?_) #[false, true, false, false, false, false, false, false, false, false, false] rfl rfl (by kernel_rfl) (fun _ _ _ h => h) (Or.inl ⟨by rfl, ?_⟩) ?_ ?_
        rotate_left
        · intro w'
          go_simp
          with_reducible rfl
        rotate_left
        · simp only [Act.put, List.setIfInBounds_toArray, List.set_cons_zero, List.set_cons_succ, i64_w, i32_w]
          rfl
        refine pure_ (i := 7) (N := some 30) (v := ?_) (a' := ?_) #[false, true, false, false, false, false, false, true, false, false, false] rfl rfl (by kernel_rfl) (fun _ _ _ h => h) (Or.inl ⟨by rfl, ?_⟩) ?_ ?_
        rotate_left
        · intro w'
          go_simp
          with_reducible rfl
        rotate_left
        · simp only [Act.put, List.setIfInBounds_toArray, List.set_cons_zero, List.set_cons_succ, i64_w, i32_w]
          rfl
        refine take_ (i := 0) (N := some 23) (v := ?_) (a' := ?_) #[true, true, false, false, false, false, false, true, false, false, false] rfl rfl (by kernel_rfl) (fun _ _ _ h => h) (Or.inl ⟨by rfl, ?_⟩) hHeld ?_ ?_
        rotate_left
        · rintro w' ⟨s0, s1, s2, s3, s4, s5⟩
          go_simp
          with_reducible rfl
        rotate_left
        · simp only [Act.put, List.setIfInBounds_toArray, List.set_cons_zero, List.set_cons_succ, i64_w, i32_w]
          rfl
        refine pure_ (i := 3) (N := some 26) (v := ?_) (a' := ?_) #[true, true, false, true, false, false, false, true, false, false, false] rfl rfl (by kernel_rfl) (fun _ _ _ h => h) (Or.inl ⟨by rfl, ?_⟩) ?_ ?_
        rotate_left
        · intro w'
          go_simp
          with_reducible rfl
        rotate_left
        · simp only [Act.put, List.setIfInBounds_toArray, List.set_cons_zero, List.set_cons_succ, i64_w, i32_w]
          rfl
        refine take_ (i := 2) (N := some 25) (v := ?_) (a' := ?_) #[true, true, true, true, false, false, false, true, false, false, false] rfl rfl (by kernel_rfl) (fun _ _ _ h => h) (Or.inl ⟨by rfl, ?_⟩) hHeld ?_ ?_
        rotate_left
        · rintro w' ⟨s0, s1, s2, s3, s4, s5⟩
          go_simp
          with_reducible rfl
        rotate_left
        · simp only [Act.put, List.setIfInBounds_toArray, List.set_cons_zero, List.set_cons_succ, i64_w, i32_w]
          rfl
        refine pure_ (i := 4) (N := some 27) (v := ?_) (a' := ?_) #[true, true, true, true, true, false, false, true, false, false, false] rfl rfl (by kernel_rfl) (fun _ _ _ h => h) (Or.inl ⟨by rfl, ?_⟩) ?_ ?_
        rotate_left
        · intro w'
          go_simp
          with_reducible rfl
        rotate_left
        · simp only [Act.put, List.setIfInBounds_toArray, List.set_cons_zero, List.set_cons_succ, i64_w, i32_w]
          rfl
        refine pure_ (i := 5) (N := some 28) (v := ?_) (a' := ?_) #[true, true, true, true, true, true, false, true, false, false, false] rfl rfl (by kernel_rfl) (fun _ _ _ h => h) (Or.inl ⟨by rfl, ?_⟩) ?_ ?_
        rotate_left
        · intro w'
          go_simp
          with_reducible rfl
        rotate_left
        · simp only [Act.put, List.setIfInBounds_toArray, List.set_cons_zero, List.set_cons_succ, i64_w, i32_w]
          rfl
        refine take_ (i := 6) (N := some 29) (v := ?_) (a' := ?_) #[true, true, true, true, true, true, true, true, false, false, false] rfl rfl (by kernel_rfl) (fun _ _ _ h => h) (Or.inl ⟨by rfl, ?_⟩) hHeld ?_ ?_
        rotate_left
        · rintro w' ⟨s0, s1, s2, s3, s4, s5⟩
          go_simp
          with_reducible rfl
        rotate_left
        · simp only [Act.put, List.setIfInBounds_toArray, List.set_cons_zero, List.set_cons_succ, i64_w, i32_w]
          rfl
        refine take_ (i := 8) (N := some 31) (v := ?_) (a' := ?_) #[true, true, true, true, true, true, true, true, true, false, false] rfl rfl (by kernel_rfl) (fun _ _ _ h => h) (Or.inl ⟨by rfl, ?_⟩) hHeld ?_ ?_
        rotate_left
        · rintro w' ⟨s0, s1, s2, s3, s4, s5⟩
          go_simp
          with_reducible rfl
        rotate_left
        · simp only [Act.put, List.setIfInBounds_toArray, List.set_cons_zero, List.set_cons_succ, i64_w, i32_w]
          rfl
        refine last_ (i := 9) (N := some 32) #[true, true, true, true, true, true, true, true, true, true, false] rfl rfl (by kernel_rfl) (by decide) (fun K hK => ?_)
        refine goesF_ (by rfl) (by rfl) Tryd.func108 (by kernel_rfl) rfl #[u0, .agg #[.int .i64 3, .int .i64 N1, .string S1, .slice A1 L1.length c1], .pointer (some ⟨p, 0, none⟩)] (by rfl) (by rfl) (by simp only [List.map_toArray, List.map_cons, List.map_nil]; rfl) ?_
        refine hcall.mono ?_
        rintro e W9 ⟨u9, rfl, ho9, hb9, hk9⟩
        have HO9 := Aside0.mk ho9
        have HB9 := Aside0.mk hb9
        have HK9 := Aside0.mk (Kept.then_ HK7.out hk9 (fun k hk => by rcases hk with hk | hk; exact .inl hk.1; exact .inr (by omega)))
        have HW9 := Aside0.mk (HW7.out.kept hk9 hnp hng)
        have HS9 := Aside0.mk (show w.heap.size + 1 ≤ W9.heap.size from Nat.le_trans HS7.out hk9.1)
        clear ho9 hb9 hk9 hcall
        refine ⟨_, rfl, ?_⟩
        refine hK.out _ _ ?_
        clear hK K
        refine norm_ (a' := ?_) ?_ ?_
        rotate_left
        · show Act.put _ (some 32) _ = _
          simp only [Act.put, List.setIfInBounds_toArray, List.set_cons_zero, List.set_cons_succ, i64_w, i32_w]
          rfl
        refine pure_ (i := 10) (N := some 0) (v := ?_) (a' := ?_) #[true, true, true, true, true, true, true, true, true, true, true] rfl rfl (by kernel_rfl) (fun _ _ _ h => h) (Or.inl ⟨by rfl, ?_⟩) ?_ ?_
        rotate_left
        · intro w'
          go_simp
          with_reducible rfl
        rotate_left
        · simp only [Act.put, List.setIfInBounds_toArray, List.set_cons_zero, List.set_cons_succ, i64_w, i32_w]
          rfl
        refine done_ (by kernel_rfl) ?_
        go_wp2_with fail
        have hw : Value.int .i64 (wrap64 ((i : Int) + 1)) = .int .i64 ((i + 1 : Nat) : Int) := by have h1 := HLL.out; have h2 := HIK.out; rw [IntWalk.wrap64_in _ (by omega)]; rfl
        go_roundg k1
        case measure => have := HIK.out; omega
        case rel =>
          refine ⟨i + 1, hw, ⟨by have := HIK.out; omega⟩, ⟨?_⟩, HK9, HB9, HW9, HS9⟩
          have h := Kd.R_mono HO9.out (ok' := fun k => (P0 k ∧ k < w.heap.size) ∨ w.heap.size + 1 ≤ k) (fun k hk => by rcases hk with hk | hk; exact hk; exact .inr (by have := HS7.out; omega))
          rw [HXS.out]
          simpa using h
end
section
set_option maxRecDepth 100000
open Go.RowKit Go.Proofs.YtncejmjicjlanaaDoorW.PrintWords Go.Proofs.YtncejmjicjlanaaDoorW.PrintLast Go.Proofs.YtncejmjicjlanaaDoorW.PrintMore
set_option linter.unusedVariables false
set_option linter.unusedSimpArgs false
theorem wfL_of : ∀ (L : List S63), (∀ v ∈ L, wfP v = true) → wfL L = true
  | [], _ => rfl
  | v :: L, h => by
    unfold wfL
    rw [Bool.and_eq_true]
    exact ⟨h v (by simp), wfL_of L (fun x hx => h x (by simp [hx]))⟩
theorem encL_mem : ∀ {L : List S63} {v : S63}, v ∈ L → (encP v).length ≤ (encL L).length
  | [], _, h => by cases h
  | x :: L, v, h => by
    unfold encL
    rw [List.length_append]
    rcases List.mem_cons.1 h with rfl | h
    · omega
    · have := encL_mem h
      omega
theorem s63_eta (v : S63) : (⟨v.f0, v.f1, v.f2, v.f3⟩ : S63) = v := by cases v; rfl
theorem formed_wf : ∀ k, (∀ (K N : Int) (S : ByteArray) (L : List S63) (d : Int), (encP ⟨K, N, S, L⟩).length < 140737487000000 → codec_formed.f k K N S L = some (d, true) → wfP ⟨K, N, S, L⟩ = true) ∧ (∀ (L : List S63) (i : Nat) (d0 d : Int), (encL L).length < 140737487000000 → codec_formed.l0 k L (i : Int) d0 = some (d, true) → ∀ j, i ≤ j → ∀ (h : j < L.length), wfP L[j] = true)
  | 0 => ⟨fun _ _ _ _ _ _ h => by simp [codec_formed.f] at h, fun _ _ _ _ _ h => by simp [codec_formed.l0] at h⟩
  | k + 1 => by
    obtain ⟨ih0, ih1⟩ := formed_wf k
    refine ⟨?_, ?_⟩
    · intro K N S L d hl h
      unfold codec_formed.f at h
      by_cases hu : usedB K N S L = true
      · rw [if_pos hu] at h
        by_cases k3 : K = 3
        · subst k3
          rw [if_neg (by omega)] at h
          have hl2 : (encL L).length < 140737487000000 := by
            unfold encP at hl
            rw [if_neg (by decide), if_neg (by decide)] at hl
            simp at hl
            omega
          unfold wfP
          rw [if_pos rfl]
          refine wfL_of L (fun v hv => ?_)
          obtain ⟨j, hj, rfl⟩ := List.getElem_of_mem hv
          exact ih1 L 0 0 d hl2 h j (by omega) hj
        · unfold wfP
          rw [if_neg k3]
          unfold usedB at hu
          by_cases k1 : K = 1
          · simp [k1]
          · rw [if_neg k1] at hu
            by_cases k2 : K = 2
            · simp [k2]
            · rw [if_neg k2, if_neg k3] at hu
              cases hu
      · rw [if_neg hu] at h
        injection h with h
        injection h with _ h
        cases h
    · intro L i d0 d hl h j hij hj
      unfold codec_formed.l0 at h
      have hlen := encL_len L
      have hi : (i : Int) < (L.length : Int) := by omega
      rw [if_pos hi, if_pos (by omega)] at h
      obtain ⟨⟨n, ok⟩, hf, h⟩ := Option.bind_eq_some_iff.mp h
      cases ok
      · rw [if_neg (by simp)] at h
        injection h with h
        injection h with _ h
        cases h
      · rw [if_pos rfl] at h
        have hrd : rd_T63 L (i : Int) = L[i]'(by omega) := by simp [rd_T63, List.getD, List.getElem?_eq_getElem (show i < L.length by omega)]
        by_cases e : i = j
        · subst e
          rw [hrd] at hf
          have := encL_mem (List.getElem_mem hj)
          have h7 := ih0 _ _ _ _ n (by rw [s63_eta]; omega) hf
          rwa [s63_eta] at h7
        · rw [IntWalk.wrap64_in _ (by omega)] at h
          exact ih1 L (i + 1) _ d hl h j (by omega) hj
theorem write_calls : ∀ n, WriteOk n
  | 0 => fun v _ _ _ _ _ _ _ _ _ h => absurd h (by omega)
  | n + 1 => by
    intro v p gw A c P0 u l0 w0 w hs hwf hB hu hW hp hg hr hc hl
    obtain ⟨K, N, S, L⟩ := v
    simp only at hr hc
    have hk3 : K = 1 ∨ K = 2 ∨ K = 3 := by
      unfold wfP at hwf
      by_cases h : K = 3
      · exact .inr (.inr h)
      · rw [if_neg h] at hwf
        simp at hwf
        omega
    rcases hk3 with rfl | rfl | rfl
    · have e : encP ⟨1, N, S, L⟩ = 1 :: numl (unsP N) := by simp [encP]
      rw [e] at hl ⊢
      have h := write_int 1 N S A c L P0 u l0 w0 w hB hu hl
      simpa [fnOf, capOf] using h
    · have e : encP ⟨2, N, S, L⟩ = 2 :: (numl (S.size : Int) ++ bytesOf S) := by simp [encP]
      rw [e] at hl ⊢
      have h := write_text 2 N S A c L P0 u l0 w0 w hB hu hl
      simpa [fnOf, capOf] using h
    · have e : encP ⟨3, N, S, L⟩ = 3 :: (numl (L.length : Int) ++ encL L) := by simp [encP]
      rw [e] at hl ⊢
      have hw2 : wfL L = true := by simpa [wfP] using hwf
      have h := write_list n (write_calls n) N S A c L p gw P0 u l0 w0 w (by rw [S63.mk.sizeOf_spec] at hs; omega) hw2 hB hu hW hp hg hr hc hl
      simpa [fnOf, capOf] using h
set_option maxHeartbeats 4000000 in
set_option maxRecDepth 100000 in
theorem newWriter_calls (w : World) : Calls Tryd.prog 86 #[] w fun e w' => ∃ p gw, e = .returned (.pointer (some ⟨gw, 0, none⟩)) ∧ IsWr w' p gw ∧ Below w.heap.size w w' ∧ w.heap.size ≤ p ∧ w.heap.size ≤ gw := by
  have hmf : ∀ (fn : Fn) (first cap : Array Value) (w : World), (Instr.makeFunc fn first cap).run Tryd.prog w = .ok (.func fn first cap) w := fun _ _ _ _ => rfl
  have hu130 := Tryd.underlying130
  have hu112 := Tryd.underlying112
  go_enter Tryd.func86, Tryd.ntmps86
  go_wp2
  have hT := blk_alloc (blk_new w (.cells #[.nilFunc, .func (.func 104) #[] #[], .func (.func 107) #[] #[], .func (.func 108) #[] #[.pointer (some ⟨w.heap.size + 1, 0, none⟩)]] 130)) (.cells #[.pointer (some ⟨w.heap.size, 0, none⟩)] 113)
  have hP := blk_new (w.alloc (.cells #[.nilFunc, .func (.func 104) #[] #[], .func (.func 107) #[] #[], .func (.func 108) #[] #[.pointer (some ⟨w.heap.size + 1, 0, none⟩)]] 130)) (.cells #[.pointer (some ⟨w.heap.size, 0, none⟩)] 113)
  rw [World.size_alloc] at hP
  refine bodyPost_ret (v := .pointer (some ⟨w.heap.size, 0, none⟩)) (by simp [results, Tryd.results86, go_sem]) rfl ?_
  exact ⟨w.heap.size + 1, w.heap.size, rfl, ⟨hP, hT⟩, below_alloc (below_alloc (Below.refl w.heap.size w) (.cells #[.nilFunc, .func (.func 104) #[] #[], .func (.func 107) #[] #[], .func (.func 108) #[] #[.pointer (some ⟨w.heap.size + 1, 0, none⟩)]] 130)) (.cells #[.pointer (some ⟨w.heap.size, 0, none⟩)] 113), by omega, Nat.le_refl _⟩
def codec_Encode.f (k : Nat) (a0_0 : Int) (a0_1 : Int) (a0_2 : ByteArray) (l0_3 : List (S63)) : Option (List Int × Int) := if (encP ⟨a0_0, a0_1, a0_2, l0_3⟩).length < 140737487000000 then (codec_Check.f k a0_0 a0_1 a0_2 l0_3).bind fun t => (if t = 0 then some (encP ⟨a0_0, a0_1, a0_2, l0_3⟩, 0) else some (([] : List Int), t)) else none
theorem codec_Encode.mono : ∀ a0 a1 a2 a3 k, LeO (codec_Encode.f k a0 a1 a2 a3) (codec_Encode.f (k + 1) a0 a1 a2 a3) := fun a0 a1 a2 a3 k => LeO.ite (LeO.bind (codec_Check.mono a0 a1 a2 a3 k) (fun _ => LeO.refl _)) (LeO.refl _)
theorem check_wf {k : Nat} {K N : Int} {S : ByteArray} {L : List S63} (hl : (encP ⟨K, N, S, L⟩).length < 140737487000000) (h : codec_Check.f k K N S L = some 0) : wfP ⟨K, N, S, L⟩ = true := by
  unfold codec_Check.f at h
  obtain ⟨⟨n, ok⟩, hf, h⟩ := Option.bind_eq_some_iff.mp h
  cases ok
  · simp at h
  · exact (formed_wf k).1 K N S L n hl hf
set_option maxHeartbeats 4000000 in
set_option maxRecDepth 100000 in
theorem encode_walk (k : Nat) (K N : Int) (S : ByteArray) (A : Option Addr) (c : Nat) (L : List S63) (t : Int) (w : World) (hr : Kd.C k63 w A L.length L) (hc : L.length ≤ c) (hl : (encP ⟨K, N, S, L⟩).length < 140737487000000) (h : codec_Check.f k K N S L = some t) :
    Calls Tryd.prog 59 #[.agg #[.int .i64 K, .int .i64 N, .string S, .slice A L.length c]] w fun e w' => ∃ v0_ : Value, e = .returned (.tuple #[v0_, .int .i64 t]) ∧ Kd.R (Kd.int .u8) 5 w' w.heap.size (fun _ => True) v0_ (if t = 0 then encP ⟨K, N, S, L⟩ else []) ∧ Below w.heap.size w w' := by
  have hu63 := Tryd.underlying63
  have hu130 := Tryd.underlying130
  have hu112 := Tryd.underlying112
  have HR := Aside0.mk hr
  have HC := Aside0.mk hc
  have HL := Aside0.mk hl
  have H := Aside0.mk h
  clear hr hc hl h
  go_enter Tryd.func59, Tryd.ntmps59
  go_wp2_with fail
  have hb1 := below_alloc (Below.refl w.heap.size w) (.cells #[.int .i64 K, .int .i64 N, .string S, .slice A L.length c] 63)
  have hx1 := blk_new w (.cells #[.int .i64 K, .int .i64 N, .string S, .slice A L.length c] 63)
  generalize w.alloc (.cells #[.int .i64 K, .int .i64 N, .string S, .slice A L.length c] 63) = W0 at *
  refine (codec_Check.calls k K N S A c L t W0 (Kd.C_below HR.out hb1) HC.out H.out).mono ?_
  rintro e W1 ⟨rfl, hb⟩
  have BX := Aside0.mk (blk_below hx1 hb)
  have HB := Aside0.mk (hb1.trans (hb.mono hb1.size))
  clear hb1 hx1 hb
  by_cases ht : t = 0
  case neg =>
    have hn : (t != 0) = true := by simpa using ht
    go_wp2
    refine bodyPost_ret (v := .tuple #[.slice none 0 0, .int .i64 t]) (by simp [results, Tryd.results59, go_sem]) rfl ⟨_, rfl, ?_, HB.out⟩
    first | exact Kd.R_nil _ _ _ _ _ | (rw [if_neg ht]; exact Kd.R_nil _ _ _ _ _)
  subst ht
  have hwf := check_wf HL.out H.out
  have HWF := Aside0.mk hwf
  have hk3 : K = 1 ∨ K = 2 ∨ K = 3 := by
    unfold wfP at hwf
    by_cases h : K = 3
    · exact .inr (.inr h)
    · rw [if_neg h] at hwf
      simp at hwf
      omega
  clear hwf H
  rcases hk3 with rfl | rfl | rfl
  · go_wp2_with fail
    replace BX := Aside0.mk (blk_drew BX.out)
    replace HB := Aside0.mk (below_drew1 HB.out)
    refine start_ (n := 11) (S := fun w' => w'.cell? ⟨w.heap.size, 0, none⟩ = some (.int .i64 1) ∧ w'.cell? ⟨w.heap.size, 1, none⟩ = some (.int .i64 N) ∧ w'.cell? ⟨w.heap.size, 2, none⟩ = some (.string S) ∧ w'.cell? ⟨w.heap.size, 3, none⟩ = some (.slice A L.length c)) (ds := [8]) #[false, false, false, false, false, false, false, false, false, false, false] (by kernel_rfl) rfl rfl ⟨((blk_cell BX.out 0).trans rfl), ((blk_cell BX.out 1).trans rfl), ((blk_cell BX.out 2).trans rfl), ((blk_cell BX.out 3).trans rfl)⟩ (fun hHeld => ?_)
    generalize W1.drew = W2 at BX HB hHeld ⊢
    refine pure_ (i := 1) (N := some 11) (v := ?_) (a' := ?_) #[false, true, false, false, false, false, false, false, false, false, false] rfl rfl (by kernel_rfl) (fun _ _ _ h => h) (Or.inl ⟨by rfl, ?_⟩) ?_ ?_
    rotate_left
    · intro w'
      go_simp
      with_reducible rfl
    rotate_left
    · simp only [Act.put, List.setIfInBounds_toArray, List.set_cons_zero, List.set_cons_succ, i64_w, i32_w]
      rfl
    refine take_ (i := 2) (N := some 12) (v := ?_) (a' := ?_) #[false, true, true, false, false, false, false, false, false, false, false] rfl rfl (by kernel_rfl) (fun _ _ _ h => h) (Or.inl ⟨by rfl, ?_⟩) hHeld ?_ ?_
    rotate_left
    · rintro w' ⟨s0, s1, s2, s3⟩
      go_simp
      with_reducible rfl
    rotate_left
    · simp only [Act.put, List.setIfInBounds_toArray, List.set_cons_zero, List.set_cons_succ, i64_w, i32_w]
      rfl
    refine take_ (i := 7) (N := some 17) (v := ?_) (a' := ?_) #[false, true, true, false, false, false, false, true, false, false, false] rfl rfl (by kernel_rfl) (fun _ _ _ h => h) (Or.inl ⟨by rfl, ?_⟩) hHeld ?_ ?_
    rotate_left
    · rintro w' ⟨s0, s1, s2, s3⟩
      go_simp
      with_reducible rfl
    rotate_left
    · simp only [Act.put, List.setIfInBounds_toArray, List.set_cons_zero, List.set_cons_succ, i64_w, i32_w]
      rfl
    refine one_ (i := 0) (N := some 10) #[true, true, true, false, false, false, false, true, false, false, false] rfl rfl (by kernel_rfl) (by decide) (fun K hK => ?_)
    refine goes_ Tryd.func86 (by kernel_rfl) rfl #[] (by rfl) rfl rfl (by simp) ?_
    refine (newWriter_calls W2).mono ?_
    rintro e W3 ⟨p, gw, rfl, hW3, hb3, hp3, hg3⟩
    have BX3 := Aside0.mk (blk_below BX.out hb3)
    have HB3 := Aside0.mk (HB.out.trans (hb3.mono HB.out.size))
    have HW3 := Aside0.mk hW3
    have hgw : W3.cell? ⟨gw, 1, none⟩ = some (.func (.func 104) #[] #[]) := (blk_cell hW3.2 1).trans rfl
    clear hW3 hb3 hp3 hg3 BX HB
    refine ⟨_, rfl, ?_⟩
    refine hK.out _ _ ⟨((blk_cell BX3.out 0).trans rfl), ((blk_cell BX3.out 1).trans rfl), ((blk_cell BX3.out 2).trans rfl), ((blk_cell BX3.out 3).trans rfl)⟩ (fun hHeld => ?_)
    clear hK K
    refine norm_ (a' := ?_) ?_ ?_
    rotate_left
    · show Act.put _ (some 10) _ = _
      simp only [Act.put, List.setIfInBounds_toArray, List.set_cons_zero, List.set_cons_succ, i64_w, i32_w]
      rfl
    refine pure_ (i := 3) (N := some 13) (v := ?_) (a' := ?_) #[true, true, true, true, false, false, false, true, false, false, false] rfl rfl (by kernel_rfl) (fun _ _ _ h => h) (Or.inl ⟨by rfl, ?_⟩) ?_ ?_
    rotate_left
    · intro w'
      go_simp
      with_reducible rfl
    rotate_left
    · simp only [Act.put, List.setIfInBounds_toArray, List.set_cons_zero, List.set_cons_succ, i64_w, i32_w]
      rfl
    refine pure_ (i := 4) (N := some 14) (v := ?_) (a' := ?_) #[true, true, true, true, true, false, false, true, false, false, false] rfl rfl (by kernel_rfl) (fun _ _ _ h => h) (Or.inl ⟨by rfl, ?_⟩) ?_ ?_
    rotate_left
    · intro w'
      go_simp
      with_reducible rfl
    rotate_left
    · simp only [Act.put, List.setIfInBounds_toArray, List.set_cons_zero, List.set_cons_succ, i64_w, i32_w]
      rfl
    refine pure_ (i := 5) (N := some 15) (v := ?_) (a' := ?_) #[true, true, true, true, true, true, false, true, false, false, false] rfl rfl (by kernel_rfl) (fun _ _ _ h => h) (Or.inl ⟨by rfl, ?_⟩) ?_ ?_
    rotate_left
    · intro w'
      go_simp
      with_reducible rfl
    rotate_left
    · simp only [Act.put, List.setIfInBounds_toArray, List.set_cons_zero, List.set_cons_succ, i64_w, i32_w]
      rfl
    refine one_ (i := 6) (N := some 16) #[true, true, true, true, true, true, true, true, false, false, false] rfl rfl (by kernel_rfl) (by decide) (fun K hK => ?_)
    refine value_ (w1 := ?_) (v := ?_) (by rfl) rfl ?_ ?_
    rotate_left 2
    · go_simp
      constructor
      · rfl
      · rfl
    refine hK.out _ _ ⟨((blk_cell BX3.out 0).trans rfl), ((blk_cell BX3.out 1).trans rfl), ((blk_cell BX3.out 2).trans rfl), ((blk_cell BX3.out 3).trans rfl)⟩ (fun hHeld => ?_)
    clear hK K
    refine norm_ (a' := ?_) ?_ ?_
    rotate_left
    · show Act.put _ (some 16) _ = _
      simp only [Act.put, List.setIfInBounds_toArray, List.set_cons_zero, List.set_cons_succ, i64_w, i32_w]
      rfl
    refine last_ (i := 8) (N := some 18) #[true, true, true, true, true, true, true, true, true, false, false] rfl rfl (by kernel_rfl) (by decide) (fun K hK => ?_)
    have hcall : Calls Tryd.prog 104 #[.slice none 0 0, .agg #[.int .i64 1, .int .i64 N, .string S, .slice A L.length c]] W3 (WPost w W3 (fun _ => False) (encP ⟨1, N, S, L⟩)) := by
      have h := write_calls _ ⟨1, N, S, L⟩ p gw A c (fun _ => False) (.slice none 0 0) [] w W3 (Nat.lt_succ_self _) HWF.out HB3.out (Kd.R_nil _ _ _ _ _) HW3.out (fun h => h) (fun h => h) HR.out HC.out (by simpa using HL.out)
      simpa [fnOf, capOf] using h
    refine goesF_ (by rfl) (by rfl) Tryd.func104 (by kernel_rfl) rfl #[.slice none 0 0, .agg #[.int .i64 1, .int .i64 N, .string S, .slice A L.length c]] (by rfl) (by rfl) (by simp only [List.map_toArray, List.map_cons, List.map_nil]; rfl) ?_
    refine hcall.mono ?_
    rintro e W9 ⟨u9, rfl, ho9, hb9, hk9⟩
    have HO9 := Aside0.mk ho9
    have HB9 := Aside0.mk hb9
    clear ho9 hb9 hk9 hcall
    refine ⟨_, rfl, ?_⟩
    refine hK.out _ _ ?_
    clear hK K
    refine norm_ (a' := ?_) ?_ ?_
    rotate_left
    · show Act.put _ (some 18) _ = _
      simp only [Act.put, List.setIfInBounds_toArray, List.set_cons_zero, List.set_cons_succ, i64_w, i32_w]
      rfl
    refine pure_ (i := 9) (N := some 2) (v := ?_) (a' := ?_) #[true, true, true, true, true, true, true, true, true, true, false] rfl rfl (by kernel_rfl) (fun _ _ _ h => h) (Or.inl ⟨by rfl, ?_⟩) ?_ ?_
    rotate_left
    · intro w'
      go_simp
      with_reducible rfl
    rotate_left
    · simp only [Act.put, List.setIfInBounds_toArray, List.set_cons_zero, List.set_cons_succ, i64_w, i32_w]
      rfl
    refine pure_ (i := 10) (N := some 3) (v := ?_) (a' := ?_) #[true, true, true, true, true, true, true, true, true, true, true] rfl rfl (by kernel_rfl) (fun _ _ _ h => h) (Or.inl ⟨by rfl, ?_⟩) ?_ ?_
    rotate_left
    · intro w'
      go_simp
      with_reducible rfl
    rotate_left
    · simp only [Act.put, List.setIfInBounds_toArray, List.set_cons_zero, List.set_cons_succ, i64_w, i32_w]
      rfl
    refine done_ (by kernel_rfl) ?_
    go_wp2
    refine bodyPost_ret (v := .tuple #[u9, .int .i64 0]) (by simp [results, Tryd.results59, go_sem]) rfl ⟨u9, rfl, ?_, HB9.out⟩
    first | exact Kd.R_mono HO9.out (fun _ _ => trivial) | (rw [if_pos rfl]; exact Kd.R_mono HO9.out (fun _ _ => trivial))
  · go_wp2_with fail
    replace BX := Aside0.mk (blk_drew BX.out)
    replace HB := Aside0.mk (below_drew1 HB.out)
    refine start_ (n := 11) (S := fun w' => w'.cell? ⟨w.heap.size, 0, none⟩ = some (.int .i64 2) ∧ w'.cell? ⟨w.heap.size, 1, none⟩ = some (.int .i64 N) ∧ w'.cell? ⟨w.heap.size, 2, none⟩ = some (.string S) ∧ w'.cell? ⟨w.heap.size, 3, none⟩ = some (.slice A L.length c)) (ds := [8]) #[false, false, false, false, false, false, false, false, false, false, false] (by kernel_rfl) rfl rfl ⟨((blk_cell BX.out 0).trans rfl), ((blk_cell BX.out 1).trans rfl), ((blk_cell BX.out 2).trans rfl), ((blk_cell BX.out 3).trans rfl)⟩ (fun hHeld => ?_)
    generalize W1.drew = W2 at BX HB hHeld ⊢
    refine pure_ (i := 1) (N := some 11) (v := ?_) (a' := ?_) #[false, true, false, false, false, false, false, false, false, false, false] rfl rfl (by kernel_rfl) (fun _ _ _ h => h) (Or.inl ⟨by rfl, ?_⟩) ?_ ?_
    rotate_left
    · intro w'
      go_simp
      with_reducible rfl
    rotate_left
    · simp only [Act.put, List.setIfInBounds_toArray, List.set_cons_zero, List.set_cons_succ, i64_w, i32_w]
      rfl
    refine take_ (i := 2) (N := some 12) (v := ?_) (a' := ?_) #[false, true, true, false, false, false, false, false, false, false, false] rfl rfl (by kernel_rfl) (fun _ _ _ h => h) (Or.inl ⟨by rfl, ?_⟩) hHeld ?_ ?_
    rotate_left
    · rintro w' ⟨s0, s1, s2, s3⟩
      go_simp
      with_reducible rfl
    rotate_left
    · simp only [Act.put, List.setIfInBounds_toArray, List.set_cons_zero, List.set_cons_succ, i64_w, i32_w]
      rfl
    refine take_ (i := 7) (N := some 17) (v := ?_) (a' := ?_) #[false, true, true, false, false, false, false, true, false, false, false] rfl rfl (by kernel_rfl) (fun _ _ _ h => h) (Or.inl ⟨by rfl, ?_⟩) hHeld ?_ ?_
    rotate_left
    · rintro w' ⟨s0, s1, s2, s3⟩
      go_simp
      with_reducible rfl
    rotate_left
    · simp only [Act.put, List.setIfInBounds_toArray, List.set_cons_zero, List.set_cons_succ, i64_w, i32_w]
      rfl
    refine one_ (i := 0) (N := some 10) #[true, true, true, false, false, false, false, true, false, false, false] rfl rfl (by kernel_rfl) (by decide) (fun K hK => ?_)
    refine goes_ Tryd.func86 (by kernel_rfl) rfl #[] (by rfl) rfl rfl (by simp) ?_
    refine (newWriter_calls W2).mono ?_
    rintro e W3 ⟨p, gw, rfl, hW3, hb3, hp3, hg3⟩
    have BX3 := Aside0.mk (blk_below BX.out hb3)
    have HB3 := Aside0.mk (HB.out.trans (hb3.mono HB.out.size))
    have HW3 := Aside0.mk hW3
    have hgw : W3.cell? ⟨gw, 2, none⟩ = some (.func (.func 107) #[] #[]) := (blk_cell hW3.2 2).trans rfl
    clear hW3 hb3 hp3 hg3 BX HB
    refine ⟨_, rfl, ?_⟩
    refine hK.out _ _ ⟨((blk_cell BX3.out 0).trans rfl), ((blk_cell BX3.out 1).trans rfl), ((blk_cell BX3.out 2).trans rfl), ((blk_cell BX3.out 3).trans rfl)⟩ (fun hHeld => ?_)
    clear hK K
    refine norm_ (a' := ?_) ?_ ?_
    rotate_left
    · show Act.put _ (some 10) _ = _
      simp only [Act.put, List.setIfInBounds_toArray, List.set_cons_zero, List.set_cons_succ, i64_w, i32_w]
      rfl
    refine pure_ (i := 3) (N := some 13) (v := ?_) (a' := ?_) #[true, true, true, true, false, false, false, true, false, false, false] rfl rfl (by kernel_rfl) (fun _ _ _ h => h) (Or.inl ⟨by rfl, ?_⟩) ?_ ?_
    rotate_left
    · intro w'
      go_simp
      with_reducible rfl
    rotate_left
    · simp only [Act.put, List.setIfInBounds_toArray, List.set_cons_zero, List.set_cons_succ, i64_w, i32_w]
      rfl
    refine pure_ (i := 4) (N := some 14) (v := ?_) (a' := ?_) #[true, true, true, true, true, false, false, true, false, false, false] rfl rfl (by kernel_rfl) (fun _ _ _ h => h) (Or.inl ⟨by rfl, ?_⟩) ?_ ?_
    rotate_left
    · intro w'
      go_simp
      with_reducible rfl
    rotate_left
    · simp only [Act.put, List.setIfInBounds_toArray, List.set_cons_zero, List.set_cons_succ, i64_w, i32_w]
      rfl
    refine pure_ (i := 5) (N := some 15) (v := ?_) (a' := ?_) #[true, true, true, true, true, true, false, true, false, false, false] rfl rfl (by kernel_rfl) (fun _ _ _ h => h) (Or.inl ⟨by rfl, ?_⟩) ?_ ?_
    rotate_left
    · intro w'
      go_simp
      with_reducible rfl
    rotate_left
    · simp only [Act.put, List.setIfInBounds_toArray, List.set_cons_zero, List.set_cons_succ, i64_w, i32_w]
      rfl
    refine one_ (i := 6) (N := some 16) #[true, true, true, true, true, true, true, true, false, false, false] rfl rfl (by kernel_rfl) (by decide) (fun K hK => ?_)
    refine value_ (w1 := ?_) (v := ?_) (by rfl) rfl ?_ ?_
    rotate_left 2
    · go_simp
      constructor
      · rfl
      · rfl
    refine hK.out _ _ ⟨((blk_cell BX3.out 0).trans rfl), ((blk_cell BX3.out 1).trans rfl), ((blk_cell BX3.out 2).trans rfl), ((blk_cell BX3.out 3).trans rfl)⟩ (fun hHeld => ?_)
    clear hK K
    refine norm_ (a' := ?_) ?_ ?_
    rotate_left
    · show Act.put _ (some 16) _ = _
      simp only [Act.put, List.setIfInBounds_toArray, List.set_cons_zero, List.set_cons_succ, i64_w, i32_w]
      rfl
    refine last_ (i := 8) (N := some 18) #[true, true, true, true, true, true, true, true, true, false, false] rfl rfl (by kernel_rfl) (by decide) (fun K hK => ?_)
    have hcall : Calls Tryd.prog 107 #[.slice none 0 0, .agg #[.int .i64 2, .int .i64 N, .string S, .slice A L.length c]] W3 (WPost w W3 (fun _ => False) (encP ⟨2, N, S, L⟩)) := by
      have h := write_calls _ ⟨2, N, S, L⟩ p gw A c (fun _ => False) (.slice none 0 0) [] w W3 (Nat.lt_succ_self _) HWF.out HB3.out (Kd.R_nil _ _ _ _ _) HW3.out (fun h => h) (fun h => h) HR.out HC.out (by simpa using HL.out)
      simpa [fnOf, capOf] using h
    refine goesF_ (by rfl) (by rfl) Tryd.func107 (by kernel_rfl) rfl #[.slice none 0 0, .agg #[.int .i64 2, .int .i64 N, .string S, .slice A L.length c]] (by rfl) (by rfl) (by simp only [List.map_toArray, List.map_cons, List.map_nil]; rfl) ?_
    refine hcall.mono ?_
    rintro e W9 ⟨u9, rfl, ho9, hb9, hk9⟩
    have HO9 := Aside0.mk ho9
    have HB9 := Aside0.mk hb9
    clear ho9 hb9 hk9 hcall
    refine ⟨_, rfl, ?_⟩
    refine hK.out _ _ ?_
    clear hK K
    refine norm_ (a' := ?_) ?_ ?_
    rotate_left
    · show Act.put _ (some 18) _ = _
      simp only [Act.put, List.setIfInBounds_toArray, List.set_cons_zero, List.set_cons_succ, i64_w, i32_w]
      rfl
    refine pure_ (i := 9) (N := some 2) (v := ?_) (a' := ?_) #[true, true, true, true, true, true, true, true, true, true, false] rfl rfl (by kernel_rfl) (fun _ _ _ h => h) (Or.inl ⟨by rfl, ?_⟩) ?_ ?_
    rotate_left
    · intro w'
      go_simp
      with_reducible rfl
    rotate_left
    · simp only [Act.put, List.setIfInBounds_toArray, List.set_cons_zero, List.set_cons_succ, i64_w, i32_w]
      rfl
    refine pure_ (i := 10) (N := some 3) (v := ?_) (a' := ?_) #[true, true, true, true, true, true, true, true, true, true, true] rfl rfl (by kernel_rfl) (fun _ _ _ h => h) (Or.inl ⟨by rfl, ?_⟩) ?_ ?_
    rotate_left
    · intro w'
      go_simp
      with_reducible rfl
    rotate_left
    · simp only [Act.put, List.setIfInBounds_toArray, List.set_cons_zero, List.set_cons_succ, i64_w, i32_w]
      rfl
    refine done_ (by kernel_rfl) ?_
    go_wp2
    refine bodyPost_ret (v := .tuple #[u9, .int .i64 0]) (by simp [results, Tryd.results59, go_sem]) rfl ⟨u9, rfl, ?_, HB9.out⟩
    first | exact Kd.R_mono HO9.out (fun _ _ => trivial) | (rw [if_pos rfl]; exact Kd.R_mono HO9.out (fun _ _ => trivial))
  · go_wp2_with fail
    replace BX := Aside0.mk (blk_drew BX.out)
    replace HB := Aside0.mk (below_drew1 HB.out)
    refine start_ (n := 11) (S := fun w' => w'.cell? ⟨w.heap.size, 0, none⟩ = some (.int .i64 3) ∧ w'.cell? ⟨w.heap.size, 1, none⟩ = some (.int .i64 N) ∧ w'.cell? ⟨w.heap.size, 2, none⟩ = some (.string S) ∧ w'.cell? ⟨w.heap.size, 3, none⟩ = some (.slice A L.length c)) (ds := [8]) #[false, false, false, false, false, false, false, false, false, false, false] (by kernel_rfl) rfl rfl ⟨((blk_cell BX.out 0).trans rfl), ((blk_cell BX.out 1).trans rfl), ((blk_cell BX.out 2).trans rfl), ((blk_cell BX.out 3).trans rfl)⟩ (fun hHeld => ?_)
    generalize W1.drew = W2 at BX HB hHeld ⊢
    refine pure_ (i := 1) (N := some 11) (v := ?_) (a' := ?_) #[false, true, false, false, false, false, false, false, false, false, false] rfl rfl (by kernel_rfl) (fun _ _ _ h => h) (Or.inl ⟨by rfl, ?_⟩) ?_ ?_
    rotate_left
    · intro w'
      go_simp
      with_reducible rfl
    rotate_left
    · simp only [Act.put, List.setIfInBounds_toArray, List.set_cons_zero, List.set_cons_succ, i64_w, i32_w]
      rfl
    refine take_ (i := 2) (N := some 12) (v := ?_) (a' := ?_) #[false, true, true, false, false, false, false, false, false, false, false] rfl rfl (by kernel_rfl) (fun _ _ _ h => h) (Or.inl ⟨by rfl, ?_⟩) hHeld ?_ ?_
    rotate_left
    · rintro w' ⟨s0, s1, s2, s3⟩
      go_simp
      with_reducible rfl
    rotate_left
    · simp only [Act.put, List.setIfInBounds_toArray, List.set_cons_zero, List.set_cons_succ, i64_w, i32_w]
      rfl
    refine take_ (i := 7) (N := some 17) (v := ?_) (a' := ?_) #[false, true, true, false, false, false, false, true, false, false, false] rfl rfl (by kernel_rfl) (fun _ _ _ h => h) (Or.inl ⟨by rfl, ?_⟩) hHeld ?_ ?_
    rotate_left
    · rintro w' ⟨s0, s1, s2, s3⟩
      go_simp
      with_reducible rfl
    rotate_left
    · simp only [Act.put, List.setIfInBounds_toArray, List.set_cons_zero, List.set_cons_succ, i64_w, i32_w]
      rfl
    refine one_ (i := 0) (N := some 10) #[true, true, true, false, false, false, false, true, false, false, false] rfl rfl (by kernel_rfl) (by decide) (fun K hK => ?_)
    refine goes_ Tryd.func86 (by kernel_rfl) rfl #[] (by rfl) rfl rfl (by simp) ?_
    refine (newWriter_calls W2).mono ?_
    rintro e W3 ⟨p, gw, rfl, hW3, hb3, hp3, hg3⟩
    have BX3 := Aside0.mk (blk_below BX.out hb3)
    have HB3 := Aside0.mk (HB.out.trans (hb3.mono HB.out.size))
    have HW3 := Aside0.mk hW3
    have hgw : W3.cell? ⟨gw, 3, none⟩ = some (.func (.func 108) #[] #[.pointer (some ⟨p, 0, none⟩)]) := (blk_cell hW3.2 3).trans rfl
    clear hW3 hb3 hp3 hg3 BX HB
    refine ⟨_, rfl, ?_⟩
    refine hK.out _ _ ⟨((blk_cell BX3.out 0).trans rfl), ((blk_cell BX3.out 1).trans rfl), ((blk_cell BX3.out 2).trans rfl), ((blk_cell BX3.out 3).trans rfl)⟩ (fun hHeld => ?_)
    clear hK K
    refine norm_ (a' := ?_) ?_ ?_
    rotate_left
    · show Act.put _ (some 10) _ = _
      simp only [Act.put, List.setIfInBounds_toArray, List.set_cons_zero, List.set_cons_succ, i64_w, i32_w]
      rfl
    refine pure_ (i := 3) (N := some 13) (v := ?_) (a' := ?_) #[true, true, true, true, false, false, false, true, false, false, false] rfl rfl (by kernel_rfl) (fun _ _ _ h => h) (Or.inl ⟨by rfl, ?_⟩) ?_ ?_
    rotate_left
    · intro w'
      go_simp
      with_reducible rfl
    rotate_left
    · simp only [Act.put, List.setIfInBounds_toArray, List.set_cons_zero, List.set_cons_succ, i64_w, i32_w]
      rfl
    refine pure_ (i := 4) (N := some 14) (v := ?_) (a' := ?_) #[true, true, true, true, true, false, false, true, false, false, false] rfl rfl (by kernel_rfl) (fun _ _ _ h => h) (Or.inl ⟨by rfl, ?_⟩) ?_ ?_
    rotate_left
    · intro w'
      go_simp
      with_reducible rfl
    rotate_left
    · simp only [Act.put, List.setIfInBounds_toArray, List.set_cons_zero, List.set_cons_succ, i64_w, i32_w]
      rfl
    refine pure_ (i := 5) (N := some 15) (v := ?_) (a' := ?_) #[true, true, true, true, true, true, false, true, false, false, false] rfl rfl (by kernel_rfl) (fun _ _ _ h => h) (Or.inl ⟨by rfl, ?_⟩) ?_ ?_
    rotate_left
    · intro w'
      go_simp
      with_reducible rfl
    rotate_left
    · simp only [Act.put, List.setIfInBounds_toArray, List.set_cons_zero, List.set_cons_succ, i64_w, i32_w]
      rfl
    refine one_ (i := 6) (N := some 16) #[true, true, true, true, true, true, true, true, false, false, false] rfl rfl (by kernel_rfl) (by decide) (fun K hK => ?_)
    refine value_ (w1 := ?_) (v := ?_) (by rfl) rfl ?_ ?_
    rotate_left 2
    · go_simp
      constructor
      · rfl
      · rfl
    refine hK.out _ _ ⟨((blk_cell BX3.out 0).trans rfl), ((blk_cell BX3.out 1).trans rfl), ((blk_cell BX3.out 2).trans rfl), ((blk_cell BX3.out 3).trans rfl)⟩ (fun hHeld => ?_)
    clear hK K
    refine norm_ (a' := ?_) ?_ ?_
    rotate_left
    · show Act.put _ (some 16) _ = _
      simp only [Act.put, List.setIfInBounds_toArray, List.set_cons_zero, List.set_cons_succ, i64_w, i32_w]
      rfl
    refine last_ (i := 8) (N := some 18) #[true, true, true, true, true, true, true, true, true, false, false] rfl rfl (by kernel_rfl) (by decide) (fun K hK => ?_)
    have hcall : Calls Tryd.prog 108 #[.slice none 0 0, .agg #[.int .i64 3, .int .i64 N, .string S, .slice A L.length c], .pointer (some ⟨p, 0, none⟩)] W3 (WPost w W3 (fun _ => False) (encP ⟨3, N, S, L⟩)) := by
      have h := write_calls _ ⟨3, N, S, L⟩ p gw A c (fun _ => False) (.slice none 0 0) [] w W3 (Nat.lt_succ_self _) HWF.out HB3.out (Kd.R_nil _ _ _ _ _) HW3.out (fun h => h) (fun h => h) HR.out HC.out (by simpa using HL.out)
      simpa [fnOf, capOf] using h
    refine goesF_ (by rfl) (by rfl) Tryd.func108 (by kernel_rfl) rfl #[.slice none 0 0, .agg #[.int .i64 3, .int .i64 N, .string S, .slice A L.length c], .pointer (some ⟨p, 0, none⟩)] (by rfl) (by rfl) (by simp only [List.map_toArray, List.map_cons, List.map_nil]; rfl) ?_
    refine hcall.mono ?_
    rintro e W9 ⟨u9, rfl, ho9, hb9, hk9⟩
    have HO9 := Aside0.mk ho9
    have HB9 := Aside0.mk hb9
    clear ho9 hb9 hk9 hcall
    refine ⟨_, rfl, ?_⟩
    refine hK.out _ _ ?_
    clear hK K
    refine norm_ (a' := ?_) ?_ ?_
    rotate_left
    · show Act.put _ (some 18) _ = _
      simp only [Act.put, List.setIfInBounds_toArray, List.set_cons_zero, List.set_cons_succ, i64_w, i32_w]
      rfl
    refine pure_ (i := 9) (N := some 2) (v := ?_) (a' := ?_) #[true, true, true, true, true, true, true, true, true, true, false] rfl rfl (by kernel_rfl) (fun _ _ _ h => h) (Or.inl ⟨by rfl, ?_⟩) ?_ ?_
    rotate_left
    · intro w'
      go_simp
      with_reducible rfl
    rotate_left
    · simp only [Act.put, List.setIfInBounds_toArray, List.set_cons_zero, List.set_cons_succ, i64_w, i32_w]
      rfl
    refine pure_ (i := 10) (N := some 3) (v := ?_) (a' := ?_) #[true, true, true, true, true, true, true, true, true, true, true] rfl rfl (by kernel_rfl) (fun _ _ _ h => h) (Or.inl ⟨by rfl, ?_⟩) ?_ ?_
    rotate_left
    · intro w'
      go_simp
      with_reducible rfl
    rotate_left
    · simp only [Act.put, List.setIfInBounds_toArray, List.set_cons_zero, List.set_cons_succ, i64_w, i32_w]
      rfl
    refine done_ (by kernel_rfl) ?_
    go_wp2
    refine bodyPost_ret (v := .tuple #[u9, .int .i64 0]) (by simp [results, Tryd.results59, go_sem]) rfl ⟨u9, rfl, ?_, HB9.out⟩
    first | exact Kd.R_mono HO9.out (fun _ _ => trivial) | (rw [if_pos rfl]; exact Kd.R_mono HO9.out (fun _ _ => trivial))
theorem codec_Encode.calls (k : Nat) (a0_0 : Int) (a0_1 : Int) (a0_2 : ByteArray) (A0_3 : Option Addr) (c0_3 : Nat) (l0_3 : List (S63)) (r1 : List Int) (r2 : Int) (w : World) (hr0_3 : Kd.C k63 w A0_3 l0_3.length l0_3) (hc0_3 : l0_3.length ≤ c0_3) (h : codec_Encode.f k a0_0 a0_1 a0_2 l0_3 = some (r1, r2)) :
    Calls Tryd.prog 59 #[.agg #[.int .i64 a0_0, .int .i64 a0_1, .string a0_2, .slice A0_3 l0_3.length c0_3]] w fun e w' => ∃ v0_ : Value, e = .returned (.tuple #[v0_, .int .i64 r2]) ∧ Kd.R (Kd.int .u8) 5 w' w.heap.size (fun _ => True) v0_ r1 ∧ Below w.heap.size w w' := by
  unfold codec_Encode.f at h
  split at h
  · rename_i hl
    obtain ⟨t, ht, h⟩ := Option.bind_eq_some_iff.mp h
    have hw := encode_walk k a0_0 a0_1 a0_2 A0_3 c0_3 l0_3 t w hr0_3 hc0_3 hl ht
    by_cases h0 : t = 0
    · rw [if_pos h0] at h
      injection h with h
      injection h with h1 h2
      subst h1; subst h2; subst h0
      simpa using hw
    · rw [if_neg h0] at h
      injection h with h
      injection h with h1 h2
      subst h1; subst h2
      rw [if_neg h0] at hw
      exact hw
  · cases h
end
end Go.Proofs.YtncejmjicjlanaaDoor.Q
