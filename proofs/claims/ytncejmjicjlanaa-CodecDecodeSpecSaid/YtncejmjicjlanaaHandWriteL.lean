/- Contract of codec's writer of lists, and of the writers altogether: the encoding behind what was there. -/
import Derived.Test.YtncejmjicjlanaaQ2
import Derived.Test.YtncejmjicjlanaaHandWrite
import Derived.IntWalk
namespace Go.Proofs.Ytncejmjicjlanaa.Q
open Go.RowKit Go.Proofs.YtncejmjicjlanaaW.PrintWords Go.Proofs.YtncejmjicjlanaaW.PrintLast Go.Proofs.YtncejmjicjlanaaW.PrintMore
set_option linter.unusedVariables false
set_option linter.unusedSimpArgs false
/-- A call through a function value, by its contract, in a region that draws its order. -/
theorem goesF_ {P : Program} {b : Bool} {oi : Oper} {N : Option Tmp} {a : Act} {w : World} {K : Act → World → Prop} {Q : Exit → Act → World → Prop} {f : FuncId} {fn : Func} {asx : Array Operand} {ts : Array TypeId} {x : Operand} {cap : Array Value} (hw : b = true) (hN : oi.dst = N) (hf : P.funcs[f]? = some fn) (hname : (fn.name == "runtime.NumGoroutine") = false) (hb : fn.body.isSome = true) (args : Array Value)
    (hop : oi.op = .call { callee := .value x, args := asx, argTypes := ts }) (hx : a.eval x = .func (.func f) #[] cap) (hargs : asx.map a.eval ++ cap = args)
    (h : Calls P f args w fun e w' => ∃ v, e = .returned v ∧ K (a.put N v) w') : if b = true then Oper.wp P oi a w K Q else K (a.put N undef) w := by
  rw [if_pos hw]
  subst hN
  unfold Oper.wp
  have hrun : (execOp a.eval oi).run P w = .ok (.enter f args) w := by
    have he := enters_ hf hname hb args w
    unfold execOp
    simp [hop, resolve, hx, Deferred.ofValue, invoke, hargs, he]
  rw [hrun, Oper.upon_enter]
  refine h.mono fun e w'' hh => ?_
  obtain ⟨v, rfl, hk⟩ := hh
  exact hk
/-- The writers' table: a variable that leads to it, and the table. -/
def IsWr (W : World) (p gw : Nat) : Prop := W.heap[p]? = some (.cells #[.pointer (some ⟨gw, 0, none⟩)] 48 (0, 0)) ∧ W.heap[gw]? = some (.cells #[.nilFunc, .func (.func 33) #[] #[], .func (.func 36) #[] #[], .func (.func 37) #[] #[.pointer (some ⟨p, 0, none⟩)]] 64 (0, 0))
theorem IsWr.of {W W' : World} {p gw : Nat} (h : IsWr W p gw) (e1 : W'.heap[p]? = W.heap[p]?) (e2 : W'.heap[gw]? = W.heap[gw]?) : IsWr W' p gw := ⟨e1.trans h.1, e2.trans h.2⟩
theorem IsWr.lt {W : World} {p gw : Nat} (h : IsWr W p gw) : p < W.heap.size ∧ gw < W.heap.size := ⟨blk_lt h.1, blk_lt h.2⟩
theorem IsWr.below {W W' : World} {p gw : Nat} (h : IsWr W p gw) (hb : Below W.heap.size W W') : IsWr W' p gw := h.of (hb.block _ h.lt.1) (hb.block _ h.lt.2)
theorem IsWr.kept {W W' : World} {p gw : Nat} {S : Nat → Prop} (h : IsWr W p gw) (hk : Kept W W' S) (h1 : ¬ S p) (h2 : ¬ S gw) : IsWr W' p gw := h.of (hk.2 _ h.lt.1 h1) (hk.2 _ h.lt.2 h2)
/-- The writer of a kind, and what it captures. -/
def fnOf (K : Int) : Nat := if K = 1 then 33 else if K = 2 then 36 else 37
def capOf (K : Int) (p : Nat) : Array Value := if K = 1 then #[] else if K = 2 then #[] else #[.pointer (some ⟨p, 0, none⟩)]
/-- The writers' contract, for values up to a size. -/
def WriteOk (n : Nat) : Prop := ∀ (v : S24) (p gw : Nat) (A : Option Addr) (c : Nat) (P0 : Nat → Prop) (u : Value) (l0 : List Int) (w0 w : World), SizeOf.sizeOf v < n → wfP v = true → Below w0.heap.size w0 w → Kd.R (Kd.int .u8) 5 w w0.heap.size P0 u l0 → IsWr w p gw → ¬ P0 p → ¬ P0 gw → Kd.C k24 w0 A v.f3.length v.f3 → v.f3.length ≤ c → (l0 ++ encP v).length < 140737487000000 →
    Calls Try.prog (fnOf v.f0) (#[u, .agg #[.int .i64 v.f0, .int .i64 v.f1, .string v.f2, .slice A v.f3.length c]] ++ capOf v.f0 p) w (WPost w0 w P0 (l0 ++ encP v))
set_option maxHeartbeats 4000000 in
set_option maxRecDepth 100000 in
theorem write_list (n : Nat) (ih : WriteOk n) (N : Int) (S : ByteArray) (A : Option Addr) (c : Nat) (L : List S24) (p gw : Nat) (P0 : Nat → Prop) (u : Value) (l0 : List Int) (w0 w : World) (hs : SizeOf.sizeOf L ≤ n) (hwf : wfL L = true) (hB : Below w0.heap.size w0 w) (hu0 : Kd.R (Kd.int .u8) 5 w w0.heap.size P0 u l0) (hW : IsWr w p gw) (hp : ¬ P0 p) (hgw : ¬ P0 gw) (hr : Kd.C k24 w0 A L.length L) (hc : L.length ≤ c) (hl : (l0 ++ (3 :: (numl (L.length : Int) ++ encL L))).length < 140737487000000) :
    Calls Try.prog 37 #[u, .agg #[.int .i64 3, .int .i64 N, .string S, .slice A L.length c], .pointer (some ⟨p, 0, none⟩)] w (WPost w0 w P0 (l0 ++ (3 :: (numl (L.length : Int) ++ encL L)))) := by
  have hll : L.length < 140737487000000 := by have := encL_len L; simp at hl; omega
  have hsw : IntKind.u64.wrap (L.length : Int) = (L.length : Int) := by rw [IntKind.wrap_u64]; omega
  have HPG := Aside0.mk hW.lt
  have HNP : Aside0 (¬ P0 p ∧ ¬ P0 gw) := ⟨⟨hp, hgw⟩⟩
  have HW := Aside0.mk (hW.below (below_alloc (Below.refl _ _) (.cells #[.int .i64 3, .int .i64 N, .string S, .slice A L.length c] 24)))
  have HLL := Aside0.mk hll
  have HR := Aside0.mk hr
  have HC := Aside0.mk hc
  have HS := Aside0.mk hs
  have HWF := Aside0.mk hwf
  have IH := Aside0.mk ih
  clear hW hp hgw hll hr hc hs hwf ih
  have hu24 := Try.underlying24
  have HU := Aside0.mk hu0
  have HB := Aside0.mk hB
  have HL := Aside0.mk hl
  clear hu0 hB hl
  go_enter Try.func37, Try.ntmps37
  go_wp2_with fail
  have BK := Aside0.mk (blk_new w (.cells #[.int .i64 3, .int .i64 N, .string S, .slice A L.length c] 24))
  have HO := Aside0.mk (Kd.R_mono (Kd.R_alloc (Kd.R_bound HU.out) (.cells #[.int .i64 3, .int .i64 N, .string S, .slice A L.length c] 24)) (ok' := fun k => (P0 k ∧ k < w.heap.size) ∨ w.heap.size + 1 ≤ k) (fun k hk => .inl ⟨hk.1, hk.2.2.1⟩))
  have HK := Aside0.mk (Kept.alloc (Kept.refl w P0) (.cells #[.int .i64 3, .int .i64 N, .string S, .slice A L.length c] 24))
  have HSZ := Aside0.mk (show (w.alloc (.cells #[.int .i64 3, .int .i64 N, .string S, .slice A L.length c] 24)).heap.size = w.heap.size + 1 by simp)
  have HB1 := Aside0.mk (below_alloc HB.out (.cells #[.int .i64 3, .int .i64 N, .string S, .slice A L.length c] 24))
  have hw0 := HB.out.size
  clear HB HU
  generalize w.alloc (.cells #[.int .i64 3, .int .i64 N, .string S, .slice A L.length c] 24) = W1 at *
  refine start_ (n := 9) (S := fun w' => w'.cell? ⟨w.heap.size, 3, none⟩ = some (.slice A L.length c)) (ds := []) #[false, false, false, false, false, false, false, false, false] (by kernel_rfl) rfl rfl ((by exact (blk_cell BK.out 3).trans rfl)) (fun hHeld => ?_)
  replace BK := Aside0.mk (blk_drew BK.out)
  replace HO := Aside0.mk (Kd.R_drew HO.out)
  replace HK := Aside0.mk (Kept.drew HK.out)
  replace HB1 := Aside0.mk (below_drew1 HB1.out)
  replace HW := Aside0.mk (show IsWr W1.drew p gw from HW.out)
  replace HSZ := Aside0.mk (show W1.drew.heap.size = w.heap.size + 1 from HSZ.out)
  generalize W1.drew = W2 at BK HO HK HB1 HSZ HW hHeld ⊢
  refine pure_ (i := 0) (N := some 8) (v := ?_) (a' := ?_) #[true, false, false, false, false, false, false, false, false] rfl rfl (by kernel_rfl) (fun _ _ _ h => h) (Or.inl ⟨by rfl, ?_⟩) ?_ ?_
  rotate_left
  · intro w'
    go_simp
    with_reducible rfl
  rotate_left
  · simp only [Act.put, List.setIfInBounds_toArray, List.set_cons_zero, List.set_cons_succ, i64_w, i32_w]
    rfl
  refine pure_ (i := 3) (N := some 11) (v := ?_) (a' := ?_) #[true, false, false, true, false, false, false, false, false] rfl rfl (by kernel_rfl) (fun _ _ _ h => h) (Or.inl ⟨by rfl, ?_⟩) ?_ ?_
  rotate_left
  · intro w'
    go_simp
    with_reducible rfl
  rotate_left
  · simp only [Act.put, List.setIfInBounds_toArray, List.set_cons_zero, List.set_cons_succ, i64_w, i32_w]
    rfl
  refine take_ (i := 4) (N := some 12) (v := ?_) (a' := ?_) #[true, false, false, true, true, false, false, false, false] rfl rfl (by kernel_rfl) (fun _ _ _ h => h) (Or.inl ⟨by rfl, ?_⟩) hHeld ?_ ?_
  rotate_left
  · intro w' s0
    go_simp
    with_reducible rfl
  rotate_left
  · simp only [Act.put, List.setIfInBounds_toArray, List.set_cons_zero, List.set_cons_succ, i64_w, i32_w]
    rfl
  refine pure_ (i := 5) (N := some 13) (v := ?_) (a' := ?_) #[true, false, false, true, true, true, false, false, false] rfl rfl (by kernel_rfl) (fun _ _ _ h => h) (Or.inl ⟨by rfl, ?_⟩) ?_ ?_
  rotate_left
  · intro w'
    go_simp
    with_reducible rfl
  rotate_left
  · simp only [Act.put, List.setIfInBounds_toArray, List.set_cons_zero, List.set_cons_succ, i64_w, i32_w]
    rfl
  refine pure_ (i := 6) (N := some 14) (v := ?_) (a' := ?_) #[true, false, false, true, true, true, true, false, false] rfl rfl (by kernel_rfl) (fun _ _ _ h => h) (Or.inl ⟨by rfl, ?_⟩) ?_ ?_
  rotate_left
  · intro w'
    go_simp
    with_reducible rfl
  rotate_left
  · simp only [Act.put, List.setIfInBounds_toArray, List.set_cons_zero, List.set_cons_succ, i64_w, i32_w]
    rfl
  refine one_ (i := 1) (N := some 9) #[true, true, false, true, true, true, true, false, false] rfl rfl (by kernel_rfl) (by decide) (fun K hK => ?_)
  refine value_ (w1 := ?_) (v := ?_) (by rfl) rfl ?_ ?_
  rotate_left 2
  · go_simp
    constructor
    · rfl
    · rfl
  refine hK.out _ _ (((blk_cell (blk_alloc BK.out _) 3).trans rfl)) (fun hHeld => ?_)
  clear hK K
  refine norm_ (a' := ?_) ?_ ?_
  rotate_left
  · show Act.put _ (some 9) _ = _
    simp only [Act.put, List.setIfInBounds_toArray, List.set_cons_zero, List.set_cons_succ, i64_w, i32_w]
    rfl
  refine one_ (i := 2) (N := some 10) #[true, true, true, true, true, true, true, false, false] rfl rfl (by kernel_rfl) (by decide) (fun K hK => ?_)
  refine Kd.R_append_step (Kd.int .u8) (w0 := w0) w0.heap.size (by rfl) (.tmp 8) (.tmp 9) 27 5 (.int .u8 0) 1 rfl Try.underlying27 info5 rfl (by decide) (by omega) u l0 3 [.int .u8 3] (fun k => (P0 k ∧ k < w.heap.size) ∨ w.heap.size + 1 ≤ k) (fun _ => False) rfl rfl rfl (fun _ hk => hk.elim) (fun k hk => .inr (by have := HSZ.out; omega)) HO.out HB1.out (by have := HSZ.out; omega) (by have := HL.out; simp at this; omega) ?_
  intro v3 W3 ho hb hg hat
  have BK3 := Aside0.mk (blk_grown BK.out hg (Kd.R_away HO.out (fun k hk => by omega)))
  have HK3 := Aside0.mk (Kept.of_grown hg HK.out (fun k hk => by rcases HO.out.1 k hk with h1 | h1; exact .inl h1.1; exact .inr (by omega)))
  have HO3 := Aside0.mk ho
  have HB3 := Aside0.mk hb
  have hs3 : w.heap.size + 1 ≤ W3.heap.size := by have h1 := HSZ.out; have h2 := hg.size; omega
  have HW3 := Aside0.mk (HW.out.of (hg.block _ (by have := HSZ.out; have := HPG.out; omega) (Kd.R_away HO.out (fun k hk => by rintro rfl; rcases hk with hk | hk; exact HNP.out.1 hk.1; have := HPG.out; omega))) (hg.block _ (by have := HSZ.out; have := HPG.out; omega) (Kd.R_away HO.out (fun k hk => by rintro rfl; rcases hk with hk | hk; exact HNP.out.2 hk.1; have := HPG.out; omega))))
  clear BK HK HO HB1 ho hb hg hat
  clear HW
  refine hK.out _ _ (((blk_cell BK3.out 3).trans rfl)) (fun hHeld => ?_)
  clear hK K
  refine norm_ (a' := ?_) ?_ ?_
  rotate_left
  · show Act.put _ (some 10) _ = _
    simp only [Act.put, List.setIfInBounds_toArray, List.set_cons_zero, List.set_cons_succ, i64_w, i32_w]
    rfl
  refine one_ (i := 7) (N := some 15) #[true, true, true, true, true, true, true, true, false] rfl rfl (by kernel_rfl) (by decide) (fun K hK => ?_)
  refine goes_ Try.func34 (by kernel_rfl) rfl #[v3, .int .u64 (L.length : Int)] (by rfl) rfl rfl (by simp only [List.map_toArray, List.map_cons, List.map_nil]; rfl) ?_
  refine (codec_numeral.calls 10 _ v3 _ _ _ w0 W3 HB3.out HO3.out (numl_eval _ _ (by omega) (by have := HLL.out; omega) (by have := HL.out; simp at this ⊢; omega))).mono ?_
  rintro e W5 ⟨v5, rfl, ho5, hb5, hk5⟩
  have BK5 := Aside0.mk (blk_kept BK3.out hk5 (fun hk => by omega))
  have HK5 := Aside0.mk (Kept.then_ HK3.out hk5 (fun k hk => by rcases hk with hk | hk; exact .inl hk.1; exact .inr (by omega)))
  have HO5 := Aside0.mk ho5
  have HB5 := Aside0.mk hb5
  have hs5 : W3.heap.size ≤ W5.heap.size := hk5.1
  have HW5 := Aside0.mk (HW3.out.kept hk5 (fun hk => by rcases hk with hk | hk; exact HNP.out.1 hk.1; have := HPG.out; omega) (fun hk => by rcases hk with hk | hk; exact HNP.out.2 hk.1; have := HPG.out; omega))
  clear BK3 HK3 HO3 HB3 ho5 hb5 hk5
  clear HW3
  refine ⟨_, rfl, ?_⟩
  refine hK.out _ _ (((blk_cell BK5.out 3).trans rfl)) (fun hHeld => ?_)
  clear hK K
  refine norm_ (a' := ?_) ?_ ?_
  rotate_left
  · show Act.put _ (some 15) _ = _
    simp only [Act.put, List.setIfInBounds_toArray, List.set_cons_zero, List.set_cons_succ, i64_w, i32_w]
    rfl
  refine pure_ (i := 8) (N := some 0) (v := ?_) (a' := ?_) #[true, true, true, true, true, true, true, true, true] rfl rfl (by kernel_rfl) (fun _ _ _ h => h) (Or.inl ⟨by rfl, ?_⟩) ?_ ?_
  rotate_left
  · intro w'
    go_simp
    with_reducible rfl
  rotate_left
  · simp only [Act.put, List.setIfInBounds_toArray, List.set_cons_zero, List.set_cons_succ, i64_w, i32_w]
    rfl
  refine done_ (by kernel_rfl) ?_
  obtain ⟨hc3⟩ : Aside0 (W5.cell? ⟨w.heap.size, 3, none⟩ = some (.slice A L.length c)) := ⟨(blk_cell BK5.out 3).trans rfl⟩
  replace HO5 := Aside0.mk (Kd.R_mono HO5.out (ok' := fun k => (P0 k ∧ k < w.heap.size) ∨ w.heap.size + 1 ≤ k) (fun k hk => by rcases hk with hk | hk; exact hk; exact .inr (by omega)))
  replace HW5 := Aside0.mk HW5.out
  have HS5 := Aside0.mk (show w.heap.size + 1 ≤ W5.heap.size by omega)
  clear BK5 hc3
  go_wp2_with fail
  go_loopg [0, 19] L.length (fun kq v0 v19 wr => ∃ (i : Nat), v19 = .int .i64 (i : Int) ∧ Aside0 (i + kq = L.length) ∧ Aside0 (Kd.R (Kd.int .u8) 5 wr w0.heap.size (fun k => (P0 k ∧ k < w.heap.size) ∨ w.heap.size + 1 ≤ k) v0 (l0 ++ [3] ++ numl (L.length : Int) ++ encL (L.take i))) ∧ Aside0 (Kept w wr P0) ∧ Aside0 (Below w0.heap.size w0 wr) ∧ Aside0 (IsWr wr p gw) ∧ Aside0 (w.heap.size + 1 ≤ wr.heap.size))
  case atStart => exact ⟨0, rfl, ⟨by omega⟩, ⟨by simpa [encL] using HO5.out⟩, HK5, HB5, HW5, HS5⟩
  case round =>
    clear HO5 HK5 HB5 HW5 HS5
    obtain ⟨i, rfl, HIK, HO5, HK5, HB5, HW5, HS5⟩ := hrel
    cases gk with
    | zero =>
      have hlt : decide (i < L.length) = false := by have := HIK.out; simp; omega
      have hi : i = L.length := by have := HIK.out; omega
      go_wp2
      refine bodyPost_ret (v := u0) (by simp [results, Try.results37, go_sem]) rfl ⟨_, rfl, ?_, HB5.out, HK5.out⟩
      have h := Kd.R_mono HO5.out (ok' := fun k => P0 k ∨ w.heap.size ≤ k) (fun k hk => by rcases hk with hk | hk; exact .inl hk.1; exact .inr (by omega))
      rw [hi, List.take_length] at h
      simpa using h
    | succ k1 =>
      have hi : i < L.length := by have := HIK.out; omega
      have hlt : decide (i < L.length) = true := by simpa using hi
      obtain ⟨ad, A1, c1, rfl, hx0, hx1, hx2, hx3, hl3, hi3⟩ := at_T24 HR.out (i : Int) (by omega) (by omega)
      replace hx0 := (HB5.out.cell (World.block_lt_of_cell? w0 _ hx0)).trans hx0
      replace hx1 := (HB5.out.cell (World.block_lt_of_cell? w0 _ hx1)).trans hx1
      replace hx2 := (HB5.out.cell (World.block_lt_of_cell? w0 _ hx2)).trans hx2
      replace hx3 := (HB5.out.cell (World.block_lt_of_cell? w0 _ hx3)).trans hx3
      have hrd : rd_T24 L (i : Int) = L[i] := by simp [rd_T24, List.getD, List.getElem?_eq_getElem hi]
      have HXm := Aside0.mk (show L[i] ∈ L from List.getElem_mem hi)
      rw [hrd] at hx0 hx1 hx2 hx3 hl3 hi3
      have HXS := Aside0.mk (encL_snoc L i hi)
      have HEL := Aside0.mk (encL_take_le L (i + 1))
      generalize hxx : L[i] = x at *
      obtain ⟨K1, N1, S1, L1⟩ := x
      simp only [Int.toNat_natCast] at hx0 hx1 hx2 hx3 hl3 hi3
      clear hrd hxx
      have HI3 := Aside0.mk hi3
      have HL3 := Aside0.mk hl3
      clear hi3 hl3
      go_wp2_with fail
      clear hx0 hx1 hx2 hx3
      have BX := Aside0.mk (blk_new wr (.cells #[.int .i64 K1, .int .i64 N1, .string S1, .slice A1 L1.length c1] 24))
      have HO7 := Aside0.mk (Kd.R_alloc HO5.out (.cells #[.int .i64 K1, .int .i64 N1, .string S1, .slice A1 L1.length c1] 24))
      have HK7 := Aside0.mk (Kept.alloc HK5.out (.cells #[.int .i64 K1, .int .i64 N1, .string S1, .slice A1 L1.length c1] 24))
      have HB7 := Aside0.mk (below_alloc HB5.out (.cells #[.int .i64 K1, .int .i64 N1, .string S1, .slice A1 L1.length c1] 24))
      have HW7 := Aside0.mk (HW5.out.below (below_alloc (Below.refl _ _) (.cells #[.int .i64 K1, .int .i64 N1, .string S1, .slice A1 L1.length c1] 24)))
      have HS7 := Aside0.mk (show w.heap.size + 1 ≤ (wr.alloc (.cells #[.int .i64 K1, .int .i64 N1, .string S1, .slice A1 L1.length c1] 24)).heap.size by have := HS5.out; simp; omega)
      clear HO5 HK5 HB5 HW5 HS5
      generalize wr.heap.size = b at *
      generalize wr.alloc (.cells #[.int .i64 K1, .int .i64 N1, .string S1, .slice A1 L1.length c1] 24) = W6 at *
      have hwx := wfL_mem HWF.out HXm.out
      have hk3 : K1 = 1 ∨ K1 = 2 ∨ K1 = 3 := by
        unfold wfP at hwx
        by_cases h : K1 = 3
        · exact .inr (.inr h)
        · rw [if_neg h] at hwx
          simp at hwx
          omega
      have hsx : SizeOf.sizeOf (S24.mk K1 N1 S1 L1) < n := Nat.lt_of_lt_of_le (List.sizeOf_lt_of_mem HXm.out) HS.out
      have hlx : (l0 ++ [3] ++ numl (L.length : Int) ++ encL (L.take i) ++ encP ⟨K1, N1, S1, L1⟩).length < 140737487000000 := by
        have h1 := HL.out
        have h2 := HEL.out
        rw [HXS.out] at h2
        simp at h1 h2 ⊢
        omega
      rcases hk3 with rfl | rfl | rfl
      · have hnp : ¬ ((P0 p ∧ p < w.heap.size) ∨ w.heap.size + 1 ≤ p) := fun hk => by rcases hk with hk | hk; exact HNP.out.1 hk.1; have := HPG.out; omega
        have hng : ¬ ((P0 gw ∧ gw < w.heap.size) ∨ w.heap.size + 1 ≤ gw) := fun hk => by rcases hk with hk | hk; exact HNP.out.2 hk.1; have := HPG.out; omega
        replace BX := Aside0.mk (blk_drew BX.out)
        replace HO7 := Aside0.mk (Kd.R_drew HO7.out)
        replace HK7 := Aside0.mk (Kept.drew HK7.out)
        replace HB7 := Aside0.mk (below_drew1 HB7.out)
        replace HW7 := Aside0.mk (show IsWr W6.drew p gw from HW7.out)
        replace HS7 := Aside0.mk (show w.heap.size + 1 ≤ W6.drew.heap.size from HS7.out)
        refine start_ (n := 11) (S := fun w' => w'.cell? ⟨p, 0, none⟩ = some (.pointer (some ⟨gw, 0, none⟩)) ∧ w'.cell? ⟨gw, 1, none⟩ = some (.func (.func 33) #[] #[]) ∧ w'.cell? ⟨b, 0, none⟩ = some (.int .i64 1) ∧ w'.cell? ⟨b, 1, none⟩ = some (.int .i64 N1) ∧ w'.cell? ⟨b, 2, none⟩ = some (.string S1) ∧ w'.cell? ⟨b, 3, none⟩ = some (.slice A1 L1.length c1)) (ds := [9]) #[false, false, false, false, false, false, false, false, false, false, false] (by kernel_rfl) rfl rfl ⟨((blk_cell HW7.out.1 0).trans rfl), ((blk_cell HW7.out.2 1).trans rfl), ((blk_cell BX.out 0).trans rfl), ((blk_cell BX.out 1).trans rfl), ((blk_cell BX.out 2).trans rfl), ((blk_cell BX.out 3).trans rfl)⟩ (fun hHeld => ?_)
        generalize W6.drew = W7 at BX HO7 HK7 HB7 HW7 HS7 hHeld ⊢
        have hcall : Calls Try.prog 33 #[u0, .agg #[.int .i64 1, .int .i64 N1, .string S1, .slice A1 L1.length c1]] W7 (WPost w0 W7 (fun k => (P0 k ∧ k < w.heap.size) ∨ w.heap.size + 1 ≤ k) (l0 ++ [3] ++ numl (L.length : Int) ++ encL (L.take i) ++ encP ⟨1, N1, S1, L1⟩)) := by
          have h := IH.out ⟨1, N1, S1, L1⟩ p gw A1 c1 _ u0 _ w0 W7 hsx hwx HB7.out HO7.out HW7.out hnp hng HI3.out HL3.out hlx
          simpa [fnOf, capOf] using h
        refine pure_ (i := 1) (N := some 24) (v := ?_) (a' := ?_) #[false, true, false, false, false, false, false, false, false, false, false] rfl rfl (by kernel_rfl) (fun _ _ _ h => h) (Or.inl ⟨by rfl, ?_⟩) ?_ ?_
        rotate_left
        · intro w'
          go_simp
          with_reducible rfl
        rotate_left
        · simp only [Act.put, List.setIfInBounds_toArray, List.set_cons_zero, List.set_cons_succ, i64_w, i32_w]
          rfl
        refine pure_ (i := 7) (N := some 30) (v := ?_) (a' := ?_) #[false, true, false, false, false, false, false, true, false, false, false] rfl rfl (by kernel_rfl) (fun _ _ _ h => h) (Or.inl ⟨by rfl, ?_⟩) ?_ ?_
        rotate_left
        · intro w'
          go_simp
          with_reducible rfl
        rotate_left
        · simp only [Act.put, List.setIfInBounds_toArray, List.set_cons_zero, List.set_cons_succ, i64_w, i32_w]
          rfl
        refine take_ (i := 0) (N := some 23) (v := ?_) (a' := ?_) #[true, true, false, false, false, false, false, true, false, false, false] rfl rfl (by kernel_rfl) (fun _ _ _ h => h) (Or.inl ⟨by rfl, ?_⟩) hHeld ?_ ?_
        rotate_left
        · rintro w' ⟨s0, s1, s2, s3, s4, s5⟩
          go_simp
          with_reducible rfl
        rotate_left
        · simp only [Act.put, List.setIfInBounds_toArray, List.set_cons_zero, List.set_cons_succ, i64_w, i32_w]
          rfl
        refine pure_ (i := 3) (N := some 26) (v := ?_) (a' := ?_) #[true, true, false, true, false, false, false, true, false, false, false] rfl rfl (by kernel_rfl) (fun _ _ _ h => h) (Or.inl ⟨by rfl, ?_⟩) ?_ ?_
        rotate_left
        · intro w'
          go_simp
          with_reducible rfl
        rotate_left
        · simp only [Act.put, List.setIfInBounds_toArray, List.set_cons_zero, List.set_cons_succ, i64_w, i32_w]
          rfl
        refine take_ (i := 2) (N := some 25) (v := ?_) (a' := ?_) #[true, true, true, true, false, false, false, true, false, false, false] rfl rfl (by kernel_rfl) (fun _ _ _ h => h) (Or.inl ⟨by rfl, ?_⟩) hHeld ?_ ?_
        rotate_left
        · rintro w' ⟨s0, s1, s2, s3, s4, s5⟩
          go_simp
          with_reducible rfl
        rotate_left
        · simp only [Act.put, List.setIfInBounds_toArray, List.set_cons_zero, List.set_cons_succ, i64_w, i32_w]
          rfl
        refine pure_ (i := 4) (N := some 27) (v := ?_) (a' := ?_) #[true, true, true, true, true, false, false, true, false, false, false] rfl rfl (by kernel_rfl) (fun _ _ _ h => h) (Or.inl ⟨by rfl, ?_⟩) ?_ ?_
        rotate_left
        · intro w'
          go_simp
          with_reducible rfl
        rotate_left
        · simp only [Act.put, List.setIfInBounds_toArray, List.set_cons_zero, List.set_cons_succ, i64_w, i32_w]
          rfl
        refine pure_ (i := 5) (N := some 28) (v := ?_) (a' := ?_) #[true, true, true, true, true, true, false, true, false, false, false] rfl rfl (by kernel_rfl) (fun _ _ _ h => h) (Or.inl ⟨by rfl, ?_⟩) ?_ ?_
        rotate_left
        · intro w'
          go_simp
          with_reducible rfl
        rotate_left
        · simp only [Act.put, List.setIfInBounds_toArray, List.set_cons_zero, List.set_cons_succ, i64_w, i32_w]
          rfl
        refine take_ (i := 6) (N := some 29) (v := ?_) (a' := ?_) #[true, true, true, true, true, true, true, true, false, false, false] rfl rfl (by kernel_rfl) (fun _ _ _ h => h) (Or.inl ⟨by rfl, ?_⟩) hHeld ?_ ?_
        rotate_left
        · rintro w' ⟨s0, s1, s2, s3, s4, s5⟩
          go_simp
          with_reducible rfl
        rotate_left
        · simp only [Act.put, List.setIfInBounds_toArray, List.set_cons_zero, List.set_cons_succ, i64_w, i32_w]
          rfl
        refine take_ (i := 8) (N := some 31) (v := ?_) (a' := ?_) #[true, true, true, true, true, true, true, true, true, false, false] rfl rfl (by kernel_rfl) (fun _ _ _ h => h) (Or.inl ⟨by rfl, ?_⟩) hHeld ?_ ?_
        rotate_left
        · rintro w' ⟨s0, s1, s2, s3, s4, s5⟩
          go_simp
          with_reducible rfl
        rotate_left
        · simp only [Act.put, List.setIfInBounds_toArray, List.set_cons_zero, List.set_cons_succ, i64_w, i32_w]
          rfl
        refine last_ (i := 9) (N := some 32) #[true, true, true, true, true, true, true, true, true, true, false] rfl rfl (by kernel_rfl) (by decide) (fun K hK => ?_)
        refine goesF_ (by rfl) (by rfl) Try.func33 (by kernel_rfl) rfl #[u0, .agg #[.int .i64 1, .int .i64 N1, .string S1, .slice A1 L1.length c1]] (by rfl) (by rfl) (by simp only [List.map_toArray, List.map_cons, List.map_nil]; rfl) ?_
        refine hcall.mono ?_
        rintro e W9 ⟨u9, rfl, ho9, hb9, hk9⟩
        have HO9 := Aside0.mk ho9
        have HB9 := Aside0.mk hb9
        have HK9 := Aside0.mk (Kept.then_ HK7.out hk9 (fun k hk => by rcases hk with hk | hk; exact .inl hk.1; exact .inr (by omega)))
        have HW9 := Aside0.mk (HW7.out.kept hk9 hnp hng)
        have HS9 := Aside0.mk (show w.heap.size + 1 ≤ W9.heap.size from Nat.le_trans HS7.out hk9.1)
        clear ho9 hb9 hk9 hcall
        refine ⟨_, rfl, ?_⟩
        refine hK.out _ _ ?_
        clear hK K
        refine norm_ (a' := ?_) ?_ ?_
        rotate_left
        · show Act.put _ (some 32) _ = _
          simp only [Act.put, List.setIfInBounds_toArray, List.set_cons_zero, List.set_cons_succ, i64_w, i32_w]
          rfl
        refine pure_ (i := 10) (N := some 0) (v := ?_) (a' := ?_) #[true, true, true, true, true, true, true, true, true, true, true] rfl rfl (by kernel_rfl) (fun _ _ _ h => h) (Or.inl ⟨by rfl, ?_⟩) ?_ ?_
        rotate_left
        · intro w'
          go_simp
          with_reducible rfl
        rotate_left
        · simp only [Act.put, List.setIfInBounds_toArray, List.set_cons_zero, List.set_cons_succ, i64_w, i32_w]
          rfl
        refine done_ (by kernel_rfl) ?_
        go_wp2_with fail
        have hw : Value.int .i64 (wrap64 ((i : Int) + 1)) = .int .i64 ((i + 1 : Nat) : Int) := by have h1 := HLL.out; have h2 := HIK.out; rw [IntWalk.wrap64_in _ (by omega)]; rfl
        go_roundg k1
        case measure => have := HIK.out; omega
        case rel =>
          refine ⟨i + 1, hw, ⟨by have := HIK.out; omega⟩, ⟨?_⟩, HK9, HB9, HW9, HS9⟩
          have h := Kd.R_mono HO9.out (ok' := fun k => (P0 k ∧ k < w.heap.size) ∨ w.heap.size + 1 ≤ k) (fun k hk => by rcases hk with hk | hk; exact hk; exact .inr (by have := HS7.out; omega))
          rw [HXS.out]
          simpa using h
      · have hnp : ¬ ((P0 p ∧ p < w.heap.size) ∨ w.heap.size + 1 ≤ p) := fun hk => by rcases hk with hk | hk; exact HNP.out.1 hk.1; have := HPG.out; omega
        have hng : ¬ ((P0 gw ∧ gw < w.heap.size) ∨ w.heap.size + 1 ≤ gw) := fun hk => by rcases hk with hk | hk; exact HNP.out.2 hk.1; have := HPG.out; omega
        replace BX := Aside0.mk (blk_drew BX.out)
        replace HO7 := Aside0.mk (Kd.R_drew HO7.out)
        replace HK7 := Aside0.mk (Kept.drew HK7.out)
        replace HB7 := Aside0.mk (below_drew1 HB7.out)
        replace HW7 := Aside0.mk (show IsWr W6.drew p gw from HW7.out)
        replace HS7 := Aside0.mk (show w.heap.size + 1 ≤ W6.drew.heap.size from HS7.out)
        refine start_ (n := 11) (S := fun w' => w'.cell? ⟨p, 0, none⟩ = some (.pointer (some ⟨gw, 0, none⟩)) ∧ w'.cell? ⟨gw, 2, none⟩ = some (.func (.func 36) #[] #[]) ∧ w'.cell? ⟨b, 0, none⟩ = some (.int .i64 2) ∧ w'.cell? ⟨b, 1, none⟩ = some (.int .i64 N1) ∧ w'.cell? ⟨b, 2, none⟩ = some (.string S1) ∧ w'.cell? ⟨b, 3, none⟩ = some (.slice A1 L1.length c1)) (ds := [9]) #[false, false, false, false, false, false, false, false, false, false, false] (by kernel_rfl) rfl rfl ⟨((blk_cell HW7.out.1 0).trans rfl), ((blk_cell HW7.out.2 2).trans rfl), ((blk_cell BX.out 0).trans rfl), ((blk_cell BX.out 1).trans rfl), ((blk_cell BX.out 2).trans rfl), ((blk_cell BX.out 3).trans rfl)⟩ (fun hHeld => ?_)
        generalize W6.drew = W7 at BX HO7 HK7 HB7 HW7 HS7 hHeld ⊢
        have hcall : Calls Try.prog 36 #[u0, .agg #[.int .i64 2, .int .i64 N1, .string S1, .slice A1 L1.length c1]] W7 (WPost w0 W7 (fun k => (P0 k ∧ k < w.heap.size) ∨ w.heap.size + 1 ≤ k) (l0 ++ [3] ++ numl (L.length : Int) ++ encL (L.take i) ++ encP ⟨2, N1, S1, L1⟩)) := by
          have h := IH.out ⟨2, N1, S1, L1⟩ p gw A1 c1 _ u0 _ w0 W7 hsx hwx HB7.out HO7.out HW7.out hnp hng HI3.out HL3.out hlx
          simpa [fnOf, capOf] using h
        refine pure_ (i := 1) (N := some 24) (v := ?_) (a' := ?_) #[false, true, false, false, false, false, false, false, false, false, false] rfl rfl (by kernel_rfl) (fun _ _ _ h => h) (Or.inl ⟨by rfl, ?_⟩) ?_ ?_
        rotate_left
        · intro w'
          go_simp
          with_reducible rfl
        rotate_left
        · simp only [Act.put, List.setIfInBounds_toArray, List.set_cons_zero, List.set_cons_succ, i64_w, i32_w]
          rfl
        refine pure_ (i := 7) (N := some 30) (v := ?_) (a' := ?_) #[false, true, false, false, false, false, false, true, false, false, false] rfl rfl (by kernel_rfl) (fun _ _ _ h => h) (Or.inl ⟨by rfl, ?_⟩) ?_ ?_
        rotate_left
        · intro w'
          go_simp
          with_reducible rfl
        rotate_left
        · simp only [Act.put, List.setIfInBounds_toArray, List.set_cons_zero, List.set_cons_succ, i64_w, i32_w]
          rfl
        refine take_ (i := 0) (N := some 23) (v := ?_) (a' := ?_) #[true, true, false, false, false, false, false, true, false, false, false] rfl rfl (by kernel_rfl) (fun _ _ _ h => h) (Or.inl ⟨by rfl, ?_⟩) hHeld ?_ ?_
        rotate_left
        · rintro w' ⟨s0, s1, s2, s3, s4, s5⟩
          go_simp
          with_reducible rfl
        rotate_left
        · simp only [Act.put, List.setIfInBounds_toArray, List.set_cons_zero, List.set_cons_succ, i64_w, i32_w]
          rfl
        refine pure_ (i := 3) (N := some 26) (v := ?_) (a' := ?_) #[true, true, false, true, false, false, false, true, false, false, false] rfl rfl (by kernel_rfl) (fun _ _ _ h => h) (Or.inl ⟨by rfl, ?_⟩) ?_ ?_
        rotate_left
        · intro w'
          go_simp
          with_reducible rfl
        rotate_left
        · simp only [Act.put, List.setIfInBounds_toArray, List.set_cons_zero, List.set_cons_succ, i64_w, i32_w]
          rfl
        refine take_ (i := 2) (N := some 25) (v := ?_) (a' := ?_) #[true, true, true, true, false, false, false, true, false, false, false] rfl rfl (by kernel_rfl) (fun _ _ _ h => h) (Or.inl ⟨by rfl, ?_⟩) hHeld ?_ ?_
        rotate_left
        · rintro w' ⟨s0, s1, s2, s3, s4, s5⟩
          go_simp
          with_reducible rfl
        rotate_left
        · simp only [Act.put, List.setIfInBounds_toArray, List.set_cons_zero, List.set_cons_succ, i64_w, i32_w]
          rfl
        refine pure_ (i := 4) (N := some 27) (v := ?_) (a' := ?_) #[true, true, true, true, true, false, false, true, false, false, false] rfl rfl (by kernel_rfl) (fun _ _ _ h => h) (Or.inl ⟨by rfl, ?_⟩) ?_ ?_
        rotate_left
        · intro w'
          go_simp
          with_reducible rfl
        rotate_left
        · simp only [Act.put, List.setIfInBounds_toArray, List.set_cons_zero, List.set_cons_succ, i64_w, i32_w]
          rfl
        refine pure_ (i := 5) (N := some 28) (v := ?_) (a' := ?_) #[true, true, true, true, true, true, false, true, false, false, false] rfl rfl (by kernel_rfl) (fun _ _ _ h => h) (Or.inl ⟨by rfl, ?_⟩) ?_ ?_
        rotate_left
        · intro w'
          go_simp
          with_reducible rfl
        rotate_left
        · simp only [Act.put, List.setIfInBounds_toArray, List.set_cons_zero, List.set_cons_succ, i64_w, i32_w]
          rfl
        refine take_ (i := 6) (N := some 29) (v := ?_) (a' := ?_) #[true, true, true, true, true, true, true, true, false, false, false] rfl rfl (by kernel_rfl) (fun _ _ _ h => h) (Or.inl ⟨by rfl, ?_⟩) hHeld ?_ ?_
        rotate_left
        · rintro w' ⟨s0, s1, s2, s3, s4, s5⟩
          go_simp
          with_reducible rfl
        rotate_left
        · simp only [Act.put, List.setIfInBounds_toArray, List.set_cons_zero, List.set_cons_succ, i64_w, i32_w]
          rfl
        refine take_ (i := 8) (N := some 31) (v := ?_) (a' := ?_) #[true, true, true, true, true, true, true, true, true, false, false] rfl rfl (by kernel_rfl) (fun _ _ _ h => h) (Or.inl ⟨by rfl, ?_⟩) hHeld ?_ ?_
        rotate_left
        · rintro w' ⟨s0, s1, s2, s3, s4, s5⟩
          go_simp
          with_reducible rfl
        rotate_left
        · simp only [Act.put, List.setIfInBounds_toArray, List.set_cons_zero, List.set_cons_succ, i64_w, i32_w]
          rfl
        refine last_ (i := 9) (N := some 32) #[true, true, true, true, true, true, true, true, true, true, false] rfl rfl (by kernel_rfl) (by decide) (fun K hK => ?_)
        refine goesF_ (by rfl) (by rfl) Try.func36 (by kernel_rfl) rfl #[u0, .agg #[.int .i64 2, .int .i64 N1, .string S1, .slice A1 L1.length c1]] (by rfl) (by rfl) (by simp only [List.map_toArray, List.map_cons, List.map_nil]; rfl) ?_
        refine hcall.mono ?_
        rintro e W9 ⟨u9, rfl, ho9, hb9, hk9⟩
        have HO9 := Aside0.mk ho9
        have HB9 := Aside0.mk hb9
        have HK9 := Aside0.mk (Kept.then_ HK7.out hk9 (fun k hk => by rcases hk with hk | hk; exact .inl hk.1; exact .inr (by omega)))
        have HW9 := Aside0.mk (HW7.out.kept hk9 hnp hng)
        have HS9 := Aside0.mk (show w.heap.size + 1 ≤ W9.heap.size from Nat.le_trans HS7.out hk9.1)
        clear ho9 hb9 hk9 hcall
        refine ⟨_, rfl, ?_⟩
        refine hK.out _ _ ?_
        clear hK K
        refine norm_ (a' := ?_) ?_ ?_
        rotate_left
        · show Act.put _ (some 32) _ = _
          simp only [Act.put, List.setIfInBounds_toArray, List.set_cons_zero, List.set_cons_succ, i64_w, i32_w]
          rfl
        refine pure_ (i := 10) (N := some 0) (v := ?_) (a' := ?_) #[true, true, true, true, true, true, true, true, true, true, true] rfl rfl (by kernel_rfl) (fun _ _ _ h => h) (Or.inl ⟨by rfl, ?_⟩) ?_ ?_
        rotate_left
        · intro w'
          go_simp
          with_reducible rfl
        rotate_left
        · simp only [Act.put, List.setIfInBounds_toArray, List.set_cons_zero, List.set_cons_succ, i64_w, i32_w]
          rfl
        refine done_ (by kernel_rfl) ?_
        go_wp2_with fail
        have hw : Value.int .i64 (wrap64 ((i : Int) + 1)) = .int .i64 ((i + 1 : Nat) : Int) := by have h1 := HLL.out; have h2 := HIK.out; rw [IntWalk.wrap64_in _ (by omega)]; rfl
        go_roundg k1
        case measure => have := HIK.out; omega
        case rel =>
          refine ⟨i + 1, hw, ⟨by have := HIK.out; omega⟩, ⟨?_⟩, HK9, HB9, HW9, HS9⟩
          have h := Kd.R_mono HO9.out (ok' := fun k => (P0 k ∧ k < w.heap.size) ∨ w.heap.size + 1 ≤ k) (fun k hk => by rcases hk with hk | hk; exact hk; exact .inr (by have := HS7.out; omega))
          rw [HXS.out]
          simpa using h
      · have hnp : ¬ ((P0 p ∧ p < w.heap.size) ∨ w.heap.size + 1 ≤ p) := fun hk => by rcases hk with hk | hk; exact HNP.out.1 hk.1; have := HPG.out; omega
        have hng : ¬ ((P0 gw ∧ gw < w.heap.size) ∨ w.heap.size + 1 ≤ gw) := fun hk => by rcases hk with hk | hk; exact HNP.out.2 hk.1; have := HPG.out; omega
        replace BX := Aside0.mk (blk_drew BX.out)
        replace HO7 := Aside0.mk (Kd.R_drew HO7.out)
        replace HK7 := Aside0.mk (Kept.drew HK7.out)
        replace HB7 := Aside0.mk (below_drew1 HB7.out)
        replace HW7 := Aside0.mk (show IsWr W6.drew p gw from HW7.out)
        replace HS7 := Aside0.mk (show w.heap.size + 1 ≤ W6.drew.heap.size from HS7.out)
        refine start_ (n := 11) (S := fun w' => w'.cell? ⟨p, 0, none⟩ = some (.pointer (some ⟨gw, 0, none⟩)) ∧ w'.cell? ⟨gw, 3, none⟩ = some (.func (.func 37) #[] #[.pointer (some ⟨p, 0, none⟩)]) ∧ w'.cell? ⟨b, 0, none⟩ = some (.int .i64 3) ∧ w'.cell? ⟨b, 1, none⟩ = some (.int .i64 N1) ∧ w'.cell? ⟨b, 2, none⟩ = some (.string S1) ∧ w'.cell? ⟨b, 3, none⟩ = some (.slice A1 L1.length c1)) (ds := [9]) #[false, false, false, false, false, false, false, false, false, false, false] (by kernel_rfl) rfl rfl ⟨((blk_cell HW7.out.1 0).trans rfl), ((blk_cell HW7.out.2 3).trans rfl), ((blk_cell BX.out 0).trans rfl), ((blk_cell BX.out 1).trans rfl), ((blk_cell BX.out 2).trans rfl), ((blk_cell BX.out 3).trans rfl)⟩ (fun hHeld => ?_)
        generalize W6.drew = W7 at BX HO7 HK7 HB7 HW7 HS7 hHeld ⊢
        have hcall : Calls Try.prog 37 #[u0, .agg #[.int .i64 3, .int .i64 N1, .string S1, .slice A1 L1.length c1], .pointer (some ⟨p, 0, none⟩)] W7 (WPost w0 W7 (fun k => (P0 k ∧ k < w.heap.size) ∨ w.heap.size + 1 ≤ k) (l0 ++ [3] ++ numl (L.length : Int) ++ encL (L.take i) ++ encP ⟨3, N1, S1, L1⟩)) := by
          have h := IH.out ⟨3, N1, S1, L1⟩ p gw A1 c1 _ u0 _ w0 W7 hsx hwx HB7.out HO7.out HW7.out hnp hng HI3.out HL3.out hlx
          simpa [fnOf, capOf] using h
        refine pure_ (i := 1) (N := some 24) (v := ?_) (a' := ?_) #[false, true, false, false, false, false, false, false, false, false, false] rfl rfl (by kernel_rfl) (fun _ _ _ h => h) (Or.inl ⟨by rfl, ?_⟩) ?_ ?_
        rotate_left
        · intro w'
          go_simp
          with_reducible rfl
        rotate_left
        · simp only [Act.put, List.setIfInBounds_toArray, List.set_cons_zero, List.set_cons_succ, i64_w, i32_w]
          rfl
        refine pure_ (i := 7) (N := some 30) (v := ?_) (a' := ?_) #[false, true, false, false, false, false, false, true, false, false, false] rfl rfl (by kernel_rfl) (fun _ _ _ h => h) (Or.inl ⟨by rfl, ?_⟩) ?_ ?_
        rotate_left
        · intro w'
          go_simp
          with_reducible rfl
        rotate_left
        · simp only [Act.put, List.setIfInBounds_toArray, List.set_cons_zero, List.set_cons_succ, i64_w, i32_w]
          rfl
        refine take_ (i := 0) (N := some 23) (v := ?_) (a' := ?_) #[true, true, false, false, false, false, false, true, false, false, false] rfl rfl (by kernel_rfl) (fun _ _ _ h => h) (Or.inl ⟨by rfl, ?_⟩) hHeld ?_ ?_
        rotate_left
        · rintro w' ⟨s0, s1, s2, s3, s4, s5⟩
          go_simp
          with_reducible rfl
        rotate_left
        · simp only [Act.put, List.setIfInBounds_toArray, List.set_cons_zero, List.set_cons_succ, i64_w, i32_w]
          rfl
        refine pure_ (i := 3) (N := some 26) (v := ?_) (a' := ?_) #[true, true, false, true, false, false, false, true, false, false, false] rfl rfl (by kernel_rfl) (fun _ _ _ h => h) (Or.inl ⟨by rfl, ?_⟩) ?_ ?_
        rotate_left
        · intro w'
          go_simp
          with_reducible rfl
        rotate_left
        · simp only [Act.put, List.setIfInBounds_toArray, List.set_cons_zero, List.set_cons_succ, i64_w, i32_w]
          rfl
        refine take_ (i := 2) (N := some 25) (v := ?_) (a' := ?_) #[true, true, true, true, false, false, false, true, false, false, false] rfl rfl (by kernel_rfl) (fun _ _ _ h => h) (Or.inl ⟨by rfl, ?_⟩) hHeld ?_ ?_
        rotate_left
        · rintro w' ⟨s0, s1, s2, s3, s4, s5⟩
          go_simp
          with_reducible rfl
        rotate_left
        · simp only [Act.put, List.setIfInBounds_toArray, List.set_cons_zero, List.set_cons_succ, i64_w, i32_w]
          rfl
        refine pure_ (i := 4) (N := some 27) (v := ?_) (a' := ?_) #[true, true, true, true, true, false, false, true, false, false, false] rfl rfl (by kernel_rfl) (fun _ _ _ h => h) (Or.inl ⟨by rfl, ?_⟩) ?_ ?_
        rotate_left
        · intro w'
          go_simp
          with_reducible rfl
        rotate_left
        · simp only [Act.put, List.setIfInBounds_toArray, List.set_cons_zero, List.set_cons_succ, i64_w, i32_w]
          rfl
        refine pure_ (i := 5) (N := some 28) (v := ?_) (a' := ?_) #[true, true, true, true, true, true, false, true, false, false, false] rfl rfl (by kernel_rfl) (fun _ _ _ h => h) (Or.inl ⟨by rfl, ?_⟩) ?_ ?_
        rotate_left
        · intro w'
          go_simp
          with_reducible rfl
        rotate_left
        · simp only [Act.put, List.setIfInBounds_toArray, List.set_cons_zero, List.set_cons_succ, i64_w, i32_w]
          rfl
        refine take_ (i := 6) (N := some 29) (v := ?_) (a' := ?_) #[true, true, true, true, true, true, true, true, false, false, false] rfl rfl (by kernel_rfl) (fun _ _ _ h => h) (Or.inl ⟨by rfl, ?_⟩) hHeld ?_ ?_
        rotate_left
        · rintro w' ⟨s0, s1, s2, s3, s4, s5⟩
          go_simp
          with_reducible rfl
        rotate_left
        · simp only [Act.put, List.setIfInBounds_toArray, List.set_cons_zero, List.set_cons_succ, i64_w, i32_w]
          rfl
        refine take_ (i := 8) (N := some 31) (v := ?_) (a' := ?_) #[true, true, true, true, true, true, true, true, true, false, false] rfl rfl (by kernel_rfl) (fun _ _ _ h => h) (Or.inl ⟨by rfl, ?_⟩) hHeld ?_ ?_
        rotate_left
        · rintro w' ⟨s0, s1, s2, s3, s4, s5⟩
          go_simp
          with_reducible rfl
        rotate_left
        · simp only [Act.put, List.setIfInBounds_toArray, List.set_cons_zero, List.set_cons_succ, i64_w, i32_w]
          rfl
        refine last_ (i := 9) (N := some 32) #[true, true, true, true, true, true, true, true, true, true, false] rfl rfl (by kernel_rfl) (by decide) (fun K hK => ?_)
        refine goesF_ (by rfl) (by rfl) Try.func37 (by kernel_rfl) rfl #[u0, .agg #[.int .i64 3, .int .i64 N1, .string S1, .slice A1 L1.length c1], .pointer (some ⟨p, 0, none⟩)] (by rfl) (by rfl) (by simp only [List.map_toArray, List.map_cons, List.map_nil]; rfl) ?_
        refine hcall.mono ?_
        rintro e W9 ⟨u9, rfl, ho9, hb9, hk9⟩
        have HO9 := Aside0.mk ho9
        have HB9 := Aside0.mk hb9
        have HK9 := Aside0.mk (Kept.then_ HK7.out hk9 (fun k hk => by rcases hk with hk | hk; exact .inl hk.1; exact .inr (by omega)))
        have HW9 := Aside0.mk (HW7.out.kept hk9 hnp hng)
        have HS9 := Aside0.mk (show w.heap.size + 1 ≤ W9.heap.size from Nat.le_trans HS7.out hk9.1)
        clear ho9 hb9 hk9 hcall
        refine ⟨_, rfl, ?_⟩
        refine hK.out _ _ ?_
        clear hK K
        refine norm_ (a' := ?_) ?_ ?_
        rotate_left
        · show Act.put _ (some 32) _ = _
          simp only [Act.put, List.setIfInBounds_toArray, List.set_cons_zero, List.set_cons_succ, i64_w, i32_w]
          rfl
        refine pure_ (i := 10) (N := some 0) (v := ?_) (a' := ?_) #[true, true, true, true, true, true, true, true, true, true, true] rfl rfl (by kernel_rfl) (fun _ _ _ h => h) (Or.inl ⟨by rfl, ?_⟩) ?_ ?_
        rotate_left
        · intro w'
          go_simp
          with_reducible rfl
        rotate_left
        · simp only [Act.put, List.setIfInBounds_toArray, List.set_cons_zero, List.set_cons_succ, i64_w, i32_w]
          rfl
        refine done_ (by kernel_rfl) ?_
        go_wp2_with fail
        have hw : Value.int .i64 (wrap64 ((i : Int) + 1)) = .int .i64 ((i + 1 : Nat) : Int) := by have h1 := HLL.out; have h2 := HIK.out; rw [IntWalk.wrap64_in _ (by omega)]; rfl
        go_roundg k1
        case measure => have := HIK.out; omega
        case rel =>
          refine ⟨i + 1, hw, ⟨by have := HIK.out; omega⟩, ⟨?_⟩, HK9, HB9, HW9, HS9⟩
          have h := Kd.R_mono HO9.out (ok' := fun k => (P0 k ∧ k < w.heap.size) ∨ w.heap.size + 1 ≤ k) (fun k hk => by rcases hk with hk | hk; exact hk; exact .inr (by have := HS7.out; omega))
          rw [HXS.out]
          simpa using h
end Go.Proofs.Ytncejmjicjlanaa.Q
