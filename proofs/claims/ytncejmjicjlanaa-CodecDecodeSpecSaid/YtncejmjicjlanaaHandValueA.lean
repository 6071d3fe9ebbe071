/- Contract of the reader's value of codec: as the plain valP, or a panic; the reader's cell alone turns, the value's lists are new. -/
import Derived.Test.YtncejmjicjlanaaHandNumber
namespace Go.Proofs.Ytncejmjicjlanaa.Q
open Go.RowKit Go.Proofs.YtncejmjicjlanaaW.PrintWords Go.Proofs.YtncejmjicjlanaaW.PrintLast Go.Proofs.YtncejmjicjlanaaW.PrintMore
set_option linter.unusedVariables false
set_option linter.unusedSimpArgs false
theorem IsRd.of {w0 W W' : World} {g : Nat} {A : Option Addr} {c : Nat} {rest : List Int} (h : IsRd w0 W g A c rest) (e : W'.heap[g]? = W.heap[g]?) : IsRd w0 W' g A c rest := ⟨e.trans h.1, h.2⟩
/-- A call of a Go function that may panic, by its contract, in a region that draws its order. -/
theorem goesP_ {P : Program} {b : Bool} {oi : Oper} {N : Option Tmp} {a : Act} {w : World} {K : Act → World → Prop} {Q : Exit → Act → World → Prop} {f : FuncId} {fn : Func} {asx : Array Operand} {ts : Array TypeId} (hw : b = true) (hN : oi.dst = N) (hf : P.funcs[f]? = some fn) (hname : (fn.name == "runtime.NumGoroutine") = false) (hb : fn.body.isSome = true) (args : Array Value)
    (hop : oi.op = .call { callee := .value (.func f), args := asx, argTypes := ts }) (hargs : asx.map a.eval = args)
    (h : Calls P f args w fun e w' => (∃ v, e = .returned v ∧ K (a.put N v) w') ∨ (∃ chain, e = .panicked chain ∧ Q (.panic chain) a w')) : if b = true then Oper.wp P oi a w K Q else K (a.put N undef) w := by
  rw [if_pos hw]
  subst hN
  unfold Oper.wp
  have hrun : (execOp a.eval oi).run P w = .ok (.enter f args) w := by
    have he := enters_ hf hname hb args w
    unfold execOp
    simp [hop, resolve, Deferred.ofValue, invoke, Act.eval, hargs, he]
  rw [hrun, Oper.upon_enter]
  refine h.mono fun e w'' hh => ?_
  rcases hh with ⟨v, rfl, hk⟩ | ⟨ch, rfl, hk⟩
  · exact hk
  · exact hk
/-- How value ends. -/
def ValPost (w0 w : World) (g : Nat) (out : Option (S24 × List Int)) (e : Ending) (w' : World) : Prop :=
  KeepBut w w' g none ∧ Below w0.heap.size w0 w' ∧
  match out with
  | none => e = badEnd
  | some (v, r) => ∃ v3, e = .returned (.agg #[.int .i64 v.f0, .int .i64 v.f1, .string v.f2, v3]) ∧ Kd.R k24 24 w' w.heap.size (fun _ => True) v3 v.f3 ∧ ∃ A c, IsRd w0 w' g A c r
/-- The contract, so many lists still allowed. -/
def ValueOk (m : Nat) : Prop := ∀ (d : Int) (g : Nat) (A : Option Addr) (c : Nat) (rest : List Int) (w0 w : World) (hd : d = 16 - (m : Int)) (hm : m ≤ 16) (hI : IsRd w0 w g A c rest) (hB : Below w0.heap.size w0 w) (hl : rest.length < 2000000000),
    Calls Try.prog 28 #[.pointer (some ⟨g, 0, none⟩), .int .i64 d] w (ValPost w0 w g (valP m rest))
/-- A list's value out of the elements read so far and those to come. -/
def listP (vs : List S24) : Option (List S24 × List Int) → Option (S24 × List Int)
  | none => none
  | some (vs2, r2) => some (⟨3, 0, ⟨#[]⟩, vs ++ vs2⟩, r2)
theorem listP_nil (E : Option (List S24 × List Int)) : listP [] E = (match E with | none => none | some (vs, r2) => some (⟨3, 0, ⟨#[]⟩, vs⟩, r2)) := by
  cases E <;> rfl
theorem Vst.drew {w0 w W : World} {g : Nat} {x0 x1 x2 x3 : Value} (h : W.heap[w.heap.size]? = some (.cells #[x0, x1, x2, x3] 24 (0, 0)) ∧ KeepBut w W g none ∧ Below w0.heap.size w0 W) : W.drew.heap[w.heap.size]? = some (.cells #[x0, x1, x2, x3] 24 (0, 0)) ∧ KeepBut w W.drew g none ∧ Below w0.heap.size w0 W.drew :=
  ⟨h.1, keep_drew h.2.1, below_drew1 h.2.2⟩
/-- The value's own block, and what stays: x0 .. x3 are its fields. -/
def Vst (w0 w W : World) (g : Nat) (x0 x1 x2 x3 : Value) : Prop := W.heap[w.heap.size]? = some (.cells #[x0, x1, x2, x3] 24 (0, 0)) ∧ KeepBut w W g none ∧ Below w0.heap.size w0 W
theorem Vst.set0 {w0 w W : World} {g : Nat} {x0 x1 x2 x3 : Value} (h : Vst w0 w W g x0 x1 x2 x3) (hw : w0.heap.size ≤ w.heap.size) (v : Value) : Vst w0 w (W.setCell ⟨w.heap.size, 0, none⟩ v) g v x1 x2 x3 :=
  ⟨blk_put h.1 0 v rfl, keep_far h.2.1 (Nat.le_refl _) v, below_set h.2.2 hw⟩
theorem Vst.set1 {w0 w W : World} {g : Nat} {x0 x1 x2 x3 : Value} (h : Vst w0 w W g x0 x1 x2 x3) (hw : w0.heap.size ≤ w.heap.size) (v : Value) : Vst w0 w (W.setCell ⟨w.heap.size, 1, none⟩ v) g x0 v x2 x3 :=
  ⟨blk_put h.1 1 v rfl, keep_far h.2.1 (Nat.le_refl _) v, below_set h.2.2 hw⟩
theorem Vst.set2 {w0 w W : World} {g : Nat} {x0 x1 x2 x3 : Value} (h : Vst w0 w W g x0 x1 x2 x3) (hw : w0.heap.size ≤ w.heap.size) (v : Value) : Vst w0 w (W.setCell ⟨w.heap.size, 2, none⟩ v) g x0 x1 v x3 :=
  ⟨blk_put h.1 2 v rfl, keep_far h.2.1 (Nat.le_refl _) v, below_set h.2.2 hw⟩
theorem Vst.set3 {w0 w W : World} {g : Nat} {x0 x1 x2 x3 : Value} (h : Vst w0 w W g x0 x1 x2 x3) (hw : w0.heap.size ≤ w.heap.size) (v : Value) : Vst w0 w (W.setCell ⟨w.heap.size, 3, none⟩ v) g x0 x1 x2 v :=
  ⟨blk_put h.1 3 v rfl, keep_far h.2.1 (Nat.le_refl _) v, below_set h.2.2 hw⟩
theorem Vst.next {w0 w W W' : World} {g : Nat} {x0 x1 x2 x3 : Value} (h : Vst w0 w W g x0 x1 x2 x3) (hg : g < w.heap.size) (hk : KeepBut W W' g none) (hb : Below w0.heap.size w0 W') : Vst w0 w W' g x0 x1 x2 x3 :=
  ⟨(hk.2 _ (blk_lt h.1) (by omega) (by simp)).trans h.1, h.2.1.trans hk (.inl rfl), hb⟩
theorem Vst.grown {w0 w W W' : World} {g : Nat} {x0 x1 x2 x3 : Value} (h : Vst w0 w W g x0 x1 x2 x3) (hw : w0.heap.size ≤ w.heap.size) (hb : Below w.heap.size W W') (e : W'.heap[w.heap.size]? = W.heap[w.heap.size]?) : Vst w0 w W' g x0 x1 x2 x3 :=
  ⟨e.trans h.1, ⟨Nat.le_trans h.2.1.1 hb.size, fun i hi hne hr => (hb.block i hi).trans (h.2.1.2 i hi hne hr)⟩, h.2.2.trans (hb.mono hw)⟩
theorem info24 : (Try.prog.info? 24).map (fun i => (i.zero, i.size, i.bytes)) = some (some (.agg #[(.int .i64 0), (.int .i64 0), (.string ⟨#[]⟩), (.slice none 0 0)]), 4, 56) := by kernel_rfl
theorem Vst.cells {w0 w W : World} {g : Nat} {x0 x1 x2 x3 : Value} (h : Vst w0 w W g x0 x1 x2 x3) : W.cell? ⟨w.heap.size, 0, none⟩ = some x0 ∧ W.cell? ⟨w.heap.size, 1, none⟩ = some x1 ∧ W.cell? ⟨w.heap.size, 2, none⟩ = some x2 ∧ W.cell? ⟨w.heap.size, 3, none⟩ = some x3 :=
  ⟨(blk_cell h.1 0).trans rfl, (blk_cell h.1 1).trans rfl, (blk_cell h.1 2).trans rfl, (blk_cell h.1 3).trans rfl⟩
theorem IsRd.own {w0 W : World} {g h : Nat} {A : Option Addr} {c j : Nat} {rest : List Int} (hI : IsRd w0 W g A c rest) (hn : g ≠ h) (v : Value) : IsRd w0 (W.setCell ⟨h, j, none⟩ v) g A c rest := hI.of (Below.heap_setCell W ⟨h, j, none⟩ v g hn)
set_option maxHeartbeats 400000 in
theorem signed_calls (u : Int) (w : World) : Calls Try.prog 41 #[.int .u64 u] w fun e w' => e = .returned (.int .i64 (Go.bits .xor .i64 (wrap64 (u / 2)) (wrap64 (-(wrap64 (Go.bits .and .u64 u 1)))))) ∧ w' = w := by
  go_enter Try.func41, Try.ntmps41
  go_wp2
  go_ret
  exact ⟨rfl, rfl⟩
set_option maxHeartbeats 4000000 in
set_option maxRecDepth 100000 in
theorem value_nil (m : Nat) (d : Int) (g : Nat) (A : Option Addr) (c : Nat) (w0 w : World) (hI : IsRd w0 w g A c []) (hB : Below w0.heap.size w0 w) :
    Calls Try.prog 28 #[.pointer (some ⟨g, 0, none⟩), .int .i64 d] w (ValPost w0 w g (valP m [])) := by
  have hgl : g < w.heap.size := blk_lt hI.1
  have hu24 := Try.underlying24
  go_enter Try.func28, Try.ntmps28
  go_wp2_with fail
  have hI1 := hI.of (Below.heap_alloc w (.cells #[.int .i64 0, .int .i64 0, .string ⟨#[]⟩, .slice none 0 0] 24) g hgl)
  have hB1 := below_alloc hB (.cells #[.int .i64 0, .int .i64 0, .string ⟨#[]⟩, .slice none 0 0] 24)
  have hK1 := keep_alloc (KeepBut.refl w g none) (.cells #[.int .i64 0, .int .i64 0, .string ⟨#[]⟩, .slice none 0 0] 24)
  generalize hW1 : w.alloc (.cells #[.int .i64 0, .int .i64 0, .string ⟨#[]⟩, .slice none 0 0] 24) = W1 at *
  refine (take_bad g A c [] 1 w0 W1 hI1 (by decide)).mono ?_
  rintro e w1 ⟨rfl, rfl⟩
  go_wp2
  exact ⟨rfl, hK1, hB1, by simp only [valP]⟩
set_option maxHeartbeats 4000000 in
set_option maxRecDepth 100000 in
theorem value_int (m : Nat) (d : Int) (g : Nat) (A : Option Addr) (c : Nat) (b : Int) (l : List Int) (w0 w : World) (hd : d = 16 - (m : Int)) (hm : m ≤ 16) (hI : IsRd w0 w g A c (b :: l)) (hB : Below w0.heap.size w0 w) (hl : (b :: l).length < 2000000000) (k1 : wrap64 b = 1) :
    Calls Try.prog 28 #[.pointer (some ⟨g, 0, none⟩), .int .i64 d] w (ValPost w0 w g (valP (m) (b :: l))) := by
  have hgl : g < w.heap.size := blk_lt hI.1
  have hu24 := Try.underlying24
  obtain ⟨R, hR⟩ : ∃ R, valP m (b :: l) = R := ⟨_, rfl⟩
  rw [hR]
  have HD := Aside0.mk hd
  clear hd
  go_enter Try.func28, Try.ntmps28
  go_wp2_with fail
  have hBv := blk_new w (.cells #[.int .i64 0, .int .i64 0, .string ⟨#[]⟩, .slice none 0 0] 24)
  have hI1 := hI.of (Below.heap_alloc w (.cells #[.int .i64 0, .int .i64 0, .string ⟨#[]⟩, .slice none 0 0] 24) g hgl)
  have hB1 := below_alloc hB (.cells #[.int .i64 0, .int .i64 0, .string ⟨#[]⟩, .slice none 0 0] 24)
  have hK1 := keep_alloc (KeepBut.refl w g none) (.cells #[.int .i64 0, .int .i64 0, .string ⟨#[]⟩, .slice none 0 0] 24)
  generalize hW1 : w.alloc (.cells #[.int .i64 0, .int .i64 0, .string ⟨#[]⟩, .slice none 0 0] 24) = W1 at *
  have HWS := Aside0.mk hB.size
  clear hW1 hB hI
  refine (take_one g A c b l w0 W1 hI1 hB1).mono ?_
  rintro e W2 ⟨ad, rfl, hcell, hI2, hk2, hB2⟩
  have hV : Vst w0 w W2 g (.int .i64 0) (.int .i64 0) (.string ⟨#[]⟩) (.slice none 0 0) := Vst.next ⟨hBv, hK1, hB1⟩ hgl hk2 hB2
  obtain ⟨hc0, hc1, hc2, hc3⟩ := hV.cells
  have hfz := fun j => blk_frozen hV.1 j
  have HV := Aside0.mk hV
  have HI2 := Aside0.mk hI2
  have hgn : ¬ w.heap.size = g := by omega
  have HW0 := Aside0.mk (show w0.heap.size ≤ w.heap.size from HWS.out)
  clear hK1 hB1 hI1 hBv hk2 hB2 hI2 hV HWS
  unfold valP at hR
  have hl2 : l.length < 2000000000 := by simp at hl; omega
  rw [if_pos k1] at hR
  go_wp2_with fail
  have HV3 := Aside0.mk (HV.out.set0 HW0.out (.int .i64 1))
  obtain ⟨A2, c2, hI2⟩ := HI2.out
  have hI3 := hI2.own (h := w.heap.size) (j := 0) (by omega) (.int .i64 1)
  clear HV HI2 hI2 hc0 hc1 hc2 hc3 hfz hcell
  generalize W2.setCell ⟨w.heap.size, 0, none⟩ (.int .i64 1) = W3 at *
  refine (number_calls g A2 c2 l w0 W3 hI3 HV3.out.2.2).mono ?_
  rintro e W4 ⟨hk4, hB4, hp⟩
  have HV4 := Aside0.mk (HV3.out.next hgl hk4 hB4)
  clear HV3 hk4 hB4 hI3
  cases hN : numP l 0 0 with
  | none =>
    rw [hN] at hp hR
    simp only at hp hR
    subst hR
    subst hp
    go_wp2
    exact ⟨rfl, HV4.out.2.1, HV4.out.2.2, rfl⟩
  | some x =>
    obtain ⟨u, r⟩ := x
    rw [hN] at hp hR
    simp only at hp hR
    obtain ⟨rfl, A4, c4, hI4⟩ := hp
    have HI4 := Aside0.mk hI4
    subst hR
    clear hI4 hN
    go_wp2_with fail
    refine (signed_calls u W4).mono ?_
    rintro e W5 ⟨rfl, rfl⟩
    obtain ⟨hc0, hc1, hc2, hc3⟩ := HV4.out.cells
    have hfz := fun j => blk_frozen HV4.out.1 j
    go_wp2
    have HV9 := Aside0.mk ((((((HV4.out).set1 HW0.out (.int .i64 (Go.bits .xor .i64 (wrap64 (u / 2)) (wrap64 (-(wrap64 (Go.bits .and .u64 u 1))))))).set0 HW0.out (.int .i64 1)).set1 HW0.out (.int .i64 (Go.bits .xor .i64 (wrap64 (u / 2)) (wrap64 (-(wrap64 (Go.bits .and .u64 u 1))))))).set2 HW0.out (.string ⟨#[]⟩)).set3 HW0.out (.slice none 0 0))
    have HI9 := Aside0.mk ((((((HI4.out).own (h := w.heap.size) (j := 1) (by omega) (.int .i64 (Go.bits .xor .i64 (wrap64 (u / 2)) (wrap64 (-(wrap64 (Go.bits .and .u64 u 1))))))).own (h := w.heap.size) (j := 0) (by omega) (.int .i64 1)).own (h := w.heap.size) (j := 1) (by omega) (.int .i64 (Go.bits .xor .i64 (wrap64 (u / 2)) (wrap64 (-(wrap64 (Go.bits .and .u64 u 1))))))).own (h := w.heap.size) (j := 2) (by omega) (.string ⟨#[]⟩)).own (h := w.heap.size) (j := 3) (by omega) (.slice none 0 0))
    obtain ⟨c90, c91, c92, c93⟩ := HV9.out.cells
    clear hc0 hc1 hc2 hc3 hfz HV4 HI4
    generalize (((((W5).setCell ⟨w.heap.size, 1, none⟩ (.int .i64 (Go.bits .xor .i64 (wrap64 (u / 2)) (wrap64 (-(wrap64 (Go.bits .and .u64 u 1))))))).setCell ⟨w.heap.size, 0, none⟩ (.int .i64 1)).setCell ⟨w.heap.size, 1, none⟩ (.int .i64 (Go.bits .xor .i64 (wrap64 (u / 2)) (wrap64 (-(wrap64 (Go.bits .and .u64 u 1))))))).setCell ⟨w.heap.size, 2, none⟩ (.string ⟨#[]⟩)).setCell ⟨w.heap.size, 3, none⟩ (.slice none 0 0) = W9 at *
    refine bodyPost_ret (v := .agg #[.int .i64 1, (.int .i64 (Go.bits .xor .i64 (wrap64 (u / 2)) (wrap64 (-(wrap64 (Go.bits .and .u64 u 1)))))), (.string ⟨#[]⟩), (.slice none 0 0)]) (by simp [results, Try.results28, go_sem, c90, c91, c92, c93]) rfl ⟨HV9.out.2.1, HV9.out.2.2, _, rfl, Kd.R_nil _ _ _ _ _, _, _, HI9.out⟩
set_option maxHeartbeats 4000000 in
set_option maxRecDepth 100000 in
theorem value_text (m : Nat) (d : Int) (g : Nat) (A : Option Addr) (c : Nat) (b : Int) (l : List Int) (w0 w : World) (hd : d = 16 - (m : Int)) (hm : m ≤ 16) (hI : IsRd w0 w g A c (b :: l)) (hB : Below w0.heap.size w0 w) (hl : (b :: l).length < 2000000000) (k1 : ¬ wrap64 b = 1) (k2 : wrap64 b = 2) :
    Calls Try.prog 28 #[.pointer (some ⟨g, 0, none⟩), .int .i64 d] w (ValPost w0 w g (valP (m) (b :: l))) := by
  have hgl : g < w.heap.size := blk_lt hI.1
  have hu24 := Try.underlying24
  obtain ⟨R, hR⟩ : ∃ R, valP m (b :: l) = R := ⟨_, rfl⟩
  rw [hR]
  have HD := Aside0.mk hd
  clear hd
  go_enter Try.func28, Try.ntmps28
  go_wp2_with fail
  have hBv := blk_new w (.cells #[.int .i64 0, .int .i64 0, .string ⟨#[]⟩, .slice none 0 0] 24)
  have hI1 := hI.of (Below.heap_alloc w (.cells #[.int .i64 0, .int .i64 0, .string ⟨#[]⟩, .slice none 0 0] 24) g hgl)
  have hB1 := below_alloc hB (.cells #[.int .i64 0, .int .i64 0, .string ⟨#[]⟩, .slice none 0 0] 24)
  have hK1 := keep_alloc (KeepBut.refl w g none) (.cells #[.int .i64 0, .int .i64 0, .string ⟨#[]⟩, .slice none 0 0] 24)
  generalize hW1 : w.alloc (.cells #[.int .i64 0, .int .i64 0, .string ⟨#[]⟩, .slice none 0 0] 24) = W1 at *
  have HWS := Aside0.mk hB.size
  clear hW1 hB hI
  refine (take_one g A c b l w0 W1 hI1 hB1).mono ?_
  rintro e W2 ⟨ad, rfl, hcell, hI2, hk2, hB2⟩
  have hV : Vst w0 w W2 g (.int .i64 0) (.int .i64 0) (.string ⟨#[]⟩) (.slice none 0 0) := Vst.next ⟨hBv, hK1, hB1⟩ hgl hk2 hB2
  obtain ⟨hc0, hc1, hc2, hc3⟩ := hV.cells
  have hfz := fun j => blk_frozen hV.1 j
  have HV := Aside0.mk hV
  have HI2 := Aside0.mk hI2
  have hgn : ¬ w.heap.size = g := by omega
  have HW0 := Aside0.mk (show w0.heap.size ≤ w.heap.size from HWS.out)
  clear hK1 hB1 hI1 hBv hk2 hB2 hI2 hV HWS
  unfold valP at hR
  have hl2 : l.length < 2000000000 := by simp at hl; omega
  rw [if_neg k1, if_pos k2] at hR
  go_wp2_with fail
  have HV3 := Aside0.mk (HV.out.set0 HW0.out (.int .i64 2))
  obtain ⟨A2, c2, hI2⟩ := HI2.out
  have hI3 := hI2.own (h := w.heap.size) (j := 0) (by omega) (.int .i64 2)
  clear HV HI2 hI2 hc0 hc1 hc2 hc3 hfz hcell
  generalize W2.setCell ⟨w.heap.size, 0, none⟩ (.int .i64 2) = W3 at *
  refine (length_calls g A2 c2 l w0 W3 hI3 HV3.out.2.2).mono ?_
  rintro e W4 ⟨hk4, hB4, hp⟩
  have HV4 := Aside0.mk (HV3.out.next hgl hk4 hB4)
  clear HV3 hk4 hB4 hI3
  cases hN : lenP l with
  | none =>
    rw [hN] at hp hR
    simp only at hp hR
    subst hR
    subst hp
    go_wp2
    exact ⟨rfl, HV4.out.2.1, HV4.out.2.2, rfl⟩
  | some x =>
    obtain ⟨n, r⟩ := x
    rw [hN] at hp hR
    simp only at hp hR
    obtain ⟨rfl, A4, c4, hI4⟩ := hp
    obtain ⟨n0, nr, _⟩ := lenP_facts hl2 hN
    rw [if_pos nr] at hR
    subst hR
    have htk := took_C hI4 n.toNat (by omega)
    have htl : (r.take n.toNat).length = n.toNat := by rw [List.length_take]; omega
    rw [htl] at htk
    clear hN htl
    go_wp2_with fail
    refine (take_calls g A4 c4 r n w0 W4 hI4 HV4.out.2.2 n0 nr).mono ?_
    rintro e W5 ⟨rfl, ⟨A5, c5, hI5⟩, hk5, hB5⟩
    have HV5 := Aside0.mk (HV4.out.next hgl hk5 hB5)
    have HI5 := Aside0.mk hI5
    have hstr := Kd.C_string (P := Try.prog) (c := n.toNat) Try.underlying27 Try.underlying5 Try.underlying9 (Kd.C_below htk hB5)
    obtain ⟨hc0, hc1, hc2, hc3⟩ := HV5.out.cells
    have hfz := fun j => blk_frozen HV5.out.1 j
    clear hk5 hB5 hI5 htk hI4 HV4
    go_wp2
    have HV9 := Aside0.mk ((((((HV5.out).set2 HW0.out (.string (strOfNums (r.take n.toNat)))).set0 HW0.out (.int .i64 2)).set1 HW0.out (.int .i64 0)).set2 HW0.out (.string (strOfNums (r.take n.toNat)))).set3 HW0.out (.slice none 0 0))
    have HI9 := Aside0.mk ((((((HI5.out).own (h := w.heap.size) (j := 2) (by omega) (.string (strOfNums (r.take n.toNat)))).own (h := w.heap.size) (j := 0) (by omega) (.int .i64 2)).own (h := w.heap.size) (j := 1) (by omega) (.int .i64 0)).own (h := w.heap.size) (j := 2) (by omega) (.string (strOfNums (r.take n.toNat)))).own (h := w.heap.size) (j := 3) (by omega) (.slice none 0 0))
    obtain ⟨c90, c91, c92, c93⟩ := HV9.out.cells
    clear hc0 hc1 hc2 hc3 hfz HV5 HI5
    generalize (((((W5).setCell ⟨w.heap.size, 2, none⟩ (.string (strOfNums (r.take n.toNat)))).setCell ⟨w.heap.size, 0, none⟩ (.int .i64 2)).setCell ⟨w.heap.size, 1, none⟩ (.int .i64 0)).setCell ⟨w.heap.size, 2, none⟩ (.string (strOfNums (r.take n.toNat)))).setCell ⟨w.heap.size, 3, none⟩ (.slice none 0 0) = W9 at *
    refine bodyPost_ret (v := .agg #[.int .i64 2, .int .i64 0, (.string (strOfNums (r.take n.toNat))), (.slice none 0 0)]) (by simp [results, Try.results28, go_sem, c90, c91, c92, c93]) rfl ⟨HV9.out.2.1, HV9.out.2.2, _, rfl, Kd.R_nil _ _ _ _ _, _, _, HI9.out⟩
set_option maxHeartbeats 4000000 in
set_option maxRecDepth 100000 in
theorem value_bad (m : Nat) (d : Int) (g : Nat) (A : Option Addr) (c : Nat) (b : Int) (l : List Int) (w0 w : World) (hd : d = 16 - (m : Int)) (hm : m ≤ 16) (hI : IsRd w0 w g A c (b :: l)) (hB : Below w0.heap.size w0 w) (hl : (b :: l).length < 2000000000) (k1 : ¬ wrap64 b = 1) (k2 : ¬ wrap64 b = 2) (k3 : ¬ wrap64 b = 3) :
    Calls Try.prog 28 #[.pointer (some ⟨g, 0, none⟩), .int .i64 d] w (ValPost w0 w g (valP (m) (b :: l))) := by
  have hgl : g < w.heap.size := blk_lt hI.1
  have hu24 := Try.underlying24
  obtain ⟨R, hR⟩ : ∃ R, valP m (b :: l) = R := ⟨_, rfl⟩
  rw [hR]
  have HD := Aside0.mk hd
  clear hd
  go_enter Try.func28, Try.ntmps28
  go_wp2_with fail
  have hBv := blk_new w (.cells #[.int .i64 0, .int .i64 0, .string ⟨#[]⟩, .slice none 0 0] 24)
  have hI1 := hI.of (Below.heap_alloc w (.cells #[.int .i64 0, .int .i64 0, .string ⟨#[]⟩, .slice none 0 0] 24) g hgl)
  have hB1 := below_alloc hB (.cells #[.int .i64 0, .int .i64 0, .string ⟨#[]⟩, .slice none 0 0] 24)
  have hK1 := keep_alloc (KeepBut.refl w g none) (.cells #[.int .i64 0, .int .i64 0, .string ⟨#[]⟩, .slice none 0 0] 24)
  generalize hW1 : w.alloc (.cells #[.int .i64 0, .int .i64 0, .string ⟨#[]⟩, .slice none 0 0] 24) = W1 at *
  have HWS := Aside0.mk hB.size
  clear hW1 hB hI
  refine (take_one g A c b l w0 W1 hI1 hB1).mono ?_
  rintro e W2 ⟨ad, rfl, hcell, hI2, hk2, hB2⟩
  have hV : Vst w0 w W2 g (.int .i64 0) (.int .i64 0) (.string ⟨#[]⟩) (.slice none 0 0) := Vst.next ⟨hBv, hK1, hB1⟩ hgl hk2 hB2
  obtain ⟨hc0, hc1, hc2, hc3⟩ := hV.cells
  have hfz := fun j => blk_frozen hV.1 j
  have HV := Aside0.mk hV
  have HI2 := Aside0.mk hI2
  have hgn : ¬ w.heap.size = g := by omega
  have HW0 := Aside0.mk (show w0.heap.size ≤ w.heap.size from HWS.out)
  clear hK1 hB1 hI1 hBv hk2 hB2 hI2 hV HWS
  unfold valP at hR
  have hl2 : l.length < 2000000000 := by simp at hl; omega
  rw [if_neg k1, if_neg k2, if_neg k3] at hR
  subst hR
  have e1 : (wrap64 b == 1) = false := by simpa using k1
  have e2 : (wrap64 b == 2) = false := by simpa using k2
  have e3 : (wrap64 b == 3) = false := by simpa using k3
  go_wp2_with fail
  have HV3 := Aside0.mk (HV.out.set0 HW0.out (.int .i64 (wrap64 b)))
  refine (want_bad _ _).mono ?_
  rintro e W4 ⟨rfl, rfl⟩
  go_wp2
  exact ⟨rfl, HV3.out.2.1, HV3.out.2.2, rfl⟩
set_option maxHeartbeats 4000000 in
set_option maxRecDepth 100000 in
theorem value_deep (m : Nat) (d : Int) (g : Nat) (A : Option Addr) (c : Nat) (b : Int) (l : List Int) (w0 w : World) (hd : d = 16 - ((0 : Nat) : Int)) (hm : 0 ≤ 16) (hI : IsRd w0 w g A c (b :: l)) (hB : Below w0.heap.size w0 w) (hl : (b :: l).length < 2000000000) (k1 : ¬ wrap64 b = 1) (k2 : ¬ wrap64 b = 2) (k3 : wrap64 b = 3) :
    Calls Try.prog 28 #[.pointer (some ⟨g, 0, none⟩), .int .i64 d] w (ValPost w0 w g (valP (0) (b :: l))) := by
  have hgl : g < w.heap.size := blk_lt hI.1
  have hu24 := Try.underlying24
  obtain ⟨R, hR⟩ : ∃ R, valP (0) (b :: l) = R := ⟨_, rfl⟩
  rw [hR]
  have HD := Aside0.mk hd
  clear hd
  go_enter Try.func28, Try.ntmps28
  go_wp2_with fail
  have hBv := blk_new w (.cells #[.int .i64 0, .int .i64 0, .string ⟨#[]⟩, .slice none 0 0] 24)
  have hI1 := hI.of (Below.heap_alloc w (.cells #[.int .i64 0, .int .i64 0, .string ⟨#[]⟩, .slice none 0 0] 24) g hgl)
  have hB1 := below_alloc hB (.cells #[.int .i64 0, .int .i64 0, .string ⟨#[]⟩, .slice none 0 0] 24)
  have hK1 := keep_alloc (KeepBut.refl w g none) (.cells #[.int .i64 0, .int .i64 0, .string ⟨#[]⟩, .slice none 0 0] 24)
  generalize hW1 : w.alloc (.cells #[.int .i64 0, .int .i64 0, .string ⟨#[]⟩, .slice none 0 0] 24) = W1 at *
  have HWS := Aside0.mk hB.size
  clear hW1 hB hI
  refine (take_one g A c b l w0 W1 hI1 hB1).mono ?_
  rintro e W2 ⟨ad, rfl, hcell, hI2, hk2, hB2⟩
  have hV : Vst w0 w W2 g (.int .i64 0) (.int .i64 0) (.string ⟨#[]⟩) (.slice none 0 0) := Vst.next ⟨hBv, hK1, hB1⟩ hgl hk2 hB2
  obtain ⟨hc0, hc1, hc2, hc3⟩ := hV.cells
  have hfz := fun j => blk_frozen hV.1 j
  have HV := Aside0.mk hV
  have HI2 := Aside0.mk hI2
  have hgn : ¬ w.heap.size = g := by omega
  have HW0 := Aside0.mk (show w0.heap.size ≤ w.heap.size from HWS.out)
  clear hK1 hB1 hI1 hBv hk2 hB2 hI2 hV HWS
  unfold valP at hR
  have hl2 : l.length < 2000000000 := by simp at hl; omega
  rw [if_neg k1, if_neg k2, if_pos k3] at hR
  simp only at hR
  subst hR
  have hdl : decide (d < 16) = false := by have := HD.out; simp; omega
  go_wp2_with fail
  have HV3 := Aside0.mk (HV.out.set0 HW0.out (.int .i64 3))
  refine (want_bad _ _).mono ?_
  rintro e W4 ⟨rfl, rfl⟩
  go_wp2
  exact ⟨rfl, HV3.out.2.1, HV3.out.2.2, rfl⟩
end Go.Proofs.Ytncejmjicjlanaa.Q
