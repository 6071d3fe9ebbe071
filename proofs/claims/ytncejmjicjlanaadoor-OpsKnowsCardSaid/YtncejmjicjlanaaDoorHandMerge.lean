/- Contracts of vector.Join and vector.Meet (merge, pairs, the two function values of the package's variables): the vector of the numbers that the rule takes, or the error of the check; nothing that was there changes. Conditions: both slices read as the lists; the package variable holds its function. -/
import Derived.Test.YtncejmjicjlanaaDoorQ3
import Derived.Test.YtncejmjicjlanaaDoorHandPairs
import Derived.Test.YtncejmjicjlanaaDoorGlob
import Derived.RangeFuncBox
import Derived.RangeFuncCalls
namespace Go.Proofs.YtncejmjicjlanaaDoor.Q
open Go.RowKit Go.Proofs.YtncejmjicjlanaaDoorW.PrintWords Go.Proofs.YtncejmjicjlanaaDoorW.PrintLast Go.Proofs.YtncejmjicjlanaaDoorW.PrintMore
attribute [local go_sem] Oper.semAt_some max2_int min2_int max_two min_two max_three min_three max_four min_four
set_option linter.unusedVariables false
set_option linter.unusedSimpArgs false

/-- What a rule keeps of a pair. -/
def keepP (tk : Int → Int → Int) (p : Int × Int × Int) : List S24 := if 0 < tk p.2.1 p.2.2 then [⟨p.1, tk p.2.1 p.2.2⟩] else []
def mrg (tk : Int → Int → Int) (l : List (Int × Int × Int)) : List S24 := l.flatMap (keepP tk)
def cells24 (l : List S24) : List Value := l.flatMap fun x => [.int .i64 x.f0, .int .i64 x.f1]
theorem cells24_len (l : List S24) : (cells24 l).length = l.length * 2 := by
  induction l with
  | nil => rfl
  | cons x l ih => simp [cells24] at ih ⊢; omega
theorem mrg_snoc (tk : Int → Int → Int) (l : List (Int × Int × Int)) (p : Int × Int × Int) : mrg tk (l ++ [p]) = mrg tk l ++ keepP tk p := by simp [mrg]

theorem greater1_calls (x0 x1 x2 : Int) (w : World) : Calls Tryd.prog 132 #[.agg #[.int .i64 x0, .int .i64 x1, .int .i64 x2]] w fun e w' => e = .returned (.int .i64 (mx x1 x2)) ∧ Below w.heap.size w w' := by
  by_cases h : x1 < x2
  · have MX : mx x1 x2 = x2 := if_pos h
    have MX := Aside0.mk MX
    go_enter Tryd.func132, Tryd.ntmps132
    go_wp2
    go_ret
    exact ⟨by first | rfl | (rw [MX.out]; rfl), (Below.refl _ _).alloc (Nat.le_refl _) _⟩
  · have MX : mx x1 x2 = x1 := if_neg h
    have MX := Aside0.mk MX
    go_enter Tryd.func132, Tryd.ntmps132
    go_wp2
    go_ret
    exact ⟨by first | rfl | (rw [MX.out]; rfl), (Below.refl _ _).alloc (Nat.le_refl _) _⟩
theorem lesser1_calls (x0 x1 x2 : Int) (w : World) : Calls Tryd.prog 133 #[.agg #[.int .i64 x0, .int .i64 x1, .int .i64 x2]] w fun e w' => e = .returned (.int .i64 (mn x1 x2)) ∧ Below w.heap.size w w' := by
  by_cases h : x2 < x1
  · have MX : mn x1 x2 = x2 := if_pos h
    have MX := Aside0.mk MX
    go_enter Tryd.func133, Tryd.ntmps133
    go_wp2
    go_ret
    exact ⟨by first | rfl | (rw [MX.out]; rfl), (Below.refl _ _).alloc (Nat.le_refl _) _⟩
  · have MX : mn x1 x2 = x1 := if_neg h
    have MX := Aside0.mk MX
    go_enter Tryd.func133, Tryd.ntmps133
    go_wp2
    go_ret
    exact ⟨by first | rfl | (rw [MX.out]; rfl), (Below.refl _ _).alloc (Nat.le_refl _) _⟩
theorem pairs_calls (A0 : Option Addr) (n0 c0 : Nat) (A1 : Option Addr) (n1 c1 : Nat) (w : World) : Calls Tryd.prog 55 #[.slice A0 n0 c0, .slice A1 n1 c1] w fun e w' => e = .returned (.func (.func 84) #[] #[.pointer (some ⟨w.heap.size, 0, none⟩), .pointer (some ⟨w.heap.size + 1, 0, none⟩)]) ∧ w' = (w.alloc (.cells #[.slice A0 n0 c0] 22)).alloc (.cells #[.slice A1 n1 c1] 22) := by
  go_enter Tryd.func55, Tryd.ntmps55
  go_wp2
  go_ret
  exact ⟨rfl, rfl⟩

theorem cell_two (w : World) (x y : Value) (t : TypeId) : ∀ j u, [x, y][j]? = some u → (w.alloc (.cells #[x, y] t)).cell? ((⟨w.heap.size, 0, none⟩ : Addr).add j) = some u := by
  intro j u hj
  rw [add_plain, blk_cell (blk_new w _)]
  simpa using hj
theorem cells24_snoc (l : List S24) (x : S24) : cells24 (l ++ [x]) = cells24 l ++ [.int .i64 x.f0, .int .i64 x.f1] := by simp [cells24]
theorem filterMap_le (tk : Int → Int → Int) (l : List (Int × Int × Int)) : (mrg tk l).length ≤ l.length := by
  induction l with
  | nil => simp [mrg]
  | cons x l ih =>
    have : (keepP tk x).length ≤ 1 := by unfold keepP; split <;> simp
    simp only [mrg, List.flatMap_cons, List.length_append, List.length_cons] at ih ⊢
    omega
theorem cells24_R {W : World} {base b : Nat} {v : Value} {l : List S24} (h : W.ownsRow base 24 2 v l.length (cells24 l)) (hb : b ≤ base) : Kd.R k24 24 W b (fun _ => True) v l := by
  refine ⟨fun _ _ => trivial, cells24 l, own_less h hb, ?_⟩
  clear h
  have hR : ∀ (l d : List S24), Reps (k24.M W b fun k => True ∧ some k ≠ v.ownBlock) 2 d (cells24 d) → Reps (k24.M W b fun k => True ∧ some k ≠ v.ownBlock) 2 (d ++ l) (cells24 (d ++ l)) := by
    intro l
    induction l with
    | nil => intro d h; simpa using h
    | cons x l ih =>
      intro d h
      have h2 := ih (d ++ [x]) (by rw [cells24_snoc]; exact h.snoc (k24_mkM _ _ _ _) rfl)
      simpa using h2
  exact hR l [] (Reps.none _ _)
theorem appended_keep {W w1 : World} {base B k : Nat} {e : TypeId} {size n : Nat} {v u : Value} {xs : List Value} {tmp : Obj} (hgrow : (W.alloc tmp).grownBy w1 v.ownBlock) (hrow : W.ownsRow base e size v n xs) (hk : k < W.heap.size) (hkb : k < base) (hkB : k ≠ B) :
    (w1.setCell ⟨B, 0, none⟩ u).heap[k]? = W.heap[k]? := by
  rw [Below.heap_setCell _ _ _ _ hkB, hgrow.block k (by simp; omega) (fun e => by have := own_base hrow k e.symm; omega)]
  exact Below.heap_alloc _ _ _ hk

set_option maxHeartbeats 8000000 in
set_option maxRecDepth 100000 in
theorem merge_132 (k : Nat) (A0 : Option Addr) (c0 : Nat) (l0 : List (S24)) (A1 : Option Addr) (c1 : Nat) (l1 : List (S24)) (w : World) (hr0 : Kd.C k24 w A0 l0.length l0) (hc0 : l0.length ≤ c0) (hr1 : Kd.C k24 w A1 l1.length l1) (hc1 : l1.length ≤ c1) (h : vector_check.f k l0 l1 = some 0)
    (hsz : (prs l0 l1).length ≤ 8000000000000) :
    Calls Tryd.prog 51 #[.agg #[.func (.func 132) #[] #[]], .slice A0 l0.length c0, .slice A1 l1.length c1] w fun e w' => ∃ v0_ : Value, e = .returned (.tuple #[v0_, .int .i64 0]) ∧ Kd.R k24 24 w' w.heap.size (fun _ => True) v0_ (mrg mx (prs l0 l1)) ∧ Below w.heap.size w w' := by
  have HR0 := Aside0.mk hr0
  have HR1 := Aside0.mk hr1
  have HC0 := Aside0.mk hc0
  have HC1 := Aside0.mk hc1
  have H := Aside0.mk h
  have HSZ := Aside0.mk hsz
  clear hr0 hr1 hc0 hc1 h hsz
  obtain ⟨i0, hi, hzz0, hzz1, hzz2⟩ := info_parts info24
  have INFO := Aside0.mk (show Tryd.prog.info? 24 = some i0 ∧ i0.zero = some (.agg #[(.int .i64 0), (.int .i64 0)]) ∧ i0.size = 2 ∧ i0.bytes = 16 from ⟨hi, hzz0, hzz1, hzz2⟩)
  clear hi hzz0 hzz1 hzz2
  refine (callsIn_wide (n := 0)).1 (callsIn_of_wp_marks Tryd.func51 rfl trivial ?_)
  simp only [Tryd.ntmps51, List.size_toArray, List.length_cons, List.length_nil, Nat.reduceAdd, Nat.reduceSub, Array.replicate_succ, Array.replicate_zero, List.push_toArray, List.append_toArray, List.nil_append, List.cons_append]
  refine wpIn_wide.2 ?_
  go_wp2_with fail
  have hBr := blk_alloc (blk_new w (.cells #[.func (.func 132) #[] #[]] 70)) (.cells #[.slice none 0 0] 22)
  have hBv := blk_new (w.alloc (.cells #[.func (.func 132) #[] #[]] 70)) (.cells #[.slice none 0 0] 22)
  rw [World.size_alloc] at hBv
  have hb1 := below_alloc (below_alloc (Below.refl w.heap.size w) (.cells #[.func (.func 132) #[] #[]] 70)) (.cells #[.slice none 0 0] 22)
  have hz1 : ((w.alloc (.cells #[.func (.func 132) #[] #[]] 70)).alloc (.cells #[.slice none 0 0] 22)).heap.size = w.heap.size + 2 := by simp
  generalize hW1 : (w.alloc (.cells #[.func (.func 132) #[] #[]] 70)).alloc (.cells #[.slice none 0 0] 22) = W1 at *
  refine (vector_check.calls k _ _ l0 _ _ l1 0 W1 (Kd.C_below HR0.out hb1) HC0.out (Kd.C_below HR1.out hb1) HC1.out H.out).mono ?_
  rintro e W2 ⟨rfl, hb⟩
  replace hBr := blk_below hBr hb
  replace hBv := blk_below hBv hb
  have hb2 := below_step hb1 hb
  have hz2 := hb.size
  have HW1 := Aside0.mk hW1
  clear hb hb1 hW1
  go_wp2_with fail
  refine (pairs_calls _ _ _ _ _ _ W2).mono ?_
  rintro e W3 ⟨rfl, rfl⟩
  go_wp2_with fail
  have hBa := blk_alloc (blk_new W2 (.cells #[.slice A0 l0.length c0] 22)) (.cells #[.slice A1 l1.length c1] 22)
  have hBb := blk_new (W2.alloc (.cells #[.slice A0 l0.length c0] 22)) (.cells #[.slice A1 l1.length c1] 22)
  rw [World.size_alloc] at hBb
  replace hBr := blk_alloc (blk_alloc hBr (.cells #[.slice A0 l0.length c0] 22)) (.cells #[.slice A1 l1.length c1] 22)
  replace hBv := blk_alloc (blk_alloc hBv (.cells #[.slice A0 l0.length c0] 22)) (.cells #[.slice A1 l1.length c1] 22)
  have hb3 := below_alloc (below_alloc hb2 (.cells #[.slice A0 l0.length c0] 22)) (.cells #[.slice A1 l1.length c1] 22)
  have hz3 : ((W2.alloc (.cells #[.slice A0 l0.length c0] 22)).alloc (.cells #[.slice A1 l1.length c1] 22)).heap.size = W2.heap.size + 2 := by simp
  generalize hW3 : (W2.alloc (.cells #[.slice A0 l0.length c0] 22)).alloc (.cells #[.slice A1 l1.length c1] 22) = W3 at *
  generalize hBae : W2.heap.size = Ba at *
  have HZ3 := Aside0.mk hz3
  have hseq := pairs1_all A0 c0 l0 A1 c1 l1 w Ba (Ba + 1) W3 (by omega) (by omega) (by omega) hb3 hBa hBb HR0.out HC0.out HR1.out HC1.out
  have HSEQ := Aside0.mk hseq
  have HBR := Aside0.mk hBr
  have HBV := Aside0.mk hBv
  have HB3 := Aside0.mk hb3
  have HW3 := Aside0.mk hW3
  clear hseq hBr hBv hb3 hW3 hBa hBb hb2 hBae hz3
  refine (wpIn_wide (n := 0)).1 ?_
  refine wp_rangeFunc_all (gf := 84) (lb := #[.pointer (some ⟨Ba, 0, none⟩), .pointer (some ⟨Ba + 1, 0, none⟩)]) rfl (fun args w => enters_ Tryd.func84 (by kernel_rfl) rfl args w) HSEQ.out (fun _ => rfl) (by have := HZ3.out; omega) (by have := HZ3.out; omega) (by have := HZ3.out; omega)
    (fun pre W => ∃ v, Boxed W (w.heap.size + 1) 22 v ∧ W.ownsRow (W3.heap.size + 2) 24 2 v (mrg mx pre).length (cells24 (mrg mx pre)) ∧ W.heap[w.heap.size]? = some (.cells #[.func (.func 132) #[] #[]] 70 (0, 0)) ∧ Below w.heap.size w W)
    ?hI ?hIp ?h0 ?hround ?hdone
  case hI =>
    have hz3 := HZ3.out
    rintro pre A B ⟨v, h1, h2, h3, h4⟩ hs
    exact ⟨v, (hs.block _ h1.lt (by omega) (by omega)).trans h1, own_move h2 (fun k hk => hs.block k (own_lt h2 k hk) (by have := own_base h2 k hk; omega) (by have := own_base h2 k hk; omega)), (hs.block _ (blk_lt h3) (by omega) (by omega)).trans h3, h4.trans (iter_below hs (by omega) (by omega) h4.size)⟩
  case hIp =>
    have hz3 := HZ3.out
    rintro pre A r o ⟨v, h1, h2, h3, h4⟩ hr1 hr2 hr3
    exact ⟨v, (World.putObj_heap_other (by have := HZ3.out; omega)).trans h1, own_move h2 (fun k hk => World.putObj_heap_other (by have := own_base h2 k hk; omega)), (World.putObj_heap_other (by have := HZ3.out; omega)).trans h3, h4.trans ⟨rfl, rfl, rfl, by simp, fun k hk => World.putObj_heap_other (by have := HZ3.out; omega)⟩⟩
  case h0 =>
    intro o1 o2
    exact ⟨.slice none 0 0, blk_alloc (blk_alloc HBV.out _) _, by simpa [mrg, cells24] using own_nil _ _ _ _, blk_alloc (blk_alloc HBR.out _) _, below_alloc (below_alloc HB3.out _) _⟩
  case hround =>
    rintro l pre x post A hx ⟨v, h1, h2, h3, h4⟩ rfl hA
    have hlen : (mrg mx pre).length < 8000000000000 := by
      have h5 := filterMap_le mx pre
      have h6 := HSZ.out
      rw [hx] at h6
      simp at h6
      omega
    simp only [encPr]
    have HX := Aside0.mk hx
    have H1 := Aside0.mk h1
    have H2 := Aside0.mk h2
    have H3 := Aside0.mk h3
    have H4 := Aside0.mk h4
    clear hx h1 h2 h3 h4
    gi_wp2
    have hz := (Below.refl A.heap.size A).alloc (Nat.le_refl _) (.cells #[.int .i64 x.1, .int .i64 x.2.1, .int .i64 x.2.2] 78)
    refine ⟨⟨hz.mono H4.out.size, hz.block _ (by have := HZ3.out; omega), hz.block _ (by have := HZ3.out; omega)⟩, hz.block _ (by omega), hz.block _ (by omega), ?_⟩
    rintro w2 ⟨o, rfl⟩
    have g1 : Boxed ((A.alloc (.cells #[.int .i64 x.1, .int .i64 x.2.1, .int .i64 x.2.2] 78)).putObj (W3.heap.size + 1) o) (w.heap.size + 1) 22 v := (World.putObj_heap_other (by have := HZ3.out; omega)).trans (H1.out.alloc _)
    have g2 : ((A.alloc (.cells #[.int .i64 x.1, .int .i64 x.2.1, .int .i64 x.2.2] 78)).putObj (W3.heap.size + 1) o).ownsRow (W3.heap.size + 2) 24 2 v (mrg mx pre).length (cells24 (mrg mx pre)) :=
      own_move (own_alloc H2.out _) (fun k hk => World.putObj_heap_other (by have := own_base H2.out k hk; omega))
    have g3 := (World.putObj_heap_other (w := A.alloc (.cells #[.int .i64 x.1, .int .i64 x.2.1, .int .i64 x.2.2] 78)) (o := o) (r := W3.heap.size + 1) (k := w.heap.size) (by have := HZ3.out; omega)).trans (blk_alloc H3.out _)
    have g4 : Below w.heap.size w ((A.alloc (.cells #[.int .i64 x.1, .int .i64 x.2.1, .int .i64 x.2.2] 78)).putObj (W3.heap.size + 1) o) := (below_alloc H4.out _).trans ⟨rfl, rfl, rfl, by simp, fun k hk => World.putObj_heap_other (by have := HZ3.out; omega)⟩
    have g5 := (World.putObj_heap_other (w := A.alloc (.cells #[.int .i64 x.1, .int .i64 x.2.1, .int .i64 x.2.2] 78)) (o := o) (r := W3.heap.size + 1) (k := A.heap.size) (by omega)).trans (blk_new A _)
    have g6 : ((A.alloc (.cells #[.int .i64 x.1, .int .i64 x.2.1, .int .i64 x.2.2] 78)).putObj (W3.heap.size + 1) o).heap.size = A.heap.size + 1 := by simp
    generalize (A.alloc (.cells #[.int .i64 x.1, .int .i64 x.2.1, .int .i64 x.2.2] 78)).putObj (W3.heap.size + 1) o = W4 at *
    have c3 := blk_cell g3 0
    have c50 := blk_cell g5 0
    have c51 := blk_cell g5 1
    have c52 := blk_cell g5 2
    have c1 := g1.cell
    have f1 := g1.frozen
    simp at c3 c50 c51 c52
    have G1 := Aside0.mk g1
    have G2 := Aside0.mk g2
    have G3 := Aside0.mk g3
    have G4 := Aside0.mk g4
    have G5 := Aside0.mk g5
    have G6 := Aside0.mk g6
    clear g1 g2 g3 g4 g5 g6 hz
    by_cases hp : 0 < mx x.2.1 x.2.2
    · gi_wp2_with fail
      refine ⟨trivial, rfl, ?_⟩
      refine (CallsIn.inRound _ (callsIn_wide.2 (greater1_calls _ _ _ W4))).mono ?_
      rintro e W5 ⟨rfl, hb⟩
      have g1 : Boxed W5 (w.heap.size + 1) 22 v := blk_below G1.out hb
      have g2 := pw_own_below G2.out hb
      have c5 := (hb.cell (p := ⟨A.heap.size, 0, none⟩) (by have := G6.out; show A.heap.size < _; omega)).trans c50
      have c1 := g1.cell
      have f1 := g1.frozen
      have g5 := hb.size
      have X1 := Aside0.mk g1
      have X2 := Aside0.mk g2
      have HB5 := Aside0.mk hb
      clear g1 g2 hb c50 c51 c52 c3
      gi_wp2_with (gi_at_builtin; refine wpListIn_append_own _ rfl _ _ 22 rfl (W3.heap.size + 2) 24 i0 _ 2 16 Tryd.underlying22 INFO.out.1 INFO.out.2.1 INFO.out.2.2.1 INFO.out.2.2.2 rfl (by decide) _ _ _ rfl (own_alloc X2.out _) ⟨W5.heap.size, 0, none⟩ 1 1 [.int .i64 x.1, .int .i64 (mx x.2.1 x.2.2)] rfl rfl (cell_two _ _ _ _) (by simp [Value.oneCell']) (by unfold maxLen; omega) (by omega) (by simp; have := G6.out; omega) ?_; intro v' w1 hown' hgrow _; obtain ⟨g', cap', rfl⟩ := ownsRow_succ hown'; obtain ⟨hv1, hv2, _, hk2, hb2⟩ := X1.out.appended (n₀ := w.heap.size) (by decide) (own_less X2.out (by have := HZ3.out; omega)) (by have := G4.out.size; omega) (by omega) (own_less hown' (by have := HZ3.out; omega)) hgrow; have hr2 := hown'.kept (grownBy_setCell' w1 (w.heap.size + 1) (.slice (some ⟨g', 0, none⟩) ((mrg mx pre).length + 1) cap')) (.inr (hv1.not_row (by decide) hown').symm); have hc1 := hv1.cell; have hf1 := hv1.frozen; have HGR := Aside0.mk hgrow; have HV2 := Aside0.mk hv2; have HR2 := Aside0.mk hr2; have HB2 := Aside0.mk hb2; clear hgrow hv2 hr2 hb2 hk2 hown')
      have K4 : ∀ k, k < W4.heap.size → k < W3.heap.size + 2 → k ≠ w.heap.size + 1 → (w1.setCell ⟨w.heap.size + 1, 0, none⟩ (.slice (some ⟨g', 0, none⟩) ((mrg mx pre).length + 1) cap')).heap[k]? = W4.heap[k]? := fun k h1 h2 h3 => (appended_keep HGR.out X2.out (by omega) h2 h3).trans (HB5.out.block k h1)
      have z3 := HZ3.out
      have z6 := G6.out
      refine ⟨K4 _ (by omega) (by omega) (by omega), K4 _ (by omega) (by omega) (by omega), ⟨(HB5.out.mono G4.out.size).trans HB2.out, K4 _ (by omega) (by omega) (by omega), K4 _ (by omega) (by omega) (by omega)⟩, _, HV2.out, ?_, (K4 _ (by omega) (by omega) (by omega)).trans G3.out, (G4.out.trans (HB5.out.mono G4.out.size)).trans HB2.out⟩
      rw [mrg_snoc, keepP, if_pos hp, cells24_snoc]
      simpa using HR2.out
    · gi_wp2_with fail
      refine ⟨trivial, rfl, ?_⟩
      refine (CallsIn.inRound _ (callsIn_wide.2 (greater1_calls _ _ _ W4))).mono ?_
      rintro e W5 ⟨rfl, hb⟩
      have HB5 := Aside0.mk hb
      clear hb c50 c51 c52 c3 c1 f1
      gi_wp2
      have hb := HB5.out
      have z3 := HZ3.out
      have z6 := G6.out
      refine ⟨hb.block _ (by omega), hb.block _ (by omega), ⟨hb.mono G4.out.size, hb.block _ (by omega), hb.block _ (by omega)⟩, v, blk_below G1.out hb, ?_, blk_below G3.out hb, G4.out.trans (hb.mono G4.out.size)⟩
      rw [mrg_snoc, keepP, if_neg (by omega), List.append_nil]
      exact pw_own_below G2.out hb
  case hdone =>
    rintro W ⟨v, h1, h2, h3, h4⟩ hk
    obtain ⟨Av, cv, rfl⟩ := own_slice h2
    have hc := h1.cell
    have hf := h1.frozen
    have H1 := Aside0.mk h1
    have H2 := Aside0.mk h2
    have H4 := Aside0.mk h4
    have HK := Aside0.mk hk
    clear h1 h2 h3 h4 hk
    gi_wp2
    go_wp2
    have z3 := HZ3.out
    have hk2 := (Below.heap_setCell W ⟨w.heap.size + 1, 0, none⟩ (.slice Av (mrg mx (prs l0 l1)).length cv) W3.heap.size (by show W3.heap.size ≠ w.heap.size + 1; omega)).trans HK.out
    refine ⟨by simp, .inl ⟨_, _, rfl, run_takeDeferred hk2, ?_⟩⟩
    have hb6 : Below w.heap.size w ((W.setCell ⟨w.heap.size + 1, 0, none⟩ (.slice Av (mrg mx (prs l0 l1)).length cv)).putObj W3.heap.size (.deferred none)) :=
      (H4.out.setCell (p := ⟨w.heap.size + 1, 0, none⟩) (by show _ ≤ w.heap.size + 1; omega) _).trans ⟨rfl, rfl, rfl, by simp, fun k hk => World.putObj_heap_other (by omega)⟩
    have h1 : Boxed ((W.setCell ⟨w.heap.size + 1, 0, none⟩ (.slice Av (mrg mx (prs l0 l1)).length cv)).putObj W3.heap.size (.deferred none)) (w.heap.size + 1) 22 _ := (World.putObj_heap_other (by omega)).trans (H1.out.set (.slice Av (mrg mx (prs l0 l1)).length cv))
    have h2 : ((W.setCell ⟨w.heap.size + 1, 0, none⟩ (.slice Av (mrg mx (prs l0 l1)).length cv)).putObj W3.heap.size (.deferred none)).ownsRow (W3.heap.size + 2) 24 2 (.slice Av (mrg mx (prs l0 l1)).length cv) (mrg mx (prs l0 l1)).length (cells24 (mrg mx (prs l0 l1))) :=
      own_move H2.out (fun k hk => (World.putObj_heap_other (by have := own_base H2.out k hk; omega)).trans (Below.heap_setCell _ _ _ _ (by have := own_base H2.out k hk; show k ≠ w.heap.size + 1; omega)))
    generalize (W.setCell ⟨w.heap.size + 1, 0, none⟩ (.slice Av (mrg mx (prs l0 l1)).length cv)).putObj W3.heap.size (.deferred none) = W9 at *
    have hc9 := h1.cell
    refine ⟨.tuple #[.slice Av (mrg mx (prs l0 l1)).length cv, .int .i64 0], by simp [results, Tryd.results51, go_sem, hc9], ?_⟩
    exact ⟨_, rfl, cells24_R h2 (by omega), hb6⟩
set_option maxHeartbeats 8000000 in
set_option maxRecDepth 100000 in
theorem merge_133 (k : Nat) (A0 : Option Addr) (c0 : Nat) (l0 : List (S24)) (A1 : Option Addr) (c1 : Nat) (l1 : List (S24)) (w : World) (hr0 : Kd.C k24 w A0 l0.length l0) (hc0 : l0.length ≤ c0) (hr1 : Kd.C k24 w A1 l1.length l1) (hc1 : l1.length ≤ c1) (h : vector_check.f k l0 l1 = some 0)
    (hsz : (prs l0 l1).length ≤ 8000000000000) :
    Calls Tryd.prog 51 #[.agg #[.func (.func 133) #[] #[]], .slice A0 l0.length c0, .slice A1 l1.length c1] w fun e w' => ∃ v0_ : Value, e = .returned (.tuple #[v0_, .int .i64 0]) ∧ Kd.R k24 24 w' w.heap.size (fun _ => True) v0_ (mrg mn (prs l0 l1)) ∧ Below w.heap.size w w' := by
  have HR0 := Aside0.mk hr0
  have HR1 := Aside0.mk hr1
  have HC0 := Aside0.mk hc0
  have HC1 := Aside0.mk hc1
  have H := Aside0.mk h
  have HSZ := Aside0.mk hsz
  clear hr0 hr1 hc0 hc1 h hsz
  obtain ⟨i0, hi, hzz0, hzz1, hzz2⟩ := info_parts info24
  have INFO := Aside0.mk (show Tryd.prog.info? 24 = some i0 ∧ i0.zero = some (.agg #[(.int .i64 0), (.int .i64 0)]) ∧ i0.size = 2 ∧ i0.bytes = 16 from ⟨hi, hzz0, hzz1, hzz2⟩)
  clear hi hzz0 hzz1 hzz2
  refine (callsIn_wide (n := 0)).1 (callsIn_of_wp_marks Tryd.func51 rfl trivial ?_)
  simp only [Tryd.ntmps51, List.size_toArray, List.length_cons, List.length_nil, Nat.reduceAdd, Nat.reduceSub, Array.replicate_succ, Array.replicate_zero, List.push_toArray, List.append_toArray, List.nil_append, List.cons_append]
  refine wpIn_wide.2 ?_
  go_wp2_with fail
  have hBr := blk_alloc (blk_new w (.cells #[.func (.func 133) #[] #[]] 70)) (.cells #[.slice none 0 0] 22)
  have hBv := blk_new (w.alloc (.cells #[.func (.func 133) #[] #[]] 70)) (.cells #[.slice none 0 0] 22)
  rw [World.size_alloc] at hBv
  have hb1 := below_alloc (below_alloc (Below.refl w.heap.size w) (.cells #[.func (.func 133) #[] #[]] 70)) (.cells #[.slice none 0 0] 22)
  have hz1 : ((w.alloc (.cells #[.func (.func 133) #[] #[]] 70)).alloc (.cells #[.slice none 0 0] 22)).heap.size = w.heap.size + 2 := by simp
  generalize hW1 : (w.alloc (.cells #[.func (.func 133) #[] #[]] 70)).alloc (.cells #[.slice none 0 0] 22) = W1 at *
  refine (vector_check.calls k _ _ l0 _ _ l1 0 W1 (Kd.C_below HR0.out hb1) HC0.out (Kd.C_below HR1.out hb1) HC1.out H.out).mono ?_
  rintro e W2 ⟨rfl, hb⟩
  replace hBr := blk_below hBr hb
  replace hBv := blk_below hBv hb
  have hb2 := below_step hb1 hb
  have hz2 := hb.size
  have HW1 := Aside0.mk hW1
  clear hb hb1 hW1
  go_wp2_with fail
  refine (pairs_calls _ _ _ _ _ _ W2).mono ?_
  rintro e W3 ⟨rfl, rfl⟩
  go_wp2_with fail
  have hBa := blk_alloc (blk_new W2 (.cells #[.slice A0 l0.length c0] 22)) (.cells #[.slice A1 l1.length c1] 22)
  have hBb := blk_new (W2.alloc (.cells #[.slice A0 l0.length c0] 22)) (.cells #[.slice A1 l1.length c1] 22)
  rw [World.size_alloc] at hBb
  replace hBr := blk_alloc (blk_alloc hBr (.cells #[.slice A0 l0.length c0] 22)) (.cells #[.slice A1 l1.length c1] 22)
  replace hBv := blk_alloc (blk_alloc hBv (.cells #[.slice A0 l0.length c0] 22)) (.cells #[.slice A1 l1.length c1] 22)
  have hb3 := below_alloc (below_alloc hb2 (.cells #[.slice A0 l0.length c0] 22)) (.cells #[.slice A1 l1.length c1] 22)
  have hz3 : ((W2.alloc (.cells #[.slice A0 l0.length c0] 22)).alloc (.cells #[.slice A1 l1.length c1] 22)).heap.size = W2.heap.size + 2 := by simp
  generalize hW3 : (W2.alloc (.cells #[.slice A0 l0.length c0] 22)).alloc (.cells #[.slice A1 l1.length c1] 22) = W3 at *
  generalize hBae : W2.heap.size = Ba at *
  have HZ3 := Aside0.mk hz3
  have hseq := pairs1_all A0 c0 l0 A1 c1 l1 w Ba (Ba + 1) W3 (by omega) (by omega) (by omega) hb3 hBa hBb HR0.out HC0.out HR1.out HC1.out
  have HSEQ := Aside0.mk hseq
  have HBR := Aside0.mk hBr
  have HBV := Aside0.mk hBv
  have HB3 := Aside0.mk hb3
  have HW3 := Aside0.mk hW3
  clear hseq hBr hBv hb3 hW3 hBa hBb hb2 hBae hz3
  refine (wpIn_wide (n := 0)).1 ?_
  refine wp_rangeFunc_all (gf := 84) (lb := #[.pointer (some ⟨Ba, 0, none⟩), .pointer (some ⟨Ba + 1, 0, none⟩)]) rfl (fun args w => enters_ Tryd.func84 (by kernel_rfl) rfl args w) HSEQ.out (fun _ => rfl) (by have := HZ3.out; omega) (by have := HZ3.out; omega) (by have := HZ3.out; omega)
    (fun pre W => ∃ v, Boxed W (w.heap.size + 1) 22 v ∧ W.ownsRow (W3.heap.size + 2) 24 2 v (mrg mn pre).length (cells24 (mrg mn pre)) ∧ W.heap[w.heap.size]? = some (.cells #[.func (.func 133) #[] #[]] 70 (0, 0)) ∧ Below w.heap.size w W)
    ?hI ?hIp ?h0 ?hround ?hdone
  case hI =>
    have hz3 := HZ3.out
    rintro pre A B ⟨v, h1, h2, h3, h4⟩ hs
    exact ⟨v, (hs.block _ h1.lt (by omega) (by omega)).trans h1, own_move h2 (fun k hk => hs.block k (own_lt h2 k hk) (by have := own_base h2 k hk; omega) (by have := own_base h2 k hk; omega)), (hs.block _ (blk_lt h3) (by omega) (by omega)).trans h3, h4.trans (iter_below hs (by omega) (by omega) h4.size)⟩
  case hIp =>
    have hz3 := HZ3.out
    rintro pre A r o ⟨v, h1, h2, h3, h4⟩ hr1 hr2 hr3
    exact ⟨v, (World.putObj_heap_other (by have := HZ3.out; omega)).trans h1, own_move h2 (fun k hk => World.putObj_heap_other (by have := own_base h2 k hk; omega)), (World.putObj_heap_other (by have := HZ3.out; omega)).trans h3, h4.trans ⟨rfl, rfl, rfl, by simp, fun k hk => World.putObj_heap_other (by have := HZ3.out; omega)⟩⟩
  case h0 =>
    intro o1 o2
    exact ⟨.slice none 0 0, blk_alloc (blk_alloc HBV.out _) _, by simpa [mrg, cells24] using own_nil _ _ _ _, blk_alloc (blk_alloc HBR.out _) _, below_alloc (below_alloc HB3.out _) _⟩
  case hround =>
    rintro l pre x post A hx ⟨v, h1, h2, h3, h4⟩ rfl hA
    have hlen : (mrg mn pre).length < 8000000000000 := by
      have h5 := filterMap_le mn pre
      have h6 := HSZ.out
      rw [hx] at h6
      simp at h6
      omega
    simp only [encPr]
    have HX := Aside0.mk hx
    have H1 := Aside0.mk h1
    have H2 := Aside0.mk h2
    have H3 := Aside0.mk h3
    have H4 := Aside0.mk h4
    clear hx h1 h2 h3 h4
    gi_wp2
    have hz := (Below.refl A.heap.size A).alloc (Nat.le_refl _) (.cells #[.int .i64 x.1, .int .i64 x.2.1, .int .i64 x.2.2] 78)
    refine ⟨⟨hz.mono H4.out.size, hz.block _ (by have := HZ3.out; omega), hz.block _ (by have := HZ3.out; omega)⟩, hz.block _ (by omega), hz.block _ (by omega), ?_⟩
    rintro w2 ⟨o, rfl⟩
    have g1 : Boxed ((A.alloc (.cells #[.int .i64 x.1, .int .i64 x.2.1, .int .i64 x.2.2] 78)).putObj (W3.heap.size + 1) o) (w.heap.size + 1) 22 v := (World.putObj_heap_other (by have := HZ3.out; omega)).trans (H1.out.alloc _)
    have g2 : ((A.alloc (.cells #[.int .i64 x.1, .int .i64 x.2.1, .int .i64 x.2.2] 78)).putObj (W3.heap.size + 1) o).ownsRow (W3.heap.size + 2) 24 2 v (mrg mn pre).length (cells24 (mrg mn pre)) :=
      own_move (own_alloc H2.out _) (fun k hk => World.putObj_heap_other (by have := own_base H2.out k hk; omega))
    have g3 := (World.putObj_heap_other (w := A.alloc (.cells #[.int .i64 x.1, .int .i64 x.2.1, .int .i64 x.2.2] 78)) (o := o) (r := W3.heap.size + 1) (k := w.heap.size) (by have := HZ3.out; omega)).trans (blk_alloc H3.out _)
    have g4 : Below w.heap.size w ((A.alloc (.cells #[.int .i64 x.1, .int .i64 x.2.1, .int .i64 x.2.2] 78)).putObj (W3.heap.size + 1) o) := (below_alloc H4.out _).trans ⟨rfl, rfl, rfl, by simp, fun k hk => World.putObj_heap_other (by have := HZ3.out; omega)⟩
    have g5 := (World.putObj_heap_other (w := A.alloc (.cells #[.int .i64 x.1, .int .i64 x.2.1, .int .i64 x.2.2] 78)) (o := o) (r := W3.heap.size + 1) (k := A.heap.size) (by omega)).trans (blk_new A _)
    have g6 : ((A.alloc (.cells #[.int .i64 x.1, .int .i64 x.2.1, .int .i64 x.2.2] 78)).putObj (W3.heap.size + 1) o).heap.size = A.heap.size + 1 := by simp
    generalize (A.alloc (.cells #[.int .i64 x.1, .int .i64 x.2.1, .int .i64 x.2.2] 78)).putObj (W3.heap.size + 1) o = W4 at *
    have c3 := blk_cell g3 0
    have c50 := blk_cell g5 0
    have c51 := blk_cell g5 1
    have c52 := blk_cell g5 2
    have c1 := g1.cell
    have f1 := g1.frozen
    simp at c3 c50 c51 c52
    have G1 := Aside0.mk g1
    have G2 := Aside0.mk g2
    have G3 := Aside0.mk g3
    have G4 := Aside0.mk g4
    have G5 := Aside0.mk g5
    have G6 := Aside0.mk g6
    clear g1 g2 g3 g4 g5 g6 hz
    by_cases hp : 0 < mn x.2.1 x.2.2
    · gi_wp2_with fail
      refine ⟨trivial, rfl, ?_⟩
      refine (CallsIn.inRound _ (callsIn_wide.2 (lesser1_calls _ _ _ W4))).mono ?_
      rintro e W5 ⟨rfl, hb⟩
      have g1 : Boxed W5 (w.heap.size + 1) 22 v := blk_below G1.out hb
      have g2 := pw_own_below G2.out hb
      have c5 := (hb.cell (p := ⟨A.heap.size, 0, none⟩) (by have := G6.out; show A.heap.size < _; omega)).trans c50
      have c1 := g1.cell
      have f1 := g1.frozen
      have g5 := hb.size
      have X1 := Aside0.mk g1
      have X2 := Aside0.mk g2
      have HB5 := Aside0.mk hb
      clear g1 g2 hb c50 c51 c52 c3
      gi_wp2_with (gi_at_builtin; refine wpListIn_append_own _ rfl _ _ 22 rfl (W3.heap.size + 2) 24 i0 _ 2 16 Tryd.underlying22 INFO.out.1 INFO.out.2.1 INFO.out.2.2.1 INFO.out.2.2.2 rfl (by decide) _ _ _ rfl (own_alloc X2.out _) ⟨W5.heap.size, 0, none⟩ 1 1 [.int .i64 x.1, .int .i64 (mn x.2.1 x.2.2)] rfl rfl (cell_two _ _ _ _) (by simp [Value.oneCell']) (by unfold maxLen; omega) (by omega) (by simp; have := G6.out; omega) ?_; intro v' w1 hown' hgrow _; obtain ⟨g', cap', rfl⟩ := ownsRow_succ hown'; obtain ⟨hv1, hv2, _, hk2, hb2⟩ := X1.out.appended (n₀ := w.heap.size) (by decide) (own_less X2.out (by have := HZ3.out; omega)) (by have := G4.out.size; omega) (by omega) (own_less hown' (by have := HZ3.out; omega)) hgrow; have hr2 := hown'.kept (grownBy_setCell' w1 (w.heap.size + 1) (.slice (some ⟨g', 0, none⟩) ((mrg mn pre).length + 1) cap')) (.inr (hv1.not_row (by decide) hown').symm); have hc1 := hv1.cell; have hf1 := hv1.frozen; have HGR := Aside0.mk hgrow; have HV2 := Aside0.mk hv2; have HR2 := Aside0.mk hr2; have HB2 := Aside0.mk hb2; clear hgrow hv2 hr2 hb2 hk2 hown')
      have K4 : ∀ k, k < W4.heap.size → k < W3.heap.size + 2 → k ≠ w.heap.size + 1 → (w1.setCell ⟨w.heap.size + 1, 0, none⟩ (.slice (some ⟨g', 0, none⟩) ((mrg mn pre).length + 1) cap')).heap[k]? = W4.heap[k]? := fun k h1 h2 h3 => (appended_keep HGR.out X2.out (by omega) h2 h3).trans (HB5.out.block k h1)
      have z3 := HZ3.out
      have z6 := G6.out
      refine ⟨K4 _ (by omega) (by omega) (by omega), K4 _ (by omega) (by omega) (by omega), ⟨(HB5.out.mono G4.out.size).trans HB2.out, K4 _ (by omega) (by omega) (by omega), K4 _ (by omega) (by omega) (by omega)⟩, _, HV2.out, ?_, (K4 _ (by omega) (by omega) (by omega)).trans G3.out, (G4.out.trans (HB5.out.mono G4.out.size)).trans HB2.out⟩
      rw [mrg_snoc, keepP, if_pos hp, cells24_snoc]
      simpa using HR2.out
    · gi_wp2_with fail
      refine ⟨trivial, rfl, ?_⟩
      refine (CallsIn.inRound _ (callsIn_wide.2 (lesser1_calls _ _ _ W4))).mono ?_
      rintro e W5 ⟨rfl, hb⟩
      have HB5 := Aside0.mk hb
      clear hb c50 c51 c52 c3 c1 f1
      gi_wp2
      have hb := HB5.out
      have z3 := HZ3.out
      have z6 := G6.out
      refine ⟨hb.block _ (by omega), hb.block _ (by omega), ⟨hb.mono G4.out.size, hb.block _ (by omega), hb.block _ (by omega)⟩, v, blk_below G1.out hb, ?_, blk_below G3.out hb, G4.out.trans (hb.mono G4.out.size)⟩
      rw [mrg_snoc, keepP, if_neg (by omega), List.append_nil]
      exact pw_own_below G2.out hb
  case hdone =>
    rintro W ⟨v, h1, h2, h3, h4⟩ hk
    obtain ⟨Av, cv, rfl⟩ := own_slice h2
    have hc := h1.cell
    have hf := h1.frozen
    have H1 := Aside0.mk h1
    have H2 := Aside0.mk h2
    have H4 := Aside0.mk h4
    have HK := Aside0.mk hk
    clear h1 h2 h3 h4 hk
    gi_wp2
    go_wp2
    have z3 := HZ3.out
    have hk2 := (Below.heap_setCell W ⟨w.heap.size + 1, 0, none⟩ (.slice Av (mrg mn (prs l0 l1)).length cv) W3.heap.size (by show W3.heap.size ≠ w.heap.size + 1; omega)).trans HK.out
    refine ⟨by simp, .inl ⟨_, _, rfl, run_takeDeferred hk2, ?_⟩⟩
    have hb6 : Below w.heap.size w ((W.setCell ⟨w.heap.size + 1, 0, none⟩ (.slice Av (mrg mn (prs l0 l1)).length cv)).putObj W3.heap.size (.deferred none)) :=
      (H4.out.setCell (p := ⟨w.heap.size + 1, 0, none⟩) (by show _ ≤ w.heap.size + 1; omega) _).trans ⟨rfl, rfl, rfl, by simp, fun k hk => World.putObj_heap_other (by omega)⟩
    have h1 : Boxed ((W.setCell ⟨w.heap.size + 1, 0, none⟩ (.slice Av (mrg mn (prs l0 l1)).length cv)).putObj W3.heap.size (.deferred none)) (w.heap.size + 1) 22 _ := (World.putObj_heap_other (by omega)).trans (H1.out.set (.slice Av (mrg mn (prs l0 l1)).length cv))
    have h2 : ((W.setCell ⟨w.heap.size + 1, 0, none⟩ (.slice Av (mrg mn (prs l0 l1)).length cv)).putObj W3.heap.size (.deferred none)).ownsRow (W3.heap.size + 2) 24 2 (.slice Av (mrg mn (prs l0 l1)).length cv) (mrg mn (prs l0 l1)).length (cells24 (mrg mn (prs l0 l1))) :=
      own_move H2.out (fun k hk => (World.putObj_heap_other (by have := own_base H2.out k hk; omega)).trans (Below.heap_setCell _ _ _ _ (by have := own_base H2.out k hk; show k ≠ w.heap.size + 1; omega)))
    generalize (W.setCell ⟨w.heap.size + 1, 0, none⟩ (.slice Av (mrg mn (prs l0 l1)).length cv)).putObj W3.heap.size (.deferred none) = W9 at *
    have hc9 := h1.cell
    refine ⟨.tuple #[.slice Av (mrg mn (prs l0 l1)).length cv, .int .i64 0], by simp [results, Tryd.results51, go_sem, hc9], ?_⟩
    exact ⟨_, rfl, cells24_R h2 (by omega), hb6⟩
set_option maxHeartbeats 2000000 in
theorem merge_err (g : Nat) (k : Nat) (A0 : Option Addr) (c0 : Nat) (l0 : List (S24)) (A1 : Option Addr) (c1 : Nat) (l1 : List (S24)) (t : Int) (w : World) (hr0 : Kd.C k24 w A0 l0.length l0) (hc0 : l0.length ≤ c0) (hr1 : Kd.C k24 w A1 l1.length l1) (hc1 : l1.length ≤ c1) (h : vector_check.f k l0 l1 = some t) (ht : t ≠ 0) :
    Calls Tryd.prog 51 #[.agg #[.func (.func g) #[] #[]], .slice A0 l0.length c0, .slice A1 l1.length c1] w fun e w' => ∃ v0_ : Value, e = .returned (.tuple #[v0_, .int .i64 t]) ∧ Kd.R k24 24 w' w.heap.size (fun _ => True) v0_ [] ∧ Below w.heap.size w w' := by
  have HR0 := Aside0.mk hr0
  have HR1 := Aside0.mk hr1
  have H := Aside0.mk h
  have ht1 : (t == 0) = false := by simpa using ht
  have ht2 : (t != 0) = true := by simpa using ht
  have HC0 := Aside0.mk hc0
  have HC1 := Aside0.mk hc1
  clear hr0 hr1 h ht hc0 hc1
  go_enter Tryd.func51, Tryd.ntmps51
  go_wp2_with fail
  have hBv := blk_new (w.alloc (.cells #[.func (.func g) #[] #[]] 70)) (.cells #[.slice none 0 0] 22)
  rw [World.size_alloc] at hBv
  have hb1 := below_alloc (below_alloc (Below.refl w.heap.size w) (.cells #[.func (.func g) #[] #[]] 70)) (.cells #[.slice none 0 0] 22)
  generalize hW1 : (w.alloc (.cells #[.func (.func g) #[] #[]] 70)).alloc (.cells #[.slice none 0 0] 22) = W1 at *
  refine (vector_check.calls k _ _ l0 _ _ l1 t W1 (Kd.C_below HR0.out hb1) HC0.out (Kd.C_below HR1.out hb1) HC1.out H.out).mono ?_
  rintro e W2 ⟨rfl, hb⟩
  replace hBv := blk_below hBv hb
  have hb2 := below_step hb1 hb
  have hc := blk_cell hBv 0
  have hf := blk_frozen hBv 0
  simp at hc
  have HB2 := Aside0.mk hb2
  have HBv := Aside0.mk hBv
  clear hb hb1 hb2 hW1 hBv
  go_wp2
  have hb6 : Below w.heap.size w (W2.setCell ⟨w.heap.size + 1, 0, none⟩ (.slice none 0 0)) := HB2.out.setCell (p := ⟨w.heap.size + 1, 0, none⟩) (by show _ ≤ w.heap.size + 1; omega) _
  have hc9 := blk_cell (blk_set HBv.out 0 (.slice none 0 0)) 0
  simp at hc9
  refine bodyPost_ret (v := .tuple #[.slice none 0 0, .int .i64 t]) (by simp [results, Tryd.results51, go_sem, hc9]) rfl ⟨_, rfl, Kd.R_nil _ _ _ _ _, hb6⟩

def vector_Join.f (k : Nat) (l0 : List (S24)) (l1 : List (S24)) : Option ((List (S24)) × Int) := (vector_check.f k l0 l1).bind fun t => if t = 0 then (if (prs l0 l1).length ≤ 8000000000000 then some (mrg mx (prs l0 l1), 0) else none) else some (([] : List (S24)), t)
theorem vector_Join.mono : ∀ a0 a1 k, LeO (vector_Join.f k a0 a1) (vector_Join.f (k + 1) a0 a1) := fun a0 a1 k => LeO.bind (vector_check.mono a0 a1 k) (fun _ => LeO.refl _)
set_option maxHeartbeats 2000000 in
theorem vector_Join.calls (k : Nat) (A0 : Option Addr) (c0 : Nat) (l0 : List (S24)) (A1 : Option Addr) (c1 : Nat) (l1 : List (S24)) (r1 : List (S24)) (r2 : Int) (w : World) (hGG : GlobG w) (hr0 : Kd.C k24 w A0 l0.length l0) (hc0 : l0.length ≤ c0) (hr1 : Kd.C k24 w A1 l1.length l1) (hc1 : l1.length ≤ c1) (h : vector_Join.f k l0 l1 = some (r1, r2)) :
    Calls Tryd.prog 28 #[.slice A0 l0.length c0, .slice A1 l1.length c1] w fun e w' => ∃ v0_ : Value, e = .returned (.tuple #[v0_, .int .i64 r2]) ∧ Kd.R k24 24 w' w.heap.size (fun _ => True) v0_ r1 ∧ Below w.heap.size w w' := by
  have hM : Calls Tryd.prog 51 #[.agg #[.func (.func 132) #[] #[]], .slice A0 l0.length c0, .slice A1 l1.length c1] w fun e w' => ∃ v0_ : Value, e = .returned (.tuple #[v0_, .int .i64 r2]) ∧ Kd.R k24 24 w' w.heap.size (fun _ => True) v0_ r1 ∧ Below w.heap.size w w' := by
    obtain ⟨t, ht, h⟩ := Option.bind_eq_some_iff.mp h
    by_cases h0 : t = 0
    · subst h0
      rw [if_pos rfl] at h
      by_cases hs : (prs l0 l1).length ≤ 8000000000000
      · rw [if_pos hs] at h
        injection h with h
        injection h with h1 h2
        subst h1; subst h2
        exact merge_132 k A0 c0 l0 A1 c1 l1 w hr0 hc0 hr1 hc1 ht hs
      · rw [if_neg hs] at h
        cases h
    · rw [if_neg h0] at h
      injection h with h
      injection h with h1 h2
      subst h1; subst h2
      exact merge_err 132 k A0 c0 l0 A1 c1 l1 t w hr0 hc0 hr1 hc1 ht h0
  have hg : w.cell? ⟨0, 0, none⟩ = some (.func (.func 132) #[] #[]) := hGG
  have hu70 := Tryd.underlying70
  have HM := Aside0.mk hM
  clear hM hGG hr0 hr1 hc0 hc1 h
  go_enter Tryd.func28, Tryd.ntmps28
  go_wp2_with fail
  refine HM.out.mono ?_
  rintro e w1 ⟨v, rfl, hR, hb⟩
  go_wp2
  go_ret2
  exact ⟨_, rfl, hR, hb⟩

def vector_Meet.f (k : Nat) (l0 : List (S24)) (l1 : List (S24)) : Option ((List (S24)) × Int) := (vector_check.f k l0 l1).bind fun t => if t = 0 then (if (prs l0 l1).length ≤ 8000000000000 then some (mrg mn (prs l0 l1), 0) else none) else some (([] : List (S24)), t)
theorem vector_Meet.mono : ∀ a0 a1 k, LeO (vector_Meet.f k a0 a1) (vector_Meet.f (k + 1) a0 a1) := fun a0 a1 k => LeO.bind (vector_check.mono a0 a1 k) (fun _ => LeO.refl _)
set_option maxHeartbeats 2000000 in
theorem vector_Meet.calls (k : Nat) (A0 : Option Addr) (c0 : Nat) (l0 : List (S24)) (A1 : Option Addr) (c1 : Nat) (l1 : List (S24)) (r1 : List (S24)) (r2 : Int) (w : World) (hGL : GlobL w) (hr0 : Kd.C k24 w A0 l0.length l0) (hc0 : l0.length ≤ c0) (hr1 : Kd.C k24 w A1 l1.length l1) (hc1 : l1.length ≤ c1) (h : vector_Meet.f k l0 l1 = some (r1, r2)) :
    Calls Tryd.prog 30 #[.slice A0 l0.length c0, .slice A1 l1.length c1] w fun e w' => ∃ v0_ : Value, e = .returned (.tuple #[v0_, .int .i64 r2]) ∧ Kd.R k24 24 w' w.heap.size (fun _ => True) v0_ r1 ∧ Below w.heap.size w w' := by
  have hM : Calls Tryd.prog 51 #[.agg #[.func (.func 133) #[] #[]], .slice A0 l0.length c0, .slice A1 l1.length c1] w fun e w' => ∃ v0_ : Value, e = .returned (.tuple #[v0_, .int .i64 r2]) ∧ Kd.R k24 24 w' w.heap.size (fun _ => True) v0_ r1 ∧ Below w.heap.size w w' := by
    obtain ⟨t, ht, h⟩ := Option.bind_eq_some_iff.mp h
    by_cases h0 : t = 0
    · subst h0
      rw [if_pos rfl] at h
      by_cases hs : (prs l0 l1).length ≤ 8000000000000
      · rw [if_pos hs] at h
        injection h with h
        injection h with h1 h2
        subst h1; subst h2
        exact merge_133 k A0 c0 l0 A1 c1 l1 w hr0 hc0 hr1 hc1 ht hs
      · rw [if_neg hs] at h
        cases h
    · rw [if_neg h0] at h
      injection h with h
      injection h with h1 h2
      subst h1; subst h2
      exact merge_err 133 k A0 c0 l0 A1 c1 l1 t w hr0 hc0 hr1 hc1 ht h0
  have hg : w.cell? ⟨1, 0, none⟩ = some (.func (.func 133) #[] #[]) := hGL
  have hu70 := Tryd.underlying70
  have HM := Aside0.mk hM
  clear hM hGL hr0 hr1 hc0 hc1 h
  go_enter Tryd.func30, Tryd.ntmps30
  go_wp2_with fail
  refine HM.out.mono ?_
  rintro e w1 ⟨v, rfl, hR, hb⟩
  go_wp2
  go_ret2
  exact ⟨_, rfl, hR, hb⟩
end Go.Proofs.YtncejmjicjlanaaDoor.Q
