/- Contract of vector.Compare: -1, 0, 1 or 2 by the pairs of numbers of both vectors, or the error of the check; nothing that was there changes. Conditions: both slices read as the lists. -/
import Derived.Test.YtncejmjicjlanaaDoorQ3
import Derived.Test.YtncejmjicjlanaaDoorHandMerge
import Derived.RangeFuncBox
import Derived.RangeFuncCalls
namespace Go.Proofs.YtncejmjicjlanaaDoor.Q
open Go.RowKit Go.Proofs.YtncejmjicjlanaaDoorW.PrintWords Go.Proofs.YtncejmjicjlanaaDoorW.PrintLast Go.Proofs.YtncejmjicjlanaaDoorW.PrintMore
attribute [local go_sem] Oper.semAt_some
set_option linter.unusedVariables false
set_option linter.unusedSimpArgs false

def lessB (l : List (Int × Int × Int)) : Bool := l.any fun p => decide (p.2.1 < p.2.2)
def moreB (l : List (Int × Int × Int)) : Bool := l.any fun p => decide (p.2.2 < p.2.1)
def cmpN (l : List (Int × Int × Int)) : Int := if lessB l = true then (if moreB l = true then 2 else -1) else if moreB l = true then 1 else 0
theorem cmpN_eq (l : List (Int × Int × Int)) : cmpN l = if lessB l = true then (if moreB l = true then 2 else -1) else if moreB l = true then 1 else 0 := rfl
theorem lessB_snoc (l : List (Int × Int × Int)) (p : Int × Int × Int) : lessB (l ++ [p]) = (lessB l || decide (p.2.1 < p.2.2)) := by simp [lessB]
theorem moreB_snoc (l : List (Int × Int × Int)) (p : Int × Int × Int) : moreB (l ++ [p]) = (moreB l || decide (p.2.2 < p.2.1)) := by simp [moreB]

set_option maxHeartbeats 8000000 in
set_option maxRecDepth 100000 in
theorem compare_ok (k : Nat) (A0 : Option Addr) (c0 : Nat) (l0 : List (S24)) (A1 : Option Addr) (c1 : Nat) (l1 : List (S24)) (w : World) (hr0 : Kd.C k24 w A0 l0.length l0) (hc0 : l0.length ≤ c0) (hr1 : Kd.C k24 w A1 l1.length l1) (hc1 : l1.length ≤ c1) (h : vector_check.f k l0 l1 = some 0) :
    Calls Tryd.prog 32 #[.slice A0 l0.length c0, .slice A1 l1.length c1] w fun e w' => e = .returned (.tuple #[.int .i64 (cmpN (prs l0 l1)), .int .i64 0]) ∧ Below w.heap.size w w' := by
  have HR0 := Aside0.mk hr0
  have HR1 := Aside0.mk hr1
  have HC0 := Aside0.mk hc0
  have HC1 := Aside0.mk hc1
  have H := Aside0.mk h
  clear hr0 hr1 hc0 hc1 h
  refine (callsIn_wide (n := 0)).1 (callsIn_of_wp_marks Tryd.func32 rfl trivial ?_)
  simp only [Tryd.ntmps32, List.size_toArray, List.length_cons, List.length_nil, Nat.reduceAdd, Nat.reduceSub, Array.replicate_succ, Array.replicate_zero, List.push_toArray, List.append_toArray, List.nil_append, List.cons_append]
  refine wpIn_wide.2 ?_
  go_wp2_with fail
  refine (vector_check.calls k _ _ l0 _ _ l1 0 w HR0.out HC0.out HR1.out HC1.out H.out).mono ?_
  rintro e W1 ⟨rfl, hb1⟩
  have hz1 := hb1.size
  have HB1 := Aside0.mk hb1
  clear hb1
  go_wp2_with fail
  have hBl := blk_alloc (blk_new W1 (.cells #[.bool false] 4)) (.cells #[.bool false] 4)
  have hBm := blk_new (W1.alloc (.cells #[.bool false] 4)) (.cells #[.bool false] 4)
  rw [World.size_alloc] at hBm
  have hb2 := below_alloc (below_alloc HB1.out (.cells #[.bool false] 4)) (.cells #[.bool false] 4)
  have hz2 : ((W1.alloc (.cells #[.bool false] 4)).alloc (.cells #[.bool false] 4)).heap.size = W1.heap.size + 2 := by simp
  generalize hW2 : (W1.alloc (.cells #[.bool false] 4)).alloc (.cells #[.bool false] 4) = W2 at *
  generalize hBle : W1.heap.size = Bl at *
  have HW2 := Aside0.mk hW2
  have HZ2 := Aside0.mk hz2
  clear hW2 hBle hz2
  refine (pairs_calls _ _ _ _ _ _ W2).mono ?_
  rintro e W3 ⟨rfl, rfl⟩
  go_wp2_with fail
  have hBa := blk_alloc (blk_new W2 (.cells #[.slice A0 l0.length c0] 22)) (.cells #[.slice A1 l1.length c1] 22)
  have hBb := blk_new (W2.alloc (.cells #[.slice A0 l0.length c0] 22)) (.cells #[.slice A1 l1.length c1] 22)
  rw [World.size_alloc] at hBb
  replace hBl := blk_alloc (blk_alloc hBl (.cells #[.slice A0 l0.length c0] 22)) (.cells #[.slice A1 l1.length c1] 22)
  replace hBm := blk_alloc (blk_alloc hBm (.cells #[.slice A0 l0.length c0] 22)) (.cells #[.slice A1 l1.length c1] 22)
  have hb3 := below_alloc (below_alloc hb2 (.cells #[.slice A0 l0.length c0] 22)) (.cells #[.slice A1 l1.length c1] 22)
  have hz3 : ((W2.alloc (.cells #[.slice A0 l0.length c0] 22)).alloc (.cells #[.slice A1 l1.length c1] 22)).heap.size = W2.heap.size + 2 := by simp
  have HZ2' := HZ2.out
  generalize hW3 : (W2.alloc (.cells #[.slice A0 l0.length c0] 22)).alloc (.cells #[.slice A1 l1.length c1] 22) = W3 at *
  generalize hBae : W2.heap.size = Ba at *
  have HZ3 := Aside0.mk (show W3.heap.size = Ba + 2 ∧ Ba = Bl + 2 from ⟨hz3, HZ2'⟩)
  clear hz3 HZ2'
  have hseq := pairs1_all A0 c0 l0 A1 c1 l1 w Ba (Ba + 1) W3 (by omega) (by have := HZ3.out; omega) (by have := HZ3.out; omega) hb3 hBa hBb HR0.out HC0.out HR1.out HC1.out
  have HSEQ := Aside0.mk hseq
  have HBL := Aside0.mk hBl
  have HBM := Aside0.mk hBm
  have HB3 := Aside0.mk hb3
  have HW3 := Aside0.mk hW3
  clear hseq hBl hBm hb3 hW3 hBa hBb hb2 hBae
  refine (wpIn_wide (n := 0)).1 ?_
  refine wp_rangeFunc_all (gf := 84) (lb := #[.pointer (some ⟨Ba, 0, none⟩), .pointer (some ⟨Ba + 1, 0, none⟩)]) rfl (fun args w => enters_ Tryd.func84 (by kernel_rfl) rfl args w) HSEQ.out (fun _ => rfl) (by have := HZ3.out; omega) (by have := HZ3.out; omega) (by have := HZ3.out; omega)
    (fun pre W => Boxed W Bl 4 (.bool (lessB pre)) ∧ Boxed W (Bl + 1) 4 (.bool (moreB pre)) ∧ Below w.heap.size w W)
    ?hI ?hIp ?h0 ?hround ?hdone
  case hI =>
    have hz3 := HZ3.out
    rintro pre A B ⟨h1, h2, h4⟩ hs
    exact ⟨(hs.block _ h1.lt (by omega) (by omega)).trans h1, (hs.block _ h2.lt (by omega) (by omega)).trans h2, h4.trans (iter_below hs (by omega) (by omega) h4.size)⟩
  case hIp =>
    have hz3 := HZ3.out
    rintro pre A r o ⟨h1, h2, h4⟩ hr1 hr2 hr3
    exact ⟨(World.putObj_heap_other (by omega)).trans h1, (World.putObj_heap_other (by omega)).trans h2, h4.trans ⟨rfl, rfl, rfl, by simp, fun k hk => World.putObj_heap_other (by omega)⟩⟩
  case h0 =>
    intro o1 o2
    exact ⟨blk_alloc (blk_alloc HBL.out _) _, blk_alloc (blk_alloc HBM.out _) _, below_alloc (below_alloc HB3.out _) _⟩
  case hround =>
    rintro l pre x post A hx ⟨h1, h2, h4⟩ rfl hA
    simp only [encPr]
    have HX := Aside0.mk hx
    have H1 := Aside0.mk h1
    have H2 := Aside0.mk h2
    have H4 := Aside0.mk h4
    clear hx h1 h2 h4
    gi_wp2
    have hz := (Below.refl A.heap.size A).alloc (Nat.le_refl _) (.cells #[.int .i64 x.1, .int .i64 x.2.1, .int .i64 x.2.2] 78)
    refine ⟨⟨hz.mono H4.out.size, hz.block _ (by have := HZ3.out; omega), hz.block _ (by have := HZ3.out; omega)⟩, hz.block _ (by omega), hz.block _ (by omega), ?_⟩
    rintro w2 ⟨o, rfl⟩
    have hz3 := HZ3.out
    have g1 : Boxed ((A.alloc (.cells #[.int .i64 x.1, .int .i64 x.2.1, .int .i64 x.2.2] 78)).putObj (W3.heap.size + 1) o) Bl 4 (.bool (lessB pre)) := (World.putObj_heap_other (by omega)).trans (H1.out.alloc _)
    have g2 : Boxed ((A.alloc (.cells #[.int .i64 x.1, .int .i64 x.2.1, .int .i64 x.2.2] 78)).putObj (W3.heap.size + 1) o) (Bl + 1) 4 (.bool (moreB pre)) := (World.putObj_heap_other (by omega)).trans (H2.out.alloc _)
    have g4 : Below w.heap.size w ((A.alloc (.cells #[.int .i64 x.1, .int .i64 x.2.1, .int .i64 x.2.2] 78)).putObj (W3.heap.size + 1) o) := (below_alloc H4.out _).trans ⟨rfl, rfl, rfl, by simp, fun k hk => World.putObj_heap_other (by omega)⟩
    have g5 := (World.putObj_heap_other (w := A.alloc (.cells #[.int .i64 x.1, .int .i64 x.2.1, .int .i64 x.2.2] 78)) (o := o) (r := W3.heap.size + 1) (k := A.heap.size) (by omega)).trans (blk_new A _)
    have g6 : ((A.alloc (.cells #[.int .i64 x.1, .int .i64 x.2.1, .int .i64 x.2.2] 78)).putObj (W3.heap.size + 1) o).heap.size = A.heap.size + 1 := by simp
    generalize (A.alloc (.cells #[.int .i64 x.1, .int .i64 x.2.1, .int .i64 x.2.2] 78)).putObj (W3.heap.size + 1) o = W4 at *
    have HI : ∀ u v : Bool, u = lessB (pre ++ [x]) → v = moreB (pre ++ [x]) → bodyEnds Ba (Ba + 1) w.heap.size (W3.heap.size + 1) W3.heap.size (fun pre W => Boxed W Bl 4 (.bool (lessB pre)) ∧ Boxed W (Bl + 1) 4 (.bool (moreB pre)) ∧ Below w.heap.size w W) (pre ++ [x]) W4 .normal { tmps := #[], defers := [] } ((W4.setCell ⟨Bl, 0, none⟩ (.bool u)).setCell ⟨Bl + 1, 0, none⟩ (.bool v)) := by
      rintro u v rfl rfl
      have K4 : ∀ k, k ≠ Bl → k ≠ Bl + 1 → ((W4.setCell ⟨Bl, 0, none⟩ (.bool (lessB (pre ++ [x])))).setCell ⟨Bl + 1, 0, none⟩ (.bool (moreB (pre ++ [x])))).heap[k]? = W4.heap[k]? := fun k h1 h2 => (Below.heap_setCell _ _ _ _ h2).trans (Below.heap_setCell _ _ _ _ h1)
      have hb5 : Below w.heap.size W4 ((W4.setCell ⟨Bl, 0, none⟩ (.bool (lessB (pre ++ [x])))).setCell ⟨Bl + 1, 0, none⟩ (.bool (moreB (pre ++ [x])))) := ((Below.refl _ _).setCell (p := ⟨Bl, 0, none⟩) (by show _ ≤ Bl; omega) _).setCell (p := ⟨Bl + 1, 0, none⟩) (by show _ ≤ Bl + 1; omega) _
      exact ⟨K4 _ (by omega) (by omega), K4 _ (by omega) (by omega), ⟨hb5, K4 _ (by omega) (by omega), K4 _ (by omega) (by omega)⟩, (Below.heap_setCell _ _ _ _ (by show Bl ≠ Bl + 1; omega)).trans (g1.set _), Boxed.set _ ((Below.heap_setCell _ _ _ _ (by show Bl + 1 ≠ Bl; omega)).trans g2), g4.trans hb5⟩
    rw [lessB_snoc, moreB_snoc] at HI
    have HII := Aside0.mk HI
    have c50 := blk_cell g5 0
    have c51 := blk_cell g5 1
    have c52 := blk_cell g5 2
    have c1 := g1.cell
    have f1 := g1.frozen
    have c2 := g2.cell
    have f2 := g2.frozen
    simp at c50 c51 c52
    clear g1 g2 g4 g5 g6 hz hz3 HI
    have hne : ¬ Bl + 1 = Bl := by omega
    have hne3 : ¬ A.heap.size = Bl := by have := HZ3.out; omega
    have hne4 : ¬ A.heap.size = Bl + 1 := by have := HZ3.out; omega
    generalize lessB pre = u at *
    generalize moreB pre = v at *
    cases u <;> cases v
    all_goals
      gi_wp2
      exact HII.out _ _ (by simp) (by simp)
  case hdone =>
    rintro W ⟨h1, h2, h4⟩ hk
    have hc1 := h1.cell
    have hc2 := h2.cell
    have HK := Aside0.mk (show Below w.heap.size w (W.putObj W3.heap.size (.deferred none)) from h4.trans ⟨rfl, rfl, rfl, by simp, fun k hk => World.putObj_heap_other (by have := HZ3.out; omega)⟩)
    have HD := Aside0.mk hk
    have HN := Aside0.mk (cmpN_eq (prs l0 l1))
    clear h1 h2 h4 hk
    generalize lessB (prs l0 l1) = u at *
    generalize moreB (prs l0 l1) = v at *
    cases u <;> cases v
    all_goals
      simp only [Bool.false_eq_true, if_false, if_true, if_pos, if_neg] at HN
      gi_wp2
      go_wp2
      refine ⟨by simp, .inl ⟨_, _, rfl, run_takeDeferred HD.out, ?_⟩⟩
      exact ⟨_, results_tmp2 (fn := Tryd.f32) rfl _ _ _, by first | rfl | (rw [HN.out]; rfl), HK.out⟩

set_option maxHeartbeats 2000000 in
theorem compare_err (k : Nat) (A0 : Option Addr) (c0 : Nat) (l0 : List (S24)) (A1 : Option Addr) (c1 : Nat) (l1 : List (S24)) (t : Int) (w : World) (hr0 : Kd.C k24 w A0 l0.length l0) (hc0 : l0.length ≤ c0) (hr1 : Kd.C k24 w A1 l1.length l1) (hc1 : l1.length ≤ c1) (h : vector_check.f k l0 l1 = some t) (ht : t ≠ 0) :
    Calls Tryd.prog 32 #[.slice A0 l0.length c0, .slice A1 l1.length c1] w fun e w' => e = .returned (.tuple #[.int .i64 0, .int .i64 t]) ∧ Below w.heap.size w w' := by
  have HV := Aside0.mk (fun W (hb : Below w.heap.size w W) => vector_check.calls k A0 c0 l0 A1 c1 l1 t W (Kd.C_below hr0 hb) hc0 (Kd.C_below hr1 hb) hc1 h)
  have ht1 : (t == 0) = false := by simpa using ht
  have ht2 : (t != 0) = true := by simpa using ht
  clear hr0 hr1 h ht hc0 hc1
  go_enter Tryd.func32, Tryd.ntmps32
  go_wp2_with fail
  refine (HV.out w (Below.refl _ _)).mono ?_
  rintro e W2 ⟨rfl, hb⟩
  go_wp2
  go_ret2
  exact ⟨rfl, hb⟩

def vector_Compare.f (k : Nat) (l0 : List (S24)) (l1 : List (S24)) : Option (Int × Int) := (vector_check.f k l0 l1).bind fun t => if t = 0 then some (cmpN (prs l0 l1), 0) else some (0, t)
theorem vector_Compare.mono : ∀ a0 a1 k, LeO (vector_Compare.f k a0 a1) (vector_Compare.f (k + 1) a0 a1) := fun a0 a1 k => LeO.bind (vector_check.mono a0 a1 k) (fun _ => LeO.refl _)
theorem vector_Compare.calls (k : Nat) (A0 : Option Addr) (c0 : Nat) (l0 : List (S24)) (A1 : Option Addr) (c1 : Nat) (l1 : List (S24)) (r1 : Int) (r2 : Int) (w : World) (hr0 : Kd.C k24 w A0 l0.length l0) (hc0 : l0.length ≤ c0) (hr1 : Kd.C k24 w A1 l1.length l1) (hc1 : l1.length ≤ c1) (h : vector_Compare.f k l0 l1 = some (r1, r2)) :
    Calls Tryd.prog 32 #[.slice A0 l0.length c0, .slice A1 l1.length c1] w fun e w' => e = .returned (.tuple #[.int .i64 r1, .int .i64 r2]) ∧ Below w.heap.size w w' := by
  obtain ⟨t, ht, h⟩ := Option.bind_eq_some_iff.mp h
  by_cases h0 : t = 0
  · subst h0
    rw [if_pos rfl] at h
    injection h with h
    injection h with h1 h2
    subst h1; subst h2
    exact compare_ok k A0 c0 l0 A1 c1 l1 w hr0 hc0 hr1 hc1 ht
  · rw [if_neg h0] at h
    injection h with h
    injection h with h1 h2
    subst h1; subst h2
    exact compare_err k A0 c0 l0 A1 c1 l1 t w hr0 hc0 hr1 hc1 ht h0
end Go.Proofs.YtncejmjicjlanaaDoor.Q
