/- A law for a range over a function whose body falls off its end in every round, over an iterator that keeps state of its own in two cells (blocks Ba, Bb): no Go function of the program is spoken of here. Conditions: the caller's invariant abides the iterator's steps and a turn of the loop's own two blocks. -/
import Derived.RangeFuncBound
import Derived.RangeFuncLeaves
import Derived.RangeFuncRecord
import Derived.RangeFuncSeq
import Derived.RangeFuncIn
namespace Go.Proofs.YtncejmjicjlanaaDoor.Q
open Go.RowKit

/-- What the iterator does between two rounds: its own two cells' blocks and new blocks alone. -/
structure IterStep (Ba Bb : Nat) (A B : World) : Prop where
  os : B.os = A.os
  tape : B.tape = A.tape
  output : B.output = A.output
  size : A.heap.size ≤ B.heap.size
  block : ∀ k, k < A.heap.size → k ≠ Ba → k ≠ Bb → B.heap[k]? = A.heap[k]?

/-- What a round keeps for the iterator. -/
structure RoundKeeps (Ba Bb : Nat) (n0 : Nat) (A B : World) : Prop where
  below : Below n0 A B
  a : B.heap[Ba]? = A.heap[Ba]?
  b : B.heap[Bb]? = A.heap[Bb]?

theorem IterStep.refl (Ba Bb : Nat) (A : World) : IterStep Ba Bb A A := ⟨rfl, rfl, rfl, Nat.le_refl _, fun _ _ _ _ => rfl⟩
theorem IterStep.trans {Ba Bb : Nat} {A B C : World} (h : IterStep Ba Bb A B) (k : IterStep Ba Bb B C) : IterStep Ba Bb A C :=
  ⟨k.os.trans h.os, k.tape.trans h.tape, k.output.trans h.output, Nat.le_trans h.size k.size, fun i hi ha hb => (k.block i (Nat.lt_of_lt_of_le hi h.size) ha hb).trans (h.block i hi ha hb)⟩
theorem IterStep.below {Ba Bb : Nat} {A B : World} (h : Below A.heap.size A B) : IterStep Ba Bb A B := ⟨h.os, h.tape, h.output, h.size, fun k hk _ _ => h.block k hk⟩
theorem IterStep.setA {Ba Bb : Nat} {A B : World} (h : IterStep Ba Bb A B) (v : Value) : IterStep Ba Bb A (B.setCell ⟨Ba, 0, none⟩ v) :=
  h.trans ⟨rfl, rfl, rfl, by simp [World.setCell], fun k _ ha _ => Below.heap_setCell _ _ _ _ ha⟩
theorem IterStep.setB {Ba Bb : Nat} {A B : World} (h : IterStep Ba Bb A B) (v : Value) : IterStep Ba Bb A (B.setCell ⟨Bb, 0, none⟩ v) :=
  h.trans ⟨rfl, rfl, rfl, by simp [World.setCell], fun k _ _ hb => Below.heap_setCell _ _ _ _ hb⟩
theorem IterStep.setN {Ba Bb : Nat} {A B : World} (h : IterStep Ba Bb A B) {p : Addr} (hp : A.heap.size ≤ p.block) (v : Value) : IterStep Ba Bb A (B.setCell p v) :=
  ⟨h.os, h.tape, h.output, by simp [World.setCell]; exact h.size, fun k hk ha hb => (Below.heap_setCell _ _ _ _ (by omega)).trans (h.block k hk ha hb)⟩

theorem RoundKeeps.refl (Ba Bb n0 : Nat) (A : World) : RoundKeeps Ba Bb n0 A A := ⟨Below.refl _ _, rfl, rfl⟩
theorem RoundKeeps.trans {Ba Bb n0 : Nat} {A B C : World} (h : RoundKeeps Ba Bb n0 A B) (k : RoundKeeps Ba Bb n0 B C) : RoundKeeps Ba Bb n0 A C := ⟨h.below.trans k.below, k.a.trans h.a, k.b.trans h.b⟩
theorem RoundKeeps.putObj {Ba Bb n0 : Nat} {A : World} {l : Nat} (o : Obj) (hn : n0 ≤ l) (ha : Ba ≠ l) (hb : Bb ≠ l) : RoundKeeps Ba Bb n0 A (A.putObj l o) :=
  ⟨⟨rfl, rfl, rfl, by simp, fun k hk => World.putObj_heap_other (by omega)⟩, World.putObj_heap_other ha, World.putObj_heap_other hb⟩

/-- The iterator's contract: every x of xs comes, in order, one round each. -/
def SeqAll {α : Type} (P : Program) (gf : Nat) (lb : Array Value) (encs : α → Array Value) (Ba Bb n0 : Nat) (xs : List α) (W : World) : Prop :=
  ∀ (n l : Nat) (J : List α → World → Prop), (∀ pre A B, J pre A → IterStep Ba Bb A B → J pre B) →
    (∀ pre x post A, xs = pre ++ x :: post → J pre A → YieldAt Fence.wide (n - 1) P l (encs x) A fun e B => e = .returned (.bool true) ∧ J (pre ++ [x]) B ∧ RoundKeeps Ba Bb n0 A B) →
    ∀ W1, RoundKeeps Ba Bb n0 W W1 → W.heap.size ≤ W1.heap.size → J [] W1 →
    CallsIn Fence.wide n P gf (#[.func (.yield l) #[] #[]] ++ lb) W1 fun e W' => (∃ v, e = .returned v) ∧ J xs W'

/-- How the body of a round is left: off its end. -/
def bodyEnds {α : Type} (Ba Bb n0 l d : Nat) (I : List α → World → Prop) (xs : List α) (W : World) : Exit → Act → World → Prop
  | .normal, _, W' => W'.heap[l]? = W.heap[l]? ∧ W'.heap[d]? = W.heap[d]? ∧ RoundKeeps Ba Bb n0 W W' ∧ I xs W'
  | _, _, _ => False

theorem wp_rangeFunc_all {α : Type} {P : Program} {g : Operand} {ps : Array Tmp} {assign body : Code} {Q : Exit → Act → World → Prop} {a : Act} {w : World} {n : Nat}
    {gf : Nat} {lb : Array Value} (hg : a.eval g = .func (.func gf) #[] lb) (eg : ∀ args w, (callFunc gf args).run P w = .ok (.enter gf args) w)
    {encs : α → Array Value} {Ba Bb n0 : Nat} {xs : List α} (hseq : SeqAll P gf lb encs Ba Bb n0 xs w) (hps : ∀ x, (encs x).size = ps.size)
    (hBa : Ba < w.heap.size) (hBb : Bb < w.heap.size) (hn0 : n0 ≤ w.heap.size)
    (I : List α → World → Prop) (hI : ∀ pre A B, I pre A → IterStep Ba Bb A B → I pre B)
    (hIp : ∀ pre A r o, I pre A → w.heap.size ≤ r → r < w.heap.size + 2 → r < A.heap.size → I pre (A.putObj r o))
    (h0 : ∀ o1 o2, I [] ((w.alloc o1).alloc o2))
    (hround : ∀ (l : Nat) (pre : List α) (x : α) (post : List α) (A : World), xs = pre ++ x :: post → I pre A → l = w.heap.size + 1 → w.heap.size + 2 ≤ A.heap.size →
      assign.wpIn (Fence.wide.inRound l) (n - 1 - 1) P (Exit.then (fun a₁ w₁ => RoundKeeps Ba Bb n0 A w₁ ∧ w₁.heap[l]? = A.heap[l]? ∧ w₁.heap[w.heap.size]? = A.heap[w.heap.size]? ∧
        ∀ w₂, (∃ o, w₂ = w₁.putObj l o) → body.wpIn (Fence.wide.inRound l) (n - 1 - 1) P (bodyEnds Ba Bb n0 l w.heap.size I (pre ++ [x]) w₂) a₁ w₂) (fun _ _ _ => False))
        { tmps := (ps.zip (encs x)).foldl (fun t (p, v) => t.setIfInBounds p v) a.tmps, defers := [] } A)
    (hdone : ∀ (W : World), I xs W → W.heap[w.heap.size]? = some (.deferred (some [])) → Q .normal { a with defers := { target := .collected w.heap.size, args := #[] } :: a.defers } W) :
    (Code.rangeFunc g ps assign body).wpIn Fence.wide n P Q a w := by
  refine wpIn_rangeFunc ?_
  intro fn hfn
  obtain ⟨rec, hrec⟩ : ∃ rec : LoopState → Option Code → Loop, rec = fun st pe => { state := st, pending := pe, fn, tmps := a.tmps, params := ps, assign, body, defers := w.heap.size } := ⟨_, rfl⟩
  obtain ⟨W1, hW1⟩ : ∃ W1, (w.alloc (.deferred (some []))).alloc (.loop (rec .ready none)) = W1 := ⟨_, rfl⟩
  have hL1 : W1.heap[w.heap.size + 1]? = some (.loop (rec .ready none)) := by
    rw [← hW1]; have := World.alloc_heap_new (w.alloc (.deferred (some []))) (.loop (rec .ready none)); rwa [World.size_alloc] at this
  have hK1 : W1.heap[w.heap.size]? = some (.deferred (some [])) := by
    rw [← hW1]; exact (Below.heap_alloc _ _ _ (by simp)).trans (World.alloc_heap_new w _)
  have hI1 : I [] W1 := by rw [← hW1]; exact h0 _ _
  have hB1 : Below w.heap.size w W1 := by rw [← hW1]; exact ((Below.refl _ w).alloc (Nat.le_refl _) _).alloc (by simp) _
  refine ⟨w.heap.size + 1, [{ target := .collected w.heap.size, args := #[] }], W1, { target := .fn (.func gf) lb, args := #[.func (.yield (w.heap.size + 1)) #[] #[]] }, W1, gf,
    #[.func (.yield (w.heap.size + 1)) #[] #[]] ++ lb, W1, ?_, ?_, ?_, ?_, fun h => by simp [Fence.wide] at h, ?_⟩
  · rw [← hW1, hrec]; exact run_enterLoop_outer _ _ _ _ _
  · simp only [resolve, hg]
    simp [go_sem]
  · intro f' hf'; trivial
  · simp [invoke, go_sem, eg]
  · refine (hseq (n - 1) (w.heap.size + 1)
      (fun pre W => I pre W ∧ W.heap[w.heap.size + 1]? = some (.loop (rec .ready none)) ∧ W.heap[w.heap.size]? = some (.deferred (some [])))
      ?_ ?_ W1 ⟨hB1.mono hn0, hB1.block _ hBa, hB1.block _ hBb⟩ hB1.size ⟨hI1, hL1, hK1⟩).mono ?_
    · rintro pre A B ⟨hi, hl, hk⟩ hs
      have hlt : w.heap.size + 1 < A.heap.size := (Array.getElem?_eq_some_iff.1 hl).1
      exact ⟨hI _ _ _ hi hs, (hs.block _ hlt (by omega) (by omega)).trans hl, (hs.block _ (by omega) (by omega) (by omega)).trans hk⟩
    · rintro pre x post A hx ⟨hi, hl, hk⟩
      have hlt : w.heap.size + 1 < A.heap.size := (Array.getElem?_eq_some_iff.1 hl).1
      have hy := run_yield (P := P) (args := encs x) hl (by rw [hrec]; exact hps x)
      rw [hrec] at hy
      refine ⟨fn, _, assign, body, hy, roundIn_of_wpIn hfn ?_⟩
      refine wpIn_mono (hround _ pre x post A hx hi rfl (by omega)) ?_
      intro e a1 w1 he
      cases e with
      | normal =>
        obtain ⟨hk1, hl1, hd1, hbody⟩ := he
        have hl1' : w1.heap[w.heap.size + 1]? = some (.loop (rec .ready none)) := hl1.trans hl
        have hd1' : w1.heap[w.heap.size]? = some (.deferred (some [])) := hd1.trans hk
        have hlt1 : w.heap.size + 1 < w1.heap.size := (Array.getElem?_eq_some_iff.1 hl1').1
        refine ⟨_, run_beginRound hl1' (by rw [hrec]), wpIn_mono (hbody _ ⟨_, rfl⟩) ?_⟩
        rintro e a3 W3 he3
        cases e with
        | normal =>
          obtain ⟨hl3, hd3, hk3, hi3⟩ := he3
          have hl3' : W3.heap[w.heap.size + 1]? = some (.loop { rec .ready none with state := .busy }) := hl3.trans (World.putObj_heap_same hlt1)
          have hd3' : W3.heap[w.heap.size]? = some (.deferred (some [])) := hd3.trans ((World.putObj_heap_other (by omega)).trans hd1')
          have hlt3 : w.heap.size + 1 < W3.heap.size := (Array.getElem?_eq_some_iff.1 hl3').1
          have hend := run_endRound (P := P) none hl3'
          refine ⟨_, _, hend, rfl, ⟨hIp _ _ _ _ hi3 (by omega) (by omega) hlt3, ?_, ?_⟩, (hk1.trans (RoundKeeps.putObj _ (by omega) (by omega) (by omega))).trans (hk3.trans (RoundKeeps.putObj _ (by omega) (by omega) (by omega)))⟩
          · rw [World.putObj_heap_same hlt3]; rw [hrec]; rfl
          · exact (World.putObj_heap_other (by omega)).trans hd3'
        | ret => exact he3.elim
        | exit id => exact he3.elim
        | goto t => exact he3.elim
        | panic ch => exact he3.elim
        | outgrown => exact he3.elim
      | ret => exact he.elim
      | exit id => exact he.elim
      | goto t => exact he.elim
      | panic ch => exact he.elim
      | outgrown => exact he.elim
    · rintro e W2 ⟨⟨v, rfl⟩, hi, hl, hk⟩
      have hlt2 : w.heap.size + 1 < W2.heap.size := (Array.getElem?_eq_some_iff.1 hl).1
      have hend := run_endLoop (P := P) hl (by rw [hrec]; simp)
      refine ⟨none, _, by rw [hrec] at hend; exact hend, ?_⟩
      exact hdone _ (hIp _ _ _ _ hi (by omega) (by omega) hlt2) ((World.putObj_heap_other (by omega)).trans hk)
end Go.Proofs.YtncejmjicjlanaaDoor.Q
