/- Contract of codec.Decode: as the plain decP; nothing that was there changes, the value's lists are new. Condition: fewer than 2000000000 bytes. -/
import Derived.Test.YtncejmjicjlanaaHandDecode
namespace Go.Proofs.Ytncejmjicjlanaa.Q
open Go.RowKit Go.Proofs.YtncejmjicjlanaaW.PrintWords Go.Proofs.YtncejmjicjlanaaW.PrintLast Go.Proofs.YtncejmjicjlanaaW.PrintMore
set_option linter.unusedVariables false
set_option linter.unusedSimpArgs false
def codec_Decode.f (k : Nat) (l0 : List Int) : Option (Int × Int × ByteArray × (List (S24)) × Int) := if l0.length < 2000000000 then some ((decP l0).1.f0, (decP l0).1.f1, (decP l0).1.f2, (decP l0).1.f3, (decP l0).2) else none
theorem codec_Decode.mono : ∀ a0 k, LeO (codec_Decode.f k a0) (codec_Decode.f (k + 1) a0) := fun _ _ => LeO.refl _
set_option maxHeartbeats 4000000 in
set_option maxRecDepth 100000 in
theorem decode_walk (A : Option Addr) (c : Nat) (l : List Int) (w : World) (hr : Kd.C (Kd.int .u8) w A l.length l) (hc : l.length ≤ c) (hl : l.length < 2000000000) :
    Calls Try.prog 14 #[.slice A l.length c] w fun e w' => ∃ v4 : Value, e = .returned (.tuple #[.agg #[.int .i64 (decP l).1.f0, .int .i64 (decP l).1.f1, .string (decP l).1.f2, v4], .int .i64 (decP l).2]) ∧ Kd.R k24 24 w' w.heap.size (fun _ => True) v4 (decP l).1.f3 ∧ Below w.heap.size w w' := by
  have hmf : ∀ (fn : Fn) (first cap : Array Value) (w : World), (Instr.makeFunc fn first cap).run Try.prog w = .ok (.func fn first cap) w := fun _ _ _ _ => rfl
  have hu24 := Try.underlying24
  have hu28 := Try.underlying28
  have hu56 := Try.underlying56
  have HR := Aside0.mk hr
  have HC := Aside0.mk hc
  have HL := Aside0.mk hl
  clear hr hc hl
  go_enter_defers Try.func14, Try.ntmps14
  go_wp2_with fail
  have h2 := blk_alloc (blk_alloc (blk_new w (.cells #[.int .i64 0, .int .i64 0, .string ⟨#[]⟩, .slice none 0 0] 24)) (.cells #[.int .i64 0] 28)) (.cells #[.slice A l.length c] 56)
  have h3 := blk_alloc (blk_new (w.alloc (.cells #[.int .i64 0, .int .i64 0, .string ⟨#[]⟩, .slice none 0 0] 24)) (.cells #[.int .i64 0] 28)) (.cells #[.slice A l.length c] 56)
  have h4 := blk_new ((w.alloc (.cells #[.int .i64 0, .int .i64 0, .string ⟨#[]⟩, .slice none 0 0] 24)).alloc (.cells #[.int .i64 0] 28)) (.cells #[.slice A l.length c] 56)
  have hb := below_alloc (below_alloc (below_alloc (Below.refl w.heap.size w) (.cells #[.int .i64 0, .int .i64 0, .string ⟨#[]⟩, .slice none 0 0] 24)) (.cells #[.int .i64 0] 28)) (.cells #[.slice A l.length c] 56)
  have hsz : (((w.alloc (.cells #[.int .i64 0, .int .i64 0, .string ⟨#[]⟩, .slice none 0 0] 24)).alloc (.cells #[.int .i64 0] 28)).alloc (.cells #[.slice A l.length c] 56)).heap.size = w.heap.size + 3 := by simp
  rw [World.size_alloc] at h3 h4
  rw [World.size_alloc] at h4
  generalize ((w.alloc (.cells #[.int .i64 0, .int .i64 0, .string ⟨#[]⟩, .slice none 0 0] 24)).alloc (.cells #[.int .i64 0] 28)).alloc (.cells #[.slice A l.length c] 56) = W1 at *
  have hI : IsRd w W1 (w.heap.size + 1 + 1) A c l := ⟨h4, HC.out, by omega, HR.out⟩
  have hV := value_calls 16 0 _ A c l w W1 (by decide) (by decide) hI hb HL.out
  refine hV.mono ?_
  rintro e W2 ⟨hk, hb2, hp⟩
  have g2 := (hk.2 _ (blk_lt h2) (by omega) (by simp)).trans h2
  have g3 := (hk.2 _ (blk_lt h3) (by omega) (by simp)).trans h3
  clear hV hI hb h2 h3 h4 hk
  cases hv : valP 16 l with
  | none =>
    rw [hv] at hp
    simp only at hp
    subst hp
    have hP : decP l = (z24, 10) := by unfold decP; rw [hv]
    go_wp2
    refine leaves_cons (f := 27) (args := #[.pointer (some ⟨w.heap.size, 0, none⟩), .pointer (some ⟨w.heap.size + 1, 0, none⟩)]) (by simp) (by simp [go_sem]) ?_
    refine (catch_bad _ _ _ _ _ _ _ _ g2 g3 (by omega)).mono ?_
    rintro e u' w'' ⟨rfl, rfl, q1, q2, q3⟩
    have d0 := blk_cell q1 0
    have d1 := blk_cell q1 1
    have d2 := blk_cell q1 2
    have d3 := blk_cell q1 3
    have d4 := blk_cell q2 0
    simp at d0 d1 d2 d3 d4
    refine ⟨.tuple #[.agg #[.int .i64 0, .int .i64 0, .string ⟨#[]⟩, .slice none 0 0], .int .i64 10], by simp [results, Try.results14, go_sem, d0, d1, d2, d3, d4], .slice none 0 0, ?_, ?_, q3 _ _ (Nat.le_refl _) (by omega) hb2⟩
    · rw [hP]; rfl
    · rw [hP]; exact Kd.R_nil _ _ _ _ _
  | some x =>
    obtain ⟨v, r⟩ := x
    rw [hv] at hp
    obtain ⟨v3, rfl, hR, A2, c2, hI2⟩ := hp
    obtain ⟨A3, c3, rfl⟩ := Kd.R_slice hR
    have hR2 : Kd.R k24 24 W2 w.heap.size (fun k => w.heap.size + 3 ≤ k) (.slice A3 v.f3.length c3) v.f3 := Kd.R_lower (Kd.R_mono (Kd.R_bound hR) (fun k hk => by have := hk.2.1; omega)) (by omega)
    have HR2 := Aside0.mk hR2
    have HI2 := Aside0.mk hI2
    have HB2 := Aside0.mk hb2
    have hc0 := blk_cell g2 0
    have hc1 := blk_cell g2 1
    have hc2 := blk_cell g2 2
    have hc3 := blk_cell g2 3
    have hf2 := fun j => blk_frozen g2 j
    simp at hc0 hc1 hc2 hc3
    have G2 := Aside0.mk g2
    have G3 := Aside0.mk g3
    clear hR hR2 hI2 hb2 g2 g3
    have hcr : W2.cell? ⟨w.heap.size + 1 + 1, 0, none⟩ = some (.slice A2 r.length c2) := (blk_cell HI2.out.1 0).trans rfl
    have hc4 := blk_cell G3.out 0
    have hf4 := blk_frozen G3.out 0
    simp at hc4
    go_wp2_with fail
    have n1 := Aside0.mk (Kd.R_far (p := ⟨w.heap.size, 3, none⟩) (Kd.R_far (p := ⟨w.heap.size, 2, none⟩) (Kd.R_far (p := ⟨w.heap.size, 1, none⟩) (Kd.R_far (p := ⟨w.heap.size, 0, none⟩) (HR2.out) (fun k hk => by show k ≠ w.heap.size; omega) (.int .i64 v.f0)) (fun k hk => by show k ≠ w.heap.size; omega) (.int .i64 v.f1)) (fun k hk => by show k ≠ w.heap.size; omega) (.string v.f2)) (fun k hk => by show k ≠ w.heap.size; omega) (.slice A3 v.f3.length c3))
    have n2 := Aside0.mk (blk_put (blk_put (blk_put (blk_put (G2.out) 0 (.int .i64 v.f0) rfl) 1 (.int .i64 v.f1) rfl) 2 (.string v.f2) rfl) 3 (.slice A3 v.f3.length c3) rfl)
    have n3 := Aside0.mk (blk_far (p := ⟨w.heap.size, 3, none⟩) (blk_far (p := ⟨w.heap.size, 2, none⟩) (blk_far (p := ⟨w.heap.size, 1, none⟩) (blk_far (p := ⟨w.heap.size, 0, none⟩) (G3.out) (by show w.heap.size + 1 ≠ w.heap.size; omega) (.int .i64 v.f0)) (by show w.heap.size + 1 ≠ w.heap.size; omega) (.int .i64 v.f1)) (by show w.heap.size + 1 ≠ w.heap.size; omega) (.string v.f2)) (by show w.heap.size + 1 ≠ w.heap.size; omega) (.slice A3 v.f3.length c3))
    have n4 := Aside0.mk (below_set (j := 3) (v := (.slice A3 v.f3.length c3)) (below_set (j := 2) (v := (.string v.f2)) (below_set (j := 1) (v := (.int .i64 v.f1)) (below_set (j := 0) (v := (.int .i64 v.f0)) (HB2.out) (Nat.le_refl _)) (Nat.le_refl _)) (Nat.le_refl _)) (Nat.le_refl _))
    clear HR2 G2 G3 HB2 hc0 hc1 hc2 hc3 hf2 hcr hc4 hf4 HI2
    have HR2 := n1
    have G2 := n2
    have G3 := n3
    have HB2 := n4
    clear n1 n2 n3 n4
    generalize ((((W2).setCell ⟨w.heap.size, 0, none⟩ (.int .i64 v.f0)).setCell ⟨w.heap.size, 1, none⟩ (.int .i64 v.f1)).setCell ⟨w.heap.size, 2, none⟩ (.string v.f2)).setCell ⟨w.heap.size, 3, none⟩ (.slice A3 v.f3.length c3) = W3 at *
    cases r with
    | cons b r =>
      have hz : (((b :: r).length : Int) == 0) = false := by simp; omega
      have hP : decP l = (z24, 10) := by unfold decP; rw [hv]
      refine (want_bad _ W3).mono ?_
      rintro e W4 ⟨rfl, rfl⟩
      go_wp2
      refine leaves_cons (f := 27) (args := #[.pointer (some ⟨w.heap.size, 0, none⟩), .pointer (some ⟨w.heap.size + 1, 0, none⟩)]) (by simp) (by simp [go_sem]) ?_
      refine (catch_bad _ _ _ _ _ _ _ _ G2.out G3.out (by omega)).mono ?_
      rintro e u' w'' ⟨rfl, rfl, q1, q2, q3⟩
      have d0 := blk_cell q1 0
      have d1 := blk_cell q1 1
      have d2 := blk_cell q1 2
      have d3 := blk_cell q1 3
      have d4 := blk_cell q2 0
      simp at d0 d1 d2 d3 d4
      refine ⟨.tuple #[.agg #[.int .i64 0, .int .i64 0, .string ⟨#[]⟩, .slice none 0 0], .int .i64 10], by simp [results, Try.results14, go_sem, d0, d1, d2, d3, d4], .slice none 0 0, ?_, ?_, q3 _ _ (Nat.le_refl _) (by omega) HB2.out⟩
      · rw [hP]; rfl
      · rw [hP]; exact Kd.R_nil _ _ _ _ _
    | nil =>
      have hP : decP l = (v, 0) := by unfold decP; rw [hv]
      refine (want_ok _ W3).mono ?_
      rintro e W4 ⟨rfl, rfl⟩
      have hc0 := blk_cell G2.out 0
      have hc1 := blk_cell G2.out 1
      have hc2 := blk_cell G2.out 2
      have hc3 := blk_cell G2.out 3
      have hf2 := fun j => blk_frozen G2.out j
      have hc4 := blk_cell G3.out 0
      have hf4 := blk_frozen G3.out 0
      simp at hc0 hc1 hc2 hc3 hc4
      go_wp2
      have n1 := Aside0.mk (Kd.R_far (p := ⟨w.heap.size, 3, none⟩) (Kd.R_far (p := ⟨w.heap.size, 2, none⟩) (Kd.R_far (p := ⟨w.heap.size, 1, none⟩) (Kd.R_far (p := ⟨w.heap.size, 0, none⟩) (HR2.out) (fun k hk => by show k ≠ w.heap.size; omega) (.int .i64 v.f0)) (fun k hk => by show k ≠ w.heap.size; omega) (.int .i64 v.f1)) (fun k hk => by show k ≠ w.heap.size; omega) (.string v.f2)) (fun k hk => by show k ≠ w.heap.size; omega) (.slice A3 v.f3.length c3))
      have n2 := Aside0.mk (blk_put (blk_put (blk_put (blk_put (G2.out) 0 (.int .i64 v.f0) rfl) 1 (.int .i64 v.f1) rfl) 2 (.string v.f2) rfl) 3 (.slice A3 v.f3.length c3) rfl)
      have n3 := Aside0.mk (blk_far (p := ⟨w.heap.size, 3, none⟩) (blk_far (p := ⟨w.heap.size, 2, none⟩) (blk_far (p := ⟨w.heap.size, 1, none⟩) (blk_far (p := ⟨w.heap.size, 0, none⟩) (G3.out) (by show w.heap.size + 1 ≠ w.heap.size; omega) (.int .i64 v.f0)) (by show w.heap.size + 1 ≠ w.heap.size; omega) (.int .i64 v.f1)) (by show w.heap.size + 1 ≠ w.heap.size; omega) (.string v.f2)) (by show w.heap.size + 1 ≠ w.heap.size; omega) (.slice A3 v.f3.length c3))
      have n4 := Aside0.mk (below_set (j := 3) (v := (.slice A3 v.f3.length c3)) (below_set (j := 2) (v := (.string v.f2)) (below_set (j := 1) (v := (.int .i64 v.f1)) (below_set (j := 0) (v := (.int .i64 v.f0)) (HB2.out) (Nat.le_refl _)) (Nat.le_refl _)) (Nat.le_refl _)) (Nat.le_refl _))
      clear HR2 G2 G3 HB2 hc0 hc1 hc2 hc3 hf2 hc4 hf4
      have HR2 := n1
      have G2 := n2
      have G3 := n3
      have HB2 := n4
      clear n1 n2 n3 n4
      generalize ((((W4).setCell ⟨w.heap.size, 0, none⟩ (.int .i64 v.f0)).setCell ⟨w.heap.size, 1, none⟩ (.int .i64 v.f1)).setCell ⟨w.heap.size, 2, none⟩ (.string v.f2)).setCell ⟨w.heap.size, 3, none⟩ (.slice A3 v.f3.length c3) = W5 at *
      have HR3 := Aside0.mk (Kd.R_far (p := ⟨w.heap.size + 1, 0, none⟩) HR2.out (fun k hk => by show k ≠ w.heap.size + 1; omega) (.int .i64 0))
      have d := blk_far (p := ⟨w.heap.size + 1, 0, none⟩) G2.out (by show w.heap.size ≠ w.heap.size + 1; omega) (.int .i64 0)
      have d4 := blk_cell (blk_put G3.out 0 (.int .i64 0) rfl) 0
      have HB3 := below_set (j := 0) (v := .int .i64 0) HB2.out (Nat.le_add_right w.heap.size 1)
      have d0 := blk_cell d 0
      have d1 := blk_cell d 1
      have d2 := blk_cell d 2
      have d3 := blk_cell d 3
      simp at d0 d1 d2 d3 d4
      refine leaves_cons (f := 27) (args := #[.pointer (some ⟨w.heap.size, 0, none⟩), .pointer (some ⟨w.heap.size + 1, 0, none⟩)]) (by simp) (by simp [go_sem]) ?_
      refine (catch_idle _ _ _).mono ?_
      rintro e u' w'' ⟨rfl, rfl, rfl⟩
      refine ⟨.tuple #[.agg #[.int .i64 v.f0, .int .i64 v.f1, .string v.f2, .slice A3 v.f3.length c3], .int .i64 0], by simp [results, Try.results14, go_sem, d0, d1, d2, d3, d4], .slice A3 v.f3.length c3, ?_, ?_, HB3⟩
      · rw [hP]
      · rw [hP]; exact Kd.R_mono HR3.out (fun _ _ => trivial)
theorem codec_Decode.calls (k : Nat) (A0 : Option Addr) (c0 : Nat) (l0 : List Int) (r1 : Int) (r2 : Int) (r3 : ByteArray) (r4 : List (S24)) (r5 : Int) (w : World) (hr0 : Kd.C (Kd.int .u8) w A0 l0.length l0) (hc0 : l0.length ≤ c0) (h : codec_Decode.f k l0 = some (r1, r2, r3, r4, r5)) :
    Calls Try.prog 14 #[.slice A0 l0.length c0] w fun e w' => ∃ v4_ : Value, e = .returned (.tuple #[.agg #[.int .i64 r1, .int .i64 r2, .string r3, v4_], .int .i64 r5]) ∧ Kd.R k24 24 w' w.heap.size (fun _ => True) v4_ r4 ∧ Below w.heap.size w w' := by
  unfold codec_Decode.f at h
  split at h
  · simp only [Option.some.injEq, Prod.mk.injEq] at h
    obtain ⟨rfl, rfl, rfl, rfl, rfl⟩ := h
    exact decode_walk A0 c0 l0 w hr0 hc0 (by assumption)
  · cases h
end Go.Proofs.Ytncejmjicjlanaa.Q
