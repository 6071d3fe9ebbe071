/- Contract of codec.Same (with slices.EqualFunc): two values are equal, by their own recursion; nothing that was there changes. Conditions: both values' lists read as told. -/
import Derived.Test.YtncejmjicjlanaaQ0
namespace Go.Proofs.Ytncejmjicjlanaa.Q
open Go.RowKit Go.Proofs.YtncejmjicjlanaaW.PrintWords Go.Proofs.YtncejmjicjlanaaW.PrintLast Go.Proofs.YtncejmjicjlanaaW.PrintMore
set_option linter.unusedVariables false
set_option linter.unusedSimpArgs false

mutual
def codec_Same.l0 : Nat → List S24 → List S24 → Int → Option Bool
  | 0, _, _, _ => none
  | k + 1, L, M, i => if i < (L.length : Int) then (if 0 ≤ i then (if i < (M.length : Int) then ((codec_Same.f k (rd_T24 L i).f0 (rd_T24 L i).f1 (rd_T24 L i).f2 (rd_T24 L i).f3 (rd_T24 M i).f0 (rd_T24 M i).f1 (rd_T24 M i).f2 (rd_T24 M i).f3).bind fun t => if t = true then codec_Same.l0 k L M (wrap64 (i + 1)) else some false) else none) else none) else some true
def codec_Same.f : Nat → Int → Int → ByteArray → List S24 → Int → Int → ByteArray → List S24 → Option Bool
  | 0, _, _, _, _, _, _, _, _ => none
  | k + 1, K, N, S, L, K1, N1, S1, M => if K = K1 then (if N = N1 then (if S.toList = S1.toList then (if (L.length : Int) = (M.length : Int) then codec_Same.l0 k L M 0 else some false) else some false) else some false) else some false
end
theorem codec_Same.mono_l : ∀ k, (∀ y0 y1 y2 y3 y4 y5 y6 y7, LeO (codec_Same.f k y0 y1 y2 y3 y4 y5 y6 y7) (codec_Same.f (k + 1) y0 y1 y2 y3 y4 y5 y6 y7)) ∧ (∀ y0 y1 y2, LeO (codec_Same.l0 k y0 y1 y2) (codec_Same.l0 (k + 1) y0 y1 y2))
  | 0 => ⟨fun _ _ _ _ _ _ _ _ r h => by simp [codec_Same.f] at h, fun _ _ _ r h => by simp [codec_Same.l0] at h⟩
  | k + 1 => by
    obtain ⟨ih0, ih1⟩ := codec_Same.mono_l k
    refine ⟨?_, ?_⟩
    · intro y0 y1 y2 y3 y4 y5 y6 y7
      unfold codec_Same.f
      exact LeO.ite (LeO.ite (LeO.ite (LeO.ite (ih1 _ _ _) (LeO.refl _)) (LeO.refl _)) (LeO.refl _)) (LeO.refl _)
    · intro y0 y1 y2
      unfold codec_Same.l0
      exact LeO.ite (LeO.ite (LeO.ite (LeO.bind (ih0 _ _ _ _ _ _ _ _) (fun _ => LeO.ite (ih1 _ _ _) (LeO.refl _))) (LeO.none _)) (LeO.none _)) (LeO.refl _)
theorem codec_Same.mono : ∀ a0 a1 a2 a3 a4 a5 a6 a7 k, LeO (codec_Same.f k a0 a1 a2 a3 a4 a5 a6 a7) (codec_Same.f (k + 1) a0 a1 a2 a3 a4 a5 a6 a7) := fun a0 a1 a2 a3 a4 a5 a6 a7 k => (codec_Same.mono_l k).1 a0 a1 a2 a3 a4 a5 a6 a7

/-- The contract with k rounds. -/
def SameOk (k : Nat) : Prop := ∀ (a0_0 : Int) (a0_1 : Int) (a0_2 : ByteArray) (A0_3 : Option Addr) (c0_3 : Nat) (l0_3 : List (S24)) (a1_0 : Int) (a1_1 : Int) (a1_2 : ByteArray) (A1_3 : Option Addr) (c1_3 : Nat) (l1_3 : List (S24)) (r : Bool) (w : World) (hr0_3 : Kd.C k24 w A0_3 l0_3.length l0_3) (hc0_3 : l0_3.length ≤ c0_3) (hr1_3 : Kd.C k24 w A1_3 l1_3.length l1_3) (hc1_3 : l1_3.length ≤ c1_3) (h : codec_Same.f k a0_0 a0_1 a0_2 l0_3 a1_0 a1_1 a1_2 l1_3 = some r),
    Calls Try.prog 20 #[.agg #[.int .i64 a0_0, .int .i64 a0_1, .string a0_2, .slice A0_3 l0_3.length c0_3], .agg #[.int .i64 a1_0, .int .i64 a1_1, .string a1_2, .slice A1_3 l1_3.length c1_3]] w fun e w' => e = .returned (.bool r) ∧ Below w.heap.size w w'
set_option maxHeartbeats 4000000 in
set_option maxRecDepth 100000 in
theorem eqf_ne (A : Option Addr) (c : Nat) (L : List S24) (B : Option Addr) (d : Nat) (M : List S24) (w : World) (hne : ¬ (L.length : Int) = (M.length : Int)) :
    Calls Try.prog 31 #[.slice A L.length c, .slice B M.length d, .func (.func 20) #[] #[]] w fun e w' => e = .returned (.bool false) ∧ Below w.heap.size w w' := by
  have hb : ((L.length : Int) != (M.length : Int)) = true := bne_iff_ne.mpr hne
  go_enter Try.func31, Try.ntmps31
  go_wp2
  all_goals go_ret
  all_goals exact ⟨rfl, Below.refl _ _⟩
set_option maxHeartbeats 4000000 in
set_option maxRecDepth 100000 in
theorem eqf_calls (k : Nat) (ih : ∀ m, m < k → SameOk m) (A : Option Addr) (c : Nat) (L : List S24) (B : Option Addr) (d : Nat) (M : List S24) (r : Bool) (w : World) (hr : Kd.C k24 w A L.length L) (hc : L.length ≤ c) (hr2 : Kd.C k24 w B M.length M) (hc2 : M.length ≤ d) (heq : (L.length : Int) = (M.length : Int)) (h : codec_Same.l0 k L M 0 = some r) :
    Calls Try.prog 31 #[.slice A L.length c, .slice B M.length d, .func (.func 20) #[] #[]] w fun e w' => e = .returned (.bool r) ∧ Below w.heap.size w w' := by
  have hb : ((L.length : Int) != (M.length : Int)) = false := bne_eq_false_iff_eq.mpr heq
  have HR := Aside0.mk hr
  have HR2 := Aside0.mk hr2
  have HC := Aside0.mk hc
  have HC2 := Aside0.mk hc2
  have H := Aside0.mk h
  have IH := Aside0.mk ih
  have HE := Aside0.mk heq
  clear hr hc h hr2 hc2 ih heq
  have hu24 := Try.underlying24
  go_enter Try.func31, Try.ntmps31
  go_wp2_with fail
  go_loopg [17] k (fun kq v17 wr => ∃ (i : Int), v17 = .int .i64 i ∧ Aside0 (codec_Same.l0 kq L M i = some r) ∧ Aside0 (kq ≤ k) ∧ Aside0 (Below w.heap.size w wr))
  case atStart => exact ⟨0, rfl, H, ⟨Nat.le_refl _⟩, ⟨Below.refl _ _⟩⟩
  case round =>
    clear H
    obtain ⟨i, rfl, HA, HK1, HB⟩ := hrel
    cases gk with
    | zero => exact absurd HA.out (by simp [codec_Same.l0])
    | succ k1 =>
      have H := HA.out
      clear HA
      unfold codec_Same.l0 at H
      by_cases c17 : i < (L.length : Int)
      case neg =>
        rw [if_neg c17] at H
        injection H with H
        subst H
        go_wp2
        go_ret
        exact ⟨rfl, HB.out⟩
      rw [if_pos c17] at H
      by_cases c18 : 0 ≤ i
      case neg => rw [if_neg c18] at H; cases H
      rw [if_pos c18] at H
      by_cases c19 : i < (M.length : Int)
      case neg => rw [if_neg c19] at H; cases H
      rw [if_pos c19] at H
      obtain ⟨ok, hf, H⟩ := Option.bind_eq_some_iff.mp H
      have HF := Aside0.mk hf
      have H := Aside0.mk H
      clear hf
      obtain ⟨ad, A3, c3, rfl, hx0, hx1, hx2, hx3, hl3, hi3⟩ := at_T24 (Kd.C_below HR.out HB.out) i c18 c17
      obtain ⟨bd, B3, d3, rfl, hy0, hy1, hy2, hy3, hm3, hj3⟩ := at_T24 (Kd.C_below HR2.out HB.out) i c18 c19
      have HI3 := Aside0.mk hi3
      have HL3 := Aside0.mk hl3
      have HJ3 := Aside0.mk hj3
      have HM3 := Aside0.mk hm3
      clear hi3 hl3 hj3 hm3
      have hO := below_alloc (Below.refl wr.heap.size wr) (.cells #[.int .i64 (rd_T24 L i).f0, .int .i64 (rd_T24 L i).f1, .string (rd_T24 L i).f2, .slice A3 (rd_T24 L i).f3.length c3] 24)
      replace hy0 := (hO.cell (World.block_lt_of_cell? wr _ hy0)).trans hy0
      replace hy1 := (hO.cell (World.block_lt_of_cell? wr _ hy1)).trans hy1
      replace hy2 := (hO.cell (World.block_lt_of_cell? wr _ hy2)).trans hy2
      replace hy3 := (hO.cell (World.block_lt_of_cell? wr _ hy3)).trans hy3
      clear hO
      go_wp2_with fail
      refine (IH.out k1 (by have := HK1.out; omega) _ _ _ A3 c3 _ _ _ _ B3 d3 _ ok _ (Kd.C_below HI3.out (below_alloc (below_alloc (Below.refl _ _) _) _)) HL3.out (Kd.C_below HJ3.out (below_alloc (below_alloc (Below.refl _ _) _) _)) HM3.out HF.out).mono ?_
      rintro e w2 ⟨rfl, hb2⟩
      have HB2 := Aside0.mk ((below_alloc (below_alloc HB.out _) _).trans (hb2.mono (Nat.le_trans HB.out.size (by simp; omega))))
      clear hb2
      cases ok
      case false =>
        have HH := H.out
        rw [if_neg (by simp)] at HH
        injection HH with HH
        subst HH
        go_wp2
        go_ret
        exact ⟨rfl, HB2.out⟩
      case true =>
        have H2 : Aside0 (codec_Same.l0 k1 L M (wrap64 (i + 1)) = some r) := ⟨by have HH := H.out; rwa [if_pos rfl] at HH⟩
        have HK2 : Aside0 (k1 ≤ k) := ⟨by have := HK1.out; omega⟩
        clear H
        go_wp2_with fail
        go_roundg k1
        case measure => have := HK1.out; omega
        case rel => exact ⟨_, rfl, H2, HK2, HB2⟩
set_option maxHeartbeats 4000000 in
set_option maxRecDepth 100000 in
theorem codec_Same.calls (k : Nat) : SameOk k := by
  induction k using Nat.strongRecOn with
  | _ k ih =>
  intro K N S A c L K1 N1 S1 B d M r w hr hc hr2 hc2 h
  cases k with
  | zero => exact absurd h (by simp [codec_Same.f])
  | succ k =>
  unfold codec_Same.f at h
  have HR := Aside0.mk hr
  have HR2 := Aside0.mk hr2
  have HC := Aside0.mk hc
  have HC2 := Aside0.mk hc2
  have IH := Aside0.mk ih
  clear hr hc hr2 hc2 ih
  have hu24 := Try.underlying24
  by_cases eK : K = K1
  case neg =>
    rw [if_neg eK] at h
    injection h with h
    subst h
    have bK : (K == K1) = false := beq_eq_false_iff_ne.mpr eK
    go_enter Try.func20, Try.ntmps20
    go_wp2
    all_goals go_ret
    all_goals exact ⟨rfl, below_alloc (below_alloc (Below.refl _ _) _) _⟩
  rw [if_pos eK] at h
  have bK : (K == K1) = true := beq_iff_eq.mpr eK
  by_cases eN : N = N1
  case neg =>
    rw [if_neg eN] at h
    injection h with h
    subst h
    have bN : (N == N1) = false := beq_eq_false_iff_ne.mpr eN
    go_enter Try.func20, Try.ntmps20
    go_wp2
    all_goals go_ret
    all_goals exact ⟨rfl, below_alloc (below_alloc (Below.refl _ _) _) _⟩
  rw [if_pos eN] at h
  have bN : (N == N1) = true := beq_iff_eq.mpr eN
  by_cases eS : S.toList = S1.toList
  case neg =>
    rw [if_neg eS] at h
    injection h with h
    subst h
    have bS : (S.toList == S1.toList) = false := beq_eq_false_iff_ne.mpr eS
    go_enter Try.func20, Try.ntmps20
    go_wp2
    all_goals go_ret
    all_goals exact ⟨rfl, below_alloc (below_alloc (Below.refl _ _) _) _⟩
  rw [if_pos eS] at h
  have bS : (S.toList == S1.toList) = true := beq_iff_eq.mpr eS
  clear eK eN eS
  have H := Aside0.mk h
  clear h
  go_enter Try.func20, Try.ntmps20
  go_wp2_with fail
  have HX : Calls Try.prog 31 #[.slice A L.length c, .slice B M.length d, .func (.func 20) #[] #[]] ((w.alloc (.cells #[.int .i64 K, .int .i64 N, .string S, .slice A L.length c] 24)).alloc (.cells #[.int .i64 K1, .int .i64 N1, .string S1, .slice B M.length d] 24)) fun e w' => e = .returned (.bool r) ∧ Below ((w.alloc (.cells #[.int .i64 K, .int .i64 N, .string S, .slice A L.length c] 24)).alloc (.cells #[.int .i64 K1, .int .i64 N1, .string S1, .slice B M.length d] 24)).heap.size ((w.alloc (.cells #[.int .i64 K, .int .i64 N, .string S, .slice A L.length c] 24)).alloc (.cells #[.int .i64 K1, .int .i64 N1, .string S1, .slice B M.length d] 24)) w' := by
    have h := H.out
    by_cases hl : (L.length : Int) = (M.length : Int)
    · rw [if_pos hl] at h
      exact eqf_calls k (fun m hm => IH.out m (by omega)) A c L B d M r _ (Kd.C_below HR.out (below_alloc (below_alloc (Below.refl _ _) _) _)) HC.out (Kd.C_below HR2.out (below_alloc (below_alloc (Below.refl _ _) _) _)) HC2.out hl h
    · rw [if_neg hl] at h
      injection h with h
      subst h
      exact eqf_ne A c L B d M _ hl
  refine HX.mono ?_
  rintro e w2 ⟨rfl, hb⟩
  have HB := Aside0.mk ((below_alloc (below_alloc (Below.refl w.heap.size w) (.cells #[.int .i64 K, .int .i64 N, .string S, .slice A L.length c] 24)) (.cells #[.int .i64 K1, .int .i64 N1, .string S1, .slice B M.length d] 24)).trans (hb.mono (by simp; omega)))
  clear hb HX
  go_wp2
  all_goals go_ret
  all_goals exact ⟨rfl, HB.out⟩
end Go.Proofs.Ytncejmjicjlanaa.Q
