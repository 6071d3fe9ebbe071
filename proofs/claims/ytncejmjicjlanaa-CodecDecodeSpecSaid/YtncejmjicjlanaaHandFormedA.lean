/- Contract of codec.formed: the depth of a value and whether it is well-formed, by the value's own recursion; nothing that was there changes. Condition: the value's list reads as told. -/
import Derived.Test.YtncejmjicjlanaaQ0
namespace Go.Proofs.Ytncejmjicjlanaa.Q
open Go.RowKit Go.Proofs.YtncejmjicjlanaaW.PrintWords Go.Proofs.YtncejmjicjlanaaW.PrintLast Go.Proofs.YtncejmjicjlanaaW.PrintMore
attribute [local go_sem] max2_int min2_int max_two min_two
set_option linter.unusedVariables false
set_option linter.unusedSimpArgs false

/-- Has a value only the fields that its kind uses? -/
def usedB (K N : Int) (S : ByteArray) (L : List S24) : Bool :=
  if K = 1 then (S.toList.isEmpty && decide ((L.length : Int) = 0)) else if K = 2 then (decide (N = 0) && decide ((L.length : Int) = 0)) else if K = 3 then (decide (N = 0) && S.toList.isEmpty) else false
mutual
def codec_formed.l0 : Nat → List S24 → Int → Int → Option (Int × Bool)
  | 0, _, _, _ => none
  | k + 1, L, i, d => if i < (L.length : Int) then (if 0 ≤ i then ((codec_formed.f k (rd_T24 L i).f0 (rd_T24 L i).f1 (rd_T24 L i).f2 (rd_T24 L i).f3).bind fun t => if t.2 = true then codec_formed.l0 k L (wrap64 (i + 1)) (mx d t.1) else some (0, false)) else none) else some (wrap64 (d + 1), true)
def codec_formed.f : Nat → Int → Int → ByteArray → List S24 → Option (Int × Bool)
  | 0, _, _, _, _ => none
  | k + 1, K, N, S, L => if usedB K N S L = true then (if K < 3 then some (0, true) else codec_formed.l0 k L 0 0) else some (0, false)
end
set_option maxHeartbeats 4000000 in
set_option maxRecDepth 100000 in
theorem formed_leaf (K N : Int) (S : ByteArray) (A : Option Addr) (c : Nat) (L : List S24) (w : World) (hr : Kd.C k24 w A L.length L) (hc : L.length ≤ c) (b : Bool) (hb : usedB K N S L = b) (hl : b = false ∨ K < 3) :
    Calls Try.prog 24 #[.agg #[.int .i64 K, .int .i64 N, .string S, .slice A L.length c]] w fun e w' => e = .returned (.tuple #[.int .i64 0, .bool b]) ∧ Below w.heap.size w w' := by
  have HR := Aside0.mk hr
  clear hr
  have hu24 := Try.underlying24
  by_cases k1 : K < 1
  · have e : b = false := by rw [← hb]; unfold usedB; rw [if_neg (by omega), if_neg (by omega), if_neg (by omega)]
    subst e
    clear hb hl
    go_enter Try.func24, Try.ntmps24
    go_wp2
    all_goals refine bodyPost_ret (v := .tuple #[.int .i64 0, .bool false]) (by simp [results, Try.results24, go_sem]) rfl ⟨rfl, ?_⟩
    all_goals exact below_alloc (below_alloc (Below.refl _ _) _) _
  by_cases k2 : K > 3
  · have e : b = false := by rw [← hb]; unfold usedB; rw [if_neg (by omega), if_neg (by omega), if_neg (by omega)]
    subst e
    clear hb hl
    go_enter Try.func24, Try.ntmps24
    go_wp2
    all_goals refine bodyPost_ret (v := .tuple #[.int .i64 0, .bool false]) (by simp [results, Try.results24, go_sem]) rfl ⟨rfl, ?_⟩
    all_goals exact below_alloc (below_alloc (Below.refl _ _) _) _
  have k3 : K = 1 ∨ K = 2 ∨ K = 3 := by omega
  clear k1 k2
  rcases k3 with rfl | rfl | rfl
  · by_cases hS : S.toList = [] <;> by_cases hL : (L.length : Int) = 0 <;> by_cases hN : N = 0
    · have hSb : S.toList.isEmpty = true := by simpa using hS
      have hLb : ((L.length : Int) == 0) = true := by simpa using hL
      have hNb : (N == 0) = true := by simpa using hN
      have e : b = true := by rw [← hb]; unfold usedB; simp only [hSb, hL, hN]; rfl
      subst e
      clear hb hl
      go_enter Try.func24, Try.ntmps24
      go_wp2
      all_goals refine bodyPost_ret (v := .tuple #[.int .i64 0, .bool true]) (by simp [results, Try.results24, go_sem]) rfl ⟨rfl, ?_⟩
      all_goals exact below_alloc (below_alloc (Below.refl _ _) _) _
    · have hSb : S.toList.isEmpty = true := by simpa using hS
      have hLb : ((L.length : Int) == 0) = true := by simpa using hL
      have hNb : (N == 0) = false := by simpa using hN
      have e : b = true := by rw [← hb]; unfold usedB; simp only [hSb, hL, hN]; rfl
      subst e
      clear hb hl
      go_enter Try.func24, Try.ntmps24
      go_wp2
      all_goals refine bodyPost_ret (v := .tuple #[.int .i64 0, .bool true]) (by simp [results, Try.results24, go_sem]) rfl ⟨rfl, ?_⟩
      all_goals exact below_alloc (below_alloc (Below.refl _ _) _) _
    · have hSb : S.toList.isEmpty = true := by simpa using hS
      have hLb : ((L.length : Int) == 0) = false := by simpa using hL
      have hNb : (N == 0) = true := by simpa using hN
      have e : b = false := by rw [← hb]; unfold usedB; simp only [hSb, hL, hN]; rfl
      subst e
      clear hb hl
      go_enter Try.func24, Try.ntmps24
      go_wp2
      all_goals refine bodyPost_ret (v := .tuple #[.int .i64 0, .bool false]) (by simp [results, Try.results24, go_sem]) rfl ⟨rfl, ?_⟩
      all_goals exact below_alloc (below_alloc (Below.refl _ _) _) _
    · have hSb : S.toList.isEmpty = true := by simpa using hS
      have hLb : ((L.length : Int) == 0) = false := by simpa using hL
      have hNb : (N == 0) = false := by simpa using hN
      have e : b = false := by rw [← hb]; unfold usedB; simp only [hSb, hL, hN]; rfl
      subst e
      clear hb hl
      go_enter Try.func24, Try.ntmps24
      go_wp2
      all_goals refine bodyPost_ret (v := .tuple #[.int .i64 0, .bool false]) (by simp [results, Try.results24, go_sem]) rfl ⟨rfl, ?_⟩
      all_goals exact below_alloc (below_alloc (Below.refl _ _) _) _
    · have hSb : S.toList.isEmpty = false := by simpa using hS
      have hLb : ((L.length : Int) == 0) = true := by simpa using hL
      have hNb : (N == 0) = true := by simpa using hN
      have e : b = false := by rw [← hb]; unfold usedB; simp only [hSb, hL, hN]; rfl
      subst e
      clear hb hl
      go_enter Try.func24, Try.ntmps24
      go_wp2
      all_goals refine bodyPost_ret (v := .tuple #[.int .i64 0, .bool false]) (by simp [results, Try.results24, go_sem]) rfl ⟨rfl, ?_⟩
      all_goals exact below_alloc (below_alloc (Below.refl _ _) _) _
    · have hSb : S.toList.isEmpty = false := by simpa using hS
      have hLb : ((L.length : Int) == 0) = true := by simpa using hL
      have hNb : (N == 0) = false := by simpa using hN
      have e : b = false := by rw [← hb]; unfold usedB; simp only [hSb, hL, hN]; rfl
      subst e
      clear hb hl
      go_enter Try.func24, Try.ntmps24
      go_wp2
      all_goals refine bodyPost_ret (v := .tuple #[.int .i64 0, .bool false]) (by simp [results, Try.results24, go_sem]) rfl ⟨rfl, ?_⟩
      all_goals exact below_alloc (below_alloc (Below.refl _ _) _) _
    · have hSb : S.toList.isEmpty = false := by simpa using hS
      have hLb : ((L.length : Int) == 0) = false := by simpa using hL
      have hNb : (N == 0) = true := by simpa using hN
      have e : b = false := by rw [← hb]; unfold usedB; simp only [hSb, hL, hN]; rfl
      subst e
      clear hb hl
      go_enter Try.func24, Try.ntmps24
      go_wp2
      all_goals refine bodyPost_ret (v := .tuple #[.int .i64 0, .bool false]) (by simp [results, Try.results24, go_sem]) rfl ⟨rfl, ?_⟩
      all_goals exact below_alloc (below_alloc (Below.refl _ _) _) _
    · have hSb : S.toList.isEmpty = false := by simpa using hS
      have hLb : ((L.length : Int) == 0) = false := by simpa using hL
      have hNb : (N == 0) = false := by simpa using hN
      have e : b = false := by rw [← hb]; unfold usedB; simp only [hSb, hL, hN]; rfl
      subst e
      clear hb hl
      go_enter Try.func24, Try.ntmps24
      go_wp2
      all_goals refine bodyPost_ret (v := .tuple #[.int .i64 0, .bool false]) (by simp [results, Try.results24, go_sem]) rfl ⟨rfl, ?_⟩
      all_goals exact below_alloc (below_alloc (Below.refl _ _) _) _
  · by_cases hS : S.toList = [] <;> by_cases hL : (L.length : Int) = 0 <;> by_cases hN : N = 0
    · have hSb : S.toList.isEmpty = true := by simpa using hS
      have hLb : ((L.length : Int) == 0) = true := by simpa using hL
      have hNb : (N == 0) = true := by simpa using hN
      have e : b = true := by rw [← hb]; unfold usedB; simp only [hSb, hL, hN]; rfl
      subst e
      clear hb hl
      go_enter Try.func24, Try.ntmps24
      go_wp2
      all_goals refine bodyPost_ret (v := .tuple #[.int .i64 0, .bool true]) (by simp [results, Try.results24, go_sem]) rfl ⟨rfl, ?_⟩
      all_goals exact below_alloc (below_alloc (Below.refl _ _) _) _
    · have hSb : S.toList.isEmpty = true := by simpa using hS
      have hLb : ((L.length : Int) == 0) = true := by simpa using hL
      have hNb : (N == 0) = false := by simpa using hN
      have e : b = false := by rw [← hb]; unfold usedB; simp only [hSb, hL, hN]; rfl
      subst e
      clear hb hl
      go_enter Try.func24, Try.ntmps24
      go_wp2
      all_goals refine bodyPost_ret (v := .tuple #[.int .i64 0, .bool false]) (by simp [results, Try.results24, go_sem]) rfl ⟨rfl, ?_⟩
      all_goals exact below_alloc (below_alloc (Below.refl _ _) _) _
    · have hSb : S.toList.isEmpty = true := by simpa using hS
      have hLb : ((L.length : Int) == 0) = false := by simpa using hL
      have hNb : (N == 0) = true := by simpa using hN
      have e : b = false := by rw [← hb]; unfold usedB; simp only [hSb, hL, hN]; rfl
      subst e
      clear hb hl
      go_enter Try.func24, Try.ntmps24
      go_wp2
      all_goals refine bodyPost_ret (v := .tuple #[.int .i64 0, .bool false]) (by simp [results, Try.results24, go_sem]) rfl ⟨rfl, ?_⟩
      all_goals exact below_alloc (below_alloc (Below.refl _ _) _) _
    · have hSb : S.toList.isEmpty = true := by simpa using hS
      have hLb : ((L.length : Int) == 0) = false := by simpa using hL
      have hNb : (N == 0) = false := by simpa using hN
      have e : b = false := by rw [← hb]; unfold usedB; simp only [hSb, hL, hN]; rfl
      subst e
      clear hb hl
      go_enter Try.func24, Try.ntmps24
      go_wp2
      all_goals refine bodyPost_ret (v := .tuple #[.int .i64 0, .bool false]) (by simp [results, Try.results24, go_sem]) rfl ⟨rfl, ?_⟩
      all_goals exact below_alloc (below_alloc (Below.refl _ _) _) _
    · have hSb : S.toList.isEmpty = false := by simpa using hS
      have hLb : ((L.length : Int) == 0) = true := by simpa using hL
      have hNb : (N == 0) = true := by simpa using hN
      have e : b = true := by rw [← hb]; unfold usedB; simp only [hSb, hL, hN]; rfl
      subst e
      clear hb hl
      go_enter Try.func24, Try.ntmps24
      go_wp2
      all_goals refine bodyPost_ret (v := .tuple #[.int .i64 0, .bool true]) (by simp [results, Try.results24, go_sem]) rfl ⟨rfl, ?_⟩
      all_goals exact below_alloc (below_alloc (Below.refl _ _) _) _
    · have hSb : S.toList.isEmpty = false := by simpa using hS
      have hLb : ((L.length : Int) == 0) = true := by simpa using hL
      have hNb : (N == 0) = false := by simpa using hN
      have e : b = false := by rw [← hb]; unfold usedB; simp only [hSb, hL, hN]; rfl
      subst e
      clear hb hl
      go_enter Try.func24, Try.ntmps24
      go_wp2
      all_goals refine bodyPost_ret (v := .tuple #[.int .i64 0, .bool false]) (by simp [results, Try.results24, go_sem]) rfl ⟨rfl, ?_⟩
      all_goals exact below_alloc (below_alloc (Below.refl _ _) _) _
    · have hSb : S.toList.isEmpty = false := by simpa using hS
      have hLb : ((L.length : Int) == 0) = false := by simpa using hL
      have hNb : (N == 0) = true := by simpa using hN
      have e : b = false := by rw [← hb]; unfold usedB; simp only [hSb, hL, hN]; rfl
      subst e
      clear hb hl
      go_enter Try.func24, Try.ntmps24
      go_wp2
      all_goals refine bodyPost_ret (v := .tuple #[.int .i64 0, .bool false]) (by simp [results, Try.results24, go_sem]) rfl ⟨rfl, ?_⟩
      all_goals exact below_alloc (below_alloc (Below.refl _ _) _) _
    · have hSb : S.toList.isEmpty = false := by simpa using hS
      have hLb : ((L.length : Int) == 0) = false := by simpa using hL
      have hNb : (N == 0) = false := by simpa using hN
      have e : b = false := by rw [← hb]; unfold usedB; simp only [hSb, hL, hN]; rfl
      subst e
      clear hb hl
      go_enter Try.func24, Try.ntmps24
      go_wp2
      all_goals refine bodyPost_ret (v := .tuple #[.int .i64 0, .bool false]) (by simp [results, Try.results24, go_sem]) rfl ⟨rfl, ?_⟩
      all_goals exact below_alloc (below_alloc (Below.refl _ _) _) _
  · by_cases hS : S.toList = [] <;> by_cases hL : (L.length : Int) = 0 <;> by_cases hN : N = 0
    · have hSb : S.toList.isEmpty = true := by simpa using hS
      have hLb : ((L.length : Int) == 0) = true := by simpa using hL
      have hNb : (N == 0) = true := by simpa using hN
      have e : b = true := by rw [← hb]; unfold usedB; simp only [hSb, hL, hN]; rfl
      subst e
      rcases hl with hl | hl <;> simp at hl
    · have hSb : S.toList.isEmpty = true := by simpa using hS
      have hLb : ((L.length : Int) == 0) = true := by simpa using hL
      have hNb : (N == 0) = false := by simpa using hN
      have e : b = false := by rw [← hb]; unfold usedB; simp only [hSb, hL, hN]; rfl
      subst e
      clear hb hl
      go_enter Try.func24, Try.ntmps24
      go_wp2
      all_goals refine bodyPost_ret (v := .tuple #[.int .i64 0, .bool false]) (by simp [results, Try.results24, go_sem]) rfl ⟨rfl, ?_⟩
      all_goals exact below_alloc (below_alloc (Below.refl _ _) _) _
    · have hSb : S.toList.isEmpty = true := by simpa using hS
      have hLb : ((L.length : Int) == 0) = false := by simpa using hL
      have hNb : (N == 0) = true := by simpa using hN
      have e : b = true := by rw [← hb]; unfold usedB; simp only [hSb, hL, hN]; rfl
      subst e
      rcases hl with hl | hl <;> simp at hl
    · have hSb : S.toList.isEmpty = true := by simpa using hS
      have hLb : ((L.length : Int) == 0) = false := by simpa using hL
      have hNb : (N == 0) = false := by simpa using hN
      have e : b = false := by rw [← hb]; unfold usedB; simp only [hSb, hL, hN]; rfl
      subst e
      clear hb hl
      go_enter Try.func24, Try.ntmps24
      go_wp2
      all_goals refine bodyPost_ret (v := .tuple #[.int .i64 0, .bool false]) (by simp [results, Try.results24, go_sem]) rfl ⟨rfl, ?_⟩
      all_goals exact below_alloc (below_alloc (Below.refl _ _) _) _
    · have hSb : S.toList.isEmpty = false := by simpa using hS
      have hLb : ((L.length : Int) == 0) = true := by simpa using hL
      have hNb : (N == 0) = true := by simpa using hN
      have e : b = false := by rw [← hb]; unfold usedB; simp only [hSb, hL, hN]; rfl
      subst e
      clear hb hl
      go_enter Try.func24, Try.ntmps24
      go_wp2
      all_goals refine bodyPost_ret (v := .tuple #[.int .i64 0, .bool false]) (by simp [results, Try.results24, go_sem]) rfl ⟨rfl, ?_⟩
      all_goals exact below_alloc (below_alloc (Below.refl _ _) _) _
    · have hSb : S.toList.isEmpty = false := by simpa using hS
      have hLb : ((L.length : Int) == 0) = true := by simpa using hL
      have hNb : (N == 0) = false := by simpa using hN
      have e : b = false := by rw [← hb]; unfold usedB; simp only [hSb, hL, hN]; rfl
      subst e
      clear hb hl
      go_enter Try.func24, Try.ntmps24
      go_wp2
      all_goals refine bodyPost_ret (v := .tuple #[.int .i64 0, .bool false]) (by simp [results, Try.results24, go_sem]) rfl ⟨rfl, ?_⟩
      all_goals exact below_alloc (below_alloc (Below.refl _ _) _) _
    · have hSb : S.toList.isEmpty = false := by simpa using hS
      have hLb : ((L.length : Int) == 0) = false := by simpa using hL
      have hNb : (N == 0) = true := by simpa using hN
      have e : b = false := by rw [← hb]; unfold usedB; simp only [hSb, hL, hN]; rfl
      subst e
      clear hb hl
      go_enter Try.func24, Try.ntmps24
      go_wp2
      all_goals refine bodyPost_ret (v := .tuple #[.int .i64 0, .bool false]) (by simp [results, Try.results24, go_sem]) rfl ⟨rfl, ?_⟩
      all_goals exact below_alloc (below_alloc (Below.refl _ _) _) _
    · have hSb : S.toList.isEmpty = false := by simpa using hS
      have hLb : ((L.length : Int) == 0) = false := by simpa using hL
      have hNb : (N == 0) = false := by simpa using hN
      have e : b = false := by rw [← hb]; unfold usedB; simp only [hSb, hL, hN]; rfl
      subst e
      clear hb hl
      go_enter Try.func24, Try.ntmps24
      go_wp2
      all_goals refine bodyPost_ret (v := .tuple #[.int .i64 0, .bool false]) (by simp [results, Try.results24, go_sem]) rfl ⟨rfl, ?_⟩
      all_goals exact below_alloc (below_alloc (Below.refl _ _) _) _

end Go.Proofs.Ytncejmjicjlanaa.Q
