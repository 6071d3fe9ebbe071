/- Contract of codec.formed. Rendered out of seat A's texts by cod.py of this session. -/
import Derived.Test.YtncejmjicjlanaaDoorQ0
namespace Go.Proofs.YtncejmjicjlanaaDoor.Q
section
set_option maxRecDepth 100000
open Go.RowKit Go.Proofs.YtncejmjicjlanaaDoorW.PrintWords Go.Proofs.YtncejmjicjlanaaDoorW.PrintLast Go.Proofs.YtncejmjicjlanaaDoorW.PrintMore
attribute [local go_sem] max2_int min2_int max_two min_two
set_option linter.unusedVariables false
set_option linter.unusedSimpArgs false

/-- Has a value only the fields that its kind uses? -/
def usedB (K N : Int) (S : ByteArray) (L : List S63) : Bool :=
  if K = 1 then (S.toList.isEmpty && decide ((L.length : Int) = 0)) else if K = 2 then (decide (N = 0) && decide ((L.length : Int) = 0)) else if K = 3 then (decide (N = 0) && S.toList.isEmpty) else false
mutual
def codec_formed.l0 : Nat → List S63 → Int → Int → Option (Int × Bool)
  | 0, _, _, _ => none
  | k + 1, L, i, d => if i < (L.length : Int) then (if 0 ≤ i then ((codec_formed.f k (rd_T63 L i).f0 (rd_T63 L i).f1 (rd_T63 L i).f2 (rd_T63 L i).f3).bind fun t => if t.2 = true then codec_formed.l0 k L (wrap64 (i + 1)) (mx d t.1) else some (0, false)) else none) else some (wrap64 (d + 1), true)
def codec_formed.f : Nat → Int → Int → ByteArray → List S63 → Option (Int × Bool)
  | 0, _, _, _, _ => none
  | k + 1, K, N, S, L => if usedB K N S L = true then (if K < 3 then some (0, true) else codec_formed.l0 k L 0 0) else some (0, false)
end
set_option maxHeartbeats 4000000 in
set_option maxRecDepth 100000 in
theorem formed_leaf (K N : Int) (S : ByteArray) (A : Option Addr) (c : Nat) (L : List S63) (w : World) (hr : Kd.C k63 w A L.length L) (hc : L.length ≤ c) (b : Bool) (hb : usedB K N S L = b) (hl : b = false ∨ K < 3) :
    Calls Tryd.prog 103 #[.agg #[.int .i64 K, .int .i64 N, .string S, .slice A L.length c]] w fun e w' => e = .returned (.tuple #[.int .i64 0, .bool b]) ∧ Below w.heap.size w w' := by
  have HR := Aside0.mk hr
  clear hr
  have hu63 := Tryd.underlying63
  by_cases k1 : K < 1
  · have e : b = false := by rw [← hb]; unfold usedB; rw [if_neg (by omega), if_neg (by omega), if_neg (by omega)]
    subst e
    clear hb hl
    go_enter Tryd.func103, Tryd.ntmps103
    go_wp2
    all_goals refine bodyPost_ret (v := .tuple #[.int .i64 0, .bool false]) (by simp [results, Tryd.results103, go_sem]) rfl ⟨rfl, ?_⟩
    all_goals exact below_alloc (below_alloc (Below.refl _ _) _) _
  by_cases k2 : K > 3
  · have e : b = false := by rw [← hb]; unfold usedB; rw [if_neg (by omega), if_neg (by omega), if_neg (by omega)]
    subst e
    clear hb hl
    go_enter Tryd.func103, Tryd.ntmps103
    go_wp2
    all_goals refine bodyPost_ret (v := .tuple #[.int .i64 0, .bool false]) (by simp [results, Tryd.results103, go_sem]) rfl ⟨rfl, ?_⟩
    all_goals exact below_alloc (below_alloc (Below.refl _ _) _) _
  have k3 : K = 1 ∨ K = 2 ∨ K = 3 := by omega
  clear k1 k2
  rcases k3 with rfl | rfl | rfl
  · by_cases hS : S.toList = [] <;> by_cases hL : (L.length : Int) = 0 <;> by_cases hN : N = 0
    · have hSb : S.toList.isEmpty = true := by simpa using hS
      have hLb : ((L.length : Int) == 0) = true := by simpa using hL
      have hNb : (N == 0) = true := by simpa using hN
      have e : b = true := by rw [← hb]; unfold usedB; simp only [hSb, hL, hN]; rfl
      subst e
      clear hb hl
      go_enter Tryd.func103, Tryd.ntmps103
      go_wp2
      all_goals refine bodyPost_ret (v := .tuple #[.int .i64 0, .bool true]) (by simp [results, Tryd.results103, go_sem]) rfl ⟨rfl, ?_⟩
      all_goals exact below_alloc (below_alloc (Below.refl _ _) _) _
    · have hSb : S.toList.isEmpty = true := by simpa using hS
      have hLb : ((L.length : Int) == 0) = true := by simpa using hL
      have hNb : (N == 0) = false := by simpa using hN
      have e : b = true := by rw [← hb]; unfold usedB; simp only [hSb, hL, hN]; rfl
      subst e
      clear hb hl
      go_enter Tryd.func103, Tryd.ntmps103
      go_wp2
      all_goals refine bodyPost_ret (v := .tuple #[.int .i64 0, .bool true]) (by simp [results, Tryd.results103, go_sem]) rfl ⟨rfl, ?_⟩
      all_goals exact below_alloc (below_alloc (Below.refl _ _) _) _
    · have hSb : S.toList.isEmpty = true := by simpa using hS
      have hLb : ((L.length : Int) == 0) = false := by simpa using hL
      have hNb : (N == 0) = true := by simpa using hN
      have e : b = false := by rw [← hb]; unfold usedB; simp only [hSb, hL, hN]; rfl
      subst e
      clear hb hl
      go_enter Tryd.func103, Tryd.ntmps103
      go_wp2
      all_goals refine bodyPost_ret (v := .tuple #[.int .i64 0, .bool false]) (by simp [results, Tryd.results103, go_sem]) rfl ⟨rfl, ?_⟩
      all_goals exact below_alloc (below_alloc (Below.refl _ _) _) _
    · have hSb : S.toList.isEmpty = true := by simpa using hS
      have hLb : ((L.length : Int) == 0) = false := by simpa using hL
      have hNb : (N == 0) = false := by simpa using hN
      have e : b = false := by rw [← hb]; unfold usedB; simp only [hSb, hL, hN]; rfl
      subst e
      clear hb hl
      go_enter Tryd.func103, Tryd.ntmps103
      go_wp2
      all_goals refine bodyPost_ret (v := .tuple #[.int .i64 0, .bool false]) (by simp [results, Tryd.results103, go_sem]) rfl ⟨rfl, ?_⟩
      all_goals exact below_alloc (below_alloc (Below.refl _ _) _) _
    · have hSb : S.toList.isEmpty = false := by simpa using hS
      have hLb : ((L.length : Int) == 0) = true := by simpa using hL
      have hNb : (N == 0) = true := by simpa using hN
      have e : b = false := by rw [← hb]; unfold usedB; simp only [hSb, hL, hN]; rfl
      subst e
      clear hb hl
      go_enter Tryd.func103, Tryd.ntmps103
      go_wp2
      all_goals refine bodyPost_ret (v := .tuple #[.int .i64 0, .bool false]) (by simp [results, Tryd.results103, go_sem]) rfl ⟨rfl, ?_⟩
      all_goals exact below_alloc (below_alloc (Below.refl _ _) _) _
    · have hSb : S.toList.isEmpty = false := by simpa using hS
      have hLb : ((L.length : Int) == 0) = true := by simpa using hL
      have hNb : (N == 0) = false := by simpa using hN
      have e : b = false := by rw [← hb]; unfold usedB; simp only [hSb, hL, hN]; rfl
      subst e
      clear hb hl
      go_enter Tryd.func103, Tryd.ntmps103
      go_wp2
      all_goals refine bodyPost_ret (v := .tuple #[.int .i64 0, .bool false]) (by simp [results, Tryd.results103, go_sem]) rfl ⟨rfl, ?_⟩
      all_goals exact below_alloc (below_alloc (Below.refl _ _) _) _
    · have hSb : S.toList.isEmpty = false := by simpa using hS
      have hLb : ((L.length : Int) == 0) = false := by simpa using hL
      have hNb : (N == 0) = true := by simpa using hN
      have e : b = false := by rw [← hb]; unfold usedB; simp only [hSb, hL, hN]; rfl
      subst e
      clear hb hl
      go_enter Tryd.func103, Tryd.ntmps103
      go_wp2
      all_goals refine bodyPost_ret (v := .tuple #[.int .i64 0, .bool false]) (by simp [results, Tryd.results103, go_sem]) rfl ⟨rfl, ?_⟩
      all_goals exact below_alloc (below_alloc (Below.refl _ _) _) _
    · have hSb : S.toList.isEmpty = false := by simpa using hS
      have hLb : ((L.length : Int) == 0) = false := by simpa using hL
      have hNb : (N == 0) = false := by simpa using hN
      have e : b = false := by rw [← hb]; unfold usedB; simp only [hSb, hL, hN]; rfl
      subst e
      clear hb hl
      go_enter Tryd.func103, Tryd.ntmps103
      go_wp2
      all_goals refine bodyPost_ret (v := .tuple #[.int .i64 0, .bool false]) (by simp [results, Tryd.results103, go_sem]) rfl ⟨rfl, ?_⟩
      all_goals exact below_alloc (below_alloc (Below.refl _ _) _) _
  · by_cases hS : S.toList = [] <;> by_cases hL : (L.length : Int) = 0 <;> by_cases hN : N = 0
    · have hSb : S.toList.isEmpty = true := by simpa using hS
      have hLb : ((L.length : Int) == 0) = true := by simpa using hL
      have hNb : (N == 0) = true := by simpa using hN
      have e : b = true := by rw [← hb]; unfold usedB; simp only [hSb, hL, hN]; rfl
      subst e
      clear hb hl
      go_enter Tryd.func103, Tryd.ntmps103
      go_wp2
      all_goals refine bodyPost_ret (v := .tuple #[.int .i64 0, .bool true]) (by simp [results, Tryd.results103, go_sem]) rfl ⟨rfl, ?_⟩
      all_goals exact below_alloc (below_alloc (Below.refl _ _) _) _
    · have hSb : S.toList.isEmpty = true := by simpa using hS
      have hLb : ((L.length : Int) == 0) = true := by simpa using hL
      have hNb : (N == 0) = false := by simpa using hN
      have e : b = false := by rw [← hb]; unfold usedB; simp only [hSb, hL, hN]; rfl
      subst e
      clear hb hl
      go_enter Tryd.func103, Tryd.ntmps103
      go_wp2
      all_goals refine bodyPost_ret (v := .tuple #[.int .i64 0, .bool false]) (by simp [results, Tryd.results103, go_sem]) rfl ⟨rfl, ?_⟩
      all_goals exact below_alloc (below_alloc (Below.refl _ _) _) _
    · have hSb : S.toList.isEmpty = true := by simpa using hS
      have hLb : ((L.length : Int) == 0) = false := by simpa using hL
      have hNb : (N == 0) = true := by simpa using hN
      have e : b = false := by rw [← hb]; unfold usedB; simp only [hSb, hL, hN]; rfl
      subst e
      clear hb hl
      go_enter Tryd.func103, Tryd.ntmps103
      go_wp2
      all_goals refine bodyPost_ret (v := .tuple #[.int .i64 0, .bool false]) (by simp [results, Tryd.results103, go_sem]) rfl ⟨rfl, ?_⟩
      all_goals exact below_alloc (below_alloc (Below.refl _ _) _) _
    · have hSb : S.toList.isEmpty = true := by simpa using hS
      have hLb : ((L.length : Int) == 0) = false := by simpa using hL
      have hNb : (N == 0) = false := by simpa using hN
      have e : b = false := by rw [← hb]; unfold usedB; simp only [hSb, hL, hN]; rfl
      subst e
      clear hb hl
      go_enter Tryd.func103, Tryd.ntmps103
      go_wp2
      all_goals refine bodyPost_ret (v := .tuple #[.int .i64 0, .bool false]) (by simp [results, Tryd.results103, go_sem]) rfl ⟨rfl, ?_⟩
      all_goals exact below_alloc (below_alloc (Below.refl _ _) _) _
    · have hSb : S.toList.isEmpty = false := by simpa using hS
      have hLb : ((L.length : Int) == 0) = true := by simpa using hL
      have hNb : (N == 0) = true := by simpa using hN
      have e : b = true := by rw [← hb]; unfold usedB; simp only [hSb, hL, hN]; rfl
      subst e
      clear hb hl
      go_enter Tryd.func103, Tryd.ntmps103
      go_wp2
      all_goals refine bodyPost_ret (v := .tuple #[.int .i64 0, .bool true]) (by simp [results, Tryd.results103, go_sem]) rfl ⟨rfl, ?_⟩
      all_goals exact below_alloc (below_alloc (Below.refl _ _) _) _
    · have hSb : S.toList.isEmpty = false := by simpa using hS
      have hLb : ((L.length : Int) == 0) = true := by simpa using hL
      have hNb : (N == 0) = false := by simpa using hN
      have e : b = false := by rw [← hb]; unfold usedB; simp only [hSb, hL, hN]; rfl
      subst e
      clear hb hl
      go_enter Tryd.func103, Tryd.ntmps103
      go_wp2
      all_goals refine bodyPost_ret (v := .tuple #[.int .i64 0, .bool false]) (by simp [results, Tryd.results103, go_sem]) rfl ⟨rfl, ?_⟩
      all_goals exact below_alloc (below_alloc (Below.refl _ _) _) _
    · have hSb : S.toList.isEmpty = false := by simpa using hS
      have hLb : ((L.length : Int) == 0) = false := by simpa using hL
      have hNb : (N == 0) = true := by simpa using hN
      have e : b = false := by rw [← hb]; unfold usedB; simp only [hSb, hL, hN]; rfl
      subst e
      clear hb hl
      go_enter Tryd.func103, Tryd.ntmps103
      go_wp2
      all_goals refine bodyPost_ret (v := .tuple #[.int .i64 0, .bool false]) (by simp [results, Tryd.results103, go_sem]) rfl ⟨rfl, ?_⟩
      all_goals exact below_alloc (below_alloc (Below.refl _ _) _) _
    · have hSb : S.toList.isEmpty = false := by simpa using hS
      have hLb : ((L.length : Int) == 0) = false := by simpa using hL
      have hNb : (N == 0) = false := by simpa using hN
      have e : b = false := by rw [← hb]; unfold usedB; simp only [hSb, hL, hN]; rfl
      subst e
      clear hb hl
      go_enter Tryd.func103, Tryd.ntmps103
      go_wp2
      all_goals refine bodyPost_ret (v := .tuple #[.int .i64 0, .bool false]) (by simp [results, Tryd.results103, go_sem]) rfl ⟨rfl, ?_⟩
      all_goals exact below_alloc (below_alloc (Below.refl _ _) _) _
  · by_cases hS : S.toList = [] <;> by_cases hL : (L.length : Int) = 0 <;> by_cases hN : N = 0
    · have hSb : S.toList.isEmpty = true := by simpa using hS
      have hLb : ((L.length : Int) == 0) = true := by simpa using hL
      have hNb : (N == 0) = true := by simpa using hN
      have e : b = true := by rw [← hb]; unfold usedB; simp only [hSb, hL, hN]; rfl
      subst e
      rcases hl with hl | hl <;> simp at hl
    · have hSb : S.toList.isEmpty = true := by simpa using hS
      have hLb : ((L.length : Int) == 0) = true := by simpa using hL
      have hNb : (N == 0) = false := by simpa using hN
      have e : b = false := by rw [← hb]; unfold usedB; simp only [hSb, hL, hN]; rfl
      subst e
      clear hb hl
      go_enter Tryd.func103, Tryd.ntmps103
      go_wp2
      all_goals refine bodyPost_ret (v := .tuple #[.int .i64 0, .bool false]) (by simp [results, Tryd.results103, go_sem]) rfl ⟨rfl, ?_⟩
      all_goals exact below_alloc (below_alloc (Below.refl _ _) _) _
    · have hSb : S.toList.isEmpty = true := by simpa using hS
      have hLb : ((L.length : Int) == 0) = false := by simpa using hL
      have hNb : (N == 0) = true := by simpa using hN
      have e : b = true := by rw [← hb]; unfold usedB; simp only [hSb, hL, hN]; rfl
      subst e
      rcases hl with hl | hl <;> simp at hl
    · have hSb : S.toList.isEmpty = true := by simpa using hS
      have hLb : ((L.length : Int) == 0) = false := by simpa using hL
      have hNb : (N == 0) = false := by simpa using hN
      have e : b = false := by rw [← hb]; unfold usedB; simp only [hSb, hL, hN]; rfl
      subst e
      clear hb hl
      go_enter Tryd.func103, Tryd.ntmps103
      go_wp2
      all_goals refine bodyPost_ret (v := .tuple #[.int .i64 0, .bool false]) (by simp [results, Tryd.results103, go_sem]) rfl ⟨rfl, ?_⟩
      all_goals exact below_alloc (below_alloc (Below.refl _ _) _) _
    · have hSb : S.toList.isEmpty = false := by simpa using hS
      have hLb : ((L.length : Int) == 0) = true := by simpa using hL
      have hNb : (N == 0) = true := by simpa using hN
      have e : b = false := by rw [← hb]; unfold usedB; simp only [hSb, hL, hN]; rfl
      subst e
      clear hb hl
      go_enter Tryd.func103, Tryd.ntmps103
      go_wp2
      all_goals refine bodyPost_ret (v := .tuple #[.int .i64 0, .bool false]) (by simp [results, Tryd.results103, go_sem]) rfl ⟨rfl, ?_⟩
      all_goals exact below_alloc (below_alloc (Below.refl _ _) _) _
    · have hSb : S.toList.isEmpty = false := by simpa using hS
      have hLb : ((L.length : Int) == 0) = true := by simpa using hL
      have hNb : (N == 0) = false := by simpa using hN
      have e : b = false := by rw [← hb]; unfold usedB; simp only [hSb, hL, hN]; rfl
      subst e
      clear hb hl
      go_enter Tryd.func103, Tryd.ntmps103
      go_wp2
      all_goals refine bodyPost_ret (v := .tuple #[.int .i64 0, .bool false]) (by simp [results, Tryd.results103, go_sem]) rfl ⟨rfl, ?_⟩
      all_goals exact below_alloc (below_alloc (Below.refl _ _) _) _
    · have hSb : S.toList.isEmpty = false := by simpa using hS
      have hLb : ((L.length : Int) == 0) = false := by simpa using hL
      have hNb : (N == 0) = true := by simpa using hN
      have e : b = false := by rw [← hb]; unfold usedB; simp only [hSb, hL, hN]; rfl
      subst e
      clear hb hl
      go_enter Tryd.func103, Tryd.ntmps103
      go_wp2
      all_goals refine bodyPost_ret (v := .tuple #[.int .i64 0, .bool false]) (by simp [results, Tryd.results103, go_sem]) rfl ⟨rfl, ?_⟩
      all_goals exact below_alloc (below_alloc (Below.refl _ _) _) _
    · have hSb : S.toList.isEmpty = false := by simpa using hS
      have hLb : ((L.length : Int) == 0) = false := by simpa using hL
      have hNb : (N == 0) = false := by simpa using hN
      have e : b = false := by rw [← hb]; unfold usedB; simp only [hSb, hL, hN]; rfl
      subst e
      clear hb hl
      go_enter Tryd.func103, Tryd.ntmps103
      go_wp2
      all_goals refine bodyPost_ret (v := .tuple #[.int .i64 0, .bool false]) (by simp [results, Tryd.results103, go_sem]) rfl ⟨rfl, ?_⟩
      all_goals exact below_alloc (below_alloc (Below.refl _ _) _) _
end
section
set_option maxRecDepth 100000
open Go.RowKit Go.Proofs.YtncejmjicjlanaaDoorW.PrintWords Go.Proofs.YtncejmjicjlanaaDoorW.PrintLast Go.Proofs.YtncejmjicjlanaaDoorW.PrintMore
attribute [local go_sem] max2_int min2_int max_two min_two
set_option linter.unusedVariables false
set_option linter.unusedSimpArgs false

theorem codec_formed.mono_l : ∀ k, (∀ y0 y1 y2 y3, LeO (codec_formed.f k y0 y1 y2 y3) (codec_formed.f (k + 1) y0 y1 y2 y3)) ∧ (∀ y0 y1 y2, LeO (codec_formed.l0 k y0 y1 y2) (codec_formed.l0 (k + 1) y0 y1 y2))
  | 0 => ⟨fun _ _ _ _ r h => by simp [codec_formed.f] at h, fun _ _ _ r h => by simp [codec_formed.l0] at h⟩
  | k + 1 => by
    obtain ⟨ih0, ih1⟩ := codec_formed.mono_l k
    refine ⟨?_, ?_⟩
    · intro y0 y1 y2 y3
      unfold codec_formed.f
      refine LeO.ite (LeO.ite (LeO.refl _) (ih1 _ _ _)) (LeO.refl _)
    · intro y0 y1 y2
      unfold codec_formed.l0
      refine LeO.ite (LeO.ite (LeO.bind (ih0 _ _ _ _) (fun _ => LeO.ite (ih1 _ _ _) (LeO.refl _))) (LeO.none _)) (LeO.refl _)
theorem codec_formed.mono : ∀ a0 a1 a2 a3 k, LeO (codec_formed.f k a0 a1 a2 a3) (codec_formed.f (k + 1) a0 a1 a2 a3) := fun a0 a1 a2 a3 k => (codec_formed.mono_l k).1 a0 a1 a2 a3

set_option maxHeartbeats 4000000 in
set_option maxRecDepth 100000 in
theorem codec_formed.calls (k : Nat) : ∀ (a0_0 : Int) (a0_1 : Int) (a0_2 : ByteArray) (A0_3 : Option Addr) (c0_3 : Nat) (l0_3 : List (S63)) (r1 : Int) (r2 : Bool) (w : World) (hr0_3 : Kd.C k63 w A0_3 l0_3.length l0_3) (hc0_3 : l0_3.length ≤ c0_3) (h : codec_formed.f k a0_0 a0_1 a0_2 l0_3 = some (r1, r2)),
    Calls Tryd.prog 103 #[.agg #[.int .i64 a0_0, .int .i64 a0_1, .string a0_2, .slice A0_3 l0_3.length c0_3]] w fun e w' => e = .returned (.tuple #[.int .i64 r1, .bool r2]) ∧ Below w.heap.size w w' := by
  induction k using Nat.strongRecOn with
  | _ k ih =>
  intro K N S A c L r1 r2 w hr hc h
  cases k with
  | zero => exact absurd h (by simp [codec_formed.f])
  | succ k =>
  unfold codec_formed.f at h
  by_cases hu : usedB K N S L = true
  case neg =>
    rw [if_neg hu] at h
    injection h with h
    injection h with h1 h2
    subst h1; subst h2
    exact formed_leaf K N S A c L w hr hc false (by simpa using hu) (.inl rfl)
  rw [if_pos hu] at h
  by_cases hk3 : K < 3
  case pos =>
    rw [if_pos hk3] at h
    injection h with h
    injection h with h1 h2
    subst h1; subst h2
    exact formed_leaf K N S A c L w hr hc true hu (.inr hk3)
  rw [if_neg hk3] at h
  have hK : K = 3 ∧ N = 0 ∧ S.toList = [] := by
    unfold usedB at hu
    rw [if_neg (by omega), if_neg (by omega)] at hu
    by_cases h3 : K = 3
    · rw [if_pos h3] at hu
      simpa [h3] using hu
    · rw [if_neg h3] at hu
      simp at hu
  obtain ⟨rfl, rfl, hS⟩ := hK
  clear hu hk3
  have hSb : S.toList.isEmpty = true := by simpa using hS
  have HR := Aside0.mk hr
  have HC := Aside0.mk hc
  have H := Aside0.mk h
  clear hr hc h
  have hu63 := Tryd.underlying63
  have IH := Aside0.mk ih
  clear ih
  go_enter Tryd.func103, Tryd.ntmps103
  go_wp2_with fail
  go_loopg [2, 57] k (fun kq v2 v57 wr => ∃ (i d : Int), v2 = .int .i64 d ∧ v57 = .int .i64 i ∧ Aside0 (codec_formed.l0 kq L i d = some (r1, r2)) ∧ Aside0 (kq ≤ k) ∧ Aside0 (Below w.heap.size w wr))
  case atStart => exact ⟨0, 0, rfl, rfl, H, ⟨Nat.le_refl _⟩, ⟨below_alloc (below_alloc (Below.refl _ _) _) _⟩⟩
  case round =>
    clear H hS hSb
    obtain ⟨i, d, rfl, rfl, HA, HK1, HB⟩ := hrel
    cases gk with
    | zero => exact absurd HA.out (by simp [codec_formed.l0])
    | succ k1 =>
      have H := HA.out
      clear HA
      unfold codec_formed.l0 at H
      by_cases c17 : i < (L.length : Int)
      case neg =>
        rw [if_neg c17] at H
        injection H with H
        injection H with h1 h2
        subst h1; subst h2
        go_wp2
        refine bodyPost_ret (v := .tuple #[.int .i64 (wrap64 (d + 1)), .bool true]) (by simp [results, Tryd.results103, go_sem]) rfl ⟨rfl, HB.out⟩
      rw [if_pos c17] at H
      by_cases c18 : 0 ≤ i
      case neg => rw [if_neg c18] at H; cases H
      rw [if_pos c18] at H
      obtain ⟨⟨n, ok⟩, hf, H⟩ := Option.bind_eq_some_iff.mp H
      have HF := Aside0.mk hf
      have H := Aside0.mk H
      clear hf
      obtain ⟨ad, A3, c3, rfl, hx0, hx1, hx2, hx3, hl3, hi3⟩ := at_T63 (Kd.C_below HR.out HB.out) i c18 c17
      have HI3 := Aside0.mk hi3
      have HL3 := Aside0.mk hl3
      clear hi3 hl3
      go_wp2_with fail
      refine (IH.out k1 (by have := HK1.out; omega) _ _ _ A3 c3 _ n ok _ (Kd.C_below HI3.out (below_alloc (Below.refl _ _) _)) HL3.out HF.out).mono ?_
      rintro e w2 ⟨rfl, hb⟩
      have HB2 := Aside0.mk ((below_alloc HB.out _).trans (hb.mono (Nat.le_trans HB.out.size (by simp))))
      clear hb
      cases ok
      case false =>
        have HH := H.out
        rw [if_neg (by simp)] at HH
        injection HH with HH
        injection HH with h1 h2
        subst h1; subst h2
        go_wp2
        refine bodyPost_ret (v := .tuple #[.int .i64 0, .bool false]) (by simp [results, Tryd.results103, go_sem]) rfl ⟨rfl, HB2.out⟩
      case true =>
        have H2 : Aside0 (codec_formed.l0 k1 L (wrap64 (i + 1)) (mx d n) = some (r1, r2)) := ⟨by have HH := H.out; rwa [if_pos rfl] at HH⟩
        have HK2 : Aside0 (k1 ≤ k) := ⟨by have := HK1.out; omega⟩
        clear H
        by_cases hm : d < n
        · have H3 : Aside0 (codec_formed.l0 k1 L (wrap64 (i + 1)) n = some (r1, r2)) := ⟨by have HH := H2.out; rwa [show mx d n = n from if_pos hm] at HH⟩
          go_wp2_with fail
          go_roundg k1
          case measure => have := HK1.out; omega
          case rel => exact ⟨_, _, rfl, rfl, H3, HK2, HB2⟩
        · have H3 : Aside0 (codec_formed.l0 k1 L (wrap64 (i + 1)) d = some (r1, r2)) := ⟨by have HH := H2.out; rwa [show mx d n = d from if_neg hm] at HH⟩
          go_wp2_with fail
          go_roundg k1
          case measure => have := HK1.out; omega
          case rel => exact ⟨_, _, rfl, rfl, H3, HK2, HB2⟩
end
end Go.Proofs.YtncejmjicjlanaaDoor.Q
