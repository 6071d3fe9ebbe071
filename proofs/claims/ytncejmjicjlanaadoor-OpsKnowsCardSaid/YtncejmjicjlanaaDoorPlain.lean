/- Plain facts about valid vectors (no program): lookups, merged pairs, extensionality. -/
import Derived.Test.YtncejmjicjlanaaDoorHandCompare
import Derived.Test.YtncejmjicjlanaaDoorHandAt
namespace Go.Proofs.YtncejmjicjlanaaDoor.Q
open Go.RowKit Go.Proofs.YtncejmjicjlanaaDoorW.PrintWords Go.Proofs.YtncejmjicjlanaaDoorW.PrintLast Go.Proofs.YtncejmjicjlanaaDoorW.PrintMore
set_option linter.unusedVariables false
set_option linter.unusedSimpArgs false

/-- A valid dot. -/
def Dot (x : S24) : Prop := 0 ≤ x.f0 ∧ x.f0 < 512 ∧ 1 ≤ x.f1 ∧ x.f1 ≤ 1048576
instance (x : S24) : Decidable (Dot x) := by unfold Dot; infer_instance
/-- A valid list of dots whose devices are all above p. -/
def okFrom : Int → List S24 → Prop
  | _, [] => True
  | p, x :: l => Dot x ∧ p < x.f0 ∧ okFrom x.f0 l
instance decOkFrom : (p : Int) → (l : List S24) → Decidable (okFrom p l)
  | _, [] => isTrue trivial
  | p, x :: l => by unfold okFrom; have := decOkFrom x.f0 l; infer_instance
abbrev Valid (l : List S24) : Prop := okFrom (-1) l

theorem okFrom_le {p q : Int} {l : List S24} (h : okFrom q l) (hpq : p ≤ q) : okFrom p l := by
  cases l with
  | nil => trivial
  | cons x l => exact ⟨h.1, by have := h.2.1; omega, h.2.2⟩
theorem atN_low {p : Int} {l : List S24} (h : okFrom p l) (d : Int) (hd : d ≤ p) : atN l d = 0 := by
  induction l generalizing p with
  | nil => rfl
  | cons x l ih =>
    have h1 := h.2.1
    rw [atN, if_neg (by omega)]
    exact ih h.2.2 (by omega)
theorem atN_nonneg {p : Int} {l : List S24} (h : okFrom p l) (d : Int) : 0 ≤ atN l d ∧ atN l d ≤ 1048576 := by
  induction l generalizing p with
  | nil => simp [atN]
  | cons x l ih =>
    rw [atN]
    obtain ⟨⟨_, _, h3, h4⟩, _, h5⟩ := h
    split
    · omega
    · exact ih h5
theorem ext_le {p : Int} {a b : List S24} (ha : okFrom p a) (hb : okFrom p b) (h : ∀ d, atN a d = atN b d) : a = b := by
  induction a generalizing p b with
  | nil =>
    cases b with
    | nil => rfl
    | cons y b =>
      have := h y.f0
      have := hb.1.2.2.1
      simp [atN] at *
      omega
  | cons x a ih =>
    cases b with
    | nil =>
      have := h x.f0
      have := ha.1.2.2.1
      simp [atN] at *
      omega
    | cons y b =>
      have hx := ha.1.2.2.1
      have hy := hb.1.2.2.1
      have e : x.f0 = y.f0 := by
        rcases Int.lt_trichotomy x.f0 y.f0 with hl | hl | hl
        · have h1 := h x.f0
          rw [atN, if_pos rfl, atN, if_neg (by omega), atN_low hb.2.2 _ (by omega)] at h1
          omega
        · exact hl
        · have h1 := h y.f0
          rw [atN, if_neg (by omega), atN_low ha.2.2 _ (by omega), atN, if_pos rfl] at h1
          omega
      have e1 : x.f1 = y.f1 := by
        have h1 := h x.f0
        rw [atN, if_pos rfl, atN, if_pos e.symm] at h1
        exact h1
      have exy : x = y := by cases x; cases y; simp at *; omega
      subst exy
      congr 1
      refine ih ha.2.2 hb.2.2 fun d => ?_
      by_cases hd : x.f0 = d
      · rw [atN_low ha.2.2 d (by omega), atN_low hb.2.2 d (by omega)]
      · have h1 := h d
        rwa [atN, if_neg hd, atN, if_neg hd] at h1

/-- Pairs in order of their devices, above p, with numbers in range. -/
def okP : Int → List (Int × Int × Int) → Prop
  | _, [] => True
  | p, x :: l => (0 ≤ x.1 ∧ x.1 < 512 ∧ 0 ≤ x.2.1 ∧ x.2.1 ≤ 1048576 ∧ 0 ≤ x.2.2 ∧ x.2.2 ≤ 1048576 ∧ (1 ≤ x.2.1 ∨ 1 ≤ x.2.2)) ∧ p < x.1 ∧ okP x.1 l
theorem okP_le {p q : Int} {l : List (Int × Int × Int)} (h : okP q l) (hpq : p ≤ q) : okP p l := by
  cases l with
  | nil => trivial
  | cons x l => exact ⟨h.1, by have := h.2.1; omega, h.2.2⟩
/-- The numbers of a device in a list of pairs. -/
def look : List (Int × Int × Int) → Int → Int × Int
  | [], _ => (0, 0)
  | x :: l, d => if x.1 = d then x.2 else look l d
theorem look_low {p : Int} {l : List (Int × Int × Int)} (h : okP p l) (d : Int) (hd : d ≤ p) : look l d = (0, 0) := by
  induction l generalizing p with
  | nil => rfl
  | cons x l ih =>
    have h1 := h.2.1
    rw [look, if_neg (by omega)]
    exact ih h.2.2 (by omega)
theorem prs_ok (p : Int) (a b : List S24) (ha : okFrom p a) (hb : okFrom p b) : okP p (prs a b) ∧ (∀ d, look (prs a b) d = (atN a d, atN b d)) ∧ (prs a b).length ≤ a.length + b.length := by
  induction a, b using prs.induct generalizing p with
  | case1 => simp [prs, okP, look, atN]
  | case2 x a ih =>
    obtain ⟨i1, i2, i3⟩ := ih x.f0 ha.2.2 trivial
    obtain ⟨⟨h1, h2, h3, h4⟩, h5, h6⟩ := ha
    rw [prs_l]
    refine ⟨⟨⟨h1, h2, by show (0 : Int) ≤ x.f1; omega, h4, by simp, by simp, .inl h3⟩, h5, i1⟩, fun d => ?_, by simp at i3 ⊢; omega⟩
    simp only [look, atN]
    split
    · rfl
    · exact i2 d
  | case3 y b ih =>
    obtain ⟨i1, i2, i3⟩ := ih y.f0 trivial hb.2.2
    obtain ⟨⟨h1, h2, h3, h4⟩, h5, h6⟩ := hb
    rw [prs_r]
    refine ⟨⟨⟨h1, h2, by simp, by simp, by show (0 : Int) ≤ y.f1; omega, h4, .inr h3⟩, h5, i1⟩, fun d => ?_, by simp at i3 ⊢; omega⟩
    simp only [look, atN]
    split
    · rfl
    · exact i2 d
  | case4 x a y b hlt ih =>
    obtain ⟨i1, i2, i3⟩ := ih x.f0 ha.2.2 ⟨hb.1, hlt, hb.2.2⟩
    obtain ⟨⟨h1, h2, h3, h4⟩, h5, h6⟩ := ha
    rw [prs_lt _ _ hlt]
    refine ⟨⟨⟨h1, h2, by show (0 : Int) ≤ x.f1; omega, h4, by simp, by simp, .inl h3⟩, h5, i1⟩, fun d => ?_, by simp at i3 ⊢; omega⟩
    rw [look, atN]
    dsimp only
    split
    · rename_i hd
      rw [atN, if_neg (by omega), atN_low hb.2.2 d (by omega)]
    · exact i2 d
  | case5 x a y b hge hlt ih =>
    obtain ⟨i1, i2, i3⟩ := ih y.f0 ⟨ha.1, hlt, ha.2.2⟩ hb.2.2
    obtain ⟨⟨h1, h2, h3, h4⟩, h5, h6⟩ := hb
    rw [prs_gt _ _ hlt]
    refine ⟨⟨⟨h1, h2, by simp, by simp, by show (0 : Int) ≤ y.f1; omega, h4, .inr h3⟩, h5, i1⟩, fun d => ?_, by simp at i3 ⊢; omega⟩
    rw [look]
    dsimp only
    split
    · rename_i hd
      rw [atN, if_neg (by omega), atN_low ha.2.2 d (by omega), atN, if_pos hd]
    · rename_i hd
      rw [i2 d, atN.eq_def (y :: b)]
      simp [hd]
  | case6 x a y b h1' h2' ih =>
    have e : y.f0 = x.f0 := by omega
    obtain ⟨i1, i2, i3⟩ := ih x.f0 ha.2.2 (e ▸ hb.2.2)
    obtain ⟨⟨h1, h2, h3, h4⟩, h5, h6⟩ := ha
    obtain ⟨⟨g1, g2, g3, g4⟩, g5, g6⟩ := hb
    rw [prs_eq _ _ (by omega) (by omega)]
    refine ⟨⟨⟨h1, h2, by show (0 : Int) ≤ x.f1; omega, h4, by show (0 : Int) ≤ y.f1; omega, g4, .inl h3⟩, h5, i1⟩, fun d => ?_, by simp at i3 ⊢; omega⟩
    rw [look, atN, atN, e]
    dsimp only
    split
    · rfl
    · exact i2 d

/-- What a rule keeps of ordered pairs. -/
theorem mrg_ok (tk : Int → Int → Int) (h0 : tk 0 0 = 0) (hn : ∀ x y, 0 ≤ x → 0 ≤ y → 0 ≤ tk x y) (hm : ∀ x y, x ≤ 1048576 → y ≤ 1048576 → tk x y ≤ 1048576) (p : Int) (l : List (Int × Int × Int)) (h : okP p l) :
    okFrom p (mrg tk l) ∧ ∀ d, atN (mrg tk l) d = tk (look l d).1 (look l d).2 := by
  induction l generalizing p with
  | nil => exact ⟨trivial, fun d => by simp [mrg, atN, look, h0]⟩
  | cons x l ih =>
    obtain ⟨⟨a1, a2, a3, a4, a5, a6, a7⟩, a8, a9⟩ := h
    obtain ⟨i1, i2⟩ := ih x.1 a9
    have hmr : mrg tk (x :: l) = keepP tk x ++ mrg tk l := by simp [mrg]
    have n1 := hn _ _ a3 a5
    have n2 := hm _ _ a4 a6
    rw [hmr]
    by_cases hk : 0 < tk x.2.1 x.2.2
    · rw [keepP, if_pos hk]
      refine ⟨⟨⟨a1, a2, by show (1 : Int) ≤ tk x.2.1 x.2.2; omega, n2⟩, a8, i1⟩, fun d => ?_⟩
      show atN (⟨x.1, tk x.2.1 x.2.2⟩ :: mrg tk l) d = _
      rw [atN, look]
      dsimp only
      split
      · rfl
      · exact i2 d
    · rw [keepP, if_neg hk]
      refine ⟨okFrom_le i1 (by omega), fun d => ?_⟩
      show atN (mrg tk l) d = _
      rw [look]
      split
      · rename_i hd
        rw [atN_low i1 d (by omega)]
        omega
      · exact i2 d
theorem lessB_ok (p : Int) (l : List (Int × Int × Int)) (h : okP p l) : lessB l = false ↔ ∀ d, (look l d).2 ≤ (look l d).1 := by
  induction l generalizing p with
  | nil => simp [lessB, look]
  | cons x l ih =>
    have ih := ih x.1 h.2.2
    have hl : lessB (x :: l) = (decide (x.2.1 < x.2.2) || lessB l) := by simp [lessB]
    rw [hl]
    constructor
    · intro hh d
      simp at hh
      rw [look]
      split
      · omega
      · exact ih.mp hh.2 d
    · intro hh
      have h1 := hh x.1
      rw [look, if_pos rfl] at h1
      simp
      refine ⟨h1, ih.mpr fun d => ?_⟩
      have h2 := hh d
      rw [look] at h2
      split at h2
      · rename_i hd
        rw [look_low h.2.2 d (by omega)]
        simp
      · exact h2
theorem moreB_ok (p : Int) (l : List (Int × Int × Int)) (h : okP p l) : moreB l = false ↔ ∀ d, (look l d).1 ≤ (look l d).2 := by
  induction l generalizing p with
  | nil => simp [moreB, look]
  | cons x l ih =>
    have ih := ih x.1 h.2.2
    have hl : moreB (x :: l) = (decide (x.2.2 < x.2.1) || moreB l) := by simp [moreB]
    rw [hl]
    constructor
    · intro hh d
      simp at hh
      rw [look]
      split
      · omega
      · exact ih.mp hh.2 d
    · intro hh
      have h1 := hh x.1
      rw [look, if_pos rfl] at h1
      simp
      refine ⟨h1, ih.mpr fun d => ?_⟩
      have h2 := hh d
      rw [look] at h2
      split at h2
      · rename_i hd
        rw [look_low h.2.2 d (by omega)]
        simp
      · exact h2

/-- A vector is at most another one. -/
def Le (a b : List S24) : Prop := ∀ d, atN a d ≤ atN b d
theorem mx_eq (a b : Int) : mx a b = max a b := by unfold mx; omega
theorem mn_eq (a b : Int) : mn a b = min a b := by unfold mn; omega
theorem join_valid {a b : List S24} (ha : Valid a) (hb : Valid b) : Valid (mrg mx (prs a b)) :=
  (mrg_ok mx rfl (fun x y h1 h2 => by rw [mx_eq]; omega) (fun x y h1 h2 => by rw [mx_eq]; omega) _ _ (prs_ok _ a b ha hb).1).1
theorem join_at {a b : List S24} (ha : Valid a) (hb : Valid b) (d : Int) : atN (mrg mx (prs a b)) d = max (atN a d) (atN b d) := by
  rw [(mrg_ok mx rfl (fun x y h1 h2 => by rw [mx_eq]; omega) (fun x y h1 h2 => by rw [mx_eq]; omega) _ _ (prs_ok _ a b ha hb).1).2 d, (prs_ok _ a b ha hb).2.1 d, mx_eq]
theorem meet_valid {a b : List S24} (ha : Valid a) (hb : Valid b) : Valid (mrg mn (prs a b)) :=
  (mrg_ok mn rfl (fun x y h1 h2 => by rw [mn_eq]; omega) (fun x y h1 h2 => by rw [mn_eq]; omega) _ _ (prs_ok _ a b ha hb).1).1
theorem meet_at {a b : List S24} (ha : Valid a) (hb : Valid b) (d : Int) : atN (mrg mn (prs a b)) d = min (atN a d) (atN b d) := by
  rw [(mrg_ok mn rfl (fun x y h1 h2 => by rw [mn_eq]; omega) (fun x y h1 h2 => by rw [mn_eq]; omega) _ _ (prs_ok _ a b ha hb).1).2 d, (prs_ok _ a b ha hb).2.1 d, mn_eq]
theorem less_iff {a b : List S24} (ha : Valid a) (hb : Valid b) : lessB (prs a b) = false ↔ Le b a := by
  rw [lessB_ok _ _ (prs_ok _ a b ha hb).1]
  refine forall_congr' fun d => ?_
  rw [(prs_ok _ a b ha hb).2.1 d]
theorem more_iff {a b : List S24} (ha : Valid a) (hb : Valid b) : moreB (prs a b) = false ↔ Le a b := by
  rw [moreB_ok _ _ (prs_ok _ a b ha hb).1]
  refine forall_congr' fun d => ?_
  rw [(prs_ok _ a b ha hb).2.1 d]
theorem mrg_len (tk : Int → Int → Int) {a b : List S24} (ha : Valid a) (hb : Valid b) : (mrg tk (prs a b)).length ≤ a.length + b.length :=
  Nat.le_trans (filterMap_le tk _) (prs_ok _ a b ha hb).2.2
theorem valid_ext {a b : List S24} (ha : Valid a) (hb : Valid b) (h : ∀ d, atN a d = atN b d) : a = b := ext_le ha hb h
end Go.Proofs.YtncejmjicjlanaaDoor.Q
