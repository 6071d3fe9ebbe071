/- VectorJoinsSpec answers true, plain Lean. -/
import Derived.Test.YtncejmjicjlanaaDoorEvalJ
import Derived.Test.YtncejmjicjlanaaDoorQ11
namespace Go.Proofs.YtncejmjicjlanaaDoor.Q
open Go.RowKit Go.Proofs.YtncejmjicjlanaaDoorW.PrintWords Go.Proofs.YtncejmjicjlanaaDoorW.PrintLast Go.Proofs.YtncejmjicjlanaaDoorW.PrintMore
set_option linter.unusedVariables false
set_option linter.unusedSimpArgs false

def keepD (a b : List S24) (d : Int) : List S24 := if 0 < mn (atN a d) (atN b d) then [⟨d, mn (atN a d) (atN b d)⟩] else []
theorem keepD_len (a b : List S24) (d : Int) : (keepD a b d).length ≤ 1 := by
  unfold keepD
  split <;> simp
theorem rmeet_loop (a b : List S24) (ds : List Int) (ha : a.length ≤ 10000) (hb : b.length ≤ 10000) (hd : ds.length ≤ 20000) : ∀ (m k i : Nat) (acc : List S24), ds.length - i = m → i ≤ ds.length → acc.length + m ≤ 100000 → m + 10002 ≤ k →
    chartroomref12_Meet.l0 k a b ds acc i = some (acc ++ (ds.drop i).flatMap (keepD a b), 0)
  | 0, k + 1, i, acc, hm, hi, hl, hk => by
    have e : i = ds.length := by omega
    subst e
    rw [chartroomref12_Meet.l0, if_neg (by omega), List.drop_length]
    simp
  | m + 1, k + 1, i, acc, hm, hi, hl, hk => by
    have h : i < ds.length := by omega
    have hk1 := keepD_len a b (rd ds i)
    have ih := rmeet_loop a b ds ha hb hd m k (i + 1) (acc ++ keepD a b (rd ds i)) (by omega) (by omega) (by rw [List.length_append]; omega) (by omega)
    rw [chartroomref12_Meet.l0, if_pos (by omega), if_pos (by omega), rAt_eq k a _ (by omega) (by omega), Option.bind_some, rAt_eq k b _ (by omega) (by omega), Option.bind_some, w_add i (by omega), rd_nat ds i h]
    by_cases hp : 0 < mn (atN a (rd ds i)) (atN b (rd ds i))
    · have e : keepD a b (rd ds i) = [⟨rd ds i, mn (atN a (rd ds i)) (atN b (rd ds i))⟩] := if_pos hp
      rw [if_pos hp, if_pos (by omega), ← e, ih, List.flatMap_cons, List.append_assoc]
    · have e : keepD a b (rd ds i) = [] := if_neg hp
      rw [e, List.append_nil] at ih
      rw [if_neg hp, ih, List.flatMap_cons, e, List.nil_append]
theorem mrg_keepD (a b : List S24) (va : Valid a) (vb : Valid b) : mrg mn (prs a b) = ((prs a b).map (·.1)).flatMap (keepD a b) := by
  obtain ⟨hok, hlook, _⟩ := prs_ok (-1) a b va vb
  have hs := look_self hok
  have key : ∀ l : List (Int × Int × Int), (∀ q ∈ l, q ∈ prs a b) → mrg mn l = (l.map (·.1)).flatMap (keepD a b) := by
    intro l
    induction l with
    | nil => intro _; rfl
    | cons x l ih =>
      intro hl
      have e := hs x (hl x List.mem_cons_self)
      rw [hlook] at e
      have e1 : atN a x.1 = x.2.1 := congrArg Prod.fst e
      have e2 : atN b x.1 = x.2.2 := congrArg Prod.snd e
      have hmr : mrg mn (x :: l) = keepP mn x ++ mrg mn l := by simp [mrg]
      rw [hmr, ih (fun q hq => hl q (List.mem_cons_of_mem _ hq)), List.map_cons, List.flatMap_cons, keepP, keepD, e1, e2]
  exact key _ (fun _ h => h)
theorem rMeet_eq (k : Nat) (a b : List S24) (ha : a.length ≤ 1000) (hb : b.length ≤ 1000) (hk : 20000 ≤ k) :
    chartroomref12_Meet.f k a b = some (if chk2 a b = 0 then (mrg mn (prs a b), 0) else ([], chk2 a b)) := by
  unfold chartroomref12_Meet.f
  rw [rcheck_eq k a b (by omega) (by omega) (by omega) (by omega), Option.bind_some]
  by_cases h : chk2 a b = 0
  · obtain ⟨va, vb⟩ := chk2_zero.mp h
    have hp := (prs_ok _ a b va vb).2.2
    rw [if_pos h, if_pos h, devices_eq k a b va vb (by omega) (by omega) (by omega), Option.bind_some]
    have := rmeet_loop a b ((prs a b).map (·.1)) (by omega) (by omega) (by rw [List.length_map]; omega) _ k 0 [] rfl (by omega) (by rw [List.length_map]; simp; omega) (by rw [List.length_map]; omega)
    rw [List.drop_zero, List.nil_append] at this
    rw [mrg_keepD a b va vb]
    exact this
  · rw [if_neg h, if_neg h]

theorem most_loop (a b : List S24) (ha : a.length ≤ 10000) (hb : b.length ≤ 10000) : ∀ (m k i : Nat), a.length - i = m → i ≤ a.length → m + 10002 ≤ k →
    chartroomref12_Most.l0 k a b i = some (decide (∀ x ∈ a.drop i, x.f1 ≤ atN b x.f0))
  | 0, k + 1, i, hm, hi, hk => by
    have e : i = a.length := by omega
    subst e
    rw [chartroomref12_Most.l0, if_neg (by omega), List.drop_length]
    simp
  | m + 1, k + 1, i, hm, hi, hk => by
    have h : i < a.length := by omega
    have ih := most_loop a b ha hb m k (i + 1) (by omega) (by omega) (by omega)
    rw [chartroomref12_Most.l0, if_pos (by omega), if_pos (by omega), rAt_eq k b _ (by omega) (by omega), Option.bind_some, w_add i (by omega), ih, drop_rd a i h]
    by_cases hc : (rd_T24 a i).f1 > atN b (rd_T24 a i).f0
    · rw [if_pos hc]
      congr 1
      symm
      apply decide_eq_false
      intro hh
      have := hh _ List.mem_cons_self
      omega
    · rw [if_neg hc]
      congr 1
      apply decide_eq_decide.mpr
      constructor
      · intro hh x hx
        rcases List.mem_cons.mp hx with rfl | hx
        · omega
        · exact hh x hx
      · intro hh x hx
        exact hh x (List.mem_cons_of_mem _ hx)
theorem mem_at {p : Int} {l : List S24} (h : okFrom p l) : ∀ x ∈ l, atN l x.f0 = x.f1 := by
  induction l generalizing p with
  | nil => intro x hx; cases hx
  | cons y l ih =>
    intro x hx
    rcases List.mem_cons.mp hx with rfl | hx
    · rw [atN, if_pos rfl]
    · have e := ih h.2.2 x hx
      by_cases hd : y.f0 = x.f0
      · have hlow := atN_low h.2.2 x.f0 (by omega)
        have hpos : 1 ≤ x.f1 := by
          have key : ∀ (q : Int) (m : List S24), okFrom q m → ∀ z ∈ m, 1 ≤ z.f1 := by
            intro q m
            induction m generalizing q with
            | nil => intro _ z hz; cases hz
            | cons y m ih =>
              intro hm z hz
              rcases List.mem_cons.mp hz with rfl | hz
              · exact hm.1.2.2.1
              · exact ih _ hm.2.2 z hz
          exact key _ _ h.2.2 x hx
        omega
      · rw [atN, if_neg hd]
        exact e
theorem le_iff {a b : List S24} (va : Valid a) (vb : Valid b) : (∀ x ∈ a, x.f1 ≤ atN b x.f0) ↔ Le a b := by
  constructor
  · intro h d
    have key : ∀ l : List S24, (∀ x ∈ l, x.f1 ≤ atN b x.f0) → atN l d ≤ atN b d := by
      intro l
      induction l with
      | nil => intro _; exact (atN_nonneg vb d).1
      | cons x l ih =>
        intro hl
        rw [atN]
        split
        · rename_i e
          have := hl x List.mem_cons_self
          rwa [e] at this
        · exact ih (fun y hy => hl y (List.mem_cons_of_mem _ hy))
    exact key a h
  · intro h x hx
    have := h x.f0
    rwa [mem_at va x hx] at this
theorem Most_eq (k : Nat) (a b : List S24) (ha : a.length ≤ 1000) (hb : b.length ≤ 1000) (hk : 20000 ≤ k) : chartroomref12_Most.f k a b = some (decide (∀ x ∈ a, x.f1 ≤ atN b x.f0)) := by
  have := most_loop a b (by omega) (by omega) _ k 0 rfl (by omega) (by omega)
  rwa [List.drop_zero] at this
theorem rCompare_eq (k : Nat) (a b : List S24) (ha : a.length ≤ 1000) (hb : b.length ≤ 1000) (hk : 20000 ≤ k) :
    chartroomref12_Compare.f (k + 1) a b = some (if chk2 a b = 0 then (cmpN (prs a b), 0) else (0, chk2 a b)) := by
  unfold chartroomref12_Compare.f
  rw [rcheck_eq (k + 1) a b (by omega) (by omega) (by omega) (by omega), Option.bind_some]
  by_cases h : chk2 a b = 0
  · obtain ⟨va, vb⟩ := chk2_zero.mp h
    have l1 := less_iff va vb
    have m1 := more_iff va vb
    rw [← le_iff vb va] at l1
    rw [← le_iff va vb] at m1
    rw [if_pos h, if_pos h, Most_eq (k + 1) a b ha hb (by omega), Most_eq (k + 1) b a hb ha (by omega), Option.bind_some, Option.bind_some, chartroomref12_Compare.j0, chartroomref12_Compare.j0, Most_eq k a b ha hb hk, Most_eq k b a hb ha hk, Option.bind_some, Option.bind_some, cmpN]
    by_cases h1 : ∀ x ∈ a, x.f1 ≤ atN b x.f0
    · rw [m1.mpr h1, decide_eq_true h1]
      by_cases h2 : ∀ x ∈ b, x.f1 ≤ atN a x.f0
      · rw [l1.mpr h2, decide_eq_true h2]
        rfl
      · have : lessB (prs a b) = true := by
          cases hl : lessB (prs a b)
          · exact absurd (l1.mp hl) h2
          · rfl
        rw [this, decide_eq_false h2]
        rfl
    · have : moreB (prs a b) = true := by
        cases hl : moreB (prs a b)
        · exact absurd (m1.mp hl) h1
        · rfl
      rw [this, decide_eq_false h1]
      by_cases h2 : ∀ x ∈ b, x.f1 ≤ atN a x.f0
      · rw [l1.mpr h2, decide_eq_true h2]
        rfl
      · have : lessB (prs a b) = true := by
          cases hl : lessB (prs a b)
          · exact absurd (l1.mp hl) h2
          · rfl
        rw [this, decide_eq_false h2]
        rfl
  · rw [if_neg h, if_neg h]

theorem pureJoins (k : Nat) (hk : 20000 ≤ k) (l0 l1 : List S24) : chartroomlaw12_VectorJoinsSpec.f (k + 2) l0 l1 = some true := by
  have hsane : chartroomlaw12_sane.f (k + 2) = some true := if_pos (by omega)
  have fin : chartroomlaw12_VectorJoinsSpec.j0 (k + 2) l0 l1 true = some true := by rw [chartroomlaw12_VectorJoinsSpec.j0, if_pos rfl]
  unfold chartroomlaw12_VectorJoinsSpec.f chartroomref12_Few.f
  rw [hsane, Option.bind_some, if_pos rfl, Option.bind_some]
  by_cases h0 : (l0.length : Int) ≤ 600
  · rw [if_pos (decide_eq_true h0), Option.bind_some]
    by_cases h1 : (l1.length : Int) ≤ 600
    · have hlen : ∀ tk : Int → Int → Int, (if chk2 l0 l1 = 0 then (mrg tk (prs l0 l1), (0 : Int)) else ([], chk2 l0 l1)).1.length ≤ 2000 := by
        intro tk
        by_cases h : chk2 l0 l1 = 0
        · obtain ⟨va, vb⟩ := chk2_zero.mp h
          have := mrg_len tk va vb
          rw [if_pos h]
          show (mrg tk (prs l0 l1)).length ≤ 2000
          omega
        · rw [if_neg h]
          simp
      have hj := hlen mx
      have hm := hlen mn
      rw [decide_eq_true h1, show (!true) = false from rfl, chartroomlaw12_VectorJoinsSpec.j0, if_neg (by simp), Join_eq (k + 1) l0 l1 (by omega) (by omega) (by omega) (by omega), rJoin_eq (k + 1) l0 l1 (by omega) (by omega) (by omega), Meet_eq (k + 1) l0 l1 (by omega) (by omega) (by omega) (by omega), rMeet_eq (k + 1) l0 l1 (by omega) (by omega) (by omega), Compare_eq (k + 1) l0 l1 (by omega) (by omega) (by omega) (by omega), rCompare_eq k l0 l1 (by omega) (by omega) hk]
      simp only [Option.bind_some]
      rw [Same_eq (k + 1) _ _ (by omega) (by omega), Same_eq (k + 1) _ _ (by omega) (by omega)]
      simp
    · rw [decide_eq_false h1]
      exact fin
  · rw [if_neg (by simpa using h0)]
    exact fin
end Go.Proofs.YtncejmjicjlanaaDoor.Q
