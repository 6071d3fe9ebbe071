/- What Join, Meet, Most, Compare and With of the reference of vector compute, with enough rounds: plain Lean, no program. -/
import Derived.Test.YtncejmjicjlanaaDoorEvalR
import Derived.Test.YtncejmjicjlanaaDoorQ9
namespace Go.Proofs.YtncejmjicjlanaaDoor.Q
open Go.RowKit Go.Proofs.YtncejmjicjlanaaDoorW.PrintWords Go.Proofs.YtncejmjicjlanaaDoorW.PrintLast Go.Proofs.YtncejmjicjlanaaDoorW.PrintMore
set_option linter.unusedVariables false
set_option linter.unusedSimpArgs false

theorem dev_loop (a b : List S24) (ha : ∀ i : Nat, i < a.length → (rd_T24 a i).f0 < 512) (hb : ∀ i : Nat, i < b.length → (rd_T24 b i).f0 < 512) : ∀ (m k i j : Nat) (acc : List Int),
    (a.length - i) + (b.length - j) = m → i ≤ a.length → j ≤ b.length → a.length ≤ 10000 → b.length ≤ 10000 → acc.length + m ≤ 100000 → 5 * m + 2 ≤ k →
    chartroomref12_devices.l0 k a b acc i j = some (acc ++ (prs (a.drop i) (b.drop j)).map (·.1))
  | 0, k + 2, i, j, acc, hm, hi, hj, _, _, hl, hk => by
    have e1 : i = a.length := by omega
    have e2 : j = b.length := by omega
    subst e1
    subst e2
    rw [chartroomref12_devices.l0, if_neg (by omega), decide_eq_false (by omega), chartroomref12_devices.j1, if_neg (by simp), List.drop_length, List.drop_length, prs]
    simp
  | m + 1, k + 5, i, j, acc, hm, hi, hj, hal, hbl, hl, hk => by
    have st : chartroomref12_devices.l0 (k + 5) a b acc i j = chartroomref12_devices.j1 (k + 4) a b acc i j true := by
      rw [chartroomref12_devices.l0]
      by_cases h : i < a.length
      · rw [if_pos (by omega)]
      · rw [if_neg (by omega), decide_eq_true (by omega)]
    rw [st, chartroomref12_devices.j1, if_pos rfl]
    by_cases h : i < a.length
    · rw [if_pos (by omega), if_pos (by omega), chartroomref12_devices.j2, drop_rd a i h]
      have hax := ha i h
      by_cases h2 : j < b.length
      · rw [if_pos (by omega), if_pos (by omega), chartroomref12_devices.j3, if_pos (by omega), if_pos (by omega), drop_rd b j h2]
        have hbx := hb j h2
        rcases Int.lt_trichotomy (rd_T24 a i).f0 (rd_T24 b j).f0 with hc | hc | hc
        · have ih := dev_loop a b ha hb m k (i + 1) j (acc ++ [(rd_T24 a i).f0]) (by omega) (by omega) hj hal hbl (by rw [List.length_append]; simp; omega) (by omega)
          rw [show mn (rd_T24 a i).f0 (rd_T24 b j).f0 = (rd_T24 a i).f0 by rw [mn_eq]; omega, beq_self_eq_true, chartroomref12_devices.j4, if_pos rfl, if_pos (by omega), if_pos (by omega), if_neg (by omega), if_pos (by omega), w_add i (by omega), ih, prs_lt _ _ hc, drop_rd b j h2]
          simp
        · have ih := dev_loop a b ha hb (m - 1) k (i + 1) (j + 1) (acc ++ [(rd_T24 a i).f0]) (by omega) (by omega) (by omega) hal hbl (by rw [List.length_append]; simp; omega) (by omega)
          rw [show mn (rd_T24 a i).f0 (rd_T24 b j).f0 = (rd_T24 a i).f0 by rw [mn_eq]; omega, beq_self_eq_true, chartroomref12_devices.j4, if_pos rfl, if_pos (by omega), if_pos (by omega), if_pos (by omega), if_pos (by omega), w_add i (by omega), w_add j (by omega), ih, prs_eq _ _ (by omega) (by omega)]
          simp
        · have ih := dev_loop a b ha hb m k i (j + 1) (acc ++ [(rd_T24 b j).f0]) (by omega) (by omega) (by omega) hal hbl (by rw [List.length_append]; simp; omega) (by omega)
          rw [show mn (rd_T24 a i).f0 (rd_T24 b j).f0 = (rd_T24 b j).f0 by rw [mn_eq]; omega, show ((rd_T24 a i).f0 == (rd_T24 b j).f0) = false by simp; omega, chartroomref12_devices.j4, if_neg (by simp), if_pos (by omega), if_pos (by omega), if_pos rfl, if_pos (by omega), w_add j (by omega), ih, prs_gt _ _ hc, drop_rd a i h]
          simp
      · have ih := dev_loop a b ha hb m k (i + 1) j (acc ++ [(rd_T24 a i).f0]) (by omega) (by omega) hj hal hbl (by rw [List.length_append]; simp; omega) (by omega)
        have e2 : j = b.length := by omega
        rw [if_neg (by omega), chartroomref12_devices.j3, if_pos (by omega), if_pos (by omega), beq_self_eq_true, chartroomref12_devices.j4, if_pos rfl, if_neg (by omega), if_pos (by omega), w_add i (by omega), ih, e2, List.drop_length, prs_l]
        simp
    · have e1 : i = a.length := by omega
      have h2 : j < b.length := by omega
      have hbx := hb j h2
      have ih := dev_loop a b ha hb m k i (j + 1) (acc ++ [(rd_T24 b j).f0]) (by omega) (by omega) (by omega) hal hbl (by rw [List.length_append]; simp; omega) (by omega)
      rw [if_neg (by omega), chartroomref12_devices.j2, if_pos (by omega), if_pos (by omega), show mn 512 (rd_T24 b j).f0 = (rd_T24 b j).f0 by rw [mn_eq]; omega, chartroomref12_devices.j3, if_neg (by omega), chartroomref12_devices.j4, if_neg (by simp), if_pos (by omega), if_pos (by omega), if_pos rfl, if_pos (by omega), w_add j (by omega), ih, drop_rd b j h2, e1, List.drop_length, prs_r]
      simp

theorem valid_dev {p : Int} {l : List S24} (h : okFrom p l) (i : Nat) (hi : i < l.length) : (rd_T24 l i).f0 < 512 := by
  induction l generalizing p i with
  | nil => simp at hi
  | cons x l ih =>
    cases i with
    | zero => exact h.1.2.1
    | succ i =>
      have := ih h.2.2 i (by simpa using hi)
      simpa [rd_T24] using this
theorem devices_eq (k : Nat) (a b : List S24) (va : Valid a) (vb : Valid b) (ha : a.length ≤ 10000) (hb : b.length ≤ 10000) (hk : 5 * (a.length + b.length) + 2 ≤ k) :
    chartroomref12_devices.f k a b = some ((prs a b).map (·.1)) := by
  have := dev_loop a b (valid_dev va) (valid_dev vb) (a.length + b.length) k 0 0 [] (by omega) (by omega) (by omega) ha hb (by simp; omega) hk
  rwa [List.drop_zero, List.drop_zero, List.nil_append] at this

theorem okP_one {p : Int} {l : List (Int × Int × Int)} (h : okP p l) : ∀ q ∈ l, 1 ≤ q.2.1 ∨ 1 ≤ q.2.2 := by
  induction l generalizing p with
  | nil => intro q hq; cases hq
  | cons x l ih =>
    intro q hq
    rcases List.mem_cons.mp hq with rfl | hq
    · exact h.1.2.2.2.2.2.2
    · exact ih h.2.2 q hq
/-- In ordered pairs, each one's numbers are what a look finds. -/
theorem look_self {p : Int} {l : List (Int × Int × Int)} (h : okP p l) : ∀ q ∈ l, look l q.1 = q.2 := by
  induction l generalizing p with
  | nil => intro q hq; cases hq
  | cons x l ih =>
    intro q hq
    rcases List.mem_cons.mp hq with rfl | hq
    · rw [look, if_pos rfl]
    · have h2 := ih h.2.2 q hq
      by_cases e : x.1 = q.1
      · have := look_low h.2.2 q.1 (by omega)
        have hne := okP_one h.2.2 q hq
        rw [h2] at this
        rw [this] at hne
        simp at hne
      · rw [look, if_neg e]
        exact h2
theorem rd_nat (l : List Int) (i : Nat) (h : i < l.length) : l.drop i = rd l i :: l.drop (i + 1) := by
  rw [List.drop_eq_getElem_cons h]
  simp [rd, h]
theorem rjoin_loop (a b : List S24) (ds : List Int) (ha : a.length ≤ 10000) (hb : b.length ≤ 10000) (hd : ds.length ≤ 20000) : ∀ (m k i : Nat) (acc : List S24), ds.length - i = m → i ≤ ds.length → acc.length + m ≤ 100000 → m + 10002 ≤ k →
    chartroomref12_Join.l0 k a b ds acc i = some (acc ++ (ds.drop i).map (fun d => (⟨d, mx (atN a d) (atN b d)⟩ : S24)), 0)
  | 0, k + 1, i, acc, hm, hi, hl, hk => by
    have e : i = ds.length := by omega
    subst e
    rw [chartroomref12_Join.l0, if_neg (by omega), List.drop_length]
    simp
  | m + 1, k + 1, i, acc, hm, hi, hl, hk => by
    have h : i < ds.length := by omega
    have ih := rjoin_loop a b ds ha hb hd m k (i + 1) (acc ++ [(⟨rd ds i, mx (atN a (rd ds i)) (atN b (rd ds i))⟩ : S24)]) (by omega) (by omega) (by rw [List.length_append]; simp; omega) (by omega)
    rw [chartroomref12_Join.l0, if_pos (by omega), if_pos (by omega), rAt_eq k a _ (by omega) (by omega), Option.bind_some, rAt_eq k b _ (by omega) (by omega), Option.bind_some, if_pos (by omega), w_add i (by omega), ih, rd_nat ds i h]
    simp
theorem mrg_map (tk : Int → Int → Int) (a b : List S24) (va : Valid a) (vb : Valid b) (h : ∀ x y, 0 ≤ x → 0 ≤ y → (1 ≤ x ∨ 1 ≤ y) → 0 < tk x y) :
    mrg tk (prs a b) = ((prs a b).map (·.1)).map (fun d => (⟨d, tk (atN a d) (atN b d)⟩ : S24)) := by
  obtain ⟨hok, hlook, _⟩ := prs_ok (-1) a b va vb
  have hs := look_self hok
  have h1 := okP_one hok
  have key : ∀ l : List (Int × Int × Int), (∀ q ∈ l, q ∈ prs a b) → mrg tk l = (l.map (·.1)).map (fun d => (⟨d, tk (atN a d) (atN b d)⟩ : S24)) := by
    intro l
    induction l with
    | nil => intro _; rfl
    | cons x l ih =>
      intro hl
      have hx := hl x List.mem_cons_self
      have e := hs x hx
      rw [hlook] at e
      have e1 : atN a x.1 = x.2.1 := congrArg Prod.fst e
      have e2 : atN b x.1 = x.2.2 := congrArg Prod.snd e
      have n1 := (atN_nonneg va x.1).1
      have n2 := (atN_nonneg vb x.1).1
      have hp : 0 < tk x.2.1 x.2.2 := h _ _ (by omega) (by omega) (h1 x hx)
      have hmr : mrg tk (x :: l) = keepP tk x ++ mrg tk l := by simp [mrg]
      rw [hmr, keepP, if_pos hp, ih (fun q hq => hl q (List.mem_cons_of_mem _ hq))]
      simp only [List.map_cons, List.singleton_append, e1, e2]
  exact key _ (fun _ h => h)
theorem rJoin_eq (k : Nat) (a b : List S24) (ha : a.length ≤ 1000) (hb : b.length ≤ 1000) (hk : 20000 ≤ k) :
    chartroomref12_Join.f k a b = some (if chk2 a b = 0 then (mrg mx (prs a b), 0) else ([], chk2 a b)) := by
  unfold chartroomref12_Join.f
  rw [rcheck_eq k a b (by omega) (by omega) (by omega) (by omega), Option.bind_some]
  by_cases h : chk2 a b = 0
  · obtain ⟨va, vb⟩ := chk2_zero.mp h
    have hp := (prs_ok _ a b va vb).2.2
    rw [if_pos h, if_pos h, devices_eq k a b va vb (by omega) (by omega) (by omega), Option.bind_some]
    have := rjoin_loop a b ((prs a b).map (·.1)) (by omega) (by omega) (by rw [List.length_map]; omega) _ k 0 [] rfl (by omega) (by rw [List.length_map]; simp; omega) (by rw [List.length_map]; omega)
    rw [List.drop_zero, List.nil_append] at this
    rw [mrg_map mx a b va vb (fun x y h1 h2 h3 => by rw [mx_eq]; omega)]
    exact this
  · rw [if_neg h, if_neg h]
theorem rWith_eq (k : Nat) (l : List S24) (x0 x1 : Int) (hl : l.length ≤ 1000) (hk : 20000 ≤ k) :
    chartroomref12_With.f k l x0 x1 = some (if chk2 l [⟨x0, x1⟩] = 0 then (mrg mx (prs l [⟨x0, x1⟩]), 0) else ([], chk2 l [⟨x0, x1⟩])) := by
  unfold chartroomref12_With.f
  rw [rCheck_eq k l (by omega) (by omega), Option.bind_some]
  have hone : Valid [(⟨x0, x1⟩ : S24)] ↔ Dot ⟨x0, x1⟩ := ⟨fun h => h.1, fun h => ⟨h, by have h0 : 0 ≤ x0 := h.1; show -1 < x0; omega, trivial⟩⟩
  by_cases v : Valid l
  · rw [if_pos (by simp [chk, v]), show chartroomref12_IsDot.f x0 x1 = some (decide (Dot ⟨x0, x1⟩)) from refIsDot_eq ⟨x0, x1⟩, Option.bind_some]
    by_cases hd : Dot ⟨x0, x1⟩
    · rw [if_pos (decide_eq_true hd), rJoin_eq k l _ hl (by simp) hk, Option.bind_some]
    · have hc : chk2 l [(⟨x0, x1⟩ : S24)] = 120 := by simp [chk2, v, chk, hone, hd]
      rw [if_neg (by simp [hd]), hc, if_neg (by decide)]
  · have hc : chk2 l [(⟨x0, x1⟩ : S24)] = 120 := by simp [chk2, v]
    rw [if_neg (by simp [chk, v]), hc, if_neg (by decide)]
    simp [chk, v]
end Go.Proofs.YtncejmjicjlanaaDoor.Q
