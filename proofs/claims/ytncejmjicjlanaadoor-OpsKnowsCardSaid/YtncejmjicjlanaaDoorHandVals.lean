/- Values of the codec in memory: what num, text and list give (of ops, of the law, of the reference), and how a block of values reads as a list. -/
import Derived.Test.YtncejmjicjlanaaDoorQ0
namespace Go.Proofs.YtncejmjicjlanaaDoor.Q
open Go.RowKit Go.Proofs.YtncejmjicjlanaaDoorW.PrintWords Go.Proofs.YtncejmjicjlanaaDoorW.PrintLast Go.Proofs.YtncejmjicjlanaaDoorW.PrintMore
set_option linter.unusedVariables false
set_option linter.unusedSimpArgs false
/-- A number, a text, a list. -/
def nV (n : Int) : S63 := ⟨1, n, ⟨#[]⟩, []⟩
def tV (s : ByteArray) : S63 := ⟨2, 0, s, []⟩
def lV (L : List S63) : S63 := ⟨3, 0, ⟨#[]⟩, L⟩

set_option maxHeartbeats 400000 in
theorem opsNum (n : Int) (w : World) : Calls Tryd.prog 70 #[.int .i64 n] w fun e w' => e = .returned (.agg #[.int .i64 1, .int .i64 n, .string ⟨#[]⟩, .slice none 0 0]) ∧ Below w.heap.size w w' := by
  have hu63 := Tryd.underlying63
  go_enter Tryd.func70, Tryd.ntmps70
  go_wp2
  refine bodyPost_ret (v := .agg #[.int .i64 1, .int .i64 n, .string ⟨#[]⟩, .slice none 0 0]) (by simp [results, Tryd.results70, go_sem]) rfl ⟨rfl, ?_⟩
  exact below_alloc (Below.refl _ _) _
set_option maxHeartbeats 400000 in
theorem lawNum (n : Int) (w : World) : Calls Tryd.prog 58 #[.int .i64 n] w fun e w' => e = .returned (.agg #[.int .i64 1, .int .i64 n, .string ⟨#[]⟩, .slice none 0 0]) ∧ Below w.heap.size w w' := by
  have hu63 := Tryd.underlying63
  go_enter Tryd.func58, Tryd.ntmps58
  go_wp2
  refine bodyPost_ret (v := .agg #[.int .i64 1, .int .i64 n, .string ⟨#[]⟩, .slice none 0 0]) (by simp [results, Tryd.results58, go_sem]) rfl ⟨rfl, ?_⟩
  exact below_alloc (Below.refl _ _) _
set_option maxHeartbeats 400000 in
theorem refInt (n : Int) (w : World) : Calls Tryd.prog 92 #[.int .i64 n] w fun e w' => e = .returned (.agg #[.int .i64 1, .int .i64 n, .string ⟨#[]⟩, .slice none 0 0]) ∧ Below w.heap.size w w' := by
  have hu63 := Tryd.underlying63
  go_enter Tryd.func92, Tryd.ntmps92
  go_wp2
  refine bodyPost_ret (v := .agg #[.int .i64 1, .int .i64 n, .string ⟨#[]⟩, .slice none 0 0]) (by simp [results, Tryd.results92, go_sem]) rfl ⟨rfl, ?_⟩
  exact below_alloc (Below.refl _ _) _
set_option maxHeartbeats 400000 in
theorem opsText (s : ByteArray) (w : World) : Calls Tryd.prog 71 #[.string s] w fun e w' => e = .returned (.agg #[.int .i64 2, .int .i64 0, .string s, .slice none 0 0]) ∧ Below w.heap.size w w' := by
  have hu63 := Tryd.underlying63
  go_enter Tryd.func71, Tryd.ntmps71
  go_wp2
  refine bodyPost_ret (v := .agg #[.int .i64 2, .int .i64 0, .string s, .slice none 0 0]) (by simp [results, Tryd.results71, go_sem]) rfl ⟨rfl, ?_⟩
  exact below_alloc (Below.refl _ _) _
set_option maxHeartbeats 400000 in
theorem lawText (s : ByteArray) (w : World) : Calls Tryd.prog 60 #[.string s] w fun e w' => e = .returned (.agg #[.int .i64 2, .int .i64 0, .string s, .slice none 0 0]) ∧ Below w.heap.size w w' := by
  have hu63 := Tryd.underlying63
  go_enter Tryd.func60, Tryd.ntmps60
  go_wp2
  refine bodyPost_ret (v := .agg #[.int .i64 2, .int .i64 0, .string s, .slice none 0 0]) (by simp [results, Tryd.results60, go_sem]) rfl ⟨rfl, ?_⟩
  exact below_alloc (Below.refl _ _) _
set_option maxHeartbeats 400000 in
theorem refText (s : ByteArray) (w : World) : Calls Tryd.prog 93 #[.string s] w fun e w' => e = .returned (.agg #[.int .i64 2, .int .i64 0, .string s, .slice none 0 0]) ∧ Below w.heap.size w w' := by
  have hu63 := Tryd.underlying63
  go_enter Tryd.func93, Tryd.ntmps93
  go_wp2
  refine bodyPost_ret (v := .agg #[.int .i64 2, .int .i64 0, .string s, .slice none 0 0]) (by simp [results, Tryd.results93, go_sem]) rfl ⟨rfl, ?_⟩
  exact below_alloc (Below.refl _ _) _
set_option maxHeartbeats 400000 in
theorem opsList (A : Option Addr) (n c : Nat) (w : World) : Calls Tryd.prog 69 #[.slice A n c] w fun e w' => e = .returned (.agg #[.int .i64 3, .int .i64 0, .string ⟨#[]⟩, .slice A n c]) ∧ Below w.heap.size w w' := by
  have hu63 := Tryd.underlying63
  go_enter Tryd.func69, Tryd.ntmps69
  go_wp2
  refine bodyPost_ret (v := .agg #[.int .i64 3, .int .i64 0, .string ⟨#[]⟩, .slice A n c]) (by simp [results, Tryd.results69, go_sem]) rfl ⟨rfl, ?_⟩
  exact below_alloc (Below.refl _ _) _
set_option maxHeartbeats 400000 in
theorem lawList (A : Option Addr) (n c : Nat) (w : World) : Calls Tryd.prog 57 #[.slice A n c] w fun e w' => e = .returned (.agg #[.int .i64 3, .int .i64 0, .string ⟨#[]⟩, .slice A n c]) ∧ Below w.heap.size w w' := by
  have hu63 := Tryd.underlying63
  go_enter Tryd.func57, Tryd.ntmps57
  go_wp2
  refine bodyPost_ret (v := .agg #[.int .i64 3, .int .i64 0, .string ⟨#[]⟩, .slice A n c]) (by simp [results, Tryd.results57, go_sem]) rfl ⟨rfl, ?_⟩
  exact below_alloc (Below.refl _ _) _
set_option maxHeartbeats 400000 in
theorem refList (A : Option Addr) (n c : Nat) (w : World) : Calls Tryd.prog 90 #[.slice A n c] w fun e w' => e = .returned (.agg #[.int .i64 3, .int .i64 0, .string ⟨#[]⟩, .slice A n c]) ∧ Below w.heap.size w w' := by
  have hu63 := Tryd.underlying63
  go_enter Tryd.func90, Tryd.ntmps90
  go_wp2
  refine bodyPost_ret (v := .agg #[.int .i64 3, .int .i64 0, .string ⟨#[]⟩, .slice A n c]) (by simp [results, Tryd.results90, go_sem]) rfl ⟨rfl, ?_⟩
  exact below_alloc (Below.refl _ _) _
/-- One value's cells. -/
theorem num_K (W : World) (n : Int) : k63.K W (nV n) [.int .i64 1, .int .i64 n, .string ⟨#[]⟩, .slice none 0 0] := k63_mk W (nV n) (Nat.le_refl 0) (Kd.C_nil _ _)
theorem text_K (W : World) (s : ByteArray) : k63.K W (tV s) [.int .i64 2, .int .i64 0, .string s, .slice none 0 0] := k63_mk W (tV s) (Nat.le_refl 0) (Kd.C_nil _ _)
theorem list_K {W : World} {L : List S63} {A : Option Addr} {c : Nat} (hc : L.length ≤ c) (h : Kd.C k63 W A L.length L) : k63.K W (lV L) [.int .i64 3, .int .i64 0, .string ⟨#[]⟩, .slice A L.length c] := k63_mk W (lV L) hc h
theorem flat_get {vs : List (List Value)} (h4 : ∀ v ∈ vs, v.length = 4) : ∀ {j i : Nat} {v : List Value} {u : Value}, vs[j]? = some v → v[i]? = some u → vs.flatten[j * 4 + i]? = some u := by
  induction vs with
  | nil => intro j i v u hj; simp at hj
  | cons a r ih =>
    intro j i v u hj hi
    have ha := h4 a (List.mem_cons_self)
    rw [List.flatten_cons]
    cases j with
    | zero =>
      simp at hj
      subst hj
      have hlt : i < a.length := (List.getElem?_eq_some_iff.1 hi).1
      rw [Nat.zero_mul, Nat.zero_add, List.getElem?_append_left hlt]
      exact hi
    | succ j =>
      have := ih (fun v hv => h4 v (List.mem_cons_of_mem _ hv)) (j := j) (by simpa using hj) hi
      rw [List.getElem?_append_right (by omega), ha]
      rw [show (j + 1) * 4 + i - 4 = j * 4 + i by omega]
      exact this
theorem k63_len {W : World} {x : S63} {v : List Value} (h : k63.K W x v) : v.length = 4 := by
  obtain ⟨A, c, rfl, _⟩ := k63_open h
  rfl
/-- A block of values' cells reads as the list of the values. -/
theorem row_of {W : World} {B : Nat} {cs : Array Value} {xs : List S63} {vs : List (List Value)} (h : W.heap[B]? = some (.cells cs 63 (0, 0))) (hl : cs.toList = vs.flatten) (hn : xs.length = vs.length) (hm : xs.length ≤ 9223372036854775807)
    (hv : ∀ (j : Nat) (x : S63) (v : List Value), xs[j]? = some x → vs[j]? = some v → k63.K W x v) : Kd.C k63 W (some ⟨B, 0, none⟩) xs.length xs := by
  have h4 : ∀ v ∈ vs, v.length = 4 := fun v hm => by
    obtain ⟨j, hj⟩ := List.mem_iff_getElem?.1 hm
    have hjl := (List.getElem?_eq_some_iff.1 hj).1
    exact k63_len (hv j (xs[j]'(by omega)) v (List.getElem?_eq_getElem (by omega)) hj)
  refine ⟨rfl, hm, fun _ => ⟨_, rfl, fun j p hj => ?_⟩⟩
  have hjl := (List.getElem?_eq_some_iff.1 hj).1
  have hjv : vs[j]? = some (vs[j]'(by omega)) := List.getElem?_eq_getElem (by omega)
  refine ⟨_, k63_len (hv j p _ hj hjv), hv j p _ hj hjv, fun i u hu => ?_⟩
  have hz : k63.sz = 4 := rfl
  rw [add_plain, blk_cell h, hz]
  have := flat_get h4 hjv hu
  rw [← hl, Array.getElem?_toList] at this
  exact this
end Go.Proofs.YtncejmjicjlanaaDoor.Q
