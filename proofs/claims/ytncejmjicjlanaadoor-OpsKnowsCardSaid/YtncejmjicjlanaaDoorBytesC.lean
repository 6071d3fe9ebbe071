/- Contracts of bytes.Compare and bytes.Equal: the order of two byte slices, their equality; nothing changes. Conditions: both read as lists. -/
import Derived.Test.YtncejmjicjlanaaDoorQ0
import Derived.Lib.Bytealg
import Derived.Laws.Externs
namespace Go.Proofs.YtncejmjicjlanaaDoor.Q
open Go.RowKit Go.Proofs.YtncejmjicjlanaaDoorW.PrintWords Go.Proofs.YtncejmjicjlanaaDoorW.PrintLast Go.Proofs.YtncejmjicjlanaaDoorW.PrintMore
set_option linter.unusedVariables false
set_option linter.unusedSimpArgs false
/-- The order of two lists of bytes. -/
def cmpB (xs ys : List Int) : Int := Lib.compareBytes (strOfNums xs).data.toList (strOfNums ys).data.toList
theorem loadBytes_run {P : Program} {w : World} : ∀ (xs : List Int) (a : Addr) (acc : ByteArray), (∀ i x, xs[i]? = some x → w.cell? (a.add i) = some (.int .u8 x)) → (Extern.Bytes.loadBytes a xs.length acc).run P w = .ok ⟨acc.data ++ (xs.map fun n => n.toNat.toUInt8).toArray⟩ w
  | [], a, acc, h => by simp [Extern.Bytes.loadBytes]
  | x :: xs, a, acc, h => by
    have h0 : w.cell? a = some (.int .u8 x) := by
      have := h 0 x rfl
      have e : a.add 0 = a := by cases a; unfold Addr.add; split <;> simp_all
      rwa [e] at this
    have ih := loadBytes_run xs (a.add 1) (acc.push x.toNat.toUInt8) (fun i y hy => by rw [Addr.add_add, Nat.add_comm]; exact h (i + 1) y hy) (P := P)
    rw [List.length_cons, Extern.Bytes.loadBytes, Sem.run_bind, run_load, h0]
    simp only [Result.andThen]
    rw [ih]
    simp [ByteArray.push]
theorem bytesOf_run {P : Program} {w : World} {A : Option Addr} {c : Nat} {xs : List Int} (h : Kd.C (Kd.int .u8) w A xs.length xs) : (Extern.Bytes.bytesOf (.slice A xs.length c)).run P w = .ok (strOfNums xs) w := by
  cases A with
  | none =>
    have : xs = [] := by
      cases xs with
      | nil => rfl
      | cons x xs => obtain ⟨ad, he, _⟩ := Kd.at_int h 0 (by omega) (by simp); cases he
    subst this
    rfl
  | some a =>
    have := loadBytes_run (P := P) (w := w) xs a .empty (fun i x hx => by
      have hi := (List.getElem?_eq_some_iff.1 hx).1
      obtain ⟨ad, he, hc⟩ := Kd.at_int h (i : Int) (by omega) (by omega)
      cases he
      have e : rd xs (i : Int) = x := by simp [rd, List.getD, hx]
      rw [e] at hc
      simpa using hc)
    show (Extern.Bytes.loadBytes a xs.length .empty).run P w = _
    rw [this]
    have e : (ByteArray.empty.data : Array UInt8) = #[] := rfl
    rw [e, Array.empty_append]
    rfl
theorem cmp89 {w : World} {A A2 : Option Addr} {c c2 : Nat} {xs ys : List Int} (h : Kd.C (Kd.int .u8) w A xs.length xs) (h2 : Kd.C (Kd.int .u8) w A2 ys.length ys) : (callFunc 89 #[.slice A xs.length c, .slice A2 ys.length c2]).run Tryd.prog w = .ok (.value (.int .i64 (cmpB xs ys))) w := by
  rw [run_callFunc_extern Tryd.func89 (by kernel_rfl) (by kernel_rfl) (by kernel_rfl) (e := Extern.BytealgCompare.compare) (by kernel_rfl)]
  change Result.andThen (Sem.run Tryd.prog (do pure (goInt (Extern.BytealgCompare.cmp (← Extern.Bytes.bytesOf (.slice A xs.length c)) (← Extern.Bytes.bytesOf (.slice A2 ys.length c2))))) w) _ = _
  simp only [Sem.run_bind, Sem.run_pure, Result.andThen, bytesOf_run h, bytesOf_run h2]
  rw [Lib.cmp_eq]
  rfl
set_option maxHeartbeats 1000000 in
set_option maxRecDepth 100000 in
theorem bytesCompare_calls (A A2 : Option Addr) (c c2 : Nat) (xs ys : List Int) (w : World) (h : Kd.C (Kd.int .u8) w A xs.length xs) (h2 : Kd.C (Kd.int .u8) w A2 ys.length ys) :
    Calls Tryd.prog 67 #[.slice A xs.length c, .slice A2 ys.length c2] w fun e w' => e = .returned (.int .i64 (cmpB xs ys)) ∧ w' = w := by
  have hx := cmp89 (c := c) (c2 := c2) h h2
  go_enter Tryd.func67, Tryd.ntmps67
  go_wp2
  go_ret
  exact ⟨rfl, rfl⟩
set_option maxHeartbeats 1000000 in
set_option maxRecDepth 100000 in
theorem bytesEqual_calls (A A2 : Option Addr) (c c2 : Nat) (xs ys : List Int) (w : World) (h : Kd.C (Kd.int .u8) w A xs.length xs) (h2 : Kd.C (Kd.int .u8) w A2 ys.length ys) :
    Calls Tryd.prog 78 #[.slice A xs.length c, .slice A2 ys.length c2] w fun e w' => e = .returned (.bool ((strOfNums xs).toList == (strOfNums ys).toList)) ∧ w' = w := by
  have k1 := Kd.C_string (P := Tryd.prog) (c := c) Tryd.underlying54 Tryd.underlying5 Tryd.underlying9 h
  have k2 := Kd.C_string (P := Tryd.prog) (c := c2) Tryd.underlying54 Tryd.underlying5 Tryd.underlying9 h2
  go_enter Tryd.func78, Tryd.ntmps78
  go_wp2
  go_ret
  exact ⟨rfl, rfl⟩
end Go.Proofs.YtncejmjicjlanaaDoor.Q
