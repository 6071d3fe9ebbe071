/- An operation in memory: its cells, what a block that holds it reads. -/
import Derived.Test.YtncejmjicjlanaaDoorQ0
import Derived.Deep.MidRow
namespace Go.Proofs.YtncejmjicjlanaaDoor.Q
open Go.RowKit Go.Proofs.YtncejmjicjlanaaDoorW.PrintWords Go.Proofs.YtncejmjicjlanaaDoorW.PrintLast Go.Proofs.YtncejmjicjlanaaDoorW.PrintMore
set_option linter.unusedVariables false
set_option linter.unusedSimpArgs false
/-- A part, an ID, an operation. -/
structure S41 where
  f0 : Int
  f1 : ByteArray
structure S43 where
  f0 : Int
  f1 : Int
  f2 : Int
structure S45 where
  f0 : S24
  f1 : Int
  f2 : List S24
  f3 : S41
  f4 : Int
  f5 : S43
  f6 : S43
  f7 : ByteArray
  f8 : ByteArray
  f9 : Int
  f10 : Bool
/-- The cells of an operation. -/
def opC (o : S45) (A : Option Addr) (c : Nat) : Array Value := #[.int .i64 o.f0.f0, .int .i64 o.f0.f1, .int .i64 o.f1, .slice A o.f2.length c, .int .i64 o.f3.f0, .string o.f3.f1, .int .i64 o.f4, .int .i64 o.f5.f0, .int .i64 o.f5.f1, .int .i64 o.f5.f2, .int .i64 o.f6.f0, .int .i64 o.f6.f1, .int .i64 o.f6.f2, .string o.f7, .string o.f8, .int .i64 o.f9, .bool o.f10]
/-- A dot, a part, an ID as values. -/
def dotV (x : S24) : Value := .agg #[.int .i64 x.f0, .int .i64 x.f1]
def partV (x : S41) : Value := .agg #[.int .i64 x.f0, .string x.f1]
def idV (x : S43) : Value := .agg #[.int .i64 x.f0, .int .i64 x.f1, .int .i64 x.f2]
theorem size45 : (Tryd.prog.info? 45).map (·.size) = some 17 := by kernel_rfl
theorem size43 : (Tryd.prog.info? 43).map (·.size) = some 3 := by kernel_rfl
theorem size41 : (Tryd.prog.info? 41).map (·.size) = some 2 := by kernel_rfl
theorem size24 : (Tryd.prog.info? 24).map (·.size) = some 2 := by kernel_rfl
/-- A block that holds an operation. -/
def IsOp (w : World) (g : Nat) (o : S45) (A : Option Addr) (c : Nat) : Prop := w.heap[g]? = some (.cells (opC o A c) 45 (0, 0))
theorem IsOp.c0 {w : World} {g : Nat} {o : S45} {A : Option Addr} {c : Nat} (h : IsOp w g o A c) : w.cell? ⟨g, 0, none⟩ = some (.int .i64 o.f0.f0) := (blk_cell h 0).trans rfl
theorem IsOp.c1 {w : World} {g : Nat} {o : S45} {A : Option Addr} {c : Nat} (h : IsOp w g o A c) : w.cell? ⟨g, 1, none⟩ = some (.int .i64 o.f0.f1) := (blk_cell h 1).trans rfl
theorem IsOp.c2 {w : World} {g : Nat} {o : S45} {A : Option Addr} {c : Nat} (h : IsOp w g o A c) : w.cell? ⟨g, 2, none⟩ = some (.int .i64 o.f1) := (blk_cell h 2).trans rfl
theorem IsOp.c3 {w : World} {g : Nat} {o : S45} {A : Option Addr} {c : Nat} (h : IsOp w g o A c) : w.cell? ⟨g, 3, none⟩ = some (.slice A o.f2.length c) := (blk_cell h 3).trans rfl
theorem IsOp.c4 {w : World} {g : Nat} {o : S45} {A : Option Addr} {c : Nat} (h : IsOp w g o A c) : w.cell? ⟨g, 4, none⟩ = some (.int .i64 o.f3.f0) := (blk_cell h 4).trans rfl
theorem IsOp.c5 {w : World} {g : Nat} {o : S45} {A : Option Addr} {c : Nat} (h : IsOp w g o A c) : w.cell? ⟨g, 5, none⟩ = some (.string o.f3.f1) := (blk_cell h 5).trans rfl
theorem IsOp.c6 {w : World} {g : Nat} {o : S45} {A : Option Addr} {c : Nat} (h : IsOp w g o A c) : w.cell? ⟨g, 6, none⟩ = some (.int .i64 o.f4) := (blk_cell h 6).trans rfl
theorem IsOp.c7 {w : World} {g : Nat} {o : S45} {A : Option Addr} {c : Nat} (h : IsOp w g o A c) : w.cell? ⟨g, 7, none⟩ = some (.int .i64 o.f5.f0) := (blk_cell h 7).trans rfl
theorem IsOp.c8 {w : World} {g : Nat} {o : S45} {A : Option Addr} {c : Nat} (h : IsOp w g o A c) : w.cell? ⟨g, 8, none⟩ = some (.int .i64 o.f5.f1) := (blk_cell h 8).trans rfl
theorem IsOp.c9 {w : World} {g : Nat} {o : S45} {A : Option Addr} {c : Nat} (h : IsOp w g o A c) : w.cell? ⟨g, 9, none⟩ = some (.int .i64 o.f5.f2) := (blk_cell h 9).trans rfl
theorem IsOp.c10 {w : World} {g : Nat} {o : S45} {A : Option Addr} {c : Nat} (h : IsOp w g o A c) : w.cell? ⟨g, 10, none⟩ = some (.int .i64 o.f6.f0) := (blk_cell h 10).trans rfl
theorem IsOp.c11 {w : World} {g : Nat} {o : S45} {A : Option Addr} {c : Nat} (h : IsOp w g o A c) : w.cell? ⟨g, 11, none⟩ = some (.int .i64 o.f6.f1) := (blk_cell h 11).trans rfl
theorem IsOp.c12 {w : World} {g : Nat} {o : S45} {A : Option Addr} {c : Nat} (h : IsOp w g o A c) : w.cell? ⟨g, 12, none⟩ = some (.int .i64 o.f6.f2) := (blk_cell h 12).trans rfl
theorem IsOp.c13 {w : World} {g : Nat} {o : S45} {A : Option Addr} {c : Nat} (h : IsOp w g o A c) : w.cell? ⟨g, 13, none⟩ = some (.string o.f7) := (blk_cell h 13).trans rfl
theorem IsOp.c14 {w : World} {g : Nat} {o : S45} {A : Option Addr} {c : Nat} (h : IsOp w g o A c) : w.cell? ⟨g, 14, none⟩ = some (.string o.f8) := (blk_cell h 14).trans rfl
theorem IsOp.c15 {w : World} {g : Nat} {o : S45} {A : Option Addr} {c : Nat} (h : IsOp w g o A c) : w.cell? ⟨g, 15, none⟩ = some (.int .i64 o.f9) := (blk_cell h 15).trans rfl
theorem IsOp.c16 {w : World} {g : Nat} {o : S45} {A : Option Addr} {c : Nat} (h : IsOp w g o A c) : w.cell? ⟨g, 16, none⟩ = some (.bool o.f10) := (blk_cell h 16).trans rfl
theorem IsOp.dot {w : World} {g : Nat} {o : S45} {A : Option Addr} {c : Nat} (h : IsOp w g o A c) : (Instr.loadAt 24 (.pointer (some ⟨g, 0, none⟩))).run Tryd.prog w = .ok (dotV o.f0) w :=
  run_loadAt_mid w g 0 24 [.int .i64 o.f0.f0, .int .i64 o.f0.f1] _ (fun j v hj => by rw [blk_cell h]; match j, hj with | 0, hj => exact hj | 1, hj => exact hj) Tryd.underlying24 rfl size24
theorem IsOp.part {w : World} {g : Nat} {o : S45} {A : Option Addr} {c : Nat} (h : IsOp w g o A c) : (Instr.loadAt 41 (.pointer (some ⟨g, 4, none⟩))).run Tryd.prog w = .ok (partV o.f3) w :=
  run_loadAt_mid w g 4 41 [.int .i64 o.f3.f0, .string o.f3.f1] _ (fun j v hj => by rw [blk_cell h]; match j, hj with | 0, hj => exact hj | 1, hj => exact hj) Tryd.underlying41 rfl size41
theorem IsOp.from_ {w : World} {g : Nat} {o : S45} {A : Option Addr} {c : Nat} (h : IsOp w g o A c) : (Instr.loadAt 43 (.pointer (some ⟨g, 7, none⟩))).run Tryd.prog w = .ok (idV o.f5) w :=
  run_loadAt_mid w g 7 43 [.int .i64 o.f5.f0, .int .i64 o.f5.f1, .int .i64 o.f5.f2] _ (fun j v hj => by rw [blk_cell h]; match j, hj with | 0, hj => exact hj | 1, hj => exact hj | 2, hj => exact hj) Tryd.underlying43 rfl size43
theorem IsOp.to {w : World} {g : Nat} {o : S45} {A : Option Addr} {c : Nat} (h : IsOp w g o A c) : (Instr.loadAt 43 (.pointer (some ⟨g, 10, none⟩))).run Tryd.prog w = .ok (idV o.f6) w :=
  run_loadAt_mid w g 10 43 [.int .i64 o.f6.f0, .int .i64 o.f6.f1, .int .i64 o.f6.f2] _ (fun j v hj => by rw [blk_cell h]; match j, hj with | 0, hj => exact hj | 1, hj => exact hj | 2, hj => exact hj) Tryd.underlying43 rfl size43
theorem IsOp.all {w : World} {g : Nat} {o : S45} {A : Option Addr} {c : Nat} (h : IsOp w g o A c) : (Instr.loadAt 45 (.pointer (some ⟨g, 0, none⟩))).run Tryd.prog w = .ok (.agg (opC o A c)) w := by
  simp only [Instr.loadAt, Instr.sureAddr, Sem.run_bind, Sem.run_pure, Result.andThen_ok, run_loadVar_row w g 45 45 (opC o A c) (0, 0) _ h Tryd.underlying45 rfl size45]
theorem IsOp.below {w w1 : World} {g : Nat} {o : S45} {A : Option Addr} {c : Nat} (h : IsOp w g o A c) (hb : Below w.heap.size w w1) : IsOp w1 g o A c := blk_below h hb
end Go.Proofs.YtncejmjicjlanaaDoor.Q
