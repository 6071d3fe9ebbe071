/- Contract of the reference's Value: told by the plain valP; the reader's cell alone turns, the value's lists are new. -/
import Derived.Test.YtncejmjicjlanaaHandRNext
import Derived.Test.YtncejmjicjlanaaHandValueA
import Derived.Test.YtncejmjicjlanaaHandValue
namespace Go.Proofs.Ytncejmjicjlanaa.Q
section
open Go.RowKit Go.Proofs.YtncejmjicjlanaaW.PrintWords Go.Proofs.YtncejmjicjlanaaW.PrintLast Go.Proofs.YtncejmjicjlanaaW.PrintMore
set_option linter.unusedVariables false
set_option linter.unusedSimpArgs false
/-- What Value leaves. -/
def RvPost (w0 w : World) (g : Nat) (A : Option Addr) (c : Nat) (b : List Int) (out : Option (S24 × List Int)) (e : Ending) (w' : World) : Prop :=
  Kp w0 w w' g ∧
  match out with
  | none => ∃ (v : S24) (v3 : Value) (at_ : Nat), e = .returned (.agg #[.int .i64 v.f0, .int .i64 v.f1, .string v.f2, v3]) ∧ Kd.R k24 24 w' w.heap.size (fun _ => True) v3 v.f3 ∧ IsRf w' g A c b at_ true
  | some (v, r) => ∃ (v3 : Value) (at_ : Nat), e = .returned (.agg #[.int .i64 v.f0, .int .i64 v.f1, .string v.f2, v3]) ∧ Kd.R k24 24 w' w.heap.size (fun _ => True) v3 v.f3 ∧ IsRf w' g A c b at_ false ∧ b.drop at_ = r ∧ at_ ≤ b.length
def RValueOk (m : Nat) : Prop := ∀ (d : Int) (g : Nat) (A : Option Addr) (c : Nat) (b : List Int) (at_ : Nat) (w0 w : World), d = 16 - (m : Int) → m ≤ 16 → RfS w0 g A c b → IsRf w g A c b at_ false → Below w0.heap.size w0 w →
    Calls Try.prog 30 #[.pointer (some ⟨g, 0, none⟩), .int .i64 d] w (RvPost w0 w g A c b (valP m (b.drop at_)))
theorem IsRf.of {W W' : World} {g : Nat} {A : Option Addr} {c : Nat} {b : List Int} {at_ : Nat} {bad : Bool} (h : IsRf W g A c b at_ bad) (e : W'.heap[g]? = W.heap[g]?) : IsRf W' g A c b at_ bad := e.trans h
theorem IsRf.own {W : World} {g h : Nat} {A : Option Addr} {c : Nat} {b : List Int} {at_ : Nat} {bad : Bool} {j : Nat} (hI : IsRf W g A c b at_ bad) (hn : g ≠ h) (v : Value) : IsRf (W.setCell ⟨h, j, none⟩ v) g A c b at_ bad := hI.of (Below.heap_setCell W ⟨h, j, none⟩ v g hn)
theorem Vst.setG {w0 w W : World} {g j : Nat} {x0 x1 x2 x3 : Value} (h : Vst w0 w W g x0 x1 x2 x3) (hg : g < w.heap.size) (hw : w0.heap.size ≤ g) (v : Value) : Vst w0 w (W.setCell ⟨g, j, none⟩ v) g x0 x1 x2 x3 :=
  ⟨(Below.heap_setCell W ⟨g, j, none⟩ v w.heap.size (by show w.heap.size ≠ g; omega)).trans h.1, rd_keep h.2.1, below_set h.2.2 hw⟩
theorem Vst.drewN {w0 w W : World} {g : Nat} {x0 x1 x2 x3 : Value} (h : Vst w0 w W g x0 x1 x2 x3) (n : Nat) : Vst w0 w (W.drewN n) g x0 x1 x2 x3 := ⟨h.1, keep_drewN h.2.1 n, pw_below_drewN h.2.2 n⟩
theorem rv_arith (a4 N len : Nat) (h1 : a4 + N ≤ len) (h2 : len < 2000000000) : wrap64 ((a4 : Int) + (N : Int)) = ((a4 + N : Nat) : Int) ∧ wrap64 (((a4 + N : Nat) : Int) - (N : Int)) = (a4 : Int) := by
  have e : ((a4 + N : Nat) : Int) = (a4 : Int) + (N : Int) := Int.natCast_add a4 N
  rw [e]
  refine ⟨IntWalk.wrap64_in _ (by omega), ?_⟩
  have e2 : (a4 : Int) + (N : Int) - (N : Int) = (a4 : Int) := by omega
  rw [e2]
  exact IntWalk.wrap64_in _ (by omega)
theorem numR_sig (u : Int) (h0 : 0 ≤ u) (h1 : u < 18446744073709551616) : (u % 2 = 1 → sigP u = -(u / 2) - 1) ∧ (¬ u % 2 = 1 → sigP u = u / 2) := by
  rw [sigP_eq u h0 h1]
  constructor
  · intro h
    rw [if_neg (by omega)]
  · intro h
    rw [if_pos (by omega)]
set_option maxHeartbeats 4000000 in
set_option maxRecDepth 100000 in
theorem rvalue_nil (m : Nat) (d : Int) (g : Nat) (A : Option Addr) (c : Nat) (b : List Int) (at_ : Nat) (w0 w : World) (hd : d = 16 - ((m : Nat) : Int)) (hm : m ≤ 16) (hs : RfS w0 g A c b) (hI : IsRf w g A c b at_ false) (hB : Below w0.heap.size w0 w) (hx : b.drop at_ = []) :
    Calls Try.prog 30 #[.pointer (some ⟨g, 0, none⟩), .int .i64 d] w (RvPost w0 w g A c b (valP (m) (b.drop at_))) := by
  have hgl : g < w.heap.size := blk_lt hI
  have hu24 := Try.underlying24
  have HD := Aside0.mk hd
  have HS := Aside0.mk hs
  clear hd
  obtain ⟨R, hR⟩ : ∃ R, valP (m) (b.drop at_) = R := ⟨_, rfl⟩
  rw [hR]
  rw [hx] at hR
  go_enter Try.func30, Try.ntmps30
  go_wp2_with fail
  have hBv := blk_new w (.cells #[.int .i64 0, .int .i64 0, .string ⟨#[]⟩, .slice none 0 0] 24)
  have hI1 := IsRf.of hI (Below.heap_alloc w (.cells #[.int .i64 0, .int .i64 0, .string ⟨#[]⟩, .slice none 0 0] 24) g hgl)
  have hB1 := below_alloc hB (.cells #[.int .i64 0, .int .i64 0, .string ⟨#[]⟩, .slice none 0 0] 24)
  have hK1 := keep_alloc (KeepBut.refl w g none) (.cells #[.int .i64 0, .int .i64 0, .string ⟨#[]⟩, .slice none 0 0] 24)
  generalize hW1 : w.alloc (.cells #[.int .i64 0, .int .i64 0, .string ⟨#[]⟩, .slice none 0 0] 24) = W1 at *
  have HWS := Aside0.mk hB.size
  have HG0 := Aside0.mk hs.hg
  clear hW1 hB hI
  have hle : b.length ≤ at_ := by
    rcases Nat.lt_or_ge at_ b.length with h | h
    · rw [List.drop_eq_getElem_cons h] at hx
      cases hx
    · exact h
  refine (next_end w0 W1 g A c b at_ false hs hI1 hB1 hle).mono ?_
  rintro e W2 ⟨rfl, hI2, hk2⟩
  clear hs hx hle
  have hV : Vst w0 w W2 g (.int .i64 0) (.int .i64 0) (.string ⟨#[]⟩) (.slice none 0 0) := Vst.next ⟨hBv, hK1, hB1⟩ hgl hk2.1 hk2.2
  have HV := Aside0.mk hV
  have HI2 := Aside0.mk hI2
  have hgn : ¬ w.heap.size = g := by omega
  have HW0 := Aside0.mk (show w0.heap.size ≤ w.heap.size from HWS.out)
  clear hK1 hB1 hI1 hBv hk2 hI2 hV HWS
  simp only [valP] at hR
  subst hR
  obtain ⟨hc0, hc1, hc2, hc3⟩ := HV.out.cells
  have hfz := fun j => blk_frozen HV.out.1 j
  have r0 := (blk_cell HI2.out 0).trans (show _ = some (Value.slice A b.length c) from rfl)
  have r1 := (blk_cell HI2.out 1).trans (show _ = some (Value.int .i64 _) from rfl)
  have r2 := (blk_cell HI2.out 2).trans (show _ = some (Value.bool true) from rfl)
  have rfz := fun j => blk_frozen HI2.out j
  go_wp2
  have HV5 := Aside0.mk (HV.out.setG (j := 2) hgl HG0.out (.bool true))
  have HI5 := Aside0.mk (show IsRf (W2.setCell ⟨g, 2, none⟩ (.bool true)) g A c b _ true from blk_put HI2.out 2 (.bool true) rfl)
  have HV9 := Aside0.mk (((((HV5.out).set0 HW0.out (.int .i64 0)).set1 HW0.out (.int .i64 0)).set2 HW0.out (.string ⟨#[]⟩)).set3 HW0.out (.slice none 0 0))
  have HI9 := Aside0.mk (((((HI5.out).own (h := w.heap.size) (j := 0) (by omega) (.int .i64 0)).own (h := w.heap.size) (j := 1) (by omega) (.int .i64 0)).own (h := w.heap.size) (j := 2) (by omega) (.string ⟨#[]⟩)).own (h := w.heap.size) (j := 3) (by omega) (.slice none 0 0))
  obtain ⟨c90, c91, c92, c93⟩ := HV9.out.cells
  (try clear hc0 hc1 hc2 hc3 hfz)
  (try clear r0 r1 r2 rfz)
  generalize ((((W2.setCell ⟨g, 2, none⟩ (.bool true)).setCell ⟨w.heap.size, 0, none⟩ (.int .i64 0)).setCell ⟨w.heap.size, 1, none⟩ (.int .i64 0)).setCell ⟨w.heap.size, 2, none⟩ (.string ⟨#[]⟩)).setCell ⟨w.heap.size, 3, none⟩ (.slice none 0 0) = W9 at *
  refine bodyPost_ret (v := .agg #[.int .i64 0, .int .i64 0, .string ⟨#[]⟩, .slice none 0 0]) (by simp [results, Try.results30, go_sem, c90, c91, c92, c93]) rfl ⟨⟨HV9.out.2.1, HV9.out.2.2⟩, ⟨0, 0, ⟨#[]⟩, []⟩, .slice none 0 0, _, rfl, Kd.R_nil _ _ _ _ _, HI9.out⟩
set_option maxHeartbeats 4000000 in
set_option maxRecDepth 100000 in
theorem rvalue_bad (m : Nat) (d : Int) (g : Nat) (A : Option Addr) (c : Nat) (b : List Int) (at_ : Nat) (x : Int) (l : List Int) (w0 w : World) (hd : d = 16 - ((m : Nat) : Int)) (hm : m ≤ 16) (hs : RfS w0 g A c b) (hI : IsRf w g A c b at_ false) (hB : Below w0.heap.size w0 w) (hx : b.drop at_ = x :: l) (k1 : ¬ x = 1) (k2 : ¬ x = 2) (k3 : ¬ x = 3) :
    Calls Try.prog 30 #[.pointer (some ⟨g, 0, none⟩), .int .i64 d] w (RvPost w0 w g A c b (valP (m) (b.drop at_))) := by
  have hgl : g < w.heap.size := blk_lt hI
  have hu24 := Try.underlying24
  have HD := Aside0.mk hd
  have HS := Aside0.mk hs
  clear hd
  obtain ⟨R, hR⟩ : ∃ R, valP (m) (b.drop at_) = R := ⟨_, rfl⟩
  rw [hR]
  rw [hx] at hR
  go_enter Try.func30, Try.ntmps30
  go_wp2_with fail
  have hBv := blk_new w (.cells #[.int .i64 0, .int .i64 0, .string ⟨#[]⟩, .slice none 0 0] 24)
  have hI1 := IsRf.of hI (Below.heap_alloc w (.cells #[.int .i64 0, .int .i64 0, .string ⟨#[]⟩, .slice none 0 0] 24) g hgl)
  have hB1 := below_alloc hB (.cells #[.int .i64 0, .int .i64 0, .string ⟨#[]⟩, .slice none 0 0] 24)
  have hK1 := keep_alloc (KeepBut.refl w g none) (.cells #[.int .i64 0, .int .i64 0, .string ⟨#[]⟩, .slice none 0 0] 24)
  generalize hW1 : w.alloc (.cells #[.int .i64 0, .int .i64 0, .string ⟨#[]⟩, .slice none 0 0] 24) = W1 at *
  have HWS := Aside0.mk hB.size
  have HG0 := Aside0.mk hs.hg
  clear hW1 hB hI
  have hxb : 0 ≤ x ∧ x < 256 := hs.hb x (by
    have : x ∈ b.drop at_ := by rw [hx]; simp
    exact List.mem_of_mem_drop this)
  have hwx : wrap64 x = x := IntWalk.wrap64_in x (by omega)
  have hdr : b.drop (at_ + 1) = l := by
    rw [← List.drop_drop, hx]
    rfl
  refine (next_ok w0 W1 g A c b at_ false hs hI1 hB1 x l hx).mono ?_
  rintro e W2 ⟨rfl, hI2, hk2⟩
  have hll : l.length < 2000000000 := by
    rw [← hdr, List.length_drop]
    have := hs.hl
    omega
  clear hs hx
  have hV : Vst w0 w W2 g (.int .i64 0) (.int .i64 0) (.string ⟨#[]⟩) (.slice none 0 0) := Vst.next ⟨hBv, hK1, hB1⟩ hgl hk2.1 hk2.2
  have HV := Aside0.mk hV
  have HI2 := Aside0.mk hI2
  have hgn : ¬ w.heap.size = g := by omega
  have HW0 := Aside0.mk (show w0.heap.size ≤ w.heap.size from HWS.out)
  clear hK1 hB1 hI1 hBv hk2 hI2 hV HWS
  unfold valP at hR
  rw [hwx, if_neg k1, if_neg k2, if_neg k3] at hR
  subst hR
  have e1 : (x == 1) = false := by simpa using k1
  have e2 : (x == 2) = false := by simpa using k2
  have e3 : (x == 3) = false := by simpa using k3
  obtain ⟨hc0, hc1, hc2, hc3⟩ := HV.out.cells
  have hfz := fun j => blk_frozen HV.out.1 j
  have r0 := (blk_cell HI2.out 0).trans (show _ = some (Value.slice A b.length c) from rfl)
  have r1 := (blk_cell HI2.out 1).trans (show _ = some (Value.int .i64 _) from rfl)
  have r2 := (blk_cell HI2.out 2).trans (show _ = some (Value.bool false) from rfl)
  have rfz := fun j => blk_frozen HI2.out j
  go_wp2
  have HV5 := Aside0.mk (HV.out.setG (j := 2) hgl HG0.out (.bool true))
  have HI5 := Aside0.mk (show IsRf (W2.setCell ⟨g, 2, none⟩ (.bool true)) g A c b _ true from blk_put HI2.out 2 (.bool true) rfl)
  have HV9 := Aside0.mk (((((HV5.out).set0 HW0.out (.int .i64 0)).set1 HW0.out (.int .i64 0)).set2 HW0.out (.string ⟨#[]⟩)).set3 HW0.out (.slice none 0 0))
  have HI9 := Aside0.mk (((((HI5.out).own (h := w.heap.size) (j := 0) (by omega) (.int .i64 0)).own (h := w.heap.size) (j := 1) (by omega) (.int .i64 0)).own (h := w.heap.size) (j := 2) (by omega) (.string ⟨#[]⟩)).own (h := w.heap.size) (j := 3) (by omega) (.slice none 0 0))
  obtain ⟨c90, c91, c92, c93⟩ := HV9.out.cells
  (try clear hc0 hc1 hc2 hc3 hfz)
  (try clear r0 r1 r2 rfz)
  generalize ((((W2.setCell ⟨g, 2, none⟩ (.bool true)).setCell ⟨w.heap.size, 0, none⟩ (.int .i64 0)).setCell ⟨w.heap.size, 1, none⟩ (.int .i64 0)).setCell ⟨w.heap.size, 2, none⟩ (.string ⟨#[]⟩)).setCell ⟨w.heap.size, 3, none⟩ (.slice none 0 0) = W9 at *
  refine bodyPost_ret (v := .agg #[.int .i64 0, .int .i64 0, .string ⟨#[]⟩, .slice none 0 0]) (by simp [results, Try.results30, go_sem, c90, c91, c92, c93]) rfl ⟨⟨HV9.out.2.1, HV9.out.2.2⟩, ⟨0, 0, ⟨#[]⟩, []⟩, .slice none 0 0, _, rfl, Kd.R_nil _ _ _ _ _, HI9.out⟩
set_option maxHeartbeats 4000000 in
set_option maxRecDepth 100000 in
theorem rvalue_int (m : Nat) (d : Int) (g : Nat) (A : Option Addr) (c : Nat) (b : List Int) (at_ : Nat) (x : Int) (l : List Int) (w0 w : World) (hd : d = 16 - ((m : Nat) : Int)) (hm : m ≤ 16) (hs : RfS w0 g A c b) (hI : IsRf w g A c b at_ false) (hB : Below w0.heap.size w0 w) (hx : b.drop at_ = x :: l) (k1 : x = 1) :
    Calls Try.prog 30 #[.pointer (some ⟨g, 0, none⟩), .int .i64 d] w (RvPost w0 w g A c b (valP (m) (b.drop at_))) := by
  have hgl : g < w.heap.size := blk_lt hI
  have hu24 := Try.underlying24
  have HD := Aside0.mk hd
  have HS := Aside0.mk hs
  clear hd
  obtain ⟨R, hR⟩ : ∃ R, valP (m) (b.drop at_) = R := ⟨_, rfl⟩
  rw [hR]
  rw [hx] at hR
  go_enter Try.func30, Try.ntmps30
  go_wp2_with fail
  have hBv := blk_new w (.cells #[.int .i64 0, .int .i64 0, .string ⟨#[]⟩, .slice none 0 0] 24)
  have hI1 := IsRf.of hI (Below.heap_alloc w (.cells #[.int .i64 0, .int .i64 0, .string ⟨#[]⟩, .slice none 0 0] 24) g hgl)
  have hB1 := below_alloc hB (.cells #[.int .i64 0, .int .i64 0, .string ⟨#[]⟩, .slice none 0 0] 24)
  have hK1 := keep_alloc (KeepBut.refl w g none) (.cells #[.int .i64 0, .int .i64 0, .string ⟨#[]⟩, .slice none 0 0] 24)
  generalize hW1 : w.alloc (.cells #[.int .i64 0, .int .i64 0, .string ⟨#[]⟩, .slice none 0 0] 24) = W1 at *
  have HWS := Aside0.mk hB.size
  have HG0 := Aside0.mk hs.hg
  clear hW1 hB hI
  have hxb : 0 ≤ x ∧ x < 256 := hs.hb x (by
    have : x ∈ b.drop at_ := by rw [hx]; simp
    exact List.mem_of_mem_drop this)
  have hwx : wrap64 x = x := IntWalk.wrap64_in x (by omega)
  have hdr : b.drop (at_ + 1) = l := by
    rw [← List.drop_drop, hx]
    rfl
  refine (next_ok w0 W1 g A c b at_ false hs hI1 hB1 x l hx).mono ?_
  rintro e W2 ⟨rfl, hI2, hk2⟩
  have hll : l.length < 2000000000 := by
    rw [← hdr, List.length_drop]
    have := hs.hl
    omega
  clear hs hx
  have hV : Vst w0 w W2 g (.int .i64 0) (.int .i64 0) (.string ⟨#[]⟩) (.slice none 0 0) := Vst.next ⟨hBv, hK1, hB1⟩ hgl hk2.1 hk2.2
  have HV := Aside0.mk hV
  have HI2 := Aside0.mk hI2
  have hgn : ¬ w.heap.size = g := by omega
  have HW0 := Aside0.mk (show w0.heap.size ≤ w.heap.size from HWS.out)
  clear hK1 hB1 hI1 hBv hk2 hI2 hV HWS
  unfold valP at hR
  rw [hwx, if_pos k1] at hR
  subst k1
  go_wp2_with fail
  refine (rnumber_calls w0 W2 g A c b (at_ + 1) HS.out HI2.out HV.out.2.2).mono ?_
  rintro e W4 ⟨hk4, hp⟩
  have HV4 := Aside0.mk (HV.out.next hgl hk4.1 hk4.2)
  clear HV HI2 hk4
  rw [hdr] at hp
  cases hN : numP l 0 0 with
  | none =>
    rw [hN] at hp hR
    simp only at hp hR
    subst hR
    obtain ⟨n, a4, rfl, hI4⟩ := hp
    have HI4 := Aside0.mk hI4
    clear hI4 hN
    by_cases ho : (Int.tmod n 2 == 1) = true
    · obtain ⟨hc0, hc1, hc2, hc3⟩ := HV4.out.cells
      have hfz := fun j => blk_frozen HV4.out.1 j
      go_wp2
      have HV9 := Aside0.mk (((((HV4.out).set0 HW0.out (.int .i64 1)).set1 HW0.out (.int .i64 (wrap64 (wrap64 (-(wrap64 (IntKind.u64.wrap (Int.tdiv n 2)))) - 1)))).set2 HW0.out (.string ⟨#[]⟩)).set3 HW0.out (.slice none 0 0))
      have HI9 := Aside0.mk (((((HI4.out).own (h := w.heap.size) (j := 0) (by omega) (.int .i64 1)).own (h := w.heap.size) (j := 1) (by omega) (.int .i64 (wrap64 (wrap64 (-(wrap64 (IntKind.u64.wrap (Int.tdiv n 2)))) - 1)))).own (h := w.heap.size) (j := 2) (by omega) (.string ⟨#[]⟩)).own (h := w.heap.size) (j := 3) (by omega) (.slice none 0 0))
      obtain ⟨c90, c91, c92, c93⟩ := HV9.out.cells
      (try clear hc0 hc1 hc2 hc3 hfz)
      (try clear r0 r1 r2 rfz)
      generalize ((((W4).setCell ⟨w.heap.size, 0, none⟩ (.int .i64 1)).setCell ⟨w.heap.size, 1, none⟩ (.int .i64 (wrap64 (wrap64 (-(wrap64 (IntKind.u64.wrap (Int.tdiv n 2)))) - 1)))).setCell ⟨w.heap.size, 2, none⟩ (.string ⟨#[]⟩)).setCell ⟨w.heap.size, 3, none⟩ (.slice none 0 0) = W9 at *
      refine bodyPost_ret (v := .agg #[.int .i64 1, .int .i64 (wrap64 (wrap64 (-(wrap64 (IntKind.u64.wrap (Int.tdiv n 2)))) - 1)), .string ⟨#[]⟩, .slice none 0 0]) (by simp [results, Try.results30, go_sem, c90, c91, c92, c93]) rfl ⟨⟨HV9.out.2.1, HV9.out.2.2⟩, ⟨1, (wrap64 (wrap64 (-(wrap64 (IntKind.u64.wrap (Int.tdiv n 2)))) - 1)), ⟨#[]⟩, []⟩, .slice none 0 0, _, rfl, Kd.R_nil _ _ _ _ _, HI9.out⟩
    · have ho2 : (Int.tmod n 2 == 1) = false := by simpa using ho
      clear ho
      obtain ⟨hc0, hc1, hc2, hc3⟩ := HV4.out.cells
      have hfz := fun j => blk_frozen HV4.out.1 j
      go_wp2
      have HV9 := Aside0.mk (((((HV4.out).set0 HW0.out (.int .i64 1)).set1 HW0.out (.int .i64 (wrap64 (IntKind.u64.wrap (Int.tdiv n 2))))).set2 HW0.out (.string ⟨#[]⟩)).set3 HW0.out (.slice none 0 0))
      have HI9 := Aside0.mk (((((HI4.out).own (h := w.heap.size) (j := 0) (by omega) (.int .i64 1)).own (h := w.heap.size) (j := 1) (by omega) (.int .i64 (wrap64 (IntKind.u64.wrap (Int.tdiv n 2))))).own (h := w.heap.size) (j := 2) (by omega) (.string ⟨#[]⟩)).own (h := w.heap.size) (j := 3) (by omega) (.slice none 0 0))
      obtain ⟨c90, c91, c92, c93⟩ := HV9.out.cells
      (try clear hc0 hc1 hc2 hc3 hfz)
      (try clear r0 r1 r2 rfz)
      generalize ((((W4).setCell ⟨w.heap.size, 0, none⟩ (.int .i64 1)).setCell ⟨w.heap.size, 1, none⟩ (.int .i64 (wrap64 (IntKind.u64.wrap (Int.tdiv n 2))))).setCell ⟨w.heap.size, 2, none⟩ (.string ⟨#[]⟩)).setCell ⟨w.heap.size, 3, none⟩ (.slice none 0 0) = W9 at *
      refine bodyPost_ret (v := .agg #[.int .i64 1, .int .i64 (wrap64 (IntKind.u64.wrap (Int.tdiv n 2))), .string ⟨#[]⟩, .slice none 0 0]) (by simp [results, Try.results30, go_sem, c90, c91, c92, c93]) rfl ⟨⟨HV9.out.2.1, HV9.out.2.2⟩, ⟨1, (wrap64 (IntKind.u64.wrap (Int.tdiv n 2))), ⟨#[]⟩, []⟩, .slice none 0 0, _, rfl, Kd.R_nil _ _ _ _ _, HI9.out⟩
  | some y =>
    obtain ⟨n, r⟩ := y
    rw [hN] at hp hR
    simp only at hp hR
    subst hR
    obtain ⟨a4, rfl, hI4, hdr4, hal4⟩ := hp
    have HI4 := Aside0.mk hI4
    have hrg := numP_range _ _ _ _ _ hN
    have hsg := numR_sig n hrg.1 hrg.2
    have ht : Int.tmod n 2 = n % 2 := Int.tmod_eq_emod_of_nonneg hrg.1
    have ht2 : Int.tdiv n 2 = n / 2 := Int.tdiv_eq_ediv_of_nonneg hrg.1
    have hu : IntKind.u64.wrap (n / 2) = n / 2 := by rw [IntKind.wrap_u64]; omega
    unfold sigP at hsg
    clear hI4 hN
    by_cases ho : n % 2 = 1
    · have ho2 : (Int.tmod n 2 == 1) = true := by rw [ht]; simpa using ho
      have hv : wrap64 (wrap64 (-(wrap64 (IntKind.u64.wrap (Int.tdiv n 2)))) - 1) = Go.bits .xor .i64 (wrap64 (n / 2)) (wrap64 (-(wrap64 (Go.bits .and .u64 n 1)))) := by
        rw [hsg.1 ho, ht2, hu, IntWalk.wrap64_in (n / 2) (by omega), IntWalk.wrap64_in (-(n / 2)) (by omega), IntWalk.wrap64_in _ (by omega)]
      have HVv := Aside0.mk hv
      clear hrg ht ht2 hu hsg ho hv
      obtain ⟨hc0, hc1, hc2, hc3⟩ := HV4.out.cells
      have hfz := fun j => blk_frozen HV4.out.1 j
      go_wp2
      have HV9 := Aside0.mk (((((HV4.out).set0 HW0.out (.int .i64 1)).set1 HW0.out (.int .i64 (wrap64 (wrap64 (-(wrap64 (IntKind.u64.wrap (Int.tdiv n 2)))) - 1)))).set2 HW0.out (.string ⟨#[]⟩)).set3 HW0.out (.slice none 0 0))
      have HI9 := Aside0.mk (((((HI4.out).own (h := w.heap.size) (j := 0) (by omega) (.int .i64 1)).own (h := w.heap.size) (j := 1) (by omega) (.int .i64 (wrap64 (wrap64 (-(wrap64 (IntKind.u64.wrap (Int.tdiv n 2)))) - 1)))).own (h := w.heap.size) (j := 2) (by omega) (.string ⟨#[]⟩)).own (h := w.heap.size) (j := 3) (by omega) (.slice none 0 0))
      obtain ⟨c90, c91, c92, c93⟩ := HV9.out.cells
      (try clear hc0 hc1 hc2 hc3 hfz)
      (try clear r0 r1 r2 rfz)
      generalize ((((W4).setCell ⟨w.heap.size, 0, none⟩ (.int .i64 1)).setCell ⟨w.heap.size, 1, none⟩ (.int .i64 (wrap64 (wrap64 (-(wrap64 (IntKind.u64.wrap (Int.tdiv n 2)))) - 1)))).setCell ⟨w.heap.size, 2, none⟩ (.string ⟨#[]⟩)).setCell ⟨w.heap.size, 3, none⟩ (.slice none 0 0) = W9 at *
      refine bodyPost_ret (v := .agg #[.int .i64 1, .int .i64 (wrap64 (wrap64 (-(wrap64 (IntKind.u64.wrap (Int.tdiv n 2)))) - 1)), .string ⟨#[]⟩, .slice none 0 0]) (by simp [results, Try.results30, go_sem, c90, c91, c92, c93]) rfl ⟨⟨HV9.out.2.1, HV9.out.2.2⟩, .slice none 0 0, _, (by rw [HVv.out]), Kd.R_nil _ _ _ _ _, HI9.out, hdr4, hal4⟩
    · have ho2 : (Int.tmod n 2 == 1) = false := by rw [ht]; simpa using ho
      have hv : wrap64 (IntKind.u64.wrap (Int.tdiv n 2)) = Go.bits .xor .i64 (wrap64 (n / 2)) (wrap64 (-(wrap64 (Go.bits .and .u64 n 1)))) := by
        rw [hsg.2 ho, ht2, hu, IntWalk.wrap64_in (n / 2) (by omega)]
      have HVv := Aside0.mk hv
      clear hrg ht ht2 hu hsg ho hv
      obtain ⟨hc0, hc1, hc2, hc3⟩ := HV4.out.cells
      have hfz := fun j => blk_frozen HV4.out.1 j
      go_wp2
      have HV9 := Aside0.mk (((((HV4.out).set0 HW0.out (.int .i64 1)).set1 HW0.out (.int .i64 (wrap64 (IntKind.u64.wrap (Int.tdiv n 2))))).set2 HW0.out (.string ⟨#[]⟩)).set3 HW0.out (.slice none 0 0))
      have HI9 := Aside0.mk (((((HI4.out).own (h := w.heap.size) (j := 0) (by omega) (.int .i64 1)).own (h := w.heap.size) (j := 1) (by omega) (.int .i64 (wrap64 (IntKind.u64.wrap (Int.tdiv n 2))))).own (h := w.heap.size) (j := 2) (by omega) (.string ⟨#[]⟩)).own (h := w.heap.size) (j := 3) (by omega) (.slice none 0 0))
      obtain ⟨c90, c91, c92, c93⟩ := HV9.out.cells
      (try clear hc0 hc1 hc2 hc3 hfz)
      (try clear r0 r1 r2 rfz)
      generalize ((((W4).setCell ⟨w.heap.size, 0, none⟩ (.int .i64 1)).setCell ⟨w.heap.size, 1, none⟩ (.int .i64 (wrap64 (IntKind.u64.wrap (Int.tdiv n 2))))).setCell ⟨w.heap.size, 2, none⟩ (.string ⟨#[]⟩)).setCell ⟨w.heap.size, 3, none⟩ (.slice none 0 0) = W9 at *
      refine bodyPost_ret (v := .agg #[.int .i64 1, .int .i64 (wrap64 (IntKind.u64.wrap (Int.tdiv n 2))), .string ⟨#[]⟩, .slice none 0 0]) (by simp [results, Try.results30, go_sem, c90, c91, c92, c93]) rfl ⟨⟨HV9.out.2.1, HV9.out.2.2⟩, .slice none 0 0, _, (by rw [HVv.out]), Kd.R_nil _ _ _ _ _, HI9.out, hdr4, hal4⟩
end
section
open Go.RowKit Go.Proofs.YtncejmjicjlanaaW.PrintWords Go.Proofs.YtncejmjicjlanaaW.PrintLast Go.Proofs.YtncejmjicjlanaaW.PrintMore
set_option linter.unusedVariables false
set_option linter.unusedSimpArgs false
set_option maxHeartbeats 4000000 in
set_option maxRecDepth 100000 in
theorem rvalue_text (m : Nat) (d : Int) (g : Nat) (A : Option Addr) (c : Nat) (b : List Int) (at_ : Nat) (x : Int) (l : List Int) (w0 w : World) (hd : d = 16 - ((m : Nat) : Int)) (hm : m ≤ 16) (hs : RfS w0 g A c b) (hI : IsRf w g A c b at_ false) (hB : Below w0.heap.size w0 w) (hx : b.drop at_ = x :: l) (k2 : x = 2) :
    Calls Try.prog 30 #[.pointer (some ⟨g, 0, none⟩), .int .i64 d] w (RvPost w0 w g A c b (valP (m) (b.drop at_))) := by
  have hgl : g < w.heap.size := blk_lt hI
  have hu24 := Try.underlying24
  have HD := Aside0.mk hd
  have HS := Aside0.mk hs
  clear hd
  obtain ⟨R, hR⟩ : ∃ R, valP (m) (b.drop at_) = R := ⟨_, rfl⟩
  rw [hR]
  rw [hx] at hR
  go_enter Try.func30, Try.ntmps30
  go_wp2_with fail
  have hBv := blk_new w (.cells #[.int .i64 0, .int .i64 0, .string ⟨#[]⟩, .slice none 0 0] 24)
  have hI1 := IsRf.of hI (Below.heap_alloc w (.cells #[.int .i64 0, .int .i64 0, .string ⟨#[]⟩, .slice none 0 0] 24) g hgl)
  have hB1 := below_alloc hB (.cells #[.int .i64 0, .int .i64 0, .string ⟨#[]⟩, .slice none 0 0] 24)
  have hK1 := keep_alloc (KeepBut.refl w g none) (.cells #[.int .i64 0, .int .i64 0, .string ⟨#[]⟩, .slice none 0 0] 24)
  generalize hW1 : w.alloc (.cells #[.int .i64 0, .int .i64 0, .string ⟨#[]⟩, .slice none 0 0] 24) = W1 at *
  have HWS := Aside0.mk hB.size
  have HG0 := Aside0.mk hs.hg
  clear hW1 hB hI
  have hxb : 0 ≤ x ∧ x < 256 := hs.hb x (by
    have : x ∈ b.drop at_ := by rw [hx]; simp
    exact List.mem_of_mem_drop this)
  have hwx : wrap64 x = x := IntWalk.wrap64_in x (by omega)
  have hdr : b.drop (at_ + 1) = l := by
    rw [← List.drop_drop, hx]
    rfl
  refine (next_ok w0 W1 g A c b at_ false hs hI1 hB1 x l hx).mono ?_
  rintro e W2 ⟨rfl, hI2, hk2⟩
  have hll : l.length < 2000000000 := by
    rw [← hdr, List.length_drop]
    have := hs.hl
    omega
  clear hs hx
  have hV : Vst w0 w W2 g (.int .i64 0) (.int .i64 0) (.string ⟨#[]⟩) (.slice none 0 0) := Vst.next ⟨hBv, hK1, hB1⟩ hgl hk2.1 hk2.2
  have HV := Aside0.mk hV
  have HI2 := Aside0.mk hI2
  have hgn : ¬ w.heap.size = g := by omega
  have HW0 := Aside0.mk (show w0.heap.size ≤ w.heap.size from HWS.out)
  clear hK1 hB1 hI1 hBv hk2 hI2 hV HWS
  unfold valP at hR
  rw [hwx, if_neg (by omega), if_pos k2] at hR
  subst k2
  go_wp2_with fail
  refine (rnumber_calls w0 W2 g A c b (at_ + 1) HS.out HI2.out HV.out.2.2).mono ?_
  rintro e W4 ⟨hk4, hp⟩
  have HV4 := Aside0.mk (HV.out.next hgl hk4.1 hk4.2)
  clear HV HI2 hk4
  rw [hdr] at hp
  cases hN : numP l 0 0 with
  | none =>
    have hL : lenP l = none := by unfold lenP; rw [hN]
    rw [hL] at hR
    rw [hN] at hp
    simp only at hp hR
    subst hR
    obtain ⟨n, a4, rfl, hI4⟩ := hp
    have HI4 := Aside0.mk hI4
    clear hI4 hN hL
    obtain ⟨hc0, hc1, hc2, hc3⟩ := HV4.out.cells
    have hfz := fun j => blk_frozen HV4.out.1 j
    have r0 := (blk_cell HI4.out 0).trans (show _ = some (Value.slice A b.length c) from rfl)
    have r1 := (blk_cell HI4.out 1).trans (show _ = some (Value.int .i64 _) from rfl)
    have r2 := (blk_cell HI4.out 2).trans (show _ = some (Value.bool true) from rfl)
    have rfz := fun j => blk_frozen HI4.out j
    go_wp2_with fail
    go_quiet (fail)
    have HV5 := Aside0.mk ((HV4.out.drewN nq).setG (j := 2) hgl HG0.out (.bool true))
    have HI5 := Aside0.mk (show IsRf ((W4.drewN nq).setCell ⟨g, 2, none⟩ (.bool true)) g A c b _ true from blk_put (blk_drewN HI4.out nq) 2 (.bool true) rfl)
    go_wp2
    have HV9 := Aside0.mk (((((HV5.out).set0 HW0.out (.int .i64 0)).set1 HW0.out (.int .i64 0)).set2 HW0.out (.string ⟨#[]⟩)).set3 HW0.out (.slice none 0 0))
    have HI9 := Aside0.mk (((((HI5.out).own (h := w.heap.size) (j := 0) (by omega) (.int .i64 0)).own (h := w.heap.size) (j := 1) (by omega) (.int .i64 0)).own (h := w.heap.size) (j := 2) (by omega) (.string ⟨#[]⟩)).own (h := w.heap.size) (j := 3) (by omega) (.slice none 0 0))
    obtain ⟨c90, c91, c92, c93⟩ := HV9.out.cells
    (try clear hc0 hc1 hc2 hc3 hfz)
    (try clear r0 r1 r2 rfz)
    generalize (((((W4.drewN nq).setCell ⟨g, 2, none⟩ (.bool true)).setCell ⟨w.heap.size, 0, none⟩ (.int .i64 0)).setCell ⟨w.heap.size, 1, none⟩ (.int .i64 0)).setCell ⟨w.heap.size, 2, none⟩ (.string ⟨#[]⟩)).setCell ⟨w.heap.size, 3, none⟩ (.slice none 0 0) = W9 at *
    refine bodyPost_ret (v := .agg #[.int .i64 0, .int .i64 0, .string ⟨#[]⟩, .slice none 0 0]) (by simp [results, Try.results30, go_sem, c90, c91, c92, c93]) rfl ⟨⟨HV9.out.2.1, HV9.out.2.2⟩, ⟨0, 0, ⟨#[]⟩, []⟩, .slice none 0 0, _, rfl, Kd.R_nil _ _ _ _ _, HI9.out⟩
  | some y =>
    obtain ⟨n, r⟩ := y
    rw [hN] at hp
    simp only at hp
    obtain ⟨a4, rfl, hI4, hdr4, hal4⟩ := hp
    have HI4 := Aside0.mk hI4
    have hrg := numP_range _ _ _ _ _ hN
    have hrl : (r.length : Int) = (b.length : Int) - (a4 : Int) := by rw [← hdr4, List.length_drop]; omega
    have hbl := HS.out.hl
    have hcw : IntKind.u64.wrap (wrap64 ((b.length : Int) - (a4 : Int))) = (r.length : Int) := by rw [← hrl, IntWalk.wrap64_in _ (by omega), IntKind.wrap_u64]; omega
    have hcw2 : IntKind.u64.wrap (r.length : Int) = (r.length : Int) := by rw [IntKind.wrap_u64]; omega
    by_cases hle : n ≤ (r.length : Int)
    case neg =>
      have hL : lenP l = none := by unfold lenP; rw [hN]; simp only; rw [if_neg (by rw [hcw2]; exact hle)]
      rw [hL] at hR
      simp only at hR
      subst hR
      have hcmp : decide (IntKind.u64.wrap (wrap64 ((b.length : Int) - (a4 : Int))) < n) = true := by rw [hcw]; simp; omega
      clear hI4 hN hL hle hcw hcw2 hrl hrg hbl hal4
      obtain ⟨hc0, hc1, hc2, hc3⟩ := HV4.out.cells
      have hfz := fun j => blk_frozen HV4.out.1 j
      have r0 := (blk_cell HI4.out 0).trans (show _ = some (Value.slice A b.length c) from rfl)
      have r1 := (blk_cell HI4.out 1).trans (show _ = some (Value.int .i64 _) from rfl)
      have r2 := (blk_cell HI4.out 2).trans (show _ = some (Value.bool false) from rfl)
      have rfz := fun j => blk_frozen HI4.out j
      go_wp2_with fail
      go_quiet (fail)
      have HV5 := Aside0.mk ((HV4.out.drewN nq).setG (j := 2) hgl HG0.out (.bool true))
      have HI5 := Aside0.mk (show IsRf ((W4.drewN nq).setCell ⟨g, 2, none⟩ (.bool true)) g A c b _ true from blk_put (blk_drewN HI4.out nq) 2 (.bool true) rfl)
      go_wp2
      have HV9 := Aside0.mk (((((HV5.out).set0 HW0.out (.int .i64 0)).set1 HW0.out (.int .i64 0)).set2 HW0.out (.string ⟨#[]⟩)).set3 HW0.out (.slice none 0 0))
      have HI9 := Aside0.mk (((((HI5.out).own (h := w.heap.size) (j := 0) (by omega) (.int .i64 0)).own (h := w.heap.size) (j := 1) (by omega) (.int .i64 0)).own (h := w.heap.size) (j := 2) (by omega) (.string ⟨#[]⟩)).own (h := w.heap.size) (j := 3) (by omega) (.slice none 0 0))
      obtain ⟨c90, c91, c92, c93⟩ := HV9.out.cells
      (try clear hc0 hc1 hc2 hc3 hfz)
      (try clear r0 r1 r2 rfz)
      generalize (((((W4.drewN nq).setCell ⟨g, 2, none⟩ (.bool true)).setCell ⟨w.heap.size, 0, none⟩ (.int .i64 0)).setCell ⟨w.heap.size, 1, none⟩ (.int .i64 0)).setCell ⟨w.heap.size, 2, none⟩ (.string ⟨#[]⟩)).setCell ⟨w.heap.size, 3, none⟩ (.slice none 0 0) = W9 at *
      refine bodyPost_ret (v := .agg #[.int .i64 0, .int .i64 0, .string ⟨#[]⟩, .slice none 0 0]) (by simp [results, Try.results30, go_sem, c90, c91, c92, c93]) rfl ⟨⟨HV9.out.2.1, HV9.out.2.2⟩, ⟨0, 0, ⟨#[]⟩, []⟩, .slice none 0 0, _, rfl, Kd.R_nil _ _ _ _ _, HI9.out⟩
    have hcmp : decide (IntKind.u64.wrap (wrap64 ((b.length : Int) - (a4 : Int))) < n) = false := by rw [hcw]; exact decide_eq_false (by omega)
    obtain ⟨N, rfl⟩ : ∃ N : Nat, n = (N : Int) := ⟨n.toNat, by omega⟩
    have hwn : wrap64 (N : Int) = (N : Int) := IntWalk.wrap64_in _ (by omega)
    have hL : lenP l = some ((N : Int), r) := by unfold lenP; rw [hN]; simp only; rw [if_pos (by rw [hcw2]; exact hle), hwn]
    rw [hL] at hR
    simp only [Int.toNat_natCast] at hR
    rw [if_pos hle] at hR
    subst hR
    have HWN := Aside0.mk hwn
    have HCMP := Aside0.mk hcmp
    clear hwn hL hcmp hcw hcw2 hI4 hN hwx
    have haln : a4 + N ≤ b.length := by omega
    have HWA := Aside0.mk (rv_arith a4 N b.length haln hbl)
    have hCd := Kd.C_drop HS.out.hr hal4 HS.out.hc
    have hCt := Kd.C_take hCd (m := N) (by rw [List.length_drop]; omega)
    rw [hdr4] at hCt
    have htl : (r.take N).length = N := by rw [List.length_take]; omega
    rw [htl] at hCt
    obtain ⟨i0, hi0, hz0⟩ := info5p
    have hmid := cut_mid (P := Try.prog) 27 5 .i64 .i64 Try.underlying27 hi0 1 hz0 A b.length c (a4 : Int) ((a4 : Int) + (N : Int)) (by omega) (by omega) (by omega) HS.out.hc
    have hm1 : ((a4 : Int) + (N : Int)).toNat - (a4 : Int).toNat = N := by omega
    have hm2 : (a4 : Int).toNat = a4 := Int.toNat_natCast _
    rw [hm1, hm2] at hmid
    replace hCt : Kd.C (Kd.int .u8) w0 (if c = a4 then A else A.map (·.add (a4 * 1))) N (r.take N) := hCt
    generalize hA5 : (if c = a4 then A else A.map (·.add (a4 * 1))) = A5 at hmid hCt
    generalize hc5 : c - a4 = c5 at hmid
    have hdrr : b.drop (a4 + N) = r.drop N := by rw [← hdr4, List.drop_drop]
    clear hle hrl hrg hbl hal4 hA5 hc5 hm1 hm2 htl hCd
    have hwn := HWN.out
    have hcmp := HCMP.out
    obtain ⟨hwa, hws⟩ := HWA.out
    obtain ⟨hc0, hc1, hc2, hc3⟩ := HV4.out.cells
    have hfz := fun j => blk_frozen HV4.out.1 j
    have r0 := (blk_cell HI4.out 0).trans (show _ = some (Value.slice A b.length c) from rfl)
    have r1 := (blk_cell HI4.out 1).trans (show _ = some (Value.int .i64 _) from rfl)
    have r2 := (blk_cell HI4.out 2).trans (show _ = some (Value.bool false) from rfl)
    have rfz := fun j => blk_frozen HI4.out j
    go_wp2_with fail
    go_quiet (fail)
    go_wp2_with fail
    have HV6 := Aside0.mk ((HV4.out.drewN nq).setG (j := 1) hgl HG0.out (.int .i64 ((a4 : Int) + (N : Int))))
    have HI6 := Aside0.mk (show IsRf ((W4.drewN nq).setCell ⟨g, 1, none⟩ (.int .i64 ((a4 : Int) + (N : Int)))) g A c b (a4 + N) false from blk_put (blk_drewN HI4.out nq) 1 _ rfl)
    have hw4 : IntKind.i64.wrap (a4 : Int) = (a4 : Int) := by rw [i64_w]; exact IntWalk.wrap64_in _ (by have h1 := HS.out.hl; clear hmid hwn hcmp hwa hws; omega)
    clear hc0 hc1 hc2 hc3 hfz r0 r1 r2 rfz HV4 HI4 hcmp
    generalize (W4.drewN nq).setCell ⟨g, 1, none⟩ (.int .i64 ((a4 : Int) + (N : Int))) = W6 at *
    have hcv := Kd.C_string (P := Try.prog) (c := c5) Try.underlying27 Try.underlying5 Try.underlying9 (Kd.C_drew (Kd.C_below hCt HV6.out.2.2))
    have HV7 := Aside0.mk (show Vst w0 w W6.drew g (.int .i64 0) (.int .i64 0) (.string ⟨#[]⟩) (.slice none 0 0) from Vst.drew HV6.out)
    have HI7 := Aside0.mk (show IsRf W6.drew g A c b (a4 + N) false from HI6.out)
    obtain ⟨hc0, hc1, hc2, hc3⟩ := HV7.out.cells
    have hfz := fun j => blk_frozen HV7.out.1 j
    refine start_ (n := 19) (S := fun w' => w'.cell? ⟨g, 0, none⟩ = some (.slice A b.length c) ∧ w'.cell? ⟨g, 1, none⟩ = some (.int .i64 ((a4 : Int) + (N : Int))) ∧ (convert 27 9 (.slice A5 N c5)).run Try.prog w' = .ok (.string (strOfNums (r.take N))) w') (ds := [18]) #[false, false, false, false, false, false, false, false, false, false, false, false, false, false, false, false, false, false, false] (by kernel_rfl) rfl rfl ⟨((blk_cell HI6.out 0).trans rfl), ((blk_cell HI6.out 1).trans rfl), (by exact hcv)⟩ (fun hHeld => ?_)
    generalize W6.drew = W7 at HV7 HI7 hcv hc0 hc1 hc2 hc3 hfz hHeld ⊢
    refine pure_ (i := 0) (N := some 66) (v := ?_) (a' := ?_) #[true, false, false, false, false, false, false, false, false, false, false, false, false, false, false, false, false, false, false] rfl rfl (by kernel_rfl) (fun _ _ _ h => h) (Or.inl ⟨by rfl, ?_⟩) ?_ ?_
    rotate_left
    · intro w'
      go_simp
      with_reducible rfl
    rotate_left
    · simp only [Act.put, List.setIfInBounds_toArray, List.set_cons_zero, List.set_cons_succ, i64_w, i32_w]
      rfl
    refine pure_ (i := 1) (N := some 67) (v := ?_) (a' := ?_) #[true, true, false, false, false, false, false, false, false, false, false, false, false, false, false, false, false, false, false] rfl rfl (by kernel_rfl) (fun _ _ _ h => h) (Or.inl ⟨by rfl, ?_⟩) ?_ ?_
    rotate_left
    · intro w'
      go_simp
      with_reducible rfl
    rotate_left
    · simp only [Act.put, List.setIfInBounds_toArray, List.set_cons_zero, List.set_cons_succ, i64_w, i32_w]
      rfl
    refine pure_ (i := 2) (N := some 68) (v := ?_) (a' := ?_) #[true, true, true, false, false, false, false, false, false, false, false, false, false, false, false, false, false, false, false] rfl rfl (by kernel_rfl) (fun _ _ _ h => h) (Or.inl ⟨by rfl, ?_⟩) ?_ ?_
    rotate_left
    · intro w'
      go_simp
      with_reducible rfl
    rotate_left
    · simp only [Act.put, List.setIfInBounds_toArray, List.set_cons_zero, List.set_cons_succ, i64_w, i32_w]
      rfl
    refine pure_ (i := 4) (N := some 70) (v := ?_) (a' := ?_) #[true, true, true, false, true, false, false, false, false, false, false, false, false, false, false, false, false, false, false] rfl rfl (by kernel_rfl) (fun _ _ _ h => h) (Or.inl ⟨by rfl, ?_⟩) ?_ ?_
    rotate_left
    · intro w'
      go_simp
      with_reducible rfl
    rotate_left
    · simp only [Act.put, List.setIfInBounds_toArray, List.set_cons_zero, List.set_cons_succ, i64_w, i32_w]
      rfl
    refine pure_ (i := 5) (N := some 71) (v := ?_) (a' := ?_) #[true, true, true, false, true, true, false, false, false, false, false, false, false, false, false, false, false, false, false] rfl rfl (by kernel_rfl) (fun _ _ _ h => h) (Or.inl ⟨by rfl, ?_⟩) ?_ ?_
    rotate_left
    · intro w'
      go_simp
      with_reducible rfl
    rotate_left
    · simp only [Act.put, List.setIfInBounds_toArray, List.set_cons_zero, List.set_cons_succ, i64_w, i32_w]
      rfl
    refine pure_ (i := 6) (N := some 72) (v := ?_) (a' := ?_) #[true, true, true, false, true, true, true, false, false, false, false, false, false, false, false, false, false, false, false] rfl rfl (by kernel_rfl) (fun _ _ _ h => h) (Or.inl ⟨by rfl, ?_⟩) ?_ ?_
    rotate_left
    · intro w'
      go_simp
      with_reducible rfl
    rotate_left
    · simp only [Act.put, List.setIfInBounds_toArray, List.set_cons_zero, List.set_cons_succ, i64_w, i32_w]
      rfl
    refine pure_ (i := 8) (N := some 74) (v := ?_) (a' := ?_) #[true, true, true, false, true, true, true, false, true, false, false, false, false, false, false, false, false, false, false] rfl rfl (by kernel_rfl) (fun _ _ _ h => h) (Or.inl ⟨by rfl, ?_⟩) ?_ ?_
    rotate_left
    · intro w'
      go_simp
      with_reducible rfl
    rotate_left
    · simp only [Act.put, List.setIfInBounds_toArray, List.set_cons_zero, List.set_cons_succ, i64_w, i32_w]
      rfl
    refine pure_ (i := 9) (N := some 75) (v := ?_) (a' := ?_) #[true, true, true, false, true, true, true, false, true, true, false, false, false, false, false, false, false, false, false] rfl rfl (by kernel_rfl) (fun _ _ _ h => h) (Or.inl ⟨by rfl, ?_⟩) ?_ ?_
    rotate_left
    · intro w'
      go_simp
      with_reducible rfl
    rotate_left
    · simp only [Act.put, List.setIfInBounds_toArray, List.set_cons_zero, List.set_cons_succ, i64_w, i32_w]
      rfl
    refine pure_ (i := 11) (N := some 77) (v := ?_) (a' := ?_) #[true, true, true, false, true, true, true, false, true, true, false, true, false, false, false, false, false, false, false] rfl rfl (by kernel_rfl) (fun _ _ _ h => h) (Or.inl ⟨by rfl, ?_⟩) ?_ ?_
    rotate_left
    · intro w'
      go_simp
      with_reducible rfl
    rotate_left
    · simp only [Act.put, List.setIfInBounds_toArray, List.set_cons_zero, List.set_cons_succ, i64_w, i32_w]
      rfl
    refine pure_ (i := 12) (N := some 78) (v := ?_) (a' := ?_) #[true, true, true, false, true, true, true, false, true, true, false, true, true, false, false, false, false, false, false] rfl rfl (by kernel_rfl) (fun _ _ _ h => h) (Or.inl ⟨by rfl, ?_⟩) ?_ ?_
    rotate_left
    · intro w'
      go_simp
      with_reducible rfl
    rotate_left
    · simp only [Act.put, List.setIfInBounds_toArray, List.set_cons_zero, List.set_cons_succ, i64_w, i32_w]
      rfl
    refine pure_ (i := 13) (N := some 79) (v := ?_) (a' := ?_) #[true, true, true, false, true, true, true, false, true, true, false, true, true, true, false, false, false, false, false] rfl rfl (by kernel_rfl) (fun _ _ _ h => h) (Or.inl ⟨by rfl, ?_⟩) ?_ ?_
    rotate_left
    · intro w'
      go_simp
      with_reducible rfl
    rotate_left
    · simp only [Act.put, List.setIfInBounds_toArray, List.set_cons_zero, List.set_cons_succ, i64_w, i32_w]
      rfl
    refine take_ (i := 3) (N := some 69) (v := ?_) (a' := ?_) #[true, true, true, true, true, true, true, false, true, true, false, true, true, true, false, false, false, false, false] rfl rfl (by kernel_rfl) (fun _ _ _ h => h) (Or.inl ⟨by rfl, ?_⟩) hHeld ?_ ?_
    rotate_left
    · rintro w' ⟨s0, s1, s2⟩
      go_simp
      with_reducible rfl
    rotate_left
    · simp only [Act.put, List.setIfInBounds_toArray, List.set_cons_zero, List.set_cons_succ, i64_w, i32_w]
      rfl
    refine take_ (i := 7) (N := some 73) (v := ?_) (a' := ?_) #[true, true, true, true, true, true, true, true, true, true, false, true, true, true, false, false, false, false, false] rfl rfl (by kernel_rfl) (fun _ _ _ h => h) (Or.inl ⟨by rfl, ?_⟩) hHeld ?_ ?_
    rotate_left
    · rintro w' ⟨s0, s1, s2⟩
      go_simp
      with_reducible rfl
    rotate_left
    · simp only [Act.put, List.setIfInBounds_toArray, List.set_cons_zero, List.set_cons_succ, i64_w, i32_w]
      rfl
    refine pure_ (i := 10) (N := some 76) (v := ?_) (a' := ?_) #[true, true, true, true, true, true, true, true, true, true, true, true, true, true, false, false, false, false, false] rfl rfl (by kernel_rfl) (fun _ _ _ h => h) (Or.inl ⟨by rfl, ?_⟩) ?_ ?_
    rotate_left
    · intro w'
      go_simp
      with_reducible rfl
    rotate_left
    · simp only [Act.put, List.setIfInBounds_toArray, List.set_cons_zero, List.set_cons_succ, i64_w, i32_w]
      rfl
    refine take_ (i := 14) (N := some 80) (v := ?_) (a' := ?_) #[true, true, true, true, true, true, true, true, true, true, true, true, true, true, true, false, false, false, false] rfl rfl (by kernel_rfl) (fun _ _ _ h => h) (Or.inl ⟨by rfl, ?_⟩) hHeld ?_ ?_
    rotate_left
    · rintro w' ⟨s0, s1, s2⟩
      go_simp
      with_reducible rfl
    rotate_left
    · simp only [Act.put, List.setIfInBounds_toArray, List.set_cons_zero, List.set_cons_succ, i64_w, i32_w]
      rfl
    refine pure_ (i := 15) (N := some 81) (v := ?_) (a' := ?_) #[true, true, true, true, true, true, true, true, true, true, true, true, true, true, true, true, false, false, false] rfl rfl (by kernel_rfl) (fun _ _ _ h => h) (Or.inl ⟨by rfl, ?_⟩) ?_ ?_
    rotate_left
    · intro w'
      go_simp
      with_reducible rfl
    rotate_left
    · simp only [Act.put, List.setIfInBounds_toArray, List.set_cons_zero, List.set_cons_succ, i64_w, i32_w]
      rfl
    refine take_ (i := 16) (N := some 82) (v := ?_) (a' := ?_) #[true, true, true, true, true, true, true, true, true, true, true, true, true, true, true, true, true, false, false] rfl rfl (by kernel_rfl) (fun _ _ _ h => h) (Or.inl ⟨by rfl, ?_⟩) hHeld ?_ ?_
    rotate_left
    · rintro w' ⟨s0, s1, s2⟩
      go_simp
      with_reducible rfl
    rotate_left
    · simp only [Act.put, List.setIfInBounds_toArray, List.set_cons_zero, List.set_cons_succ, i64_w, i32_w]
      rfl
    refine pure_ (i := 17) (N := some 83) (v := ?_) (a' := ?_) #[true, true, true, true, true, true, true, true, true, true, true, true, true, true, true, true, true, true, false] rfl rfl (by kernel_rfl) (fun _ _ _ h => h) (Or.inl ⟨by rfl, ?_⟩) ?_ ?_
    rotate_left
    · intro w'
      go_simp
      with_reducible rfl
    rotate_left
    · simp only [Act.put, List.setIfInBounds_toArray, List.set_cons_zero, List.set_cons_succ, i64_w, i32_w]
      rfl
    refine last_ (i := 18) (N := none) #[true, true, true, true, true, true, true, true, true, true, true, true, true, true, true, true, true, true, true] rfl rfl (by kernel_rfl) (by decide) (fun K hK => ?_)
    refine skip_ (w1 := ?_) (by rfl) rfl ?_ ?_
    rotate_left
    · go_simp
      rfl
    refine hK.out _ _ ?_
    clear hK K
    refine done_ (by kernel_rfl) ?_
    go_wp2
    have HV9 := Aside0.mk (((((HV7.out).set0 HW0.out (.int .i64 2)).set1 HW0.out (.int .i64 0)).set2 HW0.out (.string (strOfNums (r.take N)))).set3 HW0.out (.slice none 0 0))
    have HI9 := Aside0.mk (((((HI7.out).own (h := w.heap.size) (j := 0) (by omega) (.int .i64 2)).own (h := w.heap.size) (j := 1) (by omega) (.int .i64 0)).own (h := w.heap.size) (j := 2) (by omega) (.string (strOfNums (r.take N)))).own (h := w.heap.size) (j := 3) (by omega) (.slice none 0 0))
    obtain ⟨c90, c91, c92, c93⟩ := HV9.out.cells
    (try clear hc0 hc1 hc2 hc3 hfz)
    (try clear r0 r1 r2 rfz)
    generalize ((((W7).setCell ⟨w.heap.size, 0, none⟩ (.int .i64 2)).setCell ⟨w.heap.size, 1, none⟩ (.int .i64 0)).setCell ⟨w.heap.size, 2, none⟩ (.string (strOfNums (r.take N)))).setCell ⟨w.heap.size, 3, none⟩ (.slice none 0 0) = W9 at *
    refine bodyPost_ret (v := .agg #[.int .i64 2, .int .i64 0, .string (strOfNums (r.take N)), .slice none 0 0]) (by simp [results, Try.results30, go_sem, c90, c91, c92, c93]) rfl ⟨⟨HV9.out.2.1, HV9.out.2.2⟩, .slice none 0 0, _, rfl, Kd.R_nil _ _ _ _ _, HI9.out, hdrr, haln⟩
end
section
open Go.RowKit Go.Proofs.YtncejmjicjlanaaW.PrintWords Go.Proofs.YtncejmjicjlanaaW.PrintLast Go.Proofs.YtncejmjicjlanaaW.PrintMore
set_option linter.unusedVariables false
set_option linter.unusedSimpArgs false
theorem RvPost.one {w0 w W : World} {g : Nat} {A : Option Addr} {c : Nat} {b : List Int} {out : Option (S24 × List Int)} {e : Ending} (h : RvPost w0 w g A c b out e W) :
    Kp w0 w W g ∧ ∃ (v : S24) (v3 : Value) (at1 : Nat) (bad : Bool), e = .returned (.agg #[.int .i64 v.f0, .int .i64 v.f1, .string v.f2, v3]) ∧ Kd.R k24 24 W w.heap.size (fun _ => True) v3 v.f3 ∧ IsRf W g A c b at1 bad ∧ ((bad = false ∧ at1 ≤ b.length ∧ out = some (v, b.drop at1)) ∨ (bad = true ∧ out = none)) := by
  obtain ⟨hk, h⟩ := h
  refine ⟨hk, ?_⟩
  cases out with
  | none =>
    obtain ⟨v, v3, at1, he, hR, hI⟩ := h
    exact ⟨v, v3, at1, true, he, hR, hI, .inr ⟨rfl, rfl⟩⟩
  | some y =>
    obtain ⟨v, r⟩ := y
    obtain ⟨v3, at1, he, hR, hI, hd, hl⟩ := h
    exact ⟨v, v3, at1, false, he, hR, hI, .inl ⟨rfl, hl, by rw [hd]⟩⟩
/-- What the loop over the elements keeps. -/
def RlRel (b : List Int) (m N : Nat) (R : Option (S24 × List Int)) (vs : List S24) (i at1 : Nat) (bad : Bool) : Prop :=
  (bad = false ∧ at1 ≤ b.length ∧ R = listP vs (elemsP (valP m) (N - i) (b.drop at1))) ∨ (bad = true ∧ R = none)
theorem RlRel.step {b : List Int} {m N : Nat} {R : Option (S24 × List Int)} {vs : List S24} {i at1 at2 : Nat} {bad : Bool} {v : S24} (h : R = listP vs (elemsP (valP m) (N - i) (b.drop at1))) (hi : i < N) (k : (bad = false ∧ at2 ≤ b.length ∧ valP m (b.drop at1) = some (v, b.drop at2)) ∨ (bad = true ∧ valP m (b.drop at1) = none)) : RlRel b m N R (vs ++ [v]) (i + 1) at2 bad := by
  obtain ⟨j, hj⟩ : ∃ j, N - i = j + 1 := ⟨N - i - 1, by omega⟩
  have hj2 : N - (i + 1) = j := by omega
  rw [hj] at h
  unfold RlRel
  rw [hj2, h]
  rcases k with ⟨k1, k2, k3⟩ | ⟨k1, k2⟩
  · left
    refine ⟨k1, k2, ?_⟩
    simp only [elemsP, k3]
    cases elemsP (valP m) j (b.drop at2) <;> simp [listP]
  · right
    refine ⟨k1, ?_⟩
    simp only [elemsP, k2, listP]
set_option maxHeartbeats 4000000 in
set_option maxRecDepth 100000 in
theorem rvalue_deep (m : Nat) (d : Int) (g : Nat) (A : Option Addr) (c : Nat) (b : List Int) (at_ : Nat) (x : Int) (l : List Int) (w0 w : World) (hd : d = 16 - ((0 : Nat) : Int)) (hm : 0 ≤ 16) (hs : RfS w0 g A c b) (hI : IsRf w g A c b at_ false) (hB : Below w0.heap.size w0 w) (hx : b.drop at_ = x :: l) (k3 : x = 3) :
    Calls Try.prog 30 #[.pointer (some ⟨g, 0, none⟩), .int .i64 d] w (RvPost w0 w g A c b (valP (0) (b.drop at_))) := by
  have hgl : g < w.heap.size := blk_lt hI
  have hu24 := Try.underlying24
  have HD := Aside0.mk hd
  have HS := Aside0.mk hs
  clear hd
  obtain ⟨R, hR⟩ : ∃ R, valP (0) (b.drop at_) = R := ⟨_, rfl⟩
  rw [hR]
  rw [hx] at hR
  go_enter Try.func30, Try.ntmps30
  go_wp2_with fail
  have hBv := blk_new w (.cells #[.int .i64 0, .int .i64 0, .string ⟨#[]⟩, .slice none 0 0] 24)
  have hI1 := IsRf.of hI (Below.heap_alloc w (.cells #[.int .i64 0, .int .i64 0, .string ⟨#[]⟩, .slice none 0 0] 24) g hgl)
  have hB1 := below_alloc hB (.cells #[.int .i64 0, .int .i64 0, .string ⟨#[]⟩, .slice none 0 0] 24)
  have hK1 := keep_alloc (KeepBut.refl w g none) (.cells #[.int .i64 0, .int .i64 0, .string ⟨#[]⟩, .slice none 0 0] 24)
  generalize hW1 : w.alloc (.cells #[.int .i64 0, .int .i64 0, .string ⟨#[]⟩, .slice none 0 0] 24) = W1 at *
  have HWS := Aside0.mk hB.size
  have HG0 := Aside0.mk hs.hg
  clear hW1 hB hI
  have hxb : 0 ≤ x ∧ x < 256 := hs.hb x (by
    have : x ∈ b.drop at_ := by rw [hx]; simp
    exact List.mem_of_mem_drop this)
  have hwx : wrap64 x = x := IntWalk.wrap64_in x (by omega)
  have hdr : b.drop (at_ + 1) = l := by
    rw [← List.drop_drop, hx]
    rfl
  refine (next_ok w0 W1 g A c b at_ false hs hI1 hB1 x l hx).mono ?_
  rintro e W2 ⟨rfl, hI2, hk2⟩
  have hll : l.length < 2000000000 := by
    rw [← hdr, List.length_drop]
    have := hs.hl
    omega
  clear hs hx
  have hV : Vst w0 w W2 g (.int .i64 0) (.int .i64 0) (.string ⟨#[]⟩) (.slice none 0 0) := Vst.next ⟨hBv, hK1, hB1⟩ hgl hk2.1 hk2.2
  have HV := Aside0.mk hV
  have HI2 := Aside0.mk hI2
  have hgn : ¬ w.heap.size = g := by omega
  have HW0 := Aside0.mk (show w0.heap.size ≤ w.heap.size from HWS.out)
  clear hK1 hB1 hI1 hBv hk2 hI2 hV HWS
  unfold valP at hR
  rw [hwx, if_neg (by omega), if_neg (by omega), if_pos k3] at hR
  subst k3
  simp only at hR
  subst hR
  have hde : (d == 16) = true := by have := HD.out; simp; omega
  go_wp2_with fail
  refine (rnumber_calls w0 W2 g A c b (at_ + 1) HS.out HI2.out HV.out.2.2).mono ?_
  rintro e W4 ⟨hk4, hp⟩
  have HV4 := Aside0.mk (HV.out.next hgl hk4.1 hk4.2)
  clear HV HI2 hk4
  rw [hdr] at hp
  cases hN : numP l 0 0 with
  | none =>
    rw [hN] at hp
    simp only at hp
    obtain ⟨n, a4, rfl, hI4⟩ := hp
    have HI4 := Aside0.mk hI4
    clear hI4 hN
    obtain ⟨hc0, hc1, hc2, hc3⟩ := HV4.out.cells
    have hfz := fun j => blk_frozen HV4.out.1 j
    have r0 := (blk_cell HI4.out 0).trans (show _ = some (Value.slice A b.length c) from rfl)
    have r1 := (blk_cell HI4.out 1).trans (show _ = some (Value.int .i64 _) from rfl)
    have r2 := (blk_cell HI4.out 2).trans (show _ = some (Value.bool true) from rfl)
    have rfz := fun j => blk_frozen HI4.out j
    go_wp2_with fail
    go_quiet (fail)
    have HV5 := Aside0.mk ((HV4.out.drewN nq).setG (j := 2) hgl HG0.out (.bool true))
    have HI5 := Aside0.mk (show IsRf ((W4.drewN nq).setCell ⟨g, 2, none⟩ (.bool true)) g A c b _ true from blk_put (blk_drewN HI4.out nq) 2 (.bool true) rfl)
    go_wp2
    have HV9 := Aside0.mk (((((HV5.out).set0 HW0.out (.int .i64 0)).set1 HW0.out (.int .i64 0)).set2 HW0.out (.string ⟨#[]⟩)).set3 HW0.out (.slice none 0 0))
    have HI9 := Aside0.mk (((((HI5.out).own (h := w.heap.size) (j := 0) (by omega) (.int .i64 0)).own (h := w.heap.size) (j := 1) (by omega) (.int .i64 0)).own (h := w.heap.size) (j := 2) (by omega) (.string ⟨#[]⟩)).own (h := w.heap.size) (j := 3) (by omega) (.slice none 0 0))
    obtain ⟨c90, c91, c92, c93⟩ := HV9.out.cells
    (try clear hc0 hc1 hc2 hc3 hfz)
    (try clear r0 r1 r2 rfz)
    generalize (((((W4.drewN nq).setCell ⟨g, 2, none⟩ (.bool true)).setCell ⟨w.heap.size, 0, none⟩ (.int .i64 0)).setCell ⟨w.heap.size, 1, none⟩ (.int .i64 0)).setCell ⟨w.heap.size, 2, none⟩ (.string ⟨#[]⟩)).setCell ⟨w.heap.size, 3, none⟩ (.slice none 0 0) = W9 at *
    refine bodyPost_ret (v := .agg #[.int .i64 0, .int .i64 0, .string ⟨#[]⟩, .slice none 0 0]) (by simp [results, Try.results30, go_sem, c90, c91, c92, c93]) rfl ⟨⟨HV9.out.2.1, HV9.out.2.2⟩, ⟨0, 0, ⟨#[]⟩, []⟩, .slice none 0 0, _, rfl, Kd.R_nil _ _ _ _ _, HI9.out⟩
  | some y =>
    obtain ⟨n, r⟩ := y
    rw [hN] at hp
    simp only at hp
    obtain ⟨a4, rfl, hI4, hdr4, hal4⟩ := hp
    have HI4 := Aside0.mk hI4
    clear hI4 hN
    cases hcmp : decide (IntKind.u64.wrap (wrap64 ((b.length : Int) - (a4 : Int))) < n) with
    | true =>
      obtain ⟨hc0, hc1, hc2, hc3⟩ := HV4.out.cells
      have hfz := fun j => blk_frozen HV4.out.1 j
      have r0 := (blk_cell HI4.out 0).trans (show _ = some (Value.slice A b.length c) from rfl)
      have r1 := (blk_cell HI4.out 1).trans (show _ = some (Value.int .i64 _) from rfl)
      have r2 := (blk_cell HI4.out 2).trans (show _ = some (Value.bool false) from rfl)
      have rfz := fun j => blk_frozen HI4.out j
      go_wp2_with fail
      go_quiet (fail)
      have HV5 := Aside0.mk ((HV4.out.drewN nq).setG (j := 2) hgl HG0.out (.bool true))
      have HI5 := Aside0.mk (show IsRf ((W4.drewN nq).setCell ⟨g, 2, none⟩ (.bool true)) g A c b _ true from blk_put (blk_drewN HI4.out nq) 2 (.bool true) rfl)
      go_wp2
      have HV9 := Aside0.mk (((((HV5.out).set0 HW0.out (.int .i64 0)).set1 HW0.out (.int .i64 0)).set2 HW0.out (.string ⟨#[]⟩)).set3 HW0.out (.slice none 0 0))
      have HI9 := Aside0.mk (((((HI5.out).own (h := w.heap.size) (j := 0) (by omega) (.int .i64 0)).own (h := w.heap.size) (j := 1) (by omega) (.int .i64 0)).own (h := w.heap.size) (j := 2) (by omega) (.string ⟨#[]⟩)).own (h := w.heap.size) (j := 3) (by omega) (.slice none 0 0))
      obtain ⟨c90, c91, c92, c93⟩ := HV9.out.cells
      (try clear hc0 hc1 hc2 hc3 hfz)
      (try clear r0 r1 r2 rfz)
      generalize (((((W4.drewN nq).setCell ⟨g, 2, none⟩ (.bool true)).setCell ⟨w.heap.size, 0, none⟩ (.int .i64 0)).setCell ⟨w.heap.size, 1, none⟩ (.int .i64 0)).setCell ⟨w.heap.size, 2, none⟩ (.string ⟨#[]⟩)).setCell ⟨w.heap.size, 3, none⟩ (.slice none 0 0) = W9 at *
      refine bodyPost_ret (v := .agg #[.int .i64 0, .int .i64 0, .string ⟨#[]⟩, .slice none 0 0]) (by simp [results, Try.results30, go_sem, c90, c91, c92, c93]) rfl ⟨⟨HV9.out.2.1, HV9.out.2.2⟩, ⟨0, 0, ⟨#[]⟩, []⟩, .slice none 0 0, _, rfl, Kd.R_nil _ _ _ _ _, HI9.out⟩
    | false =>
      obtain ⟨hc0, hc1, hc2, hc3⟩ := HV4.out.cells
      have hfz := fun j => blk_frozen HV4.out.1 j
      have r0 := (blk_cell HI4.out 0).trans (show _ = some (Value.slice A b.length c) from rfl)
      have r1 := (blk_cell HI4.out 1).trans (show _ = some (Value.int .i64 _) from rfl)
      have r2 := (blk_cell HI4.out 2).trans (show _ = some (Value.bool false) from rfl)
      have rfz := fun j => blk_frozen HI4.out j
      go_wp2_with fail
      go_quiet (fail)
      have HV5 := Aside0.mk ((HV4.out.drewN nq).setG (j := 2) hgl HG0.out (.bool true))
      have HI5 := Aside0.mk (show IsRf ((W4.drewN nq).setCell ⟨g, 2, none⟩ (.bool true)) g A c b _ true from blk_put (blk_drewN HI4.out nq) 2 (.bool true) rfl)
      go_wp2
      have HV9 := Aside0.mk (((((HV5.out).set0 HW0.out (.int .i64 0)).set1 HW0.out (.int .i64 0)).set2 HW0.out (.string ⟨#[]⟩)).set3 HW0.out (.slice none 0 0))
      have HI9 := Aside0.mk (((((HI5.out).own (h := w.heap.size) (j := 0) (by omega) (.int .i64 0)).own (h := w.heap.size) (j := 1) (by omega) (.int .i64 0)).own (h := w.heap.size) (j := 2) (by omega) (.string ⟨#[]⟩)).own (h := w.heap.size) (j := 3) (by omega) (.slice none 0 0))
      obtain ⟨c90, c91, c92, c93⟩ := HV9.out.cells
      (try clear hc0 hc1 hc2 hc3 hfz)
      (try clear r0 r1 r2 rfz)
      generalize (((((W4.drewN nq).setCell ⟨g, 2, none⟩ (.bool true)).setCell ⟨w.heap.size, 0, none⟩ (.int .i64 0)).setCell ⟨w.heap.size, 1, none⟩ (.int .i64 0)).setCell ⟨w.heap.size, 2, none⟩ (.string ⟨#[]⟩)).setCell ⟨w.heap.size, 3, none⟩ (.slice none 0 0) = W9 at *
      refine bodyPost_ret (v := .agg #[.int .i64 0, .int .i64 0, .string ⟨#[]⟩, .slice none 0 0]) (by simp [results, Try.results30, go_sem, c90, c91, c92, c93]) rfl ⟨⟨HV9.out.2.1, HV9.out.2.2⟩, ⟨0, 0, ⟨#[]⟩, []⟩, .slice none 0 0, _, rfl, Kd.R_nil _ _ _ _ _, HI9.out⟩
set_option maxHeartbeats 4000000 in
set_option maxRecDepth 100000 in
theorem rvalue_list (m : Nat) (d : Int) (g : Nat) (A : Option Addr) (c : Nat) (b : List Int) (at_ : Nat) (x : Int) (l : List Int) (w0 w : World) (hd : d = 16 - ((m + 1 : Nat) : Int)) (hm : m + 1 ≤ 16) (hs : RfS w0 g A c b) (hI : IsRf w g A c b at_ false) (hB : Below w0.heap.size w0 w) (hx : b.drop at_ = x :: l) (k3 : x = 3) (ih : RValueOk m) :
    Calls Try.prog 30 #[.pointer (some ⟨g, 0, none⟩), .int .i64 d] w (RvPost w0 w g A c b (valP (m + 1) (b.drop at_))) := by
  have hgl : g < w.heap.size := blk_lt hI
  have hu24 := Try.underlying24
  have HD := Aside0.mk hd
  have HS := Aside0.mk hs
  clear hd
  obtain ⟨R, hR⟩ : ∃ R, valP (m + 1) (b.drop at_) = R := ⟨_, rfl⟩
  rw [hR]
  rw [hx] at hR
  go_enter Try.func30, Try.ntmps30
  go_wp2_with fail
  have hBv := blk_new w (.cells #[.int .i64 0, .int .i64 0, .string ⟨#[]⟩, .slice none 0 0] 24)
  have hI1 := IsRf.of hI (Below.heap_alloc w (.cells #[.int .i64 0, .int .i64 0, .string ⟨#[]⟩, .slice none 0 0] 24) g hgl)
  have hB1 := below_alloc hB (.cells #[.int .i64 0, .int .i64 0, .string ⟨#[]⟩, .slice none 0 0] 24)
  have hK1 := keep_alloc (KeepBut.refl w g none) (.cells #[.int .i64 0, .int .i64 0, .string ⟨#[]⟩, .slice none 0 0] 24)
  generalize hW1 : w.alloc (.cells #[.int .i64 0, .int .i64 0, .string ⟨#[]⟩, .slice none 0 0] 24) = W1 at *
  have HWS := Aside0.mk hB.size
  have HG0 := Aside0.mk hs.hg
  clear hW1 hB hI
  have hxb : 0 ≤ x ∧ x < 256 := hs.hb x (by
    have : x ∈ b.drop at_ := by rw [hx]; simp
    exact List.mem_of_mem_drop this)
  have hwx : wrap64 x = x := IntWalk.wrap64_in x (by omega)
  have hdr : b.drop (at_ + 1) = l := by
    rw [← List.drop_drop, hx]
    rfl
  refine (next_ok w0 W1 g A c b at_ false hs hI1 hB1 x l hx).mono ?_
  rintro e W2 ⟨rfl, hI2, hk2⟩
  have hll : l.length < 2000000000 := by
    rw [← hdr, List.length_drop]
    have := hs.hl
    omega
  clear hs hx
  have hV : Vst w0 w W2 g (.int .i64 0) (.int .i64 0) (.string ⟨#[]⟩) (.slice none 0 0) := Vst.next ⟨hBv, hK1, hB1⟩ hgl hk2.1 hk2.2
  have HV := Aside0.mk hV
  have HI2 := Aside0.mk hI2
  have hgn : ¬ w.heap.size = g := by omega
  have HW0 := Aside0.mk (show w0.heap.size ≤ w.heap.size from HWS.out)
  clear hK1 hB1 hI1 hBv hk2 hI2 hV HWS
  unfold valP at hR
  rw [hwx, if_neg (by omega), if_neg (by omega), if_pos k3] at hR
  subst k3
  go_wp2_with fail
  refine (rnumber_calls w0 W2 g A c b (at_ + 1) HS.out HI2.out HV.out.2.2).mono ?_
  rintro e W4 ⟨hk4, hp⟩
  have HV4 := Aside0.mk (HV.out.next hgl hk4.1 hk4.2)
  clear HV HI2 hk4
  rw [hdr] at hp
  cases hN : numP l 0 0 with
  | none =>
    have hL : lenP l = none := by unfold lenP; rw [hN]
    rw [hL] at hR
    rw [hN] at hp
    simp only at hp hR
    subst hR
    obtain ⟨n, a4, rfl, hI4⟩ := hp
    have HI4 := Aside0.mk hI4
    clear hI4 hN hL
    obtain ⟨hc0, hc1, hc2, hc3⟩ := HV4.out.cells
    have hfz := fun j => blk_frozen HV4.out.1 j
    have r0 := (blk_cell HI4.out 0).trans (show _ = some (Value.slice A b.length c) from rfl)
    have r1 := (blk_cell HI4.out 1).trans (show _ = some (Value.int .i64 _) from rfl)
    have r2 := (blk_cell HI4.out 2).trans (show _ = some (Value.bool true) from rfl)
    have rfz := fun j => blk_frozen HI4.out j
    go_wp2_with fail
    go_quiet (fail)
    have HV5 := Aside0.mk ((HV4.out.drewN nq).setG (j := 2) hgl HG0.out (.bool true))
    have HI5 := Aside0.mk (show IsRf ((W4.drewN nq).setCell ⟨g, 2, none⟩ (.bool true)) g A c b _ true from blk_put (blk_drewN HI4.out nq) 2 (.bool true) rfl)
    go_wp2
    have HV9 := Aside0.mk (((((HV5.out).set0 HW0.out (.int .i64 0)).set1 HW0.out (.int .i64 0)).set2 HW0.out (.string ⟨#[]⟩)).set3 HW0.out (.slice none 0 0))
    have HI9 := Aside0.mk (((((HI5.out).own (h := w.heap.size) (j := 0) (by omega) (.int .i64 0)).own (h := w.heap.size) (j := 1) (by omega) (.int .i64 0)).own (h := w.heap.size) (j := 2) (by omega) (.string ⟨#[]⟩)).own (h := w.heap.size) (j := 3) (by omega) (.slice none 0 0))
    obtain ⟨c90, c91, c92, c93⟩ := HV9.out.cells
    (try clear hc0 hc1 hc2 hc3 hfz)
    (try clear r0 r1 r2 rfz)
    generalize (((((W4.drewN nq).setCell ⟨g, 2, none⟩ (.bool true)).setCell ⟨w.heap.size, 0, none⟩ (.int .i64 0)).setCell ⟨w.heap.size, 1, none⟩ (.int .i64 0)).setCell ⟨w.heap.size, 2, none⟩ (.string ⟨#[]⟩)).setCell ⟨w.heap.size, 3, none⟩ (.slice none 0 0) = W9 at *
    refine bodyPost_ret (v := .agg #[.int .i64 0, .int .i64 0, .string ⟨#[]⟩, .slice none 0 0]) (by simp [results, Try.results30, go_sem, c90, c91, c92, c93]) rfl ⟨⟨HV9.out.2.1, HV9.out.2.2⟩, ⟨0, 0, ⟨#[]⟩, []⟩, .slice none 0 0, _, rfl, Kd.R_nil _ _ _ _ _, HI9.out⟩
  | some y =>
    obtain ⟨n, r⟩ := y
    rw [hN] at hp
    simp only at hp
    obtain ⟨a4, rfl, hI4, hdr4, hal4⟩ := hp
    have HI4 := Aside0.mk hI4
    have hrg := numP_range _ _ _ _ _ hN
    have hrl : (r.length : Int) = (b.length : Int) - (a4 : Int) := by rw [← hdr4, List.length_drop]; omega
    have hbl := HS.out.hl
    have hcw : IntKind.u64.wrap (wrap64 ((b.length : Int) - (a4 : Int))) = (r.length : Int) := by rw [← hrl, IntWalk.wrap64_in _ (by omega), IntKind.wrap_u64]; omega
    have hcw2 : IntKind.u64.wrap (r.length : Int) = (r.length : Int) := by rw [IntKind.wrap_u64]; omega
    have hde : (d == 16) = false := by have := HD.out; simp; omega
    by_cases hle : n ≤ (r.length : Int)
    case neg =>
      have hL : lenP l = none := by unfold lenP; rw [hN]; simp only; rw [if_neg (by rw [hcw2]; exact hle)]
      rw [hL] at hR
      simp only at hR
      subst hR
      have hcmp : decide (IntKind.u64.wrap (wrap64 ((b.length : Int) - (a4 : Int))) < n) = true := by rw [hcw]; simp; omega
      clear hI4 hN hL hle hcw hcw2 hrl hrg hbl hal4
      obtain ⟨hc0, hc1, hc2, hc3⟩ := HV4.out.cells
      have hfz := fun j => blk_frozen HV4.out.1 j
      have r0 := (blk_cell HI4.out 0).trans (show _ = some (Value.slice A b.length c) from rfl)
      have r1 := (blk_cell HI4.out 1).trans (show _ = some (Value.int .i64 _) from rfl)
      have r2 := (blk_cell HI4.out 2).trans (show _ = some (Value.bool false) from rfl)
      have rfz := fun j => blk_frozen HI4.out j
      go_wp2_with fail
      go_quiet (fail)
      have HV5 := Aside0.mk ((HV4.out.drewN nq).setG (j := 2) hgl HG0.out (.bool true))
      have HI5 := Aside0.mk (show IsRf ((W4.drewN nq).setCell ⟨g, 2, none⟩ (.bool true)) g A c b _ true from blk_put (blk_drewN HI4.out nq) 2 (.bool true) rfl)
      go_wp2
      have HV9 := Aside0.mk (((((HV5.out).set0 HW0.out (.int .i64 0)).set1 HW0.out (.int .i64 0)).set2 HW0.out (.string ⟨#[]⟩)).set3 HW0.out (.slice none 0 0))
      have HI9 := Aside0.mk (((((HI5.out).own (h := w.heap.size) (j := 0) (by omega) (.int .i64 0)).own (h := w.heap.size) (j := 1) (by omega) (.int .i64 0)).own (h := w.heap.size) (j := 2) (by omega) (.string ⟨#[]⟩)).own (h := w.heap.size) (j := 3) (by omega) (.slice none 0 0))
      obtain ⟨c90, c91, c92, c93⟩ := HV9.out.cells
      (try clear hc0 hc1 hc2 hc3 hfz)
      (try clear r0 r1 r2 rfz)
      generalize (((((W4.drewN nq).setCell ⟨g, 2, none⟩ (.bool true)).setCell ⟨w.heap.size, 0, none⟩ (.int .i64 0)).setCell ⟨w.heap.size, 1, none⟩ (.int .i64 0)).setCell ⟨w.heap.size, 2, none⟩ (.string ⟨#[]⟩)).setCell ⟨w.heap.size, 3, none⟩ (.slice none 0 0) = W9 at *
      refine bodyPost_ret (v := .agg #[.int .i64 0, .int .i64 0, .string ⟨#[]⟩, .slice none 0 0]) (by simp [results, Try.results30, go_sem, c90, c91, c92, c93]) rfl ⟨⟨HV9.out.2.1, HV9.out.2.2⟩, ⟨0, 0, ⟨#[]⟩, []⟩, .slice none 0 0, _, rfl, Kd.R_nil _ _ _ _ _, HI9.out⟩
    have hcmp : decide (IntKind.u64.wrap (wrap64 ((b.length : Int) - (a4 : Int))) < n) = false := by rw [hcw]; exact decide_eq_false (by omega)
    obtain ⟨N, rfl⟩ : ∃ N : Nat, n = (N : Int) := ⟨n.toNat, by omega⟩
    have hwn : wrap64 (N : Int) = (N : Int) := IntWalk.wrap64_in _ (by omega)
    have hL : lenP l = some ((N : Int), r) := by unfold lenP; rw [hN]; simp only; rw [if_pos (by rw [hcw2]; exact hle), hwn]
    rw [hL] at hR
    simp only [Int.toNat_natCast] at hR
    have HR0 := Aside0.mk (show R = listP [] (elemsP (valP m) N (b.drop a4)) by rw [listP_nil, hdr4]; exact hR.symm)
    have HCMP := Aside0.mk hcmp
    have HDE := Aside0.mk hde
    clear hwn hL hcmp hcw hcw2 hI4 hN hwx hde hR
    have HNS := Aside0.mk (show N < 2000000000 by omega)
    have HA4 := Aside0.mk hal4
    have IH := Aside0.mk ih
    have HM := Aside0.mk hm
    clear hle hrl hrg hbl hal4 hdr4 ih hm hxb hll hdr
    have hcmp := HCMP.out
    have hde := HDE.out
    obtain ⟨hc0, hc1, hc2, hc3⟩ := HV4.out.cells
    have hfz := fun j => blk_frozen HV4.out.1 j
    have r0 := (blk_cell HI4.out 0).trans (show _ = some (Value.slice A b.length c) from rfl)
    have r1 := (blk_cell HI4.out 1).trans (show _ = some (Value.int .i64 _) from rfl)
    have r2 := (blk_cell HI4.out 2).trans (show _ = some (Value.bool false) from rfl)
    have rfz := fun j => blk_frozen HI4.out j
    go_wp2_with fail
    go_quiet (fail)
    have HVd := Aside0.mk (HV4.out.drewN nq)
    have HId := Aside0.mk (show IsRf (W4.drewN nq) g A c b a4 false from blk_drewN HI4.out nq)
    clear hc0 hc1 hc2 hc3 hfz r0 r1 r2 rfz HV4 HI4 hcmp hde HCMP HDE
    generalize W4.drewN nq = Wd at HVd HId ⊢
    go_wp2_with fail
    have V5 := Aside0.mk (blk_new Wd (.cells #[.int .i64 3, .int .i64 0, .string ⟨#[]⟩, .slice none 0 0] 24))
    have HV5 := Aside0.mk (show Vst w0 w (Wd.alloc (.cells #[.int .i64 3, .int .i64 0, .string ⟨#[]⟩, .slice none 0 0] 24)) g (.int .i64 0) (.int .i64 0) (.string ⟨#[]⟩) (.slice none 0 0) from ⟨blk_alloc HVd.out.1 _, keep_alloc HVd.out.2.1 _, below_alloc HVd.out.2.2 _⟩)
    have HI5 := Aside0.mk (show IsRf (Wd.alloc (.cells #[.int .i64 3, .int .i64 0, .string ⟨#[]⟩, .slice none 0 0] 24)) g A c b a4 false from blk_alloc HId.out _)
    have hh2 : w.heap.size < Wd.heap.size := blk_lt HVd.out.1
    clear HVd HId
    generalize hh : Wd.heap.size = h2 at *
    generalize Wd.alloc (.cells #[.int .i64 3, .int .i64 0, .string ⟨#[]⟩, .slice none 0 0] 24) = W5 at *
    go_loopg [9] N (fun kq v9 wr => ∃ (i at1 : Nat) (vs : List S24) (u : Value) (bad : Bool), v9 = .int .u64 (i : Int) ∧ Aside0 (i + kq = N) ∧ Aside0 (vs.length = i) ∧ Aside0 (Vst w0 w wr g (.int .i64 0) (.int .i64 0) (.string ⟨#[]⟩) (.slice none 0 0)) ∧ Aside0 (wr.heap[h2]? = some (.cells #[.int .i64 3, .int .i64 0, .string ⟨#[]⟩, u] 24 (0, 0))) ∧ Aside0 (Kd.R k24 24 wr w.heap.size (fun k => k ≠ g ∧ k ≠ w.heap.size ∧ k ≠ h2) u vs) ∧ Aside0 (IsRf wr g A c b at1 bad) ∧ Aside0 (RlRel b m N R vs i at1 bad))
    case atStart => exact ⟨0, a4, [], .slice none 0 0, false, rfl, ⟨by omega⟩, ⟨rfl⟩, HV5, V5, ⟨Kd.R_nil _ _ _ _ _⟩, HI5, ⟨.inl ⟨rfl, HA4.out, HR0.out⟩⟩⟩
    case round =>
      clear HV5 V5 HI5 HR0 HA4
      obtain ⟨i, at1, vs, u, bad, rfl, HIK, HVL, HV4, V4, HO, HI4, HR⟩ := hrel
      have hbad := (blk_cell HI4.out 2).trans (show _ = some (Value.bool bad) from rfl)
      cases bad with
      | true =>
        have hRn : R = none := by rcases HR.out with ⟨h, _⟩ | ⟨_, h⟩; cases h; exact h
        subst hRn
        clear HR
        have hil : decide (i < N) = true ∨ decide (i < N) = false := by cases decide (i < N) <;> simp
        rcases hil with hil | hil
        · skip
          obtain ⟨A3, c3, rfl⟩ := Kd.R_slice HO.out
          obtain ⟨hc0, hc1, hc2, hc3⟩ := HV4.out.cells
          have hfz := fun j => blk_frozen HV4.out.1 j
          have q0 := (blk_cell V4.out 0).trans (show _ = some (Value.int .i64 3) from rfl)
          have q1 := (blk_cell V4.out 1).trans (show _ = some (Value.int .i64 0) from rfl)
          have q2 := (blk_cell V4.out 2).trans (show _ = some (Value.string ⟨#[]⟩) from rfl)
          have q3 := (blk_cell V4.out 3).trans (show _ = some (Value.slice A3 vs.length c3) from rfl)
          go_wp2
          have HO9 := Aside0.mk (Kd.R_mono (Kd.R_far (p := ⟨w.heap.size, 3, none⟩) (Kd.R_far (p := ⟨w.heap.size, 2, none⟩) (Kd.R_far (p := ⟨w.heap.size, 1, none⟩) (Kd.R_far (p := ⟨w.heap.size, 0, none⟩) HO.out (fun _ hk => hk.2.1) (.int .i64 3)) (fun _ hk => hk.2.1) (.int .i64 0)) (fun _ hk => hk.2.1) (.string ⟨#[]⟩)) (fun _ hk => hk.2.1) (.slice A3 vs.length c3)) (fun _ _ => trivial) (ok' := fun _ => True))
          have HV9 := Aside0.mk (((((HV4.out).set0 HW0.out (.int .i64 3)).set1 HW0.out (.int .i64 0)).set2 HW0.out (.string ⟨#[]⟩)).set3 HW0.out (.slice A3 vs.length c3))
          have HI9 := Aside0.mk (((((HI4.out).own (h := w.heap.size) (j := 0) (by omega) (.int .i64 3)).own (h := w.heap.size) (j := 1) (by omega) (.int .i64 0)).own (h := w.heap.size) (j := 2) (by omega) (.string ⟨#[]⟩)).own (h := w.heap.size) (j := 3) (by omega) (.slice A3 vs.length c3))
          obtain ⟨c90, c91, c92, c93⟩ := HV9.out.cells
          (try clear HO V4 q0 q1 q2 q3 hc0 hc1 hc2 hc3 hfz)
          (try clear r0 r1 r2 rfz)
          generalize ((((wr).setCell ⟨w.heap.size, 0, none⟩ (.int .i64 3)).setCell ⟨w.heap.size, 1, none⟩ (.int .i64 0)).setCell ⟨w.heap.size, 2, none⟩ (.string ⟨#[]⟩)).setCell ⟨w.heap.size, 3, none⟩ (.slice A3 vs.length c3) = W9 at *
          refine bodyPost_ret (v := .agg #[.int .i64 3, .int .i64 0, .string ⟨#[]⟩, .slice A3 vs.length c3]) (by simp [results, Try.results30, go_sem, c90, c91, c92, c93]) rfl ⟨⟨HV9.out.2.1, HV9.out.2.2⟩, ⟨3, 0, ⟨#[]⟩, vs⟩, .slice A3 vs.length c3, _, rfl, HO9.out, HI9.out⟩
        · skip
          obtain ⟨A3, c3, rfl⟩ := Kd.R_slice HO.out
          obtain ⟨hc0, hc1, hc2, hc3⟩ := HV4.out.cells
          have hfz := fun j => blk_frozen HV4.out.1 j
          have q0 := (blk_cell V4.out 0).trans (show _ = some (Value.int .i64 3) from rfl)
          have q1 := (blk_cell V4.out 1).trans (show _ = some (Value.int .i64 0) from rfl)
          have q2 := (blk_cell V4.out 2).trans (show _ = some (Value.string ⟨#[]⟩) from rfl)
          have q3 := (blk_cell V4.out 3).trans (show _ = some (Value.slice A3 vs.length c3) from rfl)
          go_wp2
          have HO9 := Aside0.mk (Kd.R_mono (Kd.R_far (p := ⟨w.heap.size, 3, none⟩) (Kd.R_far (p := ⟨w.heap.size, 2, none⟩) (Kd.R_far (p := ⟨w.heap.size, 1, none⟩) (Kd.R_far (p := ⟨w.heap.size, 0, none⟩) HO.out (fun _ hk => hk.2.1) (.int .i64 3)) (fun _ hk => hk.2.1) (.int .i64 0)) (fun _ hk => hk.2.1) (.string ⟨#[]⟩)) (fun _ hk => hk.2.1) (.slice A3 vs.length c3)) (fun _ _ => trivial) (ok' := fun _ => True))
          have HV9 := Aside0.mk (((((HV4.out).set0 HW0.out (.int .i64 3)).set1 HW0.out (.int .i64 0)).set2 HW0.out (.string ⟨#[]⟩)).set3 HW0.out (.slice A3 vs.length c3))
          have HI9 := Aside0.mk (((((HI4.out).own (h := w.heap.size) (j := 0) (by omega) (.int .i64 3)).own (h := w.heap.size) (j := 1) (by omega) (.int .i64 0)).own (h := w.heap.size) (j := 2) (by omega) (.string ⟨#[]⟩)).own (h := w.heap.size) (j := 3) (by omega) (.slice A3 vs.length c3))
          obtain ⟨c90, c91, c92, c93⟩ := HV9.out.cells
          (try clear HO V4 q0 q1 q2 q3 hc0 hc1 hc2 hc3 hfz)
          (try clear r0 r1 r2 rfz)
          generalize ((((wr).setCell ⟨w.heap.size, 0, none⟩ (.int .i64 3)).setCell ⟨w.heap.size, 1, none⟩ (.int .i64 0)).setCell ⟨w.heap.size, 2, none⟩ (.string ⟨#[]⟩)).setCell ⟨w.heap.size, 3, none⟩ (.slice A3 vs.length c3) = W9 at *
          refine bodyPost_ret (v := .agg #[.int .i64 3, .int .i64 0, .string ⟨#[]⟩, .slice A3 vs.length c3]) (by simp [results, Try.results30, go_sem, c90, c91, c92, c93]) rfl ⟨⟨HV9.out.2.1, HV9.out.2.2⟩, ⟨3, 0, ⟨#[]⟩, vs⟩, .slice A3 vs.length c3, _, rfl, HO9.out, HI9.out⟩
      | false =>
        have hst : at1 ≤ b.length ∧ R = listP vs (elemsP (valP m) (N - i) (b.drop at1)) := by rcases HR.out with ⟨_, h1, h2⟩ | ⟨h, _⟩; exact ⟨h1, h2⟩; cases h
        cases gk with
        | zero =>
          have hil : decide (i < N) = false := by have := HIK.out; simp; omega
          have hat1 := hst.1
          have hRs := hst.2
          rw [show N - i = 0 by have := HIK.out; omega] at hRs
          simp only [elemsP, listP, List.append_nil] at hRs
          subst hRs
          clear hst HR
          obtain ⟨A3, c3, rfl⟩ := Kd.R_slice HO.out
          obtain ⟨hc0, hc1, hc2, hc3⟩ := HV4.out.cells
          have hfz := fun j => blk_frozen HV4.out.1 j
          have q0 := (blk_cell V4.out 0).trans (show _ = some (Value.int .i64 3) from rfl)
          have q1 := (blk_cell V4.out 1).trans (show _ = some (Value.int .i64 0) from rfl)
          have q2 := (blk_cell V4.out 2).trans (show _ = some (Value.string ⟨#[]⟩) from rfl)
          have q3 := (blk_cell V4.out 3).trans (show _ = some (Value.slice A3 vs.length c3) from rfl)
          go_wp2
          have HO9 := Aside0.mk (Kd.R_mono (Kd.R_far (p := ⟨w.heap.size, 3, none⟩) (Kd.R_far (p := ⟨w.heap.size, 2, none⟩) (Kd.R_far (p := ⟨w.heap.size, 1, none⟩) (Kd.R_far (p := ⟨w.heap.size, 0, none⟩) HO.out (fun _ hk => hk.2.1) (.int .i64 3)) (fun _ hk => hk.2.1) (.int .i64 0)) (fun _ hk => hk.2.1) (.string ⟨#[]⟩)) (fun _ hk => hk.2.1) (.slice A3 vs.length c3)) (fun _ _ => trivial) (ok' := fun _ => True))
          have HV9 := Aside0.mk (((((HV4.out).set0 HW0.out (.int .i64 3)).set1 HW0.out (.int .i64 0)).set2 HW0.out (.string ⟨#[]⟩)).set3 HW0.out (.slice A3 vs.length c3))
          have HI9 := Aside0.mk (((((HI4.out).own (h := w.heap.size) (j := 0) (by omega) (.int .i64 3)).own (h := w.heap.size) (j := 1) (by omega) (.int .i64 0)).own (h := w.heap.size) (j := 2) (by omega) (.string ⟨#[]⟩)).own (h := w.heap.size) (j := 3) (by omega) (.slice A3 vs.length c3))
          obtain ⟨c90, c91, c92, c93⟩ := HV9.out.cells
          (try clear HO V4 q0 q1 q2 q3 hc0 hc1 hc2 hc3 hfz)
          (try clear r0 r1 r2 rfz)
          generalize ((((wr).setCell ⟨w.heap.size, 0, none⟩ (.int .i64 3)).setCell ⟨w.heap.size, 1, none⟩ (.int .i64 0)).setCell ⟨w.heap.size, 2, none⟩ (.string ⟨#[]⟩)).setCell ⟨w.heap.size, 3, none⟩ (.slice A3 vs.length c3) = W9 at *
          refine bodyPost_ret (v := .agg #[.int .i64 3, .int .i64 0, .string ⟨#[]⟩, .slice A3 vs.length c3]) (by simp [results, Try.results30, go_sem, c90, c91, c92, c93]) rfl ⟨⟨HV9.out.2.1, HV9.out.2.2⟩, .slice A3 vs.length c3, _, rfl, HO9.out, HI9.out, rfl, hat1⟩
        | succ k1 =>
        have hil : decide (i < N) = true := by have := HIK.out; simp; omega
        have hiN : i < N := by have := HIK.out; omega
        have HR := Aside0.mk hst.2
        clear hst
        go_wp2_with fail
        clear hbad
        have hd1 : wrap64 (d + 1) = 16 - (m : Int) := by have h1 := HD.out; have h2 := HM.out; rw [IntWalk.wrap64_in _ (by omega)]; omega
        have hm1 : m ≤ 16 := by have h2 := HM.out; omega
        refine start_ (n := 10) (S := fun w' => w'.cell? ⟨h2, 3, none⟩ = some u) (ds := [9]) #[false, false, false, false, false, false, false, false, false, false] (by kernel_rfl) rfl rfl ((by exact (blk_cell V4.out 3).trans rfl)) (fun hHeld => ?_)
        have HV5 := Aside0.mk (show Vst w0 w wr.drew g (.int .i64 0) (.int .i64 0) (.string ⟨#[]⟩) (.slice none 0 0) from Vst.drew HV4.out)
        have V5 := Aside0.mk (blk_drew V4.out)
        have HO5 := Aside0.mk (show Kd.R k24 24 wr.drew w.heap.size (fun k => k ≠ g ∧ k ≠ w.heap.size ∧ k ≠ h2) u vs from Kd.R_drew HO.out)
        have hI5 : IsRf wr.drew g A c b at1 false := HI4.out
        clear HV4 V4 HO HI4
        generalize wr.drew = W5 at HV5 V5 HO5 hI5 hHeld ⊢
        have hcall := IH.out _ g A c b at1 w0 W5 hd1 hm1 HS.out hI5 HV5.out.2.2
        refine pure_ (i := 0) (N := some 128) (v := ?_) (a' := ?_) #[true, false, false, false, false, false, false, false, false, false] rfl rfl (by kernel_rfl) (fun _ _ _ h => h) (Or.inl ⟨by rfl, ?_⟩) ?_ ?_
        rotate_left
        · intro w'
          go_simp
          with_reducible rfl
        rotate_left
        · simp only [Act.put, List.setIfInBounds_toArray, List.set_cons_zero, List.set_cons_succ, i64_w, i32_w]
          rfl
        refine pure_ (i := 2) (N := some 130) (v := ?_) (a' := ?_) #[true, false, true, false, false, false, false, false, false, false] rfl rfl (by kernel_rfl) (fun _ _ _ h => h) (Or.inl ⟨by rfl, ?_⟩) ?_ ?_
        rotate_left
        · intro w'
          go_simp
          with_reducible rfl
        rotate_left
        · simp only [Act.put, List.setIfInBounds_toArray, List.set_cons_zero, List.set_cons_succ, i64_w, i32_w]
          rfl
        refine pure_ (i := 3) (N := some 131) (v := ?_) (a' := ?_) #[true, false, true, true, false, false, false, false, false, false] rfl rfl (by kernel_rfl) (fun _ _ _ h => h) (Or.inl ⟨by rfl, ?_⟩) ?_ ?_
        rotate_left
        · intro w'
          go_simp
          with_reducible rfl
        rotate_left
        · simp only [Act.put, List.setIfInBounds_toArray, List.set_cons_zero, List.set_cons_succ, i64_w, i32_w]
          rfl
        refine pure_ (i := 4) (N := some 132) (v := ?_) (a' := ?_) #[true, false, true, true, true, false, false, false, false, false] rfl rfl (by kernel_rfl) (fun _ _ _ h => h) (Or.inl ⟨by rfl, ?_⟩) ?_ ?_
        rotate_left
        · intro w'
          go_simp
          with_reducible rfl
        rotate_left
        · simp only [Act.put, List.setIfInBounds_toArray, List.set_cons_zero, List.set_cons_succ, i64_w, i32_w]
          rfl
        refine take_ (i := 1) (N := some 129) (v := ?_) (a' := ?_) #[true, true, true, true, true, false, false, false, false, false] rfl rfl (by kernel_rfl) (fun _ _ _ h => h) (Or.inl ⟨by rfl, ?_⟩) hHeld ?_ ?_
        rotate_left
        · intro w' s0
          go_simp
          with_reducible rfl
        rotate_left
        · simp only [Act.put, List.setIfInBounds_toArray, List.set_cons_zero, List.set_cons_succ, i64_w, i32_w]
          rfl
        refine one_ (i := 5) (N := some 133) #[true, true, true, true, true, true, false, false, false, false] rfl rfl (by kernel_rfl) (by decide) (fun K hK => ?_)
        refine goes_ Try.func30 (by kernel_rfl) rfl #[.pointer (some ⟨g, 0, none⟩), .int .i64 (wrap64 (d + 1))] (by rfl) rfl rfl (by simp only [List.map_toArray, List.map_cons, List.map_nil]; rfl) ?_
        refine hcall.mono ?_
        rintro e W6 hp
        obtain ⟨hk6, v, v3, at2, bad2, rfl, hR6, hI6, hstep⟩ := hp.one
        have hgl6 : h2 < W5.heap.size := blk_lt V5.out
        have HV6 := Aside0.mk (HV5.out.next hgl hk6.1 hk6.2)
        have V6 := Aside0.mk ((hk6.1.2 _ hgl6 (by omega) (by simp)).trans V5.out)
        have HRs := Aside0.mk (RlRel.step HR.out (by omega) hstep)
        have HO6 := Aside0.mk (Kd.R_keep HO5.out hk6.1 (fun _ hk => hk.1))
        have HX := Aside0.mk (Kd.R_lower (Kd.R_mono (Kd.R_bound hR6) (ok' := fun k => (k ≠ g ∧ k ≠ w.heap.size ∧ k ≠ h2) ∧ some k ≠ u.ownBlock) (fun k hk => ⟨⟨by have := hk.2.1; omega, by have := hk.2.1; omega, by have := hk.2.1; omega⟩, fun he => by have := Kd.R_lt HO5.out k he.symm; have := hk.2.1; omega⟩)) (show w.heap.size ≤ W5.heap.size by omega))
        have hs6 : W5.heap.size ≤ W6.heap.size := hk6.1.1
        have HI6 := Aside0.mk hI6
        obtain ⟨A6, c6, rfl⟩ := Kd.R_slice HX.out
        clear hk6 hR6 hI6 hp hstep HR HV5 V5 HO5 hI5 hcall
        refine ⟨_, rfl, ?_⟩
        refine hK.out _ _ (((blk_cell V6.out 3).trans rfl)) (fun hHeld => ?_)
        clear hK K
        refine norm_ (a' := ?_) ?_ ?_
        rotate_left
        · show Act.put _ (some 133) _ = _
          simp only [Act.put, List.setIfInBounds_toArray, List.set_cons_zero, List.set_cons_succ, i64_w, i32_w]
          rfl
        refine one_ (i := 6) (N := some 134) #[true, true, true, true, true, true, true, false, false, false] rfl rfl (by kernel_rfl) (by decide) (fun K hK => ?_)
        refine value_ (w1 := ?_) (v := ?_) (by rfl) rfl ?_ ?_
        rotate_left 2
        · go_simp
          constructor
          · rfl
          · rfl
        refine hK.out _ _ (((blk_cell (blk_alloc V6.out _) 3).trans rfl)) (fun hHeld => ?_)
        clear hK K
        refine norm_ (a' := ?_) ?_ ?_
        rotate_left
        · show Act.put _ (some 134) _ = _
          simp only [Act.put, List.setIfInBounds_toArray, List.set_cons_zero, List.set_cons_succ, i64_w, i32_w]
          rfl
        refine one_ (i := 7) (N := some 135) #[true, true, true, true, true, true, true, true, false, false] rfl rfl (by kernel_rfl) (by decide) (fun K hK => ?_)
        refine Kd.R_append_step k24 (w0 := W6) w.heap.size (by rfl) (.tmp 129) (.tmp 134) 22 24 (.agg #[(.int .i64 0), (.int .i64 0), (.string ⟨#[]⟩), (.slice none 0 0)]) 56 rfl Try.underlying22 info24 rfl (by decide) (by omega) u vs v [.int .i64 v.f0, .int .i64 v.f1, .string v.f2, .slice A6 v.f3.length c6] (fun k => k ≠ g ∧ k ≠ w.heap.size ∧ k ≠ h2) (fun k => (k ≠ g ∧ k ≠ w.heap.size ∧ k ≠ h2) ∧ some k ≠ u.ownBlock) rfl rfl (k24_mkM _ _ _ v HX.out) (fun _ hk => hk) (fun k hk => ⟨by omega, by omega, by omega⟩) HO6.out (Below.refl _ _) (by omega) (by have h1 := HVL.out; have h3 := HNS.out; omega) ?_
        intro v7 w7 ho hb hg hat
        obtain ⟨A7, c7, rfl⟩ := Kd.R_slice ho
        have HV7 := Aside0.mk (HV6.out.grown HW0.out hb (hg.block _ (by omega) (Kd.R_away HO6.out (fun _ hk => hk.2.1))))
        have V7 := Aside0.mk (blk_grown V6.out hg (Kd.R_away HO6.out (fun _ hk => hk.2.2)))
        have HI7 := Aside0.mk (IsRf.of HI6.out (hb.block _ hgl))
        have hln : (vs ++ [v]).length = vs.length + 1 := by simp
        rw [hln] at ho
        have HO7 := Aside0.mk ho
        have hs7 : W6.heap.size ≤ w7.heap.size := hg.size
        clear ho hb hg hat HV6 V6 HI6 HO6 HX hln
        refine hK.out _ _ (((blk_cell V7.out 3).trans rfl)) (fun hHeld => ?_)
        clear hK K
        refine norm_ (a' := ?_) ?_ ?_
        rotate_left
        · show Act.put _ (some 135) _ = _
          simp only [Act.put, List.setIfInBounds_toArray, List.set_cons_zero, List.set_cons_succ, i64_w, i32_w]
          rfl
        refine pure_ (i := 8) (N := some 136) (v := ?_) (a' := ?_) #[true, true, true, true, true, true, true, true, true, false] rfl rfl (by kernel_rfl) (fun _ _ _ h => h) (Or.inl ⟨by rfl, ?_⟩) ?_ ?_
        rotate_left
        · intro w'
          go_simp
          with_reducible rfl
        rotate_left
        · simp only [Act.put, List.setIfInBounds_toArray, List.set_cons_zero, List.set_cons_succ, i64_w, i32_w]
          rfl
        refine last_ (i := 9) (N := none) #[true, true, true, true, true, true, true, true, true, true] rfl rfl (by kernel_rfl) (by decide) (fun K hK => ?_)
        have hs15 := (blk_cell V7.out 3).trans (show _ = some u from rfl)
        have hfs15 := blk_frozen V7.out 3
        refine skip_ (w1 := ?_) (by rfl) rfl ?_ ?_
        rotate_left
        · go_simp
          rfl
        refine hK.out _ _ ?_
        clear hK K
        refine done_ (by kernel_rfl) ?_
        go_wp2_with fail
        have hw : Value.int .u64 (IntKind.u64.wrap ((i : Int) + 1)) = .int .u64 ((i + 1 : Nat) : Int) := by have h1 := HNS.out; rw [IntKind.wrap_u64]; congr 1; omega
        trace_state
        go_roundg k1
        case measure => have := HIK.out; omega
        case rel => exact ⟨i + 1, at2, vs ++ [v], _, bad2, hw, ⟨by have := HIK.out; omega⟩, ⟨by rw [List.length_append]; have := HVL.out; simp; omega⟩, ⟨⟨(Below.heap_setCell w7 ⟨h2, 3, none⟩ _ w.heap.size (by show w.heap.size ≠ h2; omega)).trans HV7.out.1, keep_far HV7.out.2.1 (by show w.heap.size ≤ h2; omega) _, below_set HV7.out.2.2 (by have := HW0.out; show w0.heap.size ≤ h2; omega)⟩⟩, ⟨blk_put V7.out 3 _ rfl⟩, ⟨Kd.R_far HO7.out (fun _ hk => hk.2.2) _⟩, ⟨HI7.out.own (by omega) _⟩, HRs⟩
end
section
open Go.RowKit Go.Proofs.YtncejmjicjlanaaW.PrintWords Go.Proofs.YtncejmjicjlanaaW.PrintLast Go.Proofs.YtncejmjicjlanaaW.PrintMore
set_option linter.unusedVariables false
set_option linter.unusedSimpArgs false
theorem rvalue_calls (m : Nat) : RValueOk m := by
  induction m with
  | zero =>
    intro d g A c b at_ w0 w hd hm hs hI hB
    cases hx : b.drop at_ with
    | nil =>
      rw [← hx]
      exact rvalue_nil 0 d g A c b at_ w0 w hd hm hs hI hB hx
    | cons x l =>
      rw [← hx]
      by_cases k1 : x = 1
      · exact rvalue_int 0 d g A c b at_ x l w0 w hd hm hs hI hB hx k1
      by_cases k2 : x = 2
      · exact rvalue_text 0 d g A c b at_ x l w0 w hd hm hs hI hB hx k2
      by_cases k3 : x = 3
      · exact rvalue_deep 0 d g A c b at_ x l w0 w hd hm hs hI hB hx k3
      · exact rvalue_bad 0 d g A c b at_ x l w0 w hd hm hs hI hB hx k1 k2 k3
  | succ m ih =>
    intro d g A c b at_ w0 w hd hm hs hI hB
    cases hx : b.drop at_ with
    | nil =>
      rw [← hx]
      exact rvalue_nil (m + 1) d g A c b at_ w0 w hd hm hs hI hB hx
    | cons x l =>
      rw [← hx]
      by_cases k1 : x = 1
      · exact rvalue_int (m + 1) d g A c b at_ x l w0 w hd hm hs hI hB hx k1
      by_cases k2 : x = 2
      · exact rvalue_text (m + 1) d g A c b at_ x l w0 w hd hm hs hI hB hx k2
      by_cases k3 : x = 3
      · exact rvalue_list m d g A c b at_ x l w0 w hd hm hs hI hB hx k3 ih
      · exact rvalue_bad (m + 1) d g A c b at_ x l w0 w hd hm hs hI hB hx k1 k2 k3
end
end Go.Proofs.Ytncejmjicjlanaa.Q
