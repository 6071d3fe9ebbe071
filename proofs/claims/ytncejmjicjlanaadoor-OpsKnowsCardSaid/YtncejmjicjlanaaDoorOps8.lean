/- Contract of ops.Decode: the operation that bytes encode, or an error; nothing that was there changes. Conditions: the bytes read as a list of fewer than 100000, the listed variables hold what their initialisers gave. -/
import Derived.Test.YtncejmjicjlanaaDoorOps5
import Derived.Test.YtncejmjicjlanaaDoorOps7
import Derived.Test.YtncejmjicjlanaaDoorBytesC
import Derived.Test.YtncejmjicjlanaaDoorOpsW
namespace Go.Proofs.YtncejmjicjlanaaDoor.Q
open Go.RowKit Go.Proofs.YtncejmjicjlanaaDoorW.PrintWords Go.Proofs.YtncejmjicjlanaaDoorW.PrintLast Go.Proofs.YtncejmjicjlanaaDoorW.PrintMore
set_option linter.unusedVariables false
set_option linter.unusedSimpArgs false
/-- The value at a place of a list. -/
def nth (L : List S63) (k : Nat) : S63 := hdV (L.drop k)
theorem nth_bd {n : Nat} {v : S63} (h : Bd n v) (k : Nat) : Bd n (nth v.f3 k) := by
  unfold nth hdV
  cases hd : v.f3.drop k with
  | nil => exact bd_nil n
  | cons u r =>
    have hm : u ∈ v.f3 := List.mem_of_mem_drop (by rw [hd]; exact List.mem_cons_self)
    exact bd_of (h.2.2 u hm).1 (h.2.2 u hm).2
def ctxP (L : List S63) : List S24 := L.map fun e => ⟨(nth e.f3 0).f1, (nth e.f3 1).f1⟩
def idP (v : S63) : S43 := ⟨(nth v.f3 0).f1, (nth v.f3 1).f1, (nth v.f3 2).f1⟩
/-- The operation of a list of values. -/
def readP (L : List S63) : S45 := ⟨⟨(nth L 0).f1, (nth L 1).f1⟩, (nth L 2).f1, ctxP (nth L 3).f3, ⟨(nth (nth L 4).f3 0).f1, (nth (nth L 4).f3 1).f2⟩, (nth L 5).f1, idP (nth L 6), idP (nth L 7), (nth L 8).f2, (nth L 9).f2, (nth L 10).f1, (nth L 11).f1 == 1⟩
/-- What Decode answers. -/
def opDec (b : List Int) : S45 × Int := if (decP b).2 = 0 then (if opChk (readP (decP b).1.f3) = 0 then (if ((strOfNums b).toList == (strOfNums (encP (opV (readP (decP b).1.f3)))).toList) = true then (readP (decP b).1.f3, 0) else (z45, 170)) else (z45, 170)) else (z45, (decP b).2)
/-- A store into the operation's block. -/
theorem putG_event {P : Program} {ops : Array Oper} {op : Oper} {rest : List Oper} {a : Act} {Q : Exit → Act → World → Prop} {W : World} {g c : Nat} {o : S45} {A : Option Addr} (hs : IsOp W g o A c)
    (hw : Region.wanted op (yielded ops a.tmps) = true) (ty : TypeId) (x y : Operand) (ho : op.op = .store ty x y) (off : Nat) (hx : a.eval x = .pointer (some ⟨g, off, none⟩)) (v : Value) (hy : a.eval y = v) (vs : List Value) (hv : v.cells = vs.toArray) (hi : (P.info? ty).map (·.size) = some vs.length)
    (h1 : ∀ u ∈ vs, u.oneCell' = true) (hoff : off + vs.length ≤ 17) (f : S45 → S45) (A' : Option Addr) (c' : Nat) (e : setL (opC o A c) off vs = opC (f o) A' c')
    (h : ∀ W1, IsOp W1 g (f o) A' c' → Ch (· = g) W W1 → wpList P ops Q rest (a.put op.dst undef) W1) : wpList P ops Q (op :: rest) a W := by
  refine wpList_step fun K hK => ?_
  rw [if_pos hw]
  have hrow := setCells_row g 45 vs off W (opC o A c) hs
  rw [e] at hrow
  have hr := run_storeCells_cells (P := P) g off vs 0 W
    (fun j hj => by rw [blk_cell hs]; rw [Array.getElem?_eq_getElem (by show _ < 17; omega)]; rfl)
    (fun j hj => blk_frozen hs _) h1
  have hst : (storeVar ty ⟨g, off, none⟩ v).run P W = .ok () (W.setCells g off vs) := by
    cases hq : P.info? ty with
    | none => simp [hq] at hi
    | some i =>
      have hz : vs.length = i.size := by simp [hq] at hi; omega
      simp only [Nat.add_zero] at hr
      simp [storeVar, sizeOf, typeInfo, hq, hv, hz, hr]
  unfold Oper.wp execOp
  simp only [ho, hx, hy, Instr.storeAt, Instr.sureAddr, Sem.run_bind, Sem.run_pure, Result.andThen_ok, hst]
  exact hK _ _ (h _ hrow.1 ⟨hrow.2.2 0 _ (Nat.zero_le _) (Below.refl _ _), fun i hi hn => hrow.2.1 i hn⟩)
theorem RoP.next {w0 W W1 : World} {ok : Nat → Prop} {r k : Nat} {L : List S63} (h : RoP w0 W W1 ok r (L.drop k).tail) : RoP w0 W W1 ok r (L.drop (k + 1)) := by rwa [List.tail_drop] at h
theorem num_at (w0 W : World) (ok : Nat → Prop) (r k : Nat) (L : List S63) (h : RoS w0 W ok r (L.drop k)) : Calls Tryd.prog 74 #[.pointer (some ⟨r, 0, none⟩)] W fun e W1 => e = .returned (.int .i64 (nth L k).f1) ∧ RoP w0 W W1 ok r (L.drop (k + 1)) :=
  (oNumber_calls w0 W ok r _ h).mono fun e W1 ⟨he, hp⟩ => ⟨he, hp.next⟩
theorem text_at (w0 W : World) (ok : Nat → Prop) (r k : Nat) (L : List S63) (h : RoS w0 W ok r (L.drop k)) : Calls Tryd.prog 75 #[.pointer (some ⟨r, 0, none⟩)] W fun e W1 => e = .returned (.string (nth L k).f2) ∧ RoP w0 W W1 ok r (L.drop (k + 1)) :=
  (oText_calls w0 W ok r _ h).mono fun e W1 ⟨he, hp⟩ => ⟨he, hp.next⟩
theorem list_at (w0 W : World) (ok : Nat → Prop) (r k : Nat) (L : List S63) (h : RoS w0 W ok r (L.drop k)) : Calls Tryd.prog 76 #[.pointer (some ⟨r, 0, none⟩)] W fun e W1 => ∃ r2, e = .returned (.pointer (some ⟨r2, 0, none⟩)) ∧ W.heap.size ≤ r2 ∧ RoS w0 W1 ok r2 (nth L k).f3 ∧ RoP w0 W W1 ok r (L.drop (k + 1)) :=
  (oList_calls w0 W ok r _ h).mono fun e W1 ⟨r2, he, hl, hs, hp⟩ => ⟨r2, he, hl, hs, hp.next⟩
theorem id_at (w0 W : World) (ok : Nat → Prop) (r k : Nat) (L : List S63) (h : RoS w0 W ok r (L.drop k)) : Calls Tryd.prog 77 #[.pointer (some ⟨r, 0, none⟩)] W fun e W1 => e = .returned (.agg #[.int .i64 (idP (nth L k)).f0, .int .i64 (idP (nth L k)).f1, .int .i64 (idP (nth L k)).f2]) ∧ RoP w0 W W1 ok r (L.drop (k + 1)) :=
  (oId_calls w0 W ok r _ h).mono fun e W1 ⟨he, hp⟩ => ⟨by rw [he]; unfold idP nth; simp only [List.drop_zero, ← List.drop_one, List.drop_drop], hp.next⟩
theorem RoS.zero {w0 W : World} {ok : Nat → Prop} {r : Nat} {L : List S63} (h : RoS w0 W ok r L) : RoS w0 W ok r (L.drop 0) := h
/-- The state: the operation's block, the reader, the context's own row (X: the blocks of other readers). -/
structure Ds (w w0 W : World) (ok : Nat → Prop) (X : Nat → Prop) (g : Nat) (o : S45) (A : Option Addr) (c r : Nat) (L : List S63) : Prop where
  hb : Below w.heap.size w W
  io : IsOp W g o A c
  hr : RoS w0 W ok r L
  hd : Kd.R k24 24 W w.heap.size (fun k => (k ≠ g ∧ k ≠ r) ∧ ¬ X k) (.slice A o.f2.length c) o.f2
section
variable {w w0 W W1 : World} {ok X : Nat → Prop} {g : Nat} {o o1 : S45} {A : Option Addr} {c r r2 : Nat} {L L1 : List S63}
theorem Ds.call (h : Ds w w0 W ok X g o A c r L) (hp : RoP w0 W W1 ok r L1) (hn : g ≠ r) (hl : w.heap.size ≤ r) : Ds w w0 W1 ok X g o A c r L1 :=
  ⟨Ch.below h.hb hp.hc h.hb.size (fun i hi => by subst hi; exact hl), hp.hc.blk h.io hn, hp.hs, Kd.R_step h.hd (fun k hk hlt => hp.hc.2 k hlt hk.1.2)⟩
theorem Ds.put (h : Ds w w0 W ok X g o A c r L) (hi : IsOp W1 g o1 A c) (hc : Ch (· = g) W W1) (hn : g ≠ r) (hl : w.heap.size ≤ g) (hg : ¬ ok g) (he : o1.f2 = o.f2) : Ds w w0 W1 ok X g o1 A c r L :=
  ⟨Ch.below h.hb hc h.hb.size (fun i hi => by subst hi; exact hl), hi, h.hr.ch hc (fun e => hn e.symm) (fun k hk e => by subst e; exact hg hk), by rw [he]; exact Kd.R_step h.hd (fun k hk hlt => hc.2 k hlt hk.1.1)⟩
/-- A reader is made by the reader. -/
theorem Ds.new (h : Ds w w0 W ok X g o A c r L) (hp : RoP w0 W W1 ok r L1) (hn : g ≠ r) (hl : w.heap.size ≤ r) (h2 : W.heap.size ≤ r2) : Ds w w0 W1 ok (fun k => X k ∨ k = r2) g o A c r L1 :=
  ⟨Ch.below h.hb hp.hc h.hb.size (fun i hi => by subst hi; exact hl), hp.hc.blk h.io hn, hp.hs, Kd.R_step (Kd.R_mono (Kd.R_bound h.hd) (fun k hk => ⟨hk.1.1, fun e => by rcases e with e | e; exact hk.1.2 e; have := hk.2.2.1; omega⟩)) (fun k hk hlt => hp.hc.2 k hlt hk.1.2)⟩
/-- Another reader's call. -/
theorem Ds.other (h : Ds w w0 W ok X g o A c r L) (hc : Ch (· = r2) W W1) (hx : X r2) (hn : g ≠ r2) (hn2 : r ≠ r2) (hl : w.heap.size ≤ r2) (ho : ¬ ok r2) : Ds w w0 W1 ok X g o A c r L :=
  ⟨Ch.below h.hb hc h.hb.size (fun i hi => by subst hi; exact hl), hc.blk h.io hn, h.hr.ch hc hn2 (fun k hk e => by subst e; exact ho hk), Kd.R_step h.hd (fun k hk hlt => hc.2 k hlt (fun e => by subst e; exact hk.2 hx))⟩
theorem Ds.fresh (h : Ds w w0 W ok X g o A c r L) (h2 : W.heap.size ≤ r2) : Ds w w0 W ok (fun k => X k ∨ k = r2) g o A c r L :=
  ⟨h.hb, h.io, h.hr, Kd.R_mono (Kd.R_bound h.hd) (fun k hk => ⟨hk.1.1, fun e => by rcases e with e | e; exact hk.1.2 e; have := hk.2.2.1; omega⟩)⟩
theorem Ds.weak {X2 : Nat → Prop} (h : Ds w w0 W ok X g o A c r L) (hx : ∀ k, X2 k → X k) : Ds w w0 W ok X2 g o A c r L :=
  ⟨h.hb, h.io, h.hr, Kd.R_mono h.hd (fun k hk => ⟨hk.1, fun e => hk.2 (hx k e)⟩)⟩
theorem Ds.drew (h : Ds w w0 W ok X g o A c r L) : Ds w w0 W.drew ok X g o A c r L := ⟨below_drew1 h.hb, h.io, ⟨h.hr.hI, h.hr.hag, h.hr.hlt, h.hr.hr⟩, Kd.R_drew h.hd⟩
end
theorem RoS.lt {w0 W : World} {ok : Nat → Prop} {r : Nat} {L : List S63} (h : RoS w0 W ok r L) : r < W.heap.size := by
  obtain ⟨_, _, hI, _⟩ := h.hI
  exact blk_lt hI

set_option maxHeartbeats 8000000 in
set_option maxRecDepth 100000 in
theorem opsDecode_calls (A : Option Addr) (c : Nat) (l : List Int) (w : World) (hGG : GlobG w) (hGK : GlobK w) (hr : Kd.C (Kd.int .u8) w A l.length l) (hc : l.length ≤ c) (hl : l.length ≤ 100000) (hby : Bytes l) :
    Calls Tryd.prog 45 #[.slice A l.length c] w fun e w' => ∃ A2 c2, e = .returned (.tuple #[.agg (opC (opDec l).1 A2 c2), .int .i64 (opDec l).2]) ∧ Kd.R k24 24 w' w.heap.size (fun _ => True) (.slice A2 (opDec l).1.f2.length c2) (opDec l).1.f2 ∧ Below w.heap.size w w' := by
  have hmf : ∀ (fn : Fn) (first cap : Array Value) (w : World), (Instr.makeFunc fn first cap).run Tryd.prog w = .ok (.func fn first cap) w := fun _ _ _ _ => rfl
  have hu45 := Tryd.underlying45
  have hu63 := Tryd.underlying63
  have hu96 := Tryd.underlying96
  have hu24 := Tryd.underlying24
  have hu41 := Tryd.underlying41
  have hu43 := Tryd.underlying43
  have HX := Aside0.mk (And.intro hGG (And.intro hGK (And.intro hr (And.intro hc hl))))
  clear hGG hGK hr hc hl
  have HBY := Aside0.mk hby
  clear hby
  have HB := Aside0.mk (Below.refl w.heap.size w)
  generalize hq : opDec l = R
  unfold opDec at hq
  have HQ := Aside0.mk hq
  clear hq
  go_enter Tryd.func45, Tryd.ntmps45
  go_wp2_with ((with_reducible refine gate_dst (N := 2) rfl ?_); refine box_event ?hg (N := 2) ?hd (cs := opC z45 none 0) (t := 45) ?hr ?_; (case hd => rfl); (case hg => rfl); (case hr => first | (go_simp; done) | (go_simp; rfl)); intro g hg w1 hbox hb; have n1_ := Aside0.mk (below_step HB.out hb); have n2_ := Aside0.mk (by rw [hg]; exact below_size HB.out : w.heap.size ≤ g); clear HB; have HB := n1_; have Gg := n2_; clear n1_ n2_; have HO := Aside0.mk (show IsOp w1 g z45 none 0 from hbox); have HG := Aside0.mk (And.intro (blk_lt hbox) (below_size HB.out)); clear hb hbox hg)
  have hdec : codec_Decode.f 0 l = some ((decP l).1.f0, (decP l).1.f1, (decP l).1.f2, (decP l).1.f3, (decP l).2) := by unfold codec_Decode.f; rw [if_pos (by have := HX.out.2.2.2.2; omega)]
  refine (codec_Decode.calls 0 A c l _ _ _ _ _ _ (Kd.C_below HX.out.2.2.1 HB.out) HX.out.2.2.2.1 hdec).mono ?_
  rintro e W1 ⟨v4, rfl, hR, hb⟩
  have HDP := Aside0.mk (show decP l = ((decP l).1, (decP l).2) from rfl)
  generalize (decP l).1 = v at *
  generalize (decP l).2 = er at *
  obtain ⟨Av, cv, rfl⟩ := Kd.R_slice hR
  have HO_ := Aside0.mk (IsOp.below HO.out hb)
  have HB_ := Aside0.mk (below_step HB.out hb)
  have HRV := Aside0.mk hR
  have HCV := Aside0.mk (Kd.R_reads' hR).2.1
  have HS1 := Aside0.mk hb.size
  clear HO HB hb hdec hR
  have HO := HO_
  have HB := HB_
  clear HO_ HB_
  by_cases k1 : er = 0
  rotate_left
  · have b1 : (er != 0) = true := bne_iff_ne.mpr k1
    obtain rfl : (z45, er) = R := by rw [← HQ.out, if_neg k1]
    go_wp2_with (first | ((with_reducible refine gate_dst (N := 4) rfl ?_); refine box_event ?hg (N := 4) ?hd (cs := #[.int .i64 0, .int .i64 0, .string ⟨#[]⟩, .slice none 0 0]) (t := 63) ?hr ?_; (case hd => rfl); (case hg => rfl); (case hr => first | (go_simp; done) | (go_simp; rfl)); intro b4 hg w4 hbox hb; have HN4 := Aside0.mk (And.intro hg hb); have B4 := Aside0.mk hbox; clear hb hbox hg) | ((with_reducible refine gate_store (t := 63) (p := 4) rfl ?_); refine row_event B4.out (by rfl) _ _ rfl rfl (cs' := #[.int .i64 v.f0, .int .i64 v.f1, .string v.f2, .slice Av v.f3.length cv]) rfl size63n rfl (by simp [Value.oneCell']) ?_; intro w6 h1 h2 h3; have HN6 := Aside0.mk (And.intro h1 (And.intro h2 h3)); have d3 := (blk_cell h1 3).trans (show _ = some (.slice Av v.f3.length cv) from rfl); have HO6 := Aside0.mk (show IsOp w6 g z45 none 0 from (h2 g (by have h1 := HN4.out.1; have h2 := HG.out.1; have h3 := HS1.out; omega)).trans (IsOp.below HO.out HN4.out.2)); have HB6 := Aside0.mk (h3 _ _ (by have h1 := HN4.out.1; have h2 := HB.out.size; omega) (below_step HB.out HN4.out.2)); clear h1 h2 h3 B4) | ((with_reducible refine gate_dst (N := 20) rfl ?_); refine load_event (by rfl) 45 (.tmp 2) rfl g rfl 45 (opC z45 none 0) (0, 0) _ (HO6).out Tryd.underlying45 rfl size45 ?_) | ((with_reducible refine gate_store (t := 45) (p := 2) rfl ?_); refine row_event HO6.out (by rfl) _ _ rfl rfl (cs' := opC z45 none 0) rfl size45 rfl (by simp [opC, Value.oneCell']) ?_; intro w9 h1 h2 h3; have HI9 := Aside0.mk h1; have HB9 := Aside0.mk (h3 _ _ Gg.out HB6.out); clear h1 h2 h3))
    refine bodyPost_ret (v := .tuple #[.agg (opC z45 none 0), .int .i64 er]) (results_ct Tryd.results45 _ _ g 45 _ (0, 0) _ rfl HI9.out Tryd.underlying45 rfl size45) rfl ⟨none, 0, rfl, Kd.R_nil _ _ _ _ _, HB9.out⟩
  subst k1
  rw [if_pos rfl] at HQ
  have HBD := Aside0.mk (dec_bd HBY.out (by have := HX.out.2.2.2.2; omega) HDP.out).2.2.2
  have HLC := Aside0.mk (show (nth v.f3 3).f3.length ≤ 100000 from by have h1 := (nth_bd HBD.out 3).2.1; have h2 := HX.out.2.2.2.2; omega)
  have hbase := HRV.out
  have HT := Aside0.mk (show Kd.R k63 63 W1 w1.heap.size (fun k => g < k ∧ k < W1.heap.size) (.slice Av v.f3.length cv) v.f3 from Kd.R_mono (Kd.R_bound hbase) (fun k hk => ⟨by have h1 := HG.out.1; have h2 := hk.2.1; omega, hk.2.2.1⟩))
  clear hbase HRV
  go_wp2_with (first | ((with_reducible refine gate_dst (N := 4) rfl ?_); refine box_event ?hg (N := 4) ?hd (cs := #[.int .i64 0, .int .i64 0, .string ⟨#[]⟩, .slice none 0 0]) (t := 63) ?hr ?_; (case hd => rfl); (case hg => rfl); (case hr => first | (go_simp; done) | (go_simp; rfl)); intro b4 hg w4 hbox hb; have HN4 := Aside0.mk (And.intro hg hb); have B4 := Aside0.mk hbox; clear hb hbox hg) | ((with_reducible refine gate_store (t := 63) (p := 4) rfl ?_); refine row_event B4.out (by rfl) _ _ rfl rfl (cs' := #[.int .i64 v.f0, .int .i64 v.f1, .string v.f2, .slice Av v.f3.length cv]) rfl size63n rfl (by simp [Value.oneCell']) ?_; intro w6 h1 h2 h3; have HN6 := Aside0.mk (And.intro h1 (And.intro h2 h3)); have d3 := (blk_cell h1 3).trans (show _ = some (.slice Av v.f3.length cv) from rfl); clear h1 h2 h3 B4) | ((with_reducible refine gate_dst (N := 25) rfl ?_); refine box_event ?hg (N := 25) ?hd (cs := #[.slice Av v.f3.length cv]) (t := 96) ?hr ?_; (case hd => rfl); (case hg => rfl); (case hr => first | (go_simp; done) | (go_simp; rfl)); intro r5 hg w7 hbox hb; clear d3; have HN7 := Aside0.mk (And.intro hbox (And.intro hg hb)); clear hb hbox hg; have HAG := Aside0.mk (show ∀ k, k < W1.heap.size → w6.heap[k]? = W1.heap[k]? from fun k hk => (HN6.out.2.1 k (by have := HN4.out.1; omega)).trans (HN4.out.2.block k hk)); have HSZ := Aside0.mk (show W1.heap.size < r5 from by have h1 := HN4.out.1; have h2 := blk_lt HN6.out.1; have h3 := HN7.out.2.1; omega); obtain ⟨ok, hok⟩ : ∃ ok : Nat → Prop, ok = fun k => g < k ∧ k < W1.heap.size := ⟨_, rfl⟩; have HOK := Aside0.mk hok; have HTR := Aside0.mk (show TR w6 ok Av v.f3 from by rw [hok]; exact TR.of_R (Kd.R_move HT.out (fun k hk => HAG.out k hk.2))); have NG := Aside0.mk (show g ≠ r5 ∧ w.heap.size ≤ r5 ∧ w.heap.size ≤ g ∧ ¬ ok g from ⟨by have h1 := HG.out.1; have h2 := HSZ.out; have h3 := HS1.out; omega, by have h2 := HSZ.out; have h3 := HB.out.size; omega, Gg.out, by rw [hok]; omega⟩); have HD := Aside0.mk (show Ds w w6 w7 ok ok g z45 none 0 r5 (v.f3.drop 0) from ⟨below_step (HN6.out.2.2 _ _ (by have h1 := HN4.out.1; have h2 := HB.out.size; omega) (below_step HB.out HN4.out.2)) HN7.out.2.2, IsOp.below ((HN6.out.2.1 g (by have h1 := HN4.out.1; have h2 := HG.out.1; have h3 := HS1.out; omega)).trans (IsOp.below HO.out HN4.out.2)) HN7.out.2.2, ⟨⟨Av, cv, HN7.out.1, HCV.out, HTR.out⟩, fun k hk => HN7.out.2.2.block k (by rw [hok] at hk; have := HSZ.out; have h3 := HN7.out.2.1; omega), fun k hk => by rw [hok] at hk; have h1 := HSZ.out; have h2 := blk_lt HN7.out.1; omega, by rw [hok]; have := HSZ.out; omega⟩, Kd.R_nil _ _ _ _ _⟩); clear HN4 HN6 HN7 HAG HSZ HT HTR HO HB HG HS1 hok))
  refine (num_at w6 _ ok r5 0 v.f3 HD.out.hr).mono ?_
  rintro e V0 ⟨rfl, hp⟩
  have HD_ := Aside0.mk (HD.out.call hp NG.out.1 NG.out.2.1)
  clear HD hp
  have HD := HD_
  clear HD_
  go_wp2_with fail
  refine (num_at w6 _ ok r5 1 v.f3 HD.out.hr).mono ?_
  rintro e V1 ⟨rfl, hp⟩
  have HD_ := Aside0.mk (HD.out.call hp NG.out.1 NG.out.2.1)
  clear HD hp
  have HD := HD_
  clear HD_
  go_wp2_with (first | ((with_reducible refine gate_store (t := 24) (p := 35) rfl ?_); refine putG_event HD.out.io (by rfl) 24 _ _ rfl 0 rfl (.agg #[.int .i64 (⟨(nth v.f3 0).f1, (nth v.f3 1).f1⟩ : S24).f0, .int .i64 (⟨(nth v.f3 0).f1, (nth v.f3 1).f1⟩ : S24).f1]) rfl [.int .i64 (⟨(nth v.f3 0).f1, (nth v.f3 1).f1⟩ : S24).f0, .int .i64 (⟨(nth v.f3 0).f1, (nth v.f3 1).f1⟩ : S24).f1] rfl size24 (by simp [Value.oneCell']) (Nat.le_of_ble_eq_true rfl) (fun x => { x with f0 := ⟨(nth v.f3 0).f1, (nth v.f3 1).f1⟩ }) _ _ rfl ?_; intro W9 hi hc; have HD_ := Aside0.mk (HD.out.put (o1 := ⟨⟨(nth v.f3 0).f1, (nth v.f3 1).f1⟩, 0, [], ⟨0, ⟨#[]⟩⟩, 0, ⟨0, 0, 0⟩, ⟨0, 0, 0⟩, ⟨#[]⟩, ⟨#[]⟩, 0, false⟩) hi hc NG.out.1 NG.out.2.2.1 NG.out.2.2.2 rfl); clear HD hi hc; have HD := HD_; clear HD_))
  refine (num_at w6 _ ok r5 2 v.f3 HD.out.hr).mono ?_
  rintro e V2 ⟨rfl, hp⟩
  have HD_ := Aside0.mk (HD.out.call hp NG.out.1 NG.out.2.1)
  clear HD hp
  have HD := HD_
  clear HD_
  go_wp2_with (first | ((with_reducible refine gate_store (t := 3) (p := 38) rfl ?_); refine putG_event HD.out.io (by rfl) 3 _ _ rfl 2 rfl (.int .i64 ((nth v.f3 2).f1)) rfl [.int .i64 ((nth v.f3 2).f1)] rfl size3 (by simp [Value.oneCell']) (Nat.le_of_ble_eq_true rfl) (fun x => { x with f1 := (nth v.f3 2).f1 }) _ _ rfl ?_; intro W9 hi hc; have HD_ := Aside0.mk (HD.out.put (o1 := ⟨⟨(nth v.f3 0).f1, (nth v.f3 1).f1⟩, (nth v.f3 2).f1, [], ⟨0, ⟨#[]⟩⟩, 0, ⟨0, 0, 0⟩, ⟨0, 0, 0⟩, ⟨#[]⟩, ⟨#[]⟩, 0, false⟩) hi hc NG.out.1 NG.out.2.2.1 NG.out.2.2.2 rfl); clear HD hi hc; have HD := HD_; clear HD_))
  refine (list_at w6 _ ok r5 3 v.f3 HD.out.hr).mono ?_
  rintro e V3 ⟨r8, rfl, l8, hs8, hp⟩
  have N8 := Aside0.mk (show g ≠ r8 ∧ r5 ≠ r8 ∧ w.heap.size ≤ r8 from ⟨by have := blk_lt HD.out.io; omega, by have := HD.out.hr.lt; omega, Nat.le_trans HD.out.hb.size l8⟩)
  have HD_ := Aside0.mk (HD.out.new hp NG.out.1 NG.out.2.1 l8)
  have HR8 := Aside0.mk hs8
  clear HD hp hs8 l8
  have HD := HD_
  clear HD_
  go_wp2_with fail
  go_loopg [] (nth v.f3 3).f3.length (fun kq wr => ∃ (M : List S63) (D : List S24) (Ac : Option Addr) (cc : Nat), Aside0 (M.length = kq) ∧ Aside0 (D.length + M.length = (nth v.f3 3).f3.length) ∧ Aside0 (RoS w6 wr ok r8 M) ∧ Aside0 (Ds w w6 wr ok (fun k => ok k ∨ k = r8) g ⟨⟨(nth v.f3 0).f1, (nth v.f3 1).f1⟩, (nth v.f3 2).f1, D, ⟨0, ⟨#[]⟩⟩, 0, ⟨0, 0, 0⟩, ⟨0, 0, 0⟩, ⟨#[]⟩, ⟨#[]⟩, 0, false⟩ Ac cc r5 (v.f3.drop 4)) ∧ Aside0 (D ++ ctxP M = ctxP (nth v.f3 3).f3))
  case atStart => exact ⟨(nth v.f3 3).f3, [], none, 0, ⟨rfl⟩, ⟨by simp⟩, HR8, HD, ⟨rfl⟩⟩
  case round =>
    clear HR8 HD
    obtain ⟨M, D, Ac, cc, HM, HML, HR8, HD, HA⟩ := hrel
    cases M with
    | nil =>
      obtain ⟨A8, c8, hI8, _⟩ := HR8.out.hI
      have e8 := (blk_cell hI8 0).trans (show _ = some (.slice A8 0 c8) from rfl)
      obtain rfl : D = ctxP (nth v.f3 3).f3 := by have := HA.out; simpa [ctxP] using this
      clear hI8 HR8 HA
      go_wp2_with fail
      clear e8
      refine (list_at w6 _ ok r5 4 v.f3 HD.out.hr).mono ?_
      rintro e V4 ⟨r10, rfl, l10, hs10, hp⟩
      have N10 := Aside0.mk (show g ≠ r10 ∧ r5 ≠ r10 ∧ w.heap.size ≤ r10 from ⟨by have := blk_lt HD.out.io; omega, by have := HD.out.hr.lt; omega, Nat.le_trans HD.out.hb.size l10⟩)
      have HD_ := Aside0.mk (HD.out.new hp NG.out.1 NG.out.2.1 l10)
      have HR0 := Aside0.mk hs10.zero
      clear HD hp hs10 l10
      have HD := HD_
      clear HD_
      go_wp2_with fail
      refine (num_at w6 _ ok r10 0 (nth v.f3 4).f3 HR0.out).mono ?_
      rintro e V5 ⟨rfl, hp⟩
      have HD_ := Aside0.mk (HD.out.other hp.hc (.inr rfl) N10.out.1 N10.out.2.1 N10.out.2.2 HR0.out.hr)
      have HR1 := Aside0.mk hp.hs
      clear HD hp HR0
      have HD := HD_
      clear HD_
      go_wp2_with fail
      refine (text_at w6 _ ok r10 1 (nth v.f3 4).f3 HR1.out).mono ?_
      rintro e V6 ⟨rfl, hp⟩
      have HD_ := Aside0.mk (HD.out.other hp.hc (.inr rfl) N10.out.1 N10.out.2.1 N10.out.2.2 HR1.out.hr)
      clear HD hp HR1 N10
      have HD := HD_
      clear HD_
      go_wp2_with (first | ((with_reducible refine gate_store (t := 41) (p := 66) rfl ?_); refine putG_event HD.out.io (by rfl) 41 _ _ rfl 4 rfl (.agg #[.int .i64 (⟨(nth (nth v.f3 4).f3 0).f1, (nth (nth v.f3 4).f3 1).f2⟩ : S41).f0, .string (⟨(nth (nth v.f3 4).f3 0).f1, (nth (nth v.f3 4).f3 1).f2⟩ : S41).f1]) rfl [.int .i64 (⟨(nth (nth v.f3 4).f3 0).f1, (nth (nth v.f3 4).f3 1).f2⟩ : S41).f0, .string (⟨(nth (nth v.f3 4).f3 0).f1, (nth (nth v.f3 4).f3 1).f2⟩ : S41).f1] rfl size41 (by simp [Value.oneCell']) (Nat.le_of_ble_eq_true rfl) (fun x => { x with f3 := ⟨(nth (nth v.f3 4).f3 0).f1, (nth (nth v.f3 4).f3 1).f2⟩ }) _ _ rfl ?_; intro W9 hi hc; have HD_ := Aside0.mk (HD.out.put (o1 := ⟨⟨(nth v.f3 0).f1, (nth v.f3 1).f1⟩, (nth v.f3 2).f1, ctxP (nth v.f3 3).f3, ⟨(nth (nth v.f3 4).f3 0).f1, (nth (nth v.f3 4).f3 1).f2⟩, 0, ⟨0, 0, 0⟩, ⟨0, 0, 0⟩, ⟨#[]⟩, ⟨#[]⟩, 0, false⟩) hi hc NG.out.1 NG.out.2.2.1 NG.out.2.2.2 rfl); clear HD hi hc; have HD := HD_; clear HD_))
      refine (num_at w6 _ ok r5 5 v.f3 HD.out.hr).mono ?_
      rintro e X5 ⟨rfl, hp⟩
      have HD_ := Aside0.mk (HD.out.call hp NG.out.1 NG.out.2.1)
      clear HD hp
      have HD := HD_
      clear HD_
      go_wp2_with (first | ((with_reducible refine gate_store (t := 3) (p := 69) rfl ?_); refine putG_event HD.out.io (by rfl) 3 _ _ rfl 6 rfl (.int .i64 ((nth v.f3 5).f1)) rfl [.int .i64 ((nth v.f3 5).f1)] rfl size3 (by simp [Value.oneCell']) (Nat.le_of_ble_eq_true rfl) (fun x => { x with f4 := (nth v.f3 5).f1 }) _ _ rfl ?_; intro W9 hi hc; have HD_ := Aside0.mk (HD.out.put (o1 := ⟨⟨(nth v.f3 0).f1, (nth v.f3 1).f1⟩, (nth v.f3 2).f1, ctxP (nth v.f3 3).f3, ⟨(nth (nth v.f3 4).f3 0).f1, (nth (nth v.f3 4).f3 1).f2⟩, (nth v.f3 5).f1, ⟨0, 0, 0⟩, ⟨0, 0, 0⟩, ⟨#[]⟩, ⟨#[]⟩, 0, false⟩) hi hc NG.out.1 NG.out.2.2.1 NG.out.2.2.2 rfl); clear HD hi hc; have HD := HD_; clear HD_))
      refine (id_at w6 _ ok r5 6 v.f3 HD.out.hr).mono ?_
      rintro e X6 ⟨rfl, hp⟩
      have HD_ := Aside0.mk (HD.out.call hp NG.out.1 NG.out.2.1)
      clear HD hp
      have HD := HD_
      clear HD_
      go_wp2_with fail
      refine (id_at w6 _ ok r5 7 v.f3 HD.out.hr).mono ?_
      rintro e X7 ⟨rfl, hp⟩
      have HD_ := Aside0.mk (HD.out.call hp NG.out.1 NG.out.2.1)
      clear HD hp
      have HD := HD_
      clear HD_
      go_wp2_with (first | ((with_reducible refine gate_store (t := 43) (p := 74) rfl ?_); refine putG_event HD.out.io (by rfl) 43 _ _ rfl 7 rfl (.agg #[.int .i64 (idP (nth v.f3 6)).f0, .int .i64 (idP (nth v.f3 6)).f1, .int .i64 (idP (nth v.f3 6)).f2]) rfl [.int .i64 (idP (nth v.f3 6)).f0, .int .i64 (idP (nth v.f3 6)).f1, .int .i64 (idP (nth v.f3 6)).f2] rfl size43 (by simp [Value.oneCell']) (Nat.le_of_ble_eq_true rfl) (fun x => { x with f5 := idP (nth v.f3 6) }) _ _ rfl ?_; intro W9 hi hc; have HD_ := Aside0.mk (HD.out.put (o1 := ⟨⟨(nth v.f3 0).f1, (nth v.f3 1).f1⟩, (nth v.f3 2).f1, ctxP (nth v.f3 3).f3, ⟨(nth (nth v.f3 4).f3 0).f1, (nth (nth v.f3 4).f3 1).f2⟩, (nth v.f3 5).f1, idP (nth v.f3 6), ⟨0, 0, 0⟩, ⟨#[]⟩, ⟨#[]⟩, 0, false⟩) hi hc NG.out.1 NG.out.2.2.1 NG.out.2.2.2 rfl); clear HD hi hc; have HD := HD_; clear HD_) | ((with_reducible refine gate_store (t := 43) (p := 75) rfl ?_); refine putG_event HD.out.io (by rfl) 43 _ _ rfl 10 rfl (.agg #[.int .i64 (idP (nth v.f3 7)).f0, .int .i64 (idP (nth v.f3 7)).f1, .int .i64 (idP (nth v.f3 7)).f2]) rfl [.int .i64 (idP (nth v.f3 7)).f0, .int .i64 (idP (nth v.f3 7)).f1, .int .i64 (idP (nth v.f3 7)).f2] rfl size43 (by simp [Value.oneCell']) (Nat.le_of_ble_eq_true rfl) (fun x => { x with f6 := idP (nth v.f3 7) }) _ _ rfl ?_; intro W9 hi hc; have HD_ := Aside0.mk (HD.out.put (o1 := ⟨⟨(nth v.f3 0).f1, (nth v.f3 1).f1⟩, (nth v.f3 2).f1, ctxP (nth v.f3 3).f3, ⟨(nth (nth v.f3 4).f3 0).f1, (nth (nth v.f3 4).f3 1).f2⟩, (nth v.f3 5).f1, idP (nth v.f3 6), idP (nth v.f3 7), ⟨#[]⟩, ⟨#[]⟩, 0, false⟩) hi hc NG.out.1 NG.out.2.2.1 NG.out.2.2.2 rfl); clear HD hi hc; have HD := HD_; clear HD_))
      refine (text_at w6 _ ok r5 8 v.f3 HD.out.hr).mono ?_
      rintro e X8 ⟨rfl, hp⟩
      have HD_ := Aside0.mk (HD.out.call hp NG.out.1 NG.out.2.1)
      clear HD hp
      have HD := HD_
      clear HD_
      go_wp2_with fail
      refine (text_at w6 _ ok r5 9 v.f3 HD.out.hr).mono ?_
      rintro e X9 ⟨rfl, hp⟩
      have HD_ := Aside0.mk (HD.out.call hp NG.out.1 NG.out.2.1)
      clear HD hp
      have HD := HD_
      clear HD_
      go_wp2_with (first | ((with_reducible refine gate_store (t := 9) (p := 80) rfl ?_); refine putG_event HD.out.io (by rfl) 9 _ _ rfl 13 rfl (.string ((nth v.f3 8).f2)) rfl [.string ((nth v.f3 8).f2)] rfl size9 (by simp [Value.oneCell']) (Nat.le_of_ble_eq_true rfl) (fun x => { x with f7 := (nth v.f3 8).f2 }) _ _ rfl ?_; intro W9 hi hc; have HD_ := Aside0.mk (HD.out.put (o1 := ⟨⟨(nth v.f3 0).f1, (nth v.f3 1).f1⟩, (nth v.f3 2).f1, ctxP (nth v.f3 3).f3, ⟨(nth (nth v.f3 4).f3 0).f1, (nth (nth v.f3 4).f3 1).f2⟩, (nth v.f3 5).f1, idP (nth v.f3 6), idP (nth v.f3 7), (nth v.f3 8).f2, ⟨#[]⟩, 0, false⟩) hi hc NG.out.1 NG.out.2.2.1 NG.out.2.2.2 rfl); clear HD hi hc; have HD := HD_; clear HD_) | ((with_reducible refine gate_store (t := 9) (p := 81) rfl ?_); refine putG_event HD.out.io (by rfl) 9 _ _ rfl 14 rfl (.string ((nth v.f3 9).f2)) rfl [.string ((nth v.f3 9).f2)] rfl size9 (by simp [Value.oneCell']) (Nat.le_of_ble_eq_true rfl) (fun x => { x with f8 := (nth v.f3 9).f2 }) _ _ rfl ?_; intro W9 hi hc; have HD_ := Aside0.mk (HD.out.put (o1 := ⟨⟨(nth v.f3 0).f1, (nth v.f3 1).f1⟩, (nth v.f3 2).f1, ctxP (nth v.f3 3).f3, ⟨(nth (nth v.f3 4).f3 0).f1, (nth (nth v.f3 4).f3 1).f2⟩, (nth v.f3 5).f1, idP (nth v.f3 6), idP (nth v.f3 7), (nth v.f3 8).f2, (nth v.f3 9).f2, 0, false⟩) hi hc NG.out.1 NG.out.2.2.1 NG.out.2.2.2 rfl); clear HD hi hc; have HD := HD_; clear HD_))
      refine (num_at w6 _ ok r5 10 v.f3 HD.out.hr).mono ?_
      rintro e X10 ⟨rfl, hp⟩
      have HD_ := Aside0.mk (HD.out.call hp NG.out.1 NG.out.2.1)
      clear HD hp
      have HD := HD_
      clear HD_
      go_wp2_with (first | ((with_reducible refine gate_store (t := 3) (p := 84) rfl ?_); refine putG_event HD.out.io (by rfl) 3 _ _ rfl 15 rfl (.int .i64 ((nth v.f3 10).f1)) rfl [.int .i64 ((nth v.f3 10).f1)] rfl size3 (by simp [Value.oneCell']) (Nat.le_of_ble_eq_true rfl) (fun x => { x with f9 := (nth v.f3 10).f1 }) _ _ rfl ?_; intro W9 hi hc; have HD_ := Aside0.mk (HD.out.put (o1 := ⟨⟨(nth v.f3 0).f1, (nth v.f3 1).f1⟩, (nth v.f3 2).f1, ctxP (nth v.f3 3).f3, ⟨(nth (nth v.f3 4).f3 0).f1, (nth (nth v.f3 4).f3 1).f2⟩, (nth v.f3 5).f1, idP (nth v.f3 6), idP (nth v.f3 7), (nth v.f3 8).f2, (nth v.f3 9).f2, (nth v.f3 10).f1, false⟩) hi hc NG.out.1 NG.out.2.2.1 NG.out.2.2.2 rfl); clear HD hi hc; have HD := HD_; clear HD_))
      refine (num_at w6 _ ok r5 11 v.f3 HD.out.hr).mono ?_
      rintro e X11 ⟨rfl, hp⟩
      have HD_ := Aside0.mk (HD.out.call hp NG.out.1 NG.out.2.1)
      clear HD hp
      have HD := HD_
      clear HD_
      go_wp2_with (first | ((with_reducible refine gate_store (t := 4) (p := 88) rfl ?_); refine putG_event HD.out.io (by rfl) 4 _ _ rfl 16 rfl (.bool ((nth v.f3 11).f1 == 1)) rfl [.bool ((nth v.f3 11).f1 == 1)] rfl size4 (by simp [Value.oneCell']) (Nat.le_of_ble_eq_true rfl) (fun x => { x with f10 := (nth v.f3 11).f1 == 1 }) _ _ rfl ?_; intro W9 hi hc; have HD_ := Aside0.mk (HD.out.put (o1 := ⟨⟨(nth v.f3 0).f1, (nth v.f3 1).f1⟩, (nth v.f3 2).f1, ctxP (nth v.f3 3).f3, ⟨(nth (nth v.f3 4).f3 0).f1, (nth (nth v.f3 4).f3 1).f2⟩, (nth v.f3 5).f1, idP (nth v.f3 6), idP (nth v.f3 7), (nth v.f3 8).f2, (nth v.f3 9).f2, (nth v.f3 10).f1, (nth v.f3 11).f1 == 1⟩) hi hc NG.out.1 NG.out.2.2.1 NG.out.2.2.2 rfl); clear HD hi hc; have HD := HD_; clear HD_) | ((with_reducible refine gate_dst (N := 90) rfl ?_); refine load_event (by rfl) 45 (.tmp 2) rfl g rfl 45 (opC ⟨⟨(nth v.f3 0).f1, (nth v.f3 1).f1⟩, (nth v.f3 2).f1, ctxP (nth v.f3 3).f3, ⟨(nth (nth v.f3 4).f3 0).f1, (nth (nth v.f3 4).f3 1).f2⟩, (nth v.f3 5).f1, idP (nth v.f3 6), idP (nth v.f3 7), (nth v.f3 8).f2, (nth v.f3 9).f2, (nth v.f3 10).f1, (nth v.f3 11).f1 == 1⟩ Ac cc) (0, 0) _ (Aside0.mk HD.out.io).out Tryd.underlying45 rfl size45 ?_))
      have hpb := nth_bd (nth_bd HBD.out 4) 1
      have hp8 := nth_bd HBD.out 8
      have hp9 := nth_bd HBD.out 9
      have hl5 := HX.out.2.2.2.2
      refine (opsEncode_calls ⟨⟨(nth v.f3 0).f1, (nth v.f3 1).f1⟩, (nth v.f3 2).f1, ctxP (nth v.f3 3).f3, ⟨(nth (nth v.f3 4).f3 0).f1, (nth (nth v.f3 4).f3 1).f2⟩, (nth v.f3 5).f1, idP (nth v.f3 6), idP (nth v.f3 7), (nth v.f3 8).f2, (nth v.f3 9).f2, (nth v.f3 10).f1, (nth v.f3 11).f1 == 1⟩ Ac cc _ (GlobG_below HX.out.1 HD.out.hb) (GlobK_below HX.out.2.1 HD.out.hb) (Kd.R_reads' HD.out.hd).2.2 (Kd.R_reads' HD.out.hd).2.1 (by show (ctxP (nth v.f3 3).f3).length ≤ 100000; unfold ctxP; rw [List.length_map]; exact HLC.out) (by show (nth (nth v.f3 4).f3 1).f2.size + (nth v.f3 8).f2.size + (nth v.f3 9).f2.size ≤ 1000000; have h1 := hpb.1; have h2 := hp8.1; have h3 := hp9.1; omega)).mono ?_
      rintro e Y1 ⟨ve, rfl, hRe, hb⟩
      clear hpb hp8 hp9 hl5
      have HIO := Aside0.mk (IsOp.below HD.out.io hb)
      have HBB := Aside0.mk (below_step HD.out.hb hb)
      have HDD := Aside0.mk (Kd.R_mono (Kd.R_below HD.out.hd hb) (ok' := fun k => k ≠ g) (fun k hk => hk.1.1))
      have HRE := Aside0.mk hRe
      clear HD hb hRe HBD HBY HDP HLC
      have HRD : Aside0 (readP v.f3 = ⟨⟨(nth v.f3 0).f1, (nth v.f3 1).f1⟩, (nth v.f3 2).f1, ctxP (nth v.f3 3).f3, ⟨(nth (nth v.f3 4).f3 0).f1, (nth (nth v.f3 4).f3 1).f2⟩, (nth v.f3 5).f1, idP (nth v.f3 6), idP (nth v.f3 7), (nth v.f3 8).f2, (nth v.f3 9).f2, (nth v.f3 10).f1, (nth v.f3 11).f1 == 1⟩) := ⟨rfl⟩
      generalize (⟨⟨(nth v.f3 0).f1, (nth v.f3 1).f1⟩, (nth v.f3 2).f1, ctxP (nth v.f3 3).f3, ⟨(nth (nth v.f3 4).f3 0).f1, (nth (nth v.f3 4).f3 1).f2⟩, (nth v.f3 5).f1, idP (nth v.f3 6), idP (nth v.f3 7), (nth v.f3 8).f2, (nth v.f3 9).f2, (nth v.f3 10).f1, (nth v.f3 11).f1 == 1⟩ : S45) = q at *
      rw [HRD.out] at HQ
      clear HRD
      by_cases k2 : opChk q = 0
      rotate_left
      · have b2 : (opChk q != 0) = true := bne_iff_ne.mpr k2
        obtain rfl : (z45, 170) = R := by rw [← HQ.out, if_neg k2]
        go_wp2_with ((with_reducible refine gate_store (t := 45) (p := 2) rfl ?_); refine row_event HIO.out (by rfl) _ _ rfl rfl (cs' := opC z45 none 0) rfl size45 rfl (by simp [opC, Value.oneCell']) ?_; intro w9 h1 h2 h3; have HI9 := Aside0.mk h1; have HB9 := Aside0.mk (h3 _ _ NG.out.2.2.1 HBB.out); clear h1 h2 h3)
        refine bodyPost_ret (v := .tuple #[.agg (opC z45 none 0), .int .i64 170]) (results_ct Tryd.results45 _ _ g 45 _ (0, 0) _ rfl HI9.out Tryd.underlying45 rfl size45) rfl ⟨none, 0, rfl, Kd.R_nil _ _ _ _ _, HB9.out⟩
      · rw [if_pos k2] at HQ HRE
        rw [k2]
        clear k2
        obtain ⟨Ae, ce, rfl, hce, hCe⟩ := Kd.R_reads HRE.out
        have HCE := Aside0.mk hCe
        clear HRE hce hCe
        generalize encP (opV q) = E at *
        go_wp2_with fail
        refine (bytesEqual_calls A Ae c ce l E Y1 (Kd.C_below HX.out.2.2.1 HBB.out) HCE.out).mono ?_
        rintro e Y2 ⟨rfl, rfl⟩
        clear HCE
        cases hE : ((strOfNums l).toList == (strOfNums E).toList)
        · obtain rfl : (z45, 170) = R := by rw [← HQ.out, if_neg (by rw [hE]; decide)]
          clear HQ hE
          go_wp2_with ((with_reducible refine gate_store (t := 45) (p := 2) rfl ?_); refine row_event HIO.out (by rfl) _ _ rfl rfl (cs' := opC z45 none 0) rfl size45 rfl (by simp [opC, Value.oneCell']) ?_; intro w9 h1 h2 h3; have HI9 := Aside0.mk h1; have HB9 := Aside0.mk (h3 _ _ NG.out.2.2.1 HBB.out); clear h1 h2 h3)
          refine bodyPost_ret (v := .tuple #[.agg (opC z45 none 0), .int .i64 170]) (results_ct Tryd.results45 _ _ g 45 _ (0, 0) _ rfl HI9.out Tryd.underlying45 rfl size45) rfl ⟨none, 0, rfl, Kd.R_nil _ _ _ _ _, HB9.out⟩
        · obtain rfl : (q, 0) = R := by rw [← HQ.out, if_pos hE]
          clear HQ hE
          go_wp2_with (first | ((with_reducible refine gate_dst (N := 103) rfl ?_); refine load_event (by rfl) 45 (.tmp 2) rfl g rfl 45 (opC q Ac cc) (0, 0) _ (HIO).out Tryd.underlying45 rfl size45 ?_) | ((with_reducible refine gate_store (t := 45) (p := 2) rfl ?_); refine row_event HIO.out (by rfl) _ _ rfl rfl (cs' := opC q Ac cc) rfl size45 rfl (by simp [opC, Value.oneCell']) ?_; intro w9 h1 h2 h3; have HI9 := Aside0.mk h1; have HB9 := Aside0.mk (h3 _ _ NG.out.2.2.1 HBB.out); have HR9 := Aside0.mk (Kd.R_mono (Kd.R_step HDD.out (fun k hk hl => h2 k hk)) (ok' := fun _ => True) (fun _ _ => trivial)); clear h1 h2 h3))
          refine bodyPost_ret (v := .tuple #[.agg (opC q Ac cc), .int .i64 0]) (results_ct Tryd.results45 _ _ g 45 _ (0, 0) _ rfl HI9.out Tryd.underlying45 rfl size45) rfl ⟨Ac, cc, rfl, HR9.out, HB9.out⟩
    | cons x M =>
      obtain ⟨A8, c8, hI8, _⟩ := HR8.out.hI
      have e8 := (blk_cell hI8 0).trans (show _ = some (.slice A8 (M.length + 1) c8) from rfl)
      clear hI8
      go_wp2_with fail
      clear e8
      refine (oList_calls w6 wr ok r8 (x :: M) HR8.out).mono ?_
      rintro e V1 ⟨r9, rfl, l9, hs9, hp⟩
      have N9 := Aside0.mk (show g ≠ r9 ∧ r5 ≠ r9 ∧ r8 ≠ r9 ∧ w.heap.size ≤ r9 from ⟨by have := blk_lt HD.out.io; omega, by have := HD.out.hr.lt; omega, by have := HR8.out.lt; omega, Nat.le_trans HD.out.hb.size l9⟩)
      have HD1 := Aside0.mk ((HD.out.fresh l9).other hp.hc (.inl (.inr rfl)) N8.out.1 N8.out.2.1 N8.out.2.2 HR8.out.hr)
      have HX1 := Aside0.mk (show RoS w6 V1 ok r8 M from hp.hs)
      have HN1 := Aside0.mk (show RoS w6 V1 ok r9 (x.f3.drop 0) from hs9)
      clear l9 hs9 hp HD HR8
      go_wp2_with fail
      refine start_ (n := 11) (S := fun w' => w'.cell? ⟨g, 3, none⟩ = some (.slice Ac D.length cc)) (ds := [10]) #[false, false, false, false, false, false, false, false, false, false, false] (by kernel_rfl) rfl rfl ((IsOp.c3 HD1.out.io)) (fun hHeld => ?_)
      have HD2 := Aside0.mk HD1.out.drew
      have HX2 := Aside0.mk (show RoS w6 V1.drew ok r8 M from ⟨HX1.out.hI, HX1.out.hag, HX1.out.hlt, HX1.out.hr⟩)
      have HN2 := Aside0.mk (show RoS w6 V1.drew ok r9 (x.f3.drop 0) from ⟨HN1.out.hI, HN1.out.hag, HN1.out.hlt, HN1.out.hr⟩)
      clear HD1 HX1 HN1
      generalize V1.drew = V2 at *
      refine pure_ (i := 0) (N := some 49) (v := ?_) (a' := ?_) #[true, false, false, false, false, false, false, false, false, false, false] rfl rfl (by kernel_rfl) (fun _ _ _ h => h) (Or.inl ⟨by rfl, ?_⟩) ?_ ?_
      rotate_left
      · intro w'
        go_simp
        with_reducible rfl
      rotate_left
      · simp only [Act.put, List.setIfInBounds_toArray, List.set_cons_zero, List.set_cons_succ, i64_w, i32_w]
        rfl
      refine pure_ (i := 2) (N := some 51) (v := ?_) (a' := ?_) #[true, false, true, false, false, false, false, false, false, false, false] rfl rfl (by kernel_rfl) (fun _ _ _ h => h) (Or.inl ⟨by rfl, ?_⟩) ?_ ?_
      rotate_left
      · intro w'
        go_simp
        with_reducible rfl
      rotate_left
      · simp only [Act.put, List.setIfInBounds_toArray, List.set_cons_zero, List.set_cons_succ, i64_w, i32_w]
        rfl
      refine pure_ (i := 4) (N := some 53) (v := ?_) (a' := ?_) #[true, false, true, false, true, false, false, false, false, false, false] rfl rfl (by kernel_rfl) (fun _ _ _ h => h) (Or.inl ⟨by rfl, ?_⟩) ?_ ?_
      rotate_left
      · intro w'
        go_simp
        with_reducible rfl
      rotate_left
      · simp only [Act.put, List.setIfInBounds_toArray, List.set_cons_zero, List.set_cons_succ, i64_w, i32_w]
        rfl
      refine take_ (i := 1) (N := some 50) (v := ?_) (a' := ?_) #[true, true, true, false, true, false, false, false, false, false, false] rfl rfl (by kernel_rfl) (fun _ _ _ h => h) (Or.inl ⟨by rfl, ?_⟩) hHeld ?_ ?_
      rotate_left
      · intro w' s0
        go_simp
        with_reducible rfl
      rotate_left
      · simp only [Act.put, List.setIfInBounds_toArray, List.set_cons_zero, List.set_cons_succ, i64_w, i32_w]
        rfl
      refine one_ (i := 3) (N := some 52) #[true, true, true, true, true, false, false, false, false, false, false] rfl rfl (by kernel_rfl) (by decide) (fun K hK => ?_)
      refine goes_ Tryd.func74 (by kernel_rfl) rfl #[.pointer (some ⟨r9, 0, none⟩)] (by rfl) rfl rfl (by simp only [List.map_toArray, List.map_cons, List.map_nil]; rfl) ?_
      refine (num_at w6 V2 ok r9 0 x.f3 HN2.out).mono ?_
      rintro e V3 ⟨rfl, hp⟩
      have HD3 := Aside0.mk (HD2.out.other hp.hc (.inr rfl) N9.out.1 N9.out.2.1 N9.out.2.2.2 HN2.out.hr)
      have HX3 := Aside0.mk (HX2.out.ch hp.hc N9.out.2.2.1 (fun k hk e => by subst e; exact HN2.out.hr hk))
      have HN3 := Aside0.mk hp.hs
      clear hp HD2 HX2 HN2
      refine ⟨_, rfl, ?_⟩
      refine hK.out _ _ ((IsOp.c3 HD3.out.io)) (fun hHeld => ?_)
      clear hK K
      refine norm_ (a' := ?_) ?_ ?_
      rotate_left
      · show Act.put _ (some 52) _ = _
        simp only [Act.put, List.setIfInBounds_toArray, List.set_cons_zero, List.set_cons_succ, i64_w, i32_w]
        rfl
      refine one_ (i := 5) (N := some 54) #[true, true, true, true, true, true, false, false, false, false, false] rfl rfl (by kernel_rfl) (by decide) (fun K hK => ?_)
      refine goes_ Tryd.func74 (by kernel_rfl) rfl #[.pointer (some ⟨r9, 0, none⟩)] (by rfl) rfl rfl (by simp only [List.map_toArray, List.map_cons, List.map_nil]; rfl) ?_
      refine (num_at w6 V3 ok r9 1 x.f3 HN3.out).mono ?_
      rintro e V4 ⟨rfl, hp⟩
      have HD4 := Aside0.mk (HD3.out.other hp.hc (.inr rfl) N9.out.1 N9.out.2.1 N9.out.2.2.2 HN3.out.hr)
      have HX4 := Aside0.mk (HX3.out.ch hp.hc N9.out.2.2.1 (fun k hk e => by subst e; exact HN3.out.hr hk))
      have HN4 := Aside0.mk hp.hs
      clear hp HD3 HX3 HN3
      refine ⟨_, rfl, ?_⟩
      refine hK.out _ _ ((IsOp.c3 HD4.out.io)) (fun hHeld => ?_)
      clear hK K
      refine norm_ (a' := ?_) ?_ ?_
      rotate_left
      · show Act.put _ (some 54) _ = _
        simp only [Act.put, List.setIfInBounds_toArray, List.set_cons_zero, List.set_cons_succ, i64_w, i32_w]
        rfl
      refine pure_ (i := 6) (N := some 55) (v := ?_) (a' := ?_) #[true, true, true, true, true, true, true, false, false, false, false] rfl rfl (by kernel_rfl) (fun _ _ _ h => h) (Or.inl ⟨by rfl, ?_⟩) ?_ ?_
      rotate_left
      · intro w'
        go_simp
        with_reducible rfl
      rotate_left
      · simp only [Act.put, List.setIfInBounds_toArray, List.set_cons_zero, List.set_cons_succ, i64_w, i32_w]
        rfl
      refine one_ (i := 7) (N := some 56) #[true, true, true, true, true, true, true, true, false, false, false] rfl rfl (by kernel_rfl) (by decide) (fun K hK => ?_)
      refine value_ (w1 := ?_) (v := ?_) (by rfl) rfl ?_ ?_
      rotate_left 2
      · go_simp
        constructor
        · rfl
        · rfl
      refine hK.out _ _ (((blk_cell (blk_alloc HD4.out.io _) 3).trans rfl)) (fun hHeld => ?_)
      clear hK K
      refine norm_ (a' := ?_) ?_ ?_
      rotate_left
      · show Act.put _ (some 56) _ = _
        simp only [Act.put, List.setIfInBounds_toArray, List.set_cons_zero, List.set_cons_succ, i64_w, i32_w]
        rfl
      refine one_ (i := 8) (N := some 57) #[true, true, true, true, true, true, true, true, true, false, false] rfl rfl (by kernel_rfl) (by decide) (fun K hK => ?_)
      refine Kd.R_append_step k24 (w0 := V4) w.heap.size (by rfl) (.tmp 50) (.tmp 56) 22 24 (.agg #[(.int .i64 0), (.int .i64 0)]) 16 rfl Tryd.underlying22 info24 rfl (by decide) (by decide) (.slice Ac D.length cc) D ⟨(nth x.f3 0).f1, (nth x.f3 1).f1⟩ [.int .i64 (nth x.f3 0).f1, .int .i64 (nth x.f3 1).f1] (fun k => (k ≠ g ∧ k ≠ r5) ∧ ¬ (ok k ∨ k = r8)) (fun _ => False) rfl rfl (k24_mkM V4 _ _ ⟨(nth x.f3 0).f1, (nth x.f3 1).f1⟩) (fun _ hk => hk.elim) (fun k hk => ⟨⟨by have := blk_lt HD4.out.io; omega, by have := HD4.out.hr.lt; omega⟩, fun e => by rcases e with e | e; have := HD4.out.hr.hlt k e; omega; have := HX4.out.lt; omega⟩) (HD4.out.weak (X2 := fun k => ok k ∨ k = r8) (fun k e => .inl e)).hd (Below.refl _ _) HD4.out.hb.size (by have h1 := HML.out; have h2 := HLC.out; simp at h1; omega) ?_
      intro v7 w7 ho hb hg hat
      obtain ⟨A7, c7, rfl⟩ := Kd.R_slice ho
      have NI := Aside0.mk (show w7.heap[g]? = some (.cells (opC ⟨⟨(nth v.f3 0).f1, (nth v.f3 1).f1⟩, (nth v.f3 2).f1, D, ⟨0, ⟨#[]⟩⟩, 0, ⟨0, 0, 0⟩, ⟨0, 0, 0⟩, ⟨#[]⟩, ⟨#[]⟩, 0, false⟩ Ac cc) 45 (0, 0)) from (hg.block _ (blk_lt HD4.out.io) (fun e => (HD4.out.hd.1 g e.symm).1.1 rfl)).trans HD4.out.io)
      have hch : Ch (fun k => (Value.slice Ac D.length cc).ownBlock = some k) V4 w7 := ⟨⟨hb.os, hb.tape, hb.output, hb.size, fun k hk => absurd hk (Nat.not_lt_zero k)⟩, fun i hi hn => hg.block i hi (fun e => hn e.symm)⟩
      have HRr := Aside0.mk (HD4.out.hr.ch hch (fun e => (HD4.out.hd.1 r5 e).1.2 rfl) (fun k hk e => (HD4.out.hd.1 k e).2 (.inl (.inl hk))))
      have HX7_ := Aside0.mk (HX4.out.ch hch (fun e => (HD4.out.hd.1 r8 e).2 (.inl (.inr rfl))) (fun k hk e => (HD4.out.hd.1 k e).2 (.inl (.inl hk))))
      have HB7 := Aside0.mk (HD4.out.hb.trans hb)
      have HO7 := Aside0.mk ho
      have c3 := IsOp.c3 NI.out
      clear ho hb hg hat hch HD4 HX4
      refine hK.out _ _ (c3) (fun hHeld => ?_)
      clear hK K
      refine norm_ (a' := ?_) ?_ ?_
      rotate_left
      · show Act.put _ (some 57) _ = _
        simp only [Act.put, List.setIfInBounds_toArray, List.set_cons_zero, List.set_cons_succ, i64_w, i32_w]
        rfl
      refine pure_ (i := 9) (N := some 58) (v := ?_) (a' := ?_) #[true, true, true, true, true, true, true, true, true, true, false] rfl rfl (by kernel_rfl) (fun _ _ _ h => h) (Or.inl ⟨by rfl, ?_⟩) ?_ ?_
      rotate_left
      · intro w'
        go_simp
        with_reducible rfl
      rotate_left
      · simp only [Act.put, List.setIfInBounds_toArray, List.set_cons_zero, List.set_cons_succ, i64_w, i32_w]
        rfl
      refine last_ (i := 10) (N := none) #[true, true, true, true, true, true, true, true, true, true, true] rfl rfl (by kernel_rfl) (by decide) (fun K hK => ?_)
      have y3 := IsOp.c3 NI.out
      have yf := blk_frozen NI.out 3
      refine skip_ (w1 := ?_) (by rfl) rfl ?_ ?_
      rotate_left
      · go_simp
        rfl
      refine hK.out _ _ ?_
      clear hK K
      refine done_ (by kernel_rfl) ?_
      have hcs : Ch (· = g) w7 (w7.setCell ⟨g, 3, none⟩ (.slice A7 (D ++ [(⟨(nth x.f3 0).f1, (nth x.f3 1).f1⟩ : S24)]).length c7)) := (Ch.refl _ _).set (.inl rfl)
      have HX7 := Aside0.mk (HX7_.out.ch hcs (fun e => N8.out.1 e.symm) (fun k hk e => by subst e; exact NG.out.2.2.2 hk))
      have HD7 := Aside0.mk (show Ds w w6 (w7.setCell ⟨g, 3, none⟩ (.slice A7 (D ++ [(⟨(nth x.f3 0).f1, (nth x.f3 1).f1⟩ : S24)]).length c7)) ok (fun k => ok k ∨ k = r8) g ⟨⟨(nth v.f3 0).f1, (nth v.f3 1).f1⟩, (nth v.f3 2).f1, (D ++ [(⟨(nth x.f3 0).f1, (nth x.f3 1).f1⟩ : S24)]), ⟨0, ⟨#[]⟩⟩, 0, ⟨0, 0, 0⟩, ⟨0, 0, 0⟩, ⟨#[]⟩, ⟨#[]⟩, 0, false⟩ A7 c7 r5 (v.f3.drop 4) from ⟨below_set HB7.out NG.out.2.2.1, blk_put NI.out 3 _ rfl, HRr.out.ch hcs (fun e => NG.out.1 e.symm) (fun k hk e => by subst e; exact NG.out.2.2.2 hk), Kd.R_far HO7.out (fun k hk => hk.1.1) _⟩)
      have hW : (w7.setCell ⟨g, 3, none⟩ (.slice A7 (D ++ [(⟨(nth x.f3 0).f1, (nth x.f3 1).f1⟩ : S24)]).length c7)) = (w7.setCell ⟨g, 3, none⟩ (.slice A7 (D.length + 1) c7)) := by rw [show (D ++ [(⟨(nth x.f3 0).f1, (nth x.f3 1).f1⟩ : S24)]).length = D.length + 1 from by simp]
      rw [hW] at HX7 HD7
      clear hcs hW
      go_wp2
      go_roundg M.length
      case measure => have := HM.out; simp at this; omega
      case rel => exact ⟨M, D ++ [⟨(nth x.f3 0).f1, (nth x.f3 1).f1⟩], A7, c7, ⟨rfl⟩, ⟨by have := HML.out; simp at this ⊢; omega⟩, HX7, HD7, ⟨by have := HA.out; rw [← this]; simp [ctxP]⟩⟩

end Go.Proofs.YtncejmjicjlanaaDoor.Q
