/- Contracts of the methods of ops' reader: what is next in a list of values; the reader's own cell alone turns. Conditions: the lists lie in blocks that stay. -/
import Derived.Test.YtncejmjicjlanaaDoorOps4
import Derived.Test.YtncejmjicjlanaaDoorHandVals
namespace Go.Proofs.YtncejmjicjlanaaDoor.Q
open Go.RowKit Go.Proofs.YtncejmjicjlanaaDoorW.PrintWords Go.Proofs.YtncejmjicjlanaaDoorW.PrintLast Go.Proofs.YtncejmjicjlanaaDoorW.PrintMore
set_option linter.unusedVariables false
set_option linter.unusedSimpArgs false
/-- What a call changes: blocks of S alone. -/
def Ch (S : Nat → Prop) (W W1 : World) : Prop := Below 0 W W1 ∧ ∀ i, i < W.heap.size → ¬ S i → W1.heap[i]? = W.heap[i]?
theorem Ch.refl (S : Nat → Prop) (W : World) : Ch S W W := ⟨Below.refl _ _, fun _ _ _ => rfl⟩
theorem Ch.of_below {S : Nat → Prop} {W W1 : World} (h : Below W.heap.size W W1) : Ch S W W1 := ⟨⟨h.os, h.tape, h.output, h.size, fun k hk => h.block k (by omega)⟩, fun i hi _ => h.block i hi⟩
theorem Ch.then_ {S S2 : Nat → Prop} {W W1 W2 : World} (h : Ch S W W1) (k : Ch S2 W1 W2) (hs : ∀ i, S2 i → S i ∨ W.heap.size ≤ i) : Ch S W W2 :=
  ⟨h.1.trans k.1, fun i hi hn => (k.2 i (Nat.lt_of_lt_of_le hi h.1.size) (fun hk => by rcases hs i hk with h1 | h1; exact hn h1; omega)).trans (h.2 i hi hn)⟩
theorem Ch.blk {S : Nat → Prop} {W W1 : World} (h : Ch S W W1) {g : Nat} {ob : Obj} (hg : W.heap[g]? = some ob) (hn : ¬ S g) : W1.heap[g]? = some ob := (h.2 g (blk_lt hg) hn).trans hg
theorem Ch.mono {S S2 : Nat → Prop} {W W1 : World} (h : Ch S W W1) (hs : ∀ i, S i → S2 i) : Ch S2 W W1 := ⟨h.1, fun i hi hn => h.2 i hi (fun hk => hn (hs i hk))⟩
theorem Ch.below {S : Nat → Prop} {B : Nat} {w W W1 : World} (hb : Below B w W) (h : Ch S W W1) (hB : B ≤ W.heap.size) (hs : ∀ i, S i → B ≤ i) : Below B w W1 :=
  ⟨h.1.os.trans hb.os, h.1.tape.trans hb.tape, h.1.output.trans hb.output, Nat.le_trans hb.size h.1.size, fun k hk => (h.2 k (by omega) (fun hk2 => by have := hs k hk2; omega)).trans (hb.block k hk)⟩
theorem Ch.set {S : Nat → Prop} {W W1 : World} {g j : Nat} {v : Value} (h : Ch S W W1) (hg : S g ∨ W.heap.size ≤ g) : Ch S W (W1.setCell ⟨g, j, none⟩ v) :=
  ⟨h.1.setCell (p := ⟨g, j, none⟩) (Nat.zero_le _) v, fun i hi hn => (Below.heap_setCell W1 ⟨g, j, none⟩ v i (fun e => by subst e; rcases hg with hg | hg; exact hn hg; omega)).trans (h.2 i hi hn)⟩
theorem Ch.drew {S : Nat → Prop} {W W1 : World} (h : Ch S W W1) : Ch S W W1.drew := ⟨below_drew h.1, h.2⟩
/-- A list of values in blocks that are ok. -/
def TR (W : World) (ok : Nat → Prop) (A : Option Addr) (L : List S63) : Prop := (∀ ad, A = some ad → ok ad.block) ∧ ReadsRow (fun x cs => k63.M W 0 ok x cs) 4 W A L.length L
theorem TR.nil (W : World) (ok : Nat → Prop) : TR W ok none [] := ⟨fun _ h => by (cases h), rfl, by decide, fun h => absurd h (by decide)⟩
theorem TR.of_R {W : World} {base : Nat} {ok : Nat → Prop} {A : Option Addr} {c : Nat} {L : List S63} (h : Kd.R k63 63 W base ok (.slice A L.length c) L) : TR W ok A L := by
  have h0 := Kd.R_lower h (Nat.zero_le base)
  refine ⟨fun ad e => by subst e; exact h0.1 ad.block rfl, ?_⟩
  obtain ⟨A', c', he, hl, hr⟩ := OwnRow.reads h0.2
  injection he with h1 h2 h3
  subst h1
  exact hr.imp_ (Below.refl _ _) (fun _ _ hp => k63.M_mono (fun _ hk => hk.1) hp)
/-- The head's cells in a world that agrees on the ok blocks. -/
theorem TR.get {w0 W : World} {ok : Nat → Prop} {A : Option Addr} {x : S63} {L : List S63} (h : TR w0 ok A (x :: L)) (hag : ∀ k, ok k → W.heap[k]? = w0.heap[k]?) :
    ∃ ad A3 c3, A = some ad ∧ ok ad.block ∧ W.cell? ad = some (.int .i64 x.f0) ∧ W.cell? ⟨ad.block, ad.off + 1, none⟩ = some (.int .i64 x.f1) ∧ W.cell? ⟨ad.block, ad.off + 2, none⟩ = some (.string x.f2) ∧ W.cell? ⟨ad.block, ad.off + 3, none⟩ = some (.slice A3 x.f3.length c3) ∧ x.f3.length ≤ c3 ∧ TR w0 ok A3 x.f3 := by
  obtain ⟨ad, rfl, hc⟩ := h.2.2.2 (by simp)
  obtain ⟨cs, hl, hM, hcell⟩ := hc 0 x rfl
  obtain ⟨v3, rfl, hR⟩ := k63_openM hM
  obtain ⟨A3, c3, rfl⟩ := Kd.R_slice hR
  have hb := h.1 ad rfl
  have hcw : ∀ j u, [Value.int .i64 x.f0, .int .i64 x.f1, .string x.f2, .slice A3 x.f3.length c3][j]? = some u → W.cell? (ad.add j) = some u := fun j u hu => by
    have h1 := hcell j u hu
    rw [Nat.zero_mul, Nat.zero_add] at h1
    unfold World.cell? at h1 ⊢
    rw [add_block, hag _ hb]
    rw [add_block] at h1
    exact h1
  have e0 : ad.add 0 = ad := by cases ad; unfold Addr.add; split <;> simp_all
  have f0 := hcw 0 _ rfl
  rw [e0] at f0
  refine ⟨ad, A3, c3, rfl, hb, f0, ?_, ?_, ?_, (Kd.R_reads' hR).2.1, TR.of_R hR⟩
  all_goals
    first
    | (have h1 := hcw 1 _ rfl; have h2 := add_field ad 0 1 (by omega); rw [e0, Nat.zero_add] at h2; rw [h2] at h1; exact h1)
    | (have h1 := hcw 2 _ rfl; have h2 := add_field ad 0 2 (by omega); rw [e0, Nat.zero_add] at h2; rw [h2] at h1; exact h1)
    | (have h1 := hcw 3 _ rfl; have h2 := add_field ad 0 3 (by omega); rw [e0, Nat.zero_add] at h2; rw [h2] at h1; exact h1)
theorem TR.tail {W : World} {ok : Nat → Prop} {A : Option Addr} {c : Nat} {x : S63} {L : List S63} (h : TR W ok A (x :: L)) (hc : (x :: L).length ≤ c) : TR W ok (if c = 1 then A else A.map (·.add (1 * 4))) L := by
  refine ⟨fun ad e => ?_, rfl, by have := h.2.2.1; simp at this; omega, fun hp => ?_⟩
  · split at e
    · exact h.1 ad e
    · cases A with
      | none => cases e
      | some a => cases e; show ok (a.add 4).block; rw [add_block]; exact h.1 a rfl
  · obtain ⟨ad, rfl, hcell⟩ := h.2.2.2 (by simp)
    rw [if_neg (by simp at hc; omega)]
    refine ⟨ad.add 4, rfl, fun j p hj => ?_⟩
    obtain ⟨cs, h1, h2, h3⟩ := hcell (j + 1) p (by simpa using hj)
    exact ⟨cs, h1, h2, fun i u hu => by have := h3 i u hu; rw [Addr.add_add]; rw [show 4 + (j * 4 + i) = (j + 1) * 4 + i by omega]; exact this⟩
/-- The reader's block. -/
def IsRo (w0 W : World) (ok : Nat → Prop) (r : Nat) (L : List S63) : Prop := ∃ A c, W.heap[r]? = some (.cells #[.slice A L.length c] 96 (0, 0)) ∧ L.length ≤ c ∧ TR w0 ok A L
theorem IsRo.ch {w0 W W1 : World} {ok S : Nat → Prop} {r : Nat} {L : List S63} (h : IsRo w0 W ok r L) (hc : Ch S W W1) (hn : ¬ S r) : IsRo w0 W1 ok r L := by
  obtain ⟨A, c, h1, h2, h3⟩ := h
  exact ⟨A, c, hc.blk h1 hn, h2, h3⟩
def hdV (L : List S63) : S63 := L.headD z63
theorem size63n : (Tryd.prog.info? 63).map (·.size) = some 4 := by kernel_rfl
theorem cell_same {W W1 : World} {a : Addr} (h : W1.heap[a.block]? = W.heap[a.block]?) : W1.cell? a = W.cell? a := by
  unfold World.cell?
  rw [h]
theorem head_same {W W1 : World} {ad : Addr} {v0 v1 v2 v3 : Option Value} (h : W1.heap[ad.block]? = W.heap[ad.block]?) (hd : W.cell? ad = v0 ∧ W.cell? ⟨ad.block, ad.off + 1, none⟩ = v1 ∧ W.cell? ⟨ad.block, ad.off + 2, none⟩ = v2 ∧ W.cell? ⟨ad.block, ad.off + 3, none⟩ = v3) : W1.cell? ad = v0 ∧ W1.cell? ⟨ad.block, ad.off + 1, none⟩ = v1 ∧ W1.cell? ⟨ad.block, ad.off + 2, none⟩ = v2 ∧ W1.cell? ⟨ad.block, ad.off + 3, none⟩ = v3 :=
  ⟨(cell_same h).trans hd.1, (cell_same (a := ⟨ad.block, ad.off + 1, none⟩) h).trans hd.2.1, (cell_same (a := ⟨ad.block, ad.off + 2, none⟩) h).trans hd.2.2.1, (cell_same (a := ⟨ad.block, ad.off + 3, none⟩) h).trans hd.2.2.2⟩
/-- What the methods find. -/
structure RoS (w0 W : World) (ok : Nat → Prop) (r : Nat) (L : List S63) : Prop where
  hI : IsRo w0 W ok r L
  hag : ∀ k, ok k → W.heap[k]? = w0.heap[k]?
  hlt : ∀ k, ok k → k < W.heap.size
  hr : ¬ ok r
theorem RoS.ch {w0 W W1 : World} {ok S : Nat → Prop} {r : Nat} {L : List S63} (h : RoS w0 W ok r L) (hc : Ch S W W1) (hn : ¬ S r) (hs : ∀ k, ok k → ¬ S k) : RoS w0 W1 ok r L :=
  ⟨h.hI.ch hc hn, fun k hk => (hc.2 k (h.hlt k hk) (hs k hk)).trans (h.hag k hk), fun k hk => Nat.lt_of_lt_of_le (h.hlt k hk) hc.1.size, h.hr⟩
/-- What a method leaves. -/
structure RoP (w0 W W1 : World) (ok : Nat → Prop) (r : Nat) (L : List S63) : Prop where
  hs : RoS w0 W1 ok r L
  hc : Ch (· = r) W W1
theorem RoP.mk' {w0 W W1 : World} {ok : Nat → Prop} {r : Nat} {L L1 : List S63} (h : RoS w0 W ok r L) (hI : IsRo w0 W1 ok r L1) (hc : Ch (· = r) W W1) : RoP w0 W W1 ok r L1 :=
  ⟨⟨hI, fun k hk => (hc.2 k (h.hlt k hk) (fun e => h.hr (e ▸ hk))).trans (h.hag k hk), fun k hk => Nat.lt_of_lt_of_le (h.hlt k hk) hc.1.size, h.hr⟩, hc⟩

set_option maxHeartbeats 2000000 in
set_option maxRecDepth 100000 in
theorem oNext_nil (w0 W : World) (ok : Nat → Prop) (r : Nat) (h : RoS w0 W ok r []) :
    Calls Tryd.prog 95 #[.pointer (some ⟨r, 0, none⟩)] W fun e W1 => e = .returned (.agg #[.int .i64 0, .int .i64 0, .string ⟨#[]⟩, .slice none 0 0]) ∧ RoP w0 W W1 ok r [] := by
  have hu63 := Tryd.underlying63
  have hu96 := Tryd.underlying96
  obtain ⟨A, c, hI, hc, hT⟩ := h.hI
  have HH := Aside0.mk h
  have HRB := Aside0.mk hI
  have HT := Aside0.mk (And.intro hc hT)
  clear h hI hc hT
  go_enter Tryd.func95, Tryd.ntmps95
  go_wp2_with (first | ((with_reducible refine gate_dst (N := 2) rfl ?_); refine box_event ?hg (N := 2) ?hd (cs := #[.int .i64 0, .int .i64 0, .string ⟨#[]⟩, .slice none 0 0]) (t := 63) ?hr ?_; (case hd => rfl); (case hg => rfl); (case hr => first | (go_simp; done) | (go_simp; rfl)); intro q hg w1 hbox hb; have Nq := Aside0.mk (show r ≠ q from by have := blk_lt HRB.out; omega); have Lq := Aside0.mk (show W.heap.size ≤ q from by omega); have HCH := Aside0.mk (Ch.of_below (S := (· = r)) hb); have n1_ := Aside0.mk (blk_below HRB.out hb); clear HRB; have HRB := n1_; clear n1_; have c0 := (blk_cell HRB.out 0).trans (show _ = some (.slice A 0 c) from rfl); have Bq := Aside0.mk hbox; clear hb hbox hg) | ((with_reducible refine gate_dst (N := 23) rfl ?_); refine load_event (by rfl) 63 (.tmp 2) rfl q rfl 63 #[.int .i64 0, .int .i64 0, .string ⟨#[]⟩, .slice none 0 0] (0, 0) _ Bq.out Tryd.underlying63 rfl size63n ?_) | ((with_reducible refine gate_store (t := 63) (p := 2) rfl ?_); refine row_event Bq.out (by rfl) _ _ rfl rfl (cs' := #[.int .i64 0, .int .i64 0, .string ⟨#[]⟩, .slice none 0 0]) rfl size63n rfl (by simp [Value.oneCell']) ?_; intro w6 h1 h2 h3; have HC6 := Aside0.mk (show Ch (· = r) W w6 from HCH.out.then_ ⟨h3 0 _ (Nat.zero_le _) (Below.refl _ _), fun i hi hn => h2 i hn⟩ (fun i hi => .inr (by subst hi; exact Lq.out))); have R6 := Aside0.mk ((h2 _ Nq.out).trans HRB.out); have B6 := Aside0.mk h1; clear h1 h2 h3))
  refine bodyPost_ret (results_cell_row Tryd.results95 _ _ q 63 _ (0, 0) _ rfl B6.out Tryd.underlying63 rfl size63n) rfl ⟨rfl, RoP.mk' HH.out ⟨A, c, R6.out, HT.out.1, HT.out.2⟩ HC6.out⟩

set_option maxHeartbeats 4000000 in
set_option maxRecDepth 100000 in
theorem oNext_cons (w0 W : World) (ok : Nat → Prop) (r : Nat) (x : S63) (L : List S63) (h : RoS w0 W ok r (x :: L)) :
    Calls Tryd.prog 95 #[.pointer (some ⟨r, 0, none⟩)] W fun e W1 => ∃ A3 c3, e = .returned (.agg #[.int .i64 x.f0, .int .i64 x.f1, .string x.f2, .slice A3 x.f3.length c3]) ∧ x.f3.length ≤ c3 ∧ TR w0 ok A3 x.f3 ∧ RoP w0 W W1 ok r L := by
  have hu63 := Tryd.underlying63
  have hu96 := Tryd.underlying96
  obtain ⟨A, c, hI, hc, hT⟩ := h.hI
  obtain ⟨ad, A3, c3, rfl, hoa, d0, d1, d2, d3, l3, t3⟩ := hT.get h.hag
  have hTL := hT.tail hc
  have HOA := Aside0.mk hoa
  have HL3 := Aside0.mk (And.intro l3 t3)
  have HDW := Aside0.mk (show W.cell? ad = some (.int .i64 x.f0) ∧ W.cell? ⟨ad.block, ad.off + 1, none⟩ = some (.int .i64 x.f1) ∧ W.cell? ⟨ad.block, ad.off + 2, none⟩ = some (.string x.f2) ∧ W.cell? ⟨ad.block, ad.off + 3, none⟩ = some (.slice A3 x.f3.length c3) from ⟨d0, d1, d2, d3⟩)
  obtain ⟨i63, hi63, hz63⟩ : ∃ i, Tryd.prog.info? 63 = some i ∧ i.size = 4 := by
    have h := size63n
    cases hq : Tryd.prog.info? 63 with
    | none => rw [hq] at h; cases h
    | some i => rw [hq] at h; exact ⟨i, rfl, by simpa using h⟩
  have hcut0 := cut_from (P := Tryd.prog) 61 63 .i64 Tryd.underlying61 hi63 4 hz63 (some ad) (L.length + 1) c 1 (by omega) (by omega)
  obtain ⟨A9, hA9⟩ : ∃ A9, A9 = (if c = 1 then some ad else (some ad).map (·.add (1 * 4))) := ⟨_, rfl⟩
  have hcut : ∀ W : World, (Instr.slice 61 (.slice (some ad) (L.length + 1) c) (some (.int .i64 1)) none none).run Tryd.prog W = .ok (.slice A9 L.length (c - 1)) W := fun W => by rw [hA9]; exact hcut0 W
  rw [← hA9] at hTL
  have HTL := Aside0.mk hTL
  clear hTL hcut0 hA9 hi63 hz63
  have HH := Aside0.mk h
  have HRB := Aside0.mk (show W.heap[r]? = some (.cells #[.slice (some ad) (L.length + 1) c] 96 (0, 0)) from hI)
  have HC := Aside0.mk (show L.length + 1 ≤ c from hc)
  clear h hI hc hT hoa l3 t3 d0 d1 d2 d3
  have hg0 : decide (0 < L.length + 1) = true := by simp
  go_enter Tryd.func95, Tryd.ntmps95
  go_wp2_with (first | ((with_reducible refine gate_dst (N := 2) rfl ?_); refine box_event ?hg (N := 2) ?hd (cs := #[.int .i64 0, .int .i64 0, .string ⟨#[]⟩, .slice none 0 0]) (t := 63) ?hr ?_; (case hd => rfl); (case hg => rfl); (case hr => first | (go_simp; done) | (go_simp; rfl)); intro q hg w1 hbox hb; have Nq := Aside0.mk (show r ≠ q from by have := blk_lt HRB.out; omega); have Lq := Aside0.mk (show W.heap.size ≤ q from by omega); have HCH := Aside0.mk (Ch.of_below (S := (· = r)) hb); have n1_ := Aside0.mk (blk_below HRB.out hb); clear HRB; have HRB := n1_; clear n1_; have c0 := (blk_cell HRB.out 0).trans (show _ = some (.slice (some ad) (L.length + 1) c) from rfl); have Bq := Aside0.mk hbox; clear hb hbox hg))
  clear c0
  have HR0 := HRB
  have BQ0 := Bq
  have HC0 := HCH
  have NA := Aside0.mk (show ad.block ≠ q from fun e => by have h1 := HH.out.hlt _ HOA.out; have h2 := Lq.out; omega)
  have hbl := HCH.out.2 ad.block (HH.out.hlt _ HOA.out) (fun e => HH.out.hr (e ▸ HOA.out))
  have HD0 := Aside0.mk (show w1.cell? ad = some (.int .i64 x.f0) ∧ w1.cell? ⟨ad.block, ad.off + 1, none⟩ = some (.int .i64 x.f1) ∧ w1.cell? ⟨ad.block, ad.off + 2, none⟩ = some (.string x.f2) ∧ w1.cell? ⟨ad.block, ad.off + 3, none⟩ = some (.slice A3 x.f3.length c3) from head_same hbl HDW.out)
  clear HRB Bq HCH hbl
  refine start_ (n := 16) (S := fun w' => w'.cell? ⟨r, 0, none⟩ = some (.slice (some ad) (L.length + 1) c) ∧ w'.cell? ad = some (.int .i64 x.f0) ∧ w'.cell? ⟨ad.block, ad.off + 1, none⟩ = some (.int .i64 x.f1) ∧ w'.cell? ⟨ad.block, ad.off + 2, none⟩ = some (.string x.f2) ∧ w'.cell? ⟨ad.block, ad.off + 3, none⟩ = some (.slice A3 x.f3.length c3)) (ds := [15]) #[false, false, false, false, false, false, false, false, false, false, false, false, false, false, false, false] (by kernel_rfl) rfl rfl ⟨((blk_cell HR0.out 0).trans rfl), (HD0.out.1), (HD0.out.2.1), (HD0.out.2.2.1), (HD0.out.2.2.2)⟩ (fun hHeld => ?_)
  replace HR0 := Aside0.mk (blk_drew HR0.out)
  replace HD0 := Aside0.mk (show w1.drew.cell? ad = some (.int .i64 x.f0) ∧ w1.drew.cell? ⟨ad.block, ad.off + 1, none⟩ = some (.int .i64 x.f1) ∧ w1.drew.cell? ⟨ad.block, ad.off + 2, none⟩ = some (.string x.f2) ∧ w1.drew.cell? ⟨ad.block, ad.off + 3, none⟩ = some (.slice A3 x.f3.length c3) from HD0.out)
  replace BQ0 := Aside0.mk (blk_drew BQ0.out)
  replace HC0 := Aside0.mk HC0.out.drew
  generalize w1.drew = V0 at *
  refine pure_ (i := 0) (N := some 9) (v := ?_) (a' := ?_) #[true, false, false, false, false, false, false, false, false, false, false, false, false, false, false, false] rfl rfl (by kernel_rfl) (fun _ _ _ h => h) (Or.inl ⟨by rfl, ?_⟩) ?_ ?_
  rotate_left
  · intro w'
    go_simp
    with_reducible rfl
  rotate_left
  · simp only [Act.put, List.setIfInBounds_toArray, List.set_cons_zero, List.set_cons_succ, i64_w, i32_w]
    rfl
  refine pure_ (i := 1) (N := some 10) (v := ?_) (a' := ?_) #[true, true, false, false, false, false, false, false, false, false, false, false, false, false, false, false] rfl rfl (by kernel_rfl) (fun _ _ _ h => h) (Or.inl ⟨by rfl, ?_⟩) ?_ ?_
  rotate_left
  · intro w'
    go_simp
    with_reducible rfl
  rotate_left
  · simp only [Act.put, List.setIfInBounds_toArray, List.set_cons_zero, List.set_cons_succ, i64_w, i32_w]
    rfl
  refine pure_ (i := 2) (N := some 11) (v := ?_) (a' := ?_) #[true, true, true, false, false, false, false, false, false, false, false, false, false, false, false, false] rfl rfl (by kernel_rfl) (fun _ _ _ h => h) (Or.inl ⟨by rfl, ?_⟩) ?_ ?_
  rotate_left
  · intro w'
    go_simp
    with_reducible rfl
  rotate_left
  · simp only [Act.put, List.setIfInBounds_toArray, List.set_cons_zero, List.set_cons_succ, i64_w, i32_w]
    rfl
  refine pure_ (i := 3) (N := some 12) (v := ?_) (a' := ?_) #[true, true, true, true, false, false, false, false, false, false, false, false, false, false, false, false] rfl rfl (by kernel_rfl) (fun _ _ _ h => h) (Or.inl ⟨by rfl, ?_⟩) ?_ ?_
  rotate_left
  · intro w'
    go_simp
    with_reducible rfl
  rotate_left
  · simp only [Act.put, List.setIfInBounds_toArray, List.set_cons_zero, List.set_cons_succ, i64_w, i32_w]
    rfl
  refine pure_ (i := 7) (N := some 16) (v := ?_) (a' := ?_) #[true, true, true, true, false, false, false, true, false, false, false, false, false, false, false, false] rfl rfl (by kernel_rfl) (fun _ _ _ h => h) (Or.inl ⟨by rfl, ?_⟩) ?_ ?_
  rotate_left
  · intro w'
    go_simp
    with_reducible rfl
  rotate_left
  · simp only [Act.put, List.setIfInBounds_toArray, List.set_cons_zero, List.set_cons_succ, i64_w, i32_w]
    rfl
  refine pure_ (i := 8) (N := some 17) (v := ?_) (a' := ?_) #[true, true, true, true, false, false, false, true, true, false, false, false, false, false, false, false] rfl rfl (by kernel_rfl) (fun _ _ _ h => h) (Or.inl ⟨by rfl, ?_⟩) ?_ ?_
  rotate_left
  · intro w'
    go_simp
    with_reducible rfl
  rotate_left
  · simp only [Act.put, List.setIfInBounds_toArray, List.set_cons_zero, List.set_cons_succ, i64_w, i32_w]
    rfl
  refine pure_ (i := 9) (N := some 18) (v := ?_) (a' := ?_) #[true, true, true, true, false, false, false, true, true, true, false, false, false, false, false, false] rfl rfl (by kernel_rfl) (fun _ _ _ h => h) (Or.inl ⟨by rfl, ?_⟩) ?_ ?_
  rotate_left
  · intro w'
    go_simp
    with_reducible rfl
  rotate_left
  · simp only [Act.put, List.setIfInBounds_toArray, List.set_cons_zero, List.set_cons_succ, i64_w, i32_w]
    rfl
  refine take_ (i := 4) (N := some 13) (v := ?_) (a' := ?_) #[true, true, true, true, true, false, false, true, true, true, false, false, false, false, false, false] rfl rfl (by kernel_rfl) (fun _ _ _ h => h) (Or.inl ⟨by rfl, ?_⟩) hHeld ?_ ?_
  rotate_left
  · rintro w' ⟨s0, s1, s2, s3, s4⟩
    go_simp
    with_reducible rfl
  rotate_left
  · simp only [Act.put, List.setIfInBounds_toArray, List.set_cons_zero, List.set_cons_succ, i64_w, i32_w]
    rfl
  refine pure_ (i := 5) (N := some 14) (v := ?_) (a' := ?_) #[true, true, true, true, true, true, false, true, true, true, false, false, false, false, false, false] rfl rfl (by kernel_rfl) (fun _ _ _ h => h) (Or.inl ⟨by rfl, ?_⟩) ?_ ?_
  rotate_left
  · intro w'
    go_simp
    with_reducible rfl
  rotate_left
  · simp only [Act.put, List.setIfInBounds_toArray, List.set_cons_zero, List.set_cons_succ, i64_w, i32_w]
    rfl
  refine take_ (i := 6) (N := some 15) (v := ?_) (a' := ?_) #[true, true, true, true, true, true, true, true, true, true, false, false, false, false, false, false] rfl rfl (by kernel_rfl) (fun _ _ _ h => h) (Or.inl ⟨by rfl, ?_⟩) hHeld ?_ ?_
  rotate_left
  · rintro w' ⟨s0, s1, s2, s3, s4⟩
    go_simp
    with_reducible rfl
  rotate_left
  · simp only [Act.put, List.setIfInBounds_toArray, List.set_cons_zero, List.set_cons_succ, i64_w, i32_w]
    rfl
  refine take_ (i := 10) (N := some 19) (v := ?_) (a' := ?_) #[true, true, true, true, true, true, true, true, true, true, true, false, false, false, false, false] rfl rfl (by kernel_rfl) (fun _ _ _ h => h) (Or.inl ⟨by rfl, ?_⟩) hHeld ?_ ?_
  rotate_left
  · rintro w' ⟨s0, s1, s2, s3, s4⟩
    go_simp
    with_reducible rfl
  rotate_left
  · simp only [Act.put, List.setIfInBounds_toArray, List.set_cons_zero, List.set_cons_succ, i64_w, i32_w]
    rfl
  refine pure_ (i := 11) (N := some 20) (v := ?_) (a' := ?_) #[true, true, true, true, true, true, true, true, true, true, true, true, false, false, false, false] rfl rfl (by kernel_rfl) (fun _ _ _ h => h) (Or.inl ⟨by rfl, ?_⟩) ?_ ?_
  rotate_left
  · intro w'
    go_simp
    with_reducible rfl
  rotate_left
  · simp only [Act.put, List.setIfInBounds_toArray, List.set_cons_zero, List.set_cons_succ, i64_w, i32_w]
    rfl
  refine one_ (i := 12) (N := none) #[true, true, true, true, true, true, true, true, true, true, true, true, true, false, false, false] rfl rfl (by kernel_rfl) (by decide) (fun K hK => ?_)
  have z0 := (blk_cell BQ0.out 0).trans (show _ = some (Value.int .i64 0) from rfl)
  have z1 := (blk_cell BQ0.out 1).trans (show _ = some (Value.int .i64 0) from rfl)
  have z2 := (blk_cell BQ0.out 2).trans (show _ = some (Value.string ⟨#[]⟩) from rfl)
  have z3 := (blk_cell BQ0.out 3).trans (show _ = some (Value.slice none 0 0) from rfl)
  have zf := fun j => blk_frozen BQ0.out j
  refine skip_ (w1 := ?_) (by rfl) rfl ?_ ?_
  rotate_left
  · go_simp
    rfl
  clear z0 z1 z2 z3 zf
  have hfar := (fun i hi => (Below.heap_setCell _ _ _ i hi).trans ((Below.heap_setCell _ _ _ i hi).trans ((Below.heap_setCell _ _ _ i hi).trans (Below.heap_setCell _ _ _ i hi))) : ∀ i, i ≠ q → (((((V0).setCell ⟨q, 0, none⟩ (.int .i64 x.f0)).setCell ⟨q, 1, none⟩ (.int .i64 x.f1)).setCell ⟨q, 2, none⟩ (.string x.f2)).setCell ⟨q, 3, none⟩ (.slice A3 x.f3.length c3)).heap[i]? = V0.heap[i]?)
  have HR1 := Aside0.mk ((hfar _ Nq.out).trans HR0.out)
  have HD1 := Aside0.mk (show (((((V0).setCell ⟨q, 0, none⟩ (.int .i64 x.f0)).setCell ⟨q, 1, none⟩ (.int .i64 x.f1)).setCell ⟨q, 2, none⟩ (.string x.f2)).setCell ⟨q, 3, none⟩ (.slice A3 x.f3.length c3)).cell? ad = some (.int .i64 x.f0) ∧ (((((V0).setCell ⟨q, 0, none⟩ (.int .i64 x.f0)).setCell ⟨q, 1, none⟩ (.int .i64 x.f1)).setCell ⟨q, 2, none⟩ (.string x.f2)).setCell ⟨q, 3, none⟩ (.slice A3 x.f3.length c3)).cell? ⟨ad.block, ad.off + 1, none⟩ = some (.int .i64 x.f1) ∧ (((((V0).setCell ⟨q, 0, none⟩ (.int .i64 x.f0)).setCell ⟨q, 1, none⟩ (.int .i64 x.f1)).setCell ⟨q, 2, none⟩ (.string x.f2)).setCell ⟨q, 3, none⟩ (.slice A3 x.f3.length c3)).cell? ⟨ad.block, ad.off + 2, none⟩ = some (.string x.f2) ∧ (((((V0).setCell ⟨q, 0, none⟩ (.int .i64 x.f0)).setCell ⟨q, 1, none⟩ (.int .i64 x.f1)).setCell ⟨q, 2, none⟩ (.string x.f2)).setCell ⟨q, 3, none⟩ (.slice A3 x.f3.length c3)).cell? ⟨ad.block, ad.off + 3, none⟩ = some (.slice A3 x.f3.length c3) from head_same (hfar _ NA.out) HD0.out)
  have BQ1 := Aside0.mk (blk_put (blk_put (blk_put (blk_put BQ0.out 0 (.int .i64 x.f0) rfl) 1 (.int .i64 x.f1) rfl) 2 (.string x.f2) rfl) 3 (.slice A3 x.f3.length c3) rfl)
  have HC1 := Aside0.mk ((((HC0.out.set (g := q) (j := 0) (v := .int .i64 x.f0) (.inr Lq.out)).set (g := q) (j := 1) (v := .int .i64 x.f1) (.inr Lq.out)).set (g := q) (j := 2) (v := .string x.f2) (.inr Lq.out)).set (g := q) (j := 3) (v := .slice A3 x.f3.length c3) (.inr Lq.out))
  clear hfar HR0 HD0 BQ0 HC0
  generalize ((((V0).setCell ⟨q, 0, none⟩ (.int .i64 x.f0)).setCell ⟨q, 1, none⟩ (.int .i64 x.f1)).setCell ⟨q, 2, none⟩ (.string x.f2)).setCell ⟨q, 3, none⟩ (.slice A3 x.f3.length c3) = V1 at *
  refine hK.out _ _ ⟨((blk_cell HR1.out 0).trans rfl), (HD1.out.1), (HD1.out.2.1), (HD1.out.2.2.1), (HD1.out.2.2.2)⟩ (fun hHeld => ?_)
  clear hK K
  refine pure_ (i := 13) (N := some 21) (v := ?_) (a' := ?_) #[true, true, true, true, true, true, true, true, true, true, true, true, true, true, false, false] rfl rfl (by kernel_rfl) (fun _ _ _ h => h) (Or.inl ⟨by rfl, ?_⟩) ?_ ?_
  rotate_left
  · intro w'
    go_simp
    with_reducible rfl
  rotate_left
  · simp only [Act.put, List.setIfInBounds_toArray, List.set_cons_zero, List.set_cons_succ, i64_w, i32_w]
    rfl
  refine pure_ (i := 14) (N := some 22) (v := ?_) (a' := ?_) #[true, true, true, true, true, true, true, true, true, true, true, true, true, true, true, false] rfl rfl (by kernel_rfl) (fun _ _ _ h => h) (Or.inl ⟨by rfl, ?_⟩) ?_ ?_
  rotate_left
  · intro w'
    go_simp
    with_reducible rfl
  rotate_left
  · simp only [Act.put, List.setIfInBounds_toArray, List.set_cons_zero, List.set_cons_succ, i64_w, i32_w]
    rfl
  refine last_ (i := 15) (N := none) #[true, true, true, true, true, true, true, true, true, true, true, true, true, true, true, true] rfl rfl (by kernel_rfl) (by decide) (fun K hK => ?_)
  have y0 := (blk_cell HR1.out 0).trans (show _ = some (.slice (some ad) (L.length + 1) c) from rfl)
  have yf := blk_frozen HR1.out 0
  refine skip_ (w1 := ?_) (by rfl) rfl ?_ ?_
  rotate_left
  · go_simp
    rfl
  refine hK.out _ _ ?_
  clear hK K
  refine done_ (by kernel_rfl) ?_
  have HRB := Aside0.mk (blk_put HR1.out 0 (.slice A9 L.length (c - 1)) rfl)
  have Bq := Aside0.mk (blk_far (p := ⟨r, 0, none⟩) BQ1.out (Ne.symm Nq.out) (.slice A9 L.length (c - 1)))
  have HCH := Aside0.mk (HC1.out.set (g := r) (j := 0) (v := .slice A9 L.length (c - 1)) (.inl rfl))
  clear HR1 BQ1 HC1 HD1 hcut hg0
  generalize V1.setCell ⟨r, 0, none⟩ (.slice A9 L.length (c - 1)) = V2 at *
  go_wp2_with (first | ((with_reducible refine gate_dst (N := 23) rfl ?_); refine load_event (by rfl) 63 (.tmp 2) rfl q rfl 63 #[.int .i64 x.f0, .int .i64 x.f1, .string x.f2, .slice A3 x.f3.length c3] (0, 0) _ Bq.out Tryd.underlying63 rfl size63n ?_) | ((with_reducible refine gate_store (t := 63) (p := 2) rfl ?_); refine row_event Bq.out (by rfl) _ _ rfl rfl (cs' := #[.int .i64 x.f0, .int .i64 x.f1, .string x.f2, .slice A3 x.f3.length c3]) rfl size63n rfl (by simp [Value.oneCell']) ?_; intro w6 h1 h2 h3; have HC6 := Aside0.mk (show Ch (· = r) W w6 from HCH.out.then_ ⟨h3 0 _ (Nat.zero_le _) (Below.refl _ _), fun i hi hn => h2 i hn⟩ (fun i hi => .inr (by subst hi; exact Lq.out))); have R6 := Aside0.mk ((h2 _ Nq.out).trans HRB.out); have B6 := Aside0.mk h1; clear h1 h2 h3))
  refine bodyPost_ret (results_cell_row Tryd.results95 _ _ q 63 _ (0, 0) _ rfl B6.out Tryd.underlying63 rfl size63n) rfl ⟨A3, c3, rfl, HL3.out.1, HL3.out.2, RoP.mk' HH.out ⟨A9, c - 1, R6.out, by have := HC.out; omega, HTL.out⟩ HC6.out⟩

theorem field63_1 (a b c d : Value) (W : World) : (Instr.field 63 (.agg #[a, b, c, d]) 1).run Tryd.prog W = .ok b W := by
  have hu63 := Tryd.underlying63
  unfold Instr.field
  go_simp
  try rfl
theorem field63_2 (a b c d : Value) (W : World) : (Instr.field 63 (.agg #[a, b, c, d]) 2).run Tryd.prog W = .ok c W := by
  have hu63 := Tryd.underlying63
  unfold Instr.field
  go_simp
  try rfl
theorem field63_3 (a b c d : Value) (W : World) : (Instr.field 63 (.agg #[a, b, c, d]) 3).run Tryd.prog W = .ok d W := by
  have hu63 := Tryd.underlying63
  unfold Instr.field
  go_simp
  try rfl
theorem oNext_calls (w0 W : World) (ok : Nat → Prop) (r : Nat) (L : List S63) (h : RoS w0 W ok r L) :
    Calls Tryd.prog 95 #[.pointer (some ⟨r, 0, none⟩)] W fun e W1 => ∃ A3 c3, e = .returned (.agg #[.int .i64 (hdV L).f0, .int .i64 (hdV L).f1, .string (hdV L).f2, .slice A3 (hdV L).f3.length c3]) ∧ (hdV L).f3.length ≤ c3 ∧ TR w0 ok A3 (hdV L).f3 ∧ RoP w0 W W1 ok r L.tail := by
  cases L with
  | nil => exact (oNext_nil w0 W ok r h).mono fun e W1 ⟨he, hp⟩ => ⟨none, 0, he, Nat.le_refl _, TR.nil _ _, hp⟩
  | cons x L => exact oNext_cons w0 W ok r x L h
set_option maxHeartbeats 1000000 in
set_option maxRecDepth 100000 in
theorem oNumber_calls (w0 W : World) (ok : Nat → Prop) (r : Nat) (L : List S63) (h : RoS w0 W ok r L) :
    Calls Tryd.prog 74 #[.pointer (some ⟨r, 0, none⟩)] W fun e W1 => e = .returned (.int .i64 (hdV L).f1) ∧ RoP w0 W W1 ok r L.tail := by
  have hu63 := Tryd.underlying63
  have HH := Aside0.mk h
  clear h
  have hfd := field63_1
  go_enter Tryd.func74, Tryd.ntmps74
  go_wp2_with fail
  refine (oNext_calls w0 W ok r L HH.out).mono ?_
  rintro e W1 ⟨A3, c3, rfl, _, _, hp⟩
  have HP := Aside0.mk hp
  clear hp
  go_wp2
  go_ret
  exact ⟨rfl, HP.out⟩
set_option maxHeartbeats 1000000 in
set_option maxRecDepth 100000 in
theorem oText_calls (w0 W : World) (ok : Nat → Prop) (r : Nat) (L : List S63) (h : RoS w0 W ok r L) :
    Calls Tryd.prog 75 #[.pointer (some ⟨r, 0, none⟩)] W fun e W1 => e = .returned (.string (hdV L).f2) ∧ RoP w0 W W1 ok r L.tail := by
  have hu63 := Tryd.underlying63
  have HH := Aside0.mk h
  clear h
  have hfd := field63_2
  go_enter Tryd.func75, Tryd.ntmps75
  go_wp2_with fail
  refine (oNext_calls w0 W ok r L HH.out).mono ?_
  rintro e W1 ⟨A3, c3, rfl, _, _, hp⟩
  have HP := Aside0.mk hp
  clear hp
  go_wp2
  go_ret
  exact ⟨rfl, HP.out⟩
set_option maxHeartbeats 1000000 in
set_option maxRecDepth 100000 in
theorem oList_calls (w0 W : World) (ok : Nat → Prop) (r : Nat) (L : List S63) (h : RoS w0 W ok r L) :
    Calls Tryd.prog 76 #[.pointer (some ⟨r, 0, none⟩)] W fun e W1 => ∃ r2, e = .returned (.pointer (some ⟨r2, 0, none⟩)) ∧ W.heap.size ≤ r2 ∧ RoS w0 W1 ok r2 (hdV L).f3 ∧ RoP w0 W W1 ok r L.tail := by
  have hu63 := Tryd.underlying63
  have hu96 := Tryd.underlying96
  have HH := Aside0.mk h
  clear h
  have hfd := field63_3
  go_enter Tryd.func76, Tryd.ntmps76
  go_wp2_with fail
  refine (oNext_calls w0 W ok r L HH.out).mono ?_
  rintro e W1 ⟨A3, c3, rfl, hl3, ht3, hp⟩
  have HP := Aside0.mk hp
  have HT3 := Aside0.mk (And.intro hl3 ht3)
  clear hp hl3 ht3
  go_wp2_with ((with_reducible refine gate_dst (N := 7) rfl ?_); refine box_event ?hg (N := 7) ?hd (cs := #[.slice A3 (hdV L).f3.length c3]) (t := 96) ?hr ?_; (case hd => rfl); (case hg => rfl); (case hr => first | (go_simp; done) | (go_simp; rfl)); intro r2 hg w1 hbox hb; have HB2 := Aside0.mk (And.intro hbox (And.intro hg hb)); clear hb hbox hg)
  go_ret
  have hb2 := Ch.of_below (S := (· = r)) HB2.out.2.2
  have hs1 := HP.out.hc.1.size
  have hs := HP.out.hs.ch (S := fun _ => False) (Ch.of_below HB2.out.2.2) (fun h => h) (fun _ _ h => h)
  exact ⟨r2, rfl, by have := HB2.out.2.1; omega, ⟨⟨A3, c3, HB2.out.1, HT3.out.1, HT3.out.2⟩, hs.hag, hs.hlt, fun hk => by have h1 := HP.out.hs.hlt _ hk; have h2 := HB2.out.2.1; omega⟩, ⟨hs, HP.out.hc.then_ hb2 (fun i hi => .inl hi)⟩⟩
set_option maxHeartbeats 2000000 in
set_option maxRecDepth 100000 in
theorem oId_calls (w0 W : World) (ok : Nat → Prop) (r : Nat) (L : List S63) (h : RoS w0 W ok r L) :
    Calls Tryd.prog 77 #[.pointer (some ⟨r, 0, none⟩)] W fun e W1 => e = .returned (.agg #[.int .i64 (hdV (hdV L).f3).f1, .int .i64 (hdV (hdV L).f3.tail).f1, .int .i64 (hdV (hdV L).f3.tail.tail).f1]) ∧ RoP w0 W W1 ok r L.tail := by
  have hmf : ∀ (fn : Fn) (first cap : Array Value) (w : World), (Instr.makeFunc fn first cap).run Tryd.prog w = .ok (.func fn first cap) w := fun _ _ _ _ => rfl
  have hu43 := Tryd.underlying43
  have hu96 := Tryd.underlying96
  have HH := Aside0.mk h
  clear h
  go_enter Tryd.func77, Tryd.ntmps77
  go_wp2_with ((with_reducible refine gate_dst (N := 2) rfl ?_); refine box_event ?hg (N := 2) ?hd (cs := #[.int .i64 0, .int .i64 0, .int .i64 0]) (t := 43) ?hr ?_; (case hd => rfl); (case hg => rfl); (case hr => first | (go_simp; done) | (go_simp; rfl)); intro q hg w1 hbox hb; have Lq := Aside0.mk (show W.heap.size ≤ q from by omega); have Nq := Aside0.mk (show q ≠ r from by obtain ⟨_, _, hI, _⟩ := HH.out.hI; have := blk_lt hI; omega); have HCH := Aside0.mk (Ch.of_below (S := (· = r)) hb); have HB1 := Aside0.mk (Ch.of_below (S := fun _ => False) hb); have Bq := Aside0.mk hbox; clear hb hbox hg)
  have HS := Aside0.mk (HH.out.ch (S := fun _ => False) HB1.out (fun h => h) (fun _ _ h => h))
  refine (oList_calls w0 w1 ok r L HS.out).mono ?_
  rintro e V1 ⟨r2, rfl, l2, hs2, hp⟩
  have N2 := Aside0.mk (show q ≠ r2 from by have := blk_lt Bq.out; omega)
  have L2 := Aside0.mk (show W.heap.size ≤ r2 from by have := HB1.out.1.size; omega)
  have HRr := Aside0.mk hp.hs
  have HC1 := Aside0.mk (HCH.out.then_ hp.hc (fun i hi => .inl hi))
  have B1 := Aside0.mk (hp.hc.blk Bq.out Nq.out)
  have Nr := Aside0.mk (show r ≠ r2 from by obtain ⟨_, _, hI, _⟩ := HS.out.hI; have := blk_lt hI; omega)
  have H1 := Aside0.mk hs2
  clear l2 hs2 hp HS Bq HCH HB1
  go_wp2_with fail
  refine (oNumber_calls w0 V1 ok r2 _ H1.out).mono ?_
  rintro e V2 ⟨rfl, hp⟩
  have HR2 := Aside0.mk (HRr.out.ch hp.hc Nr.out (fun k hk e => by subst e; exact hp.hs.hr hk))
  have HC2 := Aside0.mk (HC1.out.then_ hp.hc (fun i hi => .inr (by subst hi; exact L2.out)))
  have B2 := Aside0.mk (hp.hc.blk B1.out N2.out)
  have H2 := Aside0.mk hp.hs
  clear hp HC1 B1 H1 HRr
  go_wp2_with fail
  refine (oNumber_calls w0 V2 ok r2 _ H2.out).mono ?_
  rintro e V3 ⟨rfl, hp⟩
  have HR3 := Aside0.mk (HR2.out.ch hp.hc Nr.out (fun k hk e => by subst e; exact hp.hs.hr hk))
  have HC3 := Aside0.mk (HC2.out.then_ hp.hc (fun i hi => .inr (by subst hi; exact L2.out)))
  have B3 := Aside0.mk (hp.hc.blk B2.out N2.out)
  have H3 := Aside0.mk hp.hs
  clear hp HC2 B2 H2 HR2
  go_wp2_with fail
  refine (oNumber_calls w0 V3 ok r2 _ H3.out).mono ?_
  rintro e V4 ⟨rfl, hp⟩
  have HR4 := Aside0.mk (HR3.out.ch hp.hc Nr.out (fun k hk e => by subst e; exact hp.hs.hr hk))
  have HC4 := Aside0.mk (HC3.out.then_ hp.hc (fun i hi => .inr (by subst hi; exact L2.out)))
  have B4 := Aside0.mk (hp.hc.blk B3.out N2.out)
  have H4 := Aside0.mk hp.hs
  clear hp HC3 B3 H3 HR3
  go_wp2_with ((with_reducible refine gate_store (t := 43) (p := 2) rfl ?_); refine row_event B4.out (by rfl) _ _ rfl rfl (cs' := #[.int .i64 (hdV (hdV L).f3).f1, .int .i64 (hdV (hdV L).f3.tail).f1, .int .i64 (hdV (hdV L).f3.tail.tail).f1]) rfl size43 rfl (by simp [Value.oneCell']) ?_; intro w6 h1 h2 h3; have B6 := Aside0.mk h1; have R6 := Aside0.mk (HR4.out.ch (S := (· = q)) (show Ch (· = q) V4 w6 from ⟨h3 0 _ (Nat.zero_le _) (Below.refl _ _), fun i hi hn => h2 i hn⟩) (Ne.symm Nq.out) (fun k hk e => by subst e; have h1 := HH.out.hlt _ hk; have h2 := Lq.out; omega)); have HC6 := Aside0.mk (HC4.out.then_ (show Ch (· = q) V4 w6 from ⟨h3 0 _ (Nat.zero_le _) (Below.refl _ _), fun i hi hn => h2 i hn⟩) (fun i hi => .inr (by subst hi; exact Lq.out))); clear h1 h2 h3)
  refine bodyPost_ret (results_cell_row Tryd.results77 _ _ q 43 _ (0, 0) _ rfl B6.out Tryd.underlying43 rfl size43) rfl ⟨rfl, ⟨R6.out, HC6.out⟩⟩

end Go.Proofs.YtncejmjicjlanaaDoor.Q
