/- Contracts of the reference's reader: next and number, told by the plain numP; the reader's cell alone turns. -/
import Derived.Test.YtncejmjicjlanaaHandNumber
import Derived.Test.YtncejmjicjlanaaPNum
namespace Go.Proofs.Ytncejmjicjlanaa.Q
open Go.RowKit Go.Proofs.YtncejmjicjlanaaW.PrintWords Go.Proofs.YtncejmjicjlanaaW.PrintLast Go.Proofs.YtncejmjicjlanaaW.PrintMore
set_option linter.unusedVariables false
set_option linter.unusedSimpArgs false
/-- The reference's reader: its bytes, its place, its mark. -/
def IsRf (W : World) (g : Nat) (A : Option Addr) (c : Nat) (b : List Int) (at_ : Nat) (bad : Bool) : Prop := W.heap[g]? = some (.cells #[.slice A b.length c, .int .i64 (at_ : Int), .bool bad] 60 (0, 0))
/-- What stays: the bytes lie below, read as b, and are bytes. -/
structure RfS (w0 : World) (g : Nat) (A : Option Addr) (c : Nat) (b : List Int) : Prop where
  hc : b.length ≤ c
  hr : Kd.C (Kd.int .u8) w0 A b.length b
  hg : w0.heap.size ≤ g
  hl : b.length < 2000000000
  hb : ∀ x ∈ b, 0 ≤ x ∧ x < 256
/-- What a method leaves. -/
def Kp (w0 w w' : World) (g : Nat) : Prop := KeepBut w w' g none ∧ Below w0.heap.size w0 w'
theorem Kp.refl {w0 w : World} {g : Nat} (h : Below w0.heap.size w0 w) : Kp w0 w w g := ⟨KeepBut.refl w g none, h⟩
theorem Kp.set {w0 w w' : World} {g j : Nat} {v : Value} (h : Kp w0 w w' g) (hg : w0.heap.size ≤ g) : Kp w0 w (w'.setCell ⟨g, j, none⟩ v) g := ⟨rd_keep h.1, below_set h.2 hg⟩
theorem Kp.drewN {w0 w w' : World} {g : Nat} (h : Kp w0 w w' g) (n : Nat) : Kp w0 w (w'.drewN n) g := ⟨keep_drewN h.1 n, pw_below_drewN h.2 n⟩
theorem Kp.then_ {w0 w w' w2 : World} {g : Nat} (h : Kp w0 w w' g) (k : Kp w0 w' w2 g) : Kp w0 w w2 g := ⟨h.1.trans k.1 (.inl rfl), k.2⟩
set_option maxHeartbeats 4000000 in
set_option maxRecDepth 100000 in
theorem next_end (w0 w : World) (g : Nat) (A : Option Addr) (c : Nat) (b : List Int) (at_ : Nat) (bad : Bool) (hs : RfS w0 g A c b) (hI : IsRf w g A c b at_ bad) (hB : Below w0.heap.size w0 w) (hat : b.length ≤ at_) :
    Calls Try.prog 44 #[.pointer (some ⟨g, 0, none⟩)] w fun e w' => e = .returned (.int .u8 0) ∧ IsRf w' g A c b at_ true ∧ Kp w0 w w' g := by
  have hK := Kp.refl (g := g) hB
  have h0 : w.cell? ⟨g, 0, none⟩ = some (.slice A b.length c) := (blk_cell hI 0).trans rfl
  have h1 : w.cell? ⟨g, 1, none⟩ = some (.int .i64 (at_ : Int)) := (blk_cell hI 1).trans rfl
  have h2 : w.cell? ⟨g, 2, none⟩ = some (.bool bad) := (blk_cell hI 2).trans rfl
  have hf := fun j => blk_frozen hI j
  have hge : decide (b.length ≤ at_) = true := decide_eq_true hat
  have HI := Aside0.mk hI
  have HK := Aside0.mk hK
  have HS := Aside0.mk hs
  clear hI hK hs hB
  go_enter Try.func44, Try.ntmps44
  go_wp2_with fail
  go_quiet (fail)
  go_wp2
  refine bodyPost_ret (v := .int .u8 0) (by simp [results, Try.results44, go_sem]) rfl ⟨rfl, blk_put (blk_drewN HI.out nq) 2 (.bool true) rfl, (HK.out.drewN nq).set HS.out.hg⟩
set_option maxHeartbeats 4000000 in
set_option maxRecDepth 100000 in
theorem next_ok (w0 w : World) (g : Nat) (A : Option Addr) (c : Nat) (b : List Int) (at_ : Nat) (bad : Bool) (hs : RfS w0 g A c b) (hI : IsRf w g A c b at_ bad) (hB : Below w0.heap.size w0 w) (x : Int) (r : List Int) (hx : b.drop at_ = x :: r) :
    Calls Try.prog 44 #[.pointer (some ⟨g, 0, none⟩)] w fun e w' => e = .returned (.int .u8 x) ∧ IsRf w' g A c b (at_ + 1) bad ∧ Kp w0 w w' g := by
  have hlt : at_ < b.length := by
    rcases Nat.lt_or_ge at_ b.length with h | h
    · exact h
    · rw [List.drop_eq_nil_of_le h] at hx
      cases hx
  have hbx : rd b (at_ : Int) = x := by
    rw [List.drop_eq_getElem_cons hlt] at hx
    injection hx with h1 _
    simp [rd, List.getD, List.getElem?_eq_getElem hlt, h1]
  have hK := Kp.refl (g := g) hB
  have h0 : w.cell? ⟨g, 0, none⟩ = some (.slice A b.length c) := (blk_cell hI 0).trans rfl
  have h1 : w.cell? ⟨g, 1, none⟩ = some (.int .i64 (at_ : Int)) := (blk_cell hI 1).trans rfl
  have hf := fun j => blk_frozen hI j
  have hge : decide (b.length ≤ at_) = false := decide_eq_false (by omega)
  obtain ⟨ad, rfl, hcell0⟩ := Kd.at_int hs.hr (at_ : Int) (by omega) (by omega)
  rw [hbx] at hcell0
  have hne : ad.block ≠ g := by
    have := World.block_lt_of_cell? w0 _ hcell0
    have h2 := hs.hg
    rw [add_block] at this
    omega
  have hcell := (hB.cell (World.block_lt_of_cell? w0 _ hcell0)).trans hcell0
  have hl := hs.hl
  have hw1 : wrap64 ((at_ : Int) + 1) = ((at_ + 1 : Nat) : Int) := by rw [IntWalk.wrap64_in _ (by omega)]; rfl
  have hw2 : wrap64 (((at_ + 1 : Nat) : Int) - 1) = (at_ : Int) := by rw [IntWalk.wrap64_in _ (by omega)]; omega
  have HI := Aside0.mk hI
  have HK := Aside0.mk hK
  have HS := Aside0.mk hs
  have HLT := Aside0.mk hlt
  clear hI hK hs hB hx hbx hcell0 hl hlt
  go_enter Try.func44, Try.ntmps44
  go_wp2_with fail
  go_quiet (fail)
  go_wp2_with fail
  have HI2 := Aside0.mk (show IsRf ((w.drewN nq).setCell ⟨g, 1, none⟩ (.int .i64 ((at_ : Int) + 1))) g (some ad) c b (at_ + 1) bad from blk_put (blk_drewN HI.out nq) 1 _ rfl)
  have HK2 := Aside0.mk ((HK.out.drewN nq).set (j := 1) (v := .int .i64 ((at_ : Int) + 1)) HS.out.hg)
  have hcell2 : ((w.drewN nq).setCell ⟨g, 1, none⟩ (.int .i64 ((at_ : Int) + 1))).cell? (ad.add (at_ : Int).toNat) = some (.int .u8 x) := (cell_far (W := w.drewN nq) (p := ⟨g, 1, none⟩) (by rw [add_block]; exact hne) (.int .i64 ((at_ : Int) + 1))).trans hcell
  clear h0 h1 hf hcell HI HK
  generalize (w.drewN nq).setCell ⟨g, 1, none⟩ (.int .i64 ((at_ : Int) + 1)) = W2 at *
  have h0 : W2.cell? ⟨g, 0, none⟩ = some (.slice (some ad) b.length c) := (blk_cell HI2.out 0).trans rfl
  have h1 : W2.cell? ⟨g, 1, none⟩ = some (.int .i64 ((at_ : Int) + 1)) := (blk_cell HI2.out 1).trans rfl
  rw [Int.toNat_natCast] at hcell2
  have hw4 : IntKind.i64.wrap (at_ : Int) = (at_ : Int) := by rw [i64_w, IntWalk.wrap64_in _ (by have := HLT.out; have := HS.out.hl; omega)]
  have hlt := HLT.out
  go_quiet (fail)
  rename_i nq2
  go_wp2
  refine bodyPost_ret (v := .int .u8 x) (by simp [results, Try.results44, go_sem]) rfl ⟨rfl, blk_drewN HI2.out _, HK2.out.drewN _⟩
/-- The reference's digit is the same. -/
theorem rdigit_eq (u : Int) (i : Nat) (c : Int) (h0 : 0 ≤ u) (h1 : u < 128 ^ i) (hi : i ≤ 9) (hc : 0 ≤ c) (hc2 : c < 256) (h9 : i < 9 ∨ c ≤ 1) :
    IntKind.u64.wrap (u + IntKind.u64.wrap (IntKind.u64.wrap (Int.tmod c 128) * 2 ^ min (wrap64 (7 * (i : Int))).toNat 64)) = digitP u i c ∧ (c < 128 ∨ digitP u i c < 128 ^ (i + 1)) := by
  have hp := pow_pos7 i
  have hm : 0 ≤ c % 128 := by omega
  have e1 : Int.tmod c 128 = c % 128 := Int.tmod_eq_emod_of_nonneg hc
  have hb : (c % 128) * 128 ^ i ≤ 127 * 128 ^ i := Int.mul_le_mul_of_nonneg_right (by omega) (Int.le_of_lt hp)
  have hp9 := pow_le9 i hi
  have hx0 : 0 ≤ (c % 128) * 128 ^ i := Int.mul_nonneg hm (Int.le_of_lt hp)
  have hbound : u + (c % 128) * 128 ^ i < 18446744073709551616 := by
    rcases h9 with h9 | h9
    · have h8 : (128 : Int) ^ i ≤ 128 ^ 8 := by
        have h2 : (128 : Nat) ^ i ≤ 128 ^ 8 := Nat.pow_le_pow_right (by decide) (by omega)
        have h3 : (((128 : Nat) ^ i : Nat) : Int) ≤ ((128 ^ 8 : Nat) : Int) := by exact_mod_cast h2
        have h4 : (((128 : Nat) ^ i : Nat) : Int) = (128 : Int) ^ i := by simp
        rw [h4] at h3
        exact Int.le_trans h3 (by decide)
      have e8 : (128 : Int) ^ 8 = 72057594037927936 := by decide
      rw [e8] at h8
      omega
    · have : (c % 128) * 128 ^ i ≤ 1 * 128 ^ i := Int.mul_le_mul_of_nonneg_right (by omega) (Int.le_of_lt hp)
      omega
  have hd := digitP_eq u i c h0 h1 hi hc hc2 (by omega)
  have hmin : min (wrap64 (7 * (i : Int))).toNat 64 = 7 * i := by rw [IntWalk.wrap64_in _ (by omega)]; omega
  refine ⟨?_, ?_⟩
  · rw [hd, e1, hmin, ← pow7]
    simp only [IntKind.wrap_u64]
    rw [Int.emod_eq_of_lt hm (by omega), Int.emod_eq_of_lt hx0 (by omega), Int.emod_eq_of_lt (by omega) hbound]
  · right
    rw [hd, Int.pow_succ]
    omega
/-- What number leaves. -/
def RnPost (w0 w : World) (g : Nat) (A : Option Addr) (c : Nat) (b : List Int) (out : Option (Int × List Int)) (e : Ending) (w' : World) : Prop :=
  Kp w0 w w' g ∧
  match out with
  | none => ∃ n at_, e = .returned (.int .u64 n) ∧ IsRf w' g A c b at_ true
  | some (n, r) => ∃ at_, e = .returned (.int .u64 n) ∧ IsRf w' g A c b at_ false ∧ b.drop at_ = r ∧ at_ ≤ b.length
set_option maxHeartbeats 4000000 in
set_option maxRecDepth 100000 in
theorem rnumber_calls (w0 w : World) (g : Nat) (A : Option Addr) (c : Nat) (b : List Int) (at_ : Nat) (hs : RfS w0 g A c b) (hI : IsRf w g A c b at_ false) (hB : Below w0.heap.size w0 w) :
    Calls Try.prog 45 #[.pointer (some ⟨g, 0, none⟩)] w (RnPost w0 w g A c b (numP (b.drop at_) 0 0)) := by
  have HK := Aside0.mk (Kp.refl (g := g) hB)
  have HI := Aside0.mk hI
  have HS := Aside0.mk hs
  obtain ⟨R, hR⟩ : ∃ R, numP (b.drop at_) 0 0 = R := ⟨_, rfl⟩
  rw [hR]
  have H := Aside0.mk hR
  clear hI hB hR hs
  go_enter Try.func45, Try.ntmps45
  go_wp2_with fail
  go_loopg [3, 4] (b.length - at_) (fun kq v3 v4 wr => ∃ (u : Int) (i at1 : Nat), v3 = .int .u64 u ∧ v4 = .int .i64 (i : Int) ∧ Aside0 (numP (b.drop at1) i u = R) ∧ Aside0 (kq = b.length - at1) ∧ Aside0 (i ≤ 9 ∧ 0 ≤ u ∧ u < 128 ^ i) ∧ Aside0 (Kp w0 w wr g) ∧ Aside0 (IsRf wr g A c b at1 false))
  case atStart => exact ⟨0, 0, at_, rfl, rfl, H, ⟨rfl⟩, ⟨by decide, by decide, by decide⟩, HK, HI⟩
  case round =>
    clear H HI HK
    obtain ⟨u, i, at1, rfl, rfl, HA, HK1, HU, HK, HI⟩ := hrel
    have h2 : wr.cell? ⟨g, 2, none⟩ = some (.bool false) := (blk_cell HI.out 2).trans rfl
    go_wp2_with fail
    have hU := HU.out
    cases hd : b.drop at1 with
    | nil =>
      have hR := HA.out
      rw [hd] at hR
      simp only [numP] at hR
      subst hR
      have hge : b.length ≤ at1 := by
        rcases Nat.lt_or_ge at1 b.length with h | h
        · rw [List.drop_eq_getElem_cons h] at hd
          cases hd
        · exact h
      refine (next_end w0 wr g A c b at1 false HS.out HI.out HK.out.2 hge).mono ?_
      rintro e W2 ⟨rfl, hi2, hk2⟩
      have HI2 := Aside0.mk hi2
      have HK2 := Aside0.mk (HK.out.then_ hk2)
      have h2 : W2.cell? ⟨g, 2, none⟩ = some (.bool true) := (blk_cell hi2 2).trans rfl
      have hf := fun j => blk_frozen hi2 j
      clear hi2 hk2 hge hd
      by_cases i0 : i = 0
      · have e9 : ((i : Int) == 9) = false := by simp; omega
        have ei : decide (0 < i) = false := by simp; omega
        have h70 : ¬ wrap64 (7 * (i : Int)) < 0 := by rw [IntWalk.wrap64_in _ (by omega)]; omega
        clear i0 hU
        go_wp2
        refine bodyPost_ret (v := .int .u64 (IntKind.u64.wrap u)) (by simp [results, Try.results45, go_sem]) rfl ⟨HK2.out, _, _, rfl, HI2.out⟩
      by_cases i9 : i = 9
      · have e9 : ((i : Int) == 9) = true := by simp; omega
        have ei : decide (0 < i) = true := by simp; omega
        clear i0 hU
        go_wp2
        refine bodyPost_ret (v := .int .u64 0) (by simp [results, Try.results45, go_sem]) rfl ⟨HK2.out.set HS.out.hg, _, _, rfl, blk_put HI2.out 2 (.bool true) rfl⟩
      · have e9 : ((i : Int) == 9) = false := by simp; omega
        have ei : decide (0 < i) = true := by simp; omega
        clear i0 hU
        go_wp2
        refine bodyPost_ret (v := .int .u64 0) (by simp [results, Try.results45, go_sem]) rfl ⟨HK2.out.set HS.out.hg, _, _, rfl, blk_put HI2.out 2 (.bool true) rfl⟩
    | cons x r =>
      have hR := HA.out
      rw [hd] at hR
      have hlt : at1 < b.length := by
        rcases Nat.lt_or_ge at1 b.length with h | h
        · exact h
        · rw [List.drop_eq_nil_of_le h] at hd
          cases hd
      have hdr : b.drop (at1 + 1) = r := by
        rw [List.drop_eq_getElem_cons hlt] at hd
        injection hd
      have hxb : 0 ≤ x ∧ x < 256 := HS.out.hb x (by
        have : x ∈ b.drop at1 := by rw [hd]; simp
        exact List.mem_of_mem_drop this)
      refine (next_ok w0 wr g A c b at1 false HS.out HI.out HK.out.2 x r hd).mono ?_
      rintro e W2 ⟨rfl, hi2, hk2⟩
      have HI2 := Aside0.mk hi2
      have HK2 := Aside0.mk (HK.out.then_ hk2)
      have h2' : W2.cell? ⟨g, 2, none⟩ = some (.bool false) := (blk_cell hi2 2).trans rfl
      have hf := fun j => blk_frozen hi2 j
      have h70 : ¬ wrap64 (7 * (i : Int)) < 0 := by rw [IntWalk.wrap64_in _ (by omega)]; omega
      have hw : Value.int .i64 (wrap64 ((i : Int) + 1)) = .int .i64 ((i + 1 : Nat) : Int) := by rw [IntWalk.wrap64_in _ (by omega)]; rfl
      clear hi2 hk2 hd h2
      unfold numP at hR
      by_cases hok : (i = 0 ∨ x ≠ 0) ∧ (i < 9 ∨ x ≤ 1)
      case neg =>
        rw [if_neg hok] at hR
        subst hR
        by_cases i9 : i = 9
        · by_cases x1 : 1 < x
          · skip
            have e9 : ((i : Int) == 9) = true := by simp; omega
            have ex : decide (1 < x) = true := by simp; omega
            (try clear hlt); (try clear hxb); (try clear i9); (try clear i0); (try clear x1); (try clear x0); (try clear hok); (try clear hx); (try clear hdg); (try clear hU)
            go_wp2
            refine bodyPost_ret (v := .int .u64 0) (by simp [results, Try.results45, go_sem]) rfl ⟨HK2.out.set HS.out.hg, _, _, rfl, blk_put HI2.out 2 (.bool true) rfl⟩
          · have x0 : x = 0 := by omega
            have e9 : ((i : Int) == 9) = true := by simp; omega
            have ex : decide (1 < x) = false := by simp; omega
            have ei : decide (0 < i) = true := by simp; omega
            have ez : (x == 0) = true := by simp; omega
            (try clear hlt); (try clear hxb); (try clear i9); (try clear i0); (try clear x1); (try clear x0); (try clear hok); (try clear hx); (try clear hdg); (try clear hU)
            go_wp2
            refine bodyPost_ret (v := .int .u64 0) (by simp [results, Try.results45, go_sem]) rfl ⟨HK2.out.set HS.out.hg, _, _, rfl, blk_put HI2.out 2 (.bool true) rfl⟩
        · have x0 : x = 0 := by omega
          have e9 : ((i : Int) == 9) = false := by simp; omega
          have ei : decide (0 < i) = true := by simp; omega
          have ez : (x == 0) = true := by simp; omega
          (try clear hlt); (try clear hxb); (try clear i9); (try clear i0); (try clear x1); (try clear x0); (try clear hok); (try clear hx); (try clear hdg); (try clear hU)
          go_wp2
          refine bodyPost_ret (v := .int .u64 0) (by simp [results, Try.results45, go_sem]) rfl ⟨HK2.out.set HS.out.hg, _, _, rfl, blk_put HI2.out 2 (.bool true) rfl⟩
      rw [if_pos hok] at hR
      have HLT2 := Aside0.mk (show at1 + 1 ≤ b.length from hlt)
      have hdg := rdigit_eq u i x hU.2.1 hU.2.2 hU.1 hxb.1 hxb.2 hok.2
      have hdig := hdg.1
      by_cases hx : x < 128
      case pos =>
        rw [if_pos hx] at hR
        subst hR
        by_cases i9 : i = 9
        · skip
          have e9 : ((i : Int) == 9) = true := by simp; omega
          have ex : decide (1 < x) = false := by simp; omega
          have ei : decide (0 < i) = true := by simp; omega
          have ez : (x == 0) = false := by simp; omega
          have el : decide (x < 128) = true := by simp; omega
          (try clear hlt); (try clear hxb); (try clear i9); (try clear i0); (try clear x1); (try clear x0); (try clear hok); (try clear hx); (try clear hdg); (try clear hU)
          go_wp2
          refine bodyPost_ret (v := .int .u64 (digitP u i x)) (by simp [results, Try.results45, go_sem, hdig]) rfl ⟨HK2.out, _, rfl, HI2.out, hdr, HLT2.out⟩
        · by_cases i0 : i = 0
          · skip
            have e9 : ((i : Int) == 9) = false := by simp; omega
            have ei : decide (0 < i) = false := by simp; omega
            have el : decide (x < 128) = true := by simp; omega
            (try clear hlt); (try clear hxb); (try clear i9); (try clear i0); (try clear x1); (try clear x0); (try clear hok); (try clear hx); (try clear hdg); (try clear hU)
            go_wp2
            refine bodyPost_ret (v := .int .u64 (digitP u i x)) (by simp [results, Try.results45, go_sem, hdig]) rfl ⟨HK2.out, _, rfl, HI2.out, hdr, HLT2.out⟩
          · skip
            have e9 : ((i : Int) == 9) = false := by simp; omega
            have ei : decide (0 < i) = true := by simp; omega
            have ez : (x == 0) = false := by simp; omega
            have el : decide (x < 128) = true := by simp; omega
            (try clear hlt); (try clear hxb); (try clear i9); (try clear i0); (try clear x1); (try clear x0); (try clear hok); (try clear hx); (try clear hdg); (try clear hU)
            go_wp2
            refine bodyPost_ret (v := .int .u64 (digitP u i x)) (by simp [results, Try.results45, go_sem, hdig]) rfl ⟨HK2.out, _, rfl, HI2.out, hdr, HLT2.out⟩
      rw [if_neg hx] at hR
      have hlt2 := hdg.2.resolve_left hx
      by_cases i0 : i = 0
      · skip
        have e9 : ((i : Int) == 9) = false := by simp; omega
        have ei : decide (0 < i) = false := by simp; omega
        have el : decide (x < 128) = false := by simp; omega
        have hi9 : Aside0 (i < 9 ∧ at1 < b.length) := ⟨by omega⟩
        (try clear hlt); (try clear hxb); (try clear i9); (try clear i0); (try clear x1); (try clear x0); (try clear hok); (try clear hx); (try clear hdg); (try clear hU)
        go_wp2_with fail
        go_roundg (b.length - (at1 + 1))
        case measure => have := HK1.out; have := hi9.out; omega
        case rel => exact ⟨digitP u i x, i + 1, at1 + 1, rfl, hw, ⟨by rw [hdr]; exact hR⟩, ⟨rfl⟩, ⟨by have := hi9.out; omega, (digitP_range u i x).1, hlt2⟩, HK2, HI2⟩
      · skip
        have e9 : ((i : Int) == 9) = false := by simp; omega
        have ei : decide (0 < i) = true := by simp; omega
        have ez : (x == 0) = false := by simp; omega
        have el : decide (x < 128) = false := by simp; omega
        have hi9 : Aside0 (i < 9 ∧ at1 < b.length) := ⟨by omega⟩
        (try clear hlt); (try clear hxb); (try clear i9); (try clear i0); (try clear x1); (try clear x0); (try clear hok); (try clear hx); (try clear hdg); (try clear hU)
        go_wp2_with fail
        go_roundg (b.length - (at1 + 1))
        case measure => have := HK1.out; have := hi9.out; omega
        case rel => exact ⟨digitP u i x, i + 1, at1 + 1, rfl, hw, ⟨by rw [hdr]; exact hR⟩, ⟨rfl⟩, ⟨by have := hi9.out; omega, (digitP_range u i x).1, hlt2⟩, HK2, HI2⟩
end Go.Proofs.Ytncejmjicjlanaa.Q
