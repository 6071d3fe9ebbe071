/- Contract of codec.Encode: Check's answer, and the encoding encP where it is OK; nothing that was there changes, the bytes are new. Conditions: the value's lists read as told, the encoding is no longer than memory holds. -/
import Derived.Test.YtncejmjicjlanaaQ2
import Derived.Test.YtncejmjicjlanaaHandWriteL
import Derived.Laws.EntriesVeiled
namespace Go.Proofs.Ytncejmjicjlanaa.Q
open Go.RowKit Go.Proofs.YtncejmjicjlanaaW.PrintWords Go.Proofs.YtncejmjicjlanaaW.PrintLast Go.Proofs.YtncejmjicjlanaaW.PrintMore
set_option linter.unusedVariables false
set_option linter.unusedSimpArgs false
theorem wfL_of : ∀ (L : List S24), (∀ v ∈ L, wfP v = true) → wfL L = true
  | [], _ => rfl
  | v :: L, h => by
    unfold wfL
    rw [Bool.and_eq_true]
    exact ⟨h v (by simp), wfL_of L (fun x hx => h x (by simp [hx]))⟩
theorem encL_mem : ∀ {L : List S24} {v : S24}, v ∈ L → (encP v).length ≤ (encL L).length
  | [], _, h => by cases h
  | x :: L, v, h => by
    unfold encL
    rw [List.length_append]
    rcases List.mem_cons.1 h with rfl | h
    · omega
    · have := encL_mem h
      omega
theorem s24_eta (v : S24) : (⟨v.f0, v.f1, v.f2, v.f3⟩ : S24) = v := by cases v; rfl
theorem formed_wf : ∀ k, (∀ (K N : Int) (S : ByteArray) (L : List S24) (d : Int), (encP ⟨K, N, S, L⟩).length < 140737487000000 → codec_formed.f k K N S L = some (d, true) → wfP ⟨K, N, S, L⟩ = true) ∧ (∀ (L : List S24) (i : Nat) (d0 d : Int), (encL L).length < 140737487000000 → codec_formed.l0 k L (i : Int) d0 = some (d, true) → ∀ j, i ≤ j → ∀ (h : j < L.length), wfP L[j] = true)
  | 0 => ⟨fun _ _ _ _ _ _ h => by simp [codec_formed.f] at h, fun _ _ _ _ _ h => by simp [codec_formed.l0] at h⟩
  | k + 1 => by
    obtain ⟨ih0, ih1⟩ := formed_wf k
    refine ⟨?_, ?_⟩
    · intro K N S L d hl h
      unfold codec_formed.f at h
      by_cases hu : usedB K N S L = true
      · rw [if_pos hu] at h
        by_cases k3 : K = 3
        · subst k3
          rw [if_neg (by omega)] at h
          have hl2 : (encL L).length < 140737487000000 := by
            unfold encP at hl
            rw [if_neg (by decide), if_neg (by decide)] at hl
            simp at hl
            omega
          unfold wfP
          rw [if_pos rfl]
          refine wfL_of L (fun v hv => ?_)
          obtain ⟨j, hj, rfl⟩ := List.getElem_of_mem hv
          exact ih1 L 0 0 d hl2 h j (by omega) hj
        · unfold wfP
          rw [if_neg k3]
          unfold usedB at hu
          by_cases k1 : K = 1
          · simp [k1]
          · rw [if_neg k1] at hu
            by_cases k2 : K = 2
            · simp [k2]
            · rw [if_neg k2, if_neg k3] at hu
              cases hu
      · rw [if_neg hu] at h
        injection h with h
        injection h with _ h
        cases h
    · intro L i d0 d hl h j hij hj
      unfold codec_formed.l0 at h
      have hlen := encL_len L
      have hi : (i : Int) < (L.length : Int) := by omega
      rw [if_pos hi, if_pos (by omega)] at h
      obtain ⟨⟨n, ok⟩, hf, h⟩ := Option.bind_eq_some_iff.mp h
      cases ok
      · rw [if_neg (by simp)] at h
        injection h with h
        injection h with _ h
        cases h
      · rw [if_pos rfl] at h
        have hrd : rd_T24 L (i : Int) = L[i]'(by omega) := by simp [rd_T24, List.getD, List.getElem?_eq_getElem (show i < L.length by omega)]
        by_cases e : i = j
        · subst e
          rw [hrd] at hf
          have := encL_mem (List.getElem_mem hj)
          have h7 := ih0 _ _ _ _ n (by rw [s24_eta]; omega) hf
          rwa [s24_eta] at h7
        · rw [IntWalk.wrap64_in _ (by omega)] at h
          exact ih1 L (i + 1) _ d hl h j (by omega) hj
theorem write_calls : ∀ n, WriteOk n
  | 0 => fun v _ _ _ _ _ _ _ _ _ h => absurd h (by omega)
  | n + 1 => by
    intro v p gw A c P0 u l0 w0 w hs hwf hB hu hW hp hg hr hc hl
    obtain ⟨K, N, S, L⟩ := v
    simp only at hr hc
    have hk3 : K = 1 ∨ K = 2 ∨ K = 3 := by
      unfold wfP at hwf
      by_cases h : K = 3
      · exact .inr (.inr h)
      · rw [if_neg h] at hwf
        simp at hwf
        omega
    rcases hk3 with rfl | rfl | rfl
    · have e : encP ⟨1, N, S, L⟩ = 1 :: numl (unsP N) := by simp [encP]
      rw [e] at hl ⊢
      have h := write_int 1 N S A c L P0 u l0 w0 w hB hu hl
      simpa [fnOf, capOf] using h
    · have e : encP ⟨2, N, S, L⟩ = 2 :: (numl (S.size : Int) ++ bytesOf S) := by simp [encP]
      rw [e] at hl ⊢
      have h := write_text 2 N S A c L P0 u l0 w0 w hB hu hl
      simpa [fnOf, capOf] using h
    · have e : encP ⟨3, N, S, L⟩ = 3 :: (numl (L.length : Int) ++ encL L) := by simp [encP]
      rw [e] at hl ⊢
      have hw2 : wfL L = true := by simpa [wfP] using hwf
      have h := write_list n (write_calls n) N S A c L p gw P0 u l0 w0 w (by rw [S24.mk.sizeOf_spec] at hs; omega) hw2 hB hu hW hp hg hr hc hl
      simpa [fnOf, capOf] using h
set_option maxHeartbeats 4000000 in
set_option maxRecDepth 100000 in
theorem newWriter_calls (w : World) : Calls Try.prog 22 #[] w fun e w' => ∃ p gw, e = .returned (.pointer (some ⟨gw, 0, none⟩)) ∧ IsWr w' p gw ∧ Below w.heap.size w w' ∧ w.heap.size ≤ p ∧ w.heap.size ≤ gw := by
  have hmf : ∀ (fn : Fn) (first cap : Array Value) (w : World), (Instr.makeFunc fn first cap).run Try.prog w = .ok (.func fn first cap) w := fun _ _ _ _ => rfl
  have hu64 := Try.underlying64
  have hu47 := Try.underlying47
  go_enter Try.func22, Try.ntmps22
  go_wp2
  have hT := blk_alloc (blk_new w (.cells #[.nilFunc, .func (.func 33) #[] #[], .func (.func 36) #[] #[], .func (.func 37) #[] #[.pointer (some ⟨w.heap.size + 1, 0, none⟩)]] 64)) (.cells #[.pointer (some ⟨w.heap.size, 0, none⟩)] 48)
  have hP := blk_new (w.alloc (.cells #[.nilFunc, .func (.func 33) #[] #[], .func (.func 36) #[] #[], .func (.func 37) #[] #[.pointer (some ⟨w.heap.size + 1, 0, none⟩)]] 64)) (.cells #[.pointer (some ⟨w.heap.size, 0, none⟩)] 48)
  rw [World.size_alloc] at hP
  refine bodyPost_ret (v := .pointer (some ⟨w.heap.size, 0, none⟩)) (by simp [results, Try.results22, go_sem]) rfl ?_
  exact ⟨w.heap.size + 1, w.heap.size, rfl, ⟨hP, hT⟩, below_alloc (below_alloc (Below.refl w.heap.size w) (.cells #[.nilFunc, .func (.func 33) #[] #[], .func (.func 36) #[] #[], .func (.func 37) #[] #[.pointer (some ⟨w.heap.size + 1, 0, none⟩)]] 64)) (.cells #[.pointer (some ⟨w.heap.size, 0, none⟩)] 48), by omega, Nat.le_refl _⟩
def codec_Encode.f (k : Nat) (a0_0 : Int) (a0_1 : Int) (a0_2 : ByteArray) (l0_3 : List (S24)) : Option (List Int × Int) := if (encP ⟨a0_0, a0_1, a0_2, l0_3⟩).length < 140737487000000 then (codec_Check.f k a0_0 a0_1 a0_2 l0_3).bind fun t => (if t = 0 then some (encP ⟨a0_0, a0_1, a0_2, l0_3⟩, 0) else some (([] : List Int), t)) else none
theorem codec_Encode.mono : ∀ a0 a1 a2 a3 k, LeO (codec_Encode.f k a0 a1 a2 a3) (codec_Encode.f (k + 1) a0 a1 a2 a3) := fun a0 a1 a2 a3 k => LeO.ite (LeO.bind (codec_Check.mono a0 a1 a2 a3 k) (fun _ => LeO.refl _)) (LeO.refl _)
theorem check_wf {k : Nat} {K N : Int} {S : ByteArray} {L : List S24} (hl : (encP ⟨K, N, S, L⟩).length < 140737487000000) (h : codec_Check.f k K N S L = some 0) : wfP ⟨K, N, S, L⟩ = true := by
  unfold codec_Check.f at h
  obtain ⟨⟨n, ok⟩, hf, h⟩ := Option.bind_eq_some_iff.mp h
  cases ok
  · simp at h
  · exact (formed_wf k).1 K N S L n hl hf
set_option maxHeartbeats 4000000 in
set_option maxRecDepth 100000 in
theorem encode_walk (k : Nat) (K N : Int) (S : ByteArray) (A : Option Addr) (c : Nat) (L : List S24) (t : Int) (w : World) (hr : Kd.C k24 w A L.length L) (hc : L.length ≤ c) (hl : (encP ⟨K, N, S, L⟩).length < 140737487000000) (h : codec_Check.f k K N S L = some t) :
    Calls Try.prog 8 #[.agg #[.int .i64 K, .int .i64 N, .string S, .slice A L.length c]] w fun e w' => ∃ v0_ : Value, e = .returned (.tuple #[v0_, .int .i64 t]) ∧ Kd.R (Kd.int .u8) 5 w' w.heap.size (fun _ => True) v0_ (if t = 0 then encP ⟨K, N, S, L⟩ else []) ∧ Below w.heap.size w w' := by
  have hu24 := Try.underlying24
  have hu64 := Try.underlying64
  have hu47 := Try.underlying47
  have HR := Aside0.mk hr
  have HC := Aside0.mk hc
  have HL := Aside0.mk hl
  have H := Aside0.mk h
  clear hr hc hl h
  go_enter Try.func8, Try.ntmps8
  go_wp2_with fail
  have hb1 := below_alloc (Below.refl w.heap.size w) (.cells #[.int .i64 K, .int .i64 N, .string S, .slice A L.length c] 24)
  have hx1 := blk_new w (.cells #[.int .i64 K, .int .i64 N, .string S, .slice A L.length c] 24)
  generalize w.alloc (.cells #[.int .i64 K, .int .i64 N, .string S, .slice A L.length c] 24) = W0 at *
  refine (codec_Check.calls k K N S A c L t W0 (Kd.C_below HR.out hb1) HC.out H.out).mono ?_
  rintro e W1 ⟨rfl, hb⟩
  have BX := Aside0.mk (blk_below hx1 hb)
  have HB := Aside0.mk (hb1.trans (hb.mono hb1.size))
  clear hb1 hx1 hb
  by_cases ht : t = 0
  case neg =>
    have hn : (t != 0) = true := by simpa using ht
    go_wp2
    refine bodyPost_ret (v := .tuple #[.slice none 0 0, .int .i64 t]) (by simp [results, Try.results8, go_sem]) rfl ⟨_, rfl, ?_, HB.out⟩
    first | exact Kd.R_nil _ _ _ _ _ | (rw [if_neg ht]; exact Kd.R_nil _ _ _ _ _)
  subst ht
  have hwf := check_wf HL.out H.out
  have HWF := Aside0.mk hwf
  have hk3 : K = 1 ∨ K = 2 ∨ K = 3 := by
    unfold wfP at hwf
    by_cases h : K = 3
    · exact .inr (.inr h)
    · rw [if_neg h] at hwf
      simp at hwf
      omega
  clear hwf H
  rcases hk3 with rfl | rfl | rfl
  · go_wp2_with fail
    replace BX := Aside0.mk (blk_drew BX.out)
    replace HB := Aside0.mk (below_drew1 HB.out)
    refine start_ (n := 11) (S := fun w' => w'.cell? ⟨w.heap.size, 0, none⟩ = some (.int .i64 1) ∧ w'.cell? ⟨w.heap.size, 1, none⟩ = some (.int .i64 N) ∧ w'.cell? ⟨w.heap.size, 2, none⟩ = some (.string S) ∧ w'.cell? ⟨w.heap.size, 3, none⟩ = some (.slice A L.length c)) (ds := [8]) #[false, false, false, false, false, false, false, false, false, false, false] (by kernel_rfl) rfl rfl ⟨((blk_cell BX.out 0).trans rfl), ((blk_cell BX.out 1).trans rfl), ((blk_cell BX.out 2).trans rfl), ((blk_cell BX.out 3).trans rfl)⟩ (fun hHeld => ?_)
    generalize W1.drew = W2 at BX HB hHeld ⊢
    refine pure_ (i := 1) (N := some 11) (v := ?_) (a' := ?_) #[false, true, false, false, false, false, false, false, false, false, false] rfl rfl (by kernel_rfl) (fun _ _ _ h => h) (Or.inl ⟨by rfl, ?_⟩) ?_ ?_
    rotate_left
    · intro w'
      go_simp
      with_reducible rfl
    rotate_left
    · simp only [Act.put, List.setIfInBounds_toArray, List.set_cons_zero, List.set_cons_succ, i64_w, i32_w]
      rfl
    refine take_ (i := 2) (N := some 12) (v := ?_) (a' := ?_) #[false, true, true, false, false, false, false, false, false, false, false] rfl rfl (by kernel_rfl) (fun _ _ _ h => h) (Or.inl ⟨by rfl, ?_⟩) hHeld ?_ ?_
    rotate_left
    · rintro w' ⟨s0, s1, s2, s3⟩
      go_simp
      with_reducible rfl
    rotate_left
    · simp only [Act.put, List.setIfInBounds_toArray, List.set_cons_zero, List.set_cons_succ, i64_w, i32_w]
      rfl
    refine take_ (i := 7) (N := some 17) (v := ?_) (a' := ?_) #[false, true, true, false, false, false, false, true, false, false, false] rfl rfl (by kernel_rfl) (fun _ _ _ h => h) (Or.inl ⟨by rfl, ?_⟩) hHeld ?_ ?_
    rotate_left
    · rintro w' ⟨s0, s1, s2, s3⟩
      go_simp
      with_reducible rfl
    rotate_left
    · simp only [Act.put, List.setIfInBounds_toArray, List.set_cons_zero, List.set_cons_succ, i64_w, i32_w]
      rfl
    refine one_ (i := 0) (N := some 10) #[true, true, true, false, false, false, false, true, false, false, false] rfl rfl (by kernel_rfl) (by decide) (fun K hK => ?_)
    refine goes_ Try.func22 (by kernel_rfl) rfl #[] (by rfl) rfl rfl (by simp) ?_
    refine (newWriter_calls W2).mono ?_
    rintro e W3 ⟨p, gw, rfl, hW3, hb3, hp3, hg3⟩
    have BX3 := Aside0.mk (blk_below BX.out hb3)
    have HB3 := Aside0.mk (HB.out.trans (hb3.mono HB.out.size))
    have HW3 := Aside0.mk hW3
    have hgw : W3.cell? ⟨gw, 1, none⟩ = some (.func (.func 33) #[] #[]) := (blk_cell hW3.2 1).trans rfl
    clear hW3 hb3 hp3 hg3 BX HB
    refine ⟨_, rfl, ?_⟩
    refine hK.out _ _ ⟨((blk_cell BX3.out 0).trans rfl), ((blk_cell BX3.out 1).trans rfl), ((blk_cell BX3.out 2).trans rfl), ((blk_cell BX3.out 3).trans rfl)⟩ (fun hHeld => ?_)
    clear hK K
    refine norm_ (a' := ?_) ?_ ?_
    rotate_left
    · show Act.put _ (some 10) _ = _
      simp only [Act.put, List.setIfInBounds_toArray, List.set_cons_zero, List.set_cons_succ, i64_w, i32_w]
      rfl
    refine pure_ (i := 3) (N := some 13) (v := ?_) (a' := ?_) #[true, true, true, true, false, false, false, true, false, false, false] rfl rfl (by kernel_rfl) (fun _ _ _ h => h) (Or.inl ⟨by rfl, ?_⟩) ?_ ?_
    rotate_left
    · intro w'
      go_simp
      with_reducible rfl
    rotate_left
    · simp only [Act.put, List.setIfInBounds_toArray, List.set_cons_zero, List.set_cons_succ, i64_w, i32_w]
      rfl
    refine pure_ (i := 4) (N := some 14) (v := ?_) (a' := ?_) #[true, true, true, true, true, false, false, true, false, false, false] rfl rfl (by kernel_rfl) (fun _ _ _ h => h) (Or.inl ⟨by rfl, ?_⟩) ?_ ?_
    rotate_left
    · intro w'
      go_simp
      with_reducible rfl
    rotate_left
    · simp only [Act.put, List.setIfInBounds_toArray, List.set_cons_zero, List.set_cons_succ, i64_w, i32_w]
      rfl
    refine pure_ (i := 5) (N := some 15) (v := ?_) (a' := ?_) #[true, true, true, true, true, true, false, true, false, false, false] rfl rfl (by kernel_rfl) (fun _ _ _ h => h) (Or.inl ⟨by rfl, ?_⟩) ?_ ?_
    rotate_left
    · intro w'
      go_simp
      with_reducible rfl
    rotate_left
    · simp only [Act.put, List.setIfInBounds_toArray, List.set_cons_zero, List.set_cons_succ, i64_w, i32_w]
      rfl
    refine one_ (i := 6) (N := some 16) #[true, true, true, true, true, true, true, true, false, false, false] rfl rfl (by kernel_rfl) (by decide) (fun K hK => ?_)
    refine value_ (w1 := ?_) (v := ?_) (by rfl) rfl ?_ ?_
    rotate_left 2
    · go_simp
      constructor
      · rfl
      · rfl
    refine hK.out _ _ ⟨((blk_cell BX3.out 0).trans rfl), ((blk_cell BX3.out 1).trans rfl), ((blk_cell BX3.out 2).trans rfl), ((blk_cell BX3.out 3).trans rfl)⟩ (fun hHeld => ?_)
    clear hK K
    refine norm_ (a' := ?_) ?_ ?_
    rotate_left
    · show Act.put _ (some 16) _ = _
      simp only [Act.put, List.setIfInBounds_toArray, List.set_cons_zero, List.set_cons_succ, i64_w, i32_w]
      rfl
    refine last_ (i := 8) (N := some 18) #[true, true, true, true, true, true, true, true, true, false, false] rfl rfl (by kernel_rfl) (by decide) (fun K hK => ?_)
    have hcall : Calls Try.prog 33 #[.slice none 0 0, .agg #[.int .i64 1, .int .i64 N, .string S, .slice A L.length c]] W3 (WPost w W3 (fun _ => False) (encP ⟨1, N, S, L⟩)) := by
      have h := write_calls _ ⟨1, N, S, L⟩ p gw A c (fun _ => False) (.slice none 0 0) [] w W3 (Nat.lt_succ_self _) HWF.out HB3.out (Kd.R_nil _ _ _ _ _) HW3.out (fun h => h) (fun h => h) HR.out HC.out (by simpa using HL.out)
      simpa [fnOf, capOf] using h
    refine goesF_ (by rfl) (by rfl) Try.func33 (by kernel_rfl) rfl #[.slice none 0 0, .agg #[.int .i64 1, .int .i64 N, .string S, .slice A L.length c]] (by rfl) (by rfl) (by simp only [List.map_toArray, List.map_cons, List.map_nil]; rfl) ?_
    refine hcall.mono ?_
    rintro e W9 ⟨u9, rfl, ho9, hb9, hk9⟩
    have HO9 := Aside0.mk ho9
    have HB9 := Aside0.mk hb9
    clear ho9 hb9 hk9 hcall
    refine ⟨_, rfl, ?_⟩
    refine hK.out _ _ ?_
    clear hK K
    refine norm_ (a' := ?_) ?_ ?_
    rotate_left
    · show Act.put _ (some 18) _ = _
      simp only [Act.put, List.setIfInBounds_toArray, List.set_cons_zero, List.set_cons_succ, i64_w, i32_w]
      rfl
    refine pure_ (i := 9) (N := some 2) (v := ?_) (a' := ?_) #[true, true, true, true, true, true, true, true, true, true, false] rfl rfl (by kernel_rfl) (fun _ _ _ h => h) (Or.inl ⟨by rfl, ?_⟩) ?_ ?_
    rotate_left
    · intro w'
      go_simp
      with_reducible rfl
    rotate_left
    · simp only [Act.put, List.setIfInBounds_toArray, List.set_cons_zero, List.set_cons_succ, i64_w, i32_w]
      rfl
    refine pure_ (i := 10) (N := some 3) (v := ?_) (a' := ?_) #[true, true, true, true, true, true, true, true, true, true, true] rfl rfl (by kernel_rfl) (fun _ _ _ h => h) (Or.inl ⟨by rfl, ?_⟩) ?_ ?_
    rotate_left
    · intro w'
      go_simp
      with_reducible rfl
    rotate_left
    · simp only [Act.put, List.setIfInBounds_toArray, List.set_cons_zero, List.set_cons_succ, i64_w, i32_w]
      rfl
    refine done_ (by kernel_rfl) ?_
    go_wp2
    refine bodyPost_ret (v := .tuple #[u9, .int .i64 0]) (by simp [results, Try.results8, go_sem]) rfl ⟨u9, rfl, ?_, HB9.out⟩
    first | exact Kd.R_mono HO9.out (fun _ _ => trivial) | (rw [if_pos rfl]; exact Kd.R_mono HO9.out (fun _ _ => trivial))
  · go_wp2_with fail
    replace BX := Aside0.mk (blk_drew BX.out)
    replace HB := Aside0.mk (below_drew1 HB.out)
    refine start_ (n := 11) (S := fun w' => w'.cell? ⟨w.heap.size, 0, none⟩ = some (.int .i64 2) ∧ w'.cell? ⟨w.heap.size, 1, none⟩ = some (.int .i64 N) ∧ w'.cell? ⟨w.heap.size, 2, none⟩ = some (.string S) ∧ w'.cell? ⟨w.heap.size, 3, none⟩ = some (.slice A L.length c)) (ds := [8]) #[false, false, false, false, false, false, false, false, false, false, false] (by kernel_rfl) rfl rfl ⟨((blk_cell BX.out 0).trans rfl), ((blk_cell BX.out 1).trans rfl), ((blk_cell BX.out 2).trans rfl), ((blk_cell BX.out 3).trans rfl)⟩ (fun hHeld => ?_)
    generalize W1.drew = W2 at BX HB hHeld ⊢
    refine pure_ (i := 1) (N := some 11) (v := ?_) (a' := ?_) #[false, true, false, false, false, false, false, false, false, false, false] rfl rfl (by kernel_rfl) (fun _ _ _ h => h) (Or.inl ⟨by rfl, ?_⟩) ?_ ?_
    rotate_left
    · intro w'
      go_simp
      with_reducible rfl
    rotate_left
    · simp only [Act.put, List.setIfInBounds_toArray, List.set_cons_zero, List.set_cons_succ, i64_w, i32_w]
      rfl
    refine take_ (i := 2) (N := some 12) (v := ?_) (a' := ?_) #[false, true, true, false, false, false, false, false, false, false, false] rfl rfl (by kernel_rfl) (fun _ _ _ h => h) (Or.inl ⟨by rfl, ?_⟩) hHeld ?_ ?_
    rotate_left
    · rintro w' ⟨s0, s1, s2, s3⟩
      go_simp
      with_reducible rfl
    rotate_left
    · simp only [Act.put, List.setIfInBounds_toArray, List.set_cons_zero, List.set_cons_succ, i64_w, i32_w]
      rfl
    refine take_ (i := 7) (N := some 17) (v := ?_) (a' := ?_) #[false, true, true, false, false, false, false, true, false, false, false] rfl rfl (by kernel_rfl) (fun _ _ _ h => h) (Or.inl ⟨by rfl, ?_⟩) hHeld ?_ ?_
    rotate_left
    · rintro w' ⟨s0, s1, s2, s3⟩
      go_simp
      with_reducible rfl
    rotate_left
    · simp only [Act.put, List.setIfInBounds_toArray, List.set_cons_zero, List.set_cons_succ, i64_w, i32_w]
      rfl
    refine one_ (i := 0) (N := some 10) #[true, true, true, false, false, false, false, true, false, false, false] rfl rfl (by kernel_rfl) (by decide) (fun K hK => ?_)
    refine goes_ Try.func22 (by kernel_rfl) rfl #[] (by rfl) rfl rfl (by simp) ?_
    refine (newWriter_calls W2).mono ?_
    rintro e W3 ⟨p, gw, rfl, hW3, hb3, hp3, hg3⟩
    have BX3 := Aside0.mk (blk_below BX.out hb3)
    have HB3 := Aside0.mk (HB.out.trans (hb3.mono HB.out.size))
    have HW3 := Aside0.mk hW3
    have hgw : W3.cell? ⟨gw, 2, none⟩ = some (.func (.func 36) #[] #[]) := (blk_cell hW3.2 2).trans rfl
    clear hW3 hb3 hp3 hg3 BX HB
    refine ⟨_, rfl, ?_⟩
    refine hK.out _ _ ⟨((blk_cell BX3.out 0).trans rfl), ((blk_cell BX3.out 1).trans rfl), ((blk_cell BX3.out 2).trans rfl), ((blk_cell BX3.out 3).trans rfl)⟩ (fun hHeld => ?_)
    clear hK K
    refine norm_ (a' := ?_) ?_ ?_
    rotate_left
    · show Act.put _ (some 10) _ = _
      simp only [Act.put, List.setIfInBounds_toArray, List.set_cons_zero, List.set_cons_succ, i64_w, i32_w]
      rfl
    refine pure_ (i := 3) (N := some 13) (v := ?_) (a' := ?_) #[true, true, true, true, false, false, false, true, false, false, false] rfl rfl (by kernel_rfl) (fun _ _ _ h => h) (Or.inl ⟨by rfl, ?_⟩) ?_ ?_
    rotate_left
    · intro w'
      go_simp
      with_reducible rfl
    rotate_left
    · simp only [Act.put, List.setIfInBounds_toArray, List.set_cons_zero, List.set_cons_succ, i64_w, i32_w]
      rfl
    refine pure_ (i := 4) (N := some 14) (v := ?_) (a' := ?_) #[true, true, true, true, true, false, false, true, false, false, false] rfl rfl (by kernel_rfl) (fun _ _ _ h => h) (Or.inl ⟨by rfl, ?_⟩) ?_ ?_
    rotate_left
    · intro w'
      go_simp
      with_reducible rfl
    rotate_left
    · simp only [Act.put, List.setIfInBounds_toArray, List.set_cons_zero, List.set_cons_succ, i64_w, i32_w]
      rfl
    refine pure_ (i := 5) (N := some 15) (v := ?_) (a' := ?_) #[true, true, true, true, true, true, false, true, false, false, false] rfl rfl (by kernel_rfl) (fun _ _ _ h => h) (Or.inl ⟨by rfl, ?_⟩) ?_ ?_
    rotate_left
    · intro w'
      go_simp
      with_reducible rfl
    rotate_left
    · simp only [Act.put, List.setIfInBounds_toArray, List.set_cons_zero, List.set_cons_succ, i64_w, i32_w]
      rfl
    refine one_ (i := 6) (N := some 16) #[true, true, true, true, true, true, true, true, false, false, false] rfl rfl (by kernel_rfl) (by decide) (fun K hK => ?_)
    refine value_ (w1 := ?_) (v := ?_) (by rfl) rfl ?_ ?_
    rotate_left 2
    · go_simp
      constructor
      · rfl
      · rfl
    refine hK.out _ _ ⟨((blk_cell BX3.out 0).trans rfl), ((blk_cell BX3.out 1).trans rfl), ((blk_cell BX3.out 2).trans rfl), ((blk_cell BX3.out 3).trans rfl)⟩ (fun hHeld => ?_)
    clear hK K
    refine norm_ (a' := ?_) ?_ ?_
    rotate_left
    · show Act.put _ (some 16) _ = _
      simp only [Act.put, List.setIfInBounds_toArray, List.set_cons_zero, List.set_cons_succ, i64_w, i32_w]
      rfl
    refine last_ (i := 8) (N := some 18) #[true, true, true, true, true, true, true, true, true, false, false] rfl rfl (by kernel_rfl) (by decide) (fun K hK => ?_)
    have hcall : Calls Try.prog 36 #[.slice none 0 0, .agg #[.int .i64 2, .int .i64 N, .string S, .slice A L.length c]] W3 (WPost w W3 (fun _ => False) (encP ⟨2, N, S, L⟩)) := by
      have h := write_calls _ ⟨2, N, S, L⟩ p gw A c (fun _ => False) (.slice none 0 0) [] w W3 (Nat.lt_succ_self _) HWF.out HB3.out (Kd.R_nil _ _ _ _ _) HW3.out (fun h => h) (fun h => h) HR.out HC.out (by simpa using HL.out)
      simpa [fnOf, capOf] using h
    refine goesF_ (by rfl) (by rfl) Try.func36 (by kernel_rfl) rfl #[.slice none 0 0, .agg #[.int .i64 2, .int .i64 N, .string S, .slice A L.length c]] (by rfl) (by rfl) (by simp only [List.map_toArray, List.map_cons, List.map_nil]; rfl) ?_
    refine hcall.mono ?_
    rintro e W9 ⟨u9, rfl, ho9, hb9, hk9⟩
    have HO9 := Aside0.mk ho9
    have HB9 := Aside0.mk hb9
    clear ho9 hb9 hk9 hcall
    refine ⟨_, rfl, ?_⟩
    refine hK.out _ _ ?_
    clear hK K
    refine norm_ (a' := ?_) ?_ ?_
    rotate_left
    · show Act.put _ (some 18) _ = _
      simp only [Act.put, List.setIfInBounds_toArray, List.set_cons_zero, List.set_cons_succ, i64_w, i32_w]
      rfl
    refine pure_ (i := 9) (N := some 2) (v := ?_) (a' := ?_) #[true, true, true, true, true, true, true, true, true, true, false] rfl rfl (by kernel_rfl) (fun _ _ _ h => h) (Or.inl ⟨by rfl, ?_⟩) ?_ ?_
    rotate_left
    · intro w'
      go_simp
      with_reducible rfl
    rotate_left
    · simp only [Act.put, List.setIfInBounds_toArray, List.set_cons_zero, List.set_cons_succ, i64_w, i32_w]
      rfl
    refine pure_ (i := 10) (N := some 3) (v := ?_) (a' := ?_) #[true, true, true, true, true, true, true, true, true, true, true] rfl rfl (by kernel_rfl) (fun _ _ _ h => h) (Or.inl ⟨by rfl, ?_⟩) ?_ ?_
    rotate_left
    · intro w'
      go_simp
      with_reducible rfl
    rotate_left
    · simp only [Act.put, List.setIfInBounds_toArray, List.set_cons_zero, List.set_cons_succ, i64_w, i32_w]
      rfl
    refine done_ (by kernel_rfl) ?_
    go_wp2
    refine bodyPost_ret (v := .tuple #[u9, .int .i64 0]) (by simp [results, Try.results8, go_sem]) rfl ⟨u9, rfl, ?_, HB9.out⟩
    first | exact Kd.R_mono HO9.out (fun _ _ => trivial) | (rw [if_pos rfl]; exact Kd.R_mono HO9.out (fun _ _ => trivial))
  · go_wp2_with fail
    replace BX := Aside0.mk (blk_drew BX.out)
    replace HB := Aside0.mk (below_drew1 HB.out)
    refine start_ (n := 11) (S := fun w' => w'.cell? ⟨w.heap.size, 0, none⟩ = some (.int .i64 3) ∧ w'.cell? ⟨w.heap.size, 1, none⟩ = some (.int .i64 N) ∧ w'.cell? ⟨w.heap.size, 2, none⟩ = some (.string S) ∧ w'.cell? ⟨w.heap.size, 3, none⟩ = some (.slice A L.length c)) (ds := [8]) #[false, false, false, false, false, false, false, false, false, false, false] (by kernel_rfl) rfl rfl ⟨((blk_cell BX.out 0).trans rfl), ((blk_cell BX.out 1).trans rfl), ((blk_cell BX.out 2).trans rfl), ((blk_cell BX.out 3).trans rfl)⟩ (fun hHeld => ?_)
    generalize W1.drew = W2 at BX HB hHeld ⊢
    refine pure_ (i := 1) (N := some 11) (v := ?_) (a' := ?_) #[false, true, false, false, false, false, false, false, false, false, false] rfl rfl (by kernel_rfl) (fun _ _ _ h => h) (Or.inl ⟨by rfl, ?_⟩) ?_ ?_
    rotate_left
    · intro w'
      go_simp
      with_reducible rfl
    rotate_left
    · simp only [Act.put, List.setIfInBounds_toArray, List.set_cons_zero, List.set_cons_succ, i64_w, i32_w]
      rfl
    refine take_ (i := 2) (N := some 12) (v := ?_) (a' := ?_) #[false, true, true, false, false, false, false, false, false, false, false] rfl rfl (by kernel_rfl) (fun _ _ _ h => h) (Or.inl ⟨by rfl, ?_⟩) hHeld ?_ ?_
    rotate_left
    · rintro w' ⟨s0, s1, s2, s3⟩
      go_simp
      with_reducible rfl
    rotate_left
    · simp only [Act.put, List.setIfInBounds_toArray, List.set_cons_zero, List.set_cons_succ, i64_w, i32_w]
      rfl
    refine take_ (i := 7) (N := some 17) (v := ?_) (a' := ?_) #[false, true, true, false, false, false, false, true, false, false, false] rfl rfl (by kernel_rfl) (fun _ _ _ h => h) (Or.inl ⟨by rfl, ?_⟩) hHeld ?_ ?_
    rotate_left
    · rintro w' ⟨s0, s1, s2, s3⟩
      go_simp
      with_reducible rfl
    rotate_left
    · simp only [Act.put, List.setIfInBounds_toArray, List.set_cons_zero, List.set_cons_succ, i64_w, i32_w]
      rfl
    refine one_ (i := 0) (N := some 10) #[true, true, true, false, false, false, false, true, false, false, false] rfl rfl (by kernel_rfl) (by decide) (fun K hK => ?_)
    refine goes_ Try.func22 (by kernel_rfl) rfl #[] (by rfl) rfl rfl (by simp) ?_
    refine (newWriter_calls W2).mono ?_
    rintro e W3 ⟨p, gw, rfl, hW3, hb3, hp3, hg3⟩
    have BX3 := Aside0.mk (blk_below BX.out hb3)
    have HB3 := Aside0.mk (HB.out.trans (hb3.mono HB.out.size))
    have HW3 := Aside0.mk hW3
    have hgw : W3.cell? ⟨gw, 3, none⟩ = some (.func (.func 37) #[] #[.pointer (some ⟨p, 0, none⟩)]) := (blk_cell hW3.2 3).trans rfl
    clear hW3 hb3 hp3 hg3 BX HB
    refine ⟨_, rfl, ?_⟩
    refine hK.out _ _ ⟨((blk_cell BX3.out 0).trans rfl), ((blk_cell BX3.out 1).trans rfl), ((blk_cell BX3.out 2).trans rfl), ((blk_cell BX3.out 3).trans rfl)⟩ (fun hHeld => ?_)
    clear hK K
    refine norm_ (a' := ?_) ?_ ?_
    rotate_left
    · show Act.put _ (some 10) _ = _
      simp only [Act.put, List.setIfInBounds_toArray, List.set_cons_zero, List.set_cons_succ, i64_w, i32_w]
      rfl
    refine pure_ (i := 3) (N := some 13) (v := ?_) (a' := ?_) #[true, true, true, true, false, false, false, true, false, false, false] rfl rfl (by kernel_rfl) (fun _ _ _ h => h) (Or.inl ⟨by rfl, ?_⟩) ?_ ?_
    rotate_left
    · intro w'
      go_simp
      with_reducible rfl
    rotate_left
    · simp only [Act.put, List.setIfInBounds_toArray, List.set_cons_zero, List.set_cons_succ, i64_w, i32_w]
      rfl
    refine pure_ (i := 4) (N := some 14) (v := ?_) (a' := ?_) #[true, true, true, true, true, false, false, true, false, false, false] rfl rfl (by kernel_rfl) (fun _ _ _ h => h) (Or.inl ⟨by rfl, ?_⟩) ?_ ?_
    rotate_left
    · intro w'
      go_simp
      with_reducible rfl
    rotate_left
    · simp only [Act.put, List.setIfInBounds_toArray, List.set_cons_zero, List.set_cons_succ, i64_w, i32_w]
      rfl
    refine pure_ (i := 5) (N := some 15) (v := ?_) (a' := ?_) #[true, true, true, true, true, true, false, true, false, false, false] rfl rfl (by kernel_rfl) (fun _ _ _ h => h) (Or.inl ⟨by rfl, ?_⟩) ?_ ?_
    rotate_left
    · intro w'
      go_simp
      with_reducible rfl
    rotate_left
    · simp only [Act.put, List.setIfInBounds_toArray, List.set_cons_zero, List.set_cons_succ, i64_w, i32_w]
      rfl
    refine one_ (i := 6) (N := some 16) #[true, true, true, true, true, true, true, true, false, false, false] rfl rfl (by kernel_rfl) (by decide) (fun K hK => ?_)
    refine value_ (w1 := ?_) (v := ?_) (by rfl) rfl ?_ ?_
    rotate_left 2
    · go_simp
      constructor
      · rfl
      · rfl
    refine hK.out _ _ ⟨((blk_cell BX3.out 0).trans rfl), ((blk_cell BX3.out 1).trans rfl), ((blk_cell BX3.out 2).trans rfl), ((blk_cell BX3.out 3).trans rfl)⟩ (fun hHeld => ?_)
    clear hK K
    refine norm_ (a' := ?_) ?_ ?_
    rotate_left
    · show Act.put _ (some 16) _ = _
      simp only [Act.put, List.setIfInBounds_toArray, List.set_cons_zero, List.set_cons_succ, i64_w, i32_w]
      rfl
    refine last_ (i := 8) (N := some 18) #[true, true, true, true, true, true, true, true, true, false, false] rfl rfl (by kernel_rfl) (by decide) (fun K hK => ?_)
    have hcall : Calls Try.prog 37 #[.slice none 0 0, .agg #[.int .i64 3, .int .i64 N, .string S, .slice A L.length c], .pointer (some ⟨p, 0, none⟩)] W3 (WPost w W3 (fun _ => False) (encP ⟨3, N, S, L⟩)) := by
      have h := write_calls _ ⟨3, N, S, L⟩ p gw A c (fun _ => False) (.slice none 0 0) [] w W3 (Nat.lt_succ_self _) HWF.out HB3.out (Kd.R_nil _ _ _ _ _) HW3.out (fun h => h) (fun h => h) HR.out HC.out (by simpa using HL.out)
      simpa [fnOf, capOf] using h
    refine goesF_ (by rfl) (by rfl) Try.func37 (by kernel_rfl) rfl #[.slice none 0 0, .agg #[.int .i64 3, .int .i64 N, .string S, .slice A L.length c], .pointer (some ⟨p, 0, none⟩)] (by rfl) (by rfl) (by simp only [List.map_toArray, List.map_cons, List.map_nil]; rfl) ?_
    refine hcall.mono ?_
    rintro e W9 ⟨u9, rfl, ho9, hb9, hk9⟩
    have HO9 := Aside0.mk ho9
    have HB9 := Aside0.mk hb9
    clear ho9 hb9 hk9 hcall
    refine ⟨_, rfl, ?_⟩
    refine hK.out _ _ ?_
    clear hK K
    refine norm_ (a' := ?_) ?_ ?_
    rotate_left
    · show Act.put _ (some 18) _ = _
      simp only [Act.put, List.setIfInBounds_toArray, List.set_cons_zero, List.set_cons_succ, i64_w, i32_w]
      rfl
    refine pure_ (i := 9) (N := some 2) (v := ?_) (a' := ?_) #[true, true, true, true, true, true, true, true, true, true, false] rfl rfl (by kernel_rfl) (fun _ _ _ h => h) (Or.inl ⟨by rfl, ?_⟩) ?_ ?_
    rotate_left
    · intro w'
      go_simp
      with_reducible rfl
    rotate_left
    · simp only [Act.put, List.setIfInBounds_toArray, List.set_cons_zero, List.set_cons_succ, i64_w, i32_w]
      rfl
    refine pure_ (i := 10) (N := some 3) (v := ?_) (a' := ?_) #[true, true, true, true, true, true, true, true, true, true, true] rfl rfl (by kernel_rfl) (fun _ _ _ h => h) (Or.inl ⟨by rfl, ?_⟩) ?_ ?_
    rotate_left
    · intro w'
      go_simp
      with_reducible rfl
    rotate_left
    · simp only [Act.put, List.setIfInBounds_toArray, List.set_cons_zero, List.set_cons_succ, i64_w, i32_w]
      rfl
    refine done_ (by kernel_rfl) ?_
    go_wp2
    refine bodyPost_ret (v := .tuple #[u9, .int .i64 0]) (by simp [results, Try.results8, go_sem]) rfl ⟨u9, rfl, ?_, HB9.out⟩
    first | exact Kd.R_mono HO9.out (fun _ _ => trivial) | (rw [if_pos rfl]; exact Kd.R_mono HO9.out (fun _ _ => trivial))
theorem codec_Encode.calls (k : Nat) (a0_0 : Int) (a0_1 : Int) (a0_2 : ByteArray) (A0_3 : Option Addr) (c0_3 : Nat) (l0_3 : List (S24)) (r1 : List Int) (r2 : Int) (w : World) (hr0_3 : Kd.C k24 w A0_3 l0_3.length l0_3) (hc0_3 : l0_3.length ≤ c0_3) (h : codec_Encode.f k a0_0 a0_1 a0_2 l0_3 = some (r1, r2)) :
    Calls Try.prog 8 #[.agg #[.int .i64 a0_0, .int .i64 a0_1, .string a0_2, .slice A0_3 l0_3.length c0_3]] w fun e w' => ∃ v0_ : Value, e = .returned (.tuple #[v0_, .int .i64 r2]) ∧ Kd.R (Kd.int .u8) 5 w' w.heap.size (fun _ => True) v0_ r1 ∧ Below w.heap.size w w' := by
  unfold codec_Encode.f at h
  split at h
  · rename_i hl
    obtain ⟨t, ht, h⟩ := Option.bind_eq_some_iff.mp h
    have hw := encode_walk k a0_0 a0_1 a0_2 A0_3 c0_3 l0_3 t w hr0_3 hc0_3 hl ht
    by_cases h0 : t = 0
    · rw [if_pos h0] at h
      injection h with h
      injection h with h1 h2
      subst h1; subst h2; subst h0
      simpa using hw
    · rw [if_neg h0] at h
      injection h with h
      injection h with h1 h2
      subst h1; subst h2
      rw [if_neg h0] at hw
      exact hw
  · cases h
end Go.Proofs.Ytncejmjicjlanaa.Q
