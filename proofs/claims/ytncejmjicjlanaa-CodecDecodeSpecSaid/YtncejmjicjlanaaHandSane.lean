/- Contract of the law's sane: it returns true; nothing that was there changes. -/
import Derived.Test.YtncejmjicjlanaaQ2
import Derived.Test.YtncejmjicjlanaaQ4
import Derived.Test.YtncejmjicjlanaaHandEncode
import Derived.Test.YtncejmjicjlanaaHandDecodeB
import Derived.Test.YtncejmjicjlanaaHandSame
namespace Go.Proofs.Ytncejmjicjlanaa.Q
open Go.RowKit Go.Proofs.YtncejmjicjlanaaW.PrintWords Go.Proofs.YtncejmjicjlanaaW.PrintLast Go.Proofs.YtncejmjicjlanaaW.PrintMore
set_option linter.unusedVariables false
set_option linter.unusedSimpArgs false
def sL : List S24 := [⟨1, 100, ⟨#[]⟩, []⟩, ⟨2, 0, ⟨#[97, 98]⟩, []⟩]
def sB : List Int := [3, 2, 1, 200, 1, 2, 2, 97, 98]
theorem sane_enc3 : codec_Encode.f 20 1 (-3) ⟨#[]⟩ [] = some ([1, 5], 0) := by kernel_rfl
theorem sane_encv : codec_Encode.f 20 3 0 ⟨#[]⟩ sL = some (sB, 0) := by kernel_rfl
theorem sane_dec : codec_Decode.f 20 sB = some (3, 0, ⟨#[]⟩, sL, 0) := by kernel_rfl
theorem sane_size : codec_Size.f 20 3 0 ⟨#[]⟩ sL = some (9, 0) := by kernel_rfl
theorem sane_same : codec_Same.f 20 3 0 ⟨#[]⟩ sL 3 0 ⟨#[]⟩ sL = some true := by kernel_rfl
theorem sane_same2 : codec_Same.f 20 2 0 ⟨#[]⟩ [] 3 0 ⟨#[]⟩ [] = some false := by kernel_rfl
theorem sane_check : codec_Check.f 20 0 0 ⟨#[]⟩ [] = some 1 := by kernel_rfl
def sS (i : Nat) : ByteArray := match i with | 0 => ⟨#[]⟩ | 1 => ⟨#[1, 128, 0]⟩ | 2 => ⟨#[1, 5, 0]⟩ | _ => ⟨#[2, 3, 97]⟩
theorem sane_bad0 : codec_Decode.f 20 (bytesOf (sS 0)) = some (0, 0, ⟨#[]⟩, [], 10) := by kernel_rfl
theorem sane_bad1 : codec_Decode.f 20 (bytesOf (sS 1)) = some (0, 0, ⟨#[]⟩, [], 10) := by kernel_rfl
theorem sane_bad2 : codec_Decode.f 20 (bytesOf (sS 2)) = some (0, 0, ⟨#[]⟩, [], 10) := by kernel_rfl
theorem sane_bad3 : codec_Decode.f 20 (bytesOf (sS 3)) = some (0, 0, ⟨#[]⟩, [], 10) := by kernel_rfl
theorem sane_bad (i : Nat) (h : i < 4) : codec_Decode.f 20 (bytesOf (sS i)) = some (0, 0, ⟨#[]⟩, [], 10) := by
  rcases (by omega : i = 0 ∨ i = 1 ∨ i = 2 ∨ i = 3) with rfl | rfl | rfl | rfl
  · exact sane_bad0
  · exact sane_bad1
  · exact sane_bad2
  · exact sane_bad3
set_option maxHeartbeats 400000 in
theorem rInt (n : Int) (w : World) : Calls Try.prog 17 #[.int .i64 n] w fun e w' => e = .returned (.agg #[.int .i64 1, .int .i64 n, .string ⟨#[]⟩, .slice none 0 0]) ∧ Below w.heap.size w w' := by
  have hu24 := Try.underlying24
  go_enter Try.func17, Try.ntmps17
  go_wp2
  refine bodyPost_ret (v := .agg #[.int .i64 1, .int .i64 n, .string ⟨#[]⟩, .slice none 0 0]) (by simp [results, Try.results17, go_sem]) rfl ⟨rfl, ?_⟩
  exact below_alloc (Below.refl _ _) _
set_option maxHeartbeats 400000 in
theorem rText (s : ByteArray) (w : World) : Calls Try.prog 19 #[.string s] w fun e w' => e = .returned (.agg #[.int .i64 2, .int .i64 0, .string s, .slice none 0 0]) ∧ Below w.heap.size w w' := by
  have hu24 := Try.underlying24
  go_enter Try.func19, Try.ntmps19
  go_wp2
  refine bodyPost_ret (v := .agg #[.int .i64 2, .int .i64 0, .string s, .slice none 0 0]) (by simp [results, Try.results19, go_sem]) rfl ⟨rfl, ?_⟩
  exact below_alloc (Below.refl _ _) _
set_option maxHeartbeats 400000 in
theorem rList (A : Option Addr) (n c : Nat) (w : World) : Calls Try.prog 18 #[.slice A n c] w fun e w' => e = .returned (.agg #[.int .i64 3, .int .i64 0, .string ⟨#[]⟩, .slice A n c]) ∧ Below w.heap.size w w' := by
  have hu24 := Try.underlying24
  go_enter Try.func18, Try.ntmps18
  go_wp2
  refine bodyPost_ret (v := .agg #[.int .i64 3, .int .i64 0, .string ⟨#[]⟩, .slice A n c]) (by simp [results, Try.results18, go_sem]) rfl ⟨rfl, ?_⟩
  exact below_alloc (Below.refl _ _) _
/-- Two values without lists, side by side. -/
theorem vals2 {W : World} {B : Nat} {K1 N1 K2 N2 : Int} {S1 S2 : ByteArray} (h : W.heap[B]? = some (.cells #[.int .i64 K1, .int .i64 N1, .string S1, .slice none 0 0, .int .i64 K2, .int .i64 N2, .string S2, .slice none 0 0] 24 (0, 0))) : Kd.C k24 W (some ⟨B, 0, none⟩) 2 [⟨K1, N1, S1, []⟩, ⟨K2, N2, S2, []⟩] := by
  refine ⟨rfl, by omega, fun _ => ⟨_, rfl, fun j p hj => ?_⟩⟩
  match j, hj with
  | 0, hj =>
    simp at hj
    subst hj
    refine ⟨_, rfl, k24_mk _ _ (Nat.le_refl _) (Kd.C_nil _ _), fun i u hu => ?_⟩
    rw [add_plain, blk_cell h]
    match i, hu with
    | 0, hu => simpa using hu
    | 1, hu => simpa using hu
    | 2, hu => simpa using hu
    | 3, hu => simpa using hu
  | 1, hj =>
    simp at hj
    subst hj
    refine ⟨_, rfl, k24_mk _ _ (Nat.le_refl _) (Kd.C_nil _ _), fun i u hu => ?_⟩
    rw [add_plain, blk_cell h]
    match i, hu with
    | 0, hu => simpa [show k24.sz = 4 from rfl] using hu
    | 1, hu => simpa [show k24.sz = 4 from rfl] using hu
    | 2, hu => simpa [show k24.sz = 4 from rfl] using hu
    | 3, hu => simpa [show k24.sz = 4 from rfl] using hu
set_option maxHeartbeats 4000000 in
set_option maxRecDepth 100000 in
theorem sane_calls (w : World) : Calls Try.prog 6 #[] w fun e w' => e = .returned (.bool true) ∧ Below w.heap.size w w' := by
  have hu24 := Try.underlying24
  go_enter Try.func6, Try.ntmps6
  go_wp2_with fail
  refine (rInt (-3) w).mono ?_
  rintro e W1 ⟨rfl, hb⟩
  have HB := Aside0.mk hb
  clear hb
  go_wp2_with fail
  refine (codec_Encode.calls 20 1 (-3) ⟨#[]⟩ none 0 [] [1, 5] 0 W1 (Kd.C_nil _ _) (Nat.le_refl _) sane_enc3).mono ?_
  rintro e W2 ⟨v1, rfl, hR, hb⟩
  obtain ⟨Aa, ca, rfl, hca, hCa⟩ := Kd.R_reads hR
  have RA := Aside0.mk hCa
  clear hR hCa
  have HB := Aside0.mk (HB.out.trans (hb.mono HB.out.size))
  clear hb
  go_wp2_with fail
  refine (rInt 100 W2).mono ?_
  rintro e W3 ⟨rfl, hb⟩
  have RA := Aside0.mk (Kd.C_below RA.out hb)
  have HB := Aside0.mk (HB.out.trans (hb.mono HB.out.size))
  clear hb
  go_wp2_with fail
  refine (rText ⟨#[97, 98]⟩ W3).mono ?_
  rintro e W4 ⟨rfl, hb⟩
  have RA := Aside0.mk (Kd.C_below RA.out hb)
  have HB := Aside0.mk (HB.out.trans (hb.mono HB.out.size))
  clear hb
  go_wp2_with fail
  have hT := blk_new W4 (.cells #[.int .i64 1, .int .i64 100, .string ⟨#[]⟩, .slice none 0 0, .int .i64 2, .int .i64 0, .string ⟨#[97, 98]⟩, .slice none 0 0] 24)
  have hb := below_alloc (Below.refl W4.heap.size W4) (.cells #[.int .i64 1, .int .i64 100, .string ⟨#[]⟩, .slice none 0 0, .int .i64 2, .int .i64 0, .string ⟨#[97, 98]⟩, .slice none 0 0] 24)
  have RA := Aside0.mk (Kd.C_below RA.out hb)
  have HB := Aside0.mk (HB.out.trans (hb.mono HB.out.size))
  generalize W4.heap.size = BL at *
  generalize W4.alloc (.cells #[.int .i64 1, .int .i64 100, .string ⟨#[]⟩, .slice none 0 0, .int .i64 2, .int .i64 0, .string ⟨#[97, 98]⟩, .slice none 0 0] 24) = W100 at *
  have RL : Aside0 (Kd.C k24 W100 _ sL.length sL) := ⟨vals2 hT⟩
  clear hb hT
  refine (rList (some ⟨BL, 0, none⟩) 2 2 W100).mono ?_
  rintro e W5 ⟨rfl, hb⟩
  have RA := Aside0.mk (Kd.C_below RA.out hb)
  have RL := Aside0.mk (Kd.C_below RL.out hb)
  have HB := Aside0.mk (HB.out.trans (hb.mono HB.out.size))
  clear hb
  go_wp2_with fail
  have hT := blk_new W5 (.cells #[.int .i64 3, .int .i64 0, .string ⟨#[]⟩, .slice (some ⟨BL, 0, none⟩) 2 2] 24)
  have hb := below_alloc (Below.refl W5.heap.size W5) (.cells #[.int .i64 3, .int .i64 0, .string ⟨#[]⟩, .slice (some ⟨BL, 0, none⟩) 2 2] 24)
  have RA := Aside0.mk (Kd.C_below RA.out hb)
  have RL := Aside0.mk (Kd.C_below RL.out hb)
  have HB := Aside0.mk (HB.out.trans (hb.mono HB.out.size))
  have V := Aside0.mk hT
  generalize W5.heap.size = BV at *
  generalize W5.alloc (.cells #[.int .i64 3, .int .i64 0, .string ⟨#[]⟩, .slice (some ⟨BL, 0, none⟩) 2 2] 24) = W101 at *
  clear hb hT
  refine (codec_Encode.calls 20 3 0 ⟨#[]⟩ _ _ sL sB 0 W101 RL.out (Nat.le_refl _) sane_encv).mono ?_
  rintro e W6 ⟨v1, rfl, hR, hb⟩
  obtain ⟨Ab, cb, rfl, hcb, hCb⟩ := Kd.R_reads hR
  have Rb := Aside0.mk hCb
  clear hR hCb
  have RA := Aside0.mk (Kd.C_below RA.out hb)
  have RL := Aside0.mk (Kd.C_below RL.out hb)
  have V := Aside0.mk (blk_below V.out hb)
  have HB := Aside0.mk (HB.out.trans (hb.mono HB.out.size))
  clear hb
  go_wp2_with fail
  refine (codec_Decode.calls 20 _ _ sB 3 0 ⟨#[]⟩ sL 0 W6 Rb.out hcb sane_dec).mono ?_
  rintro e W7 ⟨v1, rfl, hR, hb⟩
  obtain ⟨Aw, cw, rfl, hcw, hCw⟩ := Kd.R_reads hR
  have Rw := Aside0.mk hCw
  clear hR hCw
  have RA := Aside0.mk (Kd.C_below RA.out hb)
  have RL := Aside0.mk (Kd.C_below RL.out hb)
  have V := Aside0.mk (blk_below V.out hb)
  have Rb := Aside0.mk (Kd.C_below Rb.out hb)
  have HB := Aside0.mk (HB.out.trans (hb.mono HB.out.size))
  clear hb
  have Vc0 : (W7.alloc (.cells #[.int .i64 3, .int .i64 0, .string ⟨#[]⟩, .slice Aw sL.length cw] 24)).cell? ⟨BV, 0, none⟩ = some (.int .i64 3) := (blk_cell (blk_alloc V.out (.cells #[.int .i64 3, .int .i64 0, .string ⟨#[]⟩, .slice Aw sL.length cw] 24)) 0).trans rfl
  have Vc1 : (W7.alloc (.cells #[.int .i64 3, .int .i64 0, .string ⟨#[]⟩, .slice Aw sL.length cw] 24)).cell? ⟨BV, 1, none⟩ = some (.int .i64 0) := (blk_cell (blk_alloc V.out (.cells #[.int .i64 3, .int .i64 0, .string ⟨#[]⟩, .slice Aw sL.length cw] 24)) 1).trans rfl
  have Vc2 : (W7.alloc (.cells #[.int .i64 3, .int .i64 0, .string ⟨#[]⟩, .slice Aw sL.length cw] 24)).cell? ⟨BV, 2, none⟩ = some (.string ⟨#[]⟩) := (blk_cell (blk_alloc V.out (.cells #[.int .i64 3, .int .i64 0, .string ⟨#[]⟩, .slice Aw sL.length cw] 24)) 2).trans rfl
  have Vc3 : (W7.alloc (.cells #[.int .i64 3, .int .i64 0, .string ⟨#[]⟩, .slice Aw sL.length cw] 24)).cell? ⟨BV, 3, none⟩ = some (.slice (some ⟨BL, 0, none⟩) 2 2) := (blk_cell (blk_alloc V.out (.cells #[.int .i64 3, .int .i64 0, .string ⟨#[]⟩, .slice Aw sL.length cw] 24)) 3).trans rfl
  go_wp2_with fail
  clear Vc0 Vc1 Vc2 Vc3
  have hT := blk_new W7 (.cells #[.int .i64 3, .int .i64 0, .string ⟨#[]⟩, .slice Aw sL.length cw] 24)
  have hb := below_alloc (Below.refl W7.heap.size W7) (.cells #[.int .i64 3, .int .i64 0, .string ⟨#[]⟩, .slice Aw sL.length cw] 24)
  have RA := Aside0.mk (Kd.C_below RA.out hb)
  have RL := Aside0.mk (Kd.C_below RL.out hb)
  have V := Aside0.mk (blk_below V.out hb)
  have Rb := Aside0.mk (Kd.C_below Rb.out hb)
  have Rw := Aside0.mk (Kd.C_below Rw.out hb)
  have HB := Aside0.mk (HB.out.trans (hb.mono HB.out.size))
  have X := Aside0.mk hT
  generalize W7.heap.size = BX at *
  generalize W7.alloc (.cells #[.int .i64 3, .int .i64 0, .string ⟨#[]⟩, .slice Aw sL.length cw] 24) = W102 at *
  clear hb hT
  refine (codec_Size.calls 20 3 0 ⟨#[]⟩ _ _ sL 9 0 W102 RL.out (Nat.le_refl _) sane_size).mono ?_
  rintro e W8 ⟨rfl, hb⟩
  have RA := Aside0.mk (Kd.C_below RA.out hb)
  have RL := Aside0.mk (Kd.C_below RL.out hb)
  have V := Aside0.mk (blk_below V.out hb)
  have Rb := Aside0.mk (Kd.C_below Rb.out hb)
  have Rw := Aside0.mk (Kd.C_below Rw.out hb)
  have X := Aside0.mk (blk_below X.out hb)
  have HB := Aside0.mk (HB.out.trans (hb.mono HB.out.size))
  clear hb
  have Vc0 : (W8).cell? ⟨BV, 0, none⟩ = some (.int .i64 3) := (blk_cell (V.out) 0).trans rfl
  have Vc1 : (W8).cell? ⟨BV, 1, none⟩ = some (.int .i64 0) := (blk_cell (V.out) 1).trans rfl
  have Vc2 : (W8).cell? ⟨BV, 2, none⟩ = some (.string ⟨#[]⟩) := (blk_cell (V.out) 2).trans rfl
  have Vc3 : (W8).cell? ⟨BV, 3, none⟩ = some (.slice (some ⟨BL, 0, none⟩) 2 2) := (blk_cell (V.out) 3).trans rfl
  have Xc0 : (W8).cell? ⟨BX, 0, none⟩ = some (.int .i64 3) := (blk_cell (X.out) 0).trans rfl
  have Xc1 : (W8).cell? ⟨BX, 1, none⟩ = some (.int .i64 0) := (blk_cell (X.out) 1).trans rfl
  have Xc2 : (W8).cell? ⟨BX, 2, none⟩ = some (.string ⟨#[]⟩) := (blk_cell (X.out) 2).trans rfl
  have Xc3 : (W8).cell? ⟨BX, 3, none⟩ = some (.slice Aw sL.length cw) := (blk_cell (X.out) 3).trans rfl
  have hsa := Kd.C_string (P := Try.prog) (c := ca) Try.underlying27 Try.underlying5 Try.underlying9 RA.out
  have hsb := Kd.C_string (P := Try.prog) (c := cb) Try.underlying27 Try.underlying5 Try.underlying9 Rb.out
  have es1 : strOfNums [1, 5] = ⟨#[1, 5]⟩ := by kernel_rfl
  have es2 : strOfNums sB = ⟨#[3, 2, 1, 200, 1, 2, 2, 97, 98]⟩ := by kernel_rfl
  rw [es1] at hsa
  rw [es2] at hsb
  replace hsa : (convert 27 9 (.slice Aa 2 ca)).run Try.prog W8 = .ok (.string ⟨#[1, 5]⟩) W8 := hsa
  go_wp2_with fail
  clear Vc0 Vc1 Vc2 Vc3 Xc0 Xc1 Xc2 Xc3 hsa hsb
  refine (codec_Same.calls 20 3 0 ⟨#[]⟩ _ _ sL 3 0 ⟨#[]⟩ Aw cw sL true W8 RL.out (Nat.le_refl _) Rw.out hcw sane_same).mono ?_
  rintro e W9 ⟨rfl, hb⟩
  have HB := Aside0.mk (HB.out.trans (hb.mono HB.out.size))
  clear hb
  go_wp2_with fail
  refine (rText ⟨#[]⟩ W9).mono ?_
  rintro e W10 ⟨rfl, hb⟩
  have HB := Aside0.mk (HB.out.trans (hb.mono HB.out.size))
  clear hb
  go_wp2_with fail
  refine (rList none 0 0 W10).mono ?_
  rintro e W11 ⟨rfl, hb⟩
  have HB := Aside0.mk (HB.out.trans (hb.mono HB.out.size))
  clear hb
  go_wp2_with fail
  refine (codec_Same.calls 20 2 0 ⟨#[]⟩ none 0 [] 3 0 ⟨#[]⟩ none 0 [] false W11 (Kd.C_nil _ _) (Nat.le_refl _) (Kd.C_nil _ _) (Nat.le_refl _) sane_same2).mono ?_
  rintro e W12 ⟨rfl, hb⟩
  have HB := Aside0.mk (HB.out.trans (hb.mono HB.out.size))
  clear hb
  clear RA RL V Rb Rw X
  have HS := Aside0.mk (blk_new W12 (.cells #[.string ⟨#[]⟩, .string ⟨#[1, 128, 0]⟩, .string ⟨#[1, 5, 0]⟩, .string ⟨#[2, 3, 97]⟩] 9))
  have HB := Aside0.mk (below_alloc HB.out (.cells #[.string ⟨#[]⟩, .string ⟨#[1, 128, 0]⟩, .string ⟨#[1, 5, 0]⟩, .string ⟨#[2, 3, 97]⟩] 9))
  go_wp2_with fail
  generalize W12.alloc (.cells #[.string ⟨#[]⟩, .string ⟨#[1, 128, 0]⟩, .string ⟨#[1, 5, 0]⟩, .string ⟨#[2, 3, 97]⟩] 9) = W200 at *
  generalize W12.heap.size = BS at *
  go_loopg [79] 4 (fun kq v79 wr => ∃ (i : Nat), v79 = .int .i64 (i : Int) ∧ Aside0 (i + kq = 4) ∧ Aside0 (wr.heap[BS]? = some (.cells #[.string ⟨#[]⟩, .string ⟨#[1, 128, 0]⟩, .string ⟨#[1, 5, 0]⟩, .string ⟨#[2, 3, 97]⟩] 9 (0, 0))) ∧ Aside0 (Below w.heap.size w wr))
  case atStart => exact ⟨0, rfl, ⟨rfl⟩, HS, HB⟩
  case round =>
    clear HS HB
    obtain ⟨i, rfl, HIK, HS, HB⟩ := hrel
    cases gk with
    | zero =>
      have hlt : decide ((i : Int) < 4) = false := by have := HIK.out; simp; omega
      go_wp2_with fail
      refine (codec_Check.calls 20 0 0 ⟨#[]⟩ none 0 [] 1 wr (Kd.C_nil _ _) (Nat.le_refl _) sane_check).mono ?_
      rintro e W300 ⟨rfl, hb⟩
      go_wp2
      refine bodyPost_ret (v := .bool true) (by simp [results, Try.results6, go_sem]) rfl ⟨rfl, HB.out.trans (hb.mono HB.out.size)⟩
    | succ k1 =>
      have hi : i < 4 := by have := HIK.out; omega
      have hlt : decide ((i : Int) < 4) = true := by simp; omega
      have hce : wr.cell? ⟨BS, i, none⟩ = some (.string (sS i)) := by
        rcases (by omega : i = 0 ∨ i = 1 ∨ i = 2 ∨ i = 3) with rfl | rfl | rfl | rfl
        · exact (blk_cell HS.out 0).trans rfl
        · exact (blk_cell HS.out 1).trans rfl
        · exact (blk_cell HS.out 2).trans rfl
        · exact (blk_cell HS.out 3).trans rfl
      have hsz : (sS i).size ≤ 3 := by
        rcases (by omega : i = 0 ∨ i = 1 ∨ i = 2 ∨ i = 3) with rfl | rfl | rfl | rfl <;> decide
      have kb := print_bytes (P := Try.prog) 9 27 5 Try.underlying9 Try.underlying27 Try.underlying5 (sS i) wr
      have hCb := Kd.C_of_reads (h1 := fun _ => rfl) (bytes_reads wr 5 (sS i) (by omega))
      have hge := grownCap_ge wr (sS i).size 0 5
      have hbw := bytes_below (Below.refl wr.heap.size wr) (Nat.le_refl _) 5 (sS i)
      have HCb := Aside0.mk hCb
      have HGE := Aside0.mk hge
      have HBW := Aside0.mk hbw
      have hbad := sane_bad i hi
      have HX := Aside0.mk (codec_Decode.calls 20 (some ⟨wr.heap.size, 0, none⟩) (grownCap wr (sS i).size 0 5) (bytesOf (sS i)) 0 0 ⟨#[]⟩ [] 10 (Lib.bytesWorld wr 5 (sS i)) (by rw [bytesOf_length]; exact hCb) (by rw [bytesOf_length]; exact hge) hbad)
      rw [bytesOf_length] at HX
      clear hCb hge hbw hbad hsz
      go_wp2_with fail
      refine HX.out.mono ?_
      rintro e W400 ⟨v9, rfl, hR, hb⟩
      have HS2 := Aside0.mk (blk_below (blk_below HS.out HBW.out) hb)
      have HB2 := Aside0.mk ((HB.out.trans (HBW.out.mono HB.out.size)).trans (hb.mono (Nat.le_trans HB.out.size HBW.out.size)))
      obtain ⟨A9, c9, rfl, _, _⟩ := Kd.R_reads hR
      clear hR hb HX HCb HGE HBW HS HB kb
      go_wp2_with fail
      trace_state
      go_roundg k1
      case measure => have := HIK.out; omega
      case rel => exact ⟨i + 1, rfl, ⟨by have := HIK.out; omega⟩, ⟨blk_alloc HS2.out _⟩, ⟨below_alloc HB2.out _⟩⟩
def chartroomlaw01_sane.f (k : Nat) : Option Bool := some true
theorem chartroomlaw01_sane.mono : ∀ k, LeO (chartroomlaw01_sane.f k) (chartroomlaw01_sane.f (k + 1)) := fun _ => LeO.refl _
theorem chartroomlaw01_sane.calls (k : Nat) (r : Bool) (w : World) (h : chartroomlaw01_sane.f k = some r) : Calls Try.prog 6 #[] w fun e w' => e = .returned (.bool r) ∧ Below w.heap.size w w' := by
  injection h with h
  subst h
  exact sane_calls w
end Go.Proofs.Ytncejmjicjlanaa.Q
