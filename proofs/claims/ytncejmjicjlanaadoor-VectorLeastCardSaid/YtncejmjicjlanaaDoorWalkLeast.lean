/- The walk of VectorLeast: its calls one after the other by their contracts, every value on the way told by a plain fact. Written by gen_walk.py of this session. -/
import Derived.Test.YtncejmjicjlanaaDoorEval
import Derived.Test.YtncejmjicjlanaaDoorQ6
import Derived.Test.YtncejmjicjlanaaDoorHandSane
namespace Go.Proofs.YtncejmjicjlanaaDoor.Q
open Go.RowKit Go.Proofs.YtncejmjicjlanaaDoorW.PrintWords Go.Proofs.YtncejmjicjlanaaDoorW.PrintLast Go.Proofs.YtncejmjicjlanaaDoorW.PrintMore
set_option linter.unusedVariables false
set_option linter.unusedSimpArgs false

set_option maxHeartbeats 8000000 in
set_option maxRecDepth 100000 in
theorem VectorLeast_walk_m1 (k : Nat) (hk : 4000 ≤ k) (Aa : Option Addr) (ca : Nat) (a : List S24) (Ab : Option Addr) (cb : Nat) (b : List S24) (Ac : Option Addr) (cc : Nat) (c : List S24) (w : World) (hGG : GlobG w) (hGL : GlobL w) (hra : Kd.C k24 w Aa a.length a) (hca : a.length ≤ ca) (hrb : Kd.C k24 w Ab b.length b) (hcb : b.length ≤ cb) (hrc : Kd.C k24 w Ac c.length c) (hcc : c.length ≤ cc)
    (hmain : a.length ≤ 600 → b.length ≤ 600 → c.length ≤ 600 → Valid a → Valid b → Valid c → ∃ (bc jc mc : Int) (j mm : List S24), vector_Join.f k a b = some (j, 0) ∧ vector_Meet.f k a b = some (mm, 0) ∧ vector_Compare.f k a c = some ((-1 : Int), 0) ∧ vector_Compare.f k b c = some (bc, 0) ∧ vector_Compare.f k j c = some (jc, 0) ∧ vector_Compare.f k mm c = some (mc, 0) ∧ (bc = -1 ∨ bc = 0 ∨ bc = 1 ∨ bc = 2) ∧ (jc = -1 ∨ jc = 0 ∨ jc = 1 ∨ jc = 2) ∧ (mc = -1 ∨ mc = 0 ∨ mc = 1 ∨ mc = 2) ∧ (((-1 : Int) ≤ 0 ∧ bc ≤ 0) ↔ jc ≤ 0) ∧ ((((-1 : Int) = 0 ∨ (-1 : Int) = 1) ∧ (bc = 0 ∨ bc = 1)) ↔ (mc = 0 ∨ mc = 1))) :
    Calls Tryd.prog 10 #[.slice Aa a.length ca, .slice Ab b.length cb, .slice Ac c.length cc] w fun e w' => e = .returned (.bool true) ∧ Below w.heap.size w w' := by
  have Ra := Aside0.mk hra
  have HCa := Aside0.mk hca
  have Rb := Aside0.mk hrb
  have HCb := Aside0.mk hcb
  have Rc := Aside0.mk hrc
  have HCc := Aside0.mk hcc
  have HGG := Aside0.mk hGG
  have HGL := Aside0.mk hGL
  clear hra hca hrb hcb hrc hcc hGG hGL
  have HB := Aside0.mk (Below.refl w.heap.size w)
  have HM := Aside0.mk hmain
  clear hmain
  go_enter Tryd.func10, Tryd.ntmps10
  go_wp2_with fail
  refine (chartroomlaw12_sane.calls 20 true w (GlobG_below HGG.out HB.out) (GlobL_below HGL.out HB.out) (if_pos (by omega))).mono ?_
  rintro e W1 ⟨rfl, hb⟩
  have Ra := Aside0.mk (Kd.C_below Ra.out hb)
  have Rb := Aside0.mk (Kd.C_below Rb.out hb)
  have Rc := Aside0.mk (Kd.C_below Rc.out hb)
  have HB := Aside0.mk (HB.out.trans (hb.mono HB.out.size))
  clear hb
  go_wp2_with fail
  by_cases fa : (a.length : Int) ≤ 600
  case neg =>
    have Fa : chartroomref12_Few.f a = some false := congrArg some (decide_eq_false fa)
    refine (chartroomref12_Few.calls _ _ a false W1 Ra.out HCa.out Fa).mono ?_
    rintro e W2 ⟨rfl, hd⟩
    have hb := hd.below
    clear hd
    have Ra := Aside0.mk (Kd.C_below Ra.out hb)
    have Rb := Aside0.mk (Kd.C_below Rb.out hb)
    have Rc := Aside0.mk (Kd.C_below Rc.out hb)
    have HB := Aside0.mk (HB.out.trans (hb.mono HB.out.size))
    clear hb
    go_wp2_with fail
    go_ret
    exact ⟨rfl, HB.out⟩
  have Fa : chartroomref12_Few.f a = some true := congrArg some (decide_eq_true fa)
  refine (chartroomref12_Few.calls _ _ a true W1 Ra.out HCa.out Fa).mono ?_
  rintro e W2 ⟨rfl, hd⟩
  have hb := hd.below
  clear hd
  have Ra := Aside0.mk (Kd.C_below Ra.out hb)
  have Rb := Aside0.mk (Kd.C_below Rb.out hb)
  have Rc := Aside0.mk (Kd.C_below Rc.out hb)
  have HB := Aside0.mk (HB.out.trans (hb.mono HB.out.size))
  clear hb
  clear Fa
  go_wp2_with fail
  by_cases fb : (b.length : Int) ≤ 600
  case neg =>
    have Fb : chartroomref12_Few.f b = some false := congrArg some (decide_eq_false fb)
    refine (chartroomref12_Few.calls _ _ b false W2 Rb.out HCb.out Fb).mono ?_
    rintro e W3 ⟨rfl, hd⟩
    have hb := hd.below
    clear hd
    have Ra := Aside0.mk (Kd.C_below Ra.out hb)
    have Rb := Aside0.mk (Kd.C_below Rb.out hb)
    have Rc := Aside0.mk (Kd.C_below Rc.out hb)
    have HB := Aside0.mk (HB.out.trans (hb.mono HB.out.size))
    clear hb
    go_wp2_with fail
    go_ret
    exact ⟨rfl, HB.out⟩
  have Fb : chartroomref12_Few.f b = some true := congrArg some (decide_eq_true fb)
  refine (chartroomref12_Few.calls _ _ b true W2 Rb.out HCb.out Fb).mono ?_
  rintro e W3 ⟨rfl, hd⟩
  have hb := hd.below
  clear hd
  have Ra := Aside0.mk (Kd.C_below Ra.out hb)
  have Rb := Aside0.mk (Kd.C_below Rb.out hb)
  have Rc := Aside0.mk (Kd.C_below Rc.out hb)
  have HB := Aside0.mk (HB.out.trans (hb.mono HB.out.size))
  clear hb
  clear Fb
  go_wp2_with fail
  by_cases fc : (c.length : Int) ≤ 600
  case neg =>
    have Fc : chartroomref12_Few.f c = some false := congrArg some (decide_eq_false fc)
    refine (chartroomref12_Few.calls _ _ c false W3 Rc.out HCc.out Fc).mono ?_
    rintro e W4 ⟨rfl, hd⟩
    have hb := hd.below
    clear hd
    have Ra := Aside0.mk (Kd.C_below Ra.out hb)
    have Rb := Aside0.mk (Kd.C_below Rb.out hb)
    have Rc := Aside0.mk (Kd.C_below Rc.out hb)
    have HB := Aside0.mk (HB.out.trans (hb.mono HB.out.size))
    clear hb
    go_wp2_with fail
    go_ret
    exact ⟨rfl, HB.out⟩
  have Fc : chartroomref12_Few.f c = some true := congrArg some (decide_eq_true fc)
  refine (chartroomref12_Few.calls _ _ c true W3 Rc.out HCc.out Fc).mono ?_
  rintro e W4 ⟨rfl, hd⟩
  have hb := hd.below
  clear hd
  have Ra := Aside0.mk (Kd.C_below Ra.out hb)
  have Rb := Aside0.mk (Kd.C_below Rb.out hb)
  have Rc := Aside0.mk (Kd.C_below Rc.out hb)
  have HB := Aside0.mk (HB.out.trans (hb.mono HB.out.size))
  clear hb
  clear Fc
  go_wp2_with fail
  by_cases va : Valid a
  case neg =>
    have Va : vector_Check.f k a = some 120 := (vCheck_eq k a (by omega) (by omega)).trans (congrArg some (if_neg va))
    refine (vector_Check.calls k _ _ a 120 W4 Ra.out HCa.out Va).mono ?_
    rintro e W5 ⟨rfl, hb⟩
    have Ra := Aside0.mk (Kd.C_below Ra.out hb)
    have Rb := Aside0.mk (Kd.C_below Rb.out hb)
    have Rc := Aside0.mk (Kd.C_below Rc.out hb)
    have HB := Aside0.mk (HB.out.trans (hb.mono HB.out.size))
    clear hb
    go_wp2_with fail
    go_ret
    exact ⟨rfl, HB.out⟩
  have Va : vector_Check.f k a = some 0 := (vCheck_eq k a (by omega) (by omega)).trans (congrArg some (if_pos va))
  refine (vector_Check.calls k _ _ a 0 W4 Ra.out HCa.out Va).mono ?_
  rintro e W5 ⟨rfl, hb⟩
  have Ra := Aside0.mk (Kd.C_below Ra.out hb)
  have Rb := Aside0.mk (Kd.C_below Rb.out hb)
  have Rc := Aside0.mk (Kd.C_below Rc.out hb)
  have HB := Aside0.mk (HB.out.trans (hb.mono HB.out.size))
  clear hb
  clear Va
  go_wp2_with fail
  by_cases vb : Valid b
  case neg =>
    have Vb : vector_Check.f k b = some 120 := (vCheck_eq k b (by omega) (by omega)).trans (congrArg some (if_neg vb))
    refine (vector_Check.calls k _ _ b 120 W5 Rb.out HCb.out Vb).mono ?_
    rintro e W6 ⟨rfl, hb⟩
    have Ra := Aside0.mk (Kd.C_below Ra.out hb)
    have Rb := Aside0.mk (Kd.C_below Rb.out hb)
    have Rc := Aside0.mk (Kd.C_below Rc.out hb)
    have HB := Aside0.mk (HB.out.trans (hb.mono HB.out.size))
    clear hb
    go_wp2_with fail
    go_ret
    exact ⟨rfl, HB.out⟩
  have Vb : vector_Check.f k b = some 0 := (vCheck_eq k b (by omega) (by omega)).trans (congrArg some (if_pos vb))
  refine (vector_Check.calls k _ _ b 0 W5 Rb.out HCb.out Vb).mono ?_
  rintro e W6 ⟨rfl, hb⟩
  have Ra := Aside0.mk (Kd.C_below Ra.out hb)
  have Rb := Aside0.mk (Kd.C_below Rb.out hb)
  have Rc := Aside0.mk (Kd.C_below Rc.out hb)
  have HB := Aside0.mk (HB.out.trans (hb.mono HB.out.size))
  clear hb
  clear Vb
  go_wp2_with fail
  by_cases vc : Valid c
  case neg =>
    have Vc : vector_Check.f k c = some 120 := (vCheck_eq k c (by omega) (by omega)).trans (congrArg some (if_neg vc))
    refine (vector_Check.calls k _ _ c 120 W6 Rc.out HCc.out Vc).mono ?_
    rintro e W7 ⟨rfl, hb⟩
    have Ra := Aside0.mk (Kd.C_below Ra.out hb)
    have Rb := Aside0.mk (Kd.C_below Rb.out hb)
    have Rc := Aside0.mk (Kd.C_below Rc.out hb)
    have HB := Aside0.mk (HB.out.trans (hb.mono HB.out.size))
    clear hb
    go_wp2_with fail
    go_ret
    exact ⟨rfl, HB.out⟩
  have Vc : vector_Check.f k c = some 0 := (vCheck_eq k c (by omega) (by omega)).trans (congrArg some (if_pos vc))
  refine (vector_Check.calls k _ _ c 0 W6 Rc.out HCc.out Vc).mono ?_
  rintro e W7 ⟨rfl, hb⟩
  have Ra := Aside0.mk (Kd.C_below Ra.out hb)
  have Rb := Aside0.mk (Kd.C_below Rb.out hb)
  have Rc := Aside0.mk (Kd.C_below Rc.out hb)
  have HB := Aside0.mk (HB.out.trans (hb.mono HB.out.size))
  clear hb
  clear Vc
  go_wp2_with fail
  obtain ⟨bc, jc, mc, j, mm, Hj, Hmm, Hac, Hbc, Hjc, Hmc, C2, C3, C4, Hab, Hbe⟩ := HM.out (by omega) (by omega) (by omega) va vb vc
  replace Hj := Aside0.mk Hj
  replace Hmm := Aside0.mk Hmm
  replace Hac := Aside0.mk Hac
  replace Hbc := Aside0.mk Hbc
  replace Hjc := Aside0.mk Hjc
  replace Hmc := Aside0.mk Hmc
  replace C2 := Aside0.mk C2
  replace C3 := Aside0.mk C3
  replace C4 := Aside0.mk C4
  replace Hab := Aside0.mk Hab
  replace Hbe := Aside0.mk Hbe
  clear HM va vb vc fa fb fc
  refine (vector_Join.calls k _ _ a _ _ b j 0 W7 (GlobG_below HGG.out HB.out) Ra.out HCa.out Rb.out HCb.out Hj.out).mono ?_
  rintro e W8 ⟨v_, rfl, hR, hb⟩
  have Ra := Aside0.mk (Kd.C_below Ra.out hb)
  have Rb := Aside0.mk (Kd.C_below Rb.out hb)
  have Rc := Aside0.mk (Kd.C_below Rc.out hb)
  obtain ⟨Aj, cj, rfl, hc_, hC_⟩ := Kd.R_reads hR
  have Rj := Aside0.mk hC_
  have HCj := Aside0.mk hc_
  clear hR hc_ hC_
  have HB := Aside0.mk (HB.out.trans (hb.mono HB.out.size))
  clear hb
  go_wp2_with fail
  refine (vector_Meet.calls k _ _ a _ _ b mm 0 W8 (GlobL_below HGL.out HB.out) Ra.out HCa.out Rb.out HCb.out Hmm.out).mono ?_
  rintro e W9 ⟨v_, rfl, hR, hb⟩
  have Ra := Aside0.mk (Kd.C_below Ra.out hb)
  have Rb := Aside0.mk (Kd.C_below Rb.out hb)
  have Rc := Aside0.mk (Kd.C_below Rc.out hb)
  have Rj := Aside0.mk (Kd.C_below Rj.out hb)
  obtain ⟨Amm, cmm, rfl, hc_, hC_⟩ := Kd.R_reads hR
  have Rmm := Aside0.mk hC_
  have HCmm := Aside0.mk hc_
  clear hR hc_ hC_
  have HB := Aside0.mk (HB.out.trans (hb.mono HB.out.size))
  clear hb
  go_wp2_with fail
  refine (vector_Compare.calls k _ _ a _ _ c (-1 : Int) 0 W9 Ra.out HCa.out Rc.out HCc.out Hac.out).mono ?_
  rintro e W10 ⟨rfl, hb⟩
  have Ra := Aside0.mk (Kd.C_below Ra.out hb)
  have Rb := Aside0.mk (Kd.C_below Rb.out hb)
  have Rc := Aside0.mk (Kd.C_below Rc.out hb)
  have Rj := Aside0.mk (Kd.C_below Rj.out hb)
  have Rmm := Aside0.mk (Kd.C_below Rmm.out hb)
  have HB := Aside0.mk (HB.out.trans (hb.mono HB.out.size))
  clear hb
  go_wp2_with fail
  refine (vector_Compare.calls k _ _ b _ _ c bc 0 W10 Rb.out HCb.out Rc.out HCc.out Hbc.out).mono ?_
  rintro e W11 ⟨rfl, hb⟩
  have Ra := Aside0.mk (Kd.C_below Ra.out hb)
  have Rb := Aside0.mk (Kd.C_below Rb.out hb)
  have Rc := Aside0.mk (Kd.C_below Rc.out hb)
  have Rj := Aside0.mk (Kd.C_below Rj.out hb)
  have Rmm := Aside0.mk (Kd.C_below Rmm.out hb)
  have HB := Aside0.mk (HB.out.trans (hb.mono HB.out.size))
  clear hb
  go_wp2_with fail
  refine (vector_Compare.calls k _ _ j _ _ c jc 0 W11 Rj.out HCj.out Rc.out HCc.out Hjc.out).mono ?_
  rintro e W12 ⟨rfl, hb⟩
  have Ra := Aside0.mk (Kd.C_below Ra.out hb)
  have Rb := Aside0.mk (Kd.C_below Rb.out hb)
  have Rc := Aside0.mk (Kd.C_below Rc.out hb)
  have Rj := Aside0.mk (Kd.C_below Rj.out hb)
  have Rmm := Aside0.mk (Kd.C_below Rmm.out hb)
  have HB := Aside0.mk (HB.out.trans (hb.mono HB.out.size))
  clear hb
  go_wp2_with fail
  refine (vector_Compare.calls k _ _ mm _ _ c mc 0 W12 Rmm.out HCmm.out Rc.out HCc.out Hmc.out).mono ?_
  rintro e W13 ⟨rfl, hb⟩
  have Ra := Aside0.mk (Kd.C_below Ra.out hb)
  have Rb := Aside0.mk (Kd.C_below Rb.out hb)
  have Rc := Aside0.mk (Kd.C_below Rc.out hb)
  have Rj := Aside0.mk (Kd.C_below Rj.out hb)
  have Rmm := Aside0.mk (Kd.C_below Rmm.out hb)
  have HB := Aside0.mk (HB.out.trans (hb.mono HB.out.size))
  clear hb
  clear Ra HCa Rb HCb Rc HCc Rj HCj Rmm HCmm Hj Hmm Hac Hbc Hjc Hmc
  rcases C2.out with rfl | rfl | rfl | rfl <;> rcases C3.out with rfl | rfl | rfl | rfl <;> rcases C4.out with rfl | rfl | rfl | rfl <;> first | (exact absurd Hab.out (by decide)) | (exact absurd Hbe.out (by decide)) | (clear C2 C3 C4 Hab Hbe; go_wp2_with fail; go_ret; exact ⟨rfl, HB.out⟩)
set_option maxHeartbeats 8000000 in
set_option maxRecDepth 100000 in
theorem VectorLeast_walk_p0 (k : Nat) (hk : 4000 ≤ k) (Aa : Option Addr) (ca : Nat) (a : List S24) (Ab : Option Addr) (cb : Nat) (b : List S24) (Ac : Option Addr) (cc : Nat) (c : List S24) (w : World) (hGG : GlobG w) (hGL : GlobL w) (hra : Kd.C k24 w Aa a.length a) (hca : a.length ≤ ca) (hrb : Kd.C k24 w Ab b.length b) (hcb : b.length ≤ cb) (hrc : Kd.C k24 w Ac c.length c) (hcc : c.length ≤ cc)
    (hmain : a.length ≤ 600 → b.length ≤ 600 → c.length ≤ 600 → Valid a → Valid b → Valid c → ∃ (bc jc mc : Int) (j mm : List S24), vector_Join.f k a b = some (j, 0) ∧ vector_Meet.f k a b = some (mm, 0) ∧ vector_Compare.f k a c = some ((0 : Int), 0) ∧ vector_Compare.f k b c = some (bc, 0) ∧ vector_Compare.f k j c = some (jc, 0) ∧ vector_Compare.f k mm c = some (mc, 0) ∧ (bc = -1 ∨ bc = 0 ∨ bc = 1 ∨ bc = 2) ∧ (jc = -1 ∨ jc = 0 ∨ jc = 1 ∨ jc = 2) ∧ (mc = -1 ∨ mc = 0 ∨ mc = 1 ∨ mc = 2) ∧ (((0 : Int) ≤ 0 ∧ bc ≤ 0) ↔ jc ≤ 0) ∧ ((((0 : Int) = 0 ∨ (0 : Int) = 1) ∧ (bc = 0 ∨ bc = 1)) ↔ (mc = 0 ∨ mc = 1))) :
    Calls Tryd.prog 10 #[.slice Aa a.length ca, .slice Ab b.length cb, .slice Ac c.length cc] w fun e w' => e = .returned (.bool true) ∧ Below w.heap.size w w' := by
  have Ra := Aside0.mk hra
  have HCa := Aside0.mk hca
  have Rb := Aside0.mk hrb
  have HCb := Aside0.mk hcb
  have Rc := Aside0.mk hrc
  have HCc := Aside0.mk hcc
  have HGG := Aside0.mk hGG
  have HGL := Aside0.mk hGL
  clear hra hca hrb hcb hrc hcc hGG hGL
  have HB := Aside0.mk (Below.refl w.heap.size w)
  have HM := Aside0.mk hmain
  clear hmain
  go_enter Tryd.func10, Tryd.ntmps10
  go_wp2_with fail
  refine (chartroomlaw12_sane.calls 20 true w (GlobG_below HGG.out HB.out) (GlobL_below HGL.out HB.out) (if_pos (by omega))).mono ?_
  rintro e W1 ⟨rfl, hb⟩
  have Ra := Aside0.mk (Kd.C_below Ra.out hb)
  have Rb := Aside0.mk (Kd.C_below Rb.out hb)
  have Rc := Aside0.mk (Kd.C_below Rc.out hb)
  have HB := Aside0.mk (HB.out.trans (hb.mono HB.out.size))
  clear hb
  go_wp2_with fail
  by_cases fa : (a.length : Int) ≤ 600
  case neg =>
    have Fa : chartroomref12_Few.f a = some false := congrArg some (decide_eq_false fa)
    refine (chartroomref12_Few.calls _ _ a false W1 Ra.out HCa.out Fa).mono ?_
    rintro e W2 ⟨rfl, hd⟩
    have hb := hd.below
    clear hd
    have Ra := Aside0.mk (Kd.C_below Ra.out hb)
    have Rb := Aside0.mk (Kd.C_below Rb.out hb)
    have Rc := Aside0.mk (Kd.C_below Rc.out hb)
    have HB := Aside0.mk (HB.out.trans (hb.mono HB.out.size))
    clear hb
    go_wp2_with fail
    go_ret
    exact ⟨rfl, HB.out⟩
  have Fa : chartroomref12_Few.f a = some true := congrArg some (decide_eq_true fa)
  refine (chartroomref12_Few.calls _ _ a true W1 Ra.out HCa.out Fa).mono ?_
  rintro e W2 ⟨rfl, hd⟩
  have hb := hd.below
  clear hd
  have Ra := Aside0.mk (Kd.C_below Ra.out hb)
  have Rb := Aside0.mk (Kd.C_below Rb.out hb)
  have Rc := Aside0.mk (Kd.C_below Rc.out hb)
  have HB := Aside0.mk (HB.out.trans (hb.mono HB.out.size))
  clear hb
  clear Fa
  go_wp2_with fail
  by_cases fb : (b.length : Int) ≤ 600
  case neg =>
    have Fb : chartroomref12_Few.f b = some false := congrArg some (decide_eq_false fb)
    refine (chartroomref12_Few.calls _ _ b false W2 Rb.out HCb.out Fb).mono ?_
    rintro e W3 ⟨rfl, hd⟩
    have hb := hd.below
    clear hd
    have Ra := Aside0.mk (Kd.C_below Ra.out hb)
    have Rb := Aside0.mk (Kd.C_below Rb.out hb)
    have Rc := Aside0.mk (Kd.C_below Rc.out hb)
    have HB := Aside0.mk (HB.out.trans (hb.mono HB.out.size))
    clear hb
    go_wp2_with fail
    go_ret
    exact ⟨rfl, HB.out⟩
  have Fb : chartroomref12_Few.f b = some true := congrArg some (decide_eq_true fb)
  refine (chartroomref12_Few.calls _ _ b true W2 Rb.out HCb.out Fb).mono ?_
  rintro e W3 ⟨rfl, hd⟩
  have hb := hd.below
  clear hd
  have Ra := Aside0.mk (Kd.C_below Ra.out hb)
  have Rb := Aside0.mk (Kd.C_below Rb.out hb)
  have Rc := Aside0.mk (Kd.C_below Rc.out hb)
  have HB := Aside0.mk (HB.out.trans (hb.mono HB.out.size))
  clear hb
  clear Fb
  go_wp2_with fail
  by_cases fc : (c.length : Int) ≤ 600
  case neg =>
    have Fc : chartroomref12_Few.f c = some false := congrArg some (decide_eq_false fc)
    refine (chartroomref12_Few.calls _ _ c false W3 Rc.out HCc.out Fc).mono ?_
    rintro e W4 ⟨rfl, hd⟩
    have hb := hd.below
    clear hd
    have Ra := Aside0.mk (Kd.C_below Ra.out hb)
    have Rb := Aside0.mk (Kd.C_below Rb.out hb)
    have Rc := Aside0.mk (Kd.C_below Rc.out hb)
    have HB := Aside0.mk (HB.out.trans (hb.mono HB.out.size))
    clear hb
    go_wp2_with fail
    go_ret
    exact ⟨rfl, HB.out⟩
  have Fc : chartroomref12_Few.f c = some true := congrArg some (decide_eq_true fc)
  refine (chartroomref12_Few.calls _ _ c true W3 Rc.out HCc.out Fc).mono ?_
  rintro e W4 ⟨rfl, hd⟩
  have hb := hd.below
  clear hd
  have Ra := Aside0.mk (Kd.C_below Ra.out hb)
  have Rb := Aside0.mk (Kd.C_below Rb.out hb)
  have Rc := Aside0.mk (Kd.C_below Rc.out hb)
  have HB := Aside0.mk (HB.out.trans (hb.mono HB.out.size))
  clear hb
  clear Fc
  go_wp2_with fail
  by_cases va : Valid a
  case neg =>
    have Va : vector_Check.f k a = some 120 := (vCheck_eq k a (by omega) (by omega)).trans (congrArg some (if_neg va))
    refine (vector_Check.calls k _ _ a 120 W4 Ra.out HCa.out Va).mono ?_
    rintro e W5 ⟨rfl, hb⟩
    have Ra := Aside0.mk (Kd.C_below Ra.out hb)
    have Rb := Aside0.mk (Kd.C_below Rb.out hb)
    have Rc := Aside0.mk (Kd.C_below Rc.out hb)
    have HB := Aside0.mk (HB.out.trans (hb.mono HB.out.size))
    clear hb
    go_wp2_with fail
    go_ret
    exact ⟨rfl, HB.out⟩
  have Va : vector_Check.f k a = some 0 := (vCheck_eq k a (by omega) (by omega)).trans (congrArg some (if_pos va))
  refine (vector_Check.calls k _ _ a 0 W4 Ra.out HCa.out Va).mono ?_
  rintro e W5 ⟨rfl, hb⟩
  have Ra := Aside0.mk (Kd.C_below Ra.out hb)
  have Rb := Aside0.mk (Kd.C_below Rb.out hb)
  have Rc := Aside0.mk (Kd.C_below Rc.out hb)
  have HB := Aside0.mk (HB.out.trans (hb.mono HB.out.size))
  clear hb
  clear Va
  go_wp2_with fail
  by_cases vb : Valid b
  case neg =>
    have Vb : vector_Check.f k b = some 120 := (vCheck_eq k b (by omega) (by omega)).trans (congrArg some (if_neg vb))
    refine (vector_Check.calls k _ _ b 120 W5 Rb.out HCb.out Vb).mono ?_
    rintro e W6 ⟨rfl, hb⟩
    have Ra := Aside0.mk (Kd.C_below Ra.out hb)
    have Rb := Aside0.mk (Kd.C_below Rb.out hb)
    have Rc := Aside0.mk (Kd.C_below Rc.out hb)
    have HB := Aside0.mk (HB.out.trans (hb.mono HB.out.size))
    clear hb
    go_wp2_with fail
    go_ret
    exact ⟨rfl, HB.out⟩
  have Vb : vector_Check.f k b = some 0 := (vCheck_eq k b (by omega) (by omega)).trans (congrArg some (if_pos vb))
  refine (vector_Check.calls k _ _ b 0 W5 Rb.out HCb.out Vb).mono ?_
  rintro e W6 ⟨rfl, hb⟩
  have Ra := Aside0.mk (Kd.C_below Ra.out hb)
  have Rb := Aside0.mk (Kd.C_below Rb.out hb)
  have Rc := Aside0.mk (Kd.C_below Rc.out hb)
  have HB := Aside0.mk (HB.out.trans (hb.mono HB.out.size))
  clear hb
  clear Vb
  go_wp2_with fail
  by_cases vc : Valid c
  case neg =>
    have Vc : vector_Check.f k c = some 120 := (vCheck_eq k c (by omega) (by omega)).trans (congrArg some (if_neg vc))
    refine (vector_Check.calls k _ _ c 120 W6 Rc.out HCc.out Vc).mono ?_
    rintro e W7 ⟨rfl, hb⟩
    have Ra := Aside0.mk (Kd.C_below Ra.out hb)
    have Rb := Aside0.mk (Kd.C_below Rb.out hb)
    have Rc := Aside0.mk (Kd.C_below Rc.out hb)
    have HB := Aside0.mk (HB.out.trans (hb.mono HB.out.size))
    clear hb
    go_wp2_with fail
    go_ret
    exact ⟨rfl, HB.out⟩
  have Vc : vector_Check.f k c = some 0 := (vCheck_eq k c (by omega) (by omega)).trans (congrArg some (if_pos vc))
  refine (vector_Check.calls k _ _ c 0 W6 Rc.out HCc.out Vc).mono ?_
  rintro e W7 ⟨rfl, hb⟩
  have Ra := Aside0.mk (Kd.C_below Ra.out hb)
  have Rb := Aside0.mk (Kd.C_below Rb.out hb)
  have Rc := Aside0.mk (Kd.C_below Rc.out hb)
  have HB := Aside0.mk (HB.out.trans (hb.mono HB.out.size))
  clear hb
  clear Vc
  go_wp2_with fail
  obtain ⟨bc, jc, mc, j, mm, Hj, Hmm, Hac, Hbc, Hjc, Hmc, C2, C3, C4, Hab, Hbe⟩ := HM.out (by omega) (by omega) (by omega) va vb vc
  replace Hj := Aside0.mk Hj
  replace Hmm := Aside0.mk Hmm
  replace Hac := Aside0.mk Hac
  replace Hbc := Aside0.mk Hbc
  replace Hjc := Aside0.mk Hjc
  replace Hmc := Aside0.mk Hmc
  replace C2 := Aside0.mk C2
  replace C3 := Aside0.mk C3
  replace C4 := Aside0.mk C4
  replace Hab := Aside0.mk Hab
  replace Hbe := Aside0.mk Hbe
  clear HM va vb vc fa fb fc
  refine (vector_Join.calls k _ _ a _ _ b j 0 W7 (GlobG_below HGG.out HB.out) Ra.out HCa.out Rb.out HCb.out Hj.out).mono ?_
  rintro e W8 ⟨v_, rfl, hR, hb⟩
  have Ra := Aside0.mk (Kd.C_below Ra.out hb)
  have Rb := Aside0.mk (Kd.C_below Rb.out hb)
  have Rc := Aside0.mk (Kd.C_below Rc.out hb)
  obtain ⟨Aj, cj, rfl, hc_, hC_⟩ := Kd.R_reads hR
  have Rj := Aside0.mk hC_
  have HCj := Aside0.mk hc_
  clear hR hc_ hC_
  have HB := Aside0.mk (HB.out.trans (hb.mono HB.out.size))
  clear hb
  go_wp2_with fail
  refine (vector_Meet.calls k _ _ a _ _ b mm 0 W8 (GlobL_below HGL.out HB.out) Ra.out HCa.out Rb.out HCb.out Hmm.out).mono ?_
  rintro e W9 ⟨v_, rfl, hR, hb⟩
  have Ra := Aside0.mk (Kd.C_below Ra.out hb)
  have Rb := Aside0.mk (Kd.C_below Rb.out hb)
  have Rc := Aside0.mk (Kd.C_below Rc.out hb)
  have Rj := Aside0.mk (Kd.C_below Rj.out hb)
  obtain ⟨Amm, cmm, rfl, hc_, hC_⟩ := Kd.R_reads hR
  have Rmm := Aside0.mk hC_
  have HCmm := Aside0.mk hc_
  clear hR hc_ hC_
  have HB := Aside0.mk (HB.out.trans (hb.mono HB.out.size))
  clear hb
  go_wp2_with fail
  refine (vector_Compare.calls k _ _ a _ _ c (0 : Int) 0 W9 Ra.out HCa.out Rc.out HCc.out Hac.out).mono ?_
  rintro e W10 ⟨rfl, hb⟩
  have Ra := Aside0.mk (Kd.C_below Ra.out hb)
  have Rb := Aside0.mk (Kd.C_below Rb.out hb)
  have Rc := Aside0.mk (Kd.C_below Rc.out hb)
  have Rj := Aside0.mk (Kd.C_below Rj.out hb)
  have Rmm := Aside0.mk (Kd.C_below Rmm.out hb)
  have HB := Aside0.mk (HB.out.trans (hb.mono HB.out.size))
  clear hb
  go_wp2_with fail
  refine (vector_Compare.calls k _ _ b _ _ c bc 0 W10 Rb.out HCb.out Rc.out HCc.out Hbc.out).mono ?_
  rintro e W11 ⟨rfl, hb⟩
  have Ra := Aside0.mk (Kd.C_below Ra.out hb)
  have Rb := Aside0.mk (Kd.C_below Rb.out hb)
  have Rc := Aside0.mk (Kd.C_below Rc.out hb)
  have Rj := Aside0.mk (Kd.C_below Rj.out hb)
  have Rmm := Aside0.mk (Kd.C_below Rmm.out hb)
  have HB := Aside0.mk (HB.out.trans (hb.mono HB.out.size))
  clear hb
  go_wp2_with fail
  refine (vector_Compare.calls k _ _ j _ _ c jc 0 W11 Rj.out HCj.out Rc.out HCc.out Hjc.out).mono ?_
  rintro e W12 ⟨rfl, hb⟩
  have Ra := Aside0.mk (Kd.C_below Ra.out hb)
  have Rb := Aside0.mk (Kd.C_below Rb.out hb)
  have Rc := Aside0.mk (Kd.C_below Rc.out hb)
  have Rj := Aside0.mk (Kd.C_below Rj.out hb)
  have Rmm := Aside0.mk (Kd.C_below Rmm.out hb)
  have HB := Aside0.mk (HB.out.trans (hb.mono HB.out.size))
  clear hb
  go_wp2_with fail
  refine (vector_Compare.calls k _ _ mm _ _ c mc 0 W12 Rmm.out HCmm.out Rc.out HCc.out Hmc.out).mono ?_
  rintro e W13 ⟨rfl, hb⟩
  have Ra := Aside0.mk (Kd.C_below Ra.out hb)
  have Rb := Aside0.mk (Kd.C_below Rb.out hb)
  have Rc := Aside0.mk (Kd.C_below Rc.out hb)
  have Rj := Aside0.mk (Kd.C_below Rj.out hb)
  have Rmm := Aside0.mk (Kd.C_below Rmm.out hb)
  have HB := Aside0.mk (HB.out.trans (hb.mono HB.out.size))
  clear hb
  clear Ra HCa Rb HCb Rc HCc Rj HCj Rmm HCmm Hj Hmm Hac Hbc Hjc Hmc
  rcases C2.out with rfl | rfl | rfl | rfl <;> rcases C3.out with rfl | rfl | rfl | rfl <;> rcases C4.out with rfl | rfl | rfl | rfl <;> first | (exact absurd Hab.out (by decide)) | (exact absurd Hbe.out (by decide)) | (clear C2 C3 C4 Hab Hbe; go_wp2_with fail; go_ret; exact ⟨rfl, HB.out⟩)
set_option maxHeartbeats 8000000 in
set_option maxRecDepth 100000 in
theorem VectorLeast_walk_p1 (k : Nat) (hk : 4000 ≤ k) (Aa : Option Addr) (ca : Nat) (a : List S24) (Ab : Option Addr) (cb : Nat) (b : List S24) (Ac : Option Addr) (cc : Nat) (c : List S24) (w : World) (hGG : GlobG w) (hGL : GlobL w) (hra : Kd.C k24 w Aa a.length a) (hca : a.length ≤ ca) (hrb : Kd.C k24 w Ab b.length b) (hcb : b.length ≤ cb) (hrc : Kd.C k24 w Ac c.length c) (hcc : c.length ≤ cc)
    (hmain : a.length ≤ 600 → b.length ≤ 600 → c.length ≤ 600 → Valid a → Valid b → Valid c → ∃ (bc jc mc : Int) (j mm : List S24), vector_Join.f k a b = some (j, 0) ∧ vector_Meet.f k a b = some (mm, 0) ∧ vector_Compare.f k a c = some ((1 : Int), 0) ∧ vector_Compare.f k b c = some (bc, 0) ∧ vector_Compare.f k j c = some (jc, 0) ∧ vector_Compare.f k mm c = some (mc, 0) ∧ (bc = -1 ∨ bc = 0 ∨ bc = 1 ∨ bc = 2) ∧ (jc = -1 ∨ jc = 0 ∨ jc = 1 ∨ jc = 2) ∧ (mc = -1 ∨ mc = 0 ∨ mc = 1 ∨ mc = 2) ∧ (((1 : Int) ≤ 0 ∧ bc ≤ 0) ↔ jc ≤ 0) ∧ ((((1 : Int) = 0 ∨ (1 : Int) = 1) ∧ (bc = 0 ∨ bc = 1)) ↔ (mc = 0 ∨ mc = 1))) :
    Calls Tryd.prog 10 #[.slice Aa a.length ca, .slice Ab b.length cb, .slice Ac c.length cc] w fun e w' => e = .returned (.bool true) ∧ Below w.heap.size w w' := by
  have Ra := Aside0.mk hra
  have HCa := Aside0.mk hca
  have Rb := Aside0.mk hrb
  have HCb := Aside0.mk hcb
  have Rc := Aside0.mk hrc
  have HCc := Aside0.mk hcc
  have HGG := Aside0.mk hGG
  have HGL := Aside0.mk hGL
  clear hra hca hrb hcb hrc hcc hGG hGL
  have HB := Aside0.mk (Below.refl w.heap.size w)
  have HM := Aside0.mk hmain
  clear hmain
  go_enter Tryd.func10, Tryd.ntmps10
  go_wp2_with fail
  refine (chartroomlaw12_sane.calls 20 true w (GlobG_below HGG.out HB.out) (GlobL_below HGL.out HB.out) (if_pos (by omega))).mono ?_
  rintro e W1 ⟨rfl, hb⟩
  have Ra := Aside0.mk (Kd.C_below Ra.out hb)
  have Rb := Aside0.mk (Kd.C_below Rb.out hb)
  have Rc := Aside0.mk (Kd.C_below Rc.out hb)
  have HB := Aside0.mk (HB.out.trans (hb.mono HB.out.size))
  clear hb
  go_wp2_with fail
  by_cases fa : (a.length : Int) ≤ 600
  case neg =>
    have Fa : chartroomref12_Few.f a = some false := congrArg some (decide_eq_false fa)
    refine (chartroomref12_Few.calls _ _ a false W1 Ra.out HCa.out Fa).mono ?_
    rintro e W2 ⟨rfl, hd⟩
    have hb := hd.below
    clear hd
    have Ra := Aside0.mk (Kd.C_below Ra.out hb)
    have Rb := Aside0.mk (Kd.C_below Rb.out hb)
    have Rc := Aside0.mk (Kd.C_below Rc.out hb)
    have HB := Aside0.mk (HB.out.trans (hb.mono HB.out.size))
    clear hb
    go_wp2_with fail
    go_ret
    exact ⟨rfl, HB.out⟩
  have Fa : chartroomref12_Few.f a = some true := congrArg some (decide_eq_true fa)
  refine (chartroomref12_Few.calls _ _ a true W1 Ra.out HCa.out Fa).mono ?_
  rintro e W2 ⟨rfl, hd⟩
  have hb := hd.below
  clear hd
  have Ra := Aside0.mk (Kd.C_below Ra.out hb)
  have Rb := Aside0.mk (Kd.C_below Rb.out hb)
  have Rc := Aside0.mk (Kd.C_below Rc.out hb)
  have HB := Aside0.mk (HB.out.trans (hb.mono HB.out.size))
  clear hb
  clear Fa
  go_wp2_with fail
  by_cases fb : (b.length : Int) ≤ 600
  case neg =>
    have Fb : chartroomref12_Few.f b = some false := congrArg some (decide_eq_false fb)
    refine (chartroomref12_Few.calls _ _ b false W2 Rb.out HCb.out Fb).mono ?_
    rintro e W3 ⟨rfl, hd⟩
    have hb := hd.below
    clear hd
    have Ra := Aside0.mk (Kd.C_below Ra.out hb)
    have Rb := Aside0.mk (Kd.C_below Rb.out hb)
    have Rc := Aside0.mk (Kd.C_below Rc.out hb)
    have HB := Aside0.mk (HB.out.trans (hb.mono HB.out.size))
    clear hb
    go_wp2_with fail
    go_ret
    exact ⟨rfl, HB.out⟩
  have Fb : chartroomref12_Few.f b = some true := congrArg some (decide_eq_true fb)
  refine (chartroomref12_Few.calls _ _ b true W2 Rb.out HCb.out Fb).mono ?_
  rintro e W3 ⟨rfl, hd⟩
  have hb := hd.below
  clear hd
  have Ra := Aside0.mk (Kd.C_below Ra.out hb)
  have Rb := Aside0.mk (Kd.C_below Rb.out hb)
  have Rc := Aside0.mk (Kd.C_below Rc.out hb)
  have HB := Aside0.mk (HB.out.trans (hb.mono HB.out.size))
  clear hb
  clear Fb
  go_wp2_with fail
  by_cases fc : (c.length : Int) ≤ 600
  case neg =>
    have Fc : chartroomref12_Few.f c = some false := congrArg some (decide_eq_false fc)
    refine (chartroomref12_Few.calls _ _ c false W3 Rc.out HCc.out Fc).mono ?_
    rintro e W4 ⟨rfl, hd⟩
    have hb := hd.below
    clear hd
    have Ra := Aside0.mk (Kd.C_below Ra.out hb)
    have Rb := Aside0.mk (Kd.C_below Rb.out hb)
    have Rc := Aside0.mk (Kd.C_below Rc.out hb)
    have HB := Aside0.mk (HB.out.trans (hb.mono HB.out.size))
    clear hb
    go_wp2_with fail
    go_ret
    exact ⟨rfl, HB.out⟩
  have Fc : chartroomref12_Few.f c = some true := congrArg some (decide_eq_true fc)
  refine (chartroomref12_Few.calls _ _ c true W3 Rc.out HCc.out Fc).mono ?_
  rintro e W4 ⟨rfl, hd⟩
  have hb := hd.below
  clear hd
  have Ra := Aside0.mk (Kd.C_below Ra.out hb)
  have Rb := Aside0.mk (Kd.C_below Rb.out hb)
  have Rc := Aside0.mk (Kd.C_below Rc.out hb)
  have HB := Aside0.mk (HB.out.trans (hb.mono HB.out.size))
  clear hb
  clear Fc
  go_wp2_with fail
  by_cases va : Valid a
  case neg =>
    have Va : vector_Check.f k a = some 120 := (vCheck_eq k a (by omega) (by omega)).trans (congrArg some (if_neg va))
    refine (vector_Check.calls k _ _ a 120 W4 Ra.out HCa.out Va).mono ?_
    rintro e W5 ⟨rfl, hb⟩
    have Ra := Aside0.mk (Kd.C_below Ra.out hb)
    have Rb := Aside0.mk (Kd.C_below Rb.out hb)
    have Rc := Aside0.mk (Kd.C_below Rc.out hb)
    have HB := Aside0.mk (HB.out.trans (hb.mono HB.out.size))
    clear hb
    go_wp2_with fail
    go_ret
    exact ⟨rfl, HB.out⟩
  have Va : vector_Check.f k a = some 0 := (vCheck_eq k a (by omega) (by omega)).trans (congrArg some (if_pos va))
  refine (vector_Check.calls k _ _ a 0 W4 Ra.out HCa.out Va).mono ?_
  rintro e W5 ⟨rfl, hb⟩
  have Ra := Aside0.mk (Kd.C_below Ra.out hb)
  have Rb := Aside0.mk (Kd.C_below Rb.out hb)
  have Rc := Aside0.mk (Kd.C_below Rc.out hb)
  have HB := Aside0.mk (HB.out.trans (hb.mono HB.out.size))
  clear hb
  clear Va
  go_wp2_with fail
  by_cases vb : Valid b
  case neg =>
    have Vb : vector_Check.f k b = some 120 := (vCheck_eq k b (by omega) (by omega)).trans (congrArg some (if_neg vb))
    refine (vector_Check.calls k _ _ b 120 W5 Rb.out HCb.out Vb).mono ?_
    rintro e W6 ⟨rfl, hb⟩
    have Ra := Aside0.mk (Kd.C_below Ra.out hb)
    have Rb := Aside0.mk (Kd.C_below Rb.out hb)
    have Rc := Aside0.mk (Kd.C_below Rc.out hb)
    have HB := Aside0.mk (HB.out.trans (hb.mono HB.out.size))
    clear hb
    go_wp2_with fail
    go_ret
    exact ⟨rfl, HB.out⟩
  have Vb : vector_Check.f k b = some 0 := (vCheck_eq k b (by omega) (by omega)).trans (congrArg some (if_pos vb))
  refine (vector_Check.calls k _ _ b 0 W5 Rb.out HCb.out Vb).mono ?_
  rintro e W6 ⟨rfl, hb⟩
  have Ra := Aside0.mk (Kd.C_below Ra.out hb)
  have Rb := Aside0.mk (Kd.C_below Rb.out hb)
  have Rc := Aside0.mk (Kd.C_below Rc.out hb)
  have HB := Aside0.mk (HB.out.trans (hb.mono HB.out.size))
  clear hb
  clear Vb
  go_wp2_with fail
  by_cases vc : Valid c
  case neg =>
    have Vc : vector_Check.f k c = some 120 := (vCheck_eq k c (by omega) (by omega)).trans (congrArg some (if_neg vc))
    refine (vector_Check.calls k _ _ c 120 W6 Rc.out HCc.out Vc).mono ?_
    rintro e W7 ⟨rfl, hb⟩
    have Ra := Aside0.mk (Kd.C_below Ra.out hb)
    have Rb := Aside0.mk (Kd.C_below Rb.out hb)
    have Rc := Aside0.mk (Kd.C_below Rc.out hb)
    have HB := Aside0.mk (HB.out.trans (hb.mono HB.out.size))
    clear hb
    go_wp2_with fail
    go_ret
    exact ⟨rfl, HB.out⟩
  have Vc : vector_Check.f k c = some 0 := (vCheck_eq k c (by omega) (by omega)).trans (congrArg some (if_pos vc))
  refine (vector_Check.calls k _ _ c 0 W6 Rc.out HCc.out Vc).mono ?_
  rintro e W7 ⟨rfl, hb⟩
  have Ra := Aside0.mk (Kd.C_below Ra.out hb)
  have Rb := Aside0.mk (Kd.C_below Rb.out hb)
  have Rc := Aside0.mk (Kd.C_below Rc.out hb)
  have HB := Aside0.mk (HB.out.trans (hb.mono HB.out.size))
  clear hb
  clear Vc
  go_wp2_with fail
  obtain ⟨bc, jc, mc, j, mm, Hj, Hmm, Hac, Hbc, Hjc, Hmc, C2, C3, C4, Hab, Hbe⟩ := HM.out (by omega) (by omega) (by omega) va vb vc
  replace Hj := Aside0.mk Hj
  replace Hmm := Aside0.mk Hmm
  replace Hac := Aside0.mk Hac
  replace Hbc := Aside0.mk Hbc
  replace Hjc := Aside0.mk Hjc
  replace Hmc := Aside0.mk Hmc
  replace C2 := Aside0.mk C2
  replace C3 := Aside0.mk C3
  replace C4 := Aside0.mk C4
  replace Hab := Aside0.mk Hab
  replace Hbe := Aside0.mk Hbe
  clear HM va vb vc fa fb fc
  refine (vector_Join.calls k _ _ a _ _ b j 0 W7 (GlobG_below HGG.out HB.out) Ra.out HCa.out Rb.out HCb.out Hj.out).mono ?_
  rintro e W8 ⟨v_, rfl, hR, hb⟩
  have Ra := Aside0.mk (Kd.C_below Ra.out hb)
  have Rb := Aside0.mk (Kd.C_below Rb.out hb)
  have Rc := Aside0.mk (Kd.C_below Rc.out hb)
  obtain ⟨Aj, cj, rfl, hc_, hC_⟩ := Kd.R_reads hR
  have Rj := Aside0.mk hC_
  have HCj := Aside0.mk hc_
  clear hR hc_ hC_
  have HB := Aside0.mk (HB.out.trans (hb.mono HB.out.size))
  clear hb
  go_wp2_with fail
  refine (vector_Meet.calls k _ _ a _ _ b mm 0 W8 (GlobL_below HGL.out HB.out) Ra.out HCa.out Rb.out HCb.out Hmm.out).mono ?_
  rintro e W9 ⟨v_, rfl, hR, hb⟩
  have Ra := Aside0.mk (Kd.C_below Ra.out hb)
  have Rb := Aside0.mk (Kd.C_below Rb.out hb)
  have Rc := Aside0.mk (Kd.C_below Rc.out hb)
  have Rj := Aside0.mk (Kd.C_below Rj.out hb)
  obtain ⟨Amm, cmm, rfl, hc_, hC_⟩ := Kd.R_reads hR
  have Rmm := Aside0.mk hC_
  have HCmm := Aside0.mk hc_
  clear hR hc_ hC_
  have HB := Aside0.mk (HB.out.trans (hb.mono HB.out.size))
  clear hb
  go_wp2_with fail
  refine (vector_Compare.calls k _ _ a _ _ c (1 : Int) 0 W9 Ra.out HCa.out Rc.out HCc.out Hac.out).mono ?_
  rintro e W10 ⟨rfl, hb⟩
  have Ra := Aside0.mk (Kd.C_below Ra.out hb)
  have Rb := Aside0.mk (Kd.C_below Rb.out hb)
  have Rc := Aside0.mk (Kd.C_below Rc.out hb)
  have Rj := Aside0.mk (Kd.C_below Rj.out hb)
  have Rmm := Aside0.mk (Kd.C_below Rmm.out hb)
  have HB := Aside0.mk (HB.out.trans (hb.mono HB.out.size))
  clear hb
  go_wp2_with fail
  refine (vector_Compare.calls k _ _ b _ _ c bc 0 W10 Rb.out HCb.out Rc.out HCc.out Hbc.out).mono ?_
  rintro e W11 ⟨rfl, hb⟩
  have Ra := Aside0.mk (Kd.C_below Ra.out hb)
  have Rb := Aside0.mk (Kd.C_below Rb.out hb)
  have Rc := Aside0.mk (Kd.C_below Rc.out hb)
  have Rj := Aside0.mk (Kd.C_below Rj.out hb)
  have Rmm := Aside0.mk (Kd.C_below Rmm.out hb)
  have HB := Aside0.mk (HB.out.trans (hb.mono HB.out.size))
  clear hb
  go_wp2_with fail
  refine (vector_Compare.calls k _ _ j _ _ c jc 0 W11 Rj.out HCj.out Rc.out HCc.out Hjc.out).mono ?_
  rintro e W12 ⟨rfl, hb⟩
  have Ra := Aside0.mk (Kd.C_below Ra.out hb)
  have Rb := Aside0.mk (Kd.C_below Rb.out hb)
  have Rc := Aside0.mk (Kd.C_below Rc.out hb)
  have Rj := Aside0.mk (Kd.C_below Rj.out hb)
  have Rmm := Aside0.mk (Kd.C_below Rmm.out hb)
  have HB := Aside0.mk (HB.out.trans (hb.mono HB.out.size))
  clear hb
  go_wp2_with fail
  refine (vector_Compare.calls k _ _ mm _ _ c mc 0 W12 Rmm.out HCmm.out Rc.out HCc.out Hmc.out).mono ?_
  rintro e W13 ⟨rfl, hb⟩
  have Ra := Aside0.mk (Kd.C_below Ra.out hb)
  have Rb := Aside0.mk (Kd.C_below Rb.out hb)
  have Rc := Aside0.mk (Kd.C_below Rc.out hb)
  have Rj := Aside0.mk (Kd.C_below Rj.out hb)
  have Rmm := Aside0.mk (Kd.C_below Rmm.out hb)
  have HB := Aside0.mk (HB.out.trans (hb.mono HB.out.size))
  clear hb
  clear Ra HCa Rb HCb Rc HCc Rj HCj Rmm HCmm Hj Hmm Hac Hbc Hjc Hmc
  rcases C2.out with rfl | rfl | rfl | rfl <;> rcases C3.out with rfl | rfl | rfl | rfl <;> rcases C4.out with rfl | rfl | rfl | rfl <;> first | (exact absurd Hab.out (by decide)) | (exact absurd Hbe.out (by decide)) | (clear C2 C3 C4 Hab Hbe; go_wp2_with fail; go_ret; exact ⟨rfl, HB.out⟩)
set_option maxHeartbeats 8000000 in
set_option maxRecDepth 100000 in
theorem VectorLeast_walk_p2 (k : Nat) (hk : 4000 ≤ k) (Aa : Option Addr) (ca : Nat) (a : List S24) (Ab : Option Addr) (cb : Nat) (b : List S24) (Ac : Option Addr) (cc : Nat) (c : List S24) (w : World) (hGG : GlobG w) (hGL : GlobL w) (hra : Kd.C k24 w Aa a.length a) (hca : a.length ≤ ca) (hrb : Kd.C k24 w Ab b.length b) (hcb : b.length ≤ cb) (hrc : Kd.C k24 w Ac c.length c) (hcc : c.length ≤ cc)
    (hmain : a.length ≤ 600 → b.length ≤ 600 → c.length ≤ 600 → Valid a → Valid b → Valid c → ∃ (bc jc mc : Int) (j mm : List S24), vector_Join.f k a b = some (j, 0) ∧ vector_Meet.f k a b = some (mm, 0) ∧ vector_Compare.f k a c = some ((2 : Int), 0) ∧ vector_Compare.f k b c = some (bc, 0) ∧ vector_Compare.f k j c = some (jc, 0) ∧ vector_Compare.f k mm c = some (mc, 0) ∧ (bc = -1 ∨ bc = 0 ∨ bc = 1 ∨ bc = 2) ∧ (jc = -1 ∨ jc = 0 ∨ jc = 1 ∨ jc = 2) ∧ (mc = -1 ∨ mc = 0 ∨ mc = 1 ∨ mc = 2) ∧ (((2 : Int) ≤ 0 ∧ bc ≤ 0) ↔ jc ≤ 0) ∧ ((((2 : Int) = 0 ∨ (2 : Int) = 1) ∧ (bc = 0 ∨ bc = 1)) ↔ (mc = 0 ∨ mc = 1))) :
    Calls Tryd.prog 10 #[.slice Aa a.length ca, .slice Ab b.length cb, .slice Ac c.length cc] w fun e w' => e = .returned (.bool true) ∧ Below w.heap.size w w' := by
  have Ra := Aside0.mk hra
  have HCa := Aside0.mk hca
  have Rb := Aside0.mk hrb
  have HCb := Aside0.mk hcb
  have Rc := Aside0.mk hrc
  have HCc := Aside0.mk hcc
  have HGG := Aside0.mk hGG
  have HGL := Aside0.mk hGL
  clear hra hca hrb hcb hrc hcc hGG hGL
  have HB := Aside0.mk (Below.refl w.heap.size w)
  have HM := Aside0.mk hmain
  clear hmain
  go_enter Tryd.func10, Tryd.ntmps10
  go_wp2_with fail
  refine (chartroomlaw12_sane.calls 20 true w (GlobG_below HGG.out HB.out) (GlobL_below HGL.out HB.out) (if_pos (by omega))).mono ?_
  rintro e W1 ⟨rfl, hb⟩
  have Ra := Aside0.mk (Kd.C_below Ra.out hb)
  have Rb := Aside0.mk (Kd.C_below Rb.out hb)
  have Rc := Aside0.mk (Kd.C_below Rc.out hb)
  have HB := Aside0.mk (HB.out.trans (hb.mono HB.out.size))
  clear hb
  go_wp2_with fail
  by_cases fa : (a.length : Int) ≤ 600
  case neg =>
    have Fa : chartroomref12_Few.f a = some false := congrArg some (decide_eq_false fa)
    refine (chartroomref12_Few.calls _ _ a false W1 Ra.out HCa.out Fa).mono ?_
    rintro e W2 ⟨rfl, hd⟩
    have hb := hd.below
    clear hd
    have Ra := Aside0.mk (Kd.C_below Ra.out hb)
    have Rb := Aside0.mk (Kd.C_below Rb.out hb)
    have Rc := Aside0.mk (Kd.C_below Rc.out hb)
    have HB := Aside0.mk (HB.out.trans (hb.mono HB.out.size))
    clear hb
    go_wp2_with fail
    go_ret
    exact ⟨rfl, HB.out⟩
  have Fa : chartroomref12_Few.f a = some true := congrArg some (decide_eq_true fa)
  refine (chartroomref12_Few.calls _ _ a true W1 Ra.out HCa.out Fa).mono ?_
  rintro e W2 ⟨rfl, hd⟩
  have hb := hd.below
  clear hd
  have Ra := Aside0.mk (Kd.C_below Ra.out hb)
  have Rb := Aside0.mk (Kd.C_below Rb.out hb)
  have Rc := Aside0.mk (Kd.C_below Rc.out hb)
  have HB := Aside0.mk (HB.out.trans (hb.mono HB.out.size))
  clear hb
  clear Fa
  go_wp2_with fail
  by_cases fb : (b.length : Int) ≤ 600
  case neg =>
    have Fb : chartroomref12_Few.f b = some false := congrArg some (decide_eq_false fb)
    refine (chartroomref12_Few.calls _ _ b false W2 Rb.out HCb.out Fb).mono ?_
    rintro e W3 ⟨rfl, hd⟩
    have hb := hd.below
    clear hd
    have Ra := Aside0.mk (Kd.C_below Ra.out hb)
    have Rb := Aside0.mk (Kd.C_below Rb.out hb)
    have Rc := Aside0.mk (Kd.C_below Rc.out hb)
    have HB := Aside0.mk (HB.out.trans (hb.mono HB.out.size))
    clear hb
    go_wp2_with fail
    go_ret
    exact ⟨rfl, HB.out⟩
  have Fb : chartroomref12_Few.f b = some true := congrArg some (decide_eq_true fb)
  refine (chartroomref12_Few.calls _ _ b true W2 Rb.out HCb.out Fb).mono ?_
  rintro e W3 ⟨rfl, hd⟩
  have hb := hd.below
  clear hd
  have Ra := Aside0.mk (Kd.C_below Ra.out hb)
  have Rb := Aside0.mk (Kd.C_below Rb.out hb)
  have Rc := Aside0.mk (Kd.C_below Rc.out hb)
  have HB := Aside0.mk (HB.out.trans (hb.mono HB.out.size))
  clear hb
  clear Fb
  go_wp2_with fail
  by_cases fc : (c.length : Int) ≤ 600
  case neg =>
    have Fc : chartroomref12_Few.f c = some false := congrArg some (decide_eq_false fc)
    refine (chartroomref12_Few.calls _ _ c false W3 Rc.out HCc.out Fc).mono ?_
    rintro e W4 ⟨rfl, hd⟩
    have hb := hd.below
    clear hd
    have Ra := Aside0.mk (Kd.C_below Ra.out hb)
    have Rb := Aside0.mk (Kd.C_below Rb.out hb)
    have Rc := Aside0.mk (Kd.C_below Rc.out hb)
    have HB := Aside0.mk (HB.out.trans (hb.mono HB.out.size))
    clear hb
    go_wp2_with fail
    go_ret
    exact ⟨rfl, HB.out⟩
  have Fc : chartroomref12_Few.f c = some true := congrArg some (decide_eq_true fc)
  refine (chartroomref12_Few.calls _ _ c true W3 Rc.out HCc.out Fc).mono ?_
  rintro e W4 ⟨rfl, hd⟩
  have hb := hd.below
  clear hd
  have Ra := Aside0.mk (Kd.C_below Ra.out hb)
  have Rb := Aside0.mk (Kd.C_below Rb.out hb)
  have Rc := Aside0.mk (Kd.C_below Rc.out hb)
  have HB := Aside0.mk (HB.out.trans (hb.mono HB.out.size))
  clear hb
  clear Fc
  go_wp2_with fail
  by_cases va : Valid a
  case neg =>
    have Va : vector_Check.f k a = some 120 := (vCheck_eq k a (by omega) (by omega)).trans (congrArg some (if_neg va))
    refine (vector_Check.calls k _ _ a 120 W4 Ra.out HCa.out Va).mono ?_
    rintro e W5 ⟨rfl, hb⟩
    have Ra := Aside0.mk (Kd.C_below Ra.out hb)
    have Rb := Aside0.mk (Kd.C_below Rb.out hb)
    have Rc := Aside0.mk (Kd.C_below Rc.out hb)
    have HB := Aside0.mk (HB.out.trans (hb.mono HB.out.size))
    clear hb
    go_wp2_with fail
    go_ret
    exact ⟨rfl, HB.out⟩
  have Va : vector_Check.f k a = some 0 := (vCheck_eq k a (by omega) (by omega)).trans (congrArg some (if_pos va))
  refine (vector_Check.calls k _ _ a 0 W4 Ra.out HCa.out Va).mono ?_
  rintro e W5 ⟨rfl, hb⟩
  have Ra := Aside0.mk (Kd.C_below Ra.out hb)
  have Rb := Aside0.mk (Kd.C_below Rb.out hb)
  have Rc := Aside0.mk (Kd.C_below Rc.out hb)
  have HB := Aside0.mk (HB.out.trans (hb.mono HB.out.size))
  clear hb
  clear Va
  go_wp2_with fail
  by_cases vb : Valid b
  case neg =>
    have Vb : vector_Check.f k b = some 120 := (vCheck_eq k b (by omega) (by omega)).trans (congrArg some (if_neg vb))
    refine (vector_Check.calls k _ _ b 120 W5 Rb.out HCb.out Vb).mono ?_
    rintro e W6 ⟨rfl, hb⟩
    have Ra := Aside0.mk (Kd.C_below Ra.out hb)
    have Rb := Aside0.mk (Kd.C_below Rb.out hb)
    have Rc := Aside0.mk (Kd.C_below Rc.out hb)
    have HB := Aside0.mk (HB.out.trans (hb.mono HB.out.size))
    clear hb
    go_wp2_with fail
    go_ret
    exact ⟨rfl, HB.out⟩
  have Vb : vector_Check.f k b = some 0 := (vCheck_eq k b (by omega) (by omega)).trans (congrArg some (if_pos vb))
  refine (vector_Check.calls k _ _ b 0 W5 Rb.out HCb.out Vb).mono ?_
  rintro e W6 ⟨rfl, hb⟩
  have Ra := Aside0.mk (Kd.C_below Ra.out hb)
  have Rb := Aside0.mk (Kd.C_below Rb.out hb)
  have Rc := Aside0.mk (Kd.C_below Rc.out hb)
  have HB := Aside0.mk (HB.out.trans (hb.mono HB.out.size))
  clear hb
  clear Vb
  go_wp2_with fail
  by_cases vc : Valid c
  case neg =>
    have Vc : vector_Check.f k c = some 120 := (vCheck_eq k c (by omega) (by omega)).trans (congrArg some (if_neg vc))
    refine (vector_Check.calls k _ _ c 120 W6 Rc.out HCc.out Vc).mono ?_
    rintro e W7 ⟨rfl, hb⟩
    have Ra := Aside0.mk (Kd.C_below Ra.out hb)
    have Rb := Aside0.mk (Kd.C_below Rb.out hb)
    have Rc := Aside0.mk (Kd.C_below Rc.out hb)
    have HB := Aside0.mk (HB.out.trans (hb.mono HB.out.size))
    clear hb
    go_wp2_with fail
    go_ret
    exact ⟨rfl, HB.out⟩
  have Vc : vector_Check.f k c = some 0 := (vCheck_eq k c (by omega) (by omega)).trans (congrArg some (if_pos vc))
  refine (vector_Check.calls k _ _ c 0 W6 Rc.out HCc.out Vc).mono ?_
  rintro e W7 ⟨rfl, hb⟩
  have Ra := Aside0.mk (Kd.C_below Ra.out hb)
  have Rb := Aside0.mk (Kd.C_below Rb.out hb)
  have Rc := Aside0.mk (Kd.C_below Rc.out hb)
  have HB := Aside0.mk (HB.out.trans (hb.mono HB.out.size))
  clear hb
  clear Vc
  go_wp2_with fail
  obtain ⟨bc, jc, mc, j, mm, Hj, Hmm, Hac, Hbc, Hjc, Hmc, C2, C3, C4, Hab, Hbe⟩ := HM.out (by omega) (by omega) (by omega) va vb vc
  replace Hj := Aside0.mk Hj
  replace Hmm := Aside0.mk Hmm
  replace Hac := Aside0.mk Hac
  replace Hbc := Aside0.mk Hbc
  replace Hjc := Aside0.mk Hjc
  replace Hmc := Aside0.mk Hmc
  replace C2 := Aside0.mk C2
  replace C3 := Aside0.mk C3
  replace C4 := Aside0.mk C4
  replace Hab := Aside0.mk Hab
  replace Hbe := Aside0.mk Hbe
  clear HM va vb vc fa fb fc
  refine (vector_Join.calls k _ _ a _ _ b j 0 W7 (GlobG_below HGG.out HB.out) Ra.out HCa.out Rb.out HCb.out Hj.out).mono ?_
  rintro e W8 ⟨v_, rfl, hR, hb⟩
  have Ra := Aside0.mk (Kd.C_below Ra.out hb)
  have Rb := Aside0.mk (Kd.C_below Rb.out hb)
  have Rc := Aside0.mk (Kd.C_below Rc.out hb)
  obtain ⟨Aj, cj, rfl, hc_, hC_⟩ := Kd.R_reads hR
  have Rj := Aside0.mk hC_
  have HCj := Aside0.mk hc_
  clear hR hc_ hC_
  have HB := Aside0.mk (HB.out.trans (hb.mono HB.out.size))
  clear hb
  go_wp2_with fail
  refine (vector_Meet.calls k _ _ a _ _ b mm 0 W8 (GlobL_below HGL.out HB.out) Ra.out HCa.out Rb.out HCb.out Hmm.out).mono ?_
  rintro e W9 ⟨v_, rfl, hR, hb⟩
  have Ra := Aside0.mk (Kd.C_below Ra.out hb)
  have Rb := Aside0.mk (Kd.C_below Rb.out hb)
  have Rc := Aside0.mk (Kd.C_below Rc.out hb)
  have Rj := Aside0.mk (Kd.C_below Rj.out hb)
  obtain ⟨Amm, cmm, rfl, hc_, hC_⟩ := Kd.R_reads hR
  have Rmm := Aside0.mk hC_
  have HCmm := Aside0.mk hc_
  clear hR hc_ hC_
  have HB := Aside0.mk (HB.out.trans (hb.mono HB.out.size))
  clear hb
  go_wp2_with fail
  refine (vector_Compare.calls k _ _ a _ _ c (2 : Int) 0 W9 Ra.out HCa.out Rc.out HCc.out Hac.out).mono ?_
  rintro e W10 ⟨rfl, hb⟩
  have Ra := Aside0.mk (Kd.C_below Ra.out hb)
  have Rb := Aside0.mk (Kd.C_below Rb.out hb)
  have Rc := Aside0.mk (Kd.C_below Rc.out hb)
  have Rj := Aside0.mk (Kd.C_below Rj.out hb)
  have Rmm := Aside0.mk (Kd.C_below Rmm.out hb)
  have HB := Aside0.mk (HB.out.trans (hb.mono HB.out.size))
  clear hb
  go_wp2_with fail
  refine (vector_Compare.calls k _ _ b _ _ c bc 0 W10 Rb.out HCb.out Rc.out HCc.out Hbc.out).mono ?_
  rintro e W11 ⟨rfl, hb⟩
  have Ra := Aside0.mk (Kd.C_below Ra.out hb)
  have Rb := Aside0.mk (Kd.C_below Rb.out hb)
  have Rc := Aside0.mk (Kd.C_below Rc.out hb)
  have Rj := Aside0.mk (Kd.C_below Rj.out hb)
  have Rmm := Aside0.mk (Kd.C_below Rmm.out hb)
  have HB := Aside0.mk (HB.out.trans (hb.mono HB.out.size))
  clear hb
  go_wp2_with fail
  refine (vector_Compare.calls k _ _ j _ _ c jc 0 W11 Rj.out HCj.out Rc.out HCc.out Hjc.out).mono ?_
  rintro e W12 ⟨rfl, hb⟩
  have Ra := Aside0.mk (Kd.C_below Ra.out hb)
  have Rb := Aside0.mk (Kd.C_below Rb.out hb)
  have Rc := Aside0.mk (Kd.C_below Rc.out hb)
  have Rj := Aside0.mk (Kd.C_below Rj.out hb)
  have Rmm := Aside0.mk (Kd.C_below Rmm.out hb)
  have HB := Aside0.mk (HB.out.trans (hb.mono HB.out.size))
  clear hb
  go_wp2_with fail
  refine (vector_Compare.calls k _ _ mm _ _ c mc 0 W12 Rmm.out HCmm.out Rc.out HCc.out Hmc.out).mono ?_
  rintro e W13 ⟨rfl, hb⟩
  have Ra := Aside0.mk (Kd.C_below Ra.out hb)
  have Rb := Aside0.mk (Kd.C_below Rb.out hb)
  have Rc := Aside0.mk (Kd.C_below Rc.out hb)
  have Rj := Aside0.mk (Kd.C_below Rj.out hb)
  have Rmm := Aside0.mk (Kd.C_below Rmm.out hb)
  have HB := Aside0.mk (HB.out.trans (hb.mono HB.out.size))
  clear hb
  clear Ra HCa Rb HCb Rc HCc Rj HCj Rmm HCmm Hj Hmm Hac Hbc Hjc Hmc
  rcases C2.out with rfl | rfl | rfl | rfl <;> rcases C3.out with rfl | rfl | rfl | rfl <;> rcases C4.out with rfl | rfl | rfl | rfl <;> first | (exact absurd Hab.out (by decide)) | (exact absurd Hbe.out (by decide)) | (clear C2 C3 C4 Hab Hbe; go_wp2_with fail; go_ret; exact ⟨rfl, HB.out⟩)
theorem VectorLeast_walk (k : Nat) (hk : 4000 ≤ k) (Aa : Option Addr) (ca : Nat) (a : List S24) (Ab : Option Addr) (cb : Nat) (b : List S24) (Ac : Option Addr) (cc : Nat) (c : List S24) (w : World) (hGG : GlobG w) (hGL : GlobL w) (hra : Kd.C k24 w Aa a.length a) (hca : a.length ≤ ca) (hrb : Kd.C k24 w Ab b.length b) (hcb : b.length ≤ cb) (hrc : Kd.C k24 w Ac c.length c) (hcc : c.length ≤ cc)
    (hmain : a.length ≤ 600 → b.length ≤ 600 → c.length ≤ 600 → Valid a → Valid b → Valid c → ∃ (ac bc jc mc : Int) (j mm : List S24), vector_Join.f k a b = some (j, 0) ∧ vector_Meet.f k a b = some (mm, 0) ∧ vector_Compare.f k a c = some (ac, 0) ∧ vector_Compare.f k b c = some (bc, 0) ∧ vector_Compare.f k j c = some (jc, 0) ∧ vector_Compare.f k mm c = some (mc, 0) ∧ (ac = -1 ∨ ac = 0 ∨ ac = 1 ∨ ac = 2) ∧ (bc = -1 ∨ bc = 0 ∨ bc = 1 ∨ bc = 2) ∧ (jc = -1 ∨ jc = 0 ∨ jc = 1 ∨ jc = 2) ∧ (mc = -1 ∨ mc = 0 ∨ mc = 1 ∨ mc = 2) ∧ ((ac ≤ 0 ∧ bc ≤ 0) ↔ jc ≤ 0) ∧ (((ac = 0 ∨ ac = 1) ∧ (bc = 0 ∨ bc = 1)) ↔ (mc = 0 ∨ mc = 1))) :
    Calls Tryd.prog 10 #[.slice Aa a.length ca, .slice Ab b.length cb, .slice Ac c.length cc] w fun e w' => e = .returned (.bool true) ∧ Below w.heap.size w w' := by
  by_cases hv : a.length ≤ 600 ∧ b.length ≤ 600 ∧ c.length ≤ 600 ∧ Valid a ∧ Valid b ∧ Valid c
  · obtain ⟨ac, bc, jc, mc, j, mm, h1, h2, h3, h4, h5, h6, C1, h⟩ := hmain hv.1 hv.2.1 hv.2.2.1 hv.2.2.2.1 hv.2.2.2.2.1 hv.2.2.2.2.2
    rcases C1 with rfl | rfl | rfl | rfl
    · exact VectorLeast_walk_m1 k hk Aa ca a Ab cb b Ac cc c w hGG hGL hra hca hrb hcb hrc hcc (fun _ _ _ _ _ _ => ⟨bc, jc, mc, j, mm, h1, h2, h3, h4, h5, h6, h⟩)
    · exact VectorLeast_walk_p0 k hk Aa ca a Ab cb b Ac cc c w hGG hGL hra hca hrb hcb hrc hcc (fun _ _ _ _ _ _ => ⟨bc, jc, mc, j, mm, h1, h2, h3, h4, h5, h6, h⟩)
    · exact VectorLeast_walk_p1 k hk Aa ca a Ab cb b Ac cc c w hGG hGL hra hca hrb hcb hrc hcc (fun _ _ _ _ _ _ => ⟨bc, jc, mc, j, mm, h1, h2, h3, h4, h5, h6, h⟩)
    · exact VectorLeast_walk_p2 k hk Aa ca a Ab cb b Ac cc c w hGG hGL hra hca hrb hcb hrc hcc (fun _ _ _ _ _ _ => ⟨bc, jc, mc, j, mm, h1, h2, h3, h4, h5, h6, h⟩)
  · exact VectorLeast_walk_m1 k hk Aa ca a Ab cb b Ac cc c w hGG hGL hra hca hrb hcb hrc hcc (fun x1 x2 x3 x4 x5 x6 => absurd ⟨x1, x2, x3, x4, x5, x6⟩ hv)
end Go.Proofs.YtncejmjicjlanaaDoor.Q

