/- The walk of VectorOrder: its calls one after the other by their contracts, every value on the way told by a plain fact. Written by gen_walk.py of this session. -/
import Derived.Test.YtncejmjicjlanaaDoorEval
import Derived.Test.YtncejmjicjlanaaDoorQ6
import Derived.Test.YtncejmjicjlanaaDoorHandSane
namespace Go.Proofs.YtncejmjicjlanaaDoor.Q
open Go.RowKit Go.Proofs.YtncejmjicjlanaaDoorW.PrintWords Go.Proofs.YtncejmjicjlanaaDoorW.PrintLast Go.Proofs.YtncejmjicjlanaaDoorW.PrintMore
set_option linter.unusedVariables false
set_option linter.unusedSimpArgs false

set_option maxHeartbeats 8000000 in
set_option maxRecDepth 100000 in
theorem VectorOrder_walk (k : Nat) (hk : 4000 ≤ k) (Aa : Option Addr) (ca : Nat) (a : List S24) (Ab : Option Addr) (cb : Nat) (b : List S24) (Ac : Option Addr) (cc : Nat) (c : List S24) (w : World) (hGG : GlobG w) (hGL : GlobL w) (hra : Kd.C k24 w Aa a.length a) (hca : a.length ≤ ca) (hrb : Kd.C k24 w Ab b.length b) (hcb : b.length ≤ cb) (hrc : Kd.C k24 w Ac c.length c) (hcc : c.length ≤ cc)
    (hmain : a.length ≤ 600 → b.length ≤ 600 → c.length ≤ 600 → Valid a → Valid b → Valid c → ∃ (n m bc ac : Int) (j mm : List S24) (s1 s2 s3 : Bool), vector_Compare.f k a b = some (n, 0) ∧ vector_Compare.f k b a = some (m, 0) ∧ vector_Compare.f k b c = some (bc, 0) ∧ vector_Compare.f k a c = some (ac, 0) ∧ vector_Join.f k a b = some (j, 0) ∧ vector_Meet.f k a b = some (mm, 0) ∧ chartroomref12_Same.f k a b = some s1 ∧ chartroomref12_Same.f k j b = some s2 ∧ chartroomref12_Same.f k mm a = some s3 ∧ ((n = -1 ∧ m = 1 ∧ s1 = false ∧ s2 = true ∧ s3 = true) ∨ (n = 0 ∧ m = 0 ∧ s1 = true ∧ s2 = true ∧ s3 = true) ∨ (n = 1 ∧ m = -1 ∧ s1 = false ∧ s2 = false ∧ s3 = false) ∨ (n = 2 ∧ m = 2 ∧ s1 = false ∧ s2 = false ∧ s3 = false)) ∧ (bc = 1 ∨ bc = 2 ∨ bc = -1 ∨ bc = 0) ∧ ((n = -1 ∨ n = 0) → (bc = -1 ∨ bc = 0) → (ac = -1 ∨ ac = 0))) :
    Calls Tryd.prog 8 #[.slice Aa a.length ca, .slice Ab b.length cb, .slice Ac c.length cc] w fun e w' => e = .returned (.bool true) ∧ Below w.heap.size w w' := by
  have Ra := Aside0.mk hra
  have HCa := Aside0.mk hca
  have Rb := Aside0.mk hrb
  have HCb := Aside0.mk hcb
  have Rc := Aside0.mk hrc
  have HCc := Aside0.mk hcc
  have HGG := Aside0.mk hGG
  have HGL := Aside0.mk hGL
  clear hra hca hrb hcb hrc hcc hGG hGL
  have HB := Aside0.mk (Below.refl w.heap.size w)
  have HM := Aside0.mk hmain
  clear hmain
  go_enter Tryd.func8, Tryd.ntmps8
  go_wp2_with fail
  refine (chartroomlaw12_sane.calls 20 true w (GlobG_below HGG.out HB.out) (GlobL_below HGL.out HB.out) (if_pos (by omega))).mono ?_
  rintro e W1 ⟨rfl, hb⟩
  have Ra := Aside0.mk (Kd.C_below Ra.out hb)
  have Rb := Aside0.mk (Kd.C_below Rb.out hb)
  have Rc := Aside0.mk (Kd.C_below Rc.out hb)
  have HB := Aside0.mk (HB.out.trans (hb.mono HB.out.size))
  clear hb
  go_wp2_with fail
  by_cases fa : (a.length : Int) ≤ 600
  case neg =>
    have Fa : chartroomref12_Few.f a = some false := congrArg some (decide_eq_false fa)
    refine (chartroomref12_Few.calls _ _ a false W1 Ra.out HCa.out Fa).mono ?_
    rintro e W2 ⟨rfl, hd⟩
    have hb := hd.below
    clear hd
    have Ra := Aside0.mk (Kd.C_below Ra.out hb)
    have Rb := Aside0.mk (Kd.C_below Rb.out hb)
    have Rc := Aside0.mk (Kd.C_below Rc.out hb)
    have HB := Aside0.mk (HB.out.trans (hb.mono HB.out.size))
    clear hb
    go_wp2_with fail
    go_ret
    exact ⟨rfl, HB.out⟩
  have Fa : chartroomref12_Few.f a = some true := congrArg some (decide_eq_true fa)
  refine (chartroomref12_Few.calls _ _ a true W1 Ra.out HCa.out Fa).mono ?_
  rintro e W2 ⟨rfl, hd⟩
  have hb := hd.below
  clear hd
  have Ra := Aside0.mk (Kd.C_below Ra.out hb)
  have Rb := Aside0.mk (Kd.C_below Rb.out hb)
  have Rc := Aside0.mk (Kd.C_below Rc.out hb)
  have HB := Aside0.mk (HB.out.trans (hb.mono HB.out.size))
  clear hb
  clear Fa
  go_wp2_with fail
  by_cases fb : (b.length : Int) ≤ 600
  case neg =>
    have Fb : chartroomref12_Few.f b = some false := congrArg some (decide_eq_false fb)
    refine (chartroomref12_Few.calls _ _ b false W2 Rb.out HCb.out Fb).mono ?_
    rintro e W3 ⟨rfl, hd⟩
    have hb := hd.below
    clear hd
    have Ra := Aside0.mk (Kd.C_below Ra.out hb)
    have Rb := Aside0.mk (Kd.C_below Rb.out hb)
    have Rc := Aside0.mk (Kd.C_below Rc.out hb)
    have HB := Aside0.mk (HB.out.trans (hb.mono HB.out.size))
    clear hb
    go_wp2_with fail
    go_ret
    exact ⟨rfl, HB.out⟩
  have Fb : chartroomref12_Few.f b = some true := congrArg some (decide_eq_true fb)
  refine (chartroomref12_Few.calls _ _ b true W2 Rb.out HCb.out Fb).mono ?_
  rintro e W3 ⟨rfl, hd⟩
  have hb := hd.below
  clear hd
  have Ra := Aside0.mk (Kd.C_below Ra.out hb)
  have Rb := Aside0.mk (Kd.C_below Rb.out hb)
  have Rc := Aside0.mk (Kd.C_below Rc.out hb)
  have HB := Aside0.mk (HB.out.trans (hb.mono HB.out.size))
  clear hb
  clear Fb
  go_wp2_with fail
  by_cases fc : (c.length : Int) ≤ 600
  case neg =>
    have Fc : chartroomref12_Few.f c = some false := congrArg some (decide_eq_false fc)
    refine (chartroomref12_Few.calls _ _ c false W3 Rc.out HCc.out Fc).mono ?_
    rintro e W4 ⟨rfl, hd⟩
    have hb := hd.below
    clear hd
    have Ra := Aside0.mk (Kd.C_below Ra.out hb)
    have Rb := Aside0.mk (Kd.C_below Rb.out hb)
    have Rc := Aside0.mk (Kd.C_below Rc.out hb)
    have HB := Aside0.mk (HB.out.trans (hb.mono HB.out.size))
    clear hb
    go_wp2_with fail
    go_ret
    exact ⟨rfl, HB.out⟩
  have Fc : chartroomref12_Few.f c = some true := congrArg some (decide_eq_true fc)
  refine (chartroomref12_Few.calls _ _ c true W3 Rc.out HCc.out Fc).mono ?_
  rintro e W4 ⟨rfl, hd⟩
  have hb := hd.below
  clear hd
  have Ra := Aside0.mk (Kd.C_below Ra.out hb)
  have Rb := Aside0.mk (Kd.C_below Rb.out hb)
  have Rc := Aside0.mk (Kd.C_below Rc.out hb)
  have HB := Aside0.mk (HB.out.trans (hb.mono HB.out.size))
  clear hb
  clear Fc
  go_wp2_with fail
  by_cases va : Valid a
  case neg =>
    have Va : vector_Check.f k a = some 120 := (vCheck_eq k a (by omega) (by omega)).trans (congrArg some (if_neg va))
    refine (vector_Check.calls k _ _ a 120 W4 Ra.out HCa.out Va).mono ?_
    rintro e W5 ⟨rfl, hb⟩
    have Ra := Aside0.mk (Kd.C_below Ra.out hb)
    have Rb := Aside0.mk (Kd.C_below Rb.out hb)
    have Rc := Aside0.mk (Kd.C_below Rc.out hb)
    have HB := Aside0.mk (HB.out.trans (hb.mono HB.out.size))
    clear hb
    go_wp2_with fail
    go_ret
    exact ⟨rfl, HB.out⟩
  have Va : vector_Check.f k a = some 0 := (vCheck_eq k a (by omega) (by omega)).trans (congrArg some (if_pos va))
  refine (vector_Check.calls k _ _ a 0 W4 Ra.out HCa.out Va).mono ?_
  rintro e W5 ⟨rfl, hb⟩
  have Ra := Aside0.mk (Kd.C_below Ra.out hb)
  have Rb := Aside0.mk (Kd.C_below Rb.out hb)
  have Rc := Aside0.mk (Kd.C_below Rc.out hb)
  have HB := Aside0.mk (HB.out.trans (hb.mono HB.out.size))
  clear hb
  clear Va
  go_wp2_with fail
  by_cases vb : Valid b
  case neg =>
    have Vb : vector_Check.f k b = some 120 := (vCheck_eq k b (by omega) (by omega)).trans (congrArg some (if_neg vb))
    refine (vector_Check.calls k _ _ b 120 W5 Rb.out HCb.out Vb).mono ?_
    rintro e W6 ⟨rfl, hb⟩
    have Ra := Aside0.mk (Kd.C_below Ra.out hb)
    have Rb := Aside0.mk (Kd.C_below Rb.out hb)
    have Rc := Aside0.mk (Kd.C_below Rc.out hb)
    have HB := Aside0.mk (HB.out.trans (hb.mono HB.out.size))
    clear hb
    go_wp2_with fail
    go_ret
    exact ⟨rfl, HB.out⟩
  have Vb : vector_Check.f k b = some 0 := (vCheck_eq k b (by omega) (by omega)).trans (congrArg some (if_pos vb))
  refine (vector_Check.calls k _ _ b 0 W5 Rb.out HCb.out Vb).mono ?_
  rintro e W6 ⟨rfl, hb⟩
  have Ra := Aside0.mk (Kd.C_below Ra.out hb)
  have Rb := Aside0.mk (Kd.C_below Rb.out hb)
  have Rc := Aside0.mk (Kd.C_below Rc.out hb)
  have HB := Aside0.mk (HB.out.trans (hb.mono HB.out.size))
  clear hb
  clear Vb
  go_wp2_with fail
  by_cases vc : Valid c
  case neg =>
    have Vc : vector_Check.f k c = some 120 := (vCheck_eq k c (by omega) (by omega)).trans (congrArg some (if_neg vc))
    refine (vector_Check.calls k _ _ c 120 W6 Rc.out HCc.out Vc).mono ?_
    rintro e W7 ⟨rfl, hb⟩
    have Ra := Aside0.mk (Kd.C_below Ra.out hb)
    have Rb := Aside0.mk (Kd.C_below Rb.out hb)
    have Rc := Aside0.mk (Kd.C_below Rc.out hb)
    have HB := Aside0.mk (HB.out.trans (hb.mono HB.out.size))
    clear hb
    go_wp2_with fail
    go_ret
    exact ⟨rfl, HB.out⟩
  have Vc : vector_Check.f k c = some 0 := (vCheck_eq k c (by omega) (by omega)).trans (congrArg some (if_pos vc))
  refine (vector_Check.calls k _ _ c 0 W6 Rc.out HCc.out Vc).mono ?_
  rintro e W7 ⟨rfl, hb⟩
  have Ra := Aside0.mk (Kd.C_below Ra.out hb)
  have Rb := Aside0.mk (Kd.C_below Rb.out hb)
  have Rc := Aside0.mk (Kd.C_below Rc.out hb)
  have HB := Aside0.mk (HB.out.trans (hb.mono HB.out.size))
  clear hb
  clear Vc
  go_wp2_with fail
  obtain ⟨n, m, bc, ac, j, mm, s1, s2, s3, Hn, Hm, Hbc, Hac, Hj, Hmm, Hs1, Hs2, Hs3, Hcs, Hbcs, Himp⟩ := HM.out (by omega) (by omega) (by omega) va vb vc
  replace Hn := Aside0.mk Hn
  replace Hm := Aside0.mk Hm
  replace Hbc := Aside0.mk Hbc
  replace Hac := Aside0.mk Hac
  replace Hj := Aside0.mk Hj
  replace Hmm := Aside0.mk Hmm
  replace Hs1 := Aside0.mk Hs1
  replace Hs2 := Aside0.mk Hs2
  replace Hs3 := Aside0.mk Hs3
  replace Hcs := Aside0.mk Hcs
  replace Hbcs := Aside0.mk Hbcs
  replace Himp := Aside0.mk Himp
  clear HM va vb vc fa fb fc
  refine (vector_Compare.calls k _ _ a _ _ b n 0 W7 Ra.out HCa.out Rb.out HCb.out Hn.out).mono ?_
  rintro e W8 ⟨rfl, hb⟩
  have Ra := Aside0.mk (Kd.C_below Ra.out hb)
  have Rb := Aside0.mk (Kd.C_below Rb.out hb)
  have Rc := Aside0.mk (Kd.C_below Rc.out hb)
  have HB := Aside0.mk (HB.out.trans (hb.mono HB.out.size))
  clear hb
  go_wp2_with fail
  refine (vector_Compare.calls k _ _ b _ _ a m 0 W8 Rb.out HCb.out Ra.out HCa.out Hm.out).mono ?_
  rintro e W9 ⟨rfl, hb⟩
  have Ra := Aside0.mk (Kd.C_below Ra.out hb)
  have Rb := Aside0.mk (Kd.C_below Rb.out hb)
  have Rc := Aside0.mk (Kd.C_below Rc.out hb)
  have HB := Aside0.mk (HB.out.trans (hb.mono HB.out.size))
  clear hb
  go_wp2_with fail
  refine (vector_Compare.calls k _ _ b _ _ c bc 0 W9 Rb.out HCb.out Rc.out HCc.out Hbc.out).mono ?_
  rintro e W10 ⟨rfl, hb⟩
  have Ra := Aside0.mk (Kd.C_below Ra.out hb)
  have Rb := Aside0.mk (Kd.C_below Rb.out hb)
  have Rc := Aside0.mk (Kd.C_below Rc.out hb)
  have HB := Aside0.mk (HB.out.trans (hb.mono HB.out.size))
  clear hb
  go_wp2_with fail
  refine (vector_Compare.calls k _ _ a _ _ c ac 0 W10 Ra.out HCa.out Rc.out HCc.out Hac.out).mono ?_
  rintro e W11 ⟨rfl, hb⟩
  have Ra := Aside0.mk (Kd.C_below Ra.out hb)
  have Rb := Aside0.mk (Kd.C_below Rb.out hb)
  have Rc := Aside0.mk (Kd.C_below Rc.out hb)
  have HB := Aside0.mk (HB.out.trans (hb.mono HB.out.size))
  clear hb
  go_wp2_with fail
  refine (vector_Join.calls k _ _ a _ _ b j 0 W11 (GlobG_below HGG.out HB.out) Ra.out HCa.out Rb.out HCb.out Hj.out).mono ?_
  rintro e W12 ⟨v_, rfl, hR, hb⟩
  have Ra := Aside0.mk (Kd.C_below Ra.out hb)
  have Rb := Aside0.mk (Kd.C_below Rb.out hb)
  have Rc := Aside0.mk (Kd.C_below Rc.out hb)
  obtain ⟨Aj, cj, rfl, hc_, hC_⟩ := Kd.R_reads hR
  have Rj := Aside0.mk hC_
  have HCj := Aside0.mk hc_
  clear hR hc_ hC_
  have HB := Aside0.mk (HB.out.trans (hb.mono HB.out.size))
  clear hb
  go_wp2_with fail
  refine (vector_Meet.calls k _ _ a _ _ b mm 0 W12 (GlobL_below HGL.out HB.out) Ra.out HCa.out Rb.out HCb.out Hmm.out).mono ?_
  rintro e W13 ⟨v_, rfl, hR, hb⟩
  have Ra := Aside0.mk (Kd.C_below Ra.out hb)
  have Rb := Aside0.mk (Kd.C_below Rb.out hb)
  have Rc := Aside0.mk (Kd.C_below Rc.out hb)
  have Rj := Aside0.mk (Kd.C_below Rj.out hb)
  obtain ⟨Amm, cmm, rfl, hc_, hC_⟩ := Kd.R_reads hR
  have Rmm := Aside0.mk hC_
  have HCmm := Aside0.mk hc_
  clear hR hc_ hC_
  have HB := Aside0.mk (HB.out.trans (hb.mono HB.out.size))
  clear hb
  rcases Hcs.out with ⟨rfl, rfl, rfl, rfl, rfl⟩ | ⟨rfl, rfl, rfl, rfl, rfl⟩ | ⟨rfl, rfl, rfl, rfl, rfl⟩ | ⟨rfl, rfl, rfl, rfl, rfl⟩
  ·
    clear Hcs
    go_wp2_with fail
    refine (chartroomref12_Same.calls k _ _ a _ _ b false W13 Ra.out HCa.out Rb.out HCb.out Hs1.out).mono ?_
    rintro e W14 ⟨rfl, hd⟩
    have hb := hd.below
    clear hd
    have Ra := Aside0.mk (Kd.C_below Ra.out hb)
    have Rb := Aside0.mk (Kd.C_below Rb.out hb)
    have Rc := Aside0.mk (Kd.C_below Rc.out hb)
    have Rj := Aside0.mk (Kd.C_below Rj.out hb)
    have Rmm := Aside0.mk (Kd.C_below Rmm.out hb)
    have HB := Aside0.mk (HB.out.trans (hb.mono HB.out.size))
    clear hb
    go_wp2_with fail
    refine (chartroomref12_Same.calls k _ _ j _ _ b true W14 Rj.out HCj.out Rb.out HCb.out Hs2.out).mono ?_
    rintro e W15 ⟨rfl, hd⟩
    have hb := hd.below
    clear hd
    have Ra := Aside0.mk (Kd.C_below Ra.out hb)
    have Rb := Aside0.mk (Kd.C_below Rb.out hb)
    have Rc := Aside0.mk (Kd.C_below Rc.out hb)
    have Rj := Aside0.mk (Kd.C_below Rj.out hb)
    have Rmm := Aside0.mk (Kd.C_below Rmm.out hb)
    have HB := Aside0.mk (HB.out.trans (hb.mono HB.out.size))
    clear hb
    go_wp2_with fail
    refine (chartroomref12_Same.calls k _ _ mm _ _ a true W15 Rmm.out HCmm.out Ra.out HCa.out Hs3.out).mono ?_
    rintro e W16 ⟨rfl, hd⟩
    have hb := hd.below
    clear hd
    have Ra := Aside0.mk (Kd.C_below Ra.out hb)
    have Rb := Aside0.mk (Kd.C_below Rb.out hb)
    have Rc := Aside0.mk (Kd.C_below Rc.out hb)
    have Rj := Aside0.mk (Kd.C_below Rj.out hb)
    have Rmm := Aside0.mk (Kd.C_below Rmm.out hb)
    have HB := Aside0.mk (HB.out.trans (hb.mono HB.out.size))
    clear hb
    rcases Hbcs.out with rfl | rfl | rfl | rfl
    ·
      clear Himp Hbcs
      go_wp2_with fail
      go_ret
      exact ⟨rfl, HB.out⟩
    ·
      clear Himp Hbcs
      go_wp2_with fail
      go_ret
      exact ⟨rfl, HB.out⟩
    ·
      have Hacs := Himp.out (by decide) (by decide)
      clear Himp Hbcs
      rcases Hacs with rfl | rfl
      · go_wp2_with fail
        go_ret
        exact ⟨rfl, HB.out⟩
      · go_wp2_with fail
        go_ret
        exact ⟨rfl, HB.out⟩
    ·
      have Hacs := Himp.out (by decide) (by decide)
      clear Himp Hbcs
      rcases Hacs with rfl | rfl
      · go_wp2_with fail
        go_ret
        exact ⟨rfl, HB.out⟩
      · go_wp2_with fail
        go_ret
        exact ⟨rfl, HB.out⟩
  ·
    clear Hcs
    go_wp2_with fail
    refine (chartroomref12_Same.calls k _ _ a _ _ b true W13 Ra.out HCa.out Rb.out HCb.out Hs1.out).mono ?_
    rintro e W14 ⟨rfl, hd⟩
    have hb := hd.below
    clear hd
    have Ra := Aside0.mk (Kd.C_below Ra.out hb)
    have Rb := Aside0.mk (Kd.C_below Rb.out hb)
    have Rc := Aside0.mk (Kd.C_below Rc.out hb)
    have Rj := Aside0.mk (Kd.C_below Rj.out hb)
    have Rmm := Aside0.mk (Kd.C_below Rmm.out hb)
    have HB := Aside0.mk (HB.out.trans (hb.mono HB.out.size))
    clear hb
    go_wp2_with fail
    refine (chartroomref12_Same.calls k _ _ j _ _ b true W14 Rj.out HCj.out Rb.out HCb.out Hs2.out).mono ?_
    rintro e W15 ⟨rfl, hd⟩
    have hb := hd.below
    clear hd
    have Ra := Aside0.mk (Kd.C_below Ra.out hb)
    have Rb := Aside0.mk (Kd.C_below Rb.out hb)
    have Rc := Aside0.mk (Kd.C_below Rc.out hb)
    have Rj := Aside0.mk (Kd.C_below Rj.out hb)
    have Rmm := Aside0.mk (Kd.C_below Rmm.out hb)
    have HB := Aside0.mk (HB.out.trans (hb.mono HB.out.size))
    clear hb
    go_wp2_with fail
    refine (chartroomref12_Same.calls k _ _ mm _ _ a true W15 Rmm.out HCmm.out Ra.out HCa.out Hs3.out).mono ?_
    rintro e W16 ⟨rfl, hd⟩
    have hb := hd.below
    clear hd
    have Ra := Aside0.mk (Kd.C_below Ra.out hb)
    have Rb := Aside0.mk (Kd.C_below Rb.out hb)
    have Rc := Aside0.mk (Kd.C_below Rc.out hb)
    have Rj := Aside0.mk (Kd.C_below Rj.out hb)
    have Rmm := Aside0.mk (Kd.C_below Rmm.out hb)
    have HB := Aside0.mk (HB.out.trans (hb.mono HB.out.size))
    clear hb
    rcases Hbcs.out with rfl | rfl | rfl | rfl
    ·
      clear Himp Hbcs
      go_wp2_with fail
      go_ret
      exact ⟨rfl, HB.out⟩
    ·
      clear Himp Hbcs
      go_wp2_with fail
      go_ret
      exact ⟨rfl, HB.out⟩
    ·
      have Hacs := Himp.out (by decide) (by decide)
      clear Himp Hbcs
      rcases Hacs with rfl | rfl
      · go_wp2_with fail
        go_ret
        exact ⟨rfl, HB.out⟩
      · go_wp2_with fail
        go_ret
        exact ⟨rfl, HB.out⟩
    ·
      have Hacs := Himp.out (by decide) (by decide)
      clear Himp Hbcs
      rcases Hacs with rfl | rfl
      · go_wp2_with fail
        go_ret
        exact ⟨rfl, HB.out⟩
      · go_wp2_with fail
        go_ret
        exact ⟨rfl, HB.out⟩
  ·
    clear Hcs
    go_wp2_with fail
    refine (chartroomref12_Same.calls k _ _ a _ _ b false W13 Ra.out HCa.out Rb.out HCb.out Hs1.out).mono ?_
    rintro e W14 ⟨rfl, hd⟩
    have hb := hd.below
    clear hd
    have Ra := Aside0.mk (Kd.C_below Ra.out hb)
    have Rb := Aside0.mk (Kd.C_below Rb.out hb)
    have Rc := Aside0.mk (Kd.C_below Rc.out hb)
    have Rj := Aside0.mk (Kd.C_below Rj.out hb)
    have Rmm := Aside0.mk (Kd.C_below Rmm.out hb)
    have HB := Aside0.mk (HB.out.trans (hb.mono HB.out.size))
    clear hb
    go_wp2_with fail
    refine (chartroomref12_Same.calls k _ _ j _ _ b false W14 Rj.out HCj.out Rb.out HCb.out Hs2.out).mono ?_
    rintro e W15 ⟨rfl, hd⟩
    have hb := hd.below
    clear hd
    have Ra := Aside0.mk (Kd.C_below Ra.out hb)
    have Rb := Aside0.mk (Kd.C_below Rb.out hb)
    have Rc := Aside0.mk (Kd.C_below Rc.out hb)
    have Rj := Aside0.mk (Kd.C_below Rj.out hb)
    have Rmm := Aside0.mk (Kd.C_below Rmm.out hb)
    have HB := Aside0.mk (HB.out.trans (hb.mono HB.out.size))
    clear hb
    go_wp2_with fail
    refine (chartroomref12_Same.calls k _ _ mm _ _ a false W15 Rmm.out HCmm.out Ra.out HCa.out Hs3.out).mono ?_
    rintro e W16 ⟨rfl, hd⟩
    have hb := hd.below
    clear hd
    have Ra := Aside0.mk (Kd.C_below Ra.out hb)
    have Rb := Aside0.mk (Kd.C_below Rb.out hb)
    have Rc := Aside0.mk (Kd.C_below Rc.out hb)
    have Rj := Aside0.mk (Kd.C_below Rj.out hb)
    have Rmm := Aside0.mk (Kd.C_below Rmm.out hb)
    have HB := Aside0.mk (HB.out.trans (hb.mono HB.out.size))
    clear hb
    go_wp2_with fail
    go_ret
    exact ⟨rfl, HB.out⟩
  ·
    clear Hcs
    go_wp2_with fail
    refine (chartroomref12_Same.calls k _ _ a _ _ b false W13 Ra.out HCa.out Rb.out HCb.out Hs1.out).mono ?_
    rintro e W14 ⟨rfl, hd⟩
    have hb := hd.below
    clear hd
    have Ra := Aside0.mk (Kd.C_below Ra.out hb)
    have Rb := Aside0.mk (Kd.C_below Rb.out hb)
    have Rc := Aside0.mk (Kd.C_below Rc.out hb)
    have Rj := Aside0.mk (Kd.C_below Rj.out hb)
    have Rmm := Aside0.mk (Kd.C_below Rmm.out hb)
    have HB := Aside0.mk (HB.out.trans (hb.mono HB.out.size))
    clear hb
    go_wp2_with fail
    refine (chartroomref12_Same.calls k _ _ j _ _ b false W14 Rj.out HCj.out Rb.out HCb.out Hs2.out).mono ?_
    rintro e W15 ⟨rfl, hd⟩
    have hb := hd.below
    clear hd
    have Ra := Aside0.mk (Kd.C_below Ra.out hb)
    have Rb := Aside0.mk (Kd.C_below Rb.out hb)
    have Rc := Aside0.mk (Kd.C_below Rc.out hb)
    have Rj := Aside0.mk (Kd.C_below Rj.out hb)
    have Rmm := Aside0.mk (Kd.C_below Rmm.out hb)
    have HB := Aside0.mk (HB.out.trans (hb.mono HB.out.size))
    clear hb
    go_wp2_with fail
    refine (chartroomref12_Same.calls k _ _ mm _ _ a false W15 Rmm.out HCmm.out Ra.out HCa.out Hs3.out).mono ?_
    rintro e W16 ⟨rfl, hd⟩
    have hb := hd.below
    clear hd
    have Ra := Aside0.mk (Kd.C_below Ra.out hb)
    have Rb := Aside0.mk (Kd.C_below Rb.out hb)
    have Rc := Aside0.mk (Kd.C_below Rc.out hb)
    have Rj := Aside0.mk (Kd.C_below Rj.out hb)
    have Rmm := Aside0.mk (Kd.C_below Rmm.out hb)
    have HB := Aside0.mk (HB.out.trans (hb.mono HB.out.size))
    clear hb
    go_wp2_with fail
    go_ret
    exact ⟨rfl, HB.out⟩
end Go.Proofs.YtncejmjicjlanaaDoor.Q

