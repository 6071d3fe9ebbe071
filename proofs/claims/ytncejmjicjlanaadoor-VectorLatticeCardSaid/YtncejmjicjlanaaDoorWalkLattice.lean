/- The walk of VectorLattice: its calls one after the other by their contracts, every value on the way told by a plain fact. Written by gen_walk.py of this session. -/
import Derived.Test.YtncejmjicjlanaaDoorEval
import Derived.Test.YtncejmjicjlanaaDoorQ6
import Derived.Test.YtncejmjicjlanaaDoorHandSane
namespace Go.Proofs.YtncejmjicjlanaaDoor.Q
open Go.RowKit Go.Proofs.YtncejmjicjlanaaDoorW.PrintWords Go.Proofs.YtncejmjicjlanaaDoorW.PrintLast Go.Proofs.YtncejmjicjlanaaDoorW.PrintMore
set_option linter.unusedVariables false
set_option linter.unusedSimpArgs false

set_option maxHeartbeats 8000000 in
set_option maxRecDepth 100000 in
theorem VectorLattice_walk (k : Nat) (hk : 4000 ≤ k) (Aa : Option Addr) (ca : Nat) (a : List S24) (Ab : Option Addr) (cb : Nat) (b : List S24) (Ac : Option Addr) (cc : Nat) (c : List S24) (w : World) (hGG : GlobG w) (hGL : GlobL w) (hra : Kd.C k24 w Aa a.length a) (hca : a.length ≤ ca) (hrb : Kd.C k24 w Ab b.length b) (hcb : b.length ≤ cb) (hrc : Kd.C k24 w Ac c.length c) (hcc : c.length ≤ cc)
    (hmain : a.length ≤ 600 → b.length ≤ 600 → c.length ≤ 600 → Valid a → Valid b → Valid c → ∃ ab ba bc lf rt ow mab mba mbc mlf mrt mow up dn : List S24, vector_Join.f k a b = some (ab, 0) ∧ vector_Join.f k b a = some (ba, 0) ∧ vector_Join.f k b c = some (bc, 0) ∧ vector_Join.f k ab c = some (lf, 0) ∧ vector_Join.f k a bc = some (rt, 0) ∧ vector_Join.f k a a = some (ow, 0) ∧ vector_Meet.f k a b = some (mab, 0) ∧ vector_Meet.f k b a = some (mba, 0) ∧ vector_Meet.f k b c = some (mbc, 0) ∧ vector_Meet.f k mab c = some (mlf, 0) ∧ vector_Meet.f k a mbc = some (mrt, 0) ∧ vector_Meet.f k a a = some (mow, 0) ∧ vector_Meet.f k a ab = some (up, 0) ∧ vector_Join.f k a mab = some (dn, 0) ∧ chartroomref12_Same.f k ab ba = some true ∧ chartroomref12_Same.f k lf rt = some true ∧ chartroomref12_Same.f k ow a = some true ∧ chartroomref12_Same.f k mab mba = some true ∧ chartroomref12_Same.f k mlf mrt = some true ∧ chartroomref12_Same.f k mow a = some true ∧ chartroomref12_Same.f k up a = some true ∧ chartroomref12_Same.f k dn a = some true) :
    Calls Tryd.prog 6 #[.slice Aa a.length ca, .slice Ab b.length cb, .slice Ac c.length cc] w fun e w' => e = .returned (.bool true) ∧ Below w.heap.size w w' := by
  have Ra := Aside0.mk hra
  have HCa := Aside0.mk hca
  have Rb := Aside0.mk hrb
  have HCb := Aside0.mk hcb
  have Rc := Aside0.mk hrc
  have HCc := Aside0.mk hcc
  have HGG := Aside0.mk hGG
  have HGL := Aside0.mk hGL
  clear hra hca hrb hcb hrc hcc hGG hGL
  have HB := Aside0.mk (Below.refl w.heap.size w)
  have HM := Aside0.mk hmain
  clear hmain
  go_enter Tryd.func6, Tryd.ntmps6
  go_wp2_with fail
  refine (chartroomlaw12_sane.calls 20 true w (GlobG_below HGG.out HB.out) (GlobL_below HGL.out HB.out) (if_pos (by omega))).mono ?_
  rintro e W1 ⟨rfl, hb⟩
  have Ra := Aside0.mk (Kd.C_below Ra.out hb)
  have Rb := Aside0.mk (Kd.C_below Rb.out hb)
  have Rc := Aside0.mk (Kd.C_below Rc.out hb)
  have HB := Aside0.mk (HB.out.trans (hb.mono HB.out.size))
  clear hb
  go_wp2_with fail
  by_cases fa : (a.length : Int) ≤ 600
  case neg =>
    have Fa : chartroomref12_Few.f a = some false := congrArg some (decide_eq_false fa)
    refine (chartroomref12_Few.calls _ _ a false W1 Ra.out HCa.out Fa).mono ?_
    rintro e W2 ⟨rfl, hd⟩
    have hb := hd.below
    clear hd
    have Ra := Aside0.mk (Kd.C_below Ra.out hb)
    have Rb := Aside0.mk (Kd.C_below Rb.out hb)
    have Rc := Aside0.mk (Kd.C_below Rc.out hb)
    have HB := Aside0.mk (HB.out.trans (hb.mono HB.out.size))
    clear hb
    go_wp2_with fail
    go_ret
    exact ⟨rfl, HB.out⟩
  have Fa : chartroomref12_Few.f a = some true := congrArg some (decide_eq_true fa)
  refine (chartroomref12_Few.calls _ _ a true W1 Ra.out HCa.out Fa).mono ?_
  rintro e W2 ⟨rfl, hd⟩
  have hb := hd.below
  clear hd
  have Ra := Aside0.mk (Kd.C_below Ra.out hb)
  have Rb := Aside0.mk (Kd.C_below Rb.out hb)
  have Rc := Aside0.mk (Kd.C_below Rc.out hb)
  have HB := Aside0.mk (HB.out.trans (hb.mono HB.out.size))
  clear hb
  clear Fa
  go_wp2_with fail
  by_cases fb : (b.length : Int) ≤ 600
  case neg =>
    have Fb : chartroomref12_Few.f b = some false := congrArg some (decide_eq_false fb)
    refine (chartroomref12_Few.calls _ _ b false W2 Rb.out HCb.out Fb).mono ?_
    rintro e W3 ⟨rfl, hd⟩
    have hb := hd.below
    clear hd
    have Ra := Aside0.mk (Kd.C_below Ra.out hb)
    have Rb := Aside0.mk (Kd.C_below Rb.out hb)
    have Rc := Aside0.mk (Kd.C_below Rc.out hb)
    have HB := Aside0.mk (HB.out.trans (hb.mono HB.out.size))
    clear hb
    go_wp2_with fail
    go_ret
    exact ⟨rfl, HB.out⟩
  have Fb : chartroomref12_Few.f b = some true := congrArg some (decide_eq_true fb)
  refine (chartroomref12_Few.calls _ _ b true W2 Rb.out HCb.out Fb).mono ?_
  rintro e W3 ⟨rfl, hd⟩
  have hb := hd.below
  clear hd
  have Ra := Aside0.mk (Kd.C_below Ra.out hb)
  have Rb := Aside0.mk (Kd.C_below Rb.out hb)
  have Rc := Aside0.mk (Kd.C_below Rc.out hb)
  have HB := Aside0.mk (HB.out.trans (hb.mono HB.out.size))
  clear hb
  clear Fb
  go_wp2_with fail
  by_cases fc : (c.length : Int) ≤ 600
  case neg =>
    have Fc : chartroomref12_Few.f c = some false := congrArg some (decide_eq_false fc)
    refine (chartroomref12_Few.calls _ _ c false W3 Rc.out HCc.out Fc).mono ?_
    rintro e W4 ⟨rfl, hd⟩
    have hb := hd.below
    clear hd
    have Ra := Aside0.mk (Kd.C_below Ra.out hb)
    have Rb := Aside0.mk (Kd.C_below Rb.out hb)
    have Rc := Aside0.mk (Kd.C_below Rc.out hb)
    have HB := Aside0.mk (HB.out.trans (hb.mono HB.out.size))
    clear hb
    go_wp2_with fail
    go_ret
    exact ⟨rfl, HB.out⟩
  have Fc : chartroomref12_Few.f c = some true := congrArg some (decide_eq_true fc)
  refine (chartroomref12_Few.calls _ _ c true W3 Rc.out HCc.out Fc).mono ?_
  rintro e W4 ⟨rfl, hd⟩
  have hb := hd.below
  clear hd
  have Ra := Aside0.mk (Kd.C_below Ra.out hb)
  have Rb := Aside0.mk (Kd.C_below Rb.out hb)
  have Rc := Aside0.mk (Kd.C_below Rc.out hb)
  have HB := Aside0.mk (HB.out.trans (hb.mono HB.out.size))
  clear hb
  clear Fc
  go_wp2_with fail
  by_cases va : Valid a
  case neg =>
    have Va : vector_Check.f k a = some 120 := (vCheck_eq k a (by omega) (by omega)).trans (congrArg some (if_neg va))
    refine (vector_Check.calls k _ _ a 120 W4 Ra.out HCa.out Va).mono ?_
    rintro e W5 ⟨rfl, hb⟩
    have Ra := Aside0.mk (Kd.C_below Ra.out hb)
    have Rb := Aside0.mk (Kd.C_below Rb.out hb)
    have Rc := Aside0.mk (Kd.C_below Rc.out hb)
    have HB := Aside0.mk (HB.out.trans (hb.mono HB.out.size))
    clear hb
    go_wp2_with fail
    go_ret
    exact ⟨rfl, HB.out⟩
  have Va : vector_Check.f k a = some 0 := (vCheck_eq k a (by omega) (by omega)).trans (congrArg some (if_pos va))
  refine (vector_Check.calls k _ _ a 0 W4 Ra.out HCa.out Va).mono ?_
  rintro e W5 ⟨rfl, hb⟩
  have Ra := Aside0.mk (Kd.C_below Ra.out hb)
  have Rb := Aside0.mk (Kd.C_below Rb.out hb)
  have Rc := Aside0.mk (Kd.C_below Rc.out hb)
  have HB := Aside0.mk (HB.out.trans (hb.mono HB.out.size))
  clear hb
  clear Va
  go_wp2_with fail
  by_cases vb : Valid b
  case neg =>
    have Vb : vector_Check.f k b = some 120 := (vCheck_eq k b (by omega) (by omega)).trans (congrArg some (if_neg vb))
    refine (vector_Check.calls k _ _ b 120 W5 Rb.out HCb.out Vb).mono ?_
    rintro e W6 ⟨rfl, hb⟩
    have Ra := Aside0.mk (Kd.C_below Ra.out hb)
    have Rb := Aside0.mk (Kd.C_below Rb.out hb)
    have Rc := Aside0.mk (Kd.C_below Rc.out hb)
    have HB := Aside0.mk (HB.out.trans (hb.mono HB.out.size))
    clear hb
    go_wp2_with fail
    go_ret
    exact ⟨rfl, HB.out⟩
  have Vb : vector_Check.f k b = some 0 := (vCheck_eq k b (by omega) (by omega)).trans (congrArg some (if_pos vb))
  refine (vector_Check.calls k _ _ b 0 W5 Rb.out HCb.out Vb).mono ?_
  rintro e W6 ⟨rfl, hb⟩
  have Ra := Aside0.mk (Kd.C_below Ra.out hb)
  have Rb := Aside0.mk (Kd.C_below Rb.out hb)
  have Rc := Aside0.mk (Kd.C_below Rc.out hb)
  have HB := Aside0.mk (HB.out.trans (hb.mono HB.out.size))
  clear hb
  clear Vb
  go_wp2_with fail
  by_cases vc : Valid c
  case neg =>
    have Vc : vector_Check.f k c = some 120 := (vCheck_eq k c (by omega) (by omega)).trans (congrArg some (if_neg vc))
    refine (vector_Check.calls k _ _ c 120 W6 Rc.out HCc.out Vc).mono ?_
    rintro e W7 ⟨rfl, hb⟩
    have Ra := Aside0.mk (Kd.C_below Ra.out hb)
    have Rb := Aside0.mk (Kd.C_below Rb.out hb)
    have Rc := Aside0.mk (Kd.C_below Rc.out hb)
    have HB := Aside0.mk (HB.out.trans (hb.mono HB.out.size))
    clear hb
    go_wp2_with fail
    go_ret
    exact ⟨rfl, HB.out⟩
  have Vc : vector_Check.f k c = some 0 := (vCheck_eq k c (by omega) (by omega)).trans (congrArg some (if_pos vc))
  refine (vector_Check.calls k _ _ c 0 W6 Rc.out HCc.out Vc).mono ?_
  rintro e W7 ⟨rfl, hb⟩
  have Ra := Aside0.mk (Kd.C_below Ra.out hb)
  have Rb := Aside0.mk (Kd.C_below Rb.out hb)
  have Rc := Aside0.mk (Kd.C_below Rc.out hb)
  have HB := Aside0.mk (HB.out.trans (hb.mono HB.out.size))
  clear hb
  clear Vc
  go_wp2_with fail
  obtain ⟨ab, ba, bc, lf, rt, ow, mab, mba, mbc, mlf, mrt, mow, up, dn, Hab, Hba, Hbc, Hlf, Hrt, How, Hmab, Hmba, Hmbc, Hmlf, Hmrt, Hmow, Hup, Hdn, Sabba, Slfrt, Sowa, Smabmba, Smlfmrt, Smowa, Supa, Sdna⟩ := HM.out (by omega) (by omega) (by omega) va vb vc
  replace Hab := Aside0.mk Hab
  replace Hba := Aside0.mk Hba
  replace Hbc := Aside0.mk Hbc
  replace Hlf := Aside0.mk Hlf
  replace Hrt := Aside0.mk Hrt
  replace How := Aside0.mk How
  replace Hmab := Aside0.mk Hmab
  replace Hmba := Aside0.mk Hmba
  replace Hmbc := Aside0.mk Hmbc
  replace Hmlf := Aside0.mk Hmlf
  replace Hmrt := Aside0.mk Hmrt
  replace Hmow := Aside0.mk Hmow
  replace Hup := Aside0.mk Hup
  replace Hdn := Aside0.mk Hdn
  replace Sabba := Aside0.mk Sabba
  replace Slfrt := Aside0.mk Slfrt
  replace Sowa := Aside0.mk Sowa
  replace Smabmba := Aside0.mk Smabmba
  replace Smlfmrt := Aside0.mk Smlfmrt
  replace Smowa := Aside0.mk Smowa
  replace Supa := Aside0.mk Supa
  replace Sdna := Aside0.mk Sdna
  clear HM va vb vc fa fb fc
  refine (vector_Join.calls k _ _ a _ _ b ab 0 W7 (GlobG_below HGG.out HB.out) Ra.out HCa.out Rb.out HCb.out Hab.out).mono ?_
  rintro e W8 ⟨v_, rfl, hR, hb⟩
  have Ra := Aside0.mk (Kd.C_below Ra.out hb)
  have Rb := Aside0.mk (Kd.C_below Rb.out hb)
  have Rc := Aside0.mk (Kd.C_below Rc.out hb)
  obtain ⟨Aab, cab, rfl, hc_, hC_⟩ := Kd.R_reads hR
  have Rab := Aside0.mk hC_
  have HCab := Aside0.mk hc_
  clear hR hc_ hC_
  have HB := Aside0.mk (HB.out.trans (hb.mono HB.out.size))
  clear hb
  go_wp2_with fail
  refine (vector_Join.calls k _ _ b _ _ a ba 0 W8 (GlobG_below HGG.out HB.out) Rb.out HCb.out Ra.out HCa.out Hba.out).mono ?_
  rintro e W9 ⟨v_, rfl, hR, hb⟩
  have Ra := Aside0.mk (Kd.C_below Ra.out hb)
  have Rb := Aside0.mk (Kd.C_below Rb.out hb)
  have Rc := Aside0.mk (Kd.C_below Rc.out hb)
  have Rab := Aside0.mk (Kd.C_below Rab.out hb)
  obtain ⟨Aba, cba, rfl, hc_, hC_⟩ := Kd.R_reads hR
  have Rba := Aside0.mk hC_
  have HCba := Aside0.mk hc_
  clear hR hc_ hC_
  have HB := Aside0.mk (HB.out.trans (hb.mono HB.out.size))
  clear hb
  go_wp2_with fail
  refine (vector_Join.calls k _ _ b _ _ c bc 0 W9 (GlobG_below HGG.out HB.out) Rb.out HCb.out Rc.out HCc.out Hbc.out).mono ?_
  rintro e W10 ⟨v_, rfl, hR, hb⟩
  have Ra := Aside0.mk (Kd.C_below Ra.out hb)
  have Rb := Aside0.mk (Kd.C_below Rb.out hb)
  have Rc := Aside0.mk (Kd.C_below Rc.out hb)
  have Rab := Aside0.mk (Kd.C_below Rab.out hb)
  have Rba := Aside0.mk (Kd.C_below Rba.out hb)
  obtain ⟨Abc, cbc, rfl, hc_, hC_⟩ := Kd.R_reads hR
  have Rbc := Aside0.mk hC_
  have HCbc := Aside0.mk hc_
  clear hR hc_ hC_
  have HB := Aside0.mk (HB.out.trans (hb.mono HB.out.size))
  clear hb
  go_wp2_with fail
  refine (vector_Join.calls k _ _ ab _ _ c lf 0 W10 (GlobG_below HGG.out HB.out) Rab.out HCab.out Rc.out HCc.out Hlf.out).mono ?_
  rintro e W11 ⟨v_, rfl, hR, hb⟩
  have Ra := Aside0.mk (Kd.C_below Ra.out hb)
  have Rb := Aside0.mk (Kd.C_below Rb.out hb)
  have Rc := Aside0.mk (Kd.C_below Rc.out hb)
  have Rab := Aside0.mk (Kd.C_below Rab.out hb)
  have Rba := Aside0.mk (Kd.C_below Rba.out hb)
  have Rbc := Aside0.mk (Kd.C_below Rbc.out hb)
  obtain ⟨Alf, clf, rfl, hc_, hC_⟩ := Kd.R_reads hR
  have Rlf := Aside0.mk hC_
  have HClf := Aside0.mk hc_
  clear hR hc_ hC_
  have HB := Aside0.mk (HB.out.trans (hb.mono HB.out.size))
  clear hb
  go_wp2_with fail
  refine (vector_Join.calls k _ _ a _ _ bc rt 0 W11 (GlobG_below HGG.out HB.out) Ra.out HCa.out Rbc.out HCbc.out Hrt.out).mono ?_
  rintro e W12 ⟨v_, rfl, hR, hb⟩
  have Ra := Aside0.mk (Kd.C_below Ra.out hb)
  have Rb := Aside0.mk (Kd.C_below Rb.out hb)
  have Rc := Aside0.mk (Kd.C_below Rc.out hb)
  have Rab := Aside0.mk (Kd.C_below Rab.out hb)
  have Rba := Aside0.mk (Kd.C_below Rba.out hb)
  have Rbc := Aside0.mk (Kd.C_below Rbc.out hb)
  have Rlf := Aside0.mk (Kd.C_below Rlf.out hb)
  obtain ⟨Art, crt, rfl, hc_, hC_⟩ := Kd.R_reads hR
  have Rrt := Aside0.mk hC_
  have HCrt := Aside0.mk hc_
  clear hR hc_ hC_
  have HB := Aside0.mk (HB.out.trans (hb.mono HB.out.size))
  clear hb
  go_wp2_with fail
  refine (vector_Join.calls k _ _ a _ _ a ow 0 W12 (GlobG_below HGG.out HB.out) Ra.out HCa.out Ra.out HCa.out How.out).mono ?_
  rintro e W13 ⟨v_, rfl, hR, hb⟩
  have Ra := Aside0.mk (Kd.C_below Ra.out hb)
  have Rb := Aside0.mk (Kd.C_below Rb.out hb)
  have Rc := Aside0.mk (Kd.C_below Rc.out hb)
  have Rab := Aside0.mk (Kd.C_below Rab.out hb)
  have Rba := Aside0.mk (Kd.C_below Rba.out hb)
  have Rbc := Aside0.mk (Kd.C_below Rbc.out hb)
  have Rlf := Aside0.mk (Kd.C_below Rlf.out hb)
  have Rrt := Aside0.mk (Kd.C_below Rrt.out hb)
  obtain ⟨Aow, cow, rfl, hc_, hC_⟩ := Kd.R_reads hR
  have Row := Aside0.mk hC_
  have HCow := Aside0.mk hc_
  clear hR hc_ hC_
  have HB := Aside0.mk (HB.out.trans (hb.mono HB.out.size))
  clear hb
  go_wp2_with fail
  refine (chartroomref12_Same.calls k _ _ ab _ _ ba true W13 Rab.out HCab.out Rba.out HCba.out Sabba.out).mono ?_
  rintro e W14 ⟨rfl, hd⟩
  have hb := hd.below
  clear hd
  have Ra := Aside0.mk (Kd.C_below Ra.out hb)
  have Rb := Aside0.mk (Kd.C_below Rb.out hb)
  have Rc := Aside0.mk (Kd.C_below Rc.out hb)
  have Rab := Aside0.mk (Kd.C_below Rab.out hb)
  have Rba := Aside0.mk (Kd.C_below Rba.out hb)
  have Rbc := Aside0.mk (Kd.C_below Rbc.out hb)
  have Rlf := Aside0.mk (Kd.C_below Rlf.out hb)
  have Rrt := Aside0.mk (Kd.C_below Rrt.out hb)
  have Row := Aside0.mk (Kd.C_below Row.out hb)
  have HB := Aside0.mk (HB.out.trans (hb.mono HB.out.size))
  clear hb
  go_wp2_with fail
  refine (chartroomref12_Same.calls k _ _ lf _ _ rt true W14 Rlf.out HClf.out Rrt.out HCrt.out Slfrt.out).mono ?_
  rintro e W15 ⟨rfl, hd⟩
  have hb := hd.below
  clear hd
  have Ra := Aside0.mk (Kd.C_below Ra.out hb)
  have Rb := Aside0.mk (Kd.C_below Rb.out hb)
  have Rc := Aside0.mk (Kd.C_below Rc.out hb)
  have Rab := Aside0.mk (Kd.C_below Rab.out hb)
  have Rba := Aside0.mk (Kd.C_below Rba.out hb)
  have Rbc := Aside0.mk (Kd.C_below Rbc.out hb)
  have Rlf := Aside0.mk (Kd.C_below Rlf.out hb)
  have Rrt := Aside0.mk (Kd.C_below Rrt.out hb)
  have Row := Aside0.mk (Kd.C_below Row.out hb)
  have HB := Aside0.mk (HB.out.trans (hb.mono HB.out.size))
  clear hb
  go_wp2_with fail
  refine (chartroomref12_Same.calls k _ _ ow _ _ a true W15 Row.out HCow.out Ra.out HCa.out Sowa.out).mono ?_
  rintro e W16 ⟨rfl, hd⟩
  have hb := hd.below
  clear hd
  have Ra := Aside0.mk (Kd.C_below Ra.out hb)
  have Rb := Aside0.mk (Kd.C_below Rb.out hb)
  have Rc := Aside0.mk (Kd.C_below Rc.out hb)
  have Rab := Aside0.mk (Kd.C_below Rab.out hb)
  have Rba := Aside0.mk (Kd.C_below Rba.out hb)
  have Rbc := Aside0.mk (Kd.C_below Rbc.out hb)
  have Rlf := Aside0.mk (Kd.C_below Rlf.out hb)
  have Rrt := Aside0.mk (Kd.C_below Rrt.out hb)
  have Row := Aside0.mk (Kd.C_below Row.out hb)
  have HB := Aside0.mk (HB.out.trans (hb.mono HB.out.size))
  clear hb
  go_wp2_with fail
  refine (vector_Meet.calls k _ _ a _ _ b mab 0 W16 (GlobL_below HGL.out HB.out) Ra.out HCa.out Rb.out HCb.out Hmab.out).mono ?_
  rintro e W17 ⟨v_, rfl, hR, hb⟩
  have Ra := Aside0.mk (Kd.C_below Ra.out hb)
  have Rb := Aside0.mk (Kd.C_below Rb.out hb)
  have Rc := Aside0.mk (Kd.C_below Rc.out hb)
  have Rab := Aside0.mk (Kd.C_below Rab.out hb)
  have Rba := Aside0.mk (Kd.C_below Rba.out hb)
  have Rbc := Aside0.mk (Kd.C_below Rbc.out hb)
  have Rlf := Aside0.mk (Kd.C_below Rlf.out hb)
  have Rrt := Aside0.mk (Kd.C_below Rrt.out hb)
  have Row := Aside0.mk (Kd.C_below Row.out hb)
  obtain ⟨Amab, cmab, rfl, hc_, hC_⟩ := Kd.R_reads hR
  have Rmab := Aside0.mk hC_
  have HCmab := Aside0.mk hc_
  clear hR hc_ hC_
  have HB := Aside0.mk (HB.out.trans (hb.mono HB.out.size))
  clear hb
  go_wp2_with fail
  refine (vector_Meet.calls k _ _ b _ _ a mba 0 W17 (GlobL_below HGL.out HB.out) Rb.out HCb.out Ra.out HCa.out Hmba.out).mono ?_
  rintro e W18 ⟨v_, rfl, hR, hb⟩
  have Ra := Aside0.mk (Kd.C_below Ra.out hb)
  have Rb := Aside0.mk (Kd.C_below Rb.out hb)
  have Rc := Aside0.mk (Kd.C_below Rc.out hb)
  have Rab := Aside0.mk (Kd.C_below Rab.out hb)
  have Rba := Aside0.mk (Kd.C_below Rba.out hb)
  have Rbc := Aside0.mk (Kd.C_below Rbc.out hb)
  have Rlf := Aside0.mk (Kd.C_below Rlf.out hb)
  have Rrt := Aside0.mk (Kd.C_below Rrt.out hb)
  have Row := Aside0.mk (Kd.C_below Row.out hb)
  have Rmab := Aside0.mk (Kd.C_below Rmab.out hb)
  obtain ⟨Amba, cmba, rfl, hc_, hC_⟩ := Kd.R_reads hR
  have Rmba := Aside0.mk hC_
  have HCmba := Aside0.mk hc_
  clear hR hc_ hC_
  have HB := Aside0.mk (HB.out.trans (hb.mono HB.out.size))
  clear hb
  go_wp2_with fail
  refine (vector_Meet.calls k _ _ b _ _ c mbc 0 W18 (GlobL_below HGL.out HB.out) Rb.out HCb.out Rc.out HCc.out Hmbc.out).mono ?_
  rintro e W19 ⟨v_, rfl, hR, hb⟩
  have Ra := Aside0.mk (Kd.C_below Ra.out hb)
  have Rb := Aside0.mk (Kd.C_below Rb.out hb)
  have Rc := Aside0.mk (Kd.C_below Rc.out hb)
  have Rab := Aside0.mk (Kd.C_below Rab.out hb)
  have Rba := Aside0.mk (Kd.C_below Rba.out hb)
  have Rbc := Aside0.mk (Kd.C_below Rbc.out hb)
  have Rlf := Aside0.mk (Kd.C_below Rlf.out hb)
  have Rrt := Aside0.mk (Kd.C_below Rrt.out hb)
  have Row := Aside0.mk (Kd.C_below Row.out hb)
  have Rmab := Aside0.mk (Kd.C_below Rmab.out hb)
  have Rmba := Aside0.mk (Kd.C_below Rmba.out hb)
  obtain ⟨Ambc, cmbc, rfl, hc_, hC_⟩ := Kd.R_reads hR
  have Rmbc := Aside0.mk hC_
  have HCmbc := Aside0.mk hc_
  clear hR hc_ hC_
  have HB := Aside0.mk (HB.out.trans (hb.mono HB.out.size))
  clear hb
  go_wp2_with fail
  refine (vector_Meet.calls k _ _ mab _ _ c mlf 0 W19 (GlobL_below HGL.out HB.out) Rmab.out HCmab.out Rc.out HCc.out Hmlf.out).mono ?_
  rintro e W20 ⟨v_, rfl, hR, hb⟩
  have Ra := Aside0.mk (Kd.C_below Ra.out hb)
  have Rb := Aside0.mk (Kd.C_below Rb.out hb)
  have Rc := Aside0.mk (Kd.C_below Rc.out hb)
  have Rab := Aside0.mk (Kd.C_below Rab.out hb)
  have Rba := Aside0.mk (Kd.C_below Rba.out hb)
  have Rbc := Aside0.mk (Kd.C_below Rbc.out hb)
  have Rlf := Aside0.mk (Kd.C_below Rlf.out hb)
  have Rrt := Aside0.mk (Kd.C_below Rrt.out hb)
  have Row := Aside0.mk (Kd.C_below Row.out hb)
  have Rmab := Aside0.mk (Kd.C_below Rmab.out hb)
  have Rmba := Aside0.mk (Kd.C_below Rmba.out hb)
  have Rmbc := Aside0.mk (Kd.C_below Rmbc.out hb)
  obtain ⟨Amlf, cmlf, rfl, hc_, hC_⟩ := Kd.R_reads hR
  have Rmlf := Aside0.mk hC_
  have HCmlf := Aside0.mk hc_
  clear hR hc_ hC_
  have HB := Aside0.mk (HB.out.trans (hb.mono HB.out.size))
  clear hb
  go_wp2_with fail
  refine (vector_Meet.calls k _ _ a _ _ mbc mrt 0 W20 (GlobL_below HGL.out HB.out) Ra.out HCa.out Rmbc.out HCmbc.out Hmrt.out).mono ?_
  rintro e W21 ⟨v_, rfl, hR, hb⟩
  have Ra := Aside0.mk (Kd.C_below Ra.out hb)
  have Rb := Aside0.mk (Kd.C_below Rb.out hb)
  have Rc := Aside0.mk (Kd.C_below Rc.out hb)
  have Rab := Aside0.mk (Kd.C_below Rab.out hb)
  have Rba := Aside0.mk (Kd.C_below Rba.out hb)
  have Rbc := Aside0.mk (Kd.C_below Rbc.out hb)
  have Rlf := Aside0.mk (Kd.C_below Rlf.out hb)
  have Rrt := Aside0.mk (Kd.C_below Rrt.out hb)
  have Row := Aside0.mk (Kd.C_below Row.out hb)
  have Rmab := Aside0.mk (Kd.C_below Rmab.out hb)
  have Rmba := Aside0.mk (Kd.C_below Rmba.out hb)
  have Rmbc := Aside0.mk (Kd.C_below Rmbc.out hb)
  have Rmlf := Aside0.mk (Kd.C_below Rmlf.out hb)
  obtain ⟨Amrt, cmrt, rfl, hc_, hC_⟩ := Kd.R_reads hR
  have Rmrt := Aside0.mk hC_
  have HCmrt := Aside0.mk hc_
  clear hR hc_ hC_
  have HB := Aside0.mk (HB.out.trans (hb.mono HB.out.size))
  clear hb
  go_wp2_with fail
  refine (vector_Meet.calls k _ _ a _ _ a mow 0 W21 (GlobL_below HGL.out HB.out) Ra.out HCa.out Ra.out HCa.out Hmow.out).mono ?_
  rintro e W22 ⟨v_, rfl, hR, hb⟩
  have Ra := Aside0.mk (Kd.C_below Ra.out hb)
  have Rb := Aside0.mk (Kd.C_below Rb.out hb)
  have Rc := Aside0.mk (Kd.C_below Rc.out hb)
  have Rab := Aside0.mk (Kd.C_below Rab.out hb)
  have Rba := Aside0.mk (Kd.C_below Rba.out hb)
  have Rbc := Aside0.mk (Kd.C_below Rbc.out hb)
  have Rlf := Aside0.mk (Kd.C_below Rlf.out hb)
  have Rrt := Aside0.mk (Kd.C_below Rrt.out hb)
  have Row := Aside0.mk (Kd.C_below Row.out hb)
  have Rmab := Aside0.mk (Kd.C_below Rmab.out hb)
  have Rmba := Aside0.mk (Kd.C_below Rmba.out hb)
  have Rmbc := Aside0.mk (Kd.C_below Rmbc.out hb)
  have Rmlf := Aside0.mk (Kd.C_below Rmlf.out hb)
  have Rmrt := Aside0.mk (Kd.C_below Rmrt.out hb)
  obtain ⟨Amow, cmow, rfl, hc_, hC_⟩ := Kd.R_reads hR
  have Rmow := Aside0.mk hC_
  have HCmow := Aside0.mk hc_
  clear hR hc_ hC_
  have HB := Aside0.mk (HB.out.trans (hb.mono HB.out.size))
  clear hb
  go_wp2_with fail
  refine (vector_Meet.calls k _ _ a _ _ ab up 0 W22 (GlobL_below HGL.out HB.out) Ra.out HCa.out Rab.out HCab.out Hup.out).mono ?_
  rintro e W23 ⟨v_, rfl, hR, hb⟩
  have Ra := Aside0.mk (Kd.C_below Ra.out hb)
  have Rb := Aside0.mk (Kd.C_below Rb.out hb)
  have Rc := Aside0.mk (Kd.C_below Rc.out hb)
  have Rab := Aside0.mk (Kd.C_below Rab.out hb)
  have Rba := Aside0.mk (Kd.C_below Rba.out hb)
  have Rbc := Aside0.mk (Kd.C_below Rbc.out hb)
  have Rlf := Aside0.mk (Kd.C_below Rlf.out hb)
  have Rrt := Aside0.mk (Kd.C_below Rrt.out hb)
  have Row := Aside0.mk (Kd.C_below Row.out hb)
  have Rmab := Aside0.mk (Kd.C_below Rmab.out hb)
  have Rmba := Aside0.mk (Kd.C_below Rmba.out hb)
  have Rmbc := Aside0.mk (Kd.C_below Rmbc.out hb)
  have Rmlf := Aside0.mk (Kd.C_below Rmlf.out hb)
  have Rmrt := Aside0.mk (Kd.C_below Rmrt.out hb)
  have Rmow := Aside0.mk (Kd.C_below Rmow.out hb)
  obtain ⟨Aup, cup, rfl, hc_, hC_⟩ := Kd.R_reads hR
  have Rup := Aside0.mk hC_
  have HCup := Aside0.mk hc_
  clear hR hc_ hC_
  have HB := Aside0.mk (HB.out.trans (hb.mono HB.out.size))
  clear hb
  go_wp2_with fail
  refine (vector_Join.calls k _ _ a _ _ mab dn 0 W23 (GlobG_below HGG.out HB.out) Ra.out HCa.out Rmab.out HCmab.out Hdn.out).mono ?_
  rintro e W24 ⟨v_, rfl, hR, hb⟩
  have Ra := Aside0.mk (Kd.C_below Ra.out hb)
  have Rb := Aside0.mk (Kd.C_below Rb.out hb)
  have Rc := Aside0.mk (Kd.C_below Rc.out hb)
  have Rab := Aside0.mk (Kd.C_below Rab.out hb)
  have Rba := Aside0.mk (Kd.C_below Rba.out hb)
  have Rbc := Aside0.mk (Kd.C_below Rbc.out hb)
  have Rlf := Aside0.mk (Kd.C_below Rlf.out hb)
  have Rrt := Aside0.mk (Kd.C_below Rrt.out hb)
  have Row := Aside0.mk (Kd.C_below Row.out hb)
  have Rmab := Aside0.mk (Kd.C_below Rmab.out hb)
  have Rmba := Aside0.mk (Kd.C_below Rmba.out hb)
  have Rmbc := Aside0.mk (Kd.C_below Rmbc.out hb)
  have Rmlf := Aside0.mk (Kd.C_below Rmlf.out hb)
  have Rmrt := Aside0.mk (Kd.C_below Rmrt.out hb)
  have Rmow := Aside0.mk (Kd.C_below Rmow.out hb)
  have Rup := Aside0.mk (Kd.C_below Rup.out hb)
  obtain ⟨Adn, cdn, rfl, hc_, hC_⟩ := Kd.R_reads hR
  have Rdn := Aside0.mk hC_
  have HCdn := Aside0.mk hc_
  clear hR hc_ hC_
  have HB := Aside0.mk (HB.out.trans (hb.mono HB.out.size))
  clear hb
  go_wp2_with fail
  refine (chartroomref12_Same.calls k _ _ mab _ _ mba true W24 Rmab.out HCmab.out Rmba.out HCmba.out Smabmba.out).mono ?_
  rintro e W25 ⟨rfl, hd⟩
  have hb := hd.below
  clear hd
  have Ra := Aside0.mk (Kd.C_below Ra.out hb)
  have Rb := Aside0.mk (Kd.C_below Rb.out hb)
  have Rc := Aside0.mk (Kd.C_below Rc.out hb)
  have Rab := Aside0.mk (Kd.C_below Rab.out hb)
  have Rba := Aside0.mk (Kd.C_below Rba.out hb)
  have Rbc := Aside0.mk (Kd.C_below Rbc.out hb)
  have Rlf := Aside0.mk (Kd.C_below Rlf.out hb)
  have Rrt := Aside0.mk (Kd.C_below Rrt.out hb)
  have Row := Aside0.mk (Kd.C_below Row.out hb)
  have Rmab := Aside0.mk (Kd.C_below Rmab.out hb)
  have Rmba := Aside0.mk (Kd.C_below Rmba.out hb)
  have Rmbc := Aside0.mk (Kd.C_below Rmbc.out hb)
  have Rmlf := Aside0.mk (Kd.C_below Rmlf.out hb)
  have Rmrt := Aside0.mk (Kd.C_below Rmrt.out hb)
  have Rmow := Aside0.mk (Kd.C_below Rmow.out hb)
  have Rup := Aside0.mk (Kd.C_below Rup.out hb)
  have Rdn := Aside0.mk (Kd.C_below Rdn.out hb)
  have HB := Aside0.mk (HB.out.trans (hb.mono HB.out.size))
  clear hb
  go_wp2_with fail
  refine (chartroomref12_Same.calls k _ _ mlf _ _ mrt true W25 Rmlf.out HCmlf.out Rmrt.out HCmrt.out Smlfmrt.out).mono ?_
  rintro e W26 ⟨rfl, hd⟩
  have hb := hd.below
  clear hd
  have Ra := Aside0.mk (Kd.C_below Ra.out hb)
  have Rb := Aside0.mk (Kd.C_below Rb.out hb)
  have Rc := Aside0.mk (Kd.C_below Rc.out hb)
  have Rab := Aside0.mk (Kd.C_below Rab.out hb)
  have Rba := Aside0.mk (Kd.C_below Rba.out hb)
  have Rbc := Aside0.mk (Kd.C_below Rbc.out hb)
  have Rlf := Aside0.mk (Kd.C_below Rlf.out hb)
  have Rrt := Aside0.mk (Kd.C_below Rrt.out hb)
  have Row := Aside0.mk (Kd.C_below Row.out hb)
  have Rmab := Aside0.mk (Kd.C_below Rmab.out hb)
  have Rmba := Aside0.mk (Kd.C_below Rmba.out hb)
  have Rmbc := Aside0.mk (Kd.C_below Rmbc.out hb)
  have Rmlf := Aside0.mk (Kd.C_below Rmlf.out hb)
  have Rmrt := Aside0.mk (Kd.C_below Rmrt.out hb)
  have Rmow := Aside0.mk (Kd.C_below Rmow.out hb)
  have Rup := Aside0.mk (Kd.C_below Rup.out hb)
  have Rdn := Aside0.mk (Kd.C_below Rdn.out hb)
  have HB := Aside0.mk (HB.out.trans (hb.mono HB.out.size))
  clear hb
  go_wp2_with fail
  refine (chartroomref12_Same.calls k _ _ mow _ _ a true W26 Rmow.out HCmow.out Ra.out HCa.out Smowa.out).mono ?_
  rintro e W27 ⟨rfl, hd⟩
  have hb := hd.below
  clear hd
  have Ra := Aside0.mk (Kd.C_below Ra.out hb)
  have Rb := Aside0.mk (Kd.C_below Rb.out hb)
  have Rc := Aside0.mk (Kd.C_below Rc.out hb)
  have Rab := Aside0.mk (Kd.C_below Rab.out hb)
  have Rba := Aside0.mk (Kd.C_below Rba.out hb)
  have Rbc := Aside0.mk (Kd.C_below Rbc.out hb)
  have Rlf := Aside0.mk (Kd.C_below Rlf.out hb)
  have Rrt := Aside0.mk (Kd.C_below Rrt.out hb)
  have Row := Aside0.mk (Kd.C_below Row.out hb)
  have Rmab := Aside0.mk (Kd.C_below Rmab.out hb)
  have Rmba := Aside0.mk (Kd.C_below Rmba.out hb)
  have Rmbc := Aside0.mk (Kd.C_below Rmbc.out hb)
  have Rmlf := Aside0.mk (Kd.C_below Rmlf.out hb)
  have Rmrt := Aside0.mk (Kd.C_below Rmrt.out hb)
  have Rmow := Aside0.mk (Kd.C_below Rmow.out hb)
  have Rup := Aside0.mk (Kd.C_below Rup.out hb)
  have Rdn := Aside0.mk (Kd.C_below Rdn.out hb)
  have HB := Aside0.mk (HB.out.trans (hb.mono HB.out.size))
  clear hb
  go_wp2_with fail
  refine (chartroomref12_Same.calls k _ _ up _ _ a true W27 Rup.out HCup.out Ra.out HCa.out Supa.out).mono ?_
  rintro e W28 ⟨rfl, hd⟩
  have hb := hd.below
  clear hd
  have Ra := Aside0.mk (Kd.C_below Ra.out hb)
  have Rb := Aside0.mk (Kd.C_below Rb.out hb)
  have Rc := Aside0.mk (Kd.C_below Rc.out hb)
  have Rab := Aside0.mk (Kd.C_below Rab.out hb)
  have Rba := Aside0.mk (Kd.C_below Rba.out hb)
  have Rbc := Aside0.mk (Kd.C_below Rbc.out hb)
  have Rlf := Aside0.mk (Kd.C_below Rlf.out hb)
  have Rrt := Aside0.mk (Kd.C_below Rrt.out hb)
  have Row := Aside0.mk (Kd.C_below Row.out hb)
  have Rmab := Aside0.mk (Kd.C_below Rmab.out hb)
  have Rmba := Aside0.mk (Kd.C_below Rmba.out hb)
  have Rmbc := Aside0.mk (Kd.C_below Rmbc.out hb)
  have Rmlf := Aside0.mk (Kd.C_below Rmlf.out hb)
  have Rmrt := Aside0.mk (Kd.C_below Rmrt.out hb)
  have Rmow := Aside0.mk (Kd.C_below Rmow.out hb)
  have Rup := Aside0.mk (Kd.C_below Rup.out hb)
  have Rdn := Aside0.mk (Kd.C_below Rdn.out hb)
  have HB := Aside0.mk (HB.out.trans (hb.mono HB.out.size))
  clear hb
  go_wp2_with fail
  refine (chartroomref12_Same.calls k _ _ dn _ _ a true W28 Rdn.out HCdn.out Ra.out HCa.out Sdna.out).mono ?_
  rintro e W29 ⟨rfl, hd⟩
  have hb := hd.below
  clear hd
  have Ra := Aside0.mk (Kd.C_below Ra.out hb)
  have Rb := Aside0.mk (Kd.C_below Rb.out hb)
  have Rc := Aside0.mk (Kd.C_below Rc.out hb)
  have Rab := Aside0.mk (Kd.C_below Rab.out hb)
  have Rba := Aside0.mk (Kd.C_below Rba.out hb)
  have Rbc := Aside0.mk (Kd.C_below Rbc.out hb)
  have Rlf := Aside0.mk (Kd.C_below Rlf.out hb)
  have Rrt := Aside0.mk (Kd.C_below Rrt.out hb)
  have Row := Aside0.mk (Kd.C_below Row.out hb)
  have Rmab := Aside0.mk (Kd.C_below Rmab.out hb)
  have Rmba := Aside0.mk (Kd.C_below Rmba.out hb)
  have Rmbc := Aside0.mk (Kd.C_below Rmbc.out hb)
  have Rmlf := Aside0.mk (Kd.C_below Rmlf.out hb)
  have Rmrt := Aside0.mk (Kd.C_below Rmrt.out hb)
  have Rmow := Aside0.mk (Kd.C_below Rmow.out hb)
  have Rup := Aside0.mk (Kd.C_below Rup.out hb)
  have Rdn := Aside0.mk (Kd.C_below Rdn.out hb)
  have HB := Aside0.mk (HB.out.trans (hb.mono HB.out.size))
  clear hb
  go_wp2_with fail
  go_ret
  exact ⟨rfl, HB.out⟩
end Go.Proofs.YtncejmjicjlanaaDoor.Q

