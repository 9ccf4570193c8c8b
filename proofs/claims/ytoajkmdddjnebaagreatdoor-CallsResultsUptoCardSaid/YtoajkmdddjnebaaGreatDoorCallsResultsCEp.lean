import Derived.Test.YtoajkmdddjnebaaGreatDoorCallsResultsCE
set_option linter.unusedSimpArgs false
set_option linter.unusedVariables false
namespace Go.Proofs
open Go.Eng
set_option maxRecDepth 100000
abbrev zCE0_1:Bool->Prop->Prop:=fun x0 p=>(x0=true->x0=true->x0=true)/\(x0=true->x0=true->x0=true)/\p
abbrev zCE0_2:List UInt8->Prop:=fun x0=>∃(x:LRes×Int),FDecR' x0 x/\x.fst.abort=(0:Int)/\x.fst.place=(0:Int)/\false=false/\x.fst.outs.length=0/\x.snd=(4:Int)/\True
abbrev zCE0_4:LOut:=LOut.mk false [] []
abbrev zCE0_5:Nat×Nat->Int:=fun x0=>IntKind.i64.wrap (↑x0.fst:Int)
abbrev zCE0_6:Bool->Prop:=fun x0=>true=true->x0=true->x0=true
abbrev zCE0_7:XRd->Prop->Prop:=fun x0 p=>(x0.a<=x0.l.length/\x0.l.length<1099511627776)/\0=0/\0=0/\0=0/\(true=true->true=true)/\p
abbrev zCE0_10:Prop:=false=true->false=true
abbrev zCE0_3:Prop->Prop:=fun p=>true=true/\zCE0_10/\p
abbrev zCE0_8:Nat×Nat->Nat×Nat->List UInt8->Prop:=fun x0 x1 x2=>∃(x:LRes),FSm x/\x.abort=zCE0_5 x0/\x.place=zCE0_5 x1/\false=false/\x.outs.length=0/\True/\Eng.ask (!FMay x) (zCE0_2 x2) (∃(x:LRes×Int),FDecR' x2 x/\x.fst.abort=zCE0_5 x0/\x.fst.place=zCE0_5 x1/\false=false/\x.fst.outs.length=0/\x.snd=(0:Int)/\True)
abbrev zCE0_9:List LOut×Int×Nat->Nat->LOut:=fun x0 x1=>x0.fst.getD x1 zCE0_4
abbrev zCE0_11:LRes×Int->Nat->LOut:=fun x0 x1=>x0.fst.outs.getD x1 zCE0_4
abbrev zCE0_12:List LOut×Int×Nat->Nat->Nat->LRow:=fun x0 x1 x2=>(zCE0_9 x0 x1).rows.getD x2 (LRow.mk [] [])
abbrev zCE0_0:Nat×Nat->List LOut×Int×Nat->List UInt8->Prop:=fun x0 x1 x2=>∃(x:LRes),FSm x/\x.abort=zCE0_5 x0/\x.place=(0:Int)/\zCE0_10/\x.outs.length=x1.fst.length/\(∀(i:Nat),i<x.outs.length->(x.outs.getD i zCE0_4).has=(zCE0_9 x1 i).has/\zCE0_3 ((x.outs.getD i zCE0_4).value=(zCE0_9 x1 i).value)/\zCE0_3 ((x.outs.getD i zCE0_4).rows.length=(zCE0_9 x1 i).rows.length/\2=2/\∀(i_1:Nat),i_1<(x.outs.getD i zCE0_4).rows.length->zCE0_3 (((x.outs.getD i zCE0_4).rows.getD i_1 (LRow.mk [] [])).key=(zCE0_12 x1 i i_1).key)/\zCE0_3 (((x.outs.getD i zCE0_4).rows.getD i_1 (LRow.mk [] [])).value=(zCE0_12 x1 i i_1).value)/\True)/\True)/\True/\Eng.ask (!FMay x) (zCE0_2 x2) (∃(x:LRes×Int),FDecR' x2 x/\x.fst.abort=zCE0_5 x0/\x.fst.place=(0:Int)/\zCE0_10/\x.fst.outs.length=x1.fst.length/\(∀(i:Nat),i<x.fst.outs.length->(zCE0_11 x i).has=(zCE0_9 x1 i).has/\zCE0_3 ((zCE0_11 x i).value=(zCE0_9 x1 i).value)/\zCE0_3 ((zCE0_11 x i).rows.length=(zCE0_9 x1 i).rows.length/\2=2/\∀(i_1:Nat),i_1<(zCE0_11 x i).rows.length->zCE0_3 (((zCE0_11 x i).rows.getD i_1 (LRow.mk [] [])).key=(zCE0_12 x1 i i_1).key)/\zCE0_3 (((zCE0_11 x i).rows.getD i_1 (LRow.mk [] [])).value=(zCE0_12 x1 i i_1).value)/\True)/\True)/\x.snd=(0:Int)/\True)
def nf_ReadResult:Prop:=
 ∀(x:List UInt8),x.length<1099511620000->∃(x_1:List UInt8),x_1.length<1099511627000/\zCE0_10/\x_1=x/\True/\∃(x_2:XRd),zCE0_7 x_2 (x_2.l=x_1/\(↑x_2.a:Int)=(0:Int)/\Eng.ask (FNumP x_2.l x_2.a).isSome (∀(x_3:Nat×Nat),FNumP x_2.l x_2.a=some x_3->True/\Eng.ask (decide ((4096:Int)<(↑x_3.fst:Int))) (zCE0_2 x) (Eng.ask (!decide (zCE0_5 x_3=(0:Int))) (∃(x_4:XRd),zCE0_7 x_4 (x_4.l=x_2.l/\Eq (α:=Int) (↑x_4.a:Int) (↑x_3.snd:Int)/\Eng.ask (FNumP x_4.l x_4.a).isSome (∀(x_5:Nat×Nat),FNumP x_4.l x_4.a=some x_5->True/\Eng.ask (decide ((4096:Int)<(↑x_5.fst:Int))) (zCE0_2 x) (∀(q:Bool),q=true->zCE0_1 q (zCE0_1 q (zCE0_6 q/\Eng.ask (!bif q then true else false) (zCE0_2 x) (∀(q:Bool),q=true->zCE0_1 q (zCE0_1 q (zCE0_6 q/\Eng.ask (!bif q then true else false) (zCE0_8 x_3 x_5 x) (∀(q:Int),q=IntKind.i64.wrap (HSub.hSub (α:=Int) (↑x_4.l.length:Int) (↑x_5.snd:Int))->Eng.ask (decide ((0:Int)<q)) (zCE0_2 x) (zCE0_8 x_3 x_5 x))))))))) (True/\zCE0_2 x))) (∃(x_4:XRd),FRdOk x_4.l x_4.a/\0=0/\0=0/\0=0/\(16:Int)=(16:Int)/\(true=true->true=true)/\x_4.l=x_2.l/\Eq (α:=Int) (↑x_4.a:Int) (↑x_3.snd:Int)/\Eng.ask (FTkP 16 FPOut x_4.l x_4.a) (∀(x_5:Nat),True->True/\zCE0_2 x) (∀(x_5:List LOut×Int×Nat),FTkR 16 FPOut x_4.l x_4.a x_5->True/\Eng.ask (!decide (x_5.snd.fst=(0:Int))) (zCE0_2 x) (∀(q:Bool),q=true->zCE0_1 q (zCE0_1 q (zCE0_6 q/\Eng.ask (!bif q then true else false) (zCE0_2 x) (∀(q:Bool),q=true->zCE0_1 q (zCE0_1 q (zCE0_6 q/\Eng.ask (!bif q then true else false) (zCE0_0 x_3 x_5 x) (∀(q:Int),q=IntKind.i64.wrap (HSub.hSub (α:=Int) (↑x_4.l.length:Int) (↑x_5.snd.snd:Int))->Eng.ask (decide ((0:Int)<q)) (zCE0_2 x) (zCE0_0 x_3 x_5 x)))))))))))) (True/\zCE0_2 x))
theorem eq_ReadResult:vc_ReadResult=nf_ReadResult:=by kernel_rfl
theorem pf_ReadResult:nf_ReadResult:=by
 delta nf_ReadResult zCE0_1 zCE0_2 zCE0_4 zCE0_5 zCE0_6 zCE0_7 zCE0_10 zCE0_3 zCE0_8 zCE0_9 zCE0_11 zCE0_12 zCE0_0
 intro x0
 intro h1
 refine ⟨(x0),?_⟩
 try dsimp only
 refine ⟨by omega,by (simp;done),by rfl,by trivial,?_⟩
 refine ⟨⟨(x0),(((0:Int):Int)).toNat⟩,?_⟩
 try dsimp only
 refine ⟨?_,?_⟩
 ·refine ⟨by omega,?_⟩
  omega
 refine ⟨by rfl,by rfl,by rfl,by (simp;done),by rfl,by decide,?_⟩
 refine ask_p bp_id ?_ ?_
 ·intro h2
  intro x3
  intro h4
  refine ⟨by trivial,?_⟩
  refine ask_p bp_dec ?_ ?_
  ·intro h5
   refine ⟨(⟨0,0,[]⟩,4),?_⟩
   try dsimp only
   refine ⟨by exact dec_none (dec2 h4 h5),by decide,by decide,by rfl,by decide,by rfl,?_⟩
   trivial
  intro h5
  refine ask_p (bp_not bp_dec) ?_ ?_
  ·intro h6
   refine ⟨⟨(x0),(x3.snd)⟩,?_⟩
   try dsimp only
   refine ⟨?_,?_⟩
   ·refine ⟨by exact dec_at h4,?_⟩
    omega
   refine ⟨by rfl,by rfl,by rfl,by (simp;done),by rfl,by rfl,?_⟩
   refine ask_p bp_id ?_ ?_
   ·intro h7
    intro x8
    intro h9
    refine ⟨by trivial,?_⟩
    refine ask_p bp_dec ?_ ?_
    ·intro h10
     refine ⟨(⟨0,0,[]⟩,4),?_⟩
     try dsimp only
     refine ⟨by exact dec_none (dec4 h4 h5 h6 h9 h10),by decide,by decide,by rfl,by decide,by rfl,?_⟩
     trivial
    intro h10
    intro q11 hq11;subst hq11
    refine ⟨by (simp;done),by (simp;done),by (simp;done),by (simp;done),by (simp;done),?_⟩
    refine ask_p (bp_nott (bp_andl bp_true bp_true)) (fun h=>h.elim) ?_
    intro _
    intro q12 hq12;subst hq12
    refine ⟨by (simp;done),by (simp;done),by (simp;done),by (simp;done),by (simp;done),?_⟩
    refine ask_p (bp_nott (bp_andl bp_true bp_true)) (fun h=>h.elim) ?_
    intro _
    intro q13 h13
    refine ask_p bp_dec ?_ ?_
    ·intro h14
     refine ⟨(⟨0,0,[]⟩,4),?_⟩
     try dsimp only
     refine ⟨by exact dec_bad (dec5 h4 h5 h6 h9 h10) (fun hc=>by have:=((end_q h1 (dec_at2 h4 h9) h13).1).1 h14;omega),by decide,by decide,by rfl,by decide,by rfl,?_⟩
     trivial
    intro h14
    refine ⟨⟨IntKind.i64.wrap (x3.1:Int),IntKind.i64.wrap (x8.1:Int),[]⟩,?_⟩
    try dsimp only
    refine ⟨by exact sm_nil _ _,by rfl,by rfl,by rfl,by decide,by trivial,?_⟩
    refine ask_p (bp_not bp_id) ?_ ?_
    ·intro h15
     refine ⟨(⟨0,0,[]⟩,4),?_⟩
     try dsimp only
     refine ⟨by exact dec_bad (dec5 h4 h5 h6 h9 h10) (fun hc=>h15 (FMay_yes hc.2)),by decide,by decide,by rfl,by decide,by rfl,?_⟩
     trivial
    intro h15
    refine ⟨(⟨IntKind.i64.wrap (x3.1:Int),IntKind.i64.wrap (x8.1:Int),[]⟩,0),?_⟩
    try dsimp only
    refine ⟨by exact dec_yes (dec5 h4 h5 h6 h9 h10) (((end_q h1 (dec_at2 h4 h9) h13).2).1 h14) (Classical.not_not.1 h15),by rfl,by rfl,by rfl,by rfl,by rfl,?_⟩
    trivial
   intro h7
   refine ⟨by trivial,?_⟩
   refine ⟨(⟨0,0,[]⟩,4),?_⟩
   try dsimp only
   refine ⟨by exact dec_none (dec3 h4 h5 h6 h7),by decide,by decide,by rfl,by decide,by rfl,?_⟩
   trivial
  intro h6
  refine ⟨⟨(x0),(x3.snd)⟩,?_⟩
  try dsimp only
  refine ⟨by exact ⟨dec_at h4,Nat.lt_trans h1 (by omega)⟩,by rfl,by rfl,by rfl,by rfl,by (simp;done),by rfl,by rfl,?_⟩
  refine ask_p bp_id ?_ ?_
  ·intro h7
   intro x8
   intro h9
   refine ⟨by trivial,?_⟩
   refine ⟨(⟨0,0,[]⟩,4),?_⟩
   try dsimp only
   refine ⟨by exact dec_none (dec6 h4 h5 h6 (tkP_no h7)),by decide,by decide,by rfl,by decide,by rfl,?_⟩
   trivial
  intro h7
  intro x8
  intro h9
  refine ⟨by trivial,?_⟩
  refine ask_p (bp_not bp_dec) ?_ ?_
  ·intro h10
   refine ⟨(⟨0,0,[]⟩,4),?_⟩
   try dsimp only
   refine ⟨by exact dec_none (dec6 h4 h5 h6 (tkR_no h9 h10)),by decide,by decide,by rfl,by decide,by rfl,?_⟩
   trivial
  intro h10
  intro q11 hq11;subst hq11
  refine ⟨by (simp;done),by (simp;done),by (simp;done),by (simp;done),by (simp;done),?_⟩
  refine ask_p (bp_nott (bp_andl bp_true bp_true)) (fun h=>h.elim) ?_
  intro _
  intro q12 hq12;subst hq12
  refine ⟨by (simp;done),by (simp;done),by (simp;done),by (simp;done),by (simp;done),?_⟩
  refine ask_p (bp_nott (bp_andl bp_true bp_true)) (fun h=>h.elim) ?_
  intro _
  intro q13 h13
  refine ask_p bp_dec ?_ ?_
  ·intro h14
   refine ⟨(⟨0,0,[]⟩,4),?_⟩
   try dsimp only
   refine ⟨by exact dec_bad (dec7 h4 h5 h6 h9 h10) (fun hc=>by have:=((end_q h1 (dec_at3 h4 h9 h10).1 h13).1).1 h14;omega),by decide,by decide,by rfl,by decide,by rfl,?_⟩
   trivial
  intro h14
  refine ⟨⟨IntKind.i64.wrap (x3.1:Int),0,x8.1⟩,?_⟩
  try dsimp only
  refine ⟨by exact sm_outs (dec_at3 h4 h9 h10).2,by rfl,by rfl,by (simp;done),by rfl,by (simp;done),by trivial,?_⟩
  refine ask_p (bp_not bp_id) ?_ ?_
  ·intro h15
   refine ⟨(⟨0,0,[]⟩,4),?_⟩
   try dsimp only
   refine ⟨by exact dec_bad (dec7 h4 h5 h6 h9 h10) (fun hc=>h15 (FMay_yes hc.2)),by decide,by decide,by rfl,by decide,by rfl,?_⟩
   trivial
  intro h15
  refine ⟨(⟨IntKind.i64.wrap (x3.1:Int),0,x8.1⟩,0),?_⟩
  try dsimp only
  refine ⟨by exact dec_yes (dec7 h4 h5 h6 h9 h10) (((end_q h1 (dec_at3 h4 h9 h10).1 h13).2).1 h14) (Classical.not_not.1 h15),by rfl,by rfl,by (simp;done),by rfl,by (simp;done),by rfl,?_⟩
  trivial
 intro h2
 refine ⟨by trivial,?_⟩
 refine ⟨(⟨0,0,[]⟩,4),?_⟩
 try dsimp only
 refine ⟨by exact dec_none (dec1 h2),by decide,by decide,by rfl,by decide,by rfl,?_⟩
 trivial
end Go.Proofs
