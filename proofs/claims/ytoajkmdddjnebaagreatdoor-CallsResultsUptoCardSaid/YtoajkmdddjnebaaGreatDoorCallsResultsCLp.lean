import Derived.Test.YtoajkmdddjnebaaGreatDoorCallsResultsCL
set_option linter.unusedSimpArgs false
set_option linter.unusedVariables false
namespace Go.Proofs
open Go.Eng
set_option maxRecDepth 100000
abbrev zCL0_4:LOut:=LOut.mk false [] []
abbrev zCL0_7:Prop:=true=true->true=true->true=true
abbrev zCL0_8:Bool->Prop:=fun x0=>(bif false then x0 else !x0)=true
abbrev zCL0_9:XLw->Nat:=fun x0=>x0.r.outs.length
abbrev zCL0_14:Prop:=true=true->false=false->true=true
abbrev zCL0_15:Prop:=true=false/\True
abbrev zCL0_17:XLw->Prop->Prop:=fun x0 p=>x0.b=x0.b/\0=0/\0=0/\0=0/\p
abbrev zCL0_18:Prop:=false=true->false=true
abbrev zCL0_23:Bool->Prop:=fun x0=>true=true->x0=true
abbrev zCL0_24:Bool->Prop->Prop:=fun x0 p=>(x0=true->x0=true->x0=true)/\(true=true->x0=true->x0=true)/\p
abbrev zCL0_5:Prop->Prop:=fun p=>true=true/\zCL0_18/\p
abbrev zCL0_6:Bool->Prop:=fun x0=>Eng.ask x0 (true=true/\True) zCL0_15
abbrev zCL0_11:XLw->Nat->LOut:=fun x0 x1=>x0.r.outs.getD x1 zCL0_4
abbrev zCL0_12:XLw->XLm->LRow:=fun x0 x1=>(x0.r.outs.getD (Int.toNat (↑x1.i:Int)) zCL0_4).rows.getD (Int.toNat (↑x1.k:Int)) (LRow.mk [] [])
abbrev zCL0_16:XLm->XLw->Nat->Prop:=fun x0 x1 x2=>(x0.i<zCL0_9 x1/\x0.k<=(x1.r.outs.getD x0.i zCL0_4).rows.length)/\x2=x0.i
abbrev zCL0_20:LRes×Int->Nat->LOut:=fun x0 x1=>x0.fst.outs.getD x1 zCL0_4
abbrev zCL0_21:XRR->Nat->LOut:=fun x0 x1=>x0.b.outs.getD x1 zCL0_4
abbrev zCL0_22:XLm->XLw->Prop->Prop:=fun x0 x1 p=>(0:Int)<=(↑x0.i:Int)/\Int.toNat (↑x0.i:Int)<zCL0_9 x1/\(0:Int)<=(↑x0.k:Int)/\Int.toNat (↑x0.k:Int)<(x1.r.outs.getD (Int.toNat (↑x0.i:Int)) zCL0_4).rows.length/\p
abbrev zCL0_25:XLw->XLn->LOut:=fun x0 x1=>x0.r.outs.getD (Int.toNat (↑x1.i:Int)) zCL0_4
abbrev zCL0_26:XRR->Nat->LOut:=fun x0 x1=>x0.a.outs.getD x1 zCL0_4
abbrev zCL0_28:Prop:=false=false/\(true=true->true=false->false=true)/\zCL0_15
abbrev zCL0_19:XLw->Nat->Nat->LRow:=fun x0 x1 x2=>(zCL0_11 x0 x1).rows.getD x2 (LRow.mk [] [])
abbrev zCL0_27:Prop:=∀(q:Bool),q=false->zCL0_6 q
abbrev zCL0_29:XRR->Nat->Nat->LRow:=fun x0 x1 x2=>(zCL0_21 x0 x1).rows.getD x2 (LRow.mk [] [])
abbrev zCL0_30:LRes×Int->Nat->Nat->LRow:=fun x0 x1 x2=>(zCL0_20 x0 x1).rows.getD x2 (LRow.mk [] [])
abbrev zCL0_0:XRR->LRes×Int->Prop->Prop:=fun x0 x1 p=>(FSm x0.a/\FSm x0.b)/\x0.a.abort=x1.fst.abort/\x0.a.place=x1.fst.place/\zCL0_18/\x0.a.outs.length=x1.fst.outs.length/\(∀(i:Nat),i<x0.a.outs.length->(zCL0_26 x0 i).has=(zCL0_20 x1 i).has/\zCL0_5 ((zCL0_26 x0 i).value=(zCL0_20 x1 i).value)/\zCL0_5 ((zCL0_26 x0 i).rows.length=(zCL0_20 x1 i).rows.length/\2=2/\∀(i_1:Nat),i_1<(zCL0_26 x0 i).rows.length->zCL0_5 (((zCL0_26 x0 i).rows.getD i_1 (LRow.mk [] [])).key=(zCL0_30 x1 i i_1).key)/\zCL0_5 (((zCL0_26 x0 i).rows.getD i_1 (LRow.mk [] [])).value=(zCL0_30 x1 i i_1).value)/\True)/\True)/\p
abbrev zCL0_1:LRes->XLw->Prop->Prop:=fun x0 x1 p=>x0.abort=x1.r.abort/\x0.place=x1.r.place/\zCL0_18/\x0.outs.length=zCL0_9 x1/\(∀(i:Nat),i<x0.outs.length->(x0.outs.getD i zCL0_4).has=(zCL0_11 x1 i).has/\zCL0_5 ((x0.outs.getD i zCL0_4).value=(zCL0_11 x1 i).value)/\zCL0_5 ((x0.outs.getD i zCL0_4).rows.length=(zCL0_11 x1 i).rows.length/\2=2/\∀(i_1:Nat),i_1<(x0.outs.getD i zCL0_4).rows.length->zCL0_5 (((x0.outs.getD i zCL0_4).rows.getD i_1 (LRow.mk [] [])).key=(zCL0_19 x1 i i_1).key)/\zCL0_5 (((x0.outs.getD i zCL0_4).rows.getD i_1 (LRow.mk [] [])).value=(zCL0_19 x1 i i_1).value)/\True)/\True)/\p
abbrev zCL0_2:XLw->Prop:=fun x0=>x0.r.abort=x0.r.abort/\x0.r.place=x0.r.place/\zCL0_18/\zCL0_9 x0=zCL0_9 x0/\(∀(i:Nat),i<zCL0_9 x0->(zCL0_11 x0 i).has=(zCL0_11 x0 i).has/\zCL0_5 ((zCL0_11 x0 i).value=(zCL0_11 x0 i).value)/\zCL0_5 ((zCL0_11 x0 i).rows.length=(zCL0_11 x0 i).rows.length/\2=2/\∀(i_1:Nat),i_1<(zCL0_11 x0 i).rows.length->zCL0_5 ((zCL0_19 x0 i i_1).key=(zCL0_19 x0 i i_1).key)/\zCL0_5 ((zCL0_19 x0 i i_1).value=(zCL0_19 x0 i i_1).value)/\True)/\True)/\True
abbrev zCL0_3:XRR->XLw->Prop->Prop:=fun x0 x1 p=>x0.b.abort=x1.r.abort/\x0.b.place=x1.r.place/\zCL0_18/\x0.b.outs.length=zCL0_9 x1/\(∀(i:Nat),i<x0.b.outs.length->(zCL0_21 x0 i).has=(zCL0_11 x1 i).has/\zCL0_5 ((zCL0_21 x0 i).value=(zCL0_11 x1 i).value)/\zCL0_5 ((zCL0_21 x0 i).rows.length=(zCL0_11 x1 i).rows.length/\2=2/\∀(i_1:Nat),i_1<(zCL0_21 x0 i).rows.length->zCL0_5 ((zCL0_29 x0 i i_1).key=(zCL0_19 x1 i i_1).key)/\zCL0_5 ((zCL0_29 x0 i i_1).value=(zCL0_19 x1 i i_1).value)/\True)/\True)/\True/\p
abbrev zCL0_10:XRR->LRes×Int->Prop->Prop:=fun x0 x1 p=>x0.b.abort=x1.fst.abort/\x0.b.place=x1.fst.place/\zCL0_18/\x0.b.outs.length=x1.fst.outs.length/\(∀(i:Nat),i<x0.b.outs.length->(zCL0_21 x0 i).has=(zCL0_20 x1 i).has/\zCL0_5 ((zCL0_21 x0 i).value=(zCL0_20 x1 i).value)/\zCL0_5 ((zCL0_21 x0 i).rows.length=(zCL0_20 x1 i).rows.length/\2=2/\∀(i_1:Nat),i_1<(zCL0_21 x0 i).rows.length->zCL0_5 ((zCL0_29 x0 i i_1).key=(zCL0_30 x1 i i_1).key)/\zCL0_5 ((zCL0_29 x0 i i_1).value=(zCL0_30 x1 i i_1).value)/\True)/\True)/\True/\p
abbrev zCL0_13:Bool->LRes×Int->XLw->Prop:=fun x0 x1 x2=>Eng.ask x0 (zCL0_23 x0/\zCL0_23 x0/\∃(x:XRR),zCL0_0 x x1 (zCL0_3 x x2 (∀(q:Bool),(q=bif true then FAlike x.a x.b else false)->zCL0_6 q))) zCL0_27
def nf_law:Prop:=
 ∀(x:XLw),FSm x.r/\x.b.length<1048577->(∃(x_1:XLn),x_1.i<=zCL0_9 x/\zCL0_18/\zCL0_17 x (x_1.t=(0:Int)/\(↑x_1.i:Int)=(0:Int)/\zCL0_2 x))/\True/\∀(x_1:XLn),x_1.i<=zCL0_9 x->∀(q:Bool),q=decide (LT.lt (α:=Int) (↑x_1.i:Int) (↑(zCL0_9 x):Int))->zCL0_24 q (Eng.ask (bif q then decide ((↑x_1.i:Int)<(20:Int)) else false) ((0:Int)<=(↑x_1.i:Int)/\Int.toNat (↑x_1.i:Int)<zCL0_9 x/\∀(q:Int),q=IntKind.i64.wrap (x_1.t+bif decide ((9999:Int)<(↑(zCL0_25 x x_1).value.length:Int)) then (9999:Int) else (↑(zCL0_25 x x_1).value.length:Int))->(0:Int)<=(↑x_1.i:Int)/\Int.toNat (↑x_1.i:Int)<zCL0_9 x/\∀(q_1:Int),q_1=IntKind.i64.wrap (q+bif decide ((9999:Int)<(↑(zCL0_25 x x_1).rows.length:Int)) then (9999:Int) else (↑(zCL0_25 x x_1).rows.length:Int))->∃(r:Nat),(∃(x_2:XLm),zCL0_16 x_2 x r/\zCL0_18/\zCL0_17 x (x_2.t=q_1/\Eq (α:=Int) (↑x_2.i:Int) (↑x_1.i:Int)/\(↑x_2.k:Int)=(0:Int)/\zCL0_2 x))/\True/\∀(x_2:XLm),zCL0_16 x_2 x r->(0:Int)<=(↑x_2.i:Int)/\Int.toNat (↑x_2.i:Int)<zCL0_9 x/\∀(q:Bool),q=decide (LT.lt (α:=Int) (↑x_2.k:Int) (↑(x.r.outs.getD (Int.toNat (↑x_2.i:Int)) zCL0_4).rows.length:Int))->zCL0_24 q (Eng.ask (bif q then decide ((↑x_2.k:Int)<(70:Int)) else false) (zCL0_22 x_2 x (∀(q:Int),q=IntKind.i64.wrap (x_2.t+bif decide ((9999:Int)<(↑(zCL0_12 x x_2).key.length:Int)) then (9999:Int) else (↑(zCL0_12 x x_2).key.length:Int))->zCL0_22 x_2 x (∀(q_2:Int),q_2=IntKind.i64.wrap (q+bif decide ((9999:Int)<(↑(zCL0_12 x x_2).value.length:Int)) then (9999:Int) else (↑(zCL0_12 x x_2).value.length:Int))->True/\True/\True/\∃(x':XLm),zCL0_16 x' x r/\(x.r.outs.getD x'.i zCL0_4).rows.length -x'.k<(x.r.outs.getD x_2.i zCL0_4).rows.length -x_2.k/\zCL0_18/\zCL0_17 x (x'.t=q_2/\Eq (α:=Int) (↑x'.i:Int) (↑x_2.i:Int)/\(↑x'.k:Int)=IntKind.i64.wrap ((↑x_2.k:Int)+(1:Int))/\zCL0_2 x)))) (True/\True/\True/\∃(x':XLn),x'.i<=zCL0_9 x/\zCL0_9 x-x'.i<zCL0_9 x-x_1.i/\zCL0_18/\zCL0_17 x (x'.t=x_2.t/\(↑x'.i:Int)=IntKind.i64.wrap ((↑x_2.i:Int)+(1:Int))/\zCL0_2 x)))) (∀(q:Bool),q=decide ((9000:Int)<(↑x.b.length:Int))->(zCL0_8 q->zCL0_8 q->zCL0_8 q)/\(true=true->q=false->zCL0_8 q)/\Eng.ask (bif q then true else decide ((9000:Int)<x_1.t)) (true=true/\True) (∃(x_2:LRes),FSm x_2/\zCL0_1 x_2 x (Eng.ask (FMay x_2) (True/\∃(x_3:List UInt8),x_3.length<1099511620000/\zCL0_18/\x_3=x.b/\∀(x_4:LRes×Int),FDecR' x_3 x_4->True/\∃(x_5:List UInt8),x_5.length<1099511627000/\zCL0_18/\x_5=x.b/\∀(x_6:LRes×Int),FDecR' x_5 x_6->True/\∃(x_7:XRR),zCL0_0 x_7 x_4 (zCL0_10 x_7 x_6 (∀(q:Bool),q= !FAlike x_7.a x_7.b->Eng.ask (bif false then q else !q) ((true=true->zCL0_8 q)/\zCL0_7/\zCL0_14/\Eng.ask (bif false then true else !decide (x_4.snd=x_6.snd)) zCL0_15 (∃(x_8:LRes),FSm x_8/\zCL0_1 x_8 x (True/\Eng.ask (!FMay x_8) (∀(q:Bool),q=decide ((↑(FRes x_2).length:Int)=(0:Int))->Eng.ask q (zCL0_23 q/\zCL0_7/\∀(q:Bool),(q=bif true then decide ((0:Int)=(2:Int)) else false)->zCL0_6 q) zCL0_27) (∃(x_9:LRes),(FSm x_9/\FMay x_9=true/\(FOuts x_9.outs).length<1099511624000)/\zCL0_1 x_9 x (True/\∀(q:Bool),q= !decide (FRes x_2=FRes x_9)->Eng.ask q zCL0_28 ((true=true->zCL0_8 q)/\zCL0_14/\∃(x_10:List UInt8),x_10.length<1099511620000/\(false=true->true=true)/\x_10=FRes x_2/\∀(x_11:LRes×Int),FDecR' x_10 x_11->True/\∃(x_12:XRR),zCL0_0 x_12 x_11 (zCL0_3 x_12 x (∀(q:Bool),q=FAlike x_12.a x_12.b->Eng.ask q (zCL0_23 q/\zCL0_7/\∀(q:Bool),(q=bif true then decide (x_11.snd=(0:Int)) else false)->zCL0_13 q x_11 x) (∀(q:Bool),q=false->zCL0_13 q x_11 x))))))))) zCL0_15))) (True/\∃(x_3:List UInt8),x_3.length<1099511620000/\zCL0_18/\x_3=x.b/\∀(x_4:LRes×Int),FDecR' x_3 x_4->True/\∃(x_5:List UInt8),x_5.length<1099511627000/\zCL0_18/\x_5=x.b/\∀(x_6:LRes×Int),FDecR' x_5 x_6->True/\∃(x_7:XRR),zCL0_0 x_7 x_4 (zCL0_10 x_7 x_6 (∀(q:Bool),q= !FAlike x_7.a x_7.b->Eng.ask (bif false then q else !q) ((true=true->zCL0_8 q)/\zCL0_7/\zCL0_14/\Eng.ask (bif false then true else !decide (x_4.snd=x_6.snd)) zCL0_15 (∃(x_8:LRes),FSm x_8/\zCL0_1 x_8 x (True/\Eng.ask (!FMay x_8) (∀(q:Bool),q=decide ((0:Int)=(0:Int))->Eng.ask q (zCL0_23 q/\zCL0_7/\∀(q:Bool),(q=bif true then decide ((2:Int)=(2:Int)) else false)->zCL0_6 q) zCL0_27) (∃(x_9:LRes),(FSm x_9/\FMay x_9=true/\(FOuts x_9.outs).length<1099511624000)/\zCL0_1 x_9 x (True/\∀(q:Bool),q= !decide ([]=FRes x_9)->Eng.ask q zCL0_28 ((true=true->zCL0_8 q)/\zCL0_14/\zCL0_15)))))) zCL0_15)))))))
theorem eq_law:vc_law=nf_law:=by kernel_rfl
theorem pf_law:nf_law:=by
 delta nf_law zCL0_4 zCL0_7 zCL0_8 zCL0_9 zCL0_14 zCL0_15 zCL0_17 zCL0_18 zCL0_23 zCL0_24 zCL0_5 zCL0_6 zCL0_11 zCL0_12 zCL0_16 zCL0_20 zCL0_21 zCL0_22 zCL0_25 zCL0_26 zCL0_28 zCL0_19 zCL0_27 zCL0_29 zCL0_30 zCL0_0 zCL0_1 zCL0_2 zCL0_3 zCL0_10 zCL0_13
 intro x0
 intro ⟨h1,h2⟩
 refine ⟨?_,?_⟩
 ·refine ⟨⟨(((0:Int):Int)).toNat,((0:Int))⟩,?_⟩
  try dsimp only
  refine ⟨by omega,by (simp;done),by rfl,by rfl,by rfl,by rfl,by rfl,by decide,by rfl,by rfl,by (simp;done),by rfl,?_⟩
  refine ⟨by (simp;done),?_⟩
  trivial
 refine ⟨by trivial,?_⟩
 intro x3
 intro h4
 intro q5 hq5;subst hq5
 refine ⟨by (simp;done),by (simp;done),?_⟩
 refine ask_p (bp_and bp_dec bp_dec) ?_ ?_
 ·intro ⟨h6,h7⟩
  refine ⟨by omega,by omega,?_⟩
  intro q8 h8
  refine ⟨by omega,by omega,?_⟩
  intro q9 h9
  refine ⟨x3.i,?_⟩
  try dsimp only
  refine ⟨?_,?_⟩
  ·refine ⟨⟨(x3.i),(((0:Int):Int)).toNat,(q9)⟩,?_⟩
   try dsimp only
   refine ⟨?_,?_⟩
   ·refine ⟨?_,?_⟩
    ·refine ⟨by omega,?_⟩
     omega
    rfl
   refine ⟨by (simp;done),by rfl,by rfl,by rfl,by rfl,by rfl,by rfl,by decide,by rfl,by rfl,by (simp;done),by rfl,?_⟩
   refine ⟨by (simp;done),?_⟩
   trivial
  refine ⟨by trivial,?_⟩
  intro x10
  intro ⟨⟨h11,h12⟩,h13⟩
  refine ⟨by omega,by omega,?_⟩
  intro q14 hq14;subst hq14
  refine ⟨by (simp;done),by (simp;done),?_⟩
  refine ask_p (bp_and bp_dec bp_dec) ?_ ?_
  ·intro ⟨h15,h16⟩
   refine ⟨by omega,by omega,by omega,by omega,?_⟩
   intro q17 h17
   refine ⟨by omega,by omega,by omega,by omega,?_⟩
   intro q18 h18
   refine ⟨by trivial,by trivial,by trivial,?_⟩
   refine ⟨⟨(x10.i),((IntKind.i64.wrap ((↑x10.k:Int)+(1:Int)):Int)).toNat,(q18)⟩,?_⟩
   try dsimp only
   refine ⟨?_,?_⟩
   ·refine ⟨?_,?_⟩
    ·refine ⟨by omega,?_⟩
     exact k_le (h1.2 x10.i h11).1 h15
    omega
   refine ⟨by exact k_mu (h1.2 x10.i h11).1 h15,by (simp;done),by rfl,by rfl,by rfl,by rfl,by rfl,by rfl,by exact k_eq (h1.2 x10.i h11).1 h15,by rfl,by rfl,by (simp;done),?_⟩
   refine ⟨by rfl,by (simp;done),?_⟩
   trivial
  intro h15
  refine ⟨by trivial,by trivial,by trivial,?_⟩
  refine ⟨⟨((IntKind.i64.wrap ((↑x10.i:Int)+(1:Int)):Int)).toNat,(x10.t)⟩,?_⟩
  try dsimp only
  refine ⟨by (rw [wrap_succ _ (by omega)];omega),by (rw [wrap_succ _ (by omega)];omega),by (simp;done),by rfl,by rfl,by rfl,by rfl,by rfl,by (rw [wrap_succ _ (by omega)];omega),by rfl,by rfl,by (simp;done),?_⟩
  refine ⟨by rfl,by (simp;done),?_⟩
  trivial
 intro h6
 intro q7 hq7;subst hq7
 refine ⟨by (simp;done),by (simp;done),?_⟩
 refine ask_p (bp_or bp_dec bp_dec) ?_ ?_
 ·intro h8
  refine ⟨by rfl,?_⟩
  trivial
 intro h8
 refine ⟨x0.r,?_⟩
 try dsimp only
 refine ⟨by exact h1,by rfl,by rfl,by (simp;done),by rfl,by (simp;done),?_⟩
 refine ask_p bp_id ?_ ?_
 ·intro h9
  refine ⟨by trivial,?_⟩
  refine ⟨(x0.b),?_⟩
  try dsimp only
  refine ⟨by omega,by (simp;done),by rfl,?_⟩
  intro x10
  intro h11
  refine ⟨by trivial,?_⟩
  refine ⟨(x0.b),?_⟩
  try dsimp only
  refine ⟨by omega,by (simp;done),by rfl,?_⟩
  intro x12
  intro h13
  refine ⟨by trivial,?_⟩
  refine ⟨⟨x10.1,x12.1⟩,?_⟩
  try dsimp only
  refine ⟨?_,?_⟩
  ·refine ⟨by exact decR_sm ‹_›,?_⟩
   exact decR_sm ‹_›
  refine ⟨by rfl,by rfl,by (simp;done),by rfl,by (simp;done),by rfl,by rfl,by (simp;done),by rfl,by (simp;done),by trivial,?_⟩
  intro q14 hq14;subst hq14
  refine ask_p (bp_cond bp_false (bp_not bp_id) (bp_not (bp_not bp_id))) ?_ ?_
  ·intro h15
   refine ⟨?_,?_⟩
   ·intro h16
    grind
   refine ⟨by (simp;done),by (simp;done),?_⟩
   refine ask_p (bp_orfl bp_false (bp_not bp_dec)) ?_ ?_
   ·intro h16
    refine ⟨by exact absurd (congrArg Prod.snd (decR_same h11 h13)) h16,?_⟩
    trivial
   intro h16
   refine ⟨x0.r,?_⟩
   try dsimp only
   refine ⟨by exact h1,by rfl,by rfl,by (simp;done),by rfl,by (simp;done),by trivial,?_⟩
   refine ask_p (bp_not bp_id) ?_ ?_
   ·intro h17
    intro q18 hq18;subst hq18
    refine ask_p bp_dec ?_ ?_
    ·intro h19
     refine ⟨?_,?_⟩
     ·intro h20
      grind
     refine ⟨by (simp;done),?_⟩
     intro q20 hq20;subst hq20
     refine ask_p (bp_andl bp_true bp_dec) ?_ ?_
     ·intro h21
      exfalso;omega
     intro h21
     refine ⟨by grind,?_⟩
     trivial
    intro h19
    intro q20 hq20;subst hq20
    refine ask_p bp_false (fun h=>h.elim) ?_
    intro _
    refine ⟨by grind,?_⟩
    trivial
   intro h17
   refine ⟨x0.r,?_⟩
   try dsimp only
   refine ⟨?_,?_⟩
   ·refine ⟨by exact h1,by omega,?_⟩
    exact outs_res h9
   refine ⟨by rfl,by rfl,by (simp;done),by rfl,by (simp;done),by trivial,?_⟩
   intro q18 hq18;subst hq18
   refine ask_p (bp_not bp_dec) ?_ ?_
   ·intro h19
    refine ⟨by rfl,by (simp;done),by grind,?_⟩
    trivial
   intro h19
   refine ⟨by (simp;done),by (simp;done),?_⟩
   refine ⟨(FRes x0.r),?_⟩
   try dsimp only
   refine ⟨by exact Nat.lt_trans (res_short h9) (by decide),by (simp;done),by rfl,?_⟩
   intro x20
   intro h21
   refine ⟨by trivial,?_⟩
   refine ⟨⟨x20.1,x0.r⟩,?_⟩
   try dsimp only
   refine ⟨?_,?_⟩
   ·refine ⟨by exact decR_sm ‹_›,?_⟩
    exact h1
   refine ⟨by rfl,by rfl,by (simp;done),by rfl,by (simp;done),by rfl,by rfl,by (simp;done),by rfl,by (simp;done),by trivial,?_⟩
   intro q22 hq22;subst hq22
   refine ask_p bp_id ?_ ?_
   ·intro h23
    refine ⟨?_,?_⟩
    ·intro h24
     omega
    refine ⟨by (simp;done),?_⟩
    intro q24 hq24;subst hq24
    refine ask_p (bp_andl bp_true bp_dec) ?_ ?_
    ·intro h25
     refine ⟨?_,?_⟩
     ·intro h26
      grind
     refine ⟨?_,?_⟩
     ·intro h26
      grind
     refine ⟨⟨x20.1,x0.r⟩,?_⟩
     try dsimp only
     refine ⟨?_,?_⟩
     ·refine ⟨by exact decR_sm ‹_›,?_⟩
      exact h1
     refine ⟨by rfl,by rfl,by (simp;done),by rfl,by (simp;done),by rfl,by rfl,by (simp;done),by rfl,by (simp;done),by trivial,?_⟩
     intro q26 hq26;subst hq26
     refine ask_p (bp_andl bp_true bp_id) ?_ ?_
     ·intro h27
      refine ⟨by rfl,?_⟩
      trivial
     intro h27
     refine ⟨by grind,?_⟩
     trivial
    intro h25
    intro q26 hq26;subst hq26
    refine ask_p bp_false (fun h=>h.elim) ?_
    intro _
    refine ⟨by exact absurd (congrArg Prod.snd (decR_back h9 h21)) h25,?_⟩
    trivial
   intro h23
   intro q24 hq24;subst hq24
   refine ask_p bp_false (fun h=>h.elim) ?_
   intro _
   intro q25 hq25;subst hq25
   refine ask_p bp_false (fun h=>h.elim) ?_
   intro _
   refine ⟨by exact absurd (by rw [decR_back h9 h21];exact FAlike_yes rfl) h23,?_⟩
   trivial
  intro h15
  refine ⟨by (have e:=decR_same h11 h13;subst e;simp [FAlike] at h15;done),?_⟩
  trivial
 intro h9
 refine ⟨by trivial,?_⟩
 refine ⟨(x0.b),?_⟩
 try dsimp only
 refine ⟨by omega,by (simp;done),by rfl,?_⟩
 intro x10
 intro h11
 refine ⟨by trivial,?_⟩
 refine ⟨(x0.b),?_⟩
 try dsimp only
 refine ⟨by omega,by (simp;done),by rfl,?_⟩
 intro x12
 intro h13
 refine ⟨by trivial,?_⟩
 refine ⟨⟨x10.1,x12.1⟩,?_⟩
 try dsimp only
 refine ⟨?_,?_⟩
 ·refine ⟨by exact decR_sm ‹_›,?_⟩
  exact decR_sm ‹_›
 refine ⟨by rfl,by rfl,by (simp;done),by rfl,by (simp;done),by rfl,by rfl,by (simp;done),by rfl,by (simp;done),by trivial,?_⟩
 intro q14 hq14;subst hq14
 refine ask_p (bp_cond bp_false (bp_not bp_id) (bp_not (bp_not bp_id))) ?_ ?_
 ·intro h15
  refine ⟨?_,?_⟩
  ·intro h16
   grind
  refine ⟨by (simp;done),by (simp;done),?_⟩
  refine ask_p (bp_orfl bp_false (bp_not bp_dec)) ?_ ?_
  ·intro h16
   refine ⟨by exact absurd (congrArg Prod.snd (decR_same h11 h13)) h16,?_⟩
   trivial
  intro h16
  refine ⟨x0.r,?_⟩
  try dsimp only
  refine ⟨by exact h1,by rfl,by rfl,by (simp;done),by rfl,by (simp;done),by trivial,?_⟩
  refine ask_p (bp_not bp_id) ?_ ?_
  ·intro h17
   intro q18 hq18;subst hq18
   refine ask_p bp_dec ?_ ?_
   ·intro h19
    refine ⟨by (simp;done),by (simp;done),?_⟩
    intro q20 hq20;subst hq20
    refine ask_p (bp_andl bp_true bp_dec) ?_ ?_
    ·intro h21
     refine ⟨by rfl,?_⟩
     trivial
    intro h21
    exfalso;omega
   intro h19
   exfalso;omega
  intro h17
  refine ⟨x0.r,?_⟩
  try dsimp only
  refine ⟨?_,?_⟩
  ·refine ⟨by exact h1,by grind,?_⟩
   grind
  refine ⟨by rfl,by rfl,by (simp;done),by rfl,by (simp;done),by trivial,?_⟩
  intro q18 hq18;subst hq18
  refine ask_p (bp_not bp_dec) ?_ ?_
  ·intro h19
   refine ⟨by rfl,by (simp;done),by grind,?_⟩
   trivial
  intro h19
  refine ⟨?_,?_⟩
  ·intro h20
   grind
  refine ⟨by (simp;done),by grind,?_⟩
  trivial
 intro h15
 refine ⟨by (have e:=decR_same h11 h13;subst e;simp [FAlike] at h15;done),?_⟩
 trivial
end Go.Proofs
