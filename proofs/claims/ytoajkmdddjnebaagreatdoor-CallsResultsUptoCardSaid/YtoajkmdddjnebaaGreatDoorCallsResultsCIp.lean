import Derived.Test.YtoajkmdddjnebaaGreatDoorCallsResultsCI
set_option linter.unusedSimpArgs false
set_option linter.unusedVariables false
namespace Go.Proofs
open Go.Eng
set_option maxRecDepth 100000
abbrev zCI0_1:Prop:=false=true->false=true
abbrev zCI0_2:LOut:=LOut.mk false [] []
abbrev zCI0_3:List UInt8->Prop:=fun x0=>∃(x:LRes×Int),FDecR' x0 x/\x.fst.abort=(0:Int)/\x.fst.place=(0:Int)/\false=false/\x.fst.outs.length=0/\x.snd=(4:Int)/\True
abbrev zCI0_4:Bool->Prop:=fun x0=>(bif false then x0 else !x0)=true
abbrev zCI0_7:Prop->Prop:=fun p=>(0:Int)=(0:Int)/\(0:Int)=(0:Int)/\p
abbrev zCI0_9:Prop->Prop:=fun p=>0=0/\0=0/\p
abbrev zCI0_10:Bool->Prop:=fun x0=>true=true->x0=true->x0=true
abbrev zCI0_11:XRf->Nat×Bool×Nat->Prop:=fun x0 x1=>FRf FRNum (fun x=>x<1073741824) x0.l x0.a x0.ok x1
abbrev zCI0_17:XRf->List UInt8×Bool×Nat->Prop:=fun x0 x1=>FRf (FBytesP 4096) (fun x=>x.length<1048577) x0.l x0.a x0.ok x1
abbrev zCI0_22:LRes->Nat×Bool×Nat->Nat×Bool×Nat->Prop:=fun x0 x1 x2=>x0.abort=(↑x1.fst:Int)/\x0.place=(↑x2.fst:Int)/\false=false/\x0.outs.length=0/\True
abbrev zCI0_0:Prop->Prop:=fun p=>zCI0_9 (zCI0_9 (0=0/\p))
abbrev zCI0_6:XRJ->Nat->LOut:=fun x0 x1=>x0.xs.getD x1 zCI0_2
abbrev zCI0_8:Bool->Prop->Prop:=fun x0 p=>(true=true->zCI0_4 x0)/\(true=true->true=true->true=true)/\(true=true->true=true->true=true)/\(true=true->false=false->true=true)/\p
abbrev zCI0_12:Prop->Prop:=fun p=>true=true/\zCI0_1/\p
abbrev zCI0_13:XRI->Nat->LOut:=fun x0 x1=>x0.xs.getD (0+x1) zCI0_2
abbrev zCI0_15:List UInt8->Prop:=fun x0=>(false=true->zCI0_1)/\false=false/\(true=true->true=false->false=true)/\zCI0_3 x0
abbrev zCI0_16:Prop->Prop:=fun p=>0=0/\zCI0_1/\p
abbrev zCI0_18:Bool->LRes->Prop->Prop:=fun x0 x1 p=>(true=true->zCI0_4 x0)/\(FSm x1/\FMay x1=true/\(FOuts x1.outs).length<1099511624000)/\1≠0/\p
abbrev zCI0_19:LRes×Int->Nat->LOut:=fun x0 x1=>x0.fst.outs.getD x1 zCI0_2
abbrev zCI0_20:Bool->Prop->Prop:=fun x0 p=>(zCI0_4 x0->zCI0_4 x0->zCI0_4 x0)/\(true=true->x0=false->zCI0_4 x0)/\p
abbrev zCI0_21:XRI->Nat->LOut:=fun x0 x1=>x0.xs.getD x1 zCI0_2
abbrev zCI0_14:XRJ->Nat->Nat->LRow:=fun x0 x1 x2=>(zCI0_6 x0 x1).rows.getD x2 (LRow.mk [] [])
abbrev zCI0_23:XRI->Nat->Nat->LRow:=fun x0 x1 x2=>(zCI0_13 x0 x1).rows.getD x2 (LRow.mk [] [])
abbrev zCI0_5:LRes->XRI->Prop:=fun x0 x1=>x0.abort=(0:Int)/\x0.place=(0:Int)/\(false=true->true=true->x1.i≠0\/x1.i≠0)/\x0.outs.length=x1.i/\0+x1.i<=x1.i/\(∀(i:Nat),i<x0.outs.length->(x0.outs.getD i zCI0_2).has=(zCI0_13 x1 i).has/\zCI0_12 ((x0.outs.getD i zCI0_2).value=(zCI0_13 x1 i).value)/\zCI0_12 ((x0.outs.getD i zCI0_2).rows.length=(zCI0_13 x1 i).rows.length/\2=2/\∀(i_1:Nat),i_1<(x0.outs.getD i zCI0_2).rows.length->zCI0_12 (((x0.outs.getD i zCI0_2).rows.getD i_1 (LRow.mk [] [])).key=(zCI0_23 x1 i i_1).key)/\zCI0_12 (((x0.outs.getD i zCI0_2).rows.getD i_1 (LRow.mk [] [])).value=(zCI0_23 x1 i i_1).value)/\True)/\True)/\True
def nf_rRead:Prop:=
 ∀(x:List UInt8),x.length<1099511627000->∃(x_1:XRf),FRdOk x_1.l x_1.a/\zCI0_0 (zCI0_16 (x_1.l=x/\(↑x_1.a:Int)=(0:Int)/\x_1.ok=true/\∀(x_2:Nat×Bool×Nat),zCI0_11 x_1 x_2->True/\Eng.ask (!decide ((↑x_2.fst:Int)=(0:Int))) (∃(x_3:XRf),FRdOk x_3.l x_3.a/\zCI0_0 (zCI0_16 (x_3.l=x_1.l/\Eq (α:=Int) (↑x_3.a:Int) (↑x_2.snd.snd:Int)/\x_3.ok=x_2.snd.fst/\∀(x_4:Nat×Bool×Nat),zCI0_11 x_3 x_4->True/\∀(q:Bool),q= !x_4.snd.fst->∃(x_5:LRes),(zCI0_4 q->(true=true->zCI0_4 q)/\FSm x_5/\True/\zCI0_22 x_5 x_2 x_4)/\zCI0_20 q (∀(q_1:Bool),(q_1=bif q then true else !FMay x_5)->∃(x_6:LRes),(zCI0_4 q_1->zCI0_18 q_1 x_6 (zCI0_22 x_6 x_2 x_4))/\Eng.ask q_1 (zCI0_15 x) (zCI0_8 q_1 (Eng.ask (bif false then true else !decide (FRes x_6=x)) (zCI0_3 x) (∃(x_7:LRes×Int),FDecR' x x_7/\x_7.fst.abort=(↑x_2.fst:Int)/\x_7.fst.place=(↑x_4.fst:Int)/\false=false/\x_7.fst.outs.length=0/\x_7.snd=(0:Int)/\True))))))) (∃(x_3:XRf),FRdOk x_3.l x_3.a/\zCI0_0 (zCI0_16 (x_3.l=x_1.l/\Eq (α:=Int) (↑x_3.a:Int) (↑x_2.snd.snd:Int)/\x_3.ok=x_2.snd.fst/\∀(x_4:Nat×Bool×Nat),zCI0_11 x_3 x_4->True/\(∃(x_5:XRI),FRI x x_5/\zCI0_1/\x=x/\zCI0_0 (zCI0_0 (zCI0_9 (Eq (α:=Int) (↑x_5.n:Int) (↑x_4.fst:Int)/\(↑x_5.i:Int)=(0:Int)/\zCI0_7 (zCI0_1/\x=x_3.l/\Eq (α:=Int) (↑x_5.at_:Int) (↑x_4.snd.snd:Int)/\x_5.ok=x_4.snd.fst/\(0:Int)=(↑x_2.fst:Int)/\(0:Int)=(0:Int)/\x_5.i=0/\x_5.i=0/\true=true/\x_5.i=0/\True)))))/\True/\∀(x_5:XRI),FRI x x_5->∀(q:Bool),q=decide (LT.lt (α:=Int) (↑x_5.i:Int) (↑x_5.n:Int))->(q=true->q=true->q=true)/\zCI0_10 q/\∀(q_1:Bool),(q_1=bif q then decide ((↑x_5.i:Int)<=(16:Int)) else false)->zCI0_10 q_1/\Eng.ask (bif q_1 then x_5.ok else false) (∃(x_6:XRf),FRdOk x_6.l x_6.a/\zCI0_0 (zCI0_16 (x_6.l=x/\Eq (α:=Int) (↑x_6.a:Int) (↑x_5.at_:Int)/\x_6.ok=x_5.ok/\∀(x_7:Bool×Bool×Nat),FRf FFlagP (fun x=>True) x_6.l x_6.a x_6.ok x_7->True/\∃(x_8:XRf),FRdOk x_8.l x_8.a/\zCI0_0 (zCI0_16 (x_8.l=x_6.l/\Eq (α:=Int) (↑x_8.a:Int) (↑x_7.snd.snd:Int)/\x_8.ok=x_7.snd.fst/\∀(x_9:List UInt8×Bool×Nat),zCI0_17 x_8 x_9->True/\∃(x_10:XRf),FRdOk x_10.l x_10.a/\zCI0_0 (zCI0_16 (x_10.l=x_8.l/\Eq (α:=Int) (↑x_10.a:Int) (↑x_9.snd.snd:Int)/\x_10.ok=x_9.snd.fst/\∀(x_11:Nat×Bool×Nat),zCI0_11 x_10 x_11->True/\∃(r:Nat×Nat),(∃(x_12:XRJ),(FRJ x x_12/\r=(x_12.i,x_12.n))/\zCI0_1/\x=x/\zCI0_0 (zCI0_0 (zCI0_9 (Eq (α:=Int) (↑x_12.n:Int) (↑x_5.n:Int)/\Eq (α:=Int) (↑x_12.i:Int) (↑x_5.i:Int)/\zCI0_9 (0=0/\Eq (α:=Int) (↑x_12.m:Int) (↑x_11.fst:Int)/\(↑x_12.k:Int)=(0:Int)/\zCI0_7 (zCI0_1/\x=x_10.l/\Eq (α:=Int) (↑x_12.at_:Int) (↑x_11.snd.snd:Int)/\x_12.ok=x_11.snd.fst/\zCI0_7 (0=0/\x_12.i=x_5.i/\x_12.i=x_5.i/\true=true/\x_12.i=x_5.i/\(∀(i:Nat),i<x_12.i->(zCI0_6 x_12 i).has=(zCI0_21 x_5 i).has/\zCI0_12 ((zCI0_6 x_12 i).value=(zCI0_21 x_5 i).value)/\zCI0_12 ((zCI0_6 x_12 i).rows.length=(zCI0_21 x_5 i).rows.length/\2=2/\∀(i_1:Nat),i_1<(zCI0_6 x_12 i).rows.length->zCI0_12 ((zCI0_14 x_12 i i_1).key=((zCI0_21 x_5 i).rows.getD i_1 (LRow.mk [] [])).key)/\zCI0_12 ((zCI0_14 x_12 i i_1).value=((zCI0_21 x_5 i).rows.getD i_1 (LRow.mk [] [])).value)/\True)/\True)/\x_12.has=x_7.fst/\zCI0_1/\x_12.value=x_9.fst/\x_12.k=0/\x_12.k=0/\true=true/\x_12.k=0/\True)))))))/\True/\∀(x_12:XRJ),FRJ x x_12/\r=(x_12.i,x_12.n)->∀(q:Bool),q=decide (LT.lt (α:=Int) (↑x_12.k:Int) (↑x_12.m:Int))->(q=true->q=true->q=true)/\zCI0_10 q/\∀(q_2:Bool),(q_2=bif q then decide ((↑x_12.k:Int)<=(64:Int)) else false)->zCI0_10 q_2/\Eng.ask (bif q_2 then x_12.ok else false) (∃(x_13:XRf),FRdOk x_13.l x_13.a/\zCI0_0 (zCI0_16 (x_13.l=x/\Eq (α:=Int) (↑x_13.a:Int) (↑x_12.at_:Int)/\x_13.ok=x_12.ok/\∀(x_14:List UInt8×Bool×Nat),zCI0_17 x_13 x_14->True/\∃(x_15:XRf),FRdOk x_15.l x_15.a/\zCI0_0 (zCI0_16 (x_15.l=x_13.l/\Eq (α:=Int) (↑x_15.a:Int) (↑x_14.snd.snd:Int)/\x_15.ok=x_14.snd.fst/\∀(x_16:List UInt8×Bool×Nat),zCI0_17 x_15 x_16->True/\0+x_12.k<=x_12.k/\(x_12.k=x_12.k/\0=0/\x_12.k=x_12.k/\56=56)/\(x_12.k+1)*48<1099511627776/\True/\True/\True/\∃(x':XRJ),(FRJ x x'/\r=(x'.i,x'.n))/\x'.m-x'.k<x_12.m-x_12.k/\zCI0_1/\x=x/\zCI0_0 (zCI0_0 (zCI0_9 (Eq (α:=Int) (↑x'.n:Int) (↑x_12.n:Int)/\Eq (α:=Int) (↑x'.i:Int) (↑x_12.i:Int)/\zCI0_9 (0=0/\Eq (α:=Int) (↑x'.m:Int) (↑x_12.m:Int)/\(↑x'.k:Int)=IntKind.i64.wrap ((↑x_12.k:Int)+(1:Int))/\zCI0_7 (zCI0_1/\x=x_15.l/\Eq (α:=Int) (↑x'.at_:Int) (↑x_16.snd.snd:Int)/\x'.ok=x_16.snd.fst/\zCI0_7 (0=0/\x'.i=x_12.i/\x'.i=x_12.i/\true=true/\x'.i=x_12.i/\(∀(i:Nat),i<x'.i->(zCI0_6 x' i).has=(zCI0_6 x_12 i).has/\zCI0_12 ((zCI0_6 x' i).value=(zCI0_6 x_12 i).value)/\zCI0_12 ((zCI0_6 x' i).rows.length=(zCI0_6 x_12 i).rows.length/\2=2/\∀(i_1:Nat),i_1<(zCI0_6 x' i).rows.length->zCI0_12 ((zCI0_14 x' i i_1).key=(zCI0_14 x_12 i i_1).key)/\zCI0_12 ((zCI0_14 x' i i_1).value=(zCI0_14 x_12 i i_1).value)/\True)/\True)/\x'.has=x_12.has/\zCI0_1/\x'.value=x_12.value/\0=0/\x'.k=x_12.k+1/\x'.k=x_12.k+1/\true=true/\x'.k=x_12.k+1/\(∀(i:Nat),i<x'.k->match (fun (i:Nat)=>bif i.blt x_12.k then [SV.bytes 1 false (x_12.rows.getD (0+i) (LRow.mk [] [])).key,SV.bytes 1 false (x_12.rows.getD (0+i) (LRow.mk [] [])).value] else List.take 2 (List.drop ((0+(i-x_12.k))*2) [SV.bytes 1 false x_14.fst,SV.bytes 1 false x_16.fst])) i with | b::y=>leV (SV.bytes 1 false (x'.rows.getD i (LRow.mk [] [])).key) b/\leL [SV.bytes 1 false (x'.rows.getD i (LRow.mk [] [])).value] y | x=>False)/\True))))))))))) (0+x_12.k<=x_12.k/\0+x_12.i<=x_12.i/\(x_12.i=x_12.i/\0=0/\x_12.i=x_12.i/\54=54)/\(x_12.i+1)*56<1099511627776/\True/\True/\True/\∃(x':XRI),FRI x x'/\x'.n-x'.i<x_5.n-x_5.i/\zCI0_1/\x=x/\zCI0_0 (zCI0_0 (zCI0_9 (Eq (α:=Int) (↑x'.n:Int) (↑x_12.n:Int)/\(↑x'.i:Int)=IntKind.i64.wrap ((↑x_12.i:Int)+(1:Int))/\zCI0_7 (zCI0_1/\x=x/\Eq (α:=Int) (↑x'.at_:Int) (↑x_12.at_:Int)/\x'.ok=x_12.ok/\zCI0_7 (0=0/\x'.i=x_12.i+1/\x'.i=x_12.i+1/\true=true/\x'.i=x_12.i+1/\(∀(i:Nat),i<x'.i->match (fun (i:Nat)=>bif i.blt x_12.i then [SV.bool (x_12.xs.getD (0+i) (LOut.mk false [] [])).has,SV.bytes 1 false (x_12.xs.getD (0+i) (LOut.mk false [] [])).value,SV.imm 1 false (x_12.xs.getD (0+i) (LOut.mk false [] [])).rows.length 2 fun i_1=>[SV.bytes 1 false ((x_12.xs.getD (0+i) (LOut.mk false [] [])).rows.getD i_1 (LRow.mk [] [])).key,SV.bytes 1 false ((x_12.xs.getD (0+i) (LOut.mk false [] [])).rows.getD i_1 (LRow.mk [] [])).value]] else List.take 3 (List.drop ((0+(i-x_12.i))*3) [SV.bool x_12.has,SV.bytes 1 false x_12.value,SV.imm 1 false x_12.k 2 fun i=>[SV.bytes 1 false (x_12.rows.getD (0+i) (LRow.mk [] [])).key,SV.bytes 1 false (x_12.rows.getD (0+i) (LRow.mk [] [])).value]])) i with | b::y=>leV (SV.bool (zCI0_21 x' i).has) b/\leL [SV.bytes 1 false (zCI0_21 x' i).value,rowsV 1 (zCI0_21 x' i).rows] y | x=>False)/\True))))))))))))) (∀(q:Bool),q= !x_5.ok->∃(x_6:LRes),(zCI0_4 q->(true=true->zCI0_4 q)/\FSm x_6/\True/\zCI0_5 x_6 x_5)/\zCI0_20 q (∀(q_2:Bool),(q_2=bif q then true else !FMay x_6)->∃(x_7:LRes),(zCI0_4 q_2->zCI0_18 q_2 x_7 (zCI0_5 x_7 x_5))/\Eng.ask q_2 (zCI0_15 x) (zCI0_8 q_2 (Eng.ask (bif false then true else !decide (FRes x_7=x)) (zCI0_3 x) (∃(x_8:LRes×Int),FDecR' x x_8/\x_8.fst.abort=(0:Int)/\x_8.fst.place=(0:Int)/\(false=true->true=true->x_5.i≠0\/x_5.i≠0)/\x_8.fst.outs.length=x_5.i/\0+x_5.i<=x_5.i/\(∀(i:Nat),i<x_8.fst.outs.length->(zCI0_19 x_8 i).has=(zCI0_13 x_5 i).has/\zCI0_12 ((zCI0_19 x_8 i).value=(zCI0_13 x_5 i).value)/\zCI0_12 ((zCI0_19 x_8 i).rows.length=(zCI0_13 x_5 i).rows.length/\2=2/\∀(i_1:Nat),i_1<(zCI0_19 x_8 i).rows.length->zCI0_12 (((zCI0_19 x_8 i).rows.getD i_1 (LRow.mk [] [])).key=(zCI0_23 x_5 i i_1).key)/\zCI0_12 (((zCI0_19 x_8 i).rows.getD i_1 (LRow.mk [] [])).value=(zCI0_23 x_5 i i_1).value)/\True)/\True)/\x_8.snd=(0:Int)/\True))))))))))
theorem eq_rRead:vc_rRead=nf_rRead:=by kernel_rfl
theorem pf_rRead:nf_rRead:=by
 delta nf_rRead zCI0_1 zCI0_2 zCI0_3 zCI0_4 zCI0_7 zCI0_9 zCI0_10 zCI0_11 zCI0_17 zCI0_22 zCI0_0 zCI0_6 zCI0_8 zCI0_12 zCI0_13 zCI0_15 zCI0_16 zCI0_18 zCI0_19 zCI0_20 zCI0_21 zCI0_14 zCI0_23 zCI0_5
 intro x0
 intro h1
 refine ⟨⟨(x0),(((0:Int):Int)).toNat,(true)⟩,?_⟩
 try dsimp only
 refine ⟨by exact ⟨Nat.zero_le _,h1⟩,by rfl,by rfl,by rfl,by rfl,by rfl,by rfl,by (simp;done),by rfl,by decide,by rfl,?_⟩
 intro x2
 intro h3
 refine ⟨by trivial,?_⟩
 refine ask_p (bp_not bp_dec) ?_ ?_
 ·intro h4
  refine ⟨⟨(x0),(x2.snd.snd),(x2.snd.fst)⟩,?_⟩
  try dsimp only
  refine ⟨by exact rf_at ⟨Nat.zero_le _,h1⟩ h3,by rfl,by rfl,by rfl,by rfl,by rfl,by rfl,by (simp;done),by rfl,by rfl,by rfl,?_⟩
  intro x5
  intro h6
  refine ⟨by trivial,?_⟩
  intro q7 hq7;subst hq7
  refine ⟨⟨x2.1,x5.1,[]⟩,?_⟩
  try dsimp only
  refine ⟨?_,?_⟩
  ·intro h8
   refine ⟨?_,?_⟩
   ·intro h9
    omega
   refine ⟨by exact sm_nil _ _,by trivial,by rfl,by rfl,by rfl,by decide,?_⟩
   trivial
  refine ⟨by (simp;done),by (simp;done),?_⟩
  intro q8 hq8;subst hq8
  refine ⟨⟨x2.1,x5.1,[]⟩,?_⟩
  try dsimp only
  refine ⟨?_,?_⟩
  ·intro h9
   refine ⟨?_,?_⟩
   ·intro h10
    omega
   refine ⟨?_,?_⟩
   ·refine ⟨by exact sm_nil _ _,by grind,?_⟩
    exact outs_short (x:=⟨_,_,[]⟩) (may_of h9).2
   refine ⟨by decide,by rfl,by rfl,by rfl,by decide,?_⟩
   trivial
  refine ask_p (bp_or (bp_not bp_id) (bp_not bp_id)) ?_ ?_
  ·intro h9
   refine ⟨by (simp;done),by rfl,by (simp;done),?_⟩
   refine ⟨(⟨0,0,[]⟩,4),?_⟩
   try dsimp only
   refine ⟨by exact res_a (two_end h3 h4 h6) ‹_›,by decide,by decide,by rfl,by decide,by rfl,?_⟩
   trivial
  intro h9
  refine ⟨?_,?_⟩
  ·intro h10
   grind
  refine ⟨by (simp;done),by (simp;done),by (simp;done),?_⟩
  refine ask_p (bp_orfl bp_false (bp_not bp_dec)) ?_ ?_
  ·intro h10
   refine ⟨(⟨0,0,[]⟩,4),?_⟩
   try dsimp only
   refine ⟨by exact res_b (two_end h3 h4 h6) ‹_›,by decide,by decide,by rfl,by decide,by rfl,?_⟩
   trivial
  intro h10
  refine ⟨(⟨x2.1,x5.1,[]⟩,0),?_⟩
  try dsimp only
  refine ⟨by exact res_c (two_end h3 h4 h6) ‹_› ‹_›,by rfl,by rfl,by rfl,by rfl,by rfl,?_⟩
  trivial
 intro h4
 refine ⟨⟨(x0),(x2.snd.snd),(x2.snd.fst)⟩,?_⟩
 try dsimp only
 refine ⟨by exact rf_at ⟨Nat.zero_le _,h1⟩ h3,by rfl,by rfl,by rfl,by rfl,by rfl,by rfl,by (simp;done),by rfl,by rfl,by rfl,?_⟩
 intro x5
 intro h6
 refine ⟨by trivial,?_⟩
 refine ⟨?_,?_⟩
 ·refine ⟨⟨0,x5.1,x5.2.2,x5.2.1,[]⟩,?_⟩
  try dsimp only
  refine ⟨by exact fri_start h1 h3 h4 h6,by (simp;done),by rfl,by rfl,by rfl,by rfl,by rfl,by rfl,by rfl,by rfl,by rfl,by rfl,?_⟩
  refine ⟨by rfl,by rfl,by rfl,by rfl,by decide,by rfl,by rfl,by (simp;done),by rfl,by rfl,by rfl,by omega,?_⟩
  refine ⟨by rfl,by rfl,by rfl,by rfl,by rfl,?_⟩
  trivial
 refine ⟨by trivial,?_⟩
 intro x7
 intro h8
 intro q9 hq9;subst hq9
 refine ⟨by (simp;done),by (simp;done),?_⟩
 intro q10 hq10;subst hq10
 refine ⟨by (simp;done),?_⟩
 refine ask_p (bp_and (bp_and bp_dec bp_dec) bp_id) ?_ ?_
 ·intro ⟨⟨h11,h12⟩,h13⟩
  refine ⟨⟨(x0),(x7.at_),(x7.ok)⟩,?_⟩
  try dsimp only
  refine ⟨by exact h8.1,by rfl,by rfl,by rfl,by rfl,by rfl,by rfl,by (simp;done),by rfl,by rfl,by rfl,?_⟩
  intro x14
  intro h15
  refine ⟨by trivial,?_⟩
  refine ⟨⟨(x0),(x14.snd.snd),(x14.snd.fst)⟩,?_⟩
  try dsimp only
  refine ⟨by exact rf_at h8.1 h15,by rfl,by rfl,by rfl,by rfl,by rfl,by rfl,by (simp;done),by rfl,by rfl,by rfl,?_⟩
  intro x16
  intro h17
  refine ⟨by trivial,?_⟩
  refine ⟨⟨(x0),(x16.snd.snd),(x16.snd.fst)⟩,?_⟩
  try dsimp only
  refine ⟨by exact rf_at (rf_at h8.1 h15) h17,by rfl,by rfl,by rfl,by rfl,by rfl,by rfl,by (simp;done),by rfl,by rfl,by rfl,?_⟩
  intro x18
  intro h19
  refine ⟨by trivial,?_⟩
  refine ⟨(x7.i,x7.n),?_⟩
  try dsimp only
  refine ⟨?_,?_⟩
  ·refine ⟨⟨⟨x7.i,x7.n,x18.2.2,x18.2.1,x7.xs⟩,x7.at_,x14.1,x16.1,x18.1,0,[]⟩,?_⟩
   try dsimp only
   refine ⟨?_,?_⟩
   ·refine ⟨by exact frj_start h8 h11 h12 h15 h17 h19,?_⟩
    rfl
   refine ⟨by (simp;done),by rfl,by rfl,by rfl,by rfl,by rfl,by rfl,by rfl,by rfl,by rfl,by rfl,by rfl,?_⟩
   refine ⟨by rfl,by rfl,by rfl,by rfl,by rfl,by rfl,by rfl,by rfl,by decide,by rfl,by rfl,by (simp;done),?_⟩
   refine ⟨by rfl,by rfl,by rfl,by rfl,by rfl,by rfl,by rfl,by rfl,by rfl,by rfl,by (simp;done),by rfl,?_⟩
   refine ⟨by (simp;done),by rfl,by rfl,by rfl,by rfl,by rfl,?_⟩
   trivial
  refine ⟨by trivial,?_⟩
  intro x20
  intro ⟨h21,h22⟩
  intro q23 hq23;subst hq23
  refine ⟨by (simp;done),by (simp;done),?_⟩
  intro q24 hq24;subst hq24
  refine ⟨by (simp;done),?_⟩
  refine ask_p (bp_and (bp_and bp_dec bp_dec) bp_id) ?_ ?_
  ·intro ⟨⟨h25,h26⟩,h27⟩
   refine ⟨⟨(x0),(x20.at_),(x20.ok)⟩,?_⟩
   try dsimp only
   refine ⟨by exact h21.1,by rfl,by rfl,by rfl,by rfl,by rfl,by rfl,by (simp;done),by rfl,by rfl,by rfl,?_⟩
   intro x28
   intro h29
   refine ⟨by trivial,?_⟩
   refine ⟨⟨(x0),(x28.snd.snd),(x28.snd.fst)⟩,?_⟩
   try dsimp only
   refine ⟨by exact rf_at h21.1 h29,by rfl,by rfl,by rfl,by rfl,by rfl,by rfl,by (simp;done),by rfl,by rfl,by rfl,?_⟩
   intro x30
   intro h31
   refine ⟨by trivial,by omega,by (simp;done),by omega,by trivial,by trivial,by trivial,?_⟩
   refine ⟨⟨⟨x20.i,x20.n,x30.2.2,x30.2.1,x20.xs⟩,x20.c,x20.has,x20.value,x20.m,x20.k+1,x20.rows++[⟨x28.1,x30.1⟩]⟩,?_⟩
   try dsimp only
   refine ⟨?_,?_⟩
   ·refine ⟨by exact frj_step h21 h25 h26 h29 h31,?_⟩
    omega
   refine ⟨by omega,by (simp;done),by rfl,by rfl,by rfl,by rfl,by rfl,by rfl,by rfl,by rfl,by rfl,by rfl,?_⟩
   refine ⟨by rfl,by rfl,by rfl,by rfl,by rfl,by rfl,by rfl,by rfl,by rfl,by (have:=h21.2.1;rw [wrap_succ _ (by omega)];done),by rfl,by rfl,?_⟩
   refine ⟨by (simp;done),by rfl,by rfl,by rfl,by rfl,by rfl,by rfl,by rfl,by rfl,by rfl,by rfl,?_⟩
   refine ⟨?_,?_⟩
   ·intro i32
    intro h33
    refine ⟨by rfl,by (exact ⟨rfl,fun h=>h,rfl⟩),by (simp;done),?_⟩
    trivial
   refine ⟨by rfl,by (simp;done),by rfl,by rfl,by rfl,by rfl,by rfl,by rfl,?_⟩
   refine ⟨?_,?_⟩
   ·intro i32
    intro h33
    exact row_elem2 h21.2.2.2.2.1.2.1 ‹_<_›
   trivial
  intro h25
  refine ⟨by omega,by omega,by (simp;done),by grind,by trivial,by trivial,by trivial,?_⟩
  refine ⟨⟨x20.i+1,x20.n,x20.at_,x20.ok,x20.xs++[⟨x20.has,x20.value,x20.rows⟩]⟩,?_⟩
  try dsimp only
  refine ⟨by exact fri_step h21 ‹_›,by grind,by (simp;done),by rfl,by rfl,by rfl,by rfl,by rfl,by rfl,by rfl,by rfl,by rfl,?_⟩
  refine ⟨by rfl,by rfl,by rfl,by rfl,by rfl,by (have:=h21.2.1;rw [wrap_succ _ (by omega)];done),by rfl,by rfl,by (simp;done),by rfl,by rfl,by rfl,?_⟩
  refine ⟨by rfl,by rfl,by rfl,by rfl,by rfl,by rfl,by rfl,?_⟩
  refine ⟨?_,?_⟩
  ·intro i26
   intro h27
   exact out_elem2 h21.2.2.1 h21.2.2.2.2.1.2.1 ‹_<_›
  trivial
 intro h11
 intro q12 hq12;subst hq12
 refine ⟨⟨0,0,x7.xs⟩,?_⟩
 try dsimp only
 refine ⟨?_,?_⟩
 ·intro h13
  refine ⟨?_,?_⟩
  ·intro h14
   omega
  refine ⟨by exact sm_of h8.2.2.2.1,by trivial,by rfl,by rfl,by (simp;done),by exact h8.2.2.1,by omega,by (simp;done),?_⟩
  trivial
 refine ⟨by (simp;done),by (simp;done),?_⟩
 intro q13 hq13;subst hq13
 refine ⟨⟨0,0,x7.xs⟩,?_⟩
 try dsimp only
 refine ⟨?_,?_⟩
 ·intro h14
  refine ⟨?_,?_⟩
  ·intro h15
   omega
  refine ⟨?_,?_⟩
  ·refine ⟨by exact sm_of h8.2.2.2.1,by grind,?_⟩
   exact outs_short (x:=⟨_,_,x7.xs⟩) (may_of h14).2
  refine ⟨by decide,by rfl,by rfl,by (simp;done),by exact h8.2.2.1,by omega,by (simp;done),?_⟩
  trivial
 refine ask_p (bp_or (bp_not bp_id) (bp_not bp_id)) ?_ ?_
 ·intro h14
  refine ⟨by (simp;done),by rfl,by (simp;done),?_⟩
  refine ⟨(⟨0,0,[]⟩,4),?_⟩
  try dsimp only
  refine ⟨by exact res_a (fri_or h8 h11) ‹_›,by decide,by decide,by rfl,by decide,by rfl,?_⟩
  trivial
 intro h14
 refine ⟨?_,?_⟩
 ·intro h15
  grind
 refine ⟨by (simp;done),by (simp;done),by (simp;done),?_⟩
 refine ask_p (bp_orfl bp_false (bp_not bp_dec)) ?_ ?_
 ·intro h15
  refine ⟨(⟨0,0,[]⟩,4),?_⟩
  try dsimp only
  refine ⟨by exact res_b (fri_or h8 h11) ‹_›,by decide,by decide,by rfl,by decide,by rfl,?_⟩
  trivial
 intro h15
 refine ⟨(⟨0,0,x7.xs⟩,0),?_⟩
 try dsimp only
 refine ⟨by exact res_c (fri_or h8 h11) ‹_› ‹_›,by rfl,by rfl,by (simp;done),by exact h8.2.2.1,by omega,by (simp;done),by rfl,?_⟩
 trivial
end Go.Proofs
