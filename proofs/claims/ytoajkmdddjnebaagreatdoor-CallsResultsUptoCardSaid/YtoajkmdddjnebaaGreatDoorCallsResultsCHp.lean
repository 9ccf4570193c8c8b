import Derived.Test.YtoajkmdddjnebaaGreatDoorCallsResultsCH
set_option linter.unusedSimpArgs false
set_option linter.unusedVariables false
namespace Go.Proofs
open Go.Eng
set_option maxRecDepth 100000
abbrev zCH0_0:Nat->List UInt8->Nat:=fun x0 x1=>(FNum x0).length+x1.length
def nf_rf01Bytes:Prop:=
 ∀(x:List UInt8),x.length<1099511627000->∃(x_1:Nat),x_1<18446744073709551616/\(↑x_1:Int)=IntKind.u64.wrap (↑x.length:Int)/\True/\0+(FNum x_1).length<=(FNum x_1).length/\((FNum x_1).length=(FNum x_1).length/\0=0/\(FNum x_1).length=(FNum x_1).length/\5=5)/\zCH0_0 x_1 x<1099511627776/\(true=true->true=true->zCH0_0 x_1 x≠0\/zCH0_0 x_1 x≠0)/\0+zCH0_0 x_1 x<=(cutL (FNum x_1) 0 (FNum x_1).length++x).length/\FBytes x=cutL (cutL (FNum x_1) 0 (FNum x_1).length++x) 0 (zCH0_0 x_1 x)/\True
theorem eq_rf01Bytes:vc_rf01Bytes=nf_rf01Bytes:=by kernel_rfl
theorem pf_rf01Bytes:nf_rf01Bytes:=by
 delta nf_rf01Bytes zCH0_0
 intro x0
 intro h1
 refine ⟨((IntKind.u64.wrap (↑x0.length:Int):Int)).toNat,?_⟩
 try dsimp only
 refine ⟨by (try simp only [wrap_i64,wrap_u64,wrap_u32,wrap_u8] at*)<;>omega,by rfl,by trivial,by (rw [FNum_u64 (by omega)] at*;have:=FNum_pos x0.length;omega),by (simp;done),by (rw [FNum_u64 (by omega)] at*;have:=FNum_len x0.length;omega),?_⟩
 refine ⟨?_,?_⟩
 ·intro h2
  intro h3
  (rw [FNum_u64 (by omega)] at*;have:=FNum_pos x0.length;omega)
 refine ⟨by (rw [FNum_u64 (by omega),cutL_all];simp;done),by (rw [FNum_u64 (by omega),cutL_all];rw [show (FNum x0.length).length+x0.length=(FNum x0.length++x0).length by simp,cutL_all];rfl),?_⟩
 trivial
def nf_rf01Flag:Prop:=
 ∀(x:Bool),True->∀(q:Bool),q=x->Eng.ask q ((true=true->false=true->1≠0\/1≠0)/\((0:Int)<=(1:Int)/\(1:Int)<(256:Int))/\FFlag x=[UInt8.ofNat 1]/\True) ((true=true->false=true->1≠0\/1≠0)/\((0:Int)<=(0:Int)/\(0:Int)<(256:Int))/\FFlag x=[UInt8.ofNat 0]/\True)
theorem eq_rf01Flag:vc_rf01Flag=nf_rf01Flag:=by kernel_rfl
theorem pf_rf01Flag:nf_rf01Flag:=by
 delta nf_rf01Flag
 intro x0
 intro h1
 intro q2 hq2;subst hq2
 refine ask_p bp_id ?_ ?_
 ·intro h3
  refine ⟨by (simp;done),by (simp;done),by simp_all [FFlag],?_⟩
  trivial
 intro h3
 refine ⟨by (simp;done),by (simp;done),by simp_all [FFlag],?_⟩
 trivial
abbrev zCH2_1:Bool->Bool:=fun x0=>bif false then x0 else !x0
abbrev zCH2_6:Prop:=false=true->false=true
abbrev zCH2_8:Prop->Prop:=fun p=>0=0/\0=0/\p
abbrev zCH2_9:XIK->LRes->Prop->Prop:=fun x0 x1 p=>x0.i<x1.outs.length/\FHead x1/\FOutsTo x1 x0.i/\p
abbrev zCH2_10:XI->LRes->Prop:=fun x0 x1=>x0.i<=x1.outs.length/\FHead x1/\FOutsTo x1 x0.i
abbrev zCH2_11:LRes->Prop:=fun x0=>FMay x0=false/\True
abbrev zCH2_12:LOut:=LOut.mk false [] []
abbrev zCH2_18:Bool->Prop:=fun x0=>x0=true->x0=true
abbrev zCH2_20:XI->Nat:=fun x0=>Int.toNat (↑x0.i:Int)
abbrev zCH2_3:LRes->XIK->List LRow:=fun x0 x1=>(x0.outs.getD x1.i zCH2_12).rows
abbrev zCH2_7:Bool->Prop->Prop:=fun x0 p=>(x0=true->zCH2_18 x0)/\(x0=true->zCH2_18 x0)/\p
abbrev zCH2_13:Bool->Bool->Prop:=fun x0 x1=>(x0&&zCH2_1 x1)=true
abbrev zCH2_14:Bool->Prop:=fun x0=>zCH2_1 x0=true
abbrev zCH2_15:Prop->Prop:=fun p=>true=true/\zCH2_6/\p
abbrev zCH2_23:LRes->Nat->LOut:=fun x0 x1=>x0.outs.getD x1 zCH2_12
abbrev zCH2_25:LRes->XI->LOut:=fun x0 x1=>x0.outs.getD (zCH2_20 x1) zCH2_12
abbrev zCH2_2:LRes->Prop:=fun x0=>∀(q:Bool),q=decide ((0:Int)<=x0.place)->zCH2_7 q ((true=true->zCH2_18 q)/\∀(q_1:Bool),(q_1=bif q then decide (x0.place<(16:Int)) else false)->zCH2_7 q_1 ((q_1=true->zCH2_18 q_1)/\(true=true->zCH2_18 q_1)/\(FMay x0=bif q_1 then decide ((↑x0.outs.length:Int)=(0:Int)) else false)/\True))
abbrev zCH2_16:LRes->XIK->Nat:=fun x0 x1=>(zCH2_3 x0 x1).length
abbrev zCH2_17:LRes->XIK->Nat->LRow:=fun x0 x1 x2=>(zCH2_3 x0 x1).getD x2 (LRow.mk [] [])
abbrev zCH2_19:LRes->XIK->LRow:=fun x0 x1=>(zCH2_3 x0 x1).getD (Int.toNat (↑x1.k:Int)) (LRow.mk [] [])
abbrev zCH2_24:Bool->Bool->Prop:=fun x0 x1=>zCH2_13 x0 x1->zCH2_13 x0 x1->zCH2_13 x0 x1
abbrev zCH2_26:Bool->Prop:=fun x0=>zCH2_14 x0->zCH2_14 x0->zCH2_14 x0
abbrev zCH2_27:Bool->Prop:=fun x0=>true=true->x0=false->zCH2_14 x0
abbrev zCH2_28:LRes->Nat->Nat->LRow:=fun x0 x1 x2=>(zCH2_23 x0 x1).rows.getD x2 (LRow.mk [] [])
abbrev zCH2_0:LRes->Prop:=fun x0=>x0.abort=x0.abort/\x0.place=x0.place/\zCH2_6/\x0.outs.length=x0.outs.length/\(∀(i:Nat),i<x0.outs.length->(zCH2_23 x0 i).has=(zCH2_23 x0 i).has/\zCH2_15 ((zCH2_23 x0 i).value=(zCH2_23 x0 i).value)/\zCH2_15 ((zCH2_23 x0 i).rows.length=(zCH2_23 x0 i).rows.length/\2=2/\∀(i_1:Nat),i_1<(zCH2_23 x0 i).rows.length->zCH2_15 ((zCH2_28 x0 i i_1).key=(zCH2_28 x0 i i_1).key)/\zCH2_15 ((zCH2_28 x0 i i_1).value=(zCH2_28 x0 i i_1).value)/\True)/\True)/\True
abbrev zCH2_4:Bool->Prop->Prop:=fun x0 p=>zCH2_26 x0/\zCH2_26 x0/\p
abbrev zCH2_5:Bool->Bool->Prop->Prop:=fun x0 x1 p=>zCH2_24 x0 x1/\zCH2_24 x0 x1/\p
abbrev zCH2_21:XIK->LRes->Nat->Prop:=fun x0 x1 x2=>zCH2_9 x0 x1 ((x1.outs.getD x0.i zCH2_12).value.length<=256/\x0.k<=zCH2_16 x1 x0/\FRowsTo (zCH2_3 x1 x0) x0.k)/\x2=x0.i
abbrev zCH2_22:Bool->Prop->Prop:=fun x0 p=>zCH2_26 x0/\zCH2_27 x0/\p
def nf_rMay:Prop:=
 ∀(x:LRes),FSm x->Eng.ask (decide (x.abort=(0:Int))) (∀(q:Bool),q= !decide (x.place=(0:Int))->zCH2_4 q (zCH2_22 q (∀(q_1:Bool),(q_1=bif q then true else decide ((↑x.outs.length:Int)<(1:Int)))->zCH2_4 q_1 (zCH2_22 q_1 (Eng.ask (bif q_1 then true else decide ((16:Int)<(↑x.outs.length:Int))) (zCH2_11 x) ((∃(x_1:XI),zCH2_10 x_1 x/\zCH2_8 (0=0/\(↑x_1.i:Int)=(0:Int)/\zCH2_0 x))/\True/\∀(x_1:XI),zCH2_10 x_1 x->Eng.ask (decide (LT.lt (α:=Int) (↑x_1.i:Int) (↑x.outs.length:Int))) ((0:Int)<=(↑x_1.i:Int)/\zCH2_20 x_1<x.outs.length/\(0:Int)<=(↑x_1.i:Int)/\zCH2_20 x_1<x.outs.length/\∃(x_2:List UInt8),x_2.length<1099511627776/\zCH2_6/\x_2=(zCH2_25 x x_1).value/\True/\∀(q:Bool),q= !FValue x_2->zCH2_4 q (zCH2_27 q/\Eng.ask (bif q then true else decide ((64:Int)<(↑(zCH2_25 x x_1).rows.length:Int))) (zCH2_11 x) (∃(r:Nat),(∃(x_3:XIK),zCH2_21 x_3 x r/\zCH2_8 (0=0/\Eq (α:=Int) (↑x_3.i:Int) (↑x_1.i:Int)/\zCH2_6/\zCH2_16 x x_3=(zCH2_25 x x_1).rows.length/\(∀(i:Nat),i<zCH2_16 x x_3->zCH2_15 ((zCH2_17 x x_3 i).key=((zCH2_25 x x_1).rows.getD i (LRow.mk [] [])).key)/\zCH2_15 ((zCH2_17 x x_3 i).value=((zCH2_25 x x_1).rows.getD i (LRow.mk [] [])).value)/\True)/\(↑x_3.k:Int)=(0:Int)/\zCH2_0 x))/\True/\∀(x_3:XIK),zCH2_21 x_3 x r->Eng.ask (decide (LT.lt (α:=Int) (↑x_3.k:Int) (↑(zCH2_16 x x_3):Int))) ((0:Int)<=(↑x_3.k:Int)/\Int.toNat (↑x_3.k:Int)<zCH2_16 x x_3/\∃(x_4:List UInt8),x_4.length<1099511627776/\zCH2_6/\x_4=(zCH2_19 x x_3).key/\True/\∀(q:Bool),q= !FKey x_4->zCH2_4 q ((zCH2_14 q->(0:Int)<=(↑x_3.k:Int))/\(zCH2_14 q->Int.toNat (↑x_3.k:Int)<zCH2_16 x x_3)/\zCH2_4 q (∃(x_5:List UInt8),(zCH2_14 q->(true=true->zCH2_14 q)/\x_5.length<1099511627776/\True/\zCH2_6/\x_5=(zCH2_19 x x_3).value/\True)/\zCH2_22 q (∀(q_2:Bool),(q_2=bif q then true else !FValue x_5)->zCH2_4 q_2 (∀(q:Bool),q=decide ((0:Int)<(↑x_3.k:Int))->zCH2_5 q q_2 (zCH2_24 q q_2/\(zCH2_13 q q_2->(0:Int)<=IntKind.i64.wrap ((↑x_3.k:Int)- (1:Int)))/\(zCH2_13 q q_2->(IntKind.i64.wrap ((↑x_3.k:Int)- (1:Int))).toNat<zCH2_16 x x_3)/\zCH2_5 q q_2 (zCH2_5 q q_2 ((zCH2_13 q q_2->(0:Int)<=(↑x_3.k:Int))/\(zCH2_13 q q_2->Int.toNat (↑x_3.k:Int)<zCH2_16 x x_3)/\zCH2_5 q q_2 (∃(x_6:XAB),(zCH2_13 q q_2->(true=true->zCH2_13 q q_2)/\(true=true->zCH2_13 q q_2)/\(x_6.a.length<1099511627776/\x_6.b.length<1099511627776)/\True/\zCH2_6/\x_6.a=((zCH2_3 x x_3).getD (IntKind.i64.wrap ((↑x_3.k:Int)- (1:Int))).toNat (LRow.mk [] [])).key/\zCH2_6/\x_6.b=(zCH2_19 x x_3).key/\True)/\zCH2_24 q q_2/\zCH2_26 q_2/\(zCH2_14 q_2->zCH2_14 q_2->q=true->zCH2_13 q q_2)/\zCH2_27 q_2/\Eng.ask (bif q_2 then true else bif q then decide ((0:Int)<=FCmp x_6.a x_6.b) else false) (zCH2_11 x) (True/\True/\True/\∃(x':XIK),zCH2_21 x' x r/\zCH2_16 x x'-x'.k<zCH2_16 x x_3-x_3.k/\zCH2_8 (0=0/\Eq (α:=Int) (↑x'.i:Int) (↑x_3.i:Int)/\zCH2_6/\zCH2_16 x x'=zCH2_16 x x_3/\(∀(i:Nat),i<zCH2_16 x x'->zCH2_15 ((zCH2_17 x x' i).key=(zCH2_17 x x_3 i).key)/\zCH2_15 ((zCH2_17 x x' i).value=(zCH2_17 x x_3 i).value)/\True)/\(↑x'.k:Int)=IntKind.i64.wrap ((↑x_3.k:Int)+(1:Int))/\zCH2_0 x))))))))))) (True/\True/\True/\∃(x':XI),zCH2_10 x' x/\x.outs.length-x'.i<x.outs.length-x_1.i/\zCH2_8 (0=0/\(↑x'.i:Int)=IntKind.i64.wrap ((↑x_3.i:Int)+(1:Int))/\zCH2_0 x))))) (FMay x=true/\True))))))) (Eng.ask (decide (x.abort=(1:Int))) (Eng.ask (decide (x.abort=(1:Int))) (zCH2_2 x) (zCH2_11 x)) (Eng.ask (decide (x.abort=(2:Int))) (Eng.ask (decide (x.abort=(2:Int))) (zCH2_2 x) (zCH2_11 x)) (Eng.ask (decide (x.abort=(3:Int))) (zCH2_2 x) (zCH2_11 x))))
theorem eq_rMay:vc_rMay=nf_rMay:=by kernel_rfl
theorem pf_rMay:nf_rMay:=by
 delta nf_rMay zCH2_1 zCH2_6 zCH2_8 zCH2_9 zCH2_10 zCH2_11 zCH2_12 zCH2_18 zCH2_20 zCH2_3 zCH2_7 zCH2_13 zCH2_14 zCH2_15 zCH2_23 zCH2_25 zCH2_2 zCH2_16 zCH2_17 zCH2_19 zCH2_24 zCH2_26 zCH2_27 zCH2_28 zCH2_0 zCH2_4 zCH2_5 zCH2_21 zCH2_22
 intro x0
 intro h1
 refine ask_p bp_dec ?_ ?_
 ·intro h2
  intro q3 hq3;subst hq3
  refine ⟨by (simp;done),by (simp;done),by (simp;done),by (simp;done),?_⟩
  intro q4 hq4;subst hq4
  refine ⟨by (simp;done),by (simp;done),by (simp;done),by (simp;done),?_⟩
  refine ask_p (bp_or (bp_or (bp_not bp_dec) bp_dec) bp_dec) ?_ ?_
  ·intro h5
   refine ⟨by exact may_head (by omega) ‹_›,?_⟩
   trivial
  intro h5
  refine ⟨?_,?_⟩
  ·refine ⟨⟨(((0:Int):Int)).toNat⟩,?_⟩
   try dsimp only
   refine ⟨?_,?_⟩
   ·refine ⟨by (have:=h1.1;omega),by exact FHead_of (by omega) ‹_›,?_⟩
    exact fun i hi=>absurd hi (by simp)
   refine ⟨by rfl,by rfl,by rfl,by decide,by rfl,by rfl,by (simp;done),by rfl,by (simp;done),?_⟩
   trivial
  refine ⟨by trivial,?_⟩
  intro x6
  intro ⟨h7,⟨h8,h9⟩⟩
  refine ask_p bp_dec ?_ ?_
  ·intro h10
   refine ⟨by (have:=h1.1;omega),by (have:=h1.1;omega),by (have:=h1.1;omega),by (have:=h1.1;omega),?_⟩
   refine ⟨((x0.outs.getD (Int.toNat (↑x6.i:Int)) (LOut.mk false [] [])).value),?_⟩
   try dsimp only
   refine ⟨by exact Nat.lt_trans (h1.2 x6.i (by omega)).2.1 (by omega),by (simp;done),by rfl,by trivial,?_⟩
   intro q11 hq11;subst hq11
   refine ⟨by (simp;done),by (simp;done),by (simp;done),?_⟩
   refine ask_p (bp_or (bp_not bp_id) bp_dec) ?_ ?_
   ·intro h12
    refine ⟨by exact may_val ‹_› ‹_› ‹_›,?_⟩
    trivial
   intro h12
   refine ⟨x6.i,?_⟩
   try dsimp only
   refine ⟨?_,?_⟩
   ·refine ⟨⟨(x6.i),(((0:Int):Int)).toNat⟩,?_⟩
    try dsimp only
    refine ⟨?_,?_⟩
    ·refine ⟨?_,?_⟩
     ·refine ⟨by (have:=h1.1;omega),by (have:=h1.1;omega),by (have:=h1.1;omega),by (simp only [FValue,not_or,Classical.not_not,decide_eq_true_eq,Int.toNat_natCast] at*;omega),by (have:=h1.1;omega),?_⟩
      (simp only [FValue,not_or,Classical.not_not,decide_eq_true_eq,Int.toNat_natCast] at*;exact ⟨by omega,fun k hk=>absurd hk (by omega)⟩)
     rfl
    refine ⟨by rfl,by rfl,by rfl,by rfl,by (simp;done),by rfl,by (simp;done),by decide,by rfl,by rfl,by (simp;done),by rfl,?_⟩
    refine ⟨by (simp;done),?_⟩
    trivial
   refine ⟨by trivial,?_⟩
   intro x13
   intro ⟨⟨h14,⟨h15,⟨h16,⟨h17,⟨h18,h19⟩⟩⟩⟩⟩,h20⟩
   refine ask_p bp_dec ?_ ?_
   ·intro h21
    refine ⟨by (have:=h1.1;omega),by (have:=h1.1;omega),?_⟩
    refine ⟨(((x0.outs.getD x13.i (LOut.mk false [] [])).rows.getD (Int.toNat (↑x13.k:Int)) (LRow.mk [] [])).key),?_⟩
    try dsimp only
    refine ⟨by exact Nat.lt_trans ((h1.2 x13.i (by omega)).2.2 x13.k (by omega)).1 (by omega),by (simp;done),by rfl,by trivial,?_⟩
    intro q22 hq22;subst hq22
    refine ⟨by (simp;done),by (simp;done),by (simp;done),?_⟩
    refine ⟨?_,?_⟩
    ·intro h23
     (have:=h1.1;omega)
    refine ⟨by (simp;done),by (simp;done),?_⟩
    refine ⟨(((x0.outs.getD x13.i (LOut.mk false [] [])).rows.getD (Int.toNat (↑x13.k:Int)) (LRow.mk [] [])).value),?_⟩
    try dsimp only
    refine ⟨?_,?_⟩
    ·intro h23
     refine ⟨?_,?_⟩
     ·intro h24
      (have:=h1.1;omega)
     refine ⟨by exact Nat.lt_trans ((h1.2 x13.i (by omega)).2.2 x13.k (by omega)).2 (by omega),by trivial,by (simp;done),by rfl,?_⟩
     trivial
    refine ⟨by (simp;done),by (simp;done),?_⟩
    intro q23 hq23;subst hq23
    refine ⟨by (simp;done),by (simp;done),?_⟩
    intro q24 hq24;subst hq24
    refine ⟨?_,?_⟩
    ·intro h25
     intro h26
     (have:=h1.1;omega)
    refine ⟨?_,?_⟩
    ·intro h25
     intro h26
     (have:=h1.1;omega)
    refine ⟨?_,?_⟩
    ·intro h25
     intro h26
     (have:=h1.1;omega)
    refine ⟨?_,?_⟩
    ·intro h25
     (simp only [Bool.and_eq_true,decide_eq_true_eq] at*;have:=(h1.2 x13.i (by omega)).1;rw [wrap_pred (by omega) (by omega)];omega)
    refine ⟨?_,?_⟩
    ·intro h25
     (simp only [Bool.and_eq_true,decide_eq_true_eq] at*;have:=(h1.2 x13.i (by omega)).1;rw [wrap_pred (by omega) (by omega)];omega)
    refine ⟨?_,?_⟩
    ·intro h25
     intro h26
     (have:=h1.1;omega)
    refine ⟨?_,?_⟩
    ·intro h25
     intro h26
     (have:=h1.1;omega)
    refine ⟨?_,?_⟩
    ·intro h25
     intro h26
     (have:=h1.1;omega)
    refine ⟨?_,?_⟩
    ·intro h25
     intro h26
     (have:=h1.1;omega)
    refine ⟨by (simp;done),?_⟩
    refine ⟨?_,?_⟩
    ·intro h25
     (have:=h1.1;omega)
    refine ⟨?_,?_⟩
    ·intro h25
     intro h26
     (have:=h1.1;omega)
    refine ⟨?_,?_⟩
    ·intro h25
     intro h26
     (have:=h1.1;omega)
    refine ⟨⟨(((x0.outs.getD x13.i (LOut.mk false [] [])).rows.getD (IntKind.i64.wrap ((↑x13.k:Int)- (1:Int))).toNat (LRow.mk [] [])).key),(((x0.outs.getD x13.i (LOut.mk false [] [])).rows.getD (Int.toNat (↑x13.k:Int)) (LRow.mk [] [])).key)⟩,?_⟩
    try dsimp only
    refine ⟨?_,?_⟩
    ·intro h25
     refine ⟨?_,?_⟩
     ·intro h26
      (have:=h1.1;omega)
     refine ⟨?_,?_⟩
     ·intro h26
      (have:=h1.1;omega)
     refine ⟨?_,?_⟩
     ·refine ⟨by (simp only [Bool.and_eq_true,decide_eq_true_eq] at*;have:=(h1.2 x13.i (by omega)).1;rw [wrap_pred (by omega) (by omega)];exact Nat.lt_trans ((h1.2 x13.i (by omega)).2.2 _ (by omega)).1 (by omega)),?_⟩
      exact Nat.lt_trans ((h1.2 x13.i (by omega)).2.2 x13.k (by omega)).1 (by omega)
     refine ⟨by trivial,by (simp;done),by rfl,by (simp;done),by rfl,?_⟩
     trivial
    refine ⟨?_,?_⟩
    ·intro h25
     intro h26
     (have:=h1.1;omega)
    refine ⟨by (simp;done),?_⟩
    refine ⟨?_,?_⟩
    ·intro h25
     intro h26
     intro h27
     grind
    refine ⟨by (simp;done),?_⟩
    refine ask_p (bp_or (bp_or (bp_not bp_id) (bp_not bp_id)) (bp_and bp_dec bp_dec)) ?_ ?_
    ·intro h25
     refine ⟨by exact may_row ‹FHead x0› (by omega) ‹_› (by have:=(h1.2 x13.i (by omega)).1;omega) ‹_›,?_⟩
     trivial
    intro h25
    refine ⟨by trivial,by trivial,by trivial,?_⟩
    refine ⟨⟨(x13.i),((IntKind.i64.wrap ((↑x13.k:Int)+(1:Int)):Int)).toNat⟩,?_⟩
    try dsimp only
    refine ⟨?_,?_⟩
    ·refine ⟨?_,?_⟩
     ·refine ⟨by (have:=h1.1;omega),by (have:=h1.1;omega),by (have:=h1.1;omega),by (have:=h1.1;omega),by (have:=(h1.2 x13.i (by omega)).1;rw [wrap_succ _ (by omega)];omega),?_⟩
      exact rows_go ‹_› (by have:=(h1.2 x13.i (by omega)).1;omega) ‹_›
     (have:=h1.1;omega)
    refine ⟨by (have:=(h1.2 x13.i (by omega)).1;rw [wrap_succ _ (by omega)];omega),by rfl,by rfl,by rfl,by rfl,by (simp;done),by rfl,by (simp;done),by (have:=(h1.2 x13.i (by omega)).1;rw [wrap_succ _ (by omega)];omega),by rfl,by rfl,by (simp;done),?_⟩
    refine ⟨by rfl,by (simp;done),?_⟩
    trivial
   intro h21
   refine ⟨by trivial,by trivial,by trivial,?_⟩
   refine ⟨⟨((IntKind.i64.wrap ((↑x13.i:Int)+(1:Int)):Int)).toNat⟩,?_⟩
   try dsimp only
   refine ⟨?_,?_⟩
   ·refine ⟨by (have:=(h1.2 x13.i (by omega)).1;rw [wrap_succ _ (by omega)];omega),by (have:=h1.1;omega),?_⟩
    (have:=h1.1;rw [wrap_succ _ (by omega),Int.toNat_natCast];exact outs_step ‹_› ‹_› ‹_› ‹_›)
   refine ⟨by (have:=(h1.2 x13.i (by omega)).1;rw [wrap_succ _ (by omega)];omega),by rfl,by rfl,by rfl,by (have:=(h1.2 x13.i (by omega)).1;rw [wrap_succ _ (by omega)];omega),by rfl,by rfl,by (simp;done),by rfl,by (simp;done),?_⟩
   trivial
  intro h10
  refine ⟨by exact may_all ‹_› ‹_› ‹_›,?_⟩
  trivial
 intro h2
 refine ask_p bp_dec ?_ ?_
 ·intro h3
  refine ask_p bp_dec ?_ ?_
  ·intro h4
   intro q5 hq5;subst hq5
   refine ⟨by (simp;done),by (simp;done),by (simp;done),?_⟩
   intro q6 hq6;subst hq6
   refine ⟨by (simp;done),by (simp;done),by (simp;done),by (simp;done),by exact may_abort (by omega),?_⟩
   trivial
  intro h4
  exfalso;omega
 intro h3
 refine ask_p bp_dec ?_ ?_
 ·intro h4
  refine ask_p bp_dec ?_ ?_
  ·intro h5
   intro q6 hq6;subst hq6
   refine ⟨by (simp;done),by (simp;done),by (simp;done),?_⟩
   intro q7 hq7;subst hq7
   refine ⟨by (simp;done),by (simp;done),by (simp;done),by (simp;done),by exact may_abort (by omega),?_⟩
   trivial
  intro h5
  exfalso;omega
 intro h4
 refine ask_p bp_dec ?_ ?_
 ·intro h5
  intro q6 hq6;subst hq6
  refine ⟨by (simp;done),by (simp;done),by (simp;done),?_⟩
  intro q7 hq7;subst hq7
  refine ⟨by (simp;done),by (simp;done),by (simp;done),by (simp;done),by exact may_abort (by omega),?_⟩
  trivial
 intro h5
 refine ⟨by exact may_none ‹_› ‹_› ‹_› ‹_›,?_⟩
 trivial
abbrev zCH3_2:Nat->List UInt8:=fun x0=>cutL (FNum x0) 0 (FNum x0).length
abbrev zCH3_4:Prop:=false=true->false=true
abbrev zCH3_5:Prop->Prop:=fun p=>0=0/\0=0/\p
abbrev zCH3_7:LRes->XI->Nat:=fun x0 x1=>(FW x0 x1.i).length
abbrev zCH3_8:List UInt8->Nat:=fun x0=>(FBytes x0).length
abbrev zCH3_9:XI->Nat:=fun x0=>Int.toNat (↑x0.i:Int)
abbrev zCH3_11:LOut:=LOut.mk false [] []
abbrev zCH3_17:Nat->Prop:=fun x0=>0+(FNum x0).length<=(FNum x0).length
abbrev zCH3_23:XI->LRes->Prop:=fun x0 x1=>x0.i<=x1.outs.length/\x1.abort=(0:Int)
abbrev zCH3_1:LRes->XI->Bool->Nat:=fun x0 x1 x2=>zCH3_7 x0 x1+(FFlag x2).length
abbrev zCH3_3:LRes->XIK->LOut:=fun x0 x1=>x0.outs.getD x1.i zCH3_11
abbrev zCH3_12:Prop->Prop:=fun p=>true=true/\zCH3_4/\p
abbrev zCH3_13:Nat->Nat->Nat:=fun x0 x1=>(FNum x0).length+(zCH3_2 x1).length
abbrev zCH3_16:LRes->XI->Bool->List UInt8:=fun x0 x1 x2=>cutL (FW x0 x1.i) 0 (zCH3_7 x0 x1)++FFlag x2
abbrev zCH3_20:LRes->Nat->LOut:=fun x0 x1=>x0.outs.getD x1 zCH3_11
abbrev zCH3_21:LRes->XI->LOut:=fun x0 x1=>x0.outs.getD (zCH3_9 x1) zCH3_11
abbrev zCH3_6:Nat->Nat->Prop->Prop:=fun x0 x1 p=>True/\zCH3_17 x0/\zCH3_17 x1/\((FNum x1).length=(FNum x1).length/\0=0/\(FNum x1).length=(FNum x1).length/\5=5)/\zCH3_13 x1 x0<1099511627776/\p
abbrev zCH3_15:LRes->XI->Bool->List UInt8->Nat:=fun x0 x1 x2 x3=>zCH3_1 x0 x1 x2+zCH3_8 x3
abbrev zCH3_18:LRes->XIK->List UInt8:=fun x0 x1=>FW x0 x1.i++FV (zCH3_3 x0 x1) x1.k
abbrev zCH3_19:LRes->XIK->Nat:=fun x0 x1=>(zCH3_3 x0 x1).rows.length
abbrev zCH3_24:LRes->XIK->Nat->LRow:=fun x0 x1 x2=>(zCH3_3 x0 x1).rows.getD x2 (LRow.mk [] [])
abbrev zCH3_25:LRes->Nat->Nat->LRow:=fun x0 x1 x2=>(zCH3_20 x0 x1).rows.getD x2 (LRow.mk [] [])
abbrev zCH3_0:LRes->Prop->Prop:=fun x0 p=>x0.abort=x0.abort/\x0.place=x0.place/\zCH3_4/\x0.outs.length=x0.outs.length/\(∀(i:Nat),i<x0.outs.length->(zCH3_20 x0 i).has=(zCH3_20 x0 i).has/\zCH3_12 ((zCH3_20 x0 i).value=(zCH3_20 x0 i).value)/\zCH3_12 ((zCH3_20 x0 i).rows.length=(zCH3_20 x0 i).rows.length/\2=2/\∀(i_1:Nat),i_1<(zCH3_20 x0 i).rows.length->zCH3_12 ((zCH3_25 x0 i i_1).key=(zCH3_25 x0 i i_1).key)/\zCH3_12 ((zCH3_25 x0 i i_1).value=(zCH3_25 x0 i i_1).value)/\True)/\True)/\p
abbrev zCH3_10:LRes->XIK->Nat:=fun x0 x1=>(zCH3_18 x0 x1).length
abbrev zCH3_14:XIK->LRes->Nat->Prop:=fun x0 x1 x2=>(x0.i<x1.outs.length/\x1.abort=(0:Int)/\x0.k<=zCH3_19 x1 x0)/\x2=x0.i
abbrev zCH3_22:LRes->XIK->List UInt8->Nat:=fun x0 x1 x2=>zCH3_10 x0 x1+zCH3_8 x2
def nf_rForm:Prop:=
 ∀(x:LRes),FSm x/\FMay x=true/\(FOuts x.outs).length<1099511624000->∃(x_1:Nat),x_1<18446744073709551616/\(↑x_1:Int)=IntKind.u64.wrap x.abort/\True/\Eng.ask (!decide (x.abort=(0:Int))) (∃(x_2:Nat),x_2<18446744073709551616/\(↑x_2:Int)=IntKind.u64.wrap x.place/\zCH3_6 x_2 x_1 ((true=true->true=true->zCH3_13 x_1 x_2≠0\/zCH3_13 x_1 x_2≠0)/\0+zCH3_13 x_1 x_2<=(zCH3_2 x_1++zCH3_2 x_2).length/\FRes x=cutL (zCH3_2 x_1++zCH3_2 x_2) 0 (zCH3_13 x_1 x_2)/\True)) (∃(x_2:Nat),x_2<18446744073709551616/\(↑x_2:Int)=IntKind.u64.wrap (↑x.outs.length:Int)/\zCH3_6 x_2 x_1 ((∃(x_3:XI),zCH3_23 x_3 x/\zCH3_5 (zCH3_5 (zCH3_7 x x_3=zCH3_13 x_1 x_2/\zCH3_7 x x_3=zCH3_13 x_1 x_2/\true=true/\(↑x_3.i:Int)=(0:Int)/\zCH3_0 x (FW x x_3.i=zCH3_2 x_1++zCH3_2 x_2/\True))))/\True/\∀(x_3:XI),zCH3_23 x_3 x->Eng.ask (decide (LT.lt (α:=Int) (↑x_3.i:Int) (↑x.outs.length:Int))) ((0:Int)<=(↑x_3.i:Int)/\zCH3_9 x_3<x.outs.length/\∃(x_4:Bool),True/\x_4=(zCH3_21 x x_3).has/\True/\0+zCH3_7 x x_3<=zCH3_7 x x_3/\(zCH3_7 x x_3=zCH3_7 x x_3/\0=0/\zCH3_7 x x_3=zCH3_7 x x_3/\5=5)/\zCH3_1 x x_3 x_4<1099511627776/\∃(x_5:List UInt8),x_5.length<1099511627000/\zCH3_4/\x_5=(zCH3_21 x x_3).value/\True/\0+zCH3_1 x x_3 x_4<=(zCH3_16 x x_3 x_4).length/\(zCH3_1 x x_3 x_4=zCH3_1 x x_3 x_4/\0=0/\zCH3_1 x x_3 x_4=(zCH3_16 x x_3 x_4).length/\5=5)/\zCH3_15 x x_3 x_4 x_5<1099511627776/\∃(x_6:Nat),x_6<18446744073709551616/\(↑x_6:Int)=IntKind.u64.wrap (↑(zCH3_21 x x_3).rows.length:Int)/\True/\zCH3_17 x_6/\0+zCH3_15 x x_3 x_4 x_5<=(cutL (zCH3_16 x x_3 x_4) 0 (zCH3_1 x x_3 x_4)++FBytes x_5).length/\(zCH3_15 x x_3 x_4 x_5=zCH3_15 x x_3 x_4 x_5/\0=0/\zCH3_15 x x_3 x_4 x_5=(cutL (zCH3_16 x x_3 x_4) 0 (zCH3_1 x x_3 x_4)++FBytes x_5).length/\5=5)/\zCH3_15 x x_3 x_4 x_5+(zCH3_2 x_6).length<1099511627776/\∃(r:Nat),(∃(x_7:XIK),zCH3_14 x_7 x r/\zCH3_5 (zCH3_5 (zCH3_10 x x_7=zCH3_15 x x_3 x_4 x_5+(zCH3_2 x_6).length/\zCH3_10 x x_7=zCH3_15 x x_3 x_4 x_5+(zCH3_2 x_6).length/\true=true/\Eq (α:=Int) (↑x_7.i:Int) (↑x_3.i:Int)/\zCH3_5 (0=0/\(↑x_7.k:Int)=(0:Int)/\zCH3_0 x (zCH3_18 x x_7=cutL (cutL (zCH3_16 x x_3 x_4) 0 (zCH3_1 x x_3 x_4)++FBytes x_5) 0 (zCH3_15 x x_3 x_4 x_5)++zCH3_2 x_6/\(zCH3_3 x x_7).has=(zCH3_21 x x_3).has/\zCH3_4/\(zCH3_3 x x_7).value=(zCH3_21 x x_3).value/\zCH3_4/\zCH3_19 x x_7=(zCH3_21 x x_3).rows.length/\(∀(i:Nat),i<zCH3_19 x x_7->zCH3_12 ((zCH3_24 x x_7 i).key=((zCH3_21 x x_3).rows.getD i (LRow.mk [] [])).key)/\zCH3_12 ((zCH3_24 x x_7 i).value=((zCH3_21 x x_3).rows.getD i (LRow.mk [] [])).value)/\True)/\True)))))/\True/\∀(x_7:XIK),zCH3_14 x_7 x r->Eng.ask (decide (LT.lt (α:=Int) (↑x_7.k:Int) (↑(zCH3_19 x x_7):Int))) ((0:Int)<=(↑x_7.k:Int)/\Int.toNat (↑x_7.k:Int)<zCH3_19 x x_7/\∃(x_8:List UInt8),x_8.length<1099511627000/\zCH3_4/\x_8=((zCH3_3 x x_7).rows.getD (Int.toNat (↑x_7.k:Int)) (LRow.mk [] [])).key/\True/\0+zCH3_10 x x_7<=zCH3_10 x x_7/\(zCH3_10 x x_7=zCH3_10 x x_7/\0=0/\zCH3_10 x x_7=zCH3_10 x x_7/\5=5)/\zCH3_22 x x_7 x_8<1099511627776/\(0:Int)<=(↑x_7.k:Int)/\Int.toNat (↑x_7.k:Int)<zCH3_19 x x_7/\∃(x_9:List UInt8),x_9.length<1099511627000/\zCH3_4/\x_9=((zCH3_3 x x_7).rows.getD (Int.toNat (↑x_7.k:Int)) (LRow.mk [] [])).value/\True/\0+zCH3_22 x x_7 x_8<=(cutL (zCH3_18 x x_7) 0 (zCH3_10 x x_7)++FBytes x_8).length/\(zCH3_22 x x_7 x_8=zCH3_22 x x_7 x_8/\0=0/\zCH3_22 x x_7 x_8=(cutL (zCH3_18 x x_7) 0 (zCH3_10 x x_7)++FBytes x_8).length/\5=5)/\zCH3_22 x x_7 x_8+zCH3_8 x_9<1099511627776/\True/\True/\True/\∃(x':XIK),zCH3_14 x' x r/\zCH3_19 x x'-x'.k<zCH3_19 x x_7-x_7.k/\zCH3_5 (zCH3_5 (zCH3_10 x x'=zCH3_22 x x_7 x_8+zCH3_8 x_9/\zCH3_10 x x'=zCH3_22 x x_7 x_8+zCH3_8 x_9/\true=true/\Eq (α:=Int) (↑x'.i:Int) (↑x_7.i:Int)/\zCH3_5 (0=0/\(↑x'.k:Int)=IntKind.i64.wrap ((↑x_7.k:Int)+(1:Int))/\zCH3_0 x (zCH3_18 x x'=cutL (cutL (zCH3_18 x x_7) 0 (zCH3_10 x x_7)++FBytes x_8) 0 (zCH3_22 x x_7 x_8)++FBytes x_9/\(zCH3_3 x x').has=(zCH3_3 x x_7).has/\zCH3_4/\(zCH3_3 x x').value=(zCH3_3 x x_7).value/\zCH3_4/\zCH3_19 x x'=zCH3_19 x x_7/\(∀(i:Nat),i<zCH3_19 x x'->zCH3_12 ((zCH3_24 x x' i).key=(zCH3_24 x x_7 i).key)/\zCH3_12 ((zCH3_24 x x' i).value=(zCH3_24 x x_7 i).value)/\True)/\True))))) (True/\True/\True/\∃(x':XI),zCH3_23 x' x/\x.outs.length-x'.i<x.outs.length-x_3.i/\zCH3_5 (zCH3_5 (zCH3_7 x x'=zCH3_10 x x_7/\zCH3_7 x x'=zCH3_10 x x_7/\true=true/\(↑x'.i:Int)=IntKind.i64.wrap ((↑x_7.i:Int)+(1:Int))/\zCH3_0 x (FW x x'.i=zCH3_18 x x_7/\True))))) ((true=true->true=true->zCH3_7 x x_3≠0\/zCH3_7 x x_3≠0)/\0+zCH3_7 x x_3<=zCH3_7 x x_3/\FRes x=cutL (FW x x_3.i) 0 (zCH3_7 x x_3)/\True)))
theorem eq_rForm:vc_rForm=nf_rForm:=by kernel_rfl
theorem pf_rForm:nf_rForm:=by
 delta nf_rForm zCH3_2 zCH3_4 zCH3_5 zCH3_7 zCH3_8 zCH3_9 zCH3_11 zCH3_17 zCH3_23 zCH3_1 zCH3_3 zCH3_12 zCH3_13 zCH3_16 zCH3_20 zCH3_21 zCH3_6 zCH3_15 zCH3_18 zCH3_19 zCH3_24 zCH3_25 zCH3_0 zCH3_10 zCH3_14 zCH3_22
 intro x0
 intro ⟨h1,⟨h2,h3⟩⟩
 refine ⟨((IntKind.u64.wrap x0.abort:Int)).toNat,?_⟩
 try dsimp only
 refine ⟨by (try simp only [wrap_i64,wrap_u64,wrap_u32,wrap_u8] at*)<;>omega,by (try simp only [wrap_i64,wrap_u64,wrap_u32,wrap_u8] at*)<;>omega,by trivial,?_⟩
 refine ask_p (bp_not bp_dec) ?_ ?_
 ·intro h4
  refine ⟨((IntKind.u64.wrap x0.place:Int)).toNat,?_⟩
  try dsimp only
  refine ⟨by (try simp only [wrap_i64,wrap_u64,wrap_u32,wrap_u8] at*)<;>omega,by (try simp only [wrap_i64,wrap_u64,wrap_u32,wrap_u8] at*)<;>omega,by trivial,by omega,by omega,by (simp;done),by (have e1:=FNum_len (IntKind.u64.wrap x0.abort).toNat;have e2:=FNum_len (IntKind.u64.wrap x0.place).toNat;have e3:=FNum_pos (IntKind.u64.wrap x0.abort).toNat;simp only [cutL_all];omega),?_⟩
  refine ⟨?_,?_⟩
  ·intro h5
   intro h6
   (have e1:=FNum_len (IntKind.u64.wrap x0.abort).toNat;have e2:=FNum_len (IntKind.u64.wrap x0.place).toNat;have e3:=FNum_pos (IntKind.u64.wrap x0.abort).toNat;simp only [cutL_all];omega)
  refine ⟨by (simp only [cutL_all];simp;done),by (simp only [cutL_all,cutL_app];exact res_abort h2 h4),?_⟩
  trivial
 intro h4
 refine ⟨((IntKind.u64.wrap (↑x0.outs.length:Int):Int)).toNat,?_⟩
 try dsimp only
 refine ⟨by (try simp only [wrap_i64,wrap_u64,wrap_u32,wrap_u8] at*)<;>omega,by rfl,by trivial,by omega,by omega,by (simp;done),by (have e1:=FNum_len (IntKind.u64.wrap x0.abort).toNat;have e2:=FNum_len x0.outs.length;rw [FNum_u64 (Nat.lt_trans h1.1 (by omega)),cutL_all];omega),?_⟩
 refine ⟨?_,?_⟩
 ·refine ⟨⟨(((0:Int):Int)).toNat⟩,?_⟩
  try dsimp only
  refine ⟨?_,?_⟩
  ·refine ⟨by omega,?_⟩
   omega
  refine ⟨by rfl,by rfl,by rfl,by rfl,by (rw [FNum_u64 (Nat.lt_trans h1.1 (by omega)),Classical.not_not.1 h4,cutL_all];simp [FW,FCat,wrap_u64];done),by (rw [FNum_u64 (Nat.lt_trans h1.1 (by omega)),Classical.not_not.1 h4,cutL_all];simp [FW,FCat,wrap_u64];done),by rfl,by decide,by rfl,by rfl,by (simp;done),by rfl,?_⟩
  refine ⟨by (simp;done),by (rw [FNum_u64 (Nat.lt_trans h1.1 (by omega)),Classical.not_not.1 h4,cutL_all,cutL_all];exact fw_zero x0),?_⟩
  trivial
 refine ⟨by trivial,?_⟩
 intro x5
 intro ⟨h6,h7⟩
 refine ask_p bp_dec ?_ ?_
 ·intro h8
  refine ⟨by (have:=fw_pos x0 x5.i;omega),by (have e1:=fw_le (x:=x0) (i:=x5.i) (by omega);have e2:=fo_len (x0.outs.getD x5.i (LOut.mk false [] []));simp only [Int.toNat_natCast];omega),?_⟩
  refine ⟨((x0.outs.getD (Int.toNat (↑x5.i:Int)) (LOut.mk false [] [])).has),?_⟩
  try dsimp only
  refine ⟨by trivial,by rfl,by trivial,by (have:=fw_pos x0 x5.i;omega),by (simp;done),by (have e1:=fw_le (x:=x0) (i:=x5.i) (by omega);have e2:=fo_len (x0.outs.getD x5.i (LOut.mk false [] []));simp only [Int.toNat_natCast];omega),?_⟩
  refine ⟨((x0.outs.getD (Int.toNat (↑x5.i:Int)) (LOut.mk false [] [])).value),?_⟩
  try dsimp only
  refine ⟨by exact Nat.lt_trans (h1.2 x5.i (by omega)).2.1 (by omega),by (simp;done),by rfl,by trivial,by (simp only [cutL_all];simp;done),?_⟩
  refine ⟨?_,?_⟩
  ·refine ⟨by rfl,by rfl,by (simp only [cutL_all];simp;done),?_⟩
   rfl
  refine ⟨by (have e1:=fw_le (x:=x0) (i:=x5.i) (by omega);have e2:=fo_len (x0.outs.getD x5.i (LOut.mk false [] []));simp only [Int.toNat_natCast];omega),?_⟩
  refine ⟨((IntKind.u64.wrap (↑(x0.outs.getD (Int.toNat (↑x5.i:Int)) (LOut.mk false [] [])).rows.length:Int):Int)).toNat,?_⟩
  try dsimp only
  refine ⟨by (try simp only [wrap_i64,wrap_u64,wrap_u32,wrap_u8] at*)<;>omega,by rfl,by trivial,by (have e1:=fw_le (x:=x0) (i:=x5.i) (by omega);have e2:=fo_len (x0.outs.getD x5.i (LOut.mk false [] []));simp only [Int.toNat_natCast];omega),by (simp only [cutL_all,cutL_app];simp only [List.length_append];omega),?_⟩
  refine ⟨?_,?_⟩
  ·refine ⟨by rfl,by rfl,by (simp only [cutL_all,cutL_app];simp only [List.length_append];done),?_⟩
   rfl
  refine ⟨by (simp only [Int.toNat_natCast];rw [FNum_u64 (show (x0.outs.getD x5.i (LOut.mk false [] [])).rows.length<1099511627776 from Nat.lt_trans (h1.2 x5.i (by omega)).1 (by omega)),cutL_all];have e1:=fw_le (x:=x0) (i:=x5.i) (by omega);have e2:=fo_len (x0.outs.getD x5.i (LOut.mk false [] []));omega),?_⟩
  refine ⟨x5.i,?_⟩
  try dsimp only
  refine ⟨?_,?_⟩
  ·refine ⟨⟨(x5.i),(((0:Int):Int)).toNat⟩,?_⟩
   try dsimp only
   refine ⟨?_,?_⟩
   ·refine ⟨?_,?_⟩
    ·refine ⟨by (have:=fw_pos x0 x5.i;omega),by (have:=fw_pos x0 x5.i;omega),?_⟩
     (have:=fw_pos x0 x5.i;omega)
    rfl
   refine ⟨by rfl,by rfl,by rfl,by rfl,by (simp only [Int.toNat_natCast];rw [FNum_u64 (show (x0.outs.getD x5.i (LOut.mk false [] [])).rows.length<1099511627776 from Nat.lt_trans (h1.2 x5.i (by omega)).1 (by omega)),cutL_all];rw [show (0:Int).toNat=0 from rfl,fv_zero];simp only [List.length_append];omega),by (simp only [Int.toNat_natCast];rw [FNum_u64 (show (x0.outs.getD x5.i (LOut.mk false [] [])).rows.length<1099511627776 from Nat.lt_trans (h1.2 x5.i (by omega)).1 (by omega)),cutL_all];rw [show (0:Int).toNat=0 from rfl,fv_zero];simp only [List.length_append];omega),by rfl,by rfl,by rfl,by rfl,by rfl,by decide,?_⟩
   refine ⟨by rfl,by rfl,by (simp;done),by rfl,by (simp;done),by (simp only [Int.toNat_natCast];rw [FNum_u64 (show (x0.outs.getD x5.i (LOut.mk false [] [])).rows.length<1099511627776 from Nat.lt_trans (h1.2 x5.i (by omega)).1 (by omega))];simp only [cutL_all,cutL_app,cutL_app3];rw [show (0:Int).toNat=0 from rfl,fv_zero];simp only [List.append_assoc]),by rfl,by (simp;done),by rfl,by (simp;done),by rfl,by (simp;done),?_⟩
   trivial
  refine ⟨by trivial,?_⟩
  intro x9
  intro ⟨⟨h10,⟨h11,h12⟩⟩,h13⟩
  refine ask_p bp_dec ?_ ?_
  ·intro h14
   refine ⟨by (have:=fw_pos x0 x5.i;omega),by (have e1:=fw_le (x:=x0) (i:=x5.i) (by omega);have e2:=fo_len (x0.outs.getD x5.i (LOut.mk false [] []));simp only [Int.toNat_natCast];omega),?_⟩
   refine ⟨(((x0.outs.getD x9.i (LOut.mk false [] [])).rows.getD (Int.toNat (↑x9.k:Int)) (LRow.mk [] [])).key),?_⟩
   try dsimp only
   refine ⟨by exact Nat.lt_trans ((h1.2 x9.i (by omega)).2.2 x9.k (by omega)).1 (by omega),by (simp;done),by rfl,by trivial,by (have:=fw_pos x0 x5.i;omega),by (simp;done),by (have e0:=(h1.2 x9.i (by omega)).1;have e1:=fw_le (x:=x0) (i:=x9.i) (by omega);have e2:=fv_le (o:=(x0.outs.getD x9.i (LOut.mk false [] []))) (k:=x9.k) (by omega);simp only [FRow,List.length_append,Int.toNat_natCast] at*;omega),by (have:=fw_pos x0 x5.i;omega),by (have e1:=fw_le (x:=x0) (i:=x5.i) (by omega);have e2:=fo_len (x0.outs.getD x5.i (LOut.mk false [] []));simp only [Int.toNat_natCast];omega),?_⟩
   refine ⟨(((x0.outs.getD x9.i (LOut.mk false [] [])).rows.getD (Int.toNat (↑x9.k:Int)) (LRow.mk [] [])).value),?_⟩
   try dsimp only
   refine ⟨by exact Nat.lt_trans ((h1.2 x9.i (by omega)).2.2 x9.k (by omega)).2 (by omega),by (simp;done),by rfl,by trivial,by (simp only [cutL_all,cutL_app];simp only [List.length_append];omega),?_⟩
   refine ⟨?_,?_⟩
   ·refine ⟨by rfl,by rfl,by (simp only [cutL_all,cutL_app];simp only [List.length_append];done),?_⟩
    rfl
   refine ⟨by (have e0:=(h1.2 x9.i (by omega)).1;have e1:=fw_le (x:=x0) (i:=x9.i) (by omega);have e2:=fv_le (o:=(x0.outs.getD x9.i (LOut.mk false [] []))) (k:=x9.k) (by omega);simp only [FRow,List.length_append,Int.toNat_natCast] at*;omega),by trivial,by trivial,by trivial,?_⟩
   refine ⟨⟨(x9.i),((IntKind.i64.wrap ((↑x9.k:Int)+(1:Int)):Int)).toNat⟩,?_⟩
   try dsimp only
   refine ⟨?_,?_⟩
   ·refine ⟨?_,?_⟩
    ·refine ⟨by (have:=fw_pos x0 x5.i;omega),by (have:=fw_pos x0 x5.i;omega),?_⟩
     (have e0:=(h1.2 x9.i (by omega)).1;rw [wrap_succ _ (by omega)];omega)
    (have:=fw_pos x0 x5.i;omega)
   refine ⟨by (have e0:=(h1.2 x9.i (by omega)).1;rw [wrap_succ _ (by omega)];omega),by rfl,by rfl,by rfl,by rfl,by (have e0:=(h1.2 x9.i (by omega)).1;rw [wrap_succ _ (by omega),Int.toNat_natCast,fv_next (by omega)];simp only [List.length_append,Int.toNat_natCast];omega),by (have e0:=(h1.2 x9.i (by omega)).1;rw [wrap_succ _ (by omega),Int.toNat_natCast,fv_next (by omega)];simp only [List.length_append,Int.toNat_natCast];omega),by rfl,by rfl,by rfl,by rfl,by rfl,?_⟩
   refine ⟨by (have e0:=(h1.2 x9.i (by omega)).1;rw [wrap_succ _ (by omega)];omega),by rfl,by rfl,by (simp;done),by rfl,by (simp;done),by (have e0:=(h1.2 x9.i (by omega)).1;rw [wrap_succ _ (by omega),Int.toNat_natCast,fv_next (by omega)];simp only [cutL_all,cutL_app,Int.toNat_natCast];simp only [List.append_assoc]),by rfl,by (simp;done),by rfl,by (simp;done),by rfl,?_⟩
   refine ⟨by (simp;done),?_⟩
   trivial
  intro h14
  refine ⟨by trivial,by trivial,by trivial,?_⟩
  refine ⟨⟨((IntKind.i64.wrap ((↑x9.i:Int)+(1:Int)):Int)).toNat⟩,?_⟩
  try dsimp only
  refine ⟨?_,?_⟩
  ·refine ⟨by (have e0:=h1.1;rw [wrap_succ _ (by omega)];omega),?_⟩
   (have:=fw_pos x0 x5.i;omega)
  refine ⟨by (have e0:=h1.1;rw [wrap_succ _ (by omega)];omega),by rfl,by rfl,by rfl,by rfl,by (have e0:=h1.1;rw [wrap_succ _ (by omega),Int.toNat_natCast,fw_next (by omega),fv_end ‹_›]),by (have e0:=h1.1;rw [wrap_succ _ (by omega),Int.toNat_natCast,fw_next (by omega),fv_end ‹_›]),by rfl,by (have e0:=h1.1;rw [wrap_succ _ (by omega)];omega),by rfl,by rfl,by (simp;done),?_⟩
  refine ⟨by rfl,by (simp;done),by (have e0:=h1.1;rw [wrap_succ _ (by omega),Int.toNat_natCast,fw_next (by omega),fv_end ‹_›]),?_⟩
  trivial
 intro h8
 refine ⟨?_,?_⟩
 ·intro h9
  intro h10
  (have:=fw_pos x0 x5.i;omega)
 refine ⟨by (have:=fw_pos x0 x5.i;omega),by (rw [cutL_all];exact fw_end h7 h8),?_⟩
 trivial
end Go.Proofs
