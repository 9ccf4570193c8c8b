import Derived.Test.YtoajkmdddjnebaaGreatDoorCallsResultsCJ
set_option linter.unusedSimpArgs false
set_option linter.unusedVariables false
namespace Go.Proofs
open Go.Eng
set_option maxRecDepth 100000
abbrev zCJ0_3:LOut:=LOut.mk false [] []
abbrev zCJ0_10:Bool->Prop:=fun x0=>(bif false then x0 else !x0)=true
abbrev zCJ0_12:Prop:=false=true->false=true
abbrev zCJ0_14:XRR->Nat:=fun x0=>x0.a.outs.length
abbrev zCJ0_15:XRR->Prop->Prop:=fun x0 p=>x0.a.abort=x0.a.abort/\x0.a.place=x0.a.place/\p
abbrev zCJ0_20:Prop->Prop:=fun p=>0=0/\0=0/\p
abbrev zCJ0_23:XRR->Prop:=fun x0=>FAlike x0.a x0.b=false/\True
abbrev zCJ0_26:XIK->Nat:=fun x0=>Int.toNat (↑x0.k:Int)
abbrev zCJ0_4:Prop->Prop:=fun p=>true=true/\zCJ0_12/\p
abbrev zCJ0_8:XRR->XIK->LOut:=fun x0 x1=>x0.a.outs.getD x1.i zCJ0_3
abbrev zCJ0_9:Prop->Prop:=fun p=>zCJ0_20 (zCJ0_20 p)
abbrev zCJ0_11:XRR->XIK->LOut:=fun x0 x1=>x0.b.outs.getD x1.i zCJ0_3
abbrev zCJ0_13:XRR->XI->LOut:=fun x0 x1=>x0.a.outs.getD (Int.toNat (↑x1.i:Int)) zCJ0_3
abbrev zCJ0_16:XRR->Nat->LOut:=fun x0 x1=>x0.b.outs.getD x1 zCJ0_3
abbrev zCJ0_17:XRR->Nat->LOut:=fun x0 x1=>x0.a.outs.getD x1 zCJ0_3
abbrev zCJ0_19:XRR->XI->LOut:=fun x0 x1=>x0.b.outs.getD (Int.toNat (↑x1.i:Int)) zCJ0_3
abbrev zCJ0_21:Bool->Prop->Prop:=fun x0 p=>(true=true->zCJ0_10 x0)/\(true=true->zCJ0_10 x0)/\(true=true->false=false->true=true)/\p
abbrev zCJ0_22:Bool->Prop:=fun x0=>zCJ0_10 x0->zCJ0_10 x0->zCJ0_10 x0
abbrev zCJ0_24:XRR->Prop:=fun x0=>Eq (α:=Int) (↑(zCJ0_14 x0):Int) (↑(zCJ0_14 x0):Int)
abbrev zCJ0_25:Bool->Prop:=fun x0=>true=true->x0=false->zCJ0_10 x0
abbrev zCJ0_30:XI->XRR->Prop:=fun x0 x1=>x0.i<=zCJ0_14 x1/\FResHd x1.a x1.b/\FOutsEq x1.a.outs x1.b.outs x0.i
abbrev zCJ0_1:Bool->Prop->Prop:=fun x0 p=>zCJ0_22 x0/\zCJ0_22 x0/\p
abbrev zCJ0_27:XRR->Nat->Nat->LRow:=fun x0 x1 x2=>(zCJ0_17 x0 x1).rows.getD x2 (LRow.mk [] [])
abbrev zCJ0_28:XRR->XIK->Nat->LRow:=fun x0 x1 x2=>(zCJ0_8 x0 x1).rows.getD x2 (LRow.mk [] [])
abbrev zCJ0_29:XRR->XIK->Nat->LRow:=fun x0 x1 x2=>(zCJ0_11 x0 x1).rows.getD x2 (LRow.mk [] [])
abbrev zCJ0_31:XRR->XI->Nat->LRow:=fun x0 x1 x2=>(zCJ0_13 x0 x1).rows.getD x2 (LRow.mk [] [])
abbrev zCJ0_32:XRR->Nat->Nat->LRow:=fun x0 x1 x2=>(zCJ0_16 x0 x1).rows.getD x2 (LRow.mk [] [])
abbrev zCJ0_33:XRR->XIK->Nat:=fun x0 x1=>(zCJ0_8 x0 x1).rows.length
abbrev zCJ0_34:XRR->XIK->Nat:=fun x0 x1=>(zCJ0_11 x0 x1).rows.length
abbrev zCJ0_0:XRR->Prop->Prop:=fun x0 p=>zCJ0_12/\zCJ0_14 x0=zCJ0_14 x0/\(∀(i:Nat),i<zCJ0_14 x0->(zCJ0_17 x0 i).has=(zCJ0_17 x0 i).has/\zCJ0_4 ((zCJ0_17 x0 i).value=(zCJ0_17 x0 i).value)/\zCJ0_4 ((zCJ0_17 x0 i).rows.length=(zCJ0_17 x0 i).rows.length/\2=2/\∀(i_1:Nat),i_1<(zCJ0_17 x0 i).rows.length->zCJ0_4 ((zCJ0_27 x0 i i_1).key=(zCJ0_27 x0 i i_1).key)/\zCJ0_4 ((zCJ0_27 x0 i i_1).value=(zCJ0_27 x0 i i_1).value)/\True)/\True)/\p
abbrev zCJ0_2:XRR->Prop->Prop:=fun x0 p=>x0.b.abort=x0.b.abort/\x0.b.place=x0.b.place/\zCJ0_12/\x0.b.outs.length=x0.b.outs.length/\(∀(i:Nat),i<x0.b.outs.length->(zCJ0_16 x0 i).has=(zCJ0_16 x0 i).has/\zCJ0_4 ((zCJ0_16 x0 i).value=(zCJ0_16 x0 i).value)/\zCJ0_4 ((zCJ0_16 x0 i).rows.length=(zCJ0_16 x0 i).rows.length/\2=2/\∀(i_1:Nat),i_1<(zCJ0_16 x0 i).rows.length->zCJ0_4 ((zCJ0_32 x0 i i_1).key=(zCJ0_32 x0 i i_1).key)/\zCJ0_4 ((zCJ0_32 x0 i i_1).value=(zCJ0_32 x0 i i_1).value)/\True)/\True)/\p
abbrev zCJ0_18:XIK->XRR->Nat->Prop:=fun x0 x1 x2=>(x0.i<zCJ0_14 x1/\FResHd x1.a x1.b/\FOutsEq x1.a.outs x1.b.outs x0.i/\x0.k<=zCJ0_33 x1 x0/\FOutHd (zCJ0_8 x1 x0) (zCJ0_11 x1 x0)/\FRowsEq (zCJ0_8 x1 x0).rows (zCJ0_11 x1 x0).rows x0.k)/\x2=x0.i
abbrev zCJ0_35:XRR->XIK->Nat->XI->Prop:=fun x0 x1 x2 x3=>zCJ0_4 ((zCJ0_28 x0 x1 x2).key=(zCJ0_31 x0 x3 x2).key)/\zCJ0_4 ((zCJ0_28 x0 x1 x2).value=(zCJ0_31 x0 x3 x2).value)/\True
abbrev zCJ0_36:XRR->XIK->XIK->Prop->Prop:=fun x0 x1 x2 p=>zCJ0_12/\zCJ0_33 x0 x1=zCJ0_33 x0 x2/\(∀(i:Nat),i<zCJ0_33 x0 x1->zCJ0_4 ((zCJ0_28 x0 x1 i).key=(zCJ0_28 x0 x2 i).key)/\zCJ0_4 ((zCJ0_28 x0 x1 i).value=(zCJ0_28 x0 x2 i).value)/\True)/\p
abbrev zCJ0_5:XRR->XIK->Nat->Prop:=fun x0 x1 x2=>Eng.ask (bif false then true else !decide (((zCJ0_8 x0 x1).rows.getD (zCJ0_26 x1) (LRow.mk [] [])).value=((zCJ0_11 x0 x1).rows.getD (zCJ0_26 x1) (LRow.mk [] [])).value)) (zCJ0_23 x0) (True/\True/\True/\∃(x':XIK),zCJ0_18 x' x0 x2/\zCJ0_33 x0 x'-x'.k<zCJ0_33 x0 x1-x1.k/\zCJ0_9 (zCJ0_20 (zCJ0_0 x0 (zCJ0_24 x0/\Eq (α:=Int) (↑x'.i:Int) (↑x1.i:Int)/\Eq (α:=Int) (↑x'.i:Int) (↑x1.i:Int)/\zCJ0_9 (zCJ0_20 (zCJ0_36 x0 x' x1 (Eq (α:=Int) (↑(zCJ0_33 x0 x'):Int) (↑(zCJ0_33 x0 x1):Int)/\(↑x'.k:Int)=IntKind.i64.wrap ((↑x1.k:Int)+(1:Int))/\zCJ0_15 x0 (zCJ0_0 x0 (zCJ0_2 x0 ((zCJ0_8 x0 x').has=(zCJ0_8 x0 x1).has/\zCJ0_12/\(zCJ0_8 x0 x').value=(zCJ0_8 x0 x1).value/\zCJ0_36 x0 x' x1 ((zCJ0_11 x0 x').has=(zCJ0_11 x0 x1).has/\zCJ0_12/\(zCJ0_11 x0 x').value=(zCJ0_11 x0 x1).value/\zCJ0_12/\zCJ0_34 x0 x'=zCJ0_34 x0 x1/\(∀(i:Nat),i<zCJ0_34 x0 x'->zCJ0_4 ((zCJ0_29 x0 x' i).key=(zCJ0_29 x0 x1 i).key)/\zCJ0_4 ((zCJ0_29 x0 x' i).value=(zCJ0_29 x0 x1 i).value)/\True)/\True)))))))))))
abbrev zCJ0_37:XRR->XIK->XI->Prop->Prop:=fun x0 x1 x2 p=>zCJ0_12/\zCJ0_33 x0 x1=(zCJ0_13 x0 x2).rows.length/\(∀(i:Nat),i<zCJ0_33 x0 x1->zCJ0_35 x0 x1 i x2)/\p
abbrev zCJ0_6:XRR->Nat->XI->Prop:=fun x0 x1 x2=>∃(x:XIK),zCJ0_18 x x0 x1/\zCJ0_9 (zCJ0_20 (zCJ0_0 x0 (zCJ0_24 x0/\Eq (α:=Int) (↑x.i:Int) (↑x2.i:Int)/\Eq (α:=Int) (↑x.i:Int) (↑x2.i:Int)/\zCJ0_9 (zCJ0_20 (zCJ0_37 x0 x x2 (Eq (α:=Int) (↑(zCJ0_33 x0 x):Int) (↑(zCJ0_13 x0 x2).rows.length:Int)/\(↑x.k:Int)=(0:Int)/\zCJ0_15 x0 (zCJ0_0 x0 (zCJ0_2 x0 ((zCJ0_8 x0 x).has=(zCJ0_13 x0 x2).has/\zCJ0_12/\(zCJ0_8 x0 x).value=(zCJ0_13 x0 x2).value/\zCJ0_37 x0 x x2 ((zCJ0_11 x0 x).has=(zCJ0_19 x0 x2).has/\zCJ0_12/\(zCJ0_11 x0 x).value=(zCJ0_19 x0 x2).value/\zCJ0_12/\zCJ0_34 x0 x=(zCJ0_19 x0 x2).rows.length/\(∀(i:Nat),i<zCJ0_34 x0 x->zCJ0_4 ((zCJ0_29 x0 x i).key=((zCJ0_19 x0 x2).rows.getD i (LRow.mk [] [])).key)/\zCJ0_4 ((zCJ0_29 x0 x i).value=((zCJ0_19 x0 x2).rows.getD i (LRow.mk [] [])).value)/\True)/\True))))))))))
abbrev zCJ0_7:Bool->XRR->XI->Prop:=fun x0 x1 x2=>zCJ0_1 x0 (zCJ0_1 x0 (zCJ0_1 x0 (zCJ0_25 x0/\Eng.ask (bif x0 then true else !decide (Eq (α:=Int) (↑(zCJ0_13 x1 x2).rows.length:Int) (↑(zCJ0_19 x1 x2).rows.length:Int))) (zCJ0_23 x1) (∃(r:Nat),zCJ0_6 x1 r x2/\True/\∀(x:XIK),zCJ0_18 x x1 r->Eng.ask (decide (LT.lt (α:=Int) (↑x.k:Int) (↑(zCJ0_33 x1 x):Int))) ((0:Int)<=(↑x.k:Int)/\zCJ0_26 x<zCJ0_33 x1 x/\(0:Int)<=(↑x.k:Int)/\zCJ0_26 x<zCJ0_34 x1 x/\∀(q:Bool),q= !decide (((zCJ0_8 x1 x).rows.getD (zCJ0_26 x) (LRow.mk [] [])).key=((zCJ0_11 x1 x).rows.getD (zCJ0_26 x) (LRow.mk [] [])).key)->zCJ0_1 q (zCJ0_22 q/\(zCJ0_10 q->(0:Int)<=(↑x.k:Int))/\(zCJ0_10 q->zCJ0_26 x<zCJ0_33 x1 x)/\zCJ0_1 q (zCJ0_1 q (zCJ0_22 q/\(zCJ0_10 q->(0:Int)<=(↑x.k:Int))/\(zCJ0_10 q->zCJ0_26 x<zCJ0_34 x1 x)/\zCJ0_1 q (Eng.ask q (false=false/\(true=true->true=false->false=true)/\zCJ0_23 x1) (zCJ0_21 q (zCJ0_5 x1 x r))))))) (True/\True/\True/\∃(x':XI),zCJ0_30 x' x1/\zCJ0_14 x1-x'.i<zCJ0_14 x1-x2.i/\zCJ0_9 (zCJ0_20 (zCJ0_0 x1 (zCJ0_24 x1/\(↑x'.i:Int)=IntKind.i64.wrap ((↑x.i:Int)+(1:Int))/\zCJ0_15 x1 (zCJ0_0 x1 (zCJ0_2 x1 True))))))))))
def nf_calls_Alike:Prop:=
 ∀(x:XRR),FSm x.a/\FSm x.b->∀(q:Bool),q= !decide (x.a.abort=x.b.abort)->zCJ0_1 q (zCJ0_1 q (zCJ0_25 q/\∀(q_1:Bool),(q_1=bif q then true else !decide (x.a.place=x.b.place))->zCJ0_1 q_1 (zCJ0_1 q_1 (zCJ0_1 q_1 (zCJ0_25 q_1/\Eng.ask (bif q_1 then true else !decide (Eq (α:=Int) (↑(zCJ0_14 x):Int) (↑x.b.outs.length:Int))) (zCJ0_23 x) ((∃(x_1:XI),zCJ0_30 x_1 x/\zCJ0_9 (zCJ0_20 (zCJ0_0 x (zCJ0_24 x/\(↑x_1.i:Int)=(0:Int)/\zCJ0_15 x (zCJ0_0 x (zCJ0_2 x True))))))/\True/\∀(x_1:XI),zCJ0_30 x_1 x->Eng.ask (decide (LT.lt (α:=Int) (↑x_1.i:Int) (↑(zCJ0_14 x):Int))) ((0:Int)<=(↑x_1.i:Int)/\Int.toNat (↑x_1.i:Int)<zCJ0_14 x/\(0:Int)<=(↑x_1.i:Int)/\Int.toNat (↑x_1.i:Int)<x.b.outs.length/\∀(q:Bool),q= !(zCJ0_13 x x_1).has==(zCJ0_19 x x_1).has->zCJ0_1 q (Eng.ask (bif false then q else !q) (zCJ0_21 q (∀(q:Bool),(q=bif false then true else !decide ((zCJ0_13 x x_1).value=(zCJ0_19 x x_1).value))->zCJ0_7 q x x_1)) (∀(q:Bool),q=true->zCJ0_7 q x x_1))) (FAlike x.a x.b=true/\True)))))))
theorem eq_calls_Alike:vc_calls_Alike=nf_calls_Alike:=by kernel_rfl
theorem pf_calls_Alike:nf_calls_Alike:=by
 delta nf_calls_Alike zCJ0_3 zCJ0_10 zCJ0_12 zCJ0_14 zCJ0_15 zCJ0_20 zCJ0_23 zCJ0_26 zCJ0_4 zCJ0_8 zCJ0_9 zCJ0_11 zCJ0_13 zCJ0_16 zCJ0_17 zCJ0_19 zCJ0_21 zCJ0_22 zCJ0_24 zCJ0_25 zCJ0_30 zCJ0_1 zCJ0_27 zCJ0_28 zCJ0_29 zCJ0_31 zCJ0_32 zCJ0_33 zCJ0_34 zCJ0_0 zCJ0_2 zCJ0_18 zCJ0_35 zCJ0_36 zCJ0_5 zCJ0_37 zCJ0_6 zCJ0_7
 intro x0
 intro ⟨h1,h2⟩
 intro q3 hq3;subst hq3
 refine ⟨by (simp;done),by (simp;done),by (simp;done),by (simp;done),by (simp;done),?_⟩
 intro q4 hq4;subst hq4
 refine ⟨by (simp;done),by (simp;done),by (simp;done),by (simp;done),by (simp;done),by (simp;done),by (simp;done),?_⟩
 refine ask_p (bp_or (bp_or (bp_not bp_dec) (bp_not bp_dec)) (bp_not bp_dec)) ?_ ?_
 ·intro h5
  refine ⟨by (refine not_res fun hh=> ?_;obtain ⟨e1,e2,e3⟩:=hh;rcases h5 with (h5 | h5) | h5;exact h5 e1;exact h5 e2;exact h5 (by rw [e3])),?_⟩
  trivial
 intro h5
 refine ⟨?_,?_⟩
 ·refine ⟨⟨(((0:Int):Int)).toNat⟩,?_⟩
  try dsimp only
  refine ⟨?_,?_⟩
  ·refine ⟨by (simp_all [FOutHd];done),by (simp only [not_or,Classical.not_not] at h5;exact ⟨h5.1.1,h5.1.2,by omega⟩),?_⟩
   exact outs_zero
  refine ⟨by rfl,by rfl,by rfl,by rfl,by rfl,by rfl,by (simp;done),by rfl,by (simp;done),by rfl,by decide,by rfl,?_⟩
  refine ⟨by rfl,by (simp;done),by rfl,by (simp;done),by rfl,by rfl,by (simp;done),by rfl,by (simp;done),?_⟩
  trivial
 refine ⟨by trivial,?_⟩
 intro x6
 intro ⟨h7,⟨h8,h9⟩⟩
 refine ask_p bp_dec ?_ ?_
 ·intro h10
  refine ⟨by (simp_all [FOutHd];done),by (simp_all [FOutHd];omega),by (simp_all [FOutHd];done),by (simp_all [FOutHd];done),?_⟩
  intro q11 hq11;subst hq11
  refine ⟨by (simp;done),by (simp;done),?_⟩
  refine ask_p (bp_cond bp_false (bp_not bp_id) (bp_not (bp_not bp_id))) ?_ ?_
  ·intro h12
   refine ⟨?_,?_⟩
   ·intro h13
    (simp_all [FOutHd];done)
   refine ⟨?_,?_⟩
   ·intro h13
    (simp_all [FOutHd];done)
   refine ⟨by (simp;done),?_⟩
   intro q13 hq13;subst hq13
   refine ⟨?_,?_⟩
   ·intro h14
    intro h15
    (simp_all [FOutHd];done)
   refine ⟨?_,?_⟩
   ·intro h14
    intro h15
    (simp_all [FOutHd];done)
   refine ⟨?_,?_⟩
   ·intro h14
    intro h15
    (simp_all [FOutHd];done)
   refine ⟨?_,?_⟩
   ·intro h14
    intro h15
    (simp_all [FOutHd];done)
   refine ⟨?_,?_⟩
   ·intro h14
    intro h15
    (simp_all [FOutHd];done)
   refine ⟨?_,?_⟩
   ·intro h14
    intro h15
    (simp_all [FOutHd];done)
   refine ⟨by (simp;done),?_⟩
   refine ask_p (bp_or (bp_orfl bp_false (bp_not bp_dec)) (bp_not bp_dec)) ?_ ?_
   ·intro h14
    refine ⟨by (refine not_out (i:=x6.i) fun hh=> ?_;obtain ⟨e1,e2,e3⟩:=hh;simp_all;done),?_⟩
    trivial
   intro h14
   refine ⟨x6.i,?_⟩
   try dsimp only
   refine ⟨?_,?_⟩
   ·refine ⟨⟨(x6.i),(((0:Int):Int)).toNat⟩,?_⟩
    try dsimp only
    refine ⟨?_,?_⟩
    ·refine ⟨?_,?_⟩
     ·refine ⟨by (simp_all [FOutHd];omega),by (simp only [not_or,Classical.not_not] at h5;exact ⟨h5.1.1,h5.1.2,by omega⟩),by (simp_all [FOutHd];done),by (simp_all [FOutHd];done),by (simp_all [FOutHd];omega),?_⟩
      exact rows_zero
     rfl
    refine ⟨by rfl,by rfl,by rfl,by rfl,by rfl,by rfl,by (simp;done),by rfl,by (simp;done),by rfl,by rfl,by rfl,?_⟩
    refine ⟨by rfl,by rfl,by rfl,by rfl,by rfl,by rfl,by (simp;done),by (simp_all [FOutHd];done),by (simp;done),by (simp_all [FOutHd];done),by decide,by rfl,?_⟩
    refine ⟨by rfl,by (simp;done),by rfl,by (simp;done),by rfl,by rfl,by (simp;done),by rfl,by (simp;done),by (simp_all [FOutHd];done),by (simp;done),by (simp_all [FOutHd];done),?_⟩
    refine ⟨by (simp;done),by (simp_all [FOutHd];done),by (simp;done),by (simp_all [FOutHd];done),by (simp;done),by (simp_all [FOutHd];done),by (simp;done),by (simp_all [FOutHd];done),by (simp;done),?_⟩
    trivial
   refine ⟨by trivial,?_⟩
   intro x15
   intro ⟨⟨h16,⟨h17,⟨h18,⟨h19,⟨h20,h21⟩⟩⟩⟩⟩,h22⟩
   refine ask_p bp_dec ?_ ?_
   ·intro h23
    refine ⟨by (simp_all [FOutHd];done),by (simp_all [FOutHd];done),by (simp_all [FOutHd];done),by (simp_all [FOutHd];done),?_⟩
    intro q24 hq24;subst hq24
    refine ⟨?_,?_⟩
    ·intro h25
     intro h26
     (simp_all [FOutHd];done)
    refine ⟨?_,?_⟩
    ·intro h25
     intro h26
     (simp_all [FOutHd];done)
    refine ⟨?_,?_⟩
    ·intro h25
     intro h26
     (simp_all [FOutHd];done)
    refine ⟨by (simp;done),?_⟩
    refine ⟨?_,?_⟩
    ·intro h25
     (simp_all [FOutHd];done)
    refine ⟨?_,?_⟩
    ·intro h25
     intro h26
     (simp_all [FOutHd];done)
    refine ⟨?_,?_⟩
    ·intro h25
     intro h26
     (simp_all [FOutHd];done)
    refine ⟨?_,?_⟩
    ·intro h25
     intro h26
     (simp_all [FOutHd];done)
    refine ⟨?_,?_⟩
    ·intro h25
     intro h26
     (simp_all [FOutHd];done)
    refine ⟨?_,?_⟩
    ·intro h25
     intro h26
     (simp_all [FOutHd];done)
    refine ⟨by (simp;done),?_⟩
    refine ⟨?_,?_⟩
    ·intro h25
     (simp_all [FOutHd];done)
    refine ⟨?_,?_⟩
    ·intro h25
     intro h26
     (simp_all [FOutHd];done)
    refine ⟨?_,?_⟩
    ·intro h25
     intro h26
     (simp_all [FOutHd];done)
    refine ask_p (bp_not bp_dec) ?_ ?_
    ·intro h25
     refine ⟨by rfl,by (simp;done),by exact no_key ‹_›,?_⟩
     trivial
    intro h25
    refine ⟨?_,?_⟩
    ·intro h26
     (simp_all [FOutHd];done)
    refine ⟨?_,?_⟩
    ·intro h26
     (simp_all [FOutHd];done)
    refine ⟨by (simp;done),?_⟩
    refine ask_p (bp_orfl bp_false (bp_not bp_dec)) ?_ ?_
    ·intro h26
     refine ⟨by exact no_val ‹_›,?_⟩
     trivial
    intro h26
    refine ⟨by trivial,by trivial,by trivial,?_⟩
    refine ⟨⟨(x15.i),((IntKind.i64.wrap ((↑x15.k:Int)+(1:Int)):Int)).toNat⟩,?_⟩
    try dsimp only
    refine ⟨?_,?_⟩
    ·refine ⟨?_,?_⟩
     ·refine ⟨by (simp_all [FOutHd];done),by (simp only [not_or,Classical.not_not] at h5;exact ⟨h5.1.1,h5.1.2,by omega⟩),by (simp_all [FOutHd];done),by exact k_le (h1.2 x15.i h16).1 h23,by (simp_all [FOutHd];done),?_⟩
      exact k_P (P:=FRowsEq _ _) (h1.2 x15.i h16).1 h23 (rows_next h21 (Classical.not_not.1 ‹_›) (Classical.not_not.1 ‹_›))
     (simp_all [FOutHd];done)
    refine ⟨by exact k_mu (h1.2 x15.i h16).1 h23,by rfl,by rfl,by rfl,by rfl,by rfl,by rfl,by (simp;done),by rfl,by (simp;done),by rfl,by rfl,?_⟩
    refine ⟨by rfl,by rfl,by rfl,by rfl,by rfl,by rfl,by rfl,by (simp;done),by rfl,by (simp;done),by rfl,by exact k_eq (h1.2 x15.i h16).1 h23,?_⟩
    refine ⟨by rfl,by rfl,by (simp;done),by rfl,by (simp;done),by rfl,by rfl,by (simp;done),by rfl,by (simp;done),by rfl,by (simp;done),?_⟩
    refine ⟨by rfl,by (simp;done),by rfl,by (simp;done),by rfl,by (simp;done),by rfl,by (simp;done),by rfl,by (simp;done),?_⟩
    trivial
   intro h23
   refine ⟨by trivial,by trivial,by trivial,?_⟩
   refine ⟨⟨((IntKind.i64.wrap ((↑x15.i:Int)+(1:Int)):Int)).toNat⟩,?_⟩
   try dsimp only
   refine ⟨?_,?_⟩
   ·refine ⟨by exact k_le (k:=x15.i) h1.1 (Int.ofNat_lt.2 h16),by (simp only [not_or,Classical.not_not] at h5;exact ⟨h5.1.1,h5.1.2,by omega⟩),?_⟩
    exact k_P (k:=x15.i) (P:=FOutsEq _ _) h1.1 (Int.ofNat_lt.2 h16) (outs_next h18 h20 ‹_› h21)
   refine ⟨by (rw [h22];exact k_mu (k:=x15.i) h1.1 (Int.ofNat_lt.2 h16)),by rfl,by rfl,by rfl,by rfl,by rfl,by rfl,by (simp;done),by rfl,by (simp;done),by rfl,by exact k_eq (k:=x15.i) h1.1 (Int.ofNat_lt.2 h16),?_⟩
   refine ⟨by rfl,by rfl,by (simp;done),by rfl,by (simp;done),by rfl,by rfl,by (simp;done),by rfl,by (simp;done),?_⟩
   trivial
  intro h12
  intro q13 hq13;subst hq13
  refine ⟨by (simp;done),by (simp;done),by (simp;done),by (simp;done),by (simp;done),by (simp;done),by (simp;done),?_⟩
  refine ask_p (bp_ortl bp_true (bp_not bp_dec)) ?_ fun h=>(h trivial).elim
  intro _
  refine ⟨by (refine not_out (i:=x6.i) fun hh=> ?_;obtain ⟨e1,e2,e3⟩:=hh;simp_all;done),?_⟩
  trivial
 intro h10
 refine ⟨by exact outs_end ‹_› ‹_› ‹_›,?_⟩
 trivial
abbrev zCJ1_2:LOut:=LOut.mk false [] []
abbrev zCJ1_5:Bool->Prop:=fun x0=>(bif false then x0 else !x0)=true
abbrev zCJ1_7:XI->Nat:=fun x0=>Int.toNat (↑x0.i:Int)
abbrev zCJ1_16:Prop->Prop:=fun p=>0=0/\0=0/\p
abbrev zCJ1_22:Prop:=true=true->true=true->true=true
abbrev zCJ1_23:Prop:=false=true
abbrev zCJ1_24:XRR->Nat:=fun x0=>x0.a.outs.length
abbrev zCJ1_25:XIK->Nat:=fun x0=>Int.toNat (↑x0.k:Int)
abbrev zCJ1_26:XRR->Prop:=fun x0=>FAlike x0.a x0.b=false/\True
abbrev zCJ1_3:Prop:=zCJ1_23->zCJ1_23
abbrev zCJ1_4:Prop->Prop:=fun p=>zCJ1_16 (zCJ1_16 p)
abbrev zCJ1_6:Prop->Prop:=fun p=>zCJ1_22/\zCJ1_22/\p
abbrev zCJ1_8:XIK->XRR->Prop->Prop:=fun x0 x1 p=>x0.i<zCJ1_24 x1/\FResHd x1.a x1.b/\FOutsEq x1.a.outs x1.b.outs x0.i/\p
abbrev zCJ1_9:XRR->XIK->LOut:=fun x0 x1=>x0.a.outs.getD x1.i zCJ1_2
abbrev zCJ1_10:XRR->XIK->LOut:=fun x0 x1=>x0.b.outs.getD x1.i zCJ1_2
abbrev zCJ1_13:XI->XRR->Prop:=fun x0 x1=>x0.i<=zCJ1_24 x1/\FResHd x1.a x1.b/\FOutsEq x1.a.outs x1.b.outs x0.i
abbrev zCJ1_14:XRR->Nat->LOut:=fun x0 x1=>x0.b.outs.getD x1 zCJ1_2
abbrev zCJ1_15:XRR->Nat->LOut:=fun x0 x1=>x0.a.outs.getD x1 zCJ1_2
abbrev zCJ1_17:XRR->XI->LOut:=fun x0 x1=>x0.a.outs.getD (zCJ1_7 x1) zCJ1_2
abbrev zCJ1_18:XRR->XI->LOut:=fun x0 x1=>x0.b.outs.getD (zCJ1_7 x1) zCJ1_2
abbrev zCJ1_21:Bool->Prop:=fun x0=>true=true->x0=false->zCJ1_5 x0
abbrev zCJ1_31:Bool->Prop:=fun x0=>zCJ1_5 x0->zCJ1_5 x0->zCJ1_5 x0
abbrev zCJ1_11:Prop->Prop:=fun p=>true=true/\zCJ1_3/\p
abbrev zCJ1_12:Prop->Prop:=fun p=>(zCJ1_23->zCJ1_3)/\(zCJ1_23->zCJ1_3)/\p
abbrev zCJ1_20:Bool->Prop->Prop:=fun x0 p=>zCJ1_31 x0/\zCJ1_31 x0/\p
abbrev zCJ1_27:XRR->Nat->Nat->LRow:=fun x0 x1 x2=>(zCJ1_14 x0 x1).rows.getD x2 (LRow.mk [] [])
abbrev zCJ1_28:XRR->Nat->Nat->LRow:=fun x0 x1 x2=>(zCJ1_15 x0 x1).rows.getD x2 (LRow.mk [] [])
abbrev zCJ1_29:XRR->XIK->Nat->LRow:=fun x0 x1 x2=>(zCJ1_10 x0 x1).rows.getD x2 (LRow.mk [] [])
abbrev zCJ1_30:XRR->XIK->Nat:=fun x0 x1=>(zCJ1_9 x0 x1).rows.length
abbrev zCJ1_32:XRR->XIK->Nat->LRow:=fun x0 x1 x2=>(zCJ1_9 x0 x1).rows.getD x2 (LRow.mk [] [])
abbrev zCJ1_33:XRR->XIK->Nat:=fun x0 x1=>(zCJ1_10 x0 x1).rows.length
abbrev zCJ1_0:XRR->Prop->Prop:=fun x0 p=>x0.a.abort=x0.a.abort/\x0.a.place=x0.a.place/\zCJ1_3/\zCJ1_24 x0=zCJ1_24 x0/\(∀(i:Nat),i<zCJ1_24 x0->(zCJ1_15 x0 i).has=(zCJ1_15 x0 i).has/\zCJ1_11 ((zCJ1_15 x0 i).value=(zCJ1_15 x0 i).value)/\zCJ1_11 ((zCJ1_15 x0 i).rows.length=(zCJ1_15 x0 i).rows.length/\2=2/\∀(i_1:Nat),i_1<(zCJ1_15 x0 i).rows.length->zCJ1_11 ((zCJ1_28 x0 i i_1).key=(zCJ1_28 x0 i i_1).key)/\zCJ1_11 ((zCJ1_28 x0 i i_1).value=(zCJ1_28 x0 i i_1).value)/\True)/\True)/\x0.b.abort=x0.b.abort/\x0.b.place=x0.b.place/\zCJ1_3/\x0.b.outs.length=x0.b.outs.length/\(∀(i:Nat),i<x0.b.outs.length->(zCJ1_14 x0 i).has=(zCJ1_14 x0 i).has/\zCJ1_11 ((zCJ1_14 x0 i).value=(zCJ1_14 x0 i).value)/\zCJ1_11 ((zCJ1_14 x0 i).rows.length=(zCJ1_14 x0 i).rows.length/\2=2/\∀(i_1:Nat),i_1<(zCJ1_14 x0 i).rows.length->zCJ1_11 ((zCJ1_27 x0 i i_1).key=(zCJ1_27 x0 i i_1).key)/\zCJ1_11 ((zCJ1_27 x0 i i_1).value=(zCJ1_27 x0 i i_1).value)/\True)/\True)/\p
abbrev zCJ1_1:Bool->Prop->Prop:=fun x0 p=>zCJ1_20 x0 (zCJ1_31 x0/\p)
abbrev zCJ1_19:XIK->XRR->Nat->Prop:=fun x0 x1 x2=>zCJ1_8 x0 x1 (x0.k<=zCJ1_30 x1 x0/\FOutHd (zCJ1_9 x1 x0) (zCJ1_10 x1 x0)/\FRowsEq (zCJ1_9 x1 x0).rows (zCJ1_10 x1 x0).rows x0.k)/\x2=x0.i
def nf_ref_Alike:Prop:=
 ∀(x:XRR),FSm x.a/\FSm x.b->∀(q:Bool),q= !decide (x.a.abort=x.b.abort)->zCJ1_1 q (zCJ1_31 q/\zCJ1_21 q/\∀(q_1:Bool),(q_1=bif q then true else !decide (x.a.place=x.b.place))->zCJ1_1 q_1 (zCJ1_1 q_1 (zCJ1_21 q_1/\Eng.ask (bif q_1 then true else !decide (Eq (α:=Int) (↑(zCJ1_24 x):Int) (↑x.b.outs.length:Int))) (zCJ1_26 x) ((∃(x_1:XI),zCJ1_13 x_1 x/\zCJ1_4 (zCJ1_16 ((↑x_1.i:Int)=(0:Int)/\zCJ1_0 x True)))/\True/\∀(x_1:XI),zCJ1_13 x_1 x->Eng.ask (decide (LT.lt (α:=Int) (↑x_1.i:Int) (↑(zCJ1_24 x):Int))) ((0:Int)<=(↑x_1.i:Int)/\zCJ1_7 x_1<zCJ1_24 x/\(0:Int)<=(↑x_1.i:Int)/\zCJ1_7 x_1<x.b.outs.length/\∀(q:Bool),q= !(zCJ1_17 x x_1).has==(zCJ1_18 x x_1).has->zCJ1_1 q (zCJ1_1 q (zCJ1_21 q/\∀(q_2:Bool),(q_2=bif q then true else !decide ((zCJ1_17 x x_1).value=(zCJ1_18 x x_1).value))->zCJ1_1 q_2 (zCJ1_1 q_2 (zCJ1_21 q_2/\Eng.ask (bif q_2 then true else !decide (Eq (α:=Int) (↑(zCJ1_17 x x_1).rows.length:Int) (↑(zCJ1_18 x x_1).rows.length:Int))) (zCJ1_26 x) (∃(r:Nat),(∃(x_2:XIK),zCJ1_19 x_2 x r/\zCJ1_4 (zCJ1_16 (Eq (α:=Int) (↑x_2.i:Int) (↑x_1.i:Int)/\zCJ1_4 (zCJ1_16 ((↑x_2.k:Int)=(0:Int)/\zCJ1_0 x ((zCJ1_9 x x_2).has=(zCJ1_17 x x_1).has/\zCJ1_3/\(zCJ1_9 x x_2).value=(zCJ1_17 x x_1).value/\zCJ1_3/\zCJ1_30 x x_2=(zCJ1_17 x x_1).rows.length/\(∀(i:Nat),i<zCJ1_30 x x_2->zCJ1_11 ((zCJ1_32 x x_2 i).key=((zCJ1_17 x x_1).rows.getD i (LRow.mk [] [])).key)/\zCJ1_11 ((zCJ1_32 x x_2 i).value=((zCJ1_17 x x_1).rows.getD i (LRow.mk [] [])).value)/\True)/\(zCJ1_10 x x_2).has=(zCJ1_18 x x_1).has/\zCJ1_3/\(zCJ1_10 x x_2).value=(zCJ1_18 x x_1).value/\zCJ1_3/\zCJ1_33 x x_2=(zCJ1_18 x x_1).rows.length/\(∀(i:Nat),i<zCJ1_33 x x_2->zCJ1_11 ((zCJ1_29 x x_2 i).key=((zCJ1_18 x x_1).rows.getD i (LRow.mk [] [])).key)/\zCJ1_11 ((zCJ1_29 x x_2 i).value=((zCJ1_18 x x_1).rows.getD i (LRow.mk [] [])).value)/\True)/\True))))))/\True/\∀(x_2:XIK),zCJ1_19 x_2 x r->Eng.ask (decide (LT.lt (α:=Int) (↑x_2.k:Int) (↑(zCJ1_30 x x_2):Int))) ((0:Int)<=(↑x_2.k:Int)/\zCJ1_25 x_2<zCJ1_30 x x_2/\(0:Int)<=(↑x_2.k:Int)/\zCJ1_25 x_2<zCJ1_33 x x_2/\∀(q:Bool),q= !decide (((zCJ1_9 x x_2).rows.getD (zCJ1_25 x_2) (LRow.mk [] [])).key=((zCJ1_10 x x_2).rows.getD (zCJ1_25 x_2) (LRow.mk [] [])).key)->zCJ1_1 q ((zCJ1_5 q->(0:Int)<=(↑x_2.k:Int))/\(zCJ1_5 q->zCJ1_25 x_2<zCJ1_30 x x_2)/\zCJ1_20 q (Eng.ask q (zCJ1_12 ((zCJ1_23->zCJ1_3)/\(zCJ1_23->(0:Int)<=(↑x_2.k:Int))/\(zCJ1_23->zCJ1_25 x_2<zCJ1_33 x x_2)/\zCJ1_12 ((zCJ1_23->zCJ1_3)/\false=false/\(true=true->true=false->zCJ1_23)/\zCJ1_26 x))) ((true=true->zCJ1_5 q)/\zCJ1_6 (zCJ1_22/\(true=true->(0:Int)<=(↑x_2.k:Int))/\(true=true->zCJ1_25 x_2<zCJ1_33 x x_2)/\zCJ1_6 (zCJ1_6 ((true=true->false=false->true=true)/\Eng.ask (bif false then true else !decide (((zCJ1_9 x x_2).rows.getD (zCJ1_25 x_2) (LRow.mk [] [])).value=((zCJ1_10 x x_2).rows.getD (zCJ1_25 x_2) (LRow.mk [] [])).value)) (zCJ1_26 x) (True/\True/\True/\∃(x':XIK),zCJ1_19 x' x r/\zCJ1_30 x x'-x'.k<zCJ1_30 x x_2-x_2.k/\zCJ1_4 (zCJ1_16 (Eq (α:=Int) (↑x'.i:Int) (↑x_2.i:Int)/\zCJ1_4 (zCJ1_16 ((↑x'.k:Int)=IntKind.i64.wrap ((↑x_2.k:Int)+(1:Int))/\zCJ1_0 x ((zCJ1_9 x x').has=(zCJ1_9 x x_2).has/\zCJ1_3/\(zCJ1_9 x x').value=(zCJ1_9 x x_2).value/\zCJ1_3/\zCJ1_30 x x'=zCJ1_30 x x_2/\(∀(i:Nat),i<zCJ1_30 x x'->zCJ1_11 ((zCJ1_32 x x' i).key=(zCJ1_32 x x_2 i).key)/\zCJ1_11 ((zCJ1_32 x x' i).value=(zCJ1_32 x x_2 i).value)/\True)/\(zCJ1_10 x x').has=(zCJ1_10 x x_2).has/\zCJ1_3/\(zCJ1_10 x x').value=(zCJ1_10 x x_2).value/\zCJ1_3/\zCJ1_33 x x'=zCJ1_33 x x_2/\(∀(i:Nat),i<zCJ1_33 x x'->zCJ1_11 ((zCJ1_29 x x' i).key=(zCJ1_29 x x_2 i).key)/\zCJ1_11 ((zCJ1_29 x x' i).value=(zCJ1_29 x x_2 i).value)/\True)/\True))))))))))))) (True/\True/\True/\∃(x':XI),zCJ1_13 x' x/\zCJ1_24 x-x'.i<zCJ1_24 x-x_1.i/\zCJ1_4 (zCJ1_16 ((↑x'.i:Int)=IntKind.i64.wrap ((↑x_2.i:Int)+(1:Int))/\zCJ1_0 x True))))))))) (FAlike x.a x.b=true/\True)))))
theorem eq_ref_Alike:vc_ref_Alike=nf_ref_Alike:=by kernel_rfl
theorem pf_ref_Alike:nf_ref_Alike:=by
 delta nf_ref_Alike zCJ1_2 zCJ1_5 zCJ1_7 zCJ1_16 zCJ1_22 zCJ1_23 zCJ1_24 zCJ1_25 zCJ1_26 zCJ1_3 zCJ1_4 zCJ1_6 zCJ1_8 zCJ1_9 zCJ1_10 zCJ1_13 zCJ1_14 zCJ1_15 zCJ1_17 zCJ1_18 zCJ1_21 zCJ1_31 zCJ1_11 zCJ1_12 zCJ1_20 zCJ1_27 zCJ1_28 zCJ1_29 zCJ1_30 zCJ1_32 zCJ1_33 zCJ1_0 zCJ1_1 zCJ1_19
 intro x0
 intro ⟨h1,h2⟩
 intro q3 hq3;subst hq3
 refine ⟨by (simp;done),by (simp;done),by (simp;done),by (simp;done),by (simp;done),?_⟩
 intro q4 hq4;subst hq4
 refine ⟨by (simp;done),by (simp;done),by (simp;done),by (simp;done),by (simp;done),by (simp;done),by (simp;done),?_⟩
 refine ask_p (bp_or (bp_or (bp_not bp_dec) (bp_not bp_dec)) (bp_not bp_dec)) ?_ ?_
 ·intro h5
  refine ⟨by (refine not_res fun hh=> ?_;obtain ⟨e1,e2,e3⟩:=hh;rcases h5 with (h5 | h5) | h5;exact h5 e1;exact h5 e2;exact h5 (by rw [e3])),?_⟩
  trivial
 intro h5
 refine ⟨?_,?_⟩
 ·refine ⟨⟨(((0:Int):Int)).toNat⟩,?_⟩
  try dsimp only
  refine ⟨?_,?_⟩
  ·refine ⟨by (simp_all [FOutHd];done),by (simp only [not_or,Classical.not_not] at h5;exact ⟨h5.1.1,h5.1.2,by omega⟩),?_⟩
   exact outs_zero
  refine ⟨by rfl,by rfl,by rfl,by rfl,by rfl,by rfl,by decide,by rfl,by rfl,by (simp;done),by rfl,by (simp;done),?_⟩
  refine ⟨by rfl,by rfl,by (simp;done),by rfl,by (simp;done),?_⟩
  trivial
 refine ⟨by trivial,?_⟩
 intro x6
 intro ⟨h7,⟨h8,h9⟩⟩
 refine ask_p bp_dec ?_ ?_
 ·intro h10
  refine ⟨by (simp_all [FOutHd];done),by (simp_all [FOutHd];omega),by (simp_all [FOutHd];done),by (simp_all [FOutHd];done),?_⟩
  intro q11 hq11;subst hq11
  refine ⟨by (simp;done),by (simp;done),by (simp;done),by (simp;done),by (simp;done),by (simp;done),by (simp;done),?_⟩
  intro q12 hq12;subst hq12
  refine ⟨?_,?_⟩
  ·intro h13
   intro h14
   (simp_all [FOutHd];done)
  refine ⟨?_,?_⟩
  ·intro h13
   intro h14
   (simp_all [FOutHd];done)
  refine ⟨?_,?_⟩
  ·intro h13
   intro h14
   (simp_all [FOutHd];done)
  refine ⟨?_,?_⟩
  ·intro h13
   intro h14
   (simp_all [FOutHd];done)
  refine ⟨?_,?_⟩
  ·intro h13
   intro h14
   (simp_all [FOutHd];done)
  refine ⟨?_,?_⟩
  ·intro h13
   intro h14
   (simp_all [FOutHd];done)
  refine ⟨by (simp;done),?_⟩
  refine ask_p (bp_or (bp_or (bp_not bp_id) (bp_not bp_dec)) (bp_not bp_dec)) ?_ ?_
  ·intro h13
   refine ⟨by (refine not_out (i:=x6.i) fun hh=> ?_;obtain ⟨e1,e2,e3⟩:=hh;simp_all;done),?_⟩
   trivial
  intro h13
  refine ⟨x6.i,?_⟩
  try dsimp only
  refine ⟨?_,?_⟩
  ·refine ⟨⟨(x6.i),(((0:Int):Int)).toNat⟩,?_⟩
   try dsimp only
   refine ⟨?_,?_⟩
   ·refine ⟨?_,?_⟩
    ·refine ⟨by (simp_all [FOutHd];omega),by (simp only [not_or,Classical.not_not] at h5;exact ⟨h5.1.1,h5.1.2,by omega⟩),by (simp_all [FOutHd];done),by (simp_all [FOutHd];done),by (simp_all [FOutHd];omega),?_⟩
     exact rows_zero
    rfl
   refine ⟨by rfl,by rfl,by rfl,by rfl,by rfl,by rfl,by rfl,by rfl,by rfl,by rfl,by rfl,by rfl,?_⟩
   refine ⟨by rfl,by decide,by rfl,by rfl,by (simp;done),by rfl,by (simp;done),by rfl,by rfl,by (simp;done),by rfl,by (simp;done),?_⟩
   refine ⟨by (simp_all [FOutHd];done),by (simp;done),by (simp_all [FOutHd];done),by (simp;done),by (simp_all [FOutHd];done),by (simp;done),by (simp_all [FOutHd];done),by (simp;done),by (simp_all [FOutHd];done),by (simp;done),by (simp_all [FOutHd];done),by (simp;done),?_⟩
   trivial
  refine ⟨by trivial,?_⟩
  intro x14
  intro ⟨⟨h15,⟨h16,⟨h17,⟨h18,⟨h19,h20⟩⟩⟩⟩⟩,h21⟩
  refine ask_p bp_dec ?_ ?_
  ·intro h22
   refine ⟨by (simp_all [FOutHd];done),by (simp_all [FOutHd];done),by (simp_all [FOutHd];done),by (simp_all [FOutHd];done),?_⟩
   intro q23 hq23;subst hq23
   refine ⟨?_,?_⟩
   ·intro h24
    intro h25
    (simp_all [FOutHd];done)
   refine ⟨?_,?_⟩
   ·intro h24
    intro h25
    (simp_all [FOutHd];done)
   refine ⟨?_,?_⟩
   ·intro h24
    intro h25
    (simp_all [FOutHd];done)
   refine ⟨by (simp;done),?_⟩
   refine ⟨?_,?_⟩
   ·intro h24
    (simp_all [FOutHd];done)
   refine ⟨?_,?_⟩
   ·intro h24
    intro h25
    (simp_all [FOutHd];done)
   refine ⟨?_,?_⟩
   ·intro h24
    intro h25
    (simp_all [FOutHd];done)
   refine ask_p (bp_not bp_dec) ?_ ?_
   ·intro h24
    refine ⟨by (simp;done),by (simp;done),by (simp;done),by (simp;done),by (simp;done),by (simp;done),by (simp;done),by (simp;done),by rfl,by (simp;done),by exact no_key ‹_›,?_⟩
    trivial
   intro h24
   refine ⟨?_,?_⟩
   ·intro h25
    (simp_all [FOutHd];done)
   refine ⟨by (simp;done),by (simp;done),by (simp;done),by (simp;done),?_⟩
   refine ⟨?_,?_⟩
   ·intro h25
    (simp_all [FOutHd];done)
   refine ⟨by (simp;done),by (simp;done),by (simp;done),by (simp;done),by (simp;done),?_⟩
   refine ask_p (bp_orfl bp_false (bp_not bp_dec)) ?_ ?_
   ·intro h25
    refine ⟨by exact no_val ‹_›,?_⟩
    trivial
   intro h25
   refine ⟨by trivial,by trivial,by trivial,?_⟩
   refine ⟨⟨(x14.i),((IntKind.i64.wrap ((↑x14.k:Int)+(1:Int)):Int)).toNat⟩,?_⟩
   try dsimp only
   refine ⟨?_,?_⟩
   ·refine ⟨?_,?_⟩
    ·refine ⟨by (simp_all [FOutHd];done),by (simp only [not_or,Classical.not_not] at h5;exact ⟨h5.1.1,h5.1.2,by omega⟩),by (simp_all [FOutHd];done),by exact k_le (h1.2 x14.i h15).1 h22,by (simp_all [FOutHd];done),?_⟩
     exact k_P (P:=FRowsEq _ _) (h1.2 x14.i h15).1 h22 (rows_next h20 (Classical.not_not.1 ‹_›) (Classical.not_not.1 ‹_›))
    (simp_all [FOutHd];done)
   refine ⟨by exact k_mu (h1.2 x14.i h15).1 h22,by rfl,by rfl,by rfl,by rfl,by rfl,by rfl,by rfl,by rfl,by rfl,by rfl,by rfl,?_⟩
   refine ⟨by rfl,by rfl,by exact k_eq (h1.2 x14.i h15).1 h22,by rfl,by rfl,by (simp;done),by rfl,by (simp;done),by rfl,by rfl,by (simp;done),by rfl,?_⟩
   refine ⟨by (simp;done),by rfl,by (simp;done),by rfl,by (simp;done),by rfl,by (simp;done),by rfl,by (simp;done),by rfl,by (simp;done),by rfl,?_⟩
   refine ⟨by (simp;done),?_⟩
   trivial
  intro h22
  refine ⟨by trivial,by trivial,by trivial,?_⟩
  refine ⟨⟨((IntKind.i64.wrap ((↑x14.i:Int)+(1:Int)):Int)).toNat⟩,?_⟩
  try dsimp only
  refine ⟨?_,?_⟩
  ·refine ⟨by exact k_le (k:=x14.i) h1.1 (Int.ofNat_lt.2 h15),by (simp only [not_or,Classical.not_not] at h5;exact ⟨h5.1.1,h5.1.2,by omega⟩),?_⟩
   exact k_P (k:=x14.i) (P:=FOutsEq _ _) h1.1 (Int.ofNat_lt.2 h15) (outs_next h17 h19 ‹_› h20)
  refine ⟨by (rw [h21];exact k_mu (k:=x14.i) h1.1 (Int.ofNat_lt.2 h15)),by rfl,by rfl,by rfl,by rfl,by rfl,by rfl,by exact k_eq (k:=x14.i) h1.1 (Int.ofNat_lt.2 h15),by rfl,by rfl,by (simp;done),by rfl,?_⟩
  refine ⟨by (simp;done),by rfl,by rfl,by (simp;done),by rfl,by (simp;done),?_⟩
  trivial
 intro h10
 refine ⟨by exact outs_end ‹_› ‹_› ‹_›,?_⟩
 trivial
end Go.Proofs
