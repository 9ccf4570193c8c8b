import Derived.Test.YtoajkmdddjnebaaGreatDoorCallsOneCM
set_option linter.unusedSimpArgs false
set_option linter.unusedVariables false
namespace Go.Proofs
open Go.Eng
set_option maxRecDepth 100000
abbrev zCMa0:Bool->Prop:=fun x0=>(bif false then x0 else !x0)=true
abbrev zCMa1:XI->List UInt8->Prop:=fun x0 x1=>x0.i<=x1.length/\1<=x1.length/\x1.length<=16/\FTcs x1 x0.i
abbrev zCMa2:List UInt8->XI->Int:=fun x0 x1=>(↑(x0.getD (0+Int.toNat (↑x1.i:Int)) (0:UInt8)).toNat:Int)
abbrev zCMa3:List UInt8->Prop->Prop:=fun x0 p=>0=0/\x0.length=x0.length/\x0.length=x0.length/\true=true/\Eq (α:=Int) (↑x0.length:Int) (↑x0.length:Int)/\p
abbrev zCMa4:Bool->Prop:=fun x0=>x0=true->x0=true->x0=true
abbrev zCMa5:Bool->Bool->Prop:=fun x0 x1=>((bif false then x0 else !x0)&&x1)=true
abbrev zCMa6:Bool->Prop->Prop:=fun x0 p=>(zCMa0 x0->zCMa0 x0->zCMa0 x0)/\(true=true->x0=false->zCMa0 x0)/\p
def nf_names_Table:Prop:=
 ∀(x:List UInt8),x.length<1099511627776->∀(q:Bool),q=decide ((↑x.length:Int)<(1:Int))->(zCMa0 q->zCMa0 q->zCMa0 q)/\zCMa6 q (Eng.ask (bif q then true else decide ((16:Int)<(↑x.length:Int))) (FTable x=false/\True) (x.length<1099511627776/\(∃(x_1:XI),zCMa1 x_1 x/\zCMa3 x ((↑x_1.i:Int)=(0:Int)/\x=x/\True))/\True/\∀(x_1:XI),zCMa1 x_1 x->Eng.ask (decide (LT.lt (α:=Int) (↑x_1.i:Int) (↑x.length:Int))) ((0:Int)<=(↑x_1.i:Int)/\Int.toNat (↑x_1.i:Int)<x.length/\0+Int.toNat (↑x_1.i:Int)<x.length/\∀(q:Bool),q=decide (zCMa2 x x_1<(97:Int))->zCMa6 q (∀(q_1:Bool),(q_1=bif q then true else decide ((122:Int)<zCMa2 x x_1))->zCMa4 q_1/\zCMa4 q_1/\∀(q:Bool),q=decide (zCMa2 x x_1<(48:Int))->(zCMa5 q q_1->zCMa5 q q_1->zCMa5 q q_1)/\zCMa4 q_1/\(q_1=true->q_1=true->q=false->zCMa5 q q_1)/\(true=true->q_1=true->q_1=true)/\Eng.ask (bif q_1 then bif q then true else decide ((57:Int)<zCMa2 x x_1) else false) (FTable x=false/\True) (True/\True/\True/\∃(x':XI),zCMa1 x' x/\x.length-x'.i<x.length-x_1.i/\zCMa3 x ((↑x'.i:Int)=IntKind.i64.wrap ((↑x_1.i:Int)+(1:Int))/\x=x/\True)))) (FTable x=true/\True)))
theorem eq_names_Table:vc_names_Table=nf_names_Table:=by kernel_rfl
theorem pf_names_Table:nf_names_Table:=by
 delta nf_names_Table zCMa0 zCMa1 zCMa2 zCMa3 zCMa4 zCMa5 zCMa6
 intro x0
 intro h1
 intro q2 hq2;subst hq2
 refine ⟨by (simp;done),by (simp;done),by (simp;done), ?_⟩
 refine ask_p (bp_or bp_dec bp_dec) ?_ ?_
 ·intro h3
  refine ⟨by exact tab_short ‹_›, ?_⟩
  trivial
 intro h3
 refine ⟨by omega, ?_⟩
 refine ⟨?_, ?_⟩
 ·refine ⟨⟨(((0:Int):Int)).toNat⟩, ?_⟩
  try dsimp only
  refine ⟨?_, ?_⟩
  ·refine ⟨by omega,by omega,by omega, ?_⟩
   exact tcs_zero
  refine ⟨by rfl,by rfl,by rfl,by rfl,by rfl,by decide,by rfl, ?_⟩
  trivial
 refine ⟨by trivial, ?_⟩
 intro x4
 intro ⟨h5,⟨h6,⟨h7,h8⟩⟩⟩
 refine ask_p bp_dec ?_ ?_
 ·intro h9
  refine ⟨by omega,by omega,by omega, ?_⟩
  intro q10 hq10;subst hq10
  refine ⟨?_, ?_⟩
  ·intro h11
   intro h12
   omega
  refine ⟨by (simp;done), ?_⟩
  intro q11 hq11;subst hq11
  refine ⟨?_, ?_⟩
  ·intro h12
   intro h13
   omega
  refine ⟨?_, ?_⟩
  ·intro h12
   intro h13
   omega
  intro q12 hq12;subst hq12
  refine ⟨?_, ?_⟩
  ·intro h13
   intro h14
   omega
  refine ⟨?_, ?_⟩
  ·intro h13
   intro h14
   omega
  refine ⟨?_, ?_⟩
  ·intro h13
   intro h14
   intro h15
   grind
  refine ⟨by (simp;done), ?_⟩
  refine ask_p (bp_and (bp_or bp_dec bp_dec) (bp_or bp_dec bp_dec)) ?_ ?_
  ·intro ⟨h13,h14⟩
   refine ⟨by exact tab_bad (i:=x4.i) (by omega) (tc_no (by simpa using h13) (by simpa using h14)), ?_⟩
   trivial
  intro h13
  refine ⟨by trivial,by trivial,by trivial, ?_⟩
  refine ⟨⟨((IntKind.i64.wrap ((↑x4.i:Int)+(1:Int)):Int)).toNat⟩, ?_⟩
  try dsimp only
  refine ⟨?_, ?_⟩
  ·refine ⟨by (rw [wrap_succ _ (by omega)];omega),by omega,by omega, ?_⟩
   (have:=tcs_step h8 (tc_yes (by simpa using h13));rw [wrap_succ _ (by omega),Int.toNat_natCast];exact this)
  refine ⟨by (rw [wrap_succ _ (by omega)];omega),by rfl,by rfl,by rfl,by rfl,by rfl,by (rw [wrap_succ _ (by omega)];omega),by rfl, ?_⟩
  trivial
 intro h9
 refine ⟨by exact tab_true ‹_› ‹_› ‹_› ‹_›, ?_⟩
 trivial
abbrev zCMb0:Bool->Bool:=fun x0=>bif false then x0 else !x0
abbrev zCMb1:Bool->Prop:=fun x0=>x0=true->x0=true->x0=true
abbrev zCMb2:List UInt8->XI->Int:=fun x0 x1=>(↑(x0.getD (Int.toNat (↑x1.i:Int)) (0:UInt8)).toNat:Int)
abbrev zCMb5:XI->List UInt8->Prop:=fun x0 x1=>Int.toNat (↑x0.i:Int)<x1.length
abbrev zCMb4:Bool->Bool->Prop:=fun x0 x1=>(x0&&zCMb0 x1)=true
abbrev zCMb6:Bool->Prop:=fun x0=>zCMb0 x0=true
abbrev zCMb3:Bool->Prop:=fun x0=>zCMb6 x0->zCMb6 x0->zCMb6 x0
def nf_ref05_Table:Prop:=
 ∀(x:List UInt8),x.length<1099511627776->(∃(x_1:XI),(x_1.i<=x.length/\FTcs x x_1.i)/\x=x/\(↑x_1.i:Int)=(0:Int)/\True)/\True/\∀(x_1:XI),x_1.i<=x.length/\FTcs x x_1.i->Eng.ask (decide (LT.lt (α:=Int) (↑x_1.i:Int) (↑x.length:Int))) ((0:Int)<=(↑x_1.i:Int)/\zCMb5 x_1 x/\∀(q:Bool),q=decide ((97:Int)<=zCMb2 x x_1)->zCMb1 q/\zCMb1 q/\(q=true->(0:Int)<=(↑x_1.i:Int))/\(q=true->zCMb5 x_1 x)/\zCMb1 q/\(true=true->q=true->q=true)/\∀(q_1:Bool),(q_1=bif q then decide (zCMb2 x x_1<=(122:Int)) else false)->zCMb3 q_1/\zCMb3 q_1/\(zCMb6 q_1->(0:Int)<=(↑x_1.i:Int))/\(zCMb6 q_1->zCMb5 x_1 x)/\zCMb3 q_1/\zCMb3 q_1/\∀(q:Bool),q=decide ((48:Int)<=zCMb2 x x_1)->(zCMb4 q q_1->zCMb4 q q_1->zCMb4 q q_1)/\(zCMb4 q q_1->zCMb4 q q_1->zCMb4 q q_1)/\(zCMb4 q q_1->(0:Int)<=(↑x_1.i:Int))/\(zCMb4 q q_1->zCMb5 x_1 x)/\(zCMb4 q q_1->zCMb4 q q_1->zCMb4 q q_1)/\zCMb3 q_1/\(zCMb6 q_1->zCMb6 q_1->q=true->zCMb4 q q_1)/\(true=true->q_1=false->zCMb6 q_1)/\Eng.ask (!bif q_1 then true else bif q then decide (zCMb2 x x_1<=(57:Int)) else false) (FTable x=false/\True) (True/\True/\True/\∃(x':XI),(x'.i<=x.length/\FTcs x x'.i)/\x.length-x'.i<x.length-x_1.i/\x=x/\(↑x'.i:Int)=IntKind.i64.wrap ((↑x_1.i:Int)+(1:Int))/\True)) (∀(q:Bool),q=decide ((1:Int)<=(↑x.length:Int))->zCMb1 q/\zCMb1 q/\(true=true->q=true->q=true)/\(FTable x=bif q then decide ((↑x.length:Int)<=(16:Int)) else false)/\True)
theorem eq_ref05_Table:vc_ref05_Table=nf_ref05_Table:=by kernel_rfl
theorem pf_ref05_Table:nf_ref05_Table:=by
 delta nf_ref05_Table zCMb0 zCMb1 zCMb2 zCMb5 zCMb4 zCMb6 zCMb3
 intro x0
 intro h1
 refine ⟨?_, ?_⟩
 ·refine ⟨⟨(((0:Int):Int)).toNat⟩, ?_⟩
  try dsimp only
  refine ⟨?_, ?_⟩
  ·refine ⟨by omega, ?_⟩
   exact tcs_zero
  refine ⟨by rfl,by decide, ?_⟩
  trivial
 refine ⟨by trivial, ?_⟩
 intro x2
 intro ⟨h3,h4⟩
 refine ask_p bp_dec ?_ ?_
 ·intro h5
  refine ⟨by omega,by omega, ?_⟩
  intro q6 hq6;subst hq6
  refine ⟨by (simp;done),by (simp;done),by (simp;done), ?_⟩
  refine ⟨?_, ?_⟩
  ·intro h7
   omega
  refine ⟨by (simp;done),by (simp;done), ?_⟩
  intro q7 hq7;subst hq7
  refine ⟨?_, ?_⟩
  ·intro h8
   intro h9
   omega
  refine ⟨?_, ?_⟩
  ·intro h8
   intro h9
   omega
  refine ⟨by (simp;done), ?_⟩
  refine ⟨?_, ?_⟩
  ·intro h8
   omega
  refine ⟨?_, ?_⟩
  ·intro h8
   intro h9
   omega
  refine ⟨?_, ?_⟩
  ·intro h8
   intro h9
   omega
  intro q8 hq8;subst hq8
  refine ⟨?_, ?_⟩
  ·intro h9
   intro h10
   omega
  refine ⟨?_, ?_⟩
  ·intro h9
   intro h10
   omega
  refine ⟨by (simp;done), ?_⟩
  refine ⟨?_, ?_⟩
  ·intro h9
   omega
  refine ⟨?_, ?_⟩
  ·intro h9
   intro h10
   omega
  refine ⟨?_, ?_⟩
  ·intro h9
   intro h10
   omega
  refine ⟨?_, ?_⟩
  ·intro h9
   intro h10
   intro h11
   grind
  refine ⟨?_, ?_⟩
  ·intro h9
   intro h10
   grind
  refine ask_p (bp_not (bp_or (bp_and bp_dec bp_dec) (bp_and bp_dec bp_dec))) ?_ ?_
  ·intro h9
   refine ⟨by exact tab_bad (i:=x2.i) (by omega) (tc_no2 h9), ?_⟩
   trivial
  intro h9
  refine ⟨by trivial,by trivial,by trivial, ?_⟩
  refine ⟨⟨((IntKind.i64.wrap ((↑x2.i:Int)+(1:Int)):Int)).toNat⟩, ?_⟩
  try dsimp only
  refine ⟨?_, ?_⟩
  ·refine ⟨by (rw [wrap_succ _ (by omega)];omega), ?_⟩
   (have:=tcs_step h4 (tc_yes2 h9);rw [wrap_succ _ (by omega),Int.toNat_natCast];exact this)
  refine ⟨by (rw [wrap_succ _ (by omega)];omega),by rfl,by (rw [wrap_succ _ (by omega)];omega), ?_⟩
  trivial
 intro h5
 intro q6 hq6;subst hq6
 refine ⟨by (simp;done),by (simp;done),by (simp;done),by exact tab_end ‹_› ‹_›, ?_⟩
 trivial
abbrev zCMc6:Bool->Prop:=fun x0=>x0=true->x0=true
abbrev zCMc8:Bool->Bool:=fun x0=>bif x0 then decide ((0:Int)=(0:Int)) else false
abbrev zCMc9:Bool->Bool->Prop:=fun x0 x1=>((bif false then x0 else !x0)&&x1)=true
abbrev zCMc14:Bool->LOp->Bool:=fun x0 x1=>bif x0 then decide ((↑x1.value.length:Int)=(0:Int)) else false
abbrev zCMc15:LOp->Bool:=fun x0=>decide ((↑x0.old.length:Int)=(0:Int))
abbrev zCMc18:List UInt8->Prop->Prop:=fun x0 p=>x0.length<1099511627776/\(false=true->false=true)/\p
abbrev zCMc20:Bool->Prop:=fun x0=>true=true->x0=true
abbrev zCMc22:List UInt8->LOp->Prop->Prop:=fun x0 x1 p=>x0.length<1099511627776/\x0=x1.table/\True/\p
abbrev zCMc16:Bool->Bool->Prop->Prop:=fun x0 x1 p=>(zCMc9 x0 x1->zCMc9 x0 x1->zCMc9 x0 x1)/\(zCMc9 x0 x1->zCMc9 x0 x1->zCMc9 x0 x1)/\p
abbrev zCMc17:Bool->Prop:=fun x0=>x0=true->zCMc6 x0
abbrev zCMc19:Bool->Prop:=fun x0=>true=true->zCMc6 x0
abbrev zCMc0:Bool->Prop->Prop:=fun x0 p=>zCMc17 x0/\zCMc17 x0/\p
abbrev zCMc3:Bool->Prop->Prop:=fun x0 p=>zCMc17 x0/\zCMc19 x0/\p
abbrev zCMc10:Bool->LOp->Prop:=fun x0 x1=>zCMc0 x0 (zCMc3 x0 (∀(q:Bool),q=zCMc14 x0 x1->zCMc0 q (zCMc19 q/\∀(q_1:Bool),(q_1=bif q then !x1.has else false)->zCMc0 q_1 (zCMc3 q_1 (∀(q:Bool),(q=bif q_1 then zCMc15 x1 else false)->zCMc0 q (zCMc3 q (∀(q_2:Bool),q_2=zCMc8 q->zCMc0 q_2 (zCMc19 q_2/\FMayOp x1=zCMc8 q_2/\True))))))))
abbrev zCMc12:Bool->LOp->Prop:=fun x0 x1=>zCMc0 x0 (zCMc3 x0 (∀(q:Bool),(q=bif x0 then decide ((↑x1.to.length:Int)=(0:Int)) else false)->zCMc0 q (zCMc19 q/\(FMayOp x1=bif q then decide (x1.most=(0:Int)) else false)/\True)))
abbrev zCMc2:Bool->LOp->Prop:=fun x0 x1=>zCMc0 x0 (zCMc19 x0/\∀(q:Bool),(q=bif x0 then !x1.has else false)->zCMc0 q (zCMc3 q (∀(q_1:Bool),(q_1=bif q then zCMc15 x1 else false)->zCMc12 q_1 x1)))
abbrev zCMc21:Bool->LOp->Prop:=fun x0 x1=>∀(q:Bool),(q=bif x0 then true else false)->zCMc0 q (zCMc3 q (∀(q_1:Bool),q_1=zCMc8 q->zCMc12 q_1 x1))
abbrev zCMc1:Bool->LOp->Prop:=fun x0 x1=>zCMc0 x0 (∀(q:Bool),q=x1.has->zCMc16 q x0 ((zCMc9 q x0->zCMc9 q x0->zCMc9 q x0)/\zCMc17 x0/\(x0=true->x0=true->q=false->zCMc9 q x0)/\zCMc19 x0/\∀(q_1:Bool),(q_1=bif x0 then bif q then true else zCMc15 x1 else false)->∀(q:Bool),q=q_1->zCMc17 q/\Eng.ask q (zCMc20 q/\∃(x:List UInt8),zCMc22 x x1 (∀(q:Bool),(q=bif true then FTable x else false)->zCMc0 q (zCMc3 q (∀(q_2:Bool),q_2=zCMc8 q->zCMc0 q_2 (zCMc19 q_2/\zCMc21 q_2 x1))))) (∀(q:Bool),q=false->zCMc0 q (zCMc3 q (∀(q_2:Bool),q_2=zCMc8 q->zCMc0 q_2 (zCMc19 q_2/\zCMc21 q_2 x1))))))
abbrev zCMc5:Bool->LOp->Prop:=fun x0 x1=>∀(q:Bool),q=x0->zCMc17 q/\Eng.ask q (zCMc20 q/\∃(x:List UInt8),zCMc22 x x1 (∀(q:Bool),(q=bif true then FTable x else false)->zCMc0 q (zCMc3 q (∀(q_1:Bool),q_1=zCMc8 q->zCMc2 q_1 x1)))) (∀(q:Bool),q=false->zCMc0 q (zCMc3 q (∀(q_1:Bool),q_1=zCMc8 q->zCMc2 q_1 x1)))
abbrev zCMc7:Bool->LOp->Prop:=fun x0 x1=>Eng.ask x0 (zCMc20 x0/\∃(x:List UInt8),zCMc22 x x1 (∀(q:Bool),(q=bif true then FTable x else false)->zCMc0 q (zCMc3 q (∀(q_1:Bool),q_1=zCMc14 q x1->zCMc2 q_1 x1)))) (∀(q:Bool),q=false->zCMc0 q (zCMc3 q (∀(q_1:Bool),q_1=zCMc14 q x1->zCMc2 q_1 x1)))
abbrev zCMc13:Bool->LOp->Prop:=fun x0 x1=>zCMc17 x0/\Eng.ask x0 (zCMc20 x0/\∃(x:List UInt8),zCMc18 x (x=x1.old/\True/\∀(q:Bool),(q=bif true then FValue x else false)->zCMc1 q x1)) (∀(q:Bool),q=false->zCMc1 q x1)
abbrev zCMc4:LOp->List UInt8->Prop:=fun x0 x1=>Eng.ask (decide (x0.kind=(4:Int))) (∀(q:Bool),q=FKey x1->∀(q_1:Bool),q_1=q->zCMc17 q_1/\Eng.ask q_1 (zCMc20 q_1/\∃(x:List UInt8),zCMc18 x (x=x0.value/\True/\∀(q:Bool),(q=bif true then FValue x else false)->zCMc13 q x0)) (∀(q:Bool),q=false->zCMc13 q x0)) (Eng.ask (decide (x0.kind=(5:Int))) (∀(q:Bool),q=decide ((↑x0.key.length:Int)<=(64:Int))->zCMc0 q (zCMc3 q (∀(q_1:Bool),(q_1=bif q then decide ((↑x0.to.length:Int)<=(64:Int)) else false)->zCMc0 q_1 (zCMc19 q_1/\∀(q:Bool),(q=bif q_1 then decide ((1:Int)<=x0.most) else false)->zCMc0 q (zCMc19 q/\∀(q_2:Bool),(q_2=bif q then decide (x0.most<=(64:Int)) else false)->∀(q:Bool),q=q_2->zCMc17 q/\Eng.ask q (zCMc20 q/\∃(x:List UInt8),zCMc22 x x0 (∀(q:Bool),(q=bif true then FTable x else false)->zCMc10 q x0)) (∀(q:Bool),q=false->zCMc10 q x0)))))) (FMayOp x0=false/\True))
abbrev zCMc11:LOp->List UInt8->Prop:=fun x0 x1=>Eng.ask (decide (x0.kind=(2:Int))) (∀(q:Bool),q=FKey x1->∀(q_1:Bool),q_1=q->zCMc17 q_1/\Eng.ask q_1 (zCMc20 q_1/\∃(x:List UInt8),zCMc18 x (x=x0.value/\True/\∀(q:Bool),(q=bif true then FValue x else false)->zCMc5 q x0)) (∀(q:Bool),q=false->zCMc5 q x0)) (zCMc4 x0 x1)
def nf_mayOp:Prop:=
 ∀(x:LOp),FSmOp x->∃(x_1:List UInt8),zCMc18 x_1 (x_1=x.key/\True/\Eng.ask (decide (x.kind=(1:Int))) (Eng.ask (decide (x.kind=(1:Int))) (∀(q:Bool),q=FKey x_1->∀(q_1:Bool),q_1=q->zCMc17 q_1/\zCMc7 q_1 x) (zCMc11 x x_1)) (Eng.ask (decide (x.kind=(3:Int))) (∀(q:Bool),q=FKey x_1->∀(q_1:Bool),q_1=q->zCMc17 q_1/\zCMc7 q_1 x) (zCMc11 x x_1)))
theorem eq_mayOp:vc_mayOp=nf_mayOp:=by kernel_rfl
theorem pf_mayOp:nf_mayOp:=by
 delta nf_mayOp zCMc6 zCMc8 zCMc9 zCMc14 zCMc15 zCMc18 zCMc20 zCMc22 zCMc16 zCMc17 zCMc19 zCMc0 zCMc3 zCMc10 zCMc12 zCMc2 zCMc21 zCMc1 zCMc5 zCMc7 zCMc13 zCMc4 zCMc11
 intro x0
 intro h1
 refine ⟨(x0.key), ?_⟩
 try dsimp only
 refine ⟨by (obtain ⟨e1,e2,e3,e4,e5⟩:=h1;omega),by (simp;done),by rfl,by trivial, ?_⟩
 refine ask_p bp_dec ?_ ?_
 ·intro h2
  refine ask_p bp_dec ?_ ?_
  ·intro h3
   intro q4 hq4;subst hq4
   intro q5 hq5;subst hq5
   refine ⟨by (simp;done), ?_⟩
   refine ask_p bp_id ?_ ?_
   ·intro h6
    refine ⟨?_, ?_⟩
    ·intro h7
     (obtain ⟨e1,e2,e3,e4,e5⟩:=h1;omega)
    refine ⟨(x0.table), ?_⟩
    try dsimp only
    refine ⟨by (obtain ⟨e1,e2,e3,e4,e5⟩:=h1;omega),by rfl,by trivial, ?_⟩
    intro q7 hq7;subst hq7
    refine ⟨by (simp;done),by (simp;done),by (simp;done),by (simp;done), ?_⟩
    intro q8 hq8;subst hq8
    refine ⟨by (simp;done),by (simp;done),by (simp;done), ?_⟩
    intro q9 hq9;subst hq9
    refine ⟨by (simp;done),by (simp;done),by (simp;done),by (simp;done), ?_⟩
    intro q10 hq10;subst hq10
    refine ⟨by (simp;done),by (simp;done),by (simp;done),by (simp;done), ?_⟩
    intro q11 hq11;subst hq11
    refine ⟨by (simp;done),by (simp;done),by (simp;done),by (clear h1;rw [Bool.eq_iff_iff];simp_all [FMayOp];grind), ?_⟩
    trivial
   intro h6
   intro q7 hq7;subst hq7
   refine ⟨by (simp;done),by (simp;done),by (simp;done),by (simp;done), ?_⟩
   intro q8 hq8;subst hq8
   refine ⟨by (simp;done),by (simp;done),by (simp;done), ?_⟩
   intro q9 hq9;subst hq9
   refine ⟨by (simp;done),by (simp;done),by (simp;done),by (simp;done), ?_⟩
   intro q10 hq10;subst hq10
   refine ⟨by (simp;done),by (simp;done),by (simp;done),by (simp;done), ?_⟩
   intro q11 hq11;subst hq11
   refine ⟨by (simp;done),by (simp;done),by (simp;done),by (clear h1;simp_all [FMayOp];done), ?_⟩
   trivial
  intro h3
  exfalso;omega
 intro h2
 refine ask_p bp_dec ?_ ?_
 ·intro h3
  intro q4 hq4;subst hq4
  intro q5 hq5;subst hq5
  refine ⟨by (simp;done), ?_⟩
  refine ask_p bp_id ?_ ?_
  ·intro h6
   refine ⟨?_, ?_⟩
   ·intro h7
    (obtain ⟨e1,e2,e3,e4,e5⟩:=h1;omega)
   refine ⟨(x0.table), ?_⟩
   try dsimp only
   refine ⟨by (obtain ⟨e1,e2,e3,e4,e5⟩:=h1;omega),by rfl,by trivial, ?_⟩
   intro q7 hq7;subst hq7
   refine ⟨by (simp;done),by (simp;done),by (simp;done),by (simp;done), ?_⟩
   intro q8 hq8;subst hq8
   refine ⟨by (simp;done),by (simp;done),by (simp;done), ?_⟩
   intro q9 hq9;subst hq9
   refine ⟨by (simp;done),by (simp;done),by (simp;done),by (simp;done), ?_⟩
   intro q10 hq10;subst hq10
   refine ⟨by (simp;done),by (simp;done),by (simp;done),by (simp;done), ?_⟩
   intro q11 hq11;subst hq11
   refine ⟨by (simp;done),by (simp;done),by (simp;done),by (clear h1;rw [Bool.eq_iff_iff];simp_all [FMayOp];grind), ?_⟩
   trivial
  intro h6
  intro q7 hq7;subst hq7
  refine ⟨by (simp;done),by (simp;done),by (simp;done),by (simp;done), ?_⟩
  intro q8 hq8;subst hq8
  refine ⟨by (simp;done),by (simp;done),by (simp;done), ?_⟩
  intro q9 hq9;subst hq9
  refine ⟨by (simp;done),by (simp;done),by (simp;done),by (simp;done), ?_⟩
  intro q10 hq10;subst hq10
  refine ⟨by (simp;done),by (simp;done),by (simp;done),by (simp;done), ?_⟩
  intro q11 hq11;subst hq11
  refine ⟨by (simp;done),by (simp;done),by (simp;done),by (clear h1;simp_all [FMayOp];done), ?_⟩
  trivial
 intro h3
 refine ask_p bp_dec ?_ ?_
 ·intro h4
  intro q5 hq5;subst hq5
  intro q6 hq6;subst hq6
  refine ⟨by (simp;done), ?_⟩
  refine ask_p bp_id ?_ ?_
  ·intro h7
   refine ⟨?_, ?_⟩
   ·intro h8
    (obtain ⟨e1,e2,e3,e4,e5⟩:=h1;omega)
   refine ⟨(x0.value), ?_⟩
   try dsimp only
   refine ⟨by (obtain ⟨e1,e2,e3,e4,e5⟩:=h1;omega),by (simp;done),by rfl,by trivial, ?_⟩
   intro q8 hq8;subst hq8
   intro q9 hq9;subst hq9
   refine ⟨by (simp;done), ?_⟩
   refine ask_p (bp_andl bp_true bp_id) ?_ ?_
   ·intro h10
    refine ⟨?_, ?_⟩
    ·intro h11
     (clear h1;simp_all [FMayOp];done)
    refine ⟨(x0.table), ?_⟩
    try dsimp only
    refine ⟨by (obtain ⟨e1,e2,e3,e4,e5⟩:=h1;omega),by rfl,by trivial, ?_⟩
    intro q11 hq11;subst hq11
    refine ⟨by (simp;done),by (simp;done),by (simp;done),by (simp;done), ?_⟩
    intro q12 hq12;subst hq12
    refine ⟨by (simp;done),by (simp;done),by (simp;done), ?_⟩
    intro q13 hq13;subst hq13
    refine ⟨by (simp;done),by (simp;done),by (simp;done),by (simp;done), ?_⟩
    intro q14 hq14;subst hq14
    refine ⟨by (simp;done),by (simp;done),by (simp;done),by (simp;done), ?_⟩
    intro q15 hq15;subst hq15
    refine ⟨by (simp;done),by (simp;done),by (simp;done),by (clear h1;rw [Bool.eq_iff_iff];simp_all [FMayOp];grind), ?_⟩
    trivial
   intro h10
   intro q11 hq11;subst hq11
   refine ⟨by (simp;done),by (simp;done),by (simp;done),by (simp;done), ?_⟩
   intro q12 hq12;subst hq12
   refine ⟨by (simp;done),by (simp;done),by (simp;done), ?_⟩
   intro q13 hq13;subst hq13
   refine ⟨by (simp;done),by (simp;done),by (simp;done),by (simp;done), ?_⟩
   intro q14 hq14;subst hq14
   refine ⟨by (simp;done),by (simp;done),by (simp;done),by (simp;done), ?_⟩
   intro q15 hq15;subst hq15
   refine ⟨by (simp;done),by (simp;done),by (simp;done),by (clear h1;simp_all [FMayOp];done), ?_⟩
   trivial
  intro h7
  intro q8 hq8;subst hq8
  intro q9 hq9;subst hq9
  refine ⟨by (simp;done), ?_⟩
  refine ask_p bp_false (fun h=>h.elim) ?_
  intro _
  intro q10 hq10;subst hq10
  refine ⟨by (simp;done),by (simp;done),by (simp;done),by (simp;done), ?_⟩
  intro q11 hq11;subst hq11
  refine ⟨by (simp;done),by (simp;done),by (simp;done), ?_⟩
  intro q12 hq12;subst hq12
  refine ⟨by (simp;done),by (simp;done),by (simp;done),by (simp;done), ?_⟩
  intro q13 hq13;subst hq13
  refine ⟨by (simp;done),by (simp;done),by (simp;done),by (simp;done), ?_⟩
  intro q14 hq14;subst hq14
  refine ⟨by (simp;done),by (simp;done),by (simp;done),by (clear h1;simp_all [FMayOp];done), ?_⟩
  trivial
 intro h4
 refine ask_p bp_dec ?_ ?_
 ·intro h5
  intro q6 hq6;subst hq6
  intro q7 hq7;subst hq7
  refine ⟨by (simp;done), ?_⟩
  refine ask_p bp_id ?_ ?_
  ·intro h8
   refine ⟨?_, ?_⟩
   ·intro h9
    (obtain ⟨e1,e2,e3,e4,e5⟩:=h1;omega)
   refine ⟨(x0.value), ?_⟩
   try dsimp only
   refine ⟨by (obtain ⟨e1,e2,e3,e4,e5⟩:=h1;omega),by (simp;done),by rfl,by trivial, ?_⟩
   intro q9 hq9;subst hq9
   refine ⟨by (simp;done), ?_⟩
   refine ask_p (bp_andl bp_true bp_id) ?_ ?_
   ·intro h10
    refine ⟨?_, ?_⟩
    ·intro h11
     (clear h1;simp_all [FMayOp];done)
    refine ⟨(x0.old), ?_⟩
    try dsimp only
    refine ⟨by (obtain ⟨e1,e2,e3,e4,e5⟩:=h1;omega),by (simp;done),by rfl,by trivial, ?_⟩
    intro q11 hq11;subst hq11
    refine ⟨by (simp;done),by (simp;done), ?_⟩
    intro q12 hq12;subst hq12
    refine ⟨by (simp;done),by (simp;done),by (simp;done),by (simp;done), ?_⟩
    refine ⟨?_, ?_⟩
    ·intro h13
     intro h14
     intro h15
     (clear h1;simp_all [FMayOp];done)
    refine ⟨by (simp;done), ?_⟩
    intro q13 hq13;subst hq13
    intro q14 hq14;subst hq14
    refine ⟨by (simp;done), ?_⟩
    refine ask_p (bp_and (bp_andl bp_true bp_id) (bp_or bp_id bp_dec)) ?_ ?_
    ·intro ⟨h15,h16⟩
     refine ⟨?_, ?_⟩
     ·intro h17
      (clear h1;simp_all [FMayOp];done)
     refine ⟨(x0.table), ?_⟩
     try dsimp only
     refine ⟨by (obtain ⟨e1,e2,e3,e4,e5⟩:=h1;omega),by rfl,by trivial, ?_⟩
     intro q17 hq17;subst hq17
     refine ⟨by (simp;done),by (simp;done),by (simp;done),by (simp;done), ?_⟩
     intro q18 hq18;subst hq18
     refine ⟨by (simp;done),by (simp;done),by (simp;done), ?_⟩
     intro q19 hq19;subst hq19
     refine ⟨by (simp;done),by (simp;done),by (simp;done),by (simp;done), ?_⟩
     intro q20 hq20;subst hq20
     refine ⟨by (simp;done),by (simp;done),by (simp;done),by (simp;done), ?_⟩
     intro q21 hq21;subst hq21
     refine ⟨by (simp;done),by (simp;done),by (simp;done),by (clear h1;rw [Bool.eq_iff_iff];simp_all [FMayOp];grind), ?_⟩
     trivial
    intro h15
    intro q16 hq16;subst hq16
    refine ⟨by (simp;done),by (simp;done),by (simp;done),by (simp;done), ?_⟩
    intro q17 hq17;subst hq17
    refine ⟨by (simp;done),by (simp;done),by (simp;done), ?_⟩
    intro q18 hq18;subst hq18
    refine ⟨by (simp;done),by (simp;done),by (simp;done),by (simp;done), ?_⟩
    intro q19 hq19;subst hq19
    refine ⟨by (simp;done),by (simp;done),by (simp;done),by (simp;done), ?_⟩
    intro q20 hq20;subst hq20
    refine ⟨by (simp;done),by (simp;done),by (simp;done),by (clear h1;simp_all [FMayOp];done), ?_⟩
    trivial
   intro h10
   intro q11 hq11;subst hq11
   refine ⟨by (simp;done),by (simp;done), ?_⟩
   intro q12 hq12;subst hq12
   refine ⟨by (simp;done),by (simp;done),by (simp;done),by (simp;done),by (simp;done),by (simp;done), ?_⟩
   intro q13 hq13;subst hq13
   intro q14 hq14;subst hq14
   refine ⟨by (simp;done), ?_⟩
   refine ask_p (bp_andfl bp_false (bp_or bp_id bp_dec)) (fun h=>h.elim) ?_
   intro _
   intro q15 hq15;subst hq15
   refine ⟨by (simp;done),by (simp;done),by (simp;done),by (simp;done), ?_⟩
   intro q16 hq16;subst hq16
   refine ⟨by (simp;done),by (simp;done),by (simp;done), ?_⟩
   intro q17 hq17;subst hq17
   refine ⟨by (simp;done),by (simp;done),by (simp;done),by (simp;done), ?_⟩
   intro q18 hq18;subst hq18
   refine ⟨by (simp;done),by (simp;done),by (simp;done),by (simp;done), ?_⟩
   intro q19 hq19;subst hq19
   refine ⟨by (simp;done),by (simp;done),by (simp;done),by (clear h1;simp_all [FMayOp];done), ?_⟩
   trivial
  intro h8
  intro q9 hq9;subst hq9
  refine ⟨by (simp;done), ?_⟩
  refine ask_p bp_false (fun h=>h.elim) ?_
  intro _
  intro q10 hq10;subst hq10
  refine ⟨by (simp;done),by (simp;done), ?_⟩
  intro q11 hq11;subst hq11
  refine ⟨by (simp;done),by (simp;done),by (simp;done),by (simp;done),by (simp;done),by (simp;done), ?_⟩
  intro q12 hq12;subst hq12
  intro q13 hq13;subst hq13
  refine ⟨by (simp;done), ?_⟩
  refine ask_p (bp_andfl bp_false (bp_or bp_id bp_dec)) (fun h=>h.elim) ?_
  intro _
  intro q14 hq14;subst hq14
  refine ⟨by (simp;done),by (simp;done),by (simp;done),by (simp;done), ?_⟩
  intro q15 hq15;subst hq15
  refine ⟨by (simp;done),by (simp;done),by (simp;done), ?_⟩
  intro q16 hq16;subst hq16
  refine ⟨by (simp;done),by (simp;done),by (simp;done),by (simp;done), ?_⟩
  intro q17 hq17;subst hq17
  refine ⟨by (simp;done),by (simp;done),by (simp;done),by (simp;done), ?_⟩
  intro q18 hq18;subst hq18
  refine ⟨by (simp;done),by (simp;done),by (simp;done),by (clear h1;simp_all [FMayOp];done), ?_⟩
  trivial
 intro h5
 refine ask_p bp_dec ?_ ?_
 ·intro h6
  intro q7 hq7;subst hq7
  refine ⟨by (simp;done),by (simp;done),by (simp;done),by (simp;done), ?_⟩
  intro q8 hq8;subst hq8
  refine ⟨by (simp;done),by (simp;done),by (simp;done), ?_⟩
  intro q9 hq9;subst hq9
  refine ⟨by (simp;done),by (simp;done),by (simp;done), ?_⟩
  intro q10 hq10;subst hq10
  intro q11 hq11;subst hq11
  refine ⟨by (simp;done), ?_⟩
  refine ask_p (bp_and (bp_and (bp_and bp_dec bp_dec) bp_dec) bp_dec) ?_ ?_
  ·intro ⟨⟨⟨h12,h13⟩,h14⟩,h15⟩
   refine ⟨?_, ?_⟩
   ·intro h16
    (clear h1;simp_all [FMayOp];done)
   refine ⟨(x0.table), ?_⟩
   try dsimp only
   refine ⟨by (obtain ⟨e1,e2,e3,e4,e5⟩:=h1;omega),by rfl,by trivial, ?_⟩
   intro q16 hq16;subst hq16
   refine ⟨by (simp;done),by (simp;done),by (simp;done),by (simp;done), ?_⟩
   intro q17 hq17;subst hq17
   refine ⟨by (simp;done),by (simp;done),by (simp;done), ?_⟩
   intro q18 hq18;subst hq18
   refine ⟨by (simp;done),by (simp;done),by (simp;done),by (simp;done), ?_⟩
   intro q19 hq19;subst hq19
   refine ⟨by (simp;done),by (simp;done),by (simp;done),by (simp;done), ?_⟩
   intro q20 hq20;subst hq20
   refine ⟨by (simp;done),by (simp;done),by (simp;done),by (clear h1;rw [Bool.eq_iff_iff];simp_all [FMayOp];grind), ?_⟩
   trivial
  intro h12
  intro q13 hq13;subst hq13
  refine ⟨by (simp;done),by (simp;done),by (simp;done),by (simp;done), ?_⟩
  intro q14 hq14;subst hq14
  refine ⟨by (simp;done),by (simp;done),by (simp;done), ?_⟩
  intro q15 hq15;subst hq15
  refine ⟨by (simp;done),by (simp;done),by (simp;done),by (simp;done), ?_⟩
  intro q16 hq16;subst hq16
  refine ⟨by (simp;done),by (simp;done),by (simp;done),by (simp;done), ?_⟩
  intro q17 hq17;subst hq17
  refine ⟨by (simp;done),by (simp;done),by (simp;done),by (clear h1;rw [Bool.eq_iff_iff];simp_all [FMayOp];omega), ?_⟩
  trivial
 intro h6
 refine ⟨by (clear h1;simp_all [FMayOp];done), ?_⟩
 trivial
abbrev zCMd5:Bool->Prop:=fun x0=>x0=true->x0=true->x0=true
abbrev zCMd8:List UInt8->Prop->Prop:=fun x0 p=>x0.length<1099511627776/\(false=true->false=true)/\p
abbrev zCMd9:Bool->Bool:=fun x0=>bif false then x0 else !x0
abbrev zCMd12:Bool->Prop:=fun x0=>true=true->x0=true->x0=true
abbrev zCMd16:Bool->Prop:=fun x0=>true=true->x0=true
abbrev zCMd17:LOp->Prop:=fun x0=>FMayOp x0=false/\True
abbrev zCMd19:Bool->LOp->Bool:=fun x0 x1=>bif x0 then true else decide ((↑x1.value.length:Int)=(0:Int))
abbrev zCMd20:LOp->Bool:=fun x0=>decide ((↑x0.old.length:Int)=(0:Int))
abbrev zCMd14:Bool->Bool->Bool->Prop:=fun x0 x1 x2=>(x0&&(zCMd9 x1&&x2))=true->(x0&&(zCMd9 x1&&x2))=true->(x0&&(zCMd9 x1&&x2))=true
abbrev zCMd22:Bool->Prop:=fun x0=>zCMd9 x0=true->zCMd9 x0=true->zCMd9 x0=true
abbrev zCMd23:Bool->Bool->Prop:=fun x0 x1=>(zCMd9 x0&&x1)=true
abbrev zCMd4:Bool->Prop->Prop:=fun x0 p=>zCMd22 x0/\zCMd22 x0/\p
abbrev zCMd13:Bool->Bool->Prop:=fun x0 x1=>zCMd23 x0 x1->zCMd23 x0 x1->zCMd23 x0 x1
abbrev zCMd15:Bool->Prop->Prop:=fun x0 p=>zCMd22 x0/\(true=true->x0=false->zCMd9 x0=true)/\p
abbrev zCMd24:Bool->Bool->Prop->Prop:=fun x0 x1 p=>zCMd5 x0/\(x0=true->x0=true->x1=false->zCMd23 x1 x0)/\zCMd12 x0/\p
abbrev zCMd2:Bool->Bool->Prop->Prop:=fun x0 x1 p=>zCMd13 x0 x1/\zCMd13 x0 x1/\p
abbrev zCMd3:Bool->Bool->Bool->Prop->Prop:=fun x0 x1 x2 p=>zCMd14 x0 x1 x2/\zCMd14 x0 x1 x2/\zCMd13 x1 x2/\(zCMd23 x1 x2->zCMd23 x1 x2->x0=true->(x0&&(zCMd9 x1&&x2))=true)/\zCMd24 x2 x1 p
abbrev zCMd11:Bool->Bool->LOp->Prop:=fun x0 x1 x2=>zCMd5 x0/\∀(q:Bool),q=x1->zCMd2 q x0 (zCMd2 q x0 (∀(q_1:Bool),q_1=decide ((↑x2.to.length:Int)=(0:Int))->zCMd3 q_1 q x0 ((FMayOp x2=bif true then bif x0 then bif q then true else bif q_1 then decide (x2.most=(0:Int)) else false else false else false)/\True)))
abbrev zCMd0:Bool->Bool->LOp->Prop:=fun x0 x1 x2=>zCMd13 x0 x1/\∀(q:Bool),q= !x2.has->zCMd14 q x0 x1/\zCMd3 q x0 x1 (∀(q_1:Bool),(q_1=bif x1 then bif x0 then true else bif q then zCMd20 x2 else false else false)->∀(q:Bool),q=false->zCMd11 q_1 q x2)
abbrev zCMd1:Bool->LOp->Prop:=fun x0 x1=>zCMd5 x0/\zCMd5 x0/\∀(q:Bool),q=x1.has->zCMd2 q x0 (zCMd13 q x0/\zCMd24 x0 q (∀(q_1:Bool),(q_1=bif x0 then bif q then true else zCMd20 x1 else false)->Eng.ask q_1 (zCMd16 q_1/\∀(q:Bool),q=true->∀(q_2:Bool),q_2=q->zCMd4 q_2 (zCMd15 q_2 (∀(q:Bool),q=zCMd19 q_2 x1->∀(q_3:Bool),q_3=true->zCMd5 q/\∀(q_4:Bool),q_4=q_3->zCMd2 q_4 q (zCMd0 q_4 q x1)))) (zCMd17 x1)))
abbrev zCMd7:Bool->LOp->Prop:=fun x0 x1=>∀(q:Bool),q=x0->zCMd4 q (zCMd15 q (∀(q_1:Bool),q_1=zCMd19 q x1->∀(q:Bool),q=false->zCMd5 q_1/\∀(q_2:Bool),q_2=q->zCMd2 q_2 q_1 (zCMd0 q_2 q_1 x1)))
abbrev zCMd18:LOp->Prop:=fun x0=>∃(x:List UInt8),zCMd8 x (x=x0.old/\True/\∀(q:Bool),(q=bif true then FValue x else false)->zCMd1 q x0)
abbrev zCMd21:LOp->Prop:=fun x0=>∃(x:List UInt8),zCMd8 x (x=x0.key/\True/\∀(q:Bool),q=FKey x->Eng.ask q (zCMd16 q/\∀(q:Bool),q=false->zCMd7 q x0) (zCMd17 x0))
abbrev zCMd6:LOp->Prop:=fun x0=>Eng.ask (decide (x0.kind=(4:Int))) (∃(x:List UInt8),zCMd8 x (x=x0.key/\True/\∀(q:Bool),q=FKey x->zCMd5 q/\Eng.ask q (zCMd16 q/\∃(x:List UInt8),zCMd8 x (x=x0.value/\True/\∀(q:Bool),(q=bif true then FValue x else false)->zCMd5 q/\Eng.ask q (zCMd16 q/\zCMd18 x0) (∀(q:Bool),q=false->zCMd1 q x0))) (∀(q:Bool),q=false->zCMd5 q/\Eng.ask q (zCMd16 q/\zCMd18 x0) (∀(q:Bool),q=false->zCMd1 q x0)))) (Eng.ask (decide (x0.kind=(5:Int))) (∀(q:Bool),q=decide ((↑x0.key.length:Int)<=(64:Int))->zCMd5 q/\zCMd5 q/\zCMd5 q/\zCMd12 q/\∀(q_1:Bool),(q_1=bif q then decide ((↑x0.to.length:Int)<=(64:Int)) else false)->zCMd5 q_1/\zCMd5 q_1/\zCMd12 q_1/\∀(q:Bool),(q=bif q_1 then decide ((1:Int)<=x0.most) else false)->zCMd5 q/\zCMd5 q/\zCMd12 q/\∀(q_2:Bool),(q_2=bif q then decide (x0.most<=(64:Int)) else false)->Eng.ask q_2 (zCMd16 q_2/\∀(q:Bool),q=false->∀(q_3:Bool),q_3=q->zCMd4 q_3 (zCMd15 q_3 (∀(q:Bool),q=zCMd19 q_3 x0->∀(q_4:Bool),q_4=false->zCMd5 q/\∀(q_5:Bool),q_5=q_4->zCMd2 q_5 q (zCMd13 q_5 q/\∀(q_6:Bool),q_6= !x0.has->zCMd14 q_6 q_5 q/\zCMd3 q_6 q_5 q (∀(q_7:Bool),(q_7=bif q then bif q_5 then true else bif q_6 then zCMd20 x0 else false else false)->∀(q:Bool),q=true->zCMd11 q_7 q x0))))) (zCMd17 x0)) (zCMd17 x0))
abbrev zCMd10:LOp->Prop:=fun x0=>Eng.ask (decide (x0.kind=(2:Int))) (∃(x:List UInt8),zCMd8 x (x=x0.key/\True/\∀(q:Bool),q=FKey x->zCMd5 q/\Eng.ask q (zCMd16 q/\∃(x:List UInt8),zCMd8 x (x=x0.value/\True/\∀(q:Bool),(q=bif true then FValue x else false)->Eng.ask q (zCMd16 q/\∀(q:Bool),q=true->zCMd7 q x0) (zCMd17 x0))) (∀(q:Bool),q=false->Eng.ask q (zCMd16 q/\∀(q:Bool),q=true->zCMd7 q x0) (zCMd17 x0)))) (zCMd6 x0)
def nf_MayOpR:Prop:=
 ∀(x:LOp),FSmOp x->∃(x_1:List UInt8),x_1.length<1099511627776/\x_1=x.table/\True/\Eng.ask (!FTable x_1) (zCMd17 x) (Eng.ask (decide (x.kind=(1:Int))) (Eng.ask (decide (x.kind=(1:Int))) (zCMd21 x) (zCMd10 x)) (Eng.ask (decide (x.kind=(3:Int))) (zCMd21 x) (zCMd10 x)))
theorem eq_MayOpR:vc_MayOpR=nf_MayOpR:=by kernel_rfl
theorem pf_MayOpR:nf_MayOpR:=by
 delta nf_MayOpR zCMd5 zCMd8 zCMd9 zCMd12 zCMd16 zCMd17 zCMd19 zCMd20 zCMd14 zCMd22 zCMd23 zCMd4 zCMd13 zCMd15 zCMd24 zCMd2 zCMd3 zCMd11 zCMd0 zCMd1 zCMd7 zCMd18 zCMd21 zCMd6 zCMd10
 intro x0
 intro h1
 refine ⟨(x0.table), ?_⟩
 try dsimp only
 refine ⟨by (obtain ⟨e1,e2,e3,e4,e5⟩:=h1;omega),by rfl,by trivial, ?_⟩
 refine ask_p (bp_not bp_id) ?_ ?_
 ·intro h2
  refine ⟨by (clear h1;simp_all [FMayOp];done), ?_⟩
  trivial
 intro h2
 refine ask_p bp_dec ?_ ?_
 ·intro h3
  refine ask_p bp_dec ?_ ?_
  ·intro h4
   refine ⟨(x0.key), ?_⟩
   try dsimp only
   refine ⟨by (obtain ⟨e1,e2,e3,e4,e5⟩:=h1;omega),by (simp;done),by rfl,by trivial, ?_⟩
   intro q5 hq5;subst hq5
   refine ask_p bp_id ?_ ?_
   ·intro h6
    refine ⟨?_, ?_⟩
    ·intro h7
     (obtain ⟨e1,e2,e3,e4,e5⟩:=h1;omega)
    intro q7 hq7;subst hq7
    intro q8 hq8;subst hq8
    refine ⟨by (simp;done),by (simp;done),by (simp;done),by (simp;done), ?_⟩
    intro q9 hq9;subst hq9
    intro q10 hq10;subst hq10
    refine ⟨by (simp;done), ?_⟩
    intro q11 hq11;subst hq11
    refine ⟨by (simp;done),by (simp;done),by (simp;done), ?_⟩
    intro q12 hq12;subst hq12
    refine ⟨by (simp;done),by (simp;done),by (simp;done),by (simp;done), ?_⟩
    refine ⟨?_, ?_⟩
    ·intro h13
     intro h14
     intro h15
     (clear h1;simp_all [FMayOp];done)
    refine ⟨by (simp;done),by (simp;done),by (simp;done), ?_⟩
    intro q13 hq13;subst hq13
    intro q14 hq14;subst hq14
    refine ⟨by (simp;done), ?_⟩
    intro q15 hq15;subst hq15
    refine ⟨by (simp;done),by (simp;done),by (simp;done),by (simp;done), ?_⟩
    intro q16 hq16;subst hq16
    refine ⟨by (simp;done),by (simp;done),by (simp;done), ?_⟩
    refine ⟨?_, ?_⟩
    ·intro h17
     intro h18
     intro h19
     (clear h1;simp_all [FMayOp];done)
    refine ⟨by (simp;done),by (simp;done),by (simp;done),by (clear h1;rw [Bool.eq_iff_iff];simp_all [FMayOp];grind), ?_⟩
    trivial
   intro h6
   refine ⟨by (clear h1;simp_all [FMayOp];done), ?_⟩
   trivial
  intro h4
  exfalso;omega
 intro h3
 refine ask_p bp_dec ?_ ?_
 ·intro h4
  refine ⟨(x0.key), ?_⟩
  try dsimp only
  refine ⟨by (obtain ⟨e1,e2,e3,e4,e5⟩:=h1;omega),by (simp;done),by rfl,by trivial, ?_⟩
  intro q5 hq5;subst hq5
  refine ask_p bp_id ?_ ?_
  ·intro h6
   refine ⟨?_, ?_⟩
   ·intro h7
    (obtain ⟨e1,e2,e3,e4,e5⟩:=h1;omega)
   intro q7 hq7;subst hq7
   intro q8 hq8;subst hq8
   refine ⟨by (simp;done),by (simp;done),by (simp;done),by (simp;done), ?_⟩
   intro q9 hq9;subst hq9
   intro q10 hq10;subst hq10
   refine ⟨by (simp;done), ?_⟩
   intro q11 hq11;subst hq11
   refine ⟨by (simp;done),by (simp;done),by (simp;done), ?_⟩
   intro q12 hq12;subst hq12
   refine ⟨by (simp;done),by (simp;done),by (simp;done),by (simp;done), ?_⟩
   refine ⟨?_, ?_⟩
   ·intro h13
    intro h14
    intro h15
    (clear h1;simp_all [FMayOp];done)
   refine ⟨by (simp;done),by (simp;done),by (simp;done), ?_⟩
   intro q13 hq13;subst hq13
   intro q14 hq14;subst hq14
   refine ⟨by (simp;done), ?_⟩
   intro q15 hq15;subst hq15
   refine ⟨by (simp;done),by (simp;done),by (simp;done),by (simp;done), ?_⟩
   intro q16 hq16;subst hq16
   refine ⟨by (simp;done),by (simp;done),by (simp;done), ?_⟩
   refine ⟨?_, ?_⟩
   ·intro h17
    intro h18
    intro h19
    (clear h1;simp_all [FMayOp];done)
   refine ⟨by (simp;done),by (simp;done),by (simp;done),by (clear h1;rw [Bool.eq_iff_iff];simp_all [FMayOp];grind), ?_⟩
   trivial
  intro h6
  refine ⟨by (clear h1;simp_all [FMayOp];done), ?_⟩
  trivial
 intro h4
 refine ask_p bp_dec ?_ ?_
 ·intro h5
  refine ⟨(x0.key), ?_⟩
  try dsimp only
  refine ⟨by (obtain ⟨e1,e2,e3,e4,e5⟩:=h1;omega),by (simp;done),by rfl,by trivial, ?_⟩
  intro q6 hq6;subst hq6
  refine ⟨by (simp;done), ?_⟩
  refine ask_p bp_id ?_ ?_
  ·intro h7
   refine ⟨?_, ?_⟩
   ·intro h8
    (obtain ⟨e1,e2,e3,e4,e5⟩:=h1;omega)
   refine ⟨(x0.value), ?_⟩
   try dsimp only
   refine ⟨by (obtain ⟨e1,e2,e3,e4,e5⟩:=h1;omega),by (simp;done),by rfl,by trivial, ?_⟩
   intro q8 hq8;subst hq8
   refine ask_p (bp_andl bp_true bp_id) ?_ ?_
   ·intro h9
    refine ⟨?_, ?_⟩
    ·intro h10
     (clear h1;simp_all [FMayOp];done)
    intro q10 hq10;subst hq10
    intro q11 hq11;subst hq11
    refine ⟨by (simp;done),by (simp;done),by (simp;done),by (simp;done), ?_⟩
    intro q12 hq12;subst hq12
    intro q13 hq13;subst hq13
    refine ⟨by (simp;done), ?_⟩
    intro q14 hq14;subst hq14
    refine ⟨by (simp;done),by (simp;done),by (simp;done), ?_⟩
    intro q15 hq15;subst hq15
    refine ⟨by (simp;done),by (simp;done),by (simp;done),by (simp;done),by (simp;done),by (simp;done),by (simp;done),by (simp;done), ?_⟩
    intro q16 hq16;subst hq16
    intro q17 hq17;subst hq17
    refine ⟨by (simp;done), ?_⟩
    intro q18 hq18;subst hq18
    refine ⟨by (simp;done),by (simp;done),by (simp;done),by (simp;done), ?_⟩
    intro q19 hq19;subst hq19
    refine ⟨by (simp;done),by (simp;done),by (simp;done), ?_⟩
    refine ⟨?_, ?_⟩
    ·intro h20
     intro h21
     intro h22
     (clear h1;simp_all [FMayOp];done)
    refine ⟨by (simp;done),by (simp;done),by (simp;done),by (clear h1;rw [Bool.eq_iff_iff];simp_all [FMayOp];grind), ?_⟩
    trivial
   intro h9
   refine ⟨by (clear h1;simp_all [FMayOp];done), ?_⟩
   trivial
  intro h7
  intro q8 hq8;subst hq8
  refine ask_p bp_false (fun h=>h.elim) ?_
  intro _
  refine ⟨by (clear h1;simp_all [FMayOp];done), ?_⟩
  trivial
 intro h5
 refine ask_p bp_dec ?_ ?_
 ·intro h6
  refine ⟨(x0.key), ?_⟩
  try dsimp only
  refine ⟨by (obtain ⟨e1,e2,e3,e4,e5⟩:=h1;omega),by (simp;done),by rfl,by trivial, ?_⟩
  intro q7 hq7;subst hq7
  refine ⟨by (simp;done), ?_⟩
  refine ask_p bp_id ?_ ?_
  ·intro h8
   refine ⟨?_, ?_⟩
   ·intro h9
    (obtain ⟨e1,e2,e3,e4,e5⟩:=h1;omega)
   refine ⟨(x0.value), ?_⟩
   try dsimp only
   refine ⟨by (obtain ⟨e1,e2,e3,e4,e5⟩:=h1;omega),by (simp;done),by rfl,by trivial, ?_⟩
   intro q9 hq9;subst hq9
   refine ⟨by (simp;done), ?_⟩
   refine ask_p (bp_andl bp_true bp_id) ?_ ?_
   ·intro h10
    refine ⟨?_, ?_⟩
    ·intro h11
     (clear h1;simp_all [FMayOp];done)
    refine ⟨(x0.old), ?_⟩
    try dsimp only
    refine ⟨by (obtain ⟨e1,e2,e3,e4,e5⟩:=h1;omega),by (simp;done),by rfl,by trivial, ?_⟩
    intro q11 hq11;subst hq11
    refine ⟨by (simp;done),by (simp;done), ?_⟩
    intro q12 hq12;subst hq12
    refine ⟨by (simp;done),by (simp;done),by (simp;done),by (simp;done), ?_⟩
    refine ⟨?_, ?_⟩
    ·intro h13
     intro h14
     intro h15
     (clear h1;simp_all [FMayOp];done)
    refine ⟨by (simp;done), ?_⟩
    intro q13 hq13;subst hq13
    refine ask_p (bp_and (bp_andl bp_true bp_id) (bp_or bp_id bp_dec)) ?_ ?_
    ·intro ⟨h14,h15⟩
     refine ⟨?_, ?_⟩
     ·intro h16
      (clear h1;simp_all [FMayOp];done)
     intro q16 hq16;subst hq16
     intro q17 hq17;subst hq17
     refine ⟨by (simp;done),by (simp;done),by (simp;done),by (simp;done), ?_⟩
     intro q18 hq18;subst hq18
     intro q19 hq19;subst hq19
     refine ⟨by (simp;done), ?_⟩
     intro q20 hq20;subst hq20
     refine ⟨by (simp;done),by (simp;done),by (simp;done), ?_⟩
     intro q21 hq21;subst hq21
     refine ⟨by (simp;done),by (simp;done),by (simp;done),by (simp;done),by (simp;done),by (simp;done),by (simp;done),by (simp;done), ?_⟩
     intro q22 hq22;subst hq22
     intro q23 hq23;subst hq23
     refine ⟨by (simp;done), ?_⟩
     intro q24 hq24;subst hq24
     refine ⟨by (simp;done),by (simp;done),by (simp;done),by (simp;done), ?_⟩
     intro q25 hq25;subst hq25
     refine ⟨by (simp;done),by (simp;done),by (simp;done),by (simp;done),by (simp;done),by (simp;done),by (simp;done),by (clear h1;rcases h15 with h15 | h15<;>simp_all [FMayOp];done), ?_⟩
     trivial
    intro h14
    refine ⟨by (clear h1;simp_all [FMayOp];done), ?_⟩
    trivial
   intro h10
   intro q11 hq11;subst hq11
   refine ⟨by (simp;done),by (simp;done), ?_⟩
   intro q12 hq12;subst hq12
   refine ⟨by (simp;done),by (simp;done),by (simp;done),by (simp;done),by (simp;done),by (simp;done), ?_⟩
   intro q13 hq13;subst hq13
   refine ask_p (bp_andfl bp_false (bp_or bp_id bp_dec)) (fun h=>h.elim) ?_
   intro _
   refine ⟨by (clear h1;simp_all [FMayOp];done), ?_⟩
   trivial
  intro h8
  intro q9 hq9;subst hq9
  refine ⟨by (simp;done), ?_⟩
  refine ask_p bp_false (fun h=>h.elim) ?_
  intro _
  intro q10 hq10;subst hq10
  refine ⟨by (simp;done),by (simp;done), ?_⟩
  intro q11 hq11;subst hq11
  refine ⟨by (simp;done),by (simp;done),by (simp;done),by (simp;done),by (simp;done),by (simp;done), ?_⟩
  intro q12 hq12;subst hq12
  refine ask_p (bp_andfl bp_false (bp_or bp_id bp_dec)) (fun h=>h.elim) ?_
  intro _
  refine ⟨by (clear h1;simp_all [FMayOp];done), ?_⟩
  trivial
 intro h6
 refine ask_p bp_dec ?_ ?_
 ·intro h7
  intro q8 hq8;subst hq8
  refine ⟨by (simp;done),by (simp;done),by (simp;done),by (simp;done), ?_⟩
  intro q9 hq9;subst hq9
  refine ⟨by (simp;done),by (simp;done),by (simp;done), ?_⟩
  intro q10 hq10;subst hq10
  refine ⟨by (simp;done),by (simp;done),by (simp;done), ?_⟩
  intro q11 hq11;subst hq11
  refine ask_p (bp_and (bp_and (bp_and bp_dec bp_dec) bp_dec) bp_dec) ?_ ?_
  ·intro ⟨⟨⟨h12,h13⟩,h14⟩,h15⟩
   refine ⟨?_, ?_⟩
   ·intro h16
    (clear h1;simp_all [FMayOp];done)
   intro q16 hq16;subst hq16
   intro q17 hq17;subst hq17
   refine ⟨by (simp;done),by (simp;done),by (simp;done),by (simp;done), ?_⟩
   intro q18 hq18;subst hq18
   intro q19 hq19;subst hq19
   refine ⟨by (simp;done), ?_⟩
   intro q20 hq20;subst hq20
   refine ⟨by (simp;done),by (simp;done),by (simp;done), ?_⟩
   intro q21 hq21;subst hq21
   refine ⟨by (simp;done),by (simp;done),by (simp;done),by (simp;done), ?_⟩
   refine ⟨?_, ?_⟩
   ·intro h22
    intro h23
    intro h24
    (clear h1;simp_all [FMayOp];done)
   refine ⟨by (simp;done),by (simp;done),by (simp;done), ?_⟩
   intro q22 hq22;subst hq22
   intro q23 hq23;subst hq23
   refine ⟨by (simp;done), ?_⟩
   intro q24 hq24;subst hq24
   refine ⟨by (simp;done),by (simp;done),by (simp;done),by (simp;done), ?_⟩
   intro q25 hq25;subst hq25
   refine ⟨by (simp;done),by (simp;done),by (simp;done),by (simp;done),by (simp;done),by (simp;done),by (simp;done),by (clear h1;rw [Bool.eq_iff_iff];simp_all [FMayOp];grind), ?_⟩
   trivial
  intro h12
  refine ⟨by (clear h1;rw [Bool.eq_iff_iff];simp_all [FMayOp];omega), ?_⟩
  trivial
 intro h7
 refine ⟨by (clear h1;simp_all [FMayOp];done), ?_⟩
 trivial
abbrev zCMe0:LOp:=LOp.mk (0:Int) [] [] [] false [] [] (0:Int)
abbrev zCMe1:Prop:=false=true->false=true
abbrev zCMe2:Bool->Prop:=fun x0=>(bif false then x0 else !x0)=true
abbrev zCMe5:XI->List LOp->Prop:=fun x0 x1=>x0.i<=x1.length/\1<=x1.length/\x1.length<=16/\FMaysTo x1 x0.i
abbrev zCMe4:List LOp->XI->LOp:=fun x0 x1=>x0.getD (Int.toNat (↑x1.i:Int)) zCMe0
abbrev zCMe6:List LOp->Nat->LOp:=fun x0 x1=>x0.getD x1 zCMe0
abbrev zCMe7:Prop->Prop:=fun p=>true=true/\zCMe1/\p
abbrev zCMe3:List LOp->Prop->Prop:=fun x0 p=>zCMe1/\x0.length=x0.length/\(∀(i:Nat),i<x0.length->(IntKind.i64=IntKind.i64/\(zCMe6 x0 i).kind=(zCMe6 x0 i).kind)/\(zCMe6 x0 i).table=(zCMe6 x0 i).table/\zCMe7 ((zCMe6 x0 i).key=(zCMe6 x0 i).key)/\zCMe7 ((zCMe6 x0 i).value=(zCMe6 x0 i).value)/\(zCMe6 x0 i).has=(zCMe6 x0 i).has/\zCMe7 ((zCMe6 x0 i).old=(zCMe6 x0 i).old)/\zCMe7 ((zCMe6 x0 i).to=(zCMe6 x0 i).to)/\(IntKind.i64=IntKind.i64/\(zCMe6 x0 i).most=(zCMe6 x0 i).most)/\True)/\Eq (α:=Int) (↑x0.length:Int) (↑x0.length:Int)/\p
def nf_mayCall:Prop:=
 ∀(x:List LOp),FSmOps x->∀(q:Bool),q=decide ((↑x.length:Int)<(1:Int))->(zCMe2 q->zCMe2 q->zCMe2 q)/\(zCMe2 q->zCMe2 q->zCMe2 q)/\(zCMe2 q->zCMe2 q->zCMe2 q)/\(true=true->q=false->zCMe2 q)/\Eng.ask (bif q then true else decide ((16:Int)<(↑x.length:Int))) (FMays x=false/\True) ((∃(x_1:XI),zCMe5 x_1 x/\zCMe3 x ((↑x_1.i:Int)=(0:Int)/\True))/\True/\∀(x_1:XI),zCMe5 x_1 x->Eng.ask (decide (LT.lt (α:=Int) (↑x_1.i:Int) (↑x.length:Int))) ((0:Int)<=(↑x_1.i:Int)/\Int.toNat (↑x_1.i:Int)<x.length/\∃(x_2:LOp),FSmOp x_2/\x_2.kind=(zCMe4 x x_1).kind/\x_2.table=(zCMe4 x x_1).table/\zCMe1/\x_2.key=(zCMe4 x x_1).key/\zCMe1/\x_2.value=(zCMe4 x x_1).value/\x_2.has=(zCMe4 x x_1).has/\zCMe1/\x_2.old=(zCMe4 x x_1).old/\zCMe1/\x_2.to=(zCMe4 x x_1).to/\x_2.most=(zCMe4 x x_1).most/\True/\Eng.ask (!FMayOp x_2) (FMays x=false/\True) (True/\True/\True/\∃(x':XI),zCMe5 x' x/\x.length-x'.i<x.length-x_1.i/\zCMe3 x ((↑x'.i:Int)=IntKind.i64.wrap ((↑x_1.i:Int)+(1:Int))/\True))) (FMays x=true/\True))
theorem eq_mayCall:vc_mayCall=nf_mayCall:=by kernel_rfl
theorem pf_mayCall:nf_mayCall:=by
 delta nf_mayCall zCMe0 zCMe1 zCMe2 zCMe5 zCMe4 zCMe6 zCMe7 zCMe3
 intro x0
 intro h1
 intro q2 hq2;subst hq2
 refine ⟨by (simp;done),by (simp;done),by (simp;done),by (simp;done), ?_⟩
 refine ask_p (bp_or bp_dec bp_dec) ?_ ?_
 ·intro h3
  refine ⟨by exact mays_short ‹_›, ?_⟩
  trivial
 intro h3
 refine ⟨?_, ?_⟩
 ·refine ⟨⟨(((0:Int):Int)).toNat⟩, ?_⟩
  try dsimp only
  refine ⟨?_, ?_⟩
  ·refine ⟨by omega,by omega,by omega, ?_⟩
   exact mays_zero
  refine ⟨by (simp;done),by rfl, ?_⟩
  refine ⟨?_, ?_⟩
  ·intro i4
   intro h5
   refine ⟨by (simp;done),by rfl,by (exact ⟨rfl,fun h=>h,rfl⟩),by (exact ⟨rfl,fun h=>h,rfl⟩),by rfl,by (exact ⟨rfl,fun h=>h,rfl⟩),by (exact ⟨rfl,fun h=>h,rfl⟩),by (simp;done), ?_⟩
   trivial
  refine ⟨by rfl,by decide, ?_⟩
  trivial
 refine ⟨by trivial, ?_⟩
 intro x4
 intro ⟨h5,⟨h6,⟨h7,h8⟩⟩⟩
 refine ask_p bp_dec ?_ ?_
 ·intro h9
  refine ⟨by omega,by omega, ?_⟩
  refine ⟨⟨((x0.getD (Int.toNat (↑x4.i:Int)) (LOp.mk (0:Int) [] [] [] false [] [] (0:Int))).kind),((x0.getD (Int.toNat (↑x4.i:Int)) (LOp.mk (0:Int) [] [] [] false [] [] (0:Int))).table),((x0.getD (Int.toNat (↑x4.i:Int)) (LOp.mk (0:Int) [] [] [] false [] [] (0:Int))).key),((x0.getD (Int.toNat (↑x4.i:Int)) (LOp.mk (0:Int) [] [] [] false [] [] (0:Int))).value),((x0.getD (Int.toNat (↑x4.i:Int)) (LOp.mk (0:Int) [] [] [] false [] [] (0:Int))).has),((x0.getD (Int.toNat (↑x4.i:Int)) (LOp.mk (0:Int) [] [] [] false [] [] (0:Int))).old),((x0.getD (Int.toNat (↑x4.i:Int)) (LOp.mk (0:Int) [] [] [] false [] [] (0:Int))).to),((x0.getD (Int.toNat (↑x4.i:Int)) (LOp.mk (0:Int) [] [] [] false [] [] (0:Int))).most)⟩, ?_⟩
  try dsimp only
  refine ⟨by exact h1.2 x4.i (by omega),by rfl,by rfl,by (simp;done),by rfl,by (simp;done),by rfl,by rfl,by (simp;done),by rfl,by (simp;done),by rfl, ?_⟩
  refine ⟨by rfl,by trivial, ?_⟩
  refine ask_p (bp_not bp_id) ?_ ?_
  ·intro h10
   refine ⟨by exact mays_bad (i:=x4.i) (by omega) h10, ?_⟩
   trivial
  intro h10
  refine ⟨by trivial,by trivial,by trivial, ?_⟩
  refine ⟨⟨((IntKind.i64.wrap ((↑x4.i:Int)+(1:Int)):Int)).toNat⟩, ?_⟩
  try dsimp only
  refine ⟨?_, ?_⟩
  ·refine ⟨by (rw [wrap_succ _ (by omega)];omega),by omega,by omega, ?_⟩
   (rw [wrap_succ _ (by omega),Int.toNat_natCast];exact all_step h8 (Classical.not_not.1 h10))
  refine ⟨by (rw [wrap_succ _ (by omega)];omega),by (simp;done),by rfl, ?_⟩
  refine ⟨?_, ?_⟩
  ·intro i11
   intro h12
   refine ⟨by (simp;done),by rfl,by (exact ⟨rfl,fun h=>h,rfl⟩),by (exact ⟨rfl,fun h=>h,rfl⟩),by rfl,by (exact ⟨rfl,fun h=>h,rfl⟩),by (exact ⟨rfl,fun h=>h,rfl⟩),by (simp;done), ?_⟩
   trivial
  refine ⟨by rfl,by (rw [wrap_succ _ (by omega)];omega), ?_⟩
  trivial
 intro h9
 refine ⟨by exact mays_end ‹_› ‹_› ‹_› ‹_›, ?_⟩
 trivial
abbrev zCMf0:LOp:=LOp.mk (0:Int) [] [] [] false [] [] (0:Int)
abbrev zCMf1:Prop:=false=true->false=true
abbrev zCMf2:Bool->Prop:=fun x0=>(bif false then x0 else !x0)=true
abbrev zCMf5:XI->List LOp->Prop:=fun x0 x1=>x0.i<=x1.length/\1<=x1.length/\x1.length<=16/\FMaysTo x1 x0.i
abbrev zCMf4:List LOp->XI->LOp:=fun x0 x1=>x0.getD (Int.toNat (↑x1.i:Int)) zCMf0
abbrev zCMf6:List LOp->Nat->LOp:=fun x0 x1=>x0.getD x1 zCMf0
abbrev zCMf7:Prop->Prop:=fun p=>true=true/\zCMf1/\p
abbrev zCMf3:List LOp->Prop:=fun x0=>zCMf1/\x0.length=x0.length/\(∀(i:Nat),i<x0.length->(IntKind.i64=IntKind.i64/\(zCMf6 x0 i).kind=(zCMf6 x0 i).kind)/\(zCMf6 x0 i).table=(zCMf6 x0 i).table/\zCMf7 ((zCMf6 x0 i).key=(zCMf6 x0 i).key)/\zCMf7 ((zCMf6 x0 i).value=(zCMf6 x0 i).value)/\(zCMf6 x0 i).has=(zCMf6 x0 i).has/\zCMf7 ((zCMf6 x0 i).old=(zCMf6 x0 i).old)/\zCMf7 ((zCMf6 x0 i).to=(zCMf6 x0 i).to)/\(IntKind.i64=IntKind.i64/\(zCMf6 x0 i).most=(zCMf6 x0 i).most)/\True)/\True
def nf_May:Prop:=
 ∀(x:List LOp),FSmOps x->∀(q:Bool),q=decide ((↑x.length:Int)<(1:Int))->(zCMf2 q->zCMf2 q->zCMf2 q)/\(zCMf2 q->zCMf2 q->zCMf2 q)/\(zCMf2 q->zCMf2 q->zCMf2 q)/\(true=true->q=false->zCMf2 q)/\Eng.ask (bif q then true else decide ((16:Int)<(↑x.length:Int))) (FMays x=false/\True) ((∃(x_1:XI),zCMf5 x_1 x/\0=0/\0=0/\0=0/\(↑x_1.i:Int)=(0:Int)/\zCMf3 x)/\True/\∀(x_1:XI),zCMf5 x_1 x->Eng.ask (decide (LT.lt (α:=Int) (↑x_1.i:Int) (↑x.length:Int))) ((0:Int)<=(↑x_1.i:Int)/\Int.toNat (↑x_1.i:Int)<x.length/\∃(x_2:LOp),FSmOp x_2/\x_2.kind=(zCMf4 x x_1).kind/\x_2.table=(zCMf4 x x_1).table/\zCMf1/\x_2.key=(zCMf4 x x_1).key/\zCMf1/\x_2.value=(zCMf4 x x_1).value/\x_2.has=(zCMf4 x x_1).has/\zCMf1/\x_2.old=(zCMf4 x x_1).old/\zCMf1/\x_2.to=(zCMf4 x x_1).to/\x_2.most=(zCMf4 x x_1).most/\True/\Eng.ask (!FMayOp x_2) (FMays x=false/\True) (True/\True/\True/\∃(x':XI),zCMf5 x' x/\x.length-x'.i<x.length-x_1.i/\0=0/\0=0/\0=0/\(↑x'.i:Int)=IntKind.i64.wrap ((↑x_1.i:Int)+(1:Int))/\zCMf3 x)) (FMays x=true/\True))
theorem eq_May:vc_May=nf_May:=by kernel_rfl
theorem pf_May:nf_May:=by
 delta nf_May zCMf0 zCMf1 zCMf2 zCMf5 zCMf4 zCMf6 zCMf7 zCMf3
 intro x0
 intro h1
 intro q2 hq2;subst hq2
 refine ⟨by (simp;done),by (simp;done),by (simp;done),by (simp;done), ?_⟩
 refine ask_p (bp_or bp_dec bp_dec) ?_ ?_
 ·intro h3
  refine ⟨by exact mays_short ‹_›, ?_⟩
  trivial
 intro h3
 refine ⟨?_, ?_⟩
 ·refine ⟨⟨(((0:Int):Int)).toNat⟩, ?_⟩
  try dsimp only
  refine ⟨?_, ?_⟩
  ·refine ⟨by omega,by omega,by omega, ?_⟩
   exact mays_zero
  refine ⟨by rfl,by rfl,by rfl,by decide,by (simp;done),by rfl, ?_⟩
  refine ⟨?_, ?_⟩
  ·intro i4
   intro h5
   refine ⟨by (simp;done),by rfl,by (exact ⟨rfl,fun h=>h,rfl⟩),by (exact ⟨rfl,fun h=>h,rfl⟩),by rfl,by (exact ⟨rfl,fun h=>h,rfl⟩),by (exact ⟨rfl,fun h=>h,rfl⟩),by (simp;done), ?_⟩
   trivial
  trivial
 refine ⟨by trivial, ?_⟩
 intro x4
 intro ⟨h5,⟨h6,⟨h7,h8⟩⟩⟩
 refine ask_p bp_dec ?_ ?_
 ·intro h9
  refine ⟨by omega,by omega, ?_⟩
  refine ⟨⟨((x0.getD (Int.toNat (↑x4.i:Int)) (LOp.mk (0:Int) [] [] [] false [] [] (0:Int))).kind),((x0.getD (Int.toNat (↑x4.i:Int)) (LOp.mk (0:Int) [] [] [] false [] [] (0:Int))).table),((x0.getD (Int.toNat (↑x4.i:Int)) (LOp.mk (0:Int) [] [] [] false [] [] (0:Int))).key),((x0.getD (Int.toNat (↑x4.i:Int)) (LOp.mk (0:Int) [] [] [] false [] [] (0:Int))).value),((x0.getD (Int.toNat (↑x4.i:Int)) (LOp.mk (0:Int) [] [] [] false [] [] (0:Int))).has),((x0.getD (Int.toNat (↑x4.i:Int)) (LOp.mk (0:Int) [] [] [] false [] [] (0:Int))).old),((x0.getD (Int.toNat (↑x4.i:Int)) (LOp.mk (0:Int) [] [] [] false [] [] (0:Int))).to),((x0.getD (Int.toNat (↑x4.i:Int)) (LOp.mk (0:Int) [] [] [] false [] [] (0:Int))).most)⟩, ?_⟩
  try dsimp only
  refine ⟨by exact h1.2 x4.i (by omega),by rfl,by rfl,by (simp;done),by rfl,by (simp;done),by rfl,by rfl,by (simp;done),by rfl,by (simp;done),by rfl, ?_⟩
  refine ⟨by rfl,by trivial, ?_⟩
  refine ask_p (bp_not bp_id) ?_ ?_
  ·intro h10
   refine ⟨by exact mays_bad (i:=x4.i) (by omega) h10, ?_⟩
   trivial
  intro h10
  refine ⟨by trivial,by trivial,by trivial, ?_⟩
  refine ⟨⟨((IntKind.i64.wrap ((↑x4.i:Int)+(1:Int)):Int)).toNat⟩, ?_⟩
  try dsimp only
  refine ⟨?_, ?_⟩
  ·refine ⟨by (rw [wrap_succ _ (by omega)];omega),by omega,by omega, ?_⟩
   (rw [wrap_succ _ (by omega),Int.toNat_natCast];exact all_step h8 (Classical.not_not.1 h10))
  refine ⟨by (rw [wrap_succ _ (by omega)];omega),by rfl,by rfl,by rfl,by (rw [wrap_succ _ (by omega)];omega),by (simp;done),by rfl, ?_⟩
  refine ⟨?_, ?_⟩
  ·intro i11
   intro h12
   refine ⟨by (simp;done),by rfl,by (exact ⟨rfl,fun h=>h,rfl⟩),by (exact ⟨rfl,fun h=>h,rfl⟩),by rfl,by (exact ⟨rfl,fun h=>h,rfl⟩),by (exact ⟨rfl,fun h=>h,rfl⟩),by (simp;done), ?_⟩
   trivial
  trivial
 intro h9
 refine ⟨by exact mays_end ‹_› ‹_› ‹_› ‹_›, ?_⟩
 trivial
abbrev zCMg3:LOp:=LOp.mk (0:Int) [] [] [] false [] [] (0:Int)
abbrev zCMg4:Prop:=false=true->false=true
abbrev zCMg1:List LOp->Nat->LOp:=fun x0 x1=>x0.getD x1 zCMg3
abbrev zCMg2:Prop->Prop:=fun p=>true=true/\zCMg4/\p
abbrev zCMg0:List LOp->Prop->Prop:=fun x0 p=>zCMg4/\x0.length=x0.length/\(∀(i:Nat),i<x0.length->(IntKind.i64=IntKind.i64/\(zCMg1 x0 i).kind=(zCMg1 x0 i).kind)/\(zCMg1 x0 i).table=(zCMg1 x0 i).table/\zCMg2 ((zCMg1 x0 i).key=(zCMg1 x0 i).key)/\zCMg2 ((zCMg1 x0 i).value=(zCMg1 x0 i).value)/\(zCMg1 x0 i).has=(zCMg1 x0 i).has/\zCMg2 ((zCMg1 x0 i).old=(zCMg1 x0 i).old)/\zCMg2 ((zCMg1 x0 i).to=(zCMg1 x0 i).to)/\(IntKind.i64=IntKind.i64/\(zCMg1 x0 i).most=(zCMg1 x0 i).most)/\True)/\p
def nf_calls_Reads:Prop:=
 ∀(x:List LOp),FSmOps x->(∃(x_1:XI),(x_1.i<=x.length/\FKdsTo x x_1.i)/\0=0/\0=0/\0=0/\zCMg0 x (Eq (α:=Int) (↑x.length:Int) (↑x.length:Int)/\(↑x_1.i:Int)=(0:Int)/\zCMg0 x True))/\True/\∀(x_1:XI),x_1.i<=x.length/\FKdsTo x x_1.i->Eng.ask (decide (LT.lt (α:=Int) (↑x_1.i:Int) (↑x.length:Int))) ((0:Int)<=(↑x_1.i:Int)/\Int.toNat (↑x_1.i:Int)<x.length/\∀(q:Bool),q= !decide ((x.getD (Int.toNat (↑x_1.i:Int)) zCMg3).kind=(1:Int))->(q=true->q=true->q=true)/\(q=true->q=true->q=true)/\(true=true->q=true->q=true)/\Eng.ask (bif q then !decide ((x.getD (Int.toNat (↑x_1.i:Int)) zCMg3).kind=(5:Int)) else false) (FReads x=false/\True) (True/\True/\True/\∃(x':XI),(x'.i<=x.length/\FKdsTo x x'.i)/\x.length-x'.i<x.length-x_1.i/\0=0/\0=0/\0=0/\zCMg0 x (Eq (α:=Int) (↑x.length:Int) (↑x.length:Int)/\(↑x'.i:Int)=IntKind.i64.wrap ((↑x_1.i:Int)+(1:Int))/\zCMg0 x True))) (∃(x_2:List LOp),FSmOps x_2/\zCMg4/\x_2.length=x.length/\(∀(i:Nat),i<x_2.length->(IntKind.i64=IntKind.i64/\(zCMg1 x_2 i).kind=(zCMg1 x i).kind)/\(zCMg1 x_2 i).table=(zCMg1 x i).table/\zCMg2 ((zCMg1 x_2 i).key=(zCMg1 x i).key)/\zCMg2 ((zCMg1 x_2 i).value=(zCMg1 x i).value)/\(zCMg1 x_2 i).has=(zCMg1 x i).has/\zCMg2 ((zCMg1 x_2 i).old=(zCMg1 x i).old)/\zCMg2 ((zCMg1 x_2 i).to=(zCMg1 x i).to)/\(IntKind.i64=IntKind.i64/\(zCMg1 x_2 i).most=(zCMg1 x i).most)/\True)/\True/\FReads x=FMays x_2/\True)
theorem eq_calls_Reads:vc_calls_Reads=nf_calls_Reads:=by kernel_rfl
theorem pf_calls_Reads:nf_calls_Reads:=by
 delta nf_calls_Reads zCMg3 zCMg4 zCMg1 zCMg2 zCMg0
 intro x0
 intro h1
 refine ⟨?_, ?_⟩
 ·refine ⟨⟨(((0:Int):Int)).toNat⟩, ?_⟩
  try dsimp only
  refine ⟨?_, ?_⟩
  ·refine ⟨by omega, ?_⟩
   exact kds_zero
  refine ⟨by rfl,by rfl,by rfl,by (simp;done),by rfl, ?_⟩
  refine ⟨?_, ?_⟩
  ·intro i2
   intro h3
   refine ⟨by (simp;done),by rfl,by (exact ⟨rfl,fun h=>h,rfl⟩),by (exact ⟨rfl,fun h=>h,rfl⟩),by rfl,by (exact ⟨rfl,fun h=>h,rfl⟩),by (exact ⟨rfl,fun h=>h,rfl⟩),by (simp;done), ?_⟩
   trivial
  refine ⟨by rfl,by decide,by (simp;done),by rfl, ?_⟩
  refine ⟨?_, ?_⟩
  ·intro i2
   intro h3
   refine ⟨by (simp;done),by rfl,by (exact ⟨rfl,fun h=>h,rfl⟩),by (exact ⟨rfl,fun h=>h,rfl⟩),by rfl,by (exact ⟨rfl,fun h=>h,rfl⟩),by (exact ⟨rfl,fun h=>h,rfl⟩),by (simp;done), ?_⟩
   trivial
  trivial
 refine ⟨by trivial, ?_⟩
 intro x2
 intro ⟨h3,h4⟩
 refine ask_p bp_dec ?_ ?_
 ·intro h5
  refine ⟨by omega,by omega, ?_⟩
  intro q6 hq6;subst hq6
  refine ⟨by (simp;done),by (simp;done),by (simp;done), ?_⟩
  refine ask_p (bp_and (bp_not bp_dec) (bp_not bp_dec)) ?_ ?_
  ·intro ⟨h7,h8⟩
   refine ⟨by exact reads_bad (i:=x2.i) (by omega) (kd_no h7 h8), ?_⟩
   trivial
  intro h7
  refine ⟨by trivial,by trivial,by trivial, ?_⟩
  refine ⟨⟨((IntKind.i64.wrap ((↑x2.i:Int)+(1:Int)):Int)).toNat⟩, ?_⟩
  try dsimp only
  refine ⟨?_, ?_⟩
  ·refine ⟨by exact k_le h1.1 h5, ?_⟩
   exact k_P (P:=FKdsTo _) h1.1 h5 (all_step h4 (kd_yes h7))
  refine ⟨by exact k_mu h1.1 h5,by rfl,by rfl,by rfl,by (simp;done),by rfl, ?_⟩
  refine ⟨?_, ?_⟩
  ·intro i8
   intro h9
   refine ⟨by (simp;done),by rfl,by (exact ⟨rfl,fun h=>h,rfl⟩),by (exact ⟨rfl,fun h=>h,rfl⟩),by rfl,by (exact ⟨rfl,fun h=>h,rfl⟩),by (exact ⟨rfl,fun h=>h,rfl⟩),by (simp;done), ?_⟩
   trivial
  refine ⟨by rfl,by exact k_eq h1.1 h5,by (simp;done),by rfl, ?_⟩
  refine ⟨?_, ?_⟩
  ·intro i8
   intro h9
   refine ⟨by (simp;done),by rfl,by (exact ⟨rfl,fun h=>h,rfl⟩),by (exact ⟨rfl,fun h=>h,rfl⟩),by rfl,by (exact ⟨rfl,fun h=>h,rfl⟩),by (exact ⟨rfl,fun h=>h,rfl⟩),by (simp;done), ?_⟩
   trivial
  trivial
 intro h5
 refine ⟨x0, ?_⟩
 try dsimp only
 refine ⟨by omega,by (simp;done),by rfl, ?_⟩
 refine ⟨?_, ?_⟩
 ·intro i6
  intro h7
  refine ⟨by (simp;done),by rfl,by (exact ⟨rfl,fun h=>h,rfl⟩),by (exact ⟨rfl,fun h=>h,rfl⟩),by rfl,by (exact ⟨rfl,fun h=>h,rfl⟩),by (exact ⟨rfl,fun h=>h,rfl⟩),by (simp;done), ?_⟩
  trivial
 refine ⟨by trivial,by exact reads_end ‹_› ‹_›, ?_⟩
 trivial
abbrev zCMh4:Bool->Prop:=fun x0=>x0=true->x0=true->x0=true
abbrev zCMh5:LOp:=LOp.mk (0:Int) [] [] [] false [] [] (0:Int)
abbrev zCMh6:Prop:=false=true->false=true
abbrev zCMh0:List LOp->Nat->LOp:=fun x0 x1=>x0.getD x1 zCMh5
abbrev zCMh1:Prop->Prop:=fun p=>true=true/\zCMh6/\p
abbrev zCMh2:Bool->Prop->Prop:=fun x0 p=>zCMh4 x0/\zCMh4 x0/\p
abbrev zCMh3:List LOp->Prop:=fun x0=>zCMh6/\x0.length=x0.length/\(∀(i:Nat),i<x0.length->(IntKind.i64=IntKind.i64/\(zCMh0 x0 i).kind=(zCMh0 x0 i).kind)/\(zCMh0 x0 i).table=(zCMh0 x0 i).table/\zCMh1 ((zCMh0 x0 i).key=(zCMh0 x0 i).key)/\zCMh1 ((zCMh0 x0 i).value=(zCMh0 x0 i).value)/\(zCMh0 x0 i).has=(zCMh0 x0 i).has/\zCMh1 ((zCMh0 x0 i).old=(zCMh0 x0 i).old)/\zCMh1 ((zCMh0 x0 i).to=(zCMh0 x0 i).to)/\(IntKind.i64=IntKind.i64/\(zCMh0 x0 i).most=(zCMh0 x0 i).most)/\True)/\True
def nf_ref_Reads:Prop:=
 ∀(x:List LOp),FSmOps x->(∃(x_1:XI),(x_1.i<=x.length/\FKdsTo x x_1.i)/\0=0/\0=0/\0=0/\(↑x_1.i:Int)=(0:Int)/\zCMh3 x)/\True/\∀(x_1:XI),x_1.i<=x.length/\FKdsTo x x_1.i->Eng.ask (decide (LT.lt (α:=Int) (↑x_1.i:Int) (↑x.length:Int))) ((0:Int)<=(↑x_1.i:Int)/\Int.toNat (↑x_1.i:Int)<x.length/\∀(q:Bool),q= !decide ((x.getD (Int.toNat (↑x_1.i:Int)) zCMh5).kind=(1:Int))->zCMh2 q (zCMh4 q/\(q=true->(0:Int)<=(↑x_1.i:Int))/\(q=true->Int.toNat (↑x_1.i:Int)<x.length)/\zCMh2 q (zCMh4 q/\(true=true->q=true->q=true)/\Eng.ask (bif q then !decide ((x.getD (Int.toNat (↑x_1.i:Int)) zCMh5).kind=(5:Int)) else false) (FReads x=false/\True) (True/\True/\True/\∃(x':XI),(x'.i<=x.length/\FKdsTo x x'.i)/\x.length-x'.i<x.length-x_1.i/\0=0/\0=0/\0=0/\(↑x'.i:Int)=IntKind.i64.wrap ((↑x_1.i:Int)+(1:Int))/\zCMh3 x)))) (∃(x_2:List LOp),FSmOps x_2/\zCMh6/\x_2.length=x.length/\(∀(i:Nat),i<x_2.length->(IntKind.i64=IntKind.i64/\(zCMh0 x_2 i).kind=(zCMh0 x i).kind)/\(zCMh0 x_2 i).table=(zCMh0 x i).table/\zCMh1 ((zCMh0 x_2 i).key=(zCMh0 x i).key)/\zCMh1 ((zCMh0 x_2 i).value=(zCMh0 x i).value)/\(zCMh0 x_2 i).has=(zCMh0 x i).has/\zCMh1 ((zCMh0 x_2 i).old=(zCMh0 x i).old)/\zCMh1 ((zCMh0 x_2 i).to=(zCMh0 x i).to)/\(IntKind.i64=IntKind.i64/\(zCMh0 x_2 i).most=(zCMh0 x i).most)/\True)/\True/\FReads x=FMays x_2/\True)
theorem eq_ref_Reads:vc_ref_Reads=nf_ref_Reads:=by kernel_rfl
theorem pf_ref_Reads:nf_ref_Reads:=by
 delta nf_ref_Reads zCMh4 zCMh5 zCMh6 zCMh0 zCMh1 zCMh2 zCMh3
 intro x0
 intro h1
 refine ⟨?_, ?_⟩
 ·refine ⟨⟨(((0:Int):Int)).toNat⟩, ?_⟩
  try dsimp only
  refine ⟨?_, ?_⟩
  ·refine ⟨by omega, ?_⟩
   exact kds_zero
  refine ⟨by rfl,by rfl,by rfl,by decide,by (simp;done),by rfl, ?_⟩
  refine ⟨?_, ?_⟩
  ·intro i2
   intro h3
   refine ⟨by (simp;done),by rfl,by (exact ⟨rfl,fun h=>h,rfl⟩),by (exact ⟨rfl,fun h=>h,rfl⟩),by rfl,by (exact ⟨rfl,fun h=>h,rfl⟩),by (exact ⟨rfl,fun h=>h,rfl⟩),by (simp;done), ?_⟩
   trivial
  trivial
 refine ⟨by trivial, ?_⟩
 intro x2
 intro ⟨h3,h4⟩
 refine ask_p bp_dec ?_ ?_
 ·intro h5
  refine ⟨by omega,by omega, ?_⟩
  intro q6 hq6;subst hq6
  refine ⟨by (simp;done),by (simp;done),by (simp;done),by (simp;done), ?_⟩
  refine ⟨?_, ?_⟩
  ·intro h7
   omega
  refine ⟨by (simp;done),by (simp;done),by (simp;done),by (simp;done), ?_⟩
  refine ask_p (bp_and (bp_not bp_dec) (bp_not bp_dec)) ?_ ?_
  ·intro ⟨h7,h8⟩
   refine ⟨by exact reads_bad (i:=x2.i) (by omega) (kd_no h7 h8), ?_⟩
   trivial
  intro h7
  refine ⟨by trivial,by trivial,by trivial, ?_⟩
  refine ⟨⟨((IntKind.i64.wrap ((↑x2.i:Int)+(1:Int)):Int)).toNat⟩, ?_⟩
  try dsimp only
  refine ⟨?_, ?_⟩
  ·refine ⟨by exact k_le h1.1 h5, ?_⟩
   exact k_P (P:=FKdsTo _) h1.1 h5 (all_step h4 (kd_yes h7))
  refine ⟨by exact k_mu h1.1 h5,by rfl,by rfl,by rfl,by exact k_eq h1.1 h5,by (simp;done),by rfl, ?_⟩
  refine ⟨?_, ?_⟩
  ·intro i8
   intro h9
   refine ⟨by (simp;done),by rfl,by (exact ⟨rfl,fun h=>h,rfl⟩),by (exact ⟨rfl,fun h=>h,rfl⟩),by rfl,by (exact ⟨rfl,fun h=>h,rfl⟩),by (exact ⟨rfl,fun h=>h,rfl⟩),by (simp;done), ?_⟩
   trivial
  trivial
 intro h5
 refine ⟨x0, ?_⟩
 try dsimp only
 refine ⟨by omega,by (simp;done),by rfl, ?_⟩
 refine ⟨?_, ?_⟩
 ·intro i6
  intro h7
  refine ⟨by (simp;done),by rfl,by (exact ⟨rfl,fun h=>h,rfl⟩),by (exact ⟨rfl,fun h=>h,rfl⟩),by rfl,by (exact ⟨rfl,fun h=>h,rfl⟩),by (exact ⟨rfl,fun h=>h,rfl⟩),by (simp;done), ?_⟩
  trivial
 refine ⟨by trivial,by exact reads_end ‹_› ‹_›, ?_⟩
 trivial
end Go.Proofs
