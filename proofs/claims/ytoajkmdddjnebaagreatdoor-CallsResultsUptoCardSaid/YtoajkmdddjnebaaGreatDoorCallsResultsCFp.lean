import Derived.Test.YtoajkmdddjnebaaGreatDoorCallsResultsCF
set_option linter.unusedSimpArgs false
set_option linter.unusedVariables false
namespace Go.Proofs
open Go.Eng
set_option maxRecDepth 100000
abbrev zCF0_1:Bool->Prop:=fun x0=>(bif false then x0 else !x0)=true
abbrev zCF0_2:XRd->Prop->Prop:=fun x0 p=>(false=true->false=true)/\x0.l=x0.l/\p
abbrev zCF0_3:XRd->Int->Int:=fun x0 a1=>(↑(x0.l.getD a1.toNat (0:UInt8)).toNat:Int)
abbrev zCF0_4:Bool->Prop:=fun x0=>x0=true->x0=true->x0=true
abbrev zCF0_6:Bool->Bool->Prop:=fun x0 x1=>(x0&&bif false then x1 else !x1)=true
abbrev zCF0_0:Bool->Prop->Prop:=fun x0 p=>zCF0_4 x0/\zCF0_4 x0/\zCF0_4 x0/\p
abbrev zCF0_5:XRd->Prop:=fun x0=>∃(x:Nat×Int×Nat),FNmR x0.l x0.a x/\(↑x.fst:Int)=(0:Int)/\x.snd.fst=(4:Int)/\zCF0_2 x0 (Eq (α:=Int) (↑x.snd.snd:Int) (↑x0.a:Int)/\True)
def nf_rfNumber:Prop:=
 ∀(x:XRd),FRdOk x.l x.a->(∃(x_1:XNm),FNm x x_1/\0=0/\0=0/\0=0/\some 0=some 0/\(↑x_1.acc:Int)=(0:Int)/\(↑x_1.i:Int)=(0:Int)/\zCF0_2 x (Eq (α:=Int) (↑x.a:Int) (↑x.a:Int)/\True))/\True/\∀(x_1:XNm),FNm x x_1->∀(q:Bool),q=decide ((↑x_1.i:Int)<(10:Int))->zCF0_0 q (zCF0_4 q/\zCF0_4 q/\∀(q_1:Int),q_1=IntKind.i64.wrap (HAdd.hAdd (α:=Int) (↑x.a:Int) (↑x_1.i:Int))->zCF0_0 q (zCF0_0 q ((true=true->q=true->q=true)/\Eng.ask (bif q then decide (q_1<(↑x.l.length:Int)) else false) (∀(q:Int),q=IntKind.i64.wrap (HAdd.hAdd (α:=Int) (↑x.a:Int) (↑x_1.i:Int))->(0:Int)<=q/\q.toNat<x.l.length/\∀(q_2:Bool),q_2=decide ((↑x_1.i:Int)=(9:Int))->zCF0_4 q_2/\(true=true->q_2=true->q_2=true)/\∀(q_3:Bool),(q_3=bif q_2 then decide ((1:Int)<zCF0_3 x q) else false)->(zCF0_1 q_3->zCF0_1 q_3->zCF0_1 q_3)/\(zCF0_1 q_3->zCF0_1 q_3->zCF0_1 q_3)/\∀(q_4:Bool),q_4=decide ((0:Int)<(↑x_1.i:Int))->(zCF0_6 q_4 q_3->zCF0_6 q_4 q_3->zCF0_6 q_4 q_3)/\(zCF0_1 q_3->zCF0_1 q_3->zCF0_1 q_3)/\(zCF0_1 q_3->zCF0_1 q_3->q_4=true->zCF0_6 q_4 q_3)/\(true=true->q_3=false->zCF0_1 q_3)/\Eng.ask (bif q_3 then true else bif q_4 then decide (zCF0_3 x q=(0:Int)) else false) (zCF0_5 x) ((128:Int)≠(0:Int)/\(0:Int)<=IntKind.i64.wrap ((7:Int)*(↑x_1.i:Int))/\∀(q_5:Int),q_5=IntKind.u64.wrap (IntKind.u64.wrap ((zCF0_3 x q).tmod (128:Int))*(2:Int)^min (IntKind.i64.wrap ((7:Int)*(↑x_1.i:Int))).toNat 64)->∀(q_6:Int),q_6=IntKind.u64.wrap ((↑x_1.acc:Int)+q_5)->Eng.ask (decide (zCF0_3 x q<(128:Int))) (∀(q:Int),q=IntKind.i64.wrap (HAdd.hAdd (α:=Int) (↑x.a:Int) (↑x_1.i:Int))->∃(x_2:Nat×Int×Nat),FNmR x.l x.a x_2/\(↑x_2.fst:Int)=q_6/\x_2.snd.fst=(0:Int)/\zCF0_2 x ((↑x_2.snd.snd:Int)=IntKind.i64.wrap (q+(1:Int))/\True)) (True/\True/\True/\∃(x':XNm),FNm x x'/\10-x'.i<10-x_1.i/\0=0/\0=0/\0=0/\some 0=some 0/\(↑x'.acc:Int)=q_6/\(↑x'.i:Int)=IntKind.i64.wrap ((↑x_1.i:Int)+(1:Int))/\zCF0_2 x (Eq (α:=Int) (↑x.a:Int) (↑x.a:Int)/\True)))) (zCF0_5 x))))
theorem eq_rfNumber:vc_rfNumber=nf_rfNumber:=by kernel_rfl
theorem pf_rfNumber:nf_rfNumber:=by
 delta nf_rfNumber zCF0_1 zCF0_2 zCF0_3 zCF0_4 zCF0_6 zCF0_0 zCF0_5
 intro x0
 intro h1
 refine ⟨?_,?_⟩
 ·refine ⟨⟨(((0:Int):Int)).toNat,(((0:Int):Int)).toNat⟩,?_⟩
  try dsimp only
  refine ⟨by exact nm_start h1,by rfl,by rfl,by rfl,by rfl,by decide,by decide,by (simp;done),by rfl,by rfl,?_⟩
  trivial
 refine ⟨by trivial,?_⟩
 intro x2
 intro h3
 intro q4 hq4;subst hq4
 refine ⟨by (simp;done),by (simp;done),by (simp;done),by (simp;done),by (simp;done),?_⟩
 intro q5 h5
 refine ⟨by (simp;done),by (simp;done),by (simp;done),by (simp;done),by (simp;done),by (simp;done),by (simp;done),?_⟩
 refine ask_p (bp_and bp_dec bp_dec) ?_ ?_
 ·intro ⟨h6,h7⟩
  intro q8 h8
  refine ⟨by (have e:=nm_at h1 h3 h8;have e5:=nm_at h1 h3 h5;omega),by (have e:=nm_at h1 h3 h8;have e5:=nm_at h1 h3 h5;omega),?_⟩
  intro q9 hq9;subst hq9
  refine ⟨by (simp;done),by (simp;done),?_⟩
  intro q10 hq10;subst hq10
  refine ⟨?_,?_⟩
  ·intro h11
   intro h12
   (have e:=nm_at h1 h3 h8;have e5:=nm_at h1 h3 h5;omega)
  refine ⟨?_,?_⟩
  ·intro h11
   intro h12
   (have e:=nm_at h1 h3 h8;have e5:=nm_at h1 h3 h5;omega)
  intro q11 hq11;subst hq11
  refine ⟨?_,?_⟩
  ·intro h12
   intro h13
   (have e:=nm_at h1 h3 h8;have e5:=nm_at h1 h3 h5;omega)
  refine ⟨?_,?_⟩
  ·intro h12
   intro h13
   (have e:=nm_at h1 h3 h8;have e5:=nm_at h1 h3 h5;omega)
  refine ⟨?_,?_⟩
  ·intro h12
   intro h13
   intro h14
   grind
  refine ⟨?_,?_⟩
  ·intro h12
   intro h13
   grind
  refine ask_p (bp_or (bp_and bp_dec bp_dec) (bp_and bp_dec bp_dec)) ?_ ?_
  ·intro h12
   refine ⟨⟨(((0:Int):Int)).toNat,⟨((4:Int)),(x0.a)⟩⟩,?_⟩
   try dsimp only
   refine ⟨by exact nm_bad h1 h3 h8 (by have e:=nm_at h1 h3 h8;have e5:=nm_at h1 h3 h5;omega) h12,by decide,by (have e:=nm_at h1 h3 h8;have e5:=nm_at h1 h3 h5;omega),by (simp;done),by rfl,by (have e:=nm_at h1 h3 h8;have e5:=nm_at h1 h3 h5;omega),?_⟩
   trivial
  intro h12
  refine ⟨by decide,by exact nm_sh h3,?_⟩
  intro q13 h13
  intro q14 h14
  refine ask_p bp_dec ?_ ?_
  ·intro h15
   intro q16 h16
   refine ⟨⟨((q14:Int)).toNat,⟨((0:Int)),((IntKind.i64.wrap (q16+(1:Int)):Int)).toNat⟩⟩,?_⟩
   try dsimp only
   refine ⟨by exact (nm_good h1 h3 h8 (by have e:=nm_at h1 h3 h8;have e5:=nm_at h1 h3 h5;omega) h12 h13 h14 h15 h16).1,by exact nm_cast h14,by (have e:=nm_at h1 h3 h8;have e5:=nm_at h1 h3 h5;omega),by (simp;done),by rfl,by (have hh:=(nm_good h1 h3 h8 (by have e:=nm_at h1 h3 h8;have e5:=nm_at h1 h3 h5;omega) h12 h13 h14 h15 h16).2;show ((IntKind.i64.wrap (q16+1)).toNat:Int)=_;rw [hh,Int.toNat_natCast]),?_⟩
   trivial
  intro h15
  refine ⟨by trivial,by trivial,by trivial,?_⟩
  refine ⟨⟨((IntKind.i64.wrap ((↑x2.i:Int)+(1:Int)):Int)).toNat,((q14:Int)).toNat⟩,?_⟩
  try dsimp only
  refine ⟨by exact nm_next h1 h3 h8 (by have e:=nm_at h1 h3 h8;have e5:=nm_at h1 h3 h5;omega) h12 h13 h14 h15,by exact nm_mu h3,by rfl,by rfl,by rfl,by rfl,by exact nm_cast h14,by exact nm_up h3,by (simp;done),by rfl,by rfl,?_⟩
  trivial
 intro h6
 refine ⟨⟨(((0:Int):Int)).toNat,⟨((4:Int)),(x0.a)⟩⟩,?_⟩
 try dsimp only
 refine ⟨by exact nm_end h1 h3 h5 h6,by decide,by rfl,by (simp;done),by rfl,by rfl,?_⟩
 trivial
abbrev zCF1_1:XRd->Int:=fun x0=>IntKind.i64.wrap (IntKind.i64.wrap ((↑x0.a:Int)+(1:Int))- (1:Int))
abbrev zCF1_3:Bool->Prop:=fun x0=>(bif false then x0 else !x0)=true
abbrev zCF1_2:Bool->Prop->Prop:=fun x0 p=>(zCF1_3 x0->zCF1_3 x0->zCF1_3 x0)/\(zCF1_3 x0->zCF1_3 x0->zCF1_3 x0)/\p
abbrev zCF1_0:Bool->Prop->Prop:=fun x0 p=>zCF1_2 x0 (zCF1_2 x0 p)
def nf_rfFlag:Prop:=
 ∀(x:XRd),FRdOk x.l x.a->∀(q:Int),q=IntKind.i64.wrap (HSub.hSub (α:=Int) (↑x.l.length:Int) (↑x.a:Int))->∀(q_1:Bool),q_1=decide (q=(0:Int))->zCF1_0 q_1 (zCF1_0 q_1 ((zCF1_3 q_1->(0:Int)<=(↑x.a:Int))/\(zCF1_3 q_1->Int.toNat (↑x.a:Int)<x.l.length)/\zCF1_2 q_1 ((true=true->q_1=false->zCF1_3 q_1)/\Eng.ask (bif q_1 then true else decide ((1:Int)<(↑(x.l.getD (Int.toNat (↑x.a:Int)) (0:UInt8)).toNat:Int))) (∃(x_1:Bool×Int×Nat),FFlR x.l x.a x_1/\x_1.fst=false/\x_1.snd.fst=(4:Int)/\(false=true->false=true)/\x.l=x.l/\Eq (α:=Int) (↑x_1.snd.snd:Int) (↑x.a:Int)/\True) ((0:Int)<=zCF1_1 x/\(zCF1_1 x).toNat<x.l.length/\∃(x_1:Bool×Int×Nat),FFlR x.l x.a x_1/\x_1.fst=decide ((↑(x.l.getD (zCF1_1 x).toNat (0:UInt8)).toNat:Int)=(1:Int))/\x_1.snd.fst=(0:Int)/\(false=true->false=true)/\x.l=x.l/\(↑x_1.snd.snd:Int)=IntKind.i64.wrap ((↑x.a:Int)+(1:Int))/\True))))
theorem eq_rfFlag:vc_rfFlag=nf_rfFlag:=by kernel_rfl
theorem pf_rfFlag:nf_rfFlag:=by
 delta nf_rfFlag zCF1_1 zCF1_3 zCF1_2 zCF1_0
 intro x0
 intro h1
 intro q2 h2
 intro q3 hq3;subst hq3
 refine ⟨by (simp;done),by (simp;done),by (simp;done),by (simp;done),by (simp;done),by (simp;done),by (simp;done),by (simp;done),by (simp;done),?_⟩
 refine ⟨?_,?_⟩
 ·intro h4
  exact fl_in h1 h2 (by simp_all)
 refine ⟨by (simp;done),by (simp;done),by (simp;done),?_⟩
 refine ask_p (bp_or bp_dec bp_dec) ?_ ?_
 ·intro h4
  refine ⟨⟨(false),⟨((4:Int)),(x0.a)⟩⟩,?_⟩
  try dsimp only
  refine ⟨by exact flR_bad h1 h2 h4,by rfl,by rfl,by (simp;done),by rfl,by rfl,?_⟩
  trivial
 intro h4
 refine ⟨by (have hh:=fl_good h1 h2 h4;rw [wrap_incdec (by omega)];omega),by (have hh:=fl_good h1 h2 h4;rw [wrap_incdec (by omega)];omega),?_⟩
 refine ⟨⟨(decide ((↑(x0.l.getD (IntKind.i64.wrap (IntKind.i64.wrap ((↑x0.a:Int)+(1:Int))- (1:Int))).toNat (0:UInt8)).toNat:Int)=(1:Int))),⟨((0:Int)),((IntKind.i64.wrap ((↑x0.a:Int)+(1:Int)):Int)).toNat⟩⟩,?_⟩
 try dsimp only
 refine ⟨by exact flR_good h1 h2 h4,by rfl,by rfl,by (simp;done),by rfl,by (have hh:=fl_good h1 h2 h4;rw [wrap_succ _ (by omega)];simp;done),?_⟩
 trivial
abbrev zCF2_1:Bool->Prop->Prop:=fun x0 p=>(true=true->true=true->x0=true)/\(true=true->true=true->true=true)/\(true=true->true=true->true=true)/\p
abbrev zCF2_3:XRdM->List UInt8×Int×Nat->Prop->Prop:=fun x0 x1 p=>FByR x0.most x0.l x0.a x1/\false=false/\x1.fst=[]/\p
abbrev zCF2_4:XRd->Int->Int->Nat:=fun x0 a1 a2=>(cutL x0.l a1.toNat (a2.toNat-a1.toNat)).length
abbrev zCF2_6:Bool->Prop:=fun x0=>x0=true->x0=true->x0=true
abbrev zCF2_7:Prop:=false=true
abbrev zCF2_2:XRdM->XRd->List UInt8×Int×Nat->Prop:=fun x0 x1 x2=>(zCF2_7->zCF2_7)/\x0.l=x1.l/\Eq (α:=Int) (↑x2.snd.snd:Int) (↑x0.a:Int)/\True
abbrev zCF2_5:Bool->Prop->Prop:=fun x0 p=>zCF2_6 x0/\zCF2_6 x0/\p
abbrev zCF2_0:Nat×Int×Nat->XRdM->XRd->Prop:=fun x0 x1 x2=>Eng.ask (!decide (x0.snd.fst=(0:Int))) (∃(x:List UInt8×Int×Nat),zCF2_3 x1 x (x.snd.fst=x0.snd.fst/\zCF2_2 x1 x2 x)) (∀(q:Int),q=IntKind.i64.wrap ((↑x0.snd.snd:Int)+IntKind.i64.wrap (↑x0.fst:Int))->∀(q_1:Int),q_1=IntKind.i64.wrap (q-IntKind.i64.wrap (↑x0.fst:Int))->(0:Int)<=q_1/\(0:Int)<=q/\q.toNat<=x2.l.length/\q_1.toNat<=q.toNat/\zCF2_4 x2 q_1 q<1099511627776/\∃(x:List UInt8×Int×Nat),FByR x1.most x1.l x1.a x/\(zCF2_7->true=true->zCF2_4 x2 q_1 q≠0\/zCF2_4 x2 q_1 q≠0)/\0+zCF2_4 x2 q_1 q<=zCF2_4 x2 q_1 q/\x.fst=cutL (cutL x2.l q_1.toNat (q.toNat-q_1.toNat)) 0 (zCF2_4 x2 q_1 q)/\x.snd.fst=(0:Int)/\(zCF2_7->zCF2_7)/\x1.l=x2.l/\(↑x.snd.snd:Int)=q/\True)
def nf_rfBytes:Prop:=
 ∀(x:XRdM),FRdOk x.l x.a/\x.most<1048577->∃(x_1:XRd),FRdOk x_1.l x_1.a/\0=0/\0=0/\0=0/\(zCF2_7->zCF2_7)/\x_1.l=x.l/\Eq (α:=Int) (↑x_1.a:Int) (↑x.a:Int)/\∀(x_2:Nat×Int×Nat),FNmR x_1.l x_1.a x_2->True/\∀(q:Bool),q=decide (x_2.snd.fst=(0:Int))->zCF2_5 q (zCF2_6 q/\(true=true->q=true->q=true)/\Eng.ask (bif q then decide (IntKind.u64.wrap (↑x.most:Int)<(↑x_2.fst:Int)) else false) (∀(q:Bool),q=decide ((3:Int)=(0:Int))->Eng.ask q ((true=true->q=true)/\∀(q_1:Int),q_1=IntKind.i64.wrap (HSub.hSub (α:=Int) (↑x_1.l.length:Int) (↑x_2.snd.snd:Int))->zCF2_1 q (Eng.ask (bif true then decide (IntKind.u64.wrap q_1<(↑x_2.fst:Int)) else false) (∃(x_3:List UInt8×Int×Nat),zCF2_3 x x_3 (x_3.snd.fst=(4:Int)/\zCF2_2 x x_1 x_3)) (∃(x_3:List UInt8×Int×Nat),zCF2_3 x x_3 (x_3.snd.fst=(3:Int)/\zCF2_2 x x_1 x_3)))) (∃(x_3:List UInt8×Int×Nat),zCF2_3 x x_3 (x_3.snd.fst=(3:Int)/\zCF2_2 x x_1 x_3))) (∀(q:Bool),q=decide (x_2.snd.fst=(0:Int))->Eng.ask q ((true=true->q=true)/\∀(q_1:Int),q_1=IntKind.i64.wrap (HSub.hSub (α:=Int) (↑x_1.l.length:Int) (↑x_2.snd.snd:Int))->zCF2_1 q (Eng.ask (bif true then decide (IntKind.u64.wrap q_1<(↑x_2.fst:Int)) else false) (∃(x_3:List UInt8×Int×Nat),zCF2_3 x x_3 (x_3.snd.fst=(4:Int)/\zCF2_2 x x_1 x_3)) (zCF2_0 x_2 x x_1))) (zCF2_0 x_2 x x_1)))
theorem eq_rfBytes:vc_rfBytes=nf_rfBytes:=by kernel_rfl
theorem pf_rfBytes:nf_rfBytes:=by
 delta nf_rfBytes zCF2_1 zCF2_3 zCF2_4 zCF2_6 zCF2_7 zCF2_2 zCF2_5 zCF2_0
 intro x0
 intro ⟨h1,h2⟩
 refine ⟨⟨(x0.l),(x0.a)⟩,?_⟩
 try dsimp only
 refine ⟨by exact h1,by rfl,by rfl,by rfl,by (simp;done),by rfl,by rfl,?_⟩
 intro x3
 intro h4
 refine ⟨by trivial,?_⟩
 intro q5 hq5;subst hq5
 refine ⟨by (simp;done),by (simp;done),by (simp;done),by (simp;done),?_⟩
 refine ask_p (bp_and bp_dec bp_dec) ?_ ?_
 ·intro ⟨h6,h7⟩
  intro q8 hq8;subst hq8
  refine ask_p bp_dec ?_ ?_
  ·intro h9
   exfalso;omega
  intro h9
  refine ⟨⟨([]),⟨((3:Int)),(x0.a)⟩⟩,?_⟩
  try dsimp only
  refine ⟨by exact nmB_long h2 h4 h6 h7,by rfl,by rfl,by rfl,by (simp;done),by rfl,by rfl,?_⟩
  trivial
 intro h6
 intro q7 hq7;subst hq7
 refine ask_p bp_dec ?_ ?_
 ·intro h8
  refine ⟨?_,?_⟩
  ·intro h9
   grind
  intro q9 h9
  refine ⟨?_,?_⟩
  ·intro h10
   intro h11
   grind
  refine ⟨by (simp;done),by (simp;done),?_⟩
  refine ask_p (bp_andl bp_true bp_dec) ?_ ?_
  ·intro h10
   refine ⟨⟨([]),⟨((4:Int)),(x0.a)⟩⟩,?_⟩
   try dsimp only
   refine ⟨by exact nmB_short h2 h1 h4 h8 h6 h9 h10,by rfl,by rfl,by rfl,by (simp;done),by rfl,by rfl,?_⟩
   trivial
  intro h10
  refine ask_p (bp_not bp_dec) ?_ ?_
  ·intro h11
   exfalso;omega
  intro h11
  intro q12 h12
  intro q13 h13
  refine ⟨by (obtain ⟨g1,g2,g3,g4,g5⟩:=nmB_good h2 h1 h4 h8 h6 h9 h10 h12 h13;omega),by (obtain ⟨g1,g2,g3,g4,g5⟩:=nmB_good h2 h1 h4 h8 h6 h9 h10 h12 h13;omega),by (obtain ⟨g1,g2,g3,g4,g5⟩:=nmB_good h2 h1 h4 h8 h6 h9 h10 h12 h13;omega),by (obtain ⟨g1,g2,g3,g4,g5⟩:=nmB_good h2 h1 h4 h8 h6 h9 h10 h12 h13;omega),by (obtain ⟨g1,g2,g3,g4,g5⟩:=nmB_good h2 h1 h4 h8 h6 h9 h10 h12 h13;subst g3 g4;simp only [Int.toNat_natCast] at*;simp [cutL] at*;omega),?_⟩
  refine ⟨⟨(cutL (cutL x0.l q13.toNat (q12.toNat-q13.toNat)) 0 (cutL x0.l q13.toNat (q12.toNat-q13.toNat)).length),⟨((0:Int)),((q12:Int)).toNat⟩⟩,?_⟩
  try dsimp only
  refine ⟨by (obtain ⟨g1,g2,g3,g4,g5⟩:=nmB_good h2 h1 h4 h8 h6 h9 h10 h12 h13;subst g3 g4;simp only [Int.toNat_natCast];rw [Nat.add_sub_cancel_left,cutL_all,cutL_eq];exact .inl ⟨rfl,g1⟩),by (simp;done),by (obtain ⟨g1,g2,g3,g4,g5⟩:=nmB_good h2 h1 h4 h8 h6 h9 h10 h12 h13;omega),by rfl,by (obtain ⟨g1,g2,g3,g4,g5⟩:=nmB_good h2 h1 h4 h8 h6 h9 h10 h12 h13;omega),by (simp;done),by rfl,by (obtain ⟨g1,g2,g3,g4,g5⟩:=nmB_good h2 h1 h4 h8 h6 h9 h10 h12 h13;omega),?_⟩
  trivial
 intro h8
 refine ask_p (bp_not bp_dec) ?_ ?_
 ·intro h9
  refine ⟨⟨([]),⟨(x3.snd.fst),(x0.a)⟩⟩,?_⟩
  try dsimp only
  refine ⟨by exact nmB_no h4 ‹_›,by rfl,by rfl,by rfl,by (simp;done),by rfl,by rfl,?_⟩
  trivial
 intro h9
 exfalso;omega
end Go.Proofs
