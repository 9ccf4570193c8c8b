import Derived.Test.YtoajkmdddjnebaaGreatDoorCallsResultsCD
set_option linter.unusedSimpArgs false
set_option linter.unusedVariables false
namespace Go.Proofs
open Go.Eng
set_option maxRecDepth 100000
abbrev zCD0_0:List UInt8->Nat:=fun x0=>(IntKind.i64.wrap ((↑x0.length:Int)+(1:Int))).toNat
abbrev zCD0_1:List UInt8->Nat:=fun x0=>0+x0.length
abbrev zCD0_2:List UInt8->List UInt8:=fun x0=>List.replicate (zCD0_0 x0) (0:UInt8)
def nf_Open:Prop:=
 ∀(x:List UInt8),x.length<1099511627000->true=true/\(0:Int)<=(0:Int)/\(0:Int)<=IntKind.i64.wrap ((↑x.length:Int)+(1:Int))/\1*zCD0_0 x<=1099511627776/\zCD0_0 x<=1099511627776/\0<=(zCD0_2 x).length/\Eng.ask (leNB (zCD0_1 x) (zCD0_0 x)) (zCD0_1 x<=(zCD0_2 x).length/\0=0/\0=0/\0=0/\(true=true->false=true->zCD0_1 x≠0\/zCD0_0 x≠0)/\0+zCD0_1 x<=(x++List.drop (zCD0_1 x) (zCD0_2 x)).length/\x=cutL (x++List.drop (zCD0_1 x) (zCD0_2 x)) 0 (zCD0_1 x)/\(0:Int)=(0:Int)/\True) (zCD0_1 x<1099511627776/\0=0/\0=0/\0=0/\(true=true->true=true->zCD0_1 x≠0\/zCD0_1 x≠0)/\0+zCD0_1 x<=(cutL (zCD0_2 x) 0 0++x).length/\x=cutL (cutL (zCD0_2 x) 0 0++x) 0 (zCD0_1 x)/\(0:Int)=(0:Int)/\True)
theorem eq_Open:vc_Open=nf_Open:=by kernel_rfl
theorem pf_Open:nf_Open:=by
 delta nf_Open zCD0_0 zCD0_1 zCD0_2
 intro x0
 intro h1
 refine ⟨by rfl,by decide,by (rw [wrap_succ _ (by omega)];omega),by (rw [wrap_succ _ (by omega)];omega),by (rw [wrap_succ _ (by omega)];omega),by (have:=wrap_succ x0.length (by omega);simp only [this,Int.toNat_natCast] at*;simp [cutL];done),?_⟩
 refine ask_p bp_le ?_ ?_
 ·intro h2
  refine ⟨by (have:=wrap_succ x0.length (by omega);simp only [this,Int.toNat_natCast] at*;simp [cutL];done),by rfl,by rfl,by rfl,by (simp;done),by (have:=wrap_succ x0.length (by omega);simp only [this,Int.toNat_natCast] at*;simp [cutL];done),by (have:=wrap_succ x0.length (by omega);simp only [this,Int.toNat_natCast] at*;simp [cutL];done),by rfl,?_⟩
  trivial
 intro h2
 refine ⟨by omega,by rfl,by rfl,by rfl,?_⟩
 refine ⟨?_,?_⟩
 ·intro h3
  intro h4
  omega
 refine ⟨by (have:=wrap_succ x0.length (by omega);simp only [this,Int.toNat_natCast] at*;simp [cutL];done),by (have:=wrap_succ x0.length (by omega);simp only [this,Int.toNat_natCast] at*;simp [cutL];done),by rfl,?_⟩
 trivial
abbrev zCD1_1:Prop:=true=true->true=true
abbrev zCD1_2:XRdM->Nat×Int×Nat->Prop->Prop:=fun x0 x1 p=>FCntR x0.most x0.l x0.a x1/\(↑x1.fst:Int)=(0:Int)/\p
abbrev zCD1_3:Bool->Prop:=fun x0=>x0=true->x0=true->x0=true
abbrev zCD1_0:Bool->Prop->Prop:=fun x0 p=>zCD1_3 x0/\zCD1_3 x0/\p
def nf_count:Prop:=
 ∀(x:XRdM),FRdOk x.l x.a/\x.most<1048577->Eng.ask (decide ((↑x.most:Int)<(0:Int))) (∃(x_1:Nat×Int×Nat),zCD1_2 x x_1 (x_1.snd.fst=(2:Int)/\zCD1_1/\x.l=x.l/\Eq (α:=Int) (↑x_1.snd.snd:Int) (↑x.a:Int)/\True)) (∃(x_1:XRd),(x_1.a<=x_1.l.length/\x_1.l.length<1099511627776)/\0=0/\0=0/\0=0/\zCD1_1/\x_1.l=x.l/\Eq (α:=Int) (↑x_1.a:Int) (↑x.a:Int)/\Eng.ask (FNumP x_1.l x_1.a).isSome (∀(x_2:Nat×Nat),FNumP x_1.l x_1.a=some x_2->True/\∀(q:Bool),q=decide ((0:Int)=(0:Int))->zCD1_0 q (zCD1_3 q/\(true=true->q=true->q=true)/\Eng.ask (bif q then decide (IntKind.u64.wrap (↑x.most:Int)<(↑x_2.fst:Int)) else false) (∃(x_3:Nat×Int×Nat),zCD1_2 x x_3 (x_3.snd.fst=(3:Int)/\zCD1_1/\x.l=x_1.l/\Eq (α:=Int) (↑x_3.snd.snd:Int) (↑x_2.snd:Int)/\True)) (∃(x_3:Nat×Int×Nat),FCntR x.most x.l x.a x_3/\(↑x_3.fst:Int)=IntKind.i64.wrap (↑x_2.fst:Int)/\x_3.snd.fst=(0:Int)/\zCD1_1/\x.l=x_1.l/\Eq (α:=Int) (↑x_3.snd.snd:Int) (↑x_2.snd:Int)/\True))) (True/\∀(q:Bool),q=decide ((4:Int)=(0:Int))->zCD1_0 q (zCD1_3 q/\(true=true->q=true->q=true)/\Eng.ask (bif q then decide (IntKind.u64.wrap (↑x.most:Int)<(0:Int)) else false) (∃(x_2:Nat×Int×Nat),zCD1_2 x x_2 (x_2.snd.fst=(3:Int)/\zCD1_1/\x.l=x_1.l/\Eq (α:=Int) (↑x_2.snd.snd:Int) (↑x_1.a:Int)/\True)) (∃(x_2:Nat×Int×Nat),zCD1_2 x x_2 (x_2.snd.fst=(4:Int)/\zCD1_1/\x.l=x_1.l/\Eq (α:=Int) (↑x_2.snd.snd:Int) (↑x_1.a:Int)/\True)))))
theorem eq_count:vc_count=nf_count:=by kernel_rfl
theorem pf_count:nf_count:=by
 delta nf_count zCD1_1 zCD1_2 zCD1_3 zCD1_0
 intro x0
 intro ⟨h1,h2⟩
 refine ask_p bp_dec ?_ ?_
 ·intro h3
  exfalso;omega
 intro h3
 refine ⟨⟨(x0.l),(x0.a)⟩,?_⟩
 try dsimp only
 refine ⟨?_,?_⟩
 ·refine ⟨by exact h1.1,?_⟩
  exact Nat.lt_trans h1.2 (by omega)
 refine ⟨by rfl,by rfl,by rfl,by (simp;done),by rfl,by rfl,?_⟩
 refine ask_p bp_id ?_ ?_
 ·intro h4
  intro x5
  intro h6
  refine ⟨by trivial,?_⟩
  intro q7 hq7;subst hq7
  refine ⟨by (simp;done),by (simp;done),by (simp;done),by (simp;done),?_⟩
  refine ask_p (bp_and bp_dec bp_dec) ?_ ?_
  ·intro ⟨h8,h9⟩
   refine ⟨⟨(((0:Int):Int)).toNat,⟨((3:Int)),(x5.snd)⟩⟩,?_⟩
   try dsimp only
   refine ⟨by exact (cntR_num h1 h2 rfl h6).1 h9,by decide,by rfl,by (simp;done),by rfl,by rfl,?_⟩
   trivial
  intro h8
  refine ⟨⟨((IntKind.i64.wrap (↑x5.fst:Int):Int)).toNat,⟨((0:Int)),(x5.snd)⟩⟩,?_⟩
  try dsimp only
  refine ⟨by exact ((cntR_num h1 h2 rfl h6).2 (fun h=>h8 ⟨rfl,h⟩)).1,by exact ((cntR_num h1 h2 rfl h6).2 (fun h=>h8 ⟨rfl,h⟩)).2,by rfl,by (simp;done),by rfl,by rfl,?_⟩
  trivial
 intro h4
 refine ⟨by trivial,?_⟩
 intro q5 hq5;subst hq5
 refine ⟨by (simp;done),by (simp;done),by (simp;done),by (simp;done),?_⟩
 refine ask_p (bp_and bp_dec bp_dec) ?_ ?_
 ·intro ⟨h6,h7⟩
  exfalso;omega
 intro h6
 refine ⟨⟨(((0:Int):Int)).toNat,⟨((4:Int)),(x0.a)⟩⟩,?_⟩
 try dsimp only
 refine ⟨by exact cntR_no h1 h4,by decide,by rfl,by (simp;done),by rfl,by rfl,?_⟩
 trivial
abbrev zCD2_3:Prop:=true=true->true=true
abbrev zCD2_4:XRdM->List UInt8×Int×Nat->Prop->Prop:=fun x0 x1 p=>FByR x0.most x0.l x0.a x1/\false=false/\x1.fst=[]/\p
abbrev zCD2_5:List UInt8×Int×Nat->XRdM->Prop:=fun x0 x1=>Eq (α:=Int) (↑x0.snd.snd:Int) (↑x1.a:Int)/\True
abbrev zCD2_6:XRdM->Int->Int->List UInt8:=fun x0 a1 a2=>cutL x0.l a1.toNat (a2.toNat-a1.toNat)
abbrev zCD2_9:Bool->Prop:=fun x0=>x0=true->x0=true
abbrev zCD2_1:XRdM->Int->Int->Nat:=fun x0 a1 a2=>0+(zCD2_6 x0 a1 a2).length
abbrev zCD2_2:Bool->Prop->Prop:=fun x0 p=>(x0=true->zCD2_9 x0)/\(x0=true->zCD2_9 x0)/\p
abbrev zCD2_7:XRdM->XRdM->Prop:=fun x0 x1=>∃(x:List UInt8×Int×Nat),zCD2_4 x0 x (x.snd.fst=(4:Int)/\zCD2_3/\x0.l=x1.l/\zCD2_5 x x0)
abbrev zCD2_8:Bool->Prop->Prop:=fun x0 p=>(true=true->true=true->x0=true)/\(true=true->zCD2_3)/\p
abbrev zCD2_0:Nat×Int×Nat->XRdM->XRdM->Prop:=fun x0 x1 x2=>Eng.ask (!decide (x0.snd.fst=(0:Int))) (∃(x:List UInt8×Int×Nat),zCD2_4 x1 x (x.snd.fst=x0.snd.fst/\zCD2_3/\x1.l=x2.l/\zCD2_5 x x1)) (∀(q:Int),q=IntKind.i64.wrap (HAdd.hAdd (α:=Int) (↑x0.snd.snd:Int) (↑x0.fst:Int))->∀(q_1:Int),q_1=IntKind.i64.wrap (q- (↑x0.fst:Int))->(0:Int)<=q_1/\(0:Int)<=q/\q.toNat<=x2.l.length/\q_1.toNat<=q.toNat/\0<=0/\Eng.ask (leNB (zCD2_1 x2 q_1 q) 0) (zCD2_1 x2 q_1 q<=0/\∃(x:List UInt8×Int×Nat),FByR x1.most x1.l x1.a x/\(false=true->false=true->zCD2_1 x2 q_1 q≠0\/0≠0)/\0+zCD2_1 x2 q_1 q<=(zCD2_6 x2 q_1 q++List.drop (zCD2_1 x2 q_1 q) []).length/\x.fst=cutL (zCD2_6 x2 q_1 q++List.drop (zCD2_1 x2 q_1 q) []) 0 (zCD2_1 x2 q_1 q)/\x.snd.fst=(0:Int)/\zCD2_3/\x1.l=x2.l/\(↑x.snd.snd:Int)=q/\True) (zCD2_1 x2 q_1 q<1099511627776/\∃(x:List UInt8×Int×Nat),FByR x1.most x1.l x1.a x/\(false=true->true=true->zCD2_1 x2 q_1 q≠0\/zCD2_1 x2 q_1 q≠0)/\0+zCD2_1 x2 q_1 q<=(cutL [] 0 0++zCD2_6 x2 q_1 q).length/\x.fst=cutL (cutL [] 0 0++zCD2_6 x2 q_1 q) 0 (zCD2_1 x2 q_1 q)/\x.snd.fst=(0:Int)/\zCD2_3/\x1.l=x2.l/\(↑x.snd.snd:Int)=q/\True))
def nf_RdBytes:Prop:=
 ∀(x:XRdM),FRdOk x.l x.a/\x.most<1048577->∀(q:Bool),q=true->zCD2_2 q (zCD2_2 q ((true=true->zCD2_9 q)/\Eng.ask (!bif q then true else false) (∃(x_1:List UInt8×Int×Nat),zCD2_4 x x_1 (x_1.snd.fst=(1:Int)/\zCD2_3/\x.l=x.l/\zCD2_5 x_1 x)) (∃(x_1:XRdM),(FRdOk x_1.l x_1.a/\x_1.most<1048577)/\0=0/\0=0/\0=0/\Eq (α:=Int) (↑x_1.most:Int) (↑x.most:Int)/\zCD2_3/\x_1.l=x.l/\Eq (α:=Int) (↑x_1.a:Int) (↑x.a:Int)/\∀(x_2:Nat×Int×Nat),FCntR x_1.most x_1.l x_1.a x_2->True/\∀(q:Bool),q=decide (x_2.snd.fst=(0:Int))->Eng.ask q ((true=true->q=true)/\∀(q_1:Bool),q_1=true->zCD2_2 q_1 (zCD2_2 q_1 ((true=true->zCD2_9 q_1)/\Eng.ask (!bif q_1 then true else false) (zCD2_8 q (Eng.ask (bif true then decide ((0:Int)<(↑x_2.fst:Int)) else false) (zCD2_7 x x_1) (zCD2_0 x_2 x x_1))) (∀(q_2:Int),q_2=IntKind.i64.wrap (HSub.hSub (α:=Int) (↑x_1.l.length:Int) (↑x_2.snd.snd:Int))->zCD2_8 q (Eng.ask (bif true then decide (q_2<(↑x_2.fst:Int)) else false) (zCD2_7 x x_1) (zCD2_0 x_2 x x_1)))))) (zCD2_0 x_2 x x_1))))
theorem eq_RdBytes:vc_RdBytes=nf_RdBytes:=by kernel_rfl
theorem pf_RdBytes:nf_RdBytes:=by
 delta nf_RdBytes zCD2_3 zCD2_4 zCD2_5 zCD2_6 zCD2_9 zCD2_1 zCD2_2 zCD2_7 zCD2_8 zCD2_0
 intro x0
 intro ⟨h1,h2⟩
 intro q3 hq3;subst hq3
 refine ⟨by (simp;done),by (simp;done),by (simp;done),by (simp;done),by (simp;done),?_⟩
 refine ask_p (bp_nott (bp_andl bp_true bp_true)) (fun h=>h.elim) ?_
 intro _
 refine ⟨⟨(x0.l),(x0.a),(x0.most)⟩,?_⟩
 try dsimp only
 refine ⟨?_,?_⟩
 ·refine ⟨by omega,?_⟩
  omega
 refine ⟨by rfl,by rfl,by rfl,by rfl,by (simp;done),by rfl,by rfl,?_⟩
 intro x4
 intro h5
 refine ⟨by trivial,?_⟩
 intro q6 hq6;subst hq6
 refine ask_p bp_dec ?_ ?_
 ·intro h7
  refine ⟨?_,?_⟩
  ·intro h8
   grind
  intro q8 hq8;subst hq8
  refine ⟨by (simp;done),by (simp;done),by (simp;done),by (simp;done),by (simp;done),?_⟩
  refine ask_p (bp_nott (bp_andl bp_true bp_true)) (fun h=>h.elim) ?_
  intro _
  intro q9 h9
  refine ⟨?_,?_⟩
  ·intro h10
   intro h11
   grind
  refine ⟨by (simp;done),?_⟩
  refine ask_p (bp_andl bp_true bp_dec) ?_ ?_
  ·intro h10
   refine ⟨⟨([]),⟨((4:Int)),(x0.a)⟩⟩,?_⟩
   try dsimp only
   refine ⟨by exact byR_short h1 h5 h7 h9 h10,by rfl,by rfl,by rfl,by (simp;done),by rfl,by rfl,?_⟩
   trivial
  intro h10
  refine ask_p (bp_not bp_dec) ?_ ?_
  ·intro h11
   exfalso;omega
  intro h11
  intro q12 h12
  intro q13 h13
  refine ⟨by (obtain ⟨g1,g2,g3,g4,g5⟩:=byR_good h1 h5 h7 h9 h10 h12 h13;omega),by (obtain ⟨g1,g2,g3,g4,g5⟩:=byR_good h1 h5 h7 h9 h10 h12 h13;omega),by (obtain ⟨g1,g2,g3,g4,g5⟩:=byR_good h1 h5 h7 h9 h10 h12 h13;omega),by (obtain ⟨g1,g2,g3,g4,g5⟩:=byR_good h1 h5 h7 h9 h10 h12 h13;omega),by decide,?_⟩
  refine ask_p bp_le ?_ ?_
  ·intro h14
   refine ⟨by (obtain ⟨g1,g2,g3,g4,g5⟩:=byR_good h1 h5 h7 h9 h10 h12 h13;omega),?_⟩
   refine ⟨⟨(cutL (cutL x0.l q13.toNat (q12.toNat-q13.toNat)++List.drop (0+(cutL x0.l q13.toNat (q12.toNat-q13.toNat)).length) []) 0 (0+(cutL x0.l q13.toNat (q12.toNat-q13.toNat)).length)),⟨((0:Int)),((q12:Int)).toNat⟩⟩,?_⟩
   try dsimp only
   refine ⟨by (obtain ⟨g1,g2,g3,g4,g5⟩:=byR_good h1 h5 h7 h9 h10 h12 h13;subst g3 g4;simp only [Int.toNat_natCast];rw [rd_val1 g2];exact .inl ⟨rfl,g1⟩),by (simp;done),by (obtain ⟨g1,g2,g3,g4,g5⟩:=byR_good h1 h5 h7 h9 h10 h12 h13;omega),by rfl,by (obtain ⟨g1,g2,g3,g4,g5⟩:=byR_good h1 h5 h7 h9 h10 h12 h13;omega),by (simp;done),by rfl,by (obtain ⟨g1,g2,g3,g4,g5⟩:=byR_good h1 h5 h7 h9 h10 h12 h13;omega),?_⟩
   trivial
  intro h14
  refine ⟨by (obtain ⟨g1,g2,g3,g4,g5⟩:=byR_good h1 h5 h7 h9 h10 h12 h13;subst g3 g4;simp only [Int.toNat_natCast] at*;simp [cutL] at*;omega),?_⟩
  refine ⟨⟨(cutL (cutL [] 0 0++cutL x0.l q13.toNat (q12.toNat-q13.toNat)) 0 (0+(cutL x0.l q13.toNat (q12.toNat-q13.toNat)).length)),⟨((0:Int)),((q12:Int)).toNat⟩⟩,?_⟩
  try dsimp only
  refine ⟨by (obtain ⟨g1,g2,g3,g4,g5⟩:=byR_good h1 h5 h7 h9 h10 h12 h13;subst g3 g4;simp only [Int.toNat_natCast];rw [rd_val2 g2];exact .inl ⟨rfl,g1⟩),by (simp;done),by grind,by rfl,by (obtain ⟨g1,g2,g3,g4,g5⟩:=byR_good h1 h5 h7 h9 h10 h12 h13;omega),by (simp;done),by rfl,by (obtain ⟨g1,g2,g3,g4,g5⟩:=byR_good h1 h5 h7 h9 h10 h12 h13;omega),?_⟩
  trivial
 intro h7
 refine ask_p (bp_not bp_dec) ?_ ?_
 ·intro h8
  refine ⟨⟨([]),⟨(x4.snd.fst),(x0.a)⟩⟩,?_⟩
  try dsimp only
  refine ⟨by exact byR_fail h5 ‹_›,by rfl,by rfl,by rfl,by (simp;done),by rfl,by rfl,?_⟩
  trivial
 intro h8
 exfalso;omega
abbrev zCD3_4:XRd->Prop->Prop:=fun x0 p=>(true=true->true=true)/\x0.l=x0.l/\p
abbrev zCD3_5:XRd->Int:=fun x0=>IntKind.i64.wrap (IntKind.i64.wrap ((↑x0.a:Int)+(1:Int))- (1:Int))
abbrev zCD3_6:Bool->Prop:=fun x0=>(bif false then x0 else !x0)=true
abbrev zCD3_7:Bool->Prop:=fun x0=>x0=true->x0=true
abbrev zCD3_1:Bool->XRd->Prop:=fun x0 x1=>Eng.ask (bif x0 then true else decide ((1:Int)<(↑(x1.l.getD (Int.toNat (↑x1.a:Int)) (0:UInt8)).toNat:Int))) (∃(x:Bool×Int×Nat),FFlR x1.l x1.a x/\x.fst=false/\x.snd.fst=(4:Int)/\zCD3_4 x1 (Eq (α:=Int) (↑x.snd.snd:Int) (↑x1.a:Int)/\True)) ((0:Int)<=zCD3_5 x1/\(zCD3_5 x1).toNat<x1.l.length/\∃(x:Bool×Int×Nat),FFlR x1.l x1.a x/\x.fst=decide ((↑(x1.l.getD (zCD3_5 x1).toNat (0:UInt8)).toNat:Int)=(1:Int))/\x.snd.fst=(0:Int)/\zCD3_4 x1 ((↑x.snd.snd:Int)=IntKind.i64.wrap ((↑x1.a:Int)+(1:Int))/\True))
abbrev zCD3_2:Bool->Prop->Prop:=fun x0 p=>(zCD3_6 x0->zCD3_6 x0->zCD3_6 x0)/\(zCD3_6 x0->zCD3_6 x0->zCD3_6 x0)/\p
abbrev zCD3_3:Bool->Prop->Prop:=fun x0 p=>(x0=true->zCD3_7 x0)/\(x0=true->zCD3_7 x0)/\p
abbrev zCD3_0:Bool->Prop->Prop:=fun x0 p=>zCD3_2 x0 (zCD3_2 x0 p)
abbrev zCD3_8:Bool->XRd->Prop:=fun x0 x1=>zCD3_0 x0 (zCD3_0 x0 ((zCD3_6 x0->(0:Int)<=(↑x1.a:Int))/\(zCD3_6 x0->Int.toNat (↑x1.a:Int)<x1.l.length)/\zCD3_2 x0 ((true=true->x0=false->zCD3_6 x0)/\zCD3_1 x0 x1)))
def nf_RdFlag:Prop:=
 ∀(x:XRd),FRdOk x.l x.a->∀(q:Bool),q=true->zCD3_3 q (zCD3_3 q ((true=true->zCD3_7 q)/\Eng.ask (!bif q then true else false) (∃(x_1:Bool×Int×Nat),FFlR x.l x.a x_1/\x_1.fst=false/\x_1.snd.fst=(1:Int)/\zCD3_4 x (Eq (α:=Int) (↑x_1.snd.snd:Int) (↑x.a:Int)/\True)) (∀(q:Bool),q=true->zCD3_3 q (zCD3_3 q ((true=true->zCD3_7 q)/\Eng.ask (!bif q then true else false) (∀(q:Bool),q=decide ((0:Int)=(0:Int))->zCD3_8 q x) (∀(q:Int),q=IntKind.i64.wrap (HSub.hSub (α:=Int) (↑x.l.length:Int) (↑x.a:Int))->∀(q_1:Bool),q_1=decide (q=(0:Int))->zCD3_8 q_1 x))))))
theorem eq_RdFlag:vc_RdFlag=nf_RdFlag:=by kernel_rfl
theorem pf_RdFlag:nf_RdFlag:=by
 delta nf_RdFlag zCD3_4 zCD3_5 zCD3_6 zCD3_7 zCD3_1 zCD3_2 zCD3_3 zCD3_0 zCD3_8
 intro x0
 intro h1
 intro q2 hq2;subst hq2
 refine ⟨by (simp;done),by (simp;done),by (simp;done),by (simp;done),by (simp;done),?_⟩
 refine ask_p (bp_nott (bp_andl bp_true bp_true)) (fun h=>h.elim) ?_
 intro _
 intro q3 hq3;subst hq3
 refine ⟨by (simp;done),by (simp;done),by (simp;done),by (simp;done),by (simp;done),?_⟩
 refine ask_p (bp_nott (bp_andl bp_true bp_true)) (fun h=>h.elim) ?_
 intro _
 intro q4 h4
 intro q5 hq5;subst hq5
 refine ⟨by (simp;done),by (simp;done),by (simp;done),by (simp;done),by (simp;done),by (simp;done),by (simp;done),by (simp;done),by (simp;done),?_⟩
 refine ⟨?_,?_⟩
 ·intro h6
  exact fl_in h1 h4 (by simp_all)
 refine ⟨by (simp;done),by (simp;done),by (simp;done),?_⟩
 refine ask_p (bp_or bp_dec bp_dec) ?_ ?_
 ·intro h6
  refine ⟨⟨(false),⟨((4:Int)),(x0.a)⟩⟩,?_⟩
  try dsimp only
  refine ⟨by exact flR_bad h1 h4 h6,by rfl,by rfl,by (simp;done),by rfl,by rfl,?_⟩
  trivial
 intro h6
 refine ⟨by (have hh:=fl_good h1 h4 h6;rw [wrap_incdec (by omega)];omega),by (have hh:=fl_good h1 h4 h6;rw [wrap_incdec (by omega)];omega),?_⟩
 refine ⟨⟨(decide ((↑(x0.l.getD (IntKind.i64.wrap (IntKind.i64.wrap ((↑x0.a:Int)+(1:Int))- (1:Int))).toNat (0:UInt8)).toNat:Int)=(1:Int))),⟨((0:Int)),((IntKind.i64.wrap ((↑x0.a:Int)+(1:Int)):Int)).toNat⟩⟩,?_⟩
 try dsimp only
 refine ⟨by exact flR_good h1 h4 h6,by rfl,by rfl,by (simp;done),by rfl,by (have hh:=fl_good h1 h4 h6;rw [wrap_succ _ (by omega)];omega),?_⟩
 trivial
abbrev zCD4_1:Prop:=true=true->true=true
abbrev zCD4_0:XRd->XRdM->List UInt8×Int×Nat->Prop:=fun x0 x1 x2=>Eng.ask (FPRow x0.l x0.a).isSome (∃(x:LRow×Nat),FPRow x0.l x0.a=some x/\False) (∃(x:Nat),True/\zCD4_1/\x0.l=x1.l/\Eq (α:=Int) (↑x:Int) (↑x2.snd.snd:Int)/\True)
def nf_readRow:Prop:=
 ∀(x:XRd),FRdOk x.l x.a->∃(x_1:XRdM),(FRdOk x_1.l x_1.a/\x_1.most<1048577)/\0=0/\0=0/\0=0/\(↑x_1.most:Int)=(64:Int)/\zCD4_1/\x_1.l=x.l/\Eq (α:=Int) (↑x_1.a:Int) (↑x.a:Int)/\∀(x_2:List UInt8×Int×Nat),FByR x_1.most x_1.l x_1.a x_2->True/\Eng.ask (!decide (x_2.snd.fst=(0:Int))) (zCD4_0 x x_1 x_2) (∃(x_3:XRdM),(FRdOk x_3.l x_3.a/\x_3.most<1048577)/\0=0/\0=0/\0=0/\(↑x_3.most:Int)=(256:Int)/\zCD4_1/\x_3.l=x_1.l/\Eq (α:=Int) (↑x_3.a:Int) (↑x_2.snd.snd:Int)/\∀(x_4:List UInt8×Int×Nat),FByR x_3.most x_3.l x_3.a x_4->True/\Eng.ask (!decide (x_4.snd.fst=(0:Int))) (zCD4_0 x x_3 x_4) (Eng.ask (FPRow x.l x.a).isSome (∃(x_5:LRow×Nat),FPRow x.l x.a=some x_5/\(false=true->false=true)/\x_5.fst.key=x_2.fst/\(false=true->false=true)/\x_5.fst.value=x_4.fst/\(0:Int)=(0:Int)/\zCD4_1/\x.l=x_3.l/\Eq (α:=Int) (↑x_5.snd:Int) (↑x_4.snd.snd:Int)/\True) (∃(x:Nat),True/\False)))
theorem eq_readRow:vc_readRow=nf_readRow:=by kernel_rfl
theorem pf_readRow:nf_readRow:=by
 delta nf_readRow zCD4_1 zCD4_0
 intro x0
 intro h1
 refine ⟨⟨(x0.l),(x0.a),(((64:Int):Int)).toNat⟩,?_⟩
 try dsimp only
 refine ⟨?_,?_⟩
 ·refine ⟨by exact h1,?_⟩
  decide
 refine ⟨by rfl,by rfl,by rfl,by decide,by (simp;done),by rfl,by rfl,?_⟩
 intro x2
 intro h3
 refine ⟨by trivial,?_⟩
 refine ask_p (bp_not bp_dec) ?_ ?_
 ·intro h4
  refine ask_p bp_id ?_ ?_
  ·intro h5
   exact (some_no (seq_no1 (f:=LRow.mk) (byR_no h3 h4)) h5).elim
  intro h5
  refine ⟨(x2.snd.snd),?_⟩
  try dsimp only
  refine ⟨by trivial,by (simp;done),by rfl,by rfl,?_⟩
  trivial
 intro h4
 refine ⟨⟨(x0.l),(x2.snd.snd),(((256:Int):Int)).toNat⟩,?_⟩
 try dsimp only
 refine ⟨?_,?_⟩
 ·refine ⟨by exact at_ok h1 (by omega) h3,?_⟩
  decide
 refine ⟨by rfl,by rfl,by rfl,by decide,by (simp;done),by rfl,by rfl,?_⟩
 intro x5
 intro h6
 refine ⟨by trivial,?_⟩
 refine ask_p (bp_not bp_dec) ?_ ?_
 ·intro h7
  refine ask_p bp_id ?_ ?_
  ·intro h8
   exact (some_no (seq_no2 (f:=LRow.mk) (byR_ok h3 h4) (byR_no h6 h7)) h8).elim
  intro h8
  refine ⟨(x5.snd.snd),?_⟩
  try dsimp only
  refine ⟨by trivial,by (simp;done),by rfl,by rfl,?_⟩
  trivial
 intro h7
 refine ask_p bp_id ?_ ?_
 ·intro h8
  refine ⟨⟨⟨(x2.fst),(x5.fst)⟩,(x5.snd.snd)⟩,?_⟩
  try dsimp only
  refine ⟨by exact seq_some (f:=LRow.mk) (byR_ok h3 h4) (byR_ok h6 h7),by (simp;done),by rfl,by (simp;done),by rfl,by rfl,by (simp;done),by rfl,by rfl,?_⟩
  trivial
 intro h8
 exact (no_some (seq_some (f:=LRow.mk) (byR_ok h3 h4) (byR_ok h6 h7)) h8).elim
abbrev zCD5_2:Prop:=true=true->true=true
abbrev zCD5_4:XTk LRow->Nat->SV->List SV->Prop:=fun x0 x1 x2 x3=>leV (SV.bytes 1 false (x0.xs.getD x1 (LRow.mk [] [])).key) x2/\leL [SV.bytes 1 false (x0.xs.getD x1 (LRow.mk [] [])).value] x3
abbrev zCD5_5:Bool->Prop:=fun x0=>(bif false then x0 else !x0)=true
abbrev zCD5_6:Prop->Prop:=fun p=>0=0/\0=0/\p
abbrev zCD5_7:Bool->Prop:=fun x0=>x0=true->x0=true
abbrev zCD5_1:Bool->Prop->Prop:=fun x0 p=>(x0=true->zCD5_7 x0)/\(x0=true->zCD5_7 x0)/\p
abbrev zCD5_3:XRd->XTk LRow->XTk LRow->Prop->Prop:=fun x0 x1 x2 p=>FTk 64 FPRow x0.l x0.a x1/\x1.n-x1.i<x2.n-x2.i/\zCD5_6 (0=0/\some 0=some 0/\Eq (α:=Int) (↑x0.a:Int) (↑x0.a:Int)/\Eq (α:=Int) (↑x1.n:Int) (↑x2.n:Int)/\x1.e=(0:Int)/\0=0/\x1.i=x2.i+1/\p)
abbrev zCD5_0:XTk LRow->XRd->XRd->LRow×Nat->Prop:=fun x0 x1 x2 x3=>(x0.i+1)*48<1099511627776/\True/\True/\True/\∃(x':XTk LRow),zCD5_3 x1 x' x0 (x'.i=x0.i+1/\x'.op=true/\(↑x'.i:Int)=IntKind.i64.wrap ((↑x0.i:Int)+(1:Int))/\zCD5_2/\x1.l=x2.l/\Eq (α:=Int) (↑x'.at_:Int) (↑x3.snd:Int)/\x'.i=x0.i+1/\(∀(i:Nat),i<x'.i->match (fun (i:Nat)=>bif i.blt x0.i then [SV.bytes 1 false (x0.xs.getD (0+i) (LRow.mk [] [])).key,SV.bytes 1 false (x0.xs.getD (0+i) (LRow.mk [] [])).value] else List.take 2 (List.drop ((0+(i-x0.i))*2) [SV.bytes 1 false x3.fst.key,SV.bytes 1 false x3.fst.value])) i with | b::y=>zCD5_4 x' i b y | x=>False)/\True)
def nf_TakeRow:Prop:=
 ∀(x:XRd),FRdOk x.l x.a->∀(q:Bool),q=true->zCD5_1 q (zCD5_1 q ((true=true->zCD5_7 q)/\∀(q_1:Bool),(q_1= !bif q then true else false)->(zCD5_5 q_1->zCD5_5 q_1->zCD5_5 q_1)/\(true=true->q_1=false->zCD5_5 q_1)/\Eng.ask (bif q_1 then true else false) (Eng.ask (FTkP 64 FPRow x.l x.a) (∃(x:Nat),True/\False) (∃(x_1:List LRow×Int×Nat),FTkR 64 FPRow x.l x.a x_1/\false=false/\x_1.fst.length=0/\x_1.snd.fst=(1:Int)/\zCD5_2/\x.l=x.l/\Eq (α:=Int) (↑x_1.snd.snd:Int) (↑x.a:Int)/\True)) (∃(x_1:XRdM),(FRdOk x_1.l x_1.a/\x_1.most<1048577)/\zCD5_6 (0=0/\(↑x_1.most:Int)=(64:Int)/\zCD5_2/\x_1.l=x.l/\Eq (α:=Int) (↑x_1.a:Int) (↑x.a:Int)/\∀(x_2:Nat×Int×Nat),FCntR x_1.most x_1.l x_1.a x_2->True/\(∃(x_3:XTk LRow),FTk 64 FPRow x.l x.a x_3/\zCD5_6 (0=0/\some 0=some 0/\Eq (α:=Int) (↑x.a:Int) (↑x.a:Int)/\Eq (α:=Int) (↑x_3.n:Int) (↑x_2.fst:Int)/\x_3.e=x_2.snd.fst/\0=0/\x_3.i=0/\x_3.i=0/\x_3.op=false/\(↑x_3.i:Int)=(0:Int)/\zCD5_2/\x.l=x_1.l/\Eq (α:=Int) (↑x_3.at_:Int) (↑x_2.snd.snd:Int)/\x_3.i=0/\(∀(i:Nat),i<x_3.i->False)/\True))/\True/\∀(x_3:XTk LRow),FTk 64 FPRow x.l x.a x_3->∀(q:Bool),q=decide (x_3.e=(0:Int))->zCD5_1 q ((true=true->zCD5_7 q)/\Eng.ask (bif q then decide (LT.lt (α:=Int) (↑x_3.i:Int) (↑x_3.n:Int)) else false) (∃(x_4:XRd),FRdOk x_4.l x_4.a/\zCD5_6 (0=0/\zCD5_2/\x_4.l=x.l/\Eq (α:=Int) (↑x_4.a:Int) (↑x_3.at_:Int)/\Eng.ask (FPRow x_4.l x_4.a).isSome (∀(x_5:LRow×Nat),FPRow x_4.l x_4.a=some x_5->True/\0+x_3.i<=x_3.i/\Eng.ask x_3.op ((x_3.i=x_3.i/\0=0/\x_3.i=x_3.i/\56=56)/\zCD5_0 x_3 x x_4 x_5) (Eng.ask (leNB (x_3.i+1) x_3.i) (0+x_3.i+1<=x_3.i/\True/\True/\True/\∃(x':XTk LRow),zCD5_3 x x' x_3 (x'.i=x_3.i/\x'.op=false/\(↑x'.i:Int)=IntKind.i64.wrap ((↑x_3.i:Int)+(1:Int))/\zCD5_2/\x.l=x_4.l/\Eq (α:=Int) (↑x'.at_:Int) (↑x_5.snd:Int)/\x'.i=x_3.i/\(∀(i:Nat),i<x'.i->match (fun (i:Nat)=>bif i.blt (0+x_3.i) then [SV.bytes 1 false (x_3.xs.getD i (LRow.mk [] [])).key,SV.bytes 1 false (x_3.xs.getD i (LRow.mk [] [])).value] else bif i.blt (0+x_3.i+1) then List.take 2 (List.drop ((0+(i- (0+x_3.i)))*2) [SV.bytes 1 false x_5.fst.key,SV.bytes 1 false x_5.fst.value]) else [SV.bytes 1 false (x_3.xs.getD i (LRow.mk [] [])).key,SV.bytes 1 false (x_3.xs.getD i (LRow.mk [] [])).value]) i with | b::y=>zCD5_4 x' i b y | x=>False)/\True)) (zCD5_0 x_3 x x_4 x_5))) (∀(x_5:Nat),True->True/\Eng.ask (FTkP 64 FPRow x.l x.a) (∃(x_6:Nat),True/\zCD5_2/\x.l=x_4.l/\Eq (α:=Int) (↑x_6:Int) (↑x_5:Int)/\True) (∃(x_6:List LRow×Int×Nat),FTkR 64 FPRow x.l x.a x_6/\False)))) (Eng.ask (!decide (x_3.e=(0:Int))) (Eng.ask (FTkP 64 FPRow x.l x.a) (∃(x:Nat),True/\False) (∃(x_4:List LRow×Int×Nat),FTkR 64 FPRow x.l x.a x_4/\false=false/\x_4.fst.length=0/\x_4.snd.fst=x_3.e/\zCD5_2/\x.l=x.l/\Eq (α:=Int) (↑x_4.snd.snd:Int) (↑x.a:Int)/\True)) (Eng.ask (FTkP 64 FPRow x.l x.a) (∃(x:Nat),True/\False) (∃(x_4:List LRow×Int×Nat),FTkR 64 FPRow x.l x.a x_4/\(false=true->x_3.op=true->x_3.i≠0\/x_3.i≠0)/\x_4.fst.length=x_3.i/\0+x_3.i<=x_3.i/\(∀(i:Nat),i<x_4.fst.length->(true=true/\(false=true->false=true)/\(x_4.fst.getD i (LRow.mk [] [])).key=(x_3.xs.getD (0+i) (LRow.mk [] [])).key)/\(true=true/\(false=true->false=true)/\(x_4.fst.getD i (LRow.mk [] [])).value=(x_3.xs.getD (0+i) (LRow.mk [] [])).value)/\True)/\x_4.snd.fst=(0:Int)/\zCD5_2/\x.l=x.l/\Eq (α:=Int) (↑x_4.snd.snd:Int) (↑x_3.at_:Int)/\True))))))))
theorem eq_TakeRow:vc_TakeRow=nf_TakeRow:=by kernel_rfl
theorem pf_TakeRow:nf_TakeRow:=by
 delta nf_TakeRow zCD5_2 zCD5_4 zCD5_5 zCD5_6 zCD5_7 zCD5_1 zCD5_3 zCD5_0
 intro x0
 intro h1
 intro q2 hq2;subst hq2
 refine ⟨by (simp;done),by (simp;done),by (simp;done),by (simp;done),by (simp;done),?_⟩
 intro q3 hq3;subst hq3
 refine ⟨by (simp;done),by (simp;done),?_⟩
 refine ask_p (bp_andfl (bp_nott (bp_andl bp_true bp_true)) bp_true) (fun h=>h.elim) ?_
 intro _
 refine ⟨⟨(x0.l),(x0.a),(((64:Int):Int)).toNat⟩,?_⟩
 try dsimp only
 refine ⟨?_,?_⟩
 ·refine ⟨by exact h1,?_⟩
  decide
 refine ⟨by rfl,by rfl,by rfl,by decide,by (simp;done),by rfl,by rfl,?_⟩
 intro x4
 intro h5
 refine ⟨by trivial,?_⟩
 refine ⟨?_,?_⟩
 ·refine ⟨⟨0,x4.1,x4.2.2,x4.2.2,[],false,x4.2.1⟩,?_⟩
  try dsimp only
  refine ⟨by exact tk_start h1 h5,by rfl,by rfl,by rfl,by rfl,by rfl,by rfl,by rfl,by rfl,by rfl,by rfl,by rfl,?_⟩
  refine ⟨by decide,by (simp;done),by rfl,by rfl,by rfl,by (simp;done),?_⟩
  trivial
 refine ⟨by trivial,?_⟩
 intro x6
 intro h7
 intro q8 hq8;subst hq8
 refine ⟨by (simp;done),by (simp;done),by (simp;done),?_⟩
 refine ask_p (bp_and bp_dec bp_dec) ?_ ?_
 ·intro ⟨h9,h10⟩
  refine ⟨⟨(x0.l),(x6.at_)⟩,?_⟩
  try dsimp only
  refine ⟨by exact tk_ok h7 h1,by rfl,by rfl,by rfl,by (simp;done),by rfl,by rfl,?_⟩
  refine ask_p bp_id ?_ ?_
  ·intro h11
   intro x12
   intro h13
   refine ⟨by trivial,by (have:=tk_n h7;omega),?_⟩
   refine ask_p bp_id ?_ ?_
   ·intro h14
    refine ⟨by (simp;done),by (have:=tk_n h7;omega),by trivial,by trivial,by trivial,?_⟩
    refine ⟨⟨x6.i+1,x6.n,x6.b,x12.2,x6.xs++[x12.1],true,0⟩,?_⟩
    try dsimp only
    refine ⟨by exact tk_step h7 h9 h10 h13 (by have:=(reads_row.sound (tk_ok h7 h1).1 h13).2.2.2;exact this),by (have:=tk_n h7;omega),by rfl,by rfl,by rfl,by rfl,by rfl,by rfl,by rfl,by rfl,by rfl,by rfl,?_⟩
    refine ⟨by rfl,by (have:=tk_n h7;rw [wrap_succ _ (by omega)];done),by (simp;done),by rfl,by rfl,by rfl,?_⟩
    refine ⟨?_,?_⟩
    ·intro i15
     intro h16
     exact row_elem (tk_n h7).2.2 ‹_<_›
    trivial
   intro h14
   refine ask_p bp_le ?_ ?_
   ·intro h15
    exfalso;omega
   intro h15
   refine ⟨by (have:=tk_n h7;omega),by trivial,by trivial,by trivial,?_⟩
   refine ⟨⟨x6.i+1,x6.n,x6.b,x12.2,x6.xs++[x12.1],true,0⟩,?_⟩
   try dsimp only
   refine ⟨by exact tk_step h7 h9 h10 h13 (by have:=(reads_row.sound (tk_ok h7 h1).1 h13).2.2.2;exact this),by (have:=tk_n h7;omega),by rfl,by rfl,by rfl,by rfl,by rfl,by rfl,by rfl,by rfl,by rfl,by rfl,?_⟩
   refine ⟨by rfl,by (have:=tk_n h7;rw [wrap_succ _ (by omega)];done),by (simp;done),by rfl,by rfl,by rfl,?_⟩
   refine ⟨?_,?_⟩
   ·intro i16
    intro h17
    exact row_elem (tk_n h7).2.2 ‹_<_›
   trivial
  intro h11
  intro x12
  intro h13
  refine ⟨by trivial,?_⟩
  refine ask_p bp_id ?_ ?_
  ·intro h14
   refine ⟨(x12),?_⟩
   try dsimp only
   refine ⟨by trivial,by (simp;done),by rfl,by rfl,?_⟩
   trivial
  intro h14
  exact Bool.noConfusion ((tkP_pan h7 h9 h10 h11).symm.trans (Bool.eq_false_iff.2 h14))
 intro h9
 refine ask_p (bp_not bp_dec) ?_ ?_
 ·intro h10
  refine ask_p bp_id ?_ ?_
  ·intro h11
   exact Bool.noConfusion ((tkP_bad h7 h10).symm.trans h11)
  intro h11
  refine ⟨([],x6.e,x0.a),?_⟩
  try dsimp only
  refine ⟨by exact tkR_bad h7 h10,by rfl,by decide,by (have:=tk_n h7;omega),by (simp;done),by rfl,by (have:=tk_n h7;omega),?_⟩
  trivial
 intro h10
 refine ask_p bp_id ?_ ?_
 ·intro h11
  exact Bool.noConfusion ((tkP_end h7 (Classical.not_not.1 h10) h9).symm.trans h11)
 intro h11
 refine ⟨(x6.xs,0,x6.at_),?_⟩
 try dsimp only
 refine ⟨by exact tkR_end h7 (Classical.not_not.1 h10) h9,by (simp;done),by (have:=tk_n h7;omega),by (have:=tk_n h7;omega),by (simp;done),by (have:=tk_n h7;omega),by (simp;done),by rfl,by (have:=tk_n h7;omega),?_⟩
 trivial
abbrev zCD6_0:Prop:=true=true->true=true
abbrev zCD6_1:XRd->Prop:=fun x0=>∃(x:LOut×Nat),FPOut x0.l x0.a=some x/\False
abbrev zCD6_2:Prop:=false=true->false=true
abbrev zCD6_3:Prop->Prop:=fun p=>0=0/\0=0/\p
abbrev zCD6_4:XRd->Bool:=fun x0=>(FPOut x0.l x0.a).isSome
def nf_readOut:Prop:=
 ∀(x:XRd),FRdOk x.l x.a->∃(x_1:XRd),FRdOk x_1.l x_1.a/\zCD6_3 (0=0/\zCD6_0/\x_1.l=x.l/\Eq (α:=Int) (↑x_1.a:Int) (↑x.a:Int)/\∀(x_2:Bool×Int×Nat),FFlR x_1.l x_1.a x_2->True/\Eng.ask (!decide (x_2.snd.fst=(0:Int))) (Eng.ask (zCD6_4 x) (zCD6_1 x) (∃(x_3:Nat),True/\zCD6_0/\x.l=x_1.l/\Eq (α:=Int) (↑x_3:Int) (↑x_2.snd.snd:Int)/\True)) (∀(q:Bool),q=x_2.fst->∃(x_3:XRdM),(FRdOk x_3.l x_3.a/\x_3.most<1048577)/\zCD6_3 (0=0/\(↑x_3.most:Int)=(256:Int)/\zCD6_0/\x_3.l=x_1.l/\Eq (α:=Int) (↑x_3.a:Int) (↑x_2.snd.snd:Int)/\∀(x_4:List UInt8×Int×Nat),FByR x_3.most x_3.l x_3.a x_4->True/\Eng.ask (!decide (x_4.snd.fst=(0:Int))) (Eng.ask (zCD6_4 x) (zCD6_1 x) (∃(x_5:Nat),True/\zCD6_0/\x.l=x_3.l/\Eq (α:=Int) (↑x_5:Int) (↑x_4.snd.snd:Int)/\True)) (∃(x_5:XRd),FRdOk x_5.l x_5.a/\zCD6_3 (0=0/\(64:Int)=(64:Int)/\zCD6_0/\x_5.l=x_3.l/\Eq (α:=Int) (↑x_5.a:Int) (↑x_4.snd.snd:Int)/\Eng.ask (FTkP 64 FPRow x_5.l x_5.a) (∀(x_6:Nat),True->True/\Eng.ask (zCD6_4 x) (zCD6_1 x) (∃(x_7:Nat),True/\zCD6_0/\x.l=x_5.l/\Eq (α:=Int) (↑x_7:Int) (↑x_6:Int)/\True)) (∀(x_6:List LRow×Int×Nat),FTkR 64 FPRow x_5.l x_5.a x_6->True/\Eng.ask (!decide (x_6.snd.fst=(0:Int))) (Eng.ask (zCD6_4 x) (zCD6_1 x) (∃(x_7:Nat),True/\zCD6_0/\x.l=x_5.l/\Eq (α:=Int) (↑x_7:Int) (↑x_6.snd.snd:Int)/\True)) (Eng.ask (zCD6_4 x) (∃(x_7:LOut×Nat),FPOut x.l x.a=some x_7/\x_7.fst.has=q/\zCD6_2/\x_7.fst.value=x_4.fst/\zCD6_2/\x_7.fst.rows.length=x_6.fst.length/\(∀(i:Nat),i<x_7.fst.rows.length->(true=true/\zCD6_2/\(x_7.fst.rows.getD i (LRow.mk [] [])).key=(x_6.fst.getD i (LRow.mk [] [])).key)/\(true=true/\zCD6_2/\(x_7.fst.rows.getD i (LRow.mk [] [])).value=(x_6.fst.getD i (LRow.mk [] [])).value)/\True)/\(0:Int)=(0:Int)/\zCD6_0/\x.l=x_5.l/\Eq (α:=Int) (↑x_7.snd:Int) (↑x_6.snd.snd:Int)/\True) (∃(x:Nat),True/\False))))))))
theorem eq_readOut:vc_readOut=nf_readOut:=by kernel_rfl
theorem pf_readOut:nf_readOut:=by
 delta nf_readOut zCD6_0 zCD6_1 zCD6_2 zCD6_3 zCD6_4
 intro x0
 intro h1
 refine ⟨⟨(x0.l),(x0.a)⟩,?_⟩
 try dsimp only
 refine ⟨by exact h1,by rfl,by rfl,by rfl,by (simp;done),by rfl,by rfl,?_⟩
 intro x2
 intro h3
 refine ⟨by trivial,?_⟩
 refine ask_p (bp_not bp_dec) ?_ ?_
 ·intro h4
  refine ask_p bp_id ?_ ?_
  ·intro h5
   exact (some_no (out_no1 h3 h4) h5).elim
  intro h5
  refine ⟨(x2.snd.snd),?_⟩
  try dsimp only
  refine ⟨by trivial,by (simp;done),by rfl,by rfl,?_⟩
  trivial
 intro h4
 intro q5 hq5;subst hq5
 refine ⟨⟨(x0.l),(x2.snd.snd),(((256:Int):Int)).toNat⟩,?_⟩
 try dsimp only
 refine ⟨?_,?_⟩
 ·refine ⟨by exact flR_at h1 h3,?_⟩
  decide
 refine ⟨by rfl,by rfl,by rfl,by decide,by (simp;done),by rfl,by rfl,?_⟩
 intro x6
 intro h7
 refine ⟨by trivial,?_⟩
 refine ask_p (bp_not bp_dec) ?_ ?_
 ·intro h8
  refine ask_p bp_id ?_ ?_
  ·intro h9
   exact (some_no (out_no2 h3 h4 h7 h8) h9).elim
  intro h9
  refine ⟨(x6.snd.snd),?_⟩
  try dsimp only
  refine ⟨by trivial,by (simp;done),by rfl,by rfl,?_⟩
  trivial
 intro h8
 refine ⟨⟨(x0.l),(x6.snd.snd)⟩,?_⟩
 try dsimp only
 refine ⟨by exact at_ok (flR_at h1 h3) (by omega) h7,by rfl,by rfl,by rfl,by rfl,by (simp;done),by rfl,by rfl,?_⟩
 refine ask_p bp_id ?_ ?_
 ·intro h9
  intro x10
  intro h11
  refine ⟨by trivial,?_⟩
  refine ask_p bp_id ?_ ?_
  ·intro h12
   exact (some_no (out_no3 h3 h4 h7 h8 (tkP_no h9)) h12).elim
  intro h12
  refine ⟨(x10),?_⟩
  try dsimp only
  refine ⟨by trivial,by (simp;done),by rfl,by rfl,?_⟩
  trivial
 intro h9
 intro x10
 intro h11
 refine ⟨by trivial,?_⟩
 refine ask_p (bp_not bp_dec) ?_ ?_
 ·intro h12
  refine ask_p bp_id ?_ ?_
  ·intro h13
   exact (some_no (out_no3 h3 h4 h7 h8 (tkR_no h11 h12)) h13).elim
  intro h13
  refine ⟨(x10.snd.snd),?_⟩
  try dsimp only
  refine ⟨by trivial,by (simp;done),by rfl,by rfl,?_⟩
  trivial
 intro h12
 refine ask_p bp_id ?_ ?_
 ·intro h13
  refine ⟨(⟨x2.1,x6.1,x10.1⟩,x10.2.2),?_⟩
  try dsimp only
  refine ⟨by exact out_some h3 h4 h7 h8 h11 h12,by rfl,by (simp;done),by rfl,by (simp;done),by rfl,by (simp;done),by rfl,by (simp;done),by rfl,by rfl,?_⟩
  trivial
 intro h13
 exact (no_some (out_some h3 h4 h7 h8 h11 h12) h13).elim
abbrev zCD7_1:LOut:=LOut.mk false [] []
abbrev zCD7_3:Prop:=true=true->true=true
abbrev zCD7_5:Prop->Prop:=fun p=>true=true/\(false=true->false=true)/\p
abbrev zCD7_6:Bool->Prop:=fun x0=>(bif false then x0 else !x0)=true
abbrev zCD7_7:Prop->Prop:=fun p=>0=0/\0=0/\p
abbrev zCD7_11:Bool->Prop:=fun x0=>x0=true->x0=true
abbrev zCD7_2:Bool->Prop->Prop:=fun x0 p=>(x0=true->zCD7_11 x0)/\(x0=true->zCD7_11 x0)/\p
abbrev zCD7_4:XRd->XTk LOut->XTk LOut->Prop->Prop:=fun x0 x1 x2 p=>FTk 16 FPOut x0.l x0.a x1/\x1.n-x1.i<x2.n-x2.i/\zCD7_7 (0=0/\some 0=some 0/\Eq (α:=Int) (↑x0.a:Int) (↑x0.a:Int)/\Eq (α:=Int) (↑x1.n:Int) (↑x2.n:Int)/\x1.e=(0:Int)/\0=0/\x1.i=x2.i+1/\p)
abbrev zCD7_8:XTk LOut->Nat->SV->List SV->Prop:=fun x0 x1 x2 x3=>leV (SV.bool (x0.xs.getD x1 zCD7_1).has) x2/\leL [SV.bytes 1 false (x0.xs.getD x1 zCD7_1).value,rowsV 1 (x0.xs.getD x1 zCD7_1).rows] x3
abbrev zCD7_9:XTk LOut->Nat->LOut:=fun x0 x1=>x0.xs.getD (0+x1) zCD7_1
abbrev zCD7_10:List LOut×Int×Nat->Nat->LOut:=fun x0 x1=>x0.fst.getD x1 zCD7_1
abbrev zCD7_0:XTk LOut->XRd->XRd->LOut×Nat->Prop:=fun x0 x1 x2 x3=>(x0.i+1)*56<1099511627776/\True/\True/\True/\∃(x':XTk LOut),zCD7_4 x1 x' x0 (x'.i=x0.i+1/\x'.op=true/\(↑x'.i:Int)=IntKind.i64.wrap ((↑x0.i:Int)+(1:Int))/\zCD7_3/\x1.l=x2.l/\Eq (α:=Int) (↑x'.at_:Int) (↑x3.snd:Int)/\x'.i=x0.i+1/\(∀(i:Nat),i<x'.i->match (fun (i:Nat)=>bif i.blt x0.i then [SV.bool (x0.xs.getD (0+i) (LOut.mk false [] [])).has,SV.bytes 1 false (x0.xs.getD (0+i) (LOut.mk false [] [])).value,SV.imm 1 false (x0.xs.getD (0+i) (LOut.mk false [] [])).rows.length 2 fun i_1=>[SV.bytes 1 false ((x0.xs.getD (0+i) (LOut.mk false [] [])).rows.getD i_1 (LRow.mk [] [])).key,SV.bytes 1 false ((x0.xs.getD (0+i) (LOut.mk false [] [])).rows.getD i_1 (LRow.mk [] [])).value]] else List.take 3 (List.drop ((0+(i-x0.i))*3) [SV.bool x3.fst.has,SV.bytes 1 false x3.fst.value,SV.imm 1 false x3.fst.rows.length 2 fun i=>[SV.bytes 1 false (x3.fst.rows.getD i (LRow.mk [] [])).key,SV.bytes 1 false (x3.fst.rows.getD i (LRow.mk [] [])).value]])) i with | b::y=>zCD7_8 x' i b y | x=>False)/\True)
def nf_TakeOut:Prop:=
 ∀(x:XRd),FRdOk x.l x.a->∀(q:Bool),q=true->zCD7_2 q (zCD7_2 q ((true=true->zCD7_11 q)/\∀(q_1:Bool),(q_1= !bif q then true else false)->(zCD7_6 q_1->zCD7_6 q_1->zCD7_6 q_1)/\(true=true->q_1=false->zCD7_6 q_1)/\Eng.ask (bif q_1 then true else false) (Eng.ask (FTkP 16 FPOut x.l x.a) (∃(x:Nat),True/\False) (∃(x_1:List LOut×Int×Nat),FTkR 16 FPOut x.l x.a x_1/\false=false/\x_1.fst.length=0/\x_1.snd.fst=(1:Int)/\zCD7_3/\x.l=x.l/\Eq (α:=Int) (↑x_1.snd.snd:Int) (↑x.a:Int)/\True)) (∃(x_1:XRdM),(FRdOk x_1.l x_1.a/\x_1.most<1048577)/\zCD7_7 (0=0/\(↑x_1.most:Int)=(16:Int)/\zCD7_3/\x_1.l=x.l/\Eq (α:=Int) (↑x_1.a:Int) (↑x.a:Int)/\∀(x_2:Nat×Int×Nat),FCntR x_1.most x_1.l x_1.a x_2->True/\(∃(x_3:XTk LOut),FTk 16 FPOut x.l x.a x_3/\zCD7_7 (0=0/\some 0=some 0/\Eq (α:=Int) (↑x.a:Int) (↑x.a:Int)/\Eq (α:=Int) (↑x_3.n:Int) (↑x_2.fst:Int)/\x_3.e=x_2.snd.fst/\0=0/\x_3.i=0/\x_3.i=0/\x_3.op=false/\(↑x_3.i:Int)=(0:Int)/\zCD7_3/\x.l=x_1.l/\Eq (α:=Int) (↑x_3.at_:Int) (↑x_2.snd.snd:Int)/\x_3.i=0/\(∀(i:Nat),i<x_3.i->False)/\True))/\True/\∀(x_3:XTk LOut),FTk 16 FPOut x.l x.a x_3->∀(q:Bool),q=decide (x_3.e=(0:Int))->zCD7_2 q ((true=true->zCD7_11 q)/\Eng.ask (bif q then decide (LT.lt (α:=Int) (↑x_3.i:Int) (↑x_3.n:Int)) else false) (∃(x_4:XRd),FRdOk x_4.l x_4.a/\zCD7_7 (0=0/\zCD7_3/\x_4.l=x.l/\Eq (α:=Int) (↑x_4.a:Int) (↑x_3.at_:Int)/\Eng.ask (FPOut x_4.l x_4.a).isSome (∀(x_5:LOut×Nat),FPOut x_4.l x_4.a=some x_5->True/\0+x_3.i<=x_3.i/\Eng.ask x_3.op ((x_3.i=x_3.i/\0=0/\x_3.i=x_3.i/\54=54)/\zCD7_0 x_3 x x_4 x_5) (Eng.ask (leNB (x_3.i+1) x_3.i) (0+x_3.i+1<=x_3.i/\True/\True/\True/\∃(x':XTk LOut),zCD7_4 x x' x_3 (x'.i=x_3.i/\x'.op=false/\(↑x'.i:Int)=IntKind.i64.wrap ((↑x_3.i:Int)+(1:Int))/\zCD7_3/\x.l=x_4.l/\Eq (α:=Int) (↑x'.at_:Int) (↑x_5.snd:Int)/\x'.i=x_3.i/\(∀(i:Nat),i<x'.i->match (fun (i:Nat)=>bif i.blt (0+x_3.i) then [SV.bool (x_3.xs.getD i (LOut.mk false [] [])).has,SV.bytes 1 false (x_3.xs.getD i (LOut.mk false [] [])).value,SV.imm 1 false (x_3.xs.getD i (LOut.mk false [] [])).rows.length 2 fun i_1=>[SV.bytes 1 false ((x_3.xs.getD i (LOut.mk false [] [])).rows.getD i_1 (LRow.mk [] [])).key,SV.bytes 1 false ((x_3.xs.getD i (LOut.mk false [] [])).rows.getD i_1 (LRow.mk [] [])).value]] else bif i.blt (0+x_3.i+1) then List.take 3 (List.drop ((0+(i- (0+x_3.i)))*3) [SV.bool x_5.fst.has,SV.bytes 1 false x_5.fst.value,SV.imm 1 false x_5.fst.rows.length 2 fun i=>[SV.bytes 1 false (x_5.fst.rows.getD i (LRow.mk [] [])).key,SV.bytes 1 false (x_5.fst.rows.getD i (LRow.mk [] [])).value]]) else [SV.bool (x_3.xs.getD i (LOut.mk false [] [])).has,SV.bytes 1 false (x_3.xs.getD i (LOut.mk false [] [])).value,SV.imm 1 false (x_3.xs.getD i (LOut.mk false [] [])).rows.length 2 fun i_1=>[SV.bytes 1 false ((x_3.xs.getD i (LOut.mk false [] [])).rows.getD i_1 (LRow.mk [] [])).key,SV.bytes 1 false ((x_3.xs.getD i (LOut.mk false [] [])).rows.getD i_1 (LRow.mk [] [])).value]]) i with | b::y=>zCD7_8 x' i b y | x=>False)/\True)) (zCD7_0 x_3 x x_4 x_5))) (∀(x_5:Nat),True->True/\Eng.ask (FTkP 16 FPOut x.l x.a) (∃(x_6:Nat),True/\zCD7_3/\x.l=x_4.l/\Eq (α:=Int) (↑x_6:Int) (↑x_5:Int)/\True) (∃(x_6:List LOut×Int×Nat),FTkR 16 FPOut x.l x.a x_6/\False)))) (Eng.ask (!decide (x_3.e=(0:Int))) (Eng.ask (FTkP 16 FPOut x.l x.a) (∃(x:Nat),True/\False) (∃(x_4:List LOut×Int×Nat),FTkR 16 FPOut x.l x.a x_4/\false=false/\x_4.fst.length=0/\x_4.snd.fst=x_3.e/\zCD7_3/\x.l=x.l/\Eq (α:=Int) (↑x_4.snd.snd:Int) (↑x.a:Int)/\True)) (Eng.ask (FTkP 16 FPOut x.l x.a) (∃(x:Nat),True/\False) (∃(x_4:List LOut×Int×Nat),FTkR 16 FPOut x.l x.a x_4/\(false=true->x_3.op=true->x_3.i≠0\/x_3.i≠0)/\x_4.fst.length=x_3.i/\0+x_3.i<=x_3.i/\(∀(i:Nat),i<x_4.fst.length->(zCD7_10 x_4 i).has=(zCD7_9 x_3 i).has/\zCD7_5 ((zCD7_10 x_4 i).value=(zCD7_9 x_3 i).value)/\zCD7_5 ((zCD7_10 x_4 i).rows.length=(zCD7_9 x_3 i).rows.length/\2=2/\∀(i_1:Nat),i_1<(zCD7_10 x_4 i).rows.length->zCD7_5 (((zCD7_10 x_4 i).rows.getD i_1 (LRow.mk [] [])).key=((zCD7_9 x_3 i).rows.getD i_1 (LRow.mk [] [])).key)/\zCD7_5 (((zCD7_10 x_4 i).rows.getD i_1 (LRow.mk [] [])).value=((zCD7_9 x_3 i).rows.getD i_1 (LRow.mk [] [])).value)/\True)/\True)/\x_4.snd.fst=(0:Int)/\zCD7_3/\x.l=x.l/\Eq (α:=Int) (↑x_4.snd.snd:Int) (↑x_3.at_:Int)/\True))))))))
theorem eq_TakeOut:vc_TakeOut=nf_TakeOut:=by kernel_rfl
theorem pf_TakeOut:nf_TakeOut:=by
 delta nf_TakeOut zCD7_1 zCD7_3 zCD7_5 zCD7_6 zCD7_7 zCD7_11 zCD7_2 zCD7_4 zCD7_8 zCD7_9 zCD7_10 zCD7_0
 intro x0
 intro h1
 intro q2 hq2;subst hq2
 refine ⟨by (simp;done),by (simp;done),by (simp;done),by (simp;done),by (simp;done),?_⟩
 intro q3 hq3;subst hq3
 refine ⟨by (simp;done),by (simp;done),?_⟩
 refine ask_p (bp_andfl (bp_nott (bp_andl bp_true bp_true)) bp_true) (fun h=>h.elim) ?_
 intro _
 refine ⟨⟨(x0.l),(x0.a),(((16:Int):Int)).toNat⟩,?_⟩
 try dsimp only
 refine ⟨?_,?_⟩
 ·refine ⟨by exact h1,?_⟩
  decide
 refine ⟨by rfl,by rfl,by rfl,by decide,by (simp;done),by rfl,by rfl,?_⟩
 intro x4
 intro h5
 refine ⟨by trivial,?_⟩
 refine ⟨?_,?_⟩
 ·refine ⟨⟨0,x4.1,x4.2.2,x4.2.2,[],false,x4.2.1⟩,?_⟩
  try dsimp only
  refine ⟨by exact tk_start h1 h5,by rfl,by rfl,by rfl,by rfl,by rfl,by rfl,by rfl,by rfl,by rfl,by rfl,by rfl,?_⟩
  refine ⟨by decide,by (simp;done),by rfl,by rfl,by rfl,by (simp;done),?_⟩
  trivial
 refine ⟨by trivial,?_⟩
 intro x6
 intro h7
 intro q8 hq8;subst hq8
 refine ⟨by (simp;done),by (simp;done),by (simp;done),?_⟩
 refine ask_p (bp_and bp_dec bp_dec) ?_ ?_
 ·intro ⟨h9,h10⟩
  refine ⟨⟨(x0.l),(x6.at_)⟩,?_⟩
  try dsimp only
  refine ⟨by exact tk_ok h7 h1,by rfl,by rfl,by rfl,by (simp;done),by rfl,by rfl,?_⟩
  refine ask_p bp_id ?_ ?_
  ·intro h11
   intro x12
   intro h13
   refine ⟨by trivial,by (have:=tk_n h7;omega),?_⟩
   refine ask_p bp_id ?_ ?_
   ·intro h14
    refine ⟨by (simp;done),by (have:=tk_n h7;omega),by trivial,by trivial,by trivial,?_⟩
    refine ⟨⟨x6.i+1,x6.n,x6.b,x12.2,x6.xs++[x12.1],true,0⟩,?_⟩
    try dsimp only
    refine ⟨by exact tk_step h7 h9 h10 h13 (by have:=(reads_out.sound (tk_ok h7 h1).1 h13).2.2.2;exact this),by (have:=tk_n h7;omega),by rfl,by rfl,by rfl,by rfl,by rfl,by rfl,by rfl,by rfl,by rfl,by rfl,?_⟩
    refine ⟨by rfl,by (have:=tk_n h7;rw [wrap_succ _ (by omega)];done),by (simp;done),by rfl,by rfl,by rfl,?_⟩
    refine ⟨?_,?_⟩
    ·intro i15
     intro h16
     exact out_elem (tk_n h7).2.2 ‹_<_›
    trivial
   intro h14
   refine ask_p bp_le ?_ ?_
   ·intro h15
    exfalso;omega
   intro h15
   refine ⟨by (have:=tk_n h7;omega),by trivial,by trivial,by trivial,?_⟩
   refine ⟨⟨x6.i+1,x6.n,x6.b,x12.2,x6.xs++[x12.1],true,0⟩,?_⟩
   try dsimp only
   refine ⟨by exact tk_step h7 h9 h10 h13 (by have:=(reads_out.sound (tk_ok h7 h1).1 h13).2.2.2;exact this),by (have:=tk_n h7;omega),by rfl,by rfl,by rfl,by rfl,by rfl,by rfl,by rfl,by rfl,by rfl,by rfl,?_⟩
   refine ⟨by rfl,by (have:=tk_n h7;rw [wrap_succ _ (by omega)];done),by (simp;done),by rfl,by rfl,by rfl,?_⟩
   refine ⟨?_,?_⟩
   ·intro i16
    intro h17
    exact out_elem (tk_n h7).2.2 ‹_<_›
   trivial
  intro h11
  intro x12
  intro h13
  refine ⟨by trivial,?_⟩
  refine ask_p bp_id ?_ ?_
  ·intro h14
   refine ⟨(x12),?_⟩
   try dsimp only
   refine ⟨by trivial,by (simp;done),by rfl,by rfl,?_⟩
   trivial
  intro h14
  exact Bool.noConfusion ((tkP_pan h7 h9 h10 h11).symm.trans (Bool.eq_false_iff.2 h14))
 intro h9
 refine ask_p (bp_not bp_dec) ?_ ?_
 ·intro h10
  refine ask_p bp_id ?_ ?_
  ·intro h11
   exact Bool.noConfusion ((tkP_bad h7 h10).symm.trans h11)
  intro h11
  refine ⟨([],x6.e,x0.a),?_⟩
  try dsimp only
  refine ⟨by exact tkR_bad h7 h10,by rfl,by decide,by (have:=tk_n h7;omega),by (simp;done),by rfl,by (have:=tk_n h7;omega),?_⟩
  trivial
 intro h10
 refine ask_p bp_id ?_ ?_
 ·intro h11
  exact Bool.noConfusion ((tkP_end h7 (Classical.not_not.1 h10) h9).symm.trans h11)
 intro h11
 refine ⟨(x6.xs,0,x6.at_),?_⟩
 try dsimp only
 refine ⟨by exact tkR_end h7 (Classical.not_not.1 h10) h9,by (simp;done),by (have:=tk_n h7;omega),by (have:=tk_n h7;omega),by (simp;done),by (have:=tk_n h7;omega),by (simp;done),by rfl,by (have:=tk_n h7;omega),?_⟩
 trivial
end Go.Proofs
