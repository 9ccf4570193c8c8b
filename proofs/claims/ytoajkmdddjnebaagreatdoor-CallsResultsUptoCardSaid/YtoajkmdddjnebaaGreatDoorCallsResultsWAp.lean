import Derived.Test.YtoajkmdddjnebaaGreatDoorCallsResultsWA
set_option linter.unusedSimpArgs false
set_option linter.unusedVariables false
namespace Go.Proofs
open Go.Eng
set_option maxRecDepth 100000
abbrev zWA0_0:XNumber->Nat->Prop:=fun x0 x1=>x0.n*128^x0.k<=x1/\x0.k<=9/\x0.buf.length=10/\(0<x0.k->0<x0.n)/\List.drop x0.k x0.buf=List.replicate (10-x0.k) (0:UInt8)/\FNum x1=List.take x0.k x0.buf++formF (10-x0.k) x0.n
abbrev zWA0_1:XNumber->Int:=fun x0=>IntKind.u8.wrap (↑(BitVec.ofInt 8 (IntKind.u8.wrap (↑x0.n:Int)) ||| BitVec.ofInt 8 (128:Int)).toNat:Int)
abbrev zWA0_2:XNumber->XNumber->Prop->Prop:=fun x0 x1 p=>x0.n<x1.n/\(↑x0.n:Int)=(↑x1.n:Int)/(128:Int)/\0=0/\x0.k=x1.k+1/\p
def nf_wire_NumberO:Prop:=
 ∀(x:Nat),x<18446744073709551616->true=true/\(0:Int)<=(0:Int)/\(0:Int)<=(10:Int)/\10<=1099511627776/\10<=1099511627776/\(∃(x_1:XNumber),zWA0_0 x_1 x/\Eq (α:=Int) (↑x_1.n:Int) (↑x:Int)/\0=0/\x_1.k=0/\10=10/\false=false/\x_1.buf=[(0:UInt8),(0:UInt8),(0:UInt8),(0:UInt8),(0:UInt8),(0:UInt8),(0:UInt8),(0:UInt8),(0:UInt8),(0:UInt8)]/\True)/\True/\∀(x_1:XNumber),zWA0_0 x_1 x->Eng.ask (decide ((127:Int)<(↑x_1.n:Int))) (((0:Int)<=zWA0_1 x_1/\zWA0_1 x_1<(256:Int))/\0+x_1.k<=x_1.buf.length/\Eng.ask (leNB (x_1.k+1) 10) (0+x_1.k+1<=x_1.buf.length/\(0:Int)<=(7:Int)/\True/\True/\True/\∃(x':XNumber),zWA0_0 x' x/\zWA0_2 x' x_1 (10=10/\false=false/\x'.buf=List.take (0+x_1.k) x_1.buf++UInt8.ofNat (zWA0_1 x_1).toNat::List.drop (0+x_1.k+1) x_1.buf/\True)) (x_1.k+1<1099511627776/\(0:Int)<=(7:Int)/\True/\True/\True/\∃(x':XNumber),zWA0_0 x' x/\zWA0_2 x' x_1 (10=x_1.k+1/\false=true/\x'.buf=cutL x_1.buf 0 x_1.k++[UInt8.ofNat (zWA0_1 x_1).toNat]/\True))) (((0:Int)<=IntKind.u8.wrap (↑x_1.n:Int)/\IntKind.u8.wrap (↑x_1.n:Int)<(256:Int))/\0+x_1.k<=x_1.buf.length/\Eng.ask (leNB (x_1.k+1) 10) (0+x_1.k+1<=x_1.buf.length/\0=0/\(FNum x).length=x_1.k+1/\10=10/\false=false/\FNum x++List.replicate (10- (FNum x).length) (0:UInt8)=List.take (0+x_1.k) x_1.buf++UInt8.ofNat (IntKind.u8.wrap (↑x_1.n:Int)).toNat::List.drop (0+x_1.k+1) x_1.buf/\True) (x_1.k+1<1099511627776/\0=0/\(FNum x).length=x_1.k+1/\10=x_1.k+1/\false=true/\FNum x++List.replicate (10- (FNum x).length) (0:UInt8)=cutL x_1.buf 0 x_1.k++[UInt8.ofNat (IntKind.u8.wrap (↑x_1.n:Int)).toNat]/\True))
theorem eq_wire_NumberO:vc_wire_NumberO=nf_wire_NumberO:=by kernel_rfl
theorem pf_wire_NumberO:nf_wire_NumberO:=by
 delta nf_wire_NumberO zWA0_0 zWA0_1 zWA0_2
 intro x0
 intro h1
 refine ⟨by rfl,by decide,by decide,by decide,by decide,?_⟩
 refine ⟨?_,?_⟩
 ·refine ⟨⟨(x0),(0),([(0:UInt8),(0:UInt8),(0:UInt8),(0:UInt8),(0:UInt8),(0:UInt8),(0:UInt8),(0:UInt8),(0:UInt8),(0:UInt8)])⟩,?_⟩
  try dsimp only
  refine ⟨?_,?_⟩
  ·refine ⟨by simp [FNum],by decide,by decide,by (simp;done),by decide,?_⟩
   simp [FNum]
  refine ⟨by rfl,by rfl,by rfl,by rfl,by rfl,by rfl,?_⟩
  trivial
 refine ⟨by trivial,?_⟩
 intro x2
 intro ⟨h3,⟨h4,⟨h5,⟨h6,⟨h7,h8⟩⟩⟩⟩⟩
 refine ask_p bp_dec ?_ ?_
 ·intro h9
  refine ⟨?_,?_⟩
  ·refine ⟨by (try simp only [wrap_i64,wrap_u64,wrap_u32,wrap_u8] at*)<;>omega,?_⟩
   (try simp only [wrap_i64,wrap_u64,wrap_u32,wrap_u8] at*)<;>omega
  refine ⟨by omega,?_⟩
  refine ask_p bp_le ?_ ?_
  ·intro h10
   refine ⟨by omega,by decide,by trivial,by trivial,by trivial,?_⟩
   refine ⟨⟨(((↑x2.n:Int)/(128:Int):Int)).toNat,(x2.k+1),(List.take (0+x2.k) x2.buf++UInt8.ofNat (IntKind.u8.wrap (↑(BitVec.ofInt 8 (IntKind.u8.wrap (↑x2.n:Int)) ||| BitVec.ofInt 8 (128:Int)).toNat:Int)).toNat::List.drop (0+x2.k+1) x2.buf)⟩,?_⟩
   try dsimp only
   refine ⟨?_,?_⟩
   ·refine ⟨?_,?_⟩
    ·have e:((x2.n:Int)/128).toNat=x2.n/128:=by omega
     rw [e,Nat.pow_succ]
     refine Nat.le_trans ?_ h3
     rw [<-Nat.mul_assoc,Nat.mul_right_comm]
     exact Nat.mul_le_mul_right _ (Nat.div_mul_le_self ..)
    refine ⟨by grind,by grind,?_⟩
    refine ⟨?_,?_⟩
    ·intro h11
     omega
    refine ⟨by exact rep_step ‹_› ‹_› ‹_›,?_⟩
    have e:((x2.n:Int)/128).toNat=x2.n/128:=by omega
    rw [h8,e,wor128,show 10-x2.k=(10- (x2.k+1))+1 from by omega,formF_more (by omega),take_put _ _ _ _ (by omega),show ((↑(x2.n%128+128):Int)).toNat=x2.n%128+128 from by omega]
    simp
   refine ⟨by omega,by rfl,by rfl,by rfl,by rfl,by rfl,by rfl,?_⟩
   trivial
  intro h10
  exfalso;omega
 intro h9
 refine ⟨?_,?_⟩
 ·refine ⟨by (try simp only [wrap_i64,wrap_u64,wrap_u32,wrap_u8] at*)<;>omega,?_⟩
  (try simp only [wrap_i64,wrap_u64,wrap_u32,wrap_u8] at*)<;>omega
 refine ⟨by omega,?_⟩
 refine ask_p bp_le ?_ ?_
 ·intro h10
  refine ⟨by omega,by rfl,by exact num_len ‹_› (by simp;omega) ‹_› ‹_›,by rfl,by rfl,by exact num_fill ‹_› ‹_› ‹_› ‹_› ‹_›,?_⟩
  trivial
 intro h10
 exfalso;omega
abbrev zWA1_0:XNumber->Nat->Prop:=fun x0 x1=>x0.n*128^x0.k<=x1/\x0.k<=9/\x0.buf.length=x0.k/\(0<x0.k->0<x0.n)/\FNum x1=x0.buf++formF (10-x0.k) x0.n
abbrev zWA1_1:XNumber->Prop->Prop:=fun x0 p=>0+x0.k<=x0.buf.length/\(x0.k=x0.k/\0=0/\x0.k=x0.buf.length/\5=5)/\x0.k+1<1099511627776/\p
abbrev zWA1_2:XNumber->Int:=fun x0=>IntKind.u8.wrap (IntKind.u64.wrap (Int.tmod (↑x0.n:Int) (128:Int)+(128:Int)))
def nf_ref01_Number:Prop:=
 ∀(x:Nat),x<18446744073709551616->(∃(x_1:XNumber),zWA1_0 x_1 x/\Eq (α:=Int) (↑x_1.n:Int) (↑x:Int)/\x_1.k=0/\x_1.k=0/\true=true/\x_1.buf=[]/\True)/\True/\∀(x_1:XNumber),zWA1_0 x_1 x->Eng.ask (decide ((127:Int)<(↑x_1.n:Int))) ((128:Int)≠(0:Int)/\((0:Int)<=zWA1_2 x_1/\zWA1_2 x_1<(256:Int))/\zWA1_1 x_1 ((128:Int)≠(0:Int)/\True/\True/\True/\∃(x':XNumber),zWA1_0 x' x/\x'.n<x_1.n/\(↑x'.n:Int)=IntKind.u64.wrap (Int.tdiv (↑x_1.n:Int) (128:Int))/\0=0/\x'.k=x_1.k+1/\x'.k=x_1.k+1/\true=true/\x'.buf=cutL x_1.buf 0 x_1.k++[UInt8.ofNat (zWA1_2 x_1).toNat]/\True)) (((0:Int)<=IntKind.u8.wrap (↑x_1.n:Int)/\IntKind.u8.wrap (↑x_1.n:Int)<(256:Int))/\zWA1_1 x_1 (0=0/\(FNum x).length=x_1.k+1/\(FNum x).length=x_1.k+1/\true=true/\FNum x=cutL x_1.buf 0 x_1.k++[UInt8.ofNat (IntKind.u8.wrap (↑x_1.n:Int)).toNat]/\True))
theorem eq_ref01_Number:vc_ref01_Number=nf_ref01_Number:=by kernel_rfl
theorem pf_ref01_Number:nf_ref01_Number:=by
 delta nf_ref01_Number zWA1_0 zWA1_1 zWA1_2
 intro x0
 intro h1
 refine ⟨?_,?_⟩
 ·refine ⟨⟨(x0),(0),([])⟩,?_⟩
  try dsimp only
  refine ⟨?_,?_⟩
  ·refine ⟨by omega,by decide,by decide,by (simp;done),?_⟩
   rfl
  refine ⟨by rfl,by rfl,by rfl,by rfl,by rfl,?_⟩
  trivial
 refine ⟨by trivial,?_⟩
 intro x2
 intro ⟨h3,⟨h4,⟨h5,⟨h6,h7⟩⟩⟩⟩
 refine ask_p bp_dec ?_ ?_
 ·intro h8
  refine ⟨by decide,?_⟩
  refine ⟨?_,?_⟩
  ·refine ⟨by (try simp only [wrap_i64,wrap_u64,wrap_u32,wrap_u8] at*)<;>omega,?_⟩
   (try simp only [wrap_i64,wrap_u64,wrap_u32,wrap_u8] at*)<;>omega
  refine ⟨by (simp [cutL];omega),?_⟩
  refine ⟨?_,?_⟩
  ·refine ⟨by rfl,by rfl,by omega,?_⟩
   rfl
  refine ⟨by omega,by decide,by trivial,by trivial,by trivial,?_⟩
  refine ⟨⟨((IntKind.u64.wrap (Int.tdiv (↑x2.n:Int) (128:Int)):Int)).toNat,(x2.k+1),(cutL x2.buf 0 x2.k++[UInt8.ofNat (IntKind.u8.wrap (IntKind.u64.wrap (Int.tmod (↑x2.n:Int) (128:Int)+(128:Int)))).toNat])⟩,?_⟩
  try dsimp only
  refine ⟨?_,?_⟩
  ·refine ⟨by (rw [tdiv128 _ (lt_of_pow ‹_› ‹_›)];exact le_pow_div ‹_›),by grind,by (simp [cutL];omega),?_⟩
   refine ⟨?_,?_⟩
   ·intro h9
    (rw [tdiv128 _ (lt_of_pow ‹_› ‹_›)];omega)
   (rw [tdiv128 _ (lt_of_pow ‹_*_<=_› ‹_›),tmod128,h7,<-h5,cutL_all',show 10-x2.buf.length=(10- (x2.buf.length+1))+1 by omega,formF_more (by omega)];simp;done)
  refine ⟨by (rw [tdiv128 _ (lt_of_pow ‹_› ‹_›)];omega),by rfl,by rfl,by rfl,by rfl,by rfl,by rfl,?_⟩
  trivial
 intro h8
 refine ⟨?_,?_⟩
 ·refine ⟨by (try simp only [wrap_i64,wrap_u64,wrap_u32,wrap_u8] at*)<;>omega,?_⟩
  (try simp only [wrap_i64,wrap_u64,wrap_u32,wrap_u8] at*)<;>omega
 refine ⟨by (simp [cutL];omega),?_⟩
 refine ⟨?_,?_⟩
 ·refine ⟨by rfl,by rfl,by omega,?_⟩
  rfl
 refine ⟨by omega,by rfl,by exact num_len ‹_› ‹_› ‹_› ‹_›,by exact num_len ‹_› ‹_› ‹_› ‹_›,by rfl,by (rw [u8_small ‹_›,h7,<-h5,cutL_all',show 10-x2.buf.length=(10- (x2.buf.length+1))+1 by omega,formF_last (by omega)];done),?_⟩
 trivial
abbrev zWA2_0:XRd->Prop->Prop:=fun x0 p=>(true=true->true=true)/\x0.l=x0.l/\p
abbrev zWA2_1:XRdL->XRd->Prop:=fun x0 x1=>x0.i<=9/\x0.at_=x1.a+x0.i/\x0.at_<=x1.l.length/\x0.sh=7*x0.i/\x0.acc<128^x0.i/\Frd 0 0 (List.drop x1.a x1.l)=Frd x0.i x0.acc (List.drop x0.at_ x1.l)
abbrev zWA2_2:Bool->Prop:=fun x0=>(bif false then x0 else !x0)=true
abbrev zWA2_3:XRd->Prop:=fun x0=>x0.l=x0.l/\Eq (α:=Int) (↑x0.a:Int) (↑x0.a:Int)/\True
abbrev zWA2_5:XRd->XRdL->Int:=fun x0 x1=>(↑(x0.l.getD (Int.toNat (↑x1.at_:Int)) (0:UInt8)).toNat:Int)
abbrev zWA2_6:XRd->Nat×Nat->Prop->Prop:=fun x0 x1 p=>FNumP x0.l x0.a=some x1/\(↑x1.fst:Int)=(0:Int)/\p
abbrev zWA2_7:XRd->Nat×Nat->Prop:=fun x0 x1=>x0.l=x0.l/\Eq (α:=Int) (↑x1.snd:Int) (↑x0.a:Int)/\True
abbrev zWA2_9:Bool->Prop:=fun x0=>x0=true->x0=true
abbrev zWA2_10:Bool->Bool->Prop:=fun x0 x1=>(x0&&bif false then x1 else !x1)=true
abbrev zWA2_4:Bool->Prop->Prop:=fun x0 p=>(x0=true->zWA2_9 x0)/\(x0=true->zWA2_9 x0)/\p
abbrev zWA2_11:XRd->Prop:=fun x0=>zWA2_0 x0 (Eq (α:=Int) (↑x0.a:Int) (↑x0.a:Int)/\True)
abbrev zWA2_8:XRd->Prop:=fun x0=>Eng.ask (FNumP x0.l x0.a).isSome (∃(x:Nat×Nat),zWA2_6 x0 x ((0:Int)=(4:Int)/\zWA2_0 x0 (Eq (α:=Int) (↑x.snd:Int) (↑x0.a:Int)/\True))) ((0:Int)=(0:Int)/\(4:Int)=(4:Int)/\zWA2_11 x0)
def nf_wire_Reader_Number:Prop:=
 ∀(x:XRd),x.a<=x.l.length/\x.l.length<1099511627776->∀(q:Bool),q=true->zWA2_4 q (zWA2_4 q ((true=true->zWA2_9 q)/\Eng.ask (!bif q then true else false) (Eng.ask (FNumP x.l x.a).isSome (∃(x_1:Nat×Nat),zWA2_6 x x_1 ((0:Int)=(1:Int)/\zWA2_0 x (Eq (α:=Int) (↑x_1.snd:Int) (↑x.a:Int)/\True))) ((0:Int)=(0:Int)/\(4:Int)=(1:Int)/\zWA2_11 x)) ((∃(x_1:XRdL),zWA2_1 x_1 x/\0=0/\0=0/\0=0/\some 0=some 0/\(↑x_1.acc:Int)=(0:Int)/\Eq (α:=Int) (↑x_1.at_:Int) (↑x.a:Int)/\(↑x_1.sh:Int)=(0:Int)/\zWA2_11 x)/\True/\∀(x_1:XRdL),zWA2_1 x_1 x->Eng.ask (decide (LT.lt (α:=Int) (↑x_1.at_:Int) (↑x.l.length:Int))) ((0:Int)<=(↑x_1.at_:Int)/\Int.toNat (↑x_1.at_:Int)<x.l.length/\∀(q:Bool),q=decide ((↑x_1.sh:Int)=(63:Int))->(q=true->zWA2_9 q)/\(true=true->zWA2_9 q)/\∀(q_1:Bool),(q_1=bif q then decide ((1:Int)<zWA2_5 x x_1) else false)->(zWA2_2 q_1->zWA2_2 q_1->zWA2_2 q_1)/\(zWA2_2 q_1->zWA2_2 q_1->zWA2_2 q_1)/\∀(q:Bool),q=decide ((0:Int)<(↑x_1.sh:Int))->(zWA2_10 q q_1->zWA2_10 q q_1->zWA2_10 q q_1)/\(zWA2_2 q_1->zWA2_2 q_1->zWA2_2 q_1)/\(zWA2_2 q_1->zWA2_2 q_1->q=true->zWA2_10 q q_1)/\(true=true->q_1=false->zWA2_2 q_1)/\Eng.ask (bif q_1 then true else bif q then decide (zWA2_5 x x_1=(0:Int)) else false) (zWA2_8 x) ((0:Int)<=(↑x_1.sh:Int)/\∀(q:Int),q=IntKind.u64.wrap (IntKind.u64.wrap (IntKind.u8.wrap (↑(BitVec.ofInt 8 (zWA2_5 x x_1) &&& BitVec.ofInt 8 (127:Int)).toNat:Int))*(2:Int)^min (Int.toNat (↑x_1.sh:Int)) 64)->∀(q_2:Int),q_2=IntKind.u64.wrap (↑(BitVec.ofInt 64 (↑x_1.acc:Int) ||| BitVec.ofInt 64 q).toNat:Int)->Eng.ask (decide (zWA2_5 x x_1<(128:Int))) (Eng.ask (FNumP x.l x.a).isSome (∃(x_2:Nat×Nat),FNumP x.l x.a=some x_2/\(↑x_2.fst:Int)=q_2/\(0:Int)=(0:Int)/\zWA2_0 x ((↑x_2.snd:Int)=IntKind.i64.wrap ((↑x_1.at_:Int)+(1:Int))/\True)) ((0:Int)=q_2/\(4:Int)=(0:Int)/\zWA2_0 x ((↑x.a:Int)=IntKind.i64.wrap ((↑x_1.at_:Int)+(1:Int))/\True))) (True/\True/\True/\∃(x':XRdL),zWA2_1 x' x/\x.l.length-x'.at_<x.l.length-x_1.at_/\0=0/\0=0/\0=0/\some 0=some 0/\(↑x'.acc:Int)=q_2/\(↑x'.at_:Int)=IntKind.i64.wrap ((↑x_1.at_:Int)+(1:Int))/\(↑x'.sh:Int)=IntKind.u64.wrap ((↑x_1.sh:Int)+(7:Int))/\zWA2_11 x))) (zWA2_8 x))))
theorem eq_wire_Reader_Number:vc_wire_Reader_Number=nf_wire_Reader_Number:=by kernel_rfl
theorem pf_wire_Reader_Number:nf_wire_Reader_Number:=by
 delta nf_wire_Reader_Number zWA2_0 zWA2_1 zWA2_2 zWA2_3 zWA2_5 zWA2_6 zWA2_7 zWA2_9 zWA2_10 zWA2_4 zWA2_11 zWA2_8
 intro x0
 intro ⟨h1,h2⟩
 intro q3 hq3;subst hq3
 refine ⟨by (simp;done),by (simp;done),by (simp;done),by (simp;done),by (simp;done),?_⟩
 refine ask_p (bp_nott (bp_andl bp_true bp_true)) (fun h=>h.elim) ?_
 intro _
 refine ⟨?_,?_⟩
 ·refine ⟨⟨0,x0.a,0,0⟩,?_⟩
  try dsimp only
  refine ⟨?_,?_⟩
  ·refine ⟨by decide,by rfl,by omega,by decide,by decide,?_⟩
   rfl
  refine ⟨by rfl,by rfl,by rfl,by rfl,by decide,by rfl,by decide,by (simp;done),by rfl,by rfl,?_⟩
  trivial
 refine ⟨by trivial,?_⟩
 intro x4
 intro ⟨h5,⟨h6,⟨h7,⟨h8,⟨h9,h10⟩⟩⟩⟩⟩
 refine ask_p bp_dec ?_ ?_
 ·intro h11
  refine ⟨by omega,by omega,?_⟩
  intro q12 hq12;subst hq12
  refine ⟨by (simp;done),by (simp;done),?_⟩
  intro q13 hq13;subst hq13
  refine ⟨?_,?_⟩
  ·intro h14
   intro h15
   omega
  refine ⟨?_,?_⟩
  ·intro h14
   intro h15
   omega
  intro q14 hq14;subst hq14
  refine ⟨?_,?_⟩
  ·intro h15
   intro h16
   omega
  refine ⟨?_,?_⟩
  ·intro h15
   intro h16
   omega
  refine ⟨?_,?_⟩
  ·intro h15
   intro h16
   intro h17
   grind
  refine ⟨?_,?_⟩
  ·intro h15
   intro h16
   grind
  refine ask_p (bp_or (bp_and bp_dec bp_dec) (bp_and bp_dec bp_dec)) ?_ ?_
  ·intro h15
   refine ask_p bp_id ?_ ?_
   ·intro h16
    refine ⟨⟨(((0:Int):Int)).toNat,(x0.a)⟩,?_⟩
    try dsimp only
    refine ⟨by (simp only [Int.toNat_natCast] at*;rw [FNumP_bad h10 (by omega) (by unfold badC;omega)] at*;simp_all;done),by decide,by (simp only [Int.toNat_natCast] at*;rw [FNumP_bad h10 (by omega) (by unfold badC;omega)] at*;simp_all;done),by (simp;done),by rfl,by rfl,?_⟩
    trivial
   intro h16
   refine ⟨by rfl,by rfl,by (simp;done),by rfl,by rfl,?_⟩
   trivial
  intro h15
  refine ⟨by omega,?_⟩
  intro q16 h16
  intro q17 h17
  refine ask_p bp_dec ?_ ?_
  ·intro h18
   refine ask_p bp_id ?_ ?_
   ·intro h19
    refine ⟨⟨((q17:Int)).toNat,((IntKind.i64.wrap ((↑x4.at_:Int)+(1:Int)):Int)).toNat⟩,?_⟩
    try dsimp only
    refine ⟨by (have e:=rdn_q h8 h5 h9 (UInt8.toNat_lt _) h15 h16 h17;simp only [Int.toNat_natCast] at*;rw [FNumP_good h10 (by omega) (by unfold badC;omega) (by omega) h6,e,wrap_succ _ (by omega)];simp only [Int.toNat_natCast]),by (try simp only [wrap_i64,wrap_u64,wrap_u32,wrap_u8] at*)<;>omega,by rfl,by (simp;done),by rfl,by (rw [wrap_succ _ (by omega)];omega),?_⟩
    trivial
   intro h19
   refine ⟨by (simp only [Int.toNat_natCast] at*;rw [FNumP_good h10 (by omega) (by unfold badC;omega) (by omega) h6] at*;simp_all;done),by (simp only [Int.toNat_natCast] at*;rw [FNumP_good h10 (by omega) (by unfold badC;omega) (by omega) h6] at*;simp_all;done),by (simp;done),by rfl,by (simp only [Int.toNat_natCast] at*;rw [FNumP_good h10 (by omega) (by unfold badC;omega) (by omega) h6] at*;simp_all;done),?_⟩
   trivial
  intro h18
  refine ⟨by trivial,by trivial,by trivial,?_⟩
  refine ⟨⟨x4.i+1,x4.at_+1,x4.acc+(x0.l.getD x4.at_ 0).toNat%128*128^x4.i,x4.sh+7⟩,?_⟩
  try dsimp only
  refine ⟨?_,?_⟩
  ·refine ⟨by omega,by omega,by omega,by omega,by exact rd_lt h9,?_⟩
   (simp only [Int.toNat_natCast] at*;exact Frd_next h10 (by omega) (by unfold badC;omega) (by omega))
  refine ⟨by omega,by rfl,by rfl,by rfl,by rfl,by (have e:=rdn_q h8 h5 h9 (UInt8.toNat_lt _) h15 h16 h17;simp only [Int.toNat_natCast] at*;rw [e];done),by (rw [wrap_succ _ (by omega)]),by (try simp only [wrap_i64,wrap_u64,wrap_u32,wrap_u8] at*)<;>omega,by (simp;done),by rfl,by rfl,?_⟩
  trivial
 intro h11
 refine ask_p bp_id ?_ ?_
 ·intro h12
  refine ⟨⟨(((0:Int):Int)).toNat,(x0.a)⟩,?_⟩
  try dsimp only
  refine ⟨by (exfalso;have:=FNumP_end h10 (by omega);simp_all;done),by decide,by (exfalso;have:=FNumP_end h10 (by omega);simp_all;done),by (simp;done),by rfl,by rfl,?_⟩
  trivial
 intro h12
 refine ⟨by rfl,by rfl,by (simp;done),by rfl,by rfl,?_⟩
 trivial
end Go.Proofs
