import Derived.Test.YtoajkmdddjnebaaGreatDoorCallsOneCT
set_option linter.unusedSimpArgs false
set_option linter.unusedVariables false
namespace Go.Proofs
open Go.Eng
set_option maxRecDepth 100000
abbrev zCTa0:LOp:=LOp.mk (0:Int) [] [] [] false [] [] (0:Int)
abbrev zCTa1:Prop->Prop:=fun p=>true=true/\(false=true->false=true)/\p
abbrev zCTa5:Prop->Prop:=fun p=>0=0/\0=0/\0=0/\p
abbrev zCTa2:Prop->Prop:=fun p=>zCTa5 (0=0/\0=0/\p)
abbrev zCTa4:List LOp->XI->LOp:=fun x0 x1=>x0.getD (Int.toNat (↑x1.i:Int)) zCTa0
abbrev zCTa6:List LOp->Nat->LOp:=fun x0 x1=>x0.getD (0+x1) zCTa0
abbrev zCTa7:List LOp->Nat->LOp:=fun x0 x1=>x0.getD x1 zCTa0
abbrev zCTa3:List LOp->Prop->Prop:=fun x0 p=>(false=true->false=true)/\x0.length=x0.length/\(∀(i:Nat),i<x0.length->(IntKind.i64=IntKind.i64/\(zCTa7 x0 i).kind=(zCTa7 x0 i).kind)/\(zCTa7 x0 i).table=(zCTa7 x0 i).table/\zCTa1 ((zCTa7 x0 i).key=(zCTa7 x0 i).key)/\zCTa1 ((zCTa7 x0 i).value=(zCTa7 x0 i).value)/\(zCTa7 x0 i).has=(zCTa7 x0 i).has/\zCTa1 ((zCTa7 x0 i).old=(zCTa7 x0 i).old)/\zCTa1 ((zCTa7 x0 i).to=(zCTa7 x0 i).to)/\(IntKind.i64=IntKind.i64/\(zCTa7 x0 i).most=(zCTa7 x0 i).most)/\True)/\p
def nf_Copy:Prop:=
 ∀(x:List LOp),FSmOps x->(∃(x_1:XI),x_1.i<=x.length/\zCTa2 (zCTa5 (0=0/\(↑x_1.i:Int)=(0:Int)/\zCTa3 x (x_1.i=0/\x_1.i=0/\true=true/\x_1.i=0/\True))))/\True/\∀(x_1:XI),x_1.i<=x.length->Eng.ask (decide (LT.lt (α:=Int) (↑x_1.i:Int) (↑x.length:Int))) ((0:Int)<=(↑x_1.i:Int)/\Int.toNat (↑x_1.i:Int)<x.length/\(zCTa4 x x_1).key.length<1099511627776/\(zCTa4 x x_1).value.length<1099511627776/\(zCTa4 x x_1).old.length<1099511627776/\(zCTa4 x x_1).to.length<1099511627776/\0+(zCTa4 x x_1).key.length<=(zCTa4 x x_1).key.length/\0+(zCTa4 x x_1).value.length<=(zCTa4 x x_1).value.length/\0+(zCTa4 x x_1).old.length<=(zCTa4 x x_1).old.length/\0+(zCTa4 x x_1).to.length<=(zCTa4 x x_1).to.length/\0+x_1.i<=x_1.i/\(x_1.i=x_1.i/\0=0/\x_1.i=x_1.i/\68=68)/\(x_1.i+1)*136<1099511627776/\True/\True/\True/\∃(x':XI),x'.i<=x.length/\x.length-x'.i<x.length-x_1.i/\zCTa2 (zCTa5 (0=0/\(↑x'.i:Int)=IntKind.i64.wrap ((↑x_1.i:Int)+(1:Int))/\zCTa3 x (0=0/\x'.i=x_1.i+1/\x'.i=x_1.i+1/\true=true/\x'.i=x_1.i+1/\(∀(i:Nat),i<x'.i->match (fun (i:Nat)=>bif i.blt x_1.i then [SV.int IntKind.i64 (x.getD (0+i) (LOp.mk (0:Int) [] [] [] false [] [] (0:Int))).kind,SV.str (x.getD (0+i) (LOp.mk (0:Int) [] [] [] false [] [] (0:Int))).table,SV.bytes 1 false (x.getD (0+i) (LOp.mk (0:Int) [] [] [] false [] [] (0:Int))).key,SV.bytes 1 false (x.getD (0+i) (LOp.mk (0:Int) [] [] [] false [] [] (0:Int))).value,SV.bool (x.getD (0+i) (LOp.mk (0:Int) [] [] [] false [] [] (0:Int))).has,SV.bytes 1 false (x.getD (0+i) (LOp.mk (0:Int) [] [] [] false [] [] (0:Int))).old,SV.bytes 1 false (x.getD (0+i) (LOp.mk (0:Int) [] [] [] false [] [] (0:Int))).to,SV.int IntKind.i64 (x.getD (0+i) (LOp.mk (0:Int) [] [] [] false [] [] (0:Int))).most] else List.take 8 (List.drop ((0+(i-x_1.i))*8) [SV.int IntKind.i64 (x.getD (Int.toNat (↑x_1.i:Int)) (LOp.mk (0:Int) [] [] [] false [] [] (0:Int))).kind,SV.str (x.getD (Int.toNat (↑x_1.i:Int)) (LOp.mk (0:Int) [] [] [] false [] [] (0:Int))).table,SV.bytes 1 false (cutL (x.getD (Int.toNat (↑x_1.i:Int)) (LOp.mk (0:Int) [] [] [] false [] [] (0:Int))).key 0 (x.getD (Int.toNat (↑x_1.i:Int)) (LOp.mk (0:Int) [] [] [] false [] [] (0:Int))).key.length),SV.bytes 1 false (cutL (x.getD (Int.toNat (↑x_1.i:Int)) (LOp.mk (0:Int) [] [] [] false [] [] (0:Int))).value 0 (x.getD (Int.toNat (↑x_1.i:Int)) (LOp.mk (0:Int) [] [] [] false [] [] (0:Int))).value.length),SV.bool (x.getD (Int.toNat (↑x_1.i:Int)) (LOp.mk (0:Int) [] [] [] false [] [] (0:Int))).has,SV.bytes 1 false (cutL (x.getD (Int.toNat (↑x_1.i:Int)) (LOp.mk (0:Int) [] [] [] false [] [] (0:Int))).old 0 (x.getD (Int.toNat (↑x_1.i:Int)) (LOp.mk (0:Int) [] [] [] false [] [] (0:Int))).old.length),SV.bytes 1 false (cutL (x.getD (Int.toNat (↑x_1.i:Int)) (LOp.mk (0:Int) [] [] [] false [] [] (0:Int))).to 0 (x.getD (Int.toNat (↑x_1.i:Int)) (LOp.mk (0:Int) [] [] [] false [] [] (0:Int))).to.length),SV.int IntKind.i64 (x.getD (Int.toNat (↑x_1.i:Int)) (LOp.mk (0:Int) [] [] [] false [] [] (0:Int))).most])) i with | b::y=>leV (SV.int IntKind.i64 (zCTa7 x i).kind) b/\leL [SV.str (zCTa7 x i).table,SV.bytes 1 false (zCTa7 x i).key,SV.bytes 1 false (zCTa7 x i).value,SV.bool (zCTa7 x i).has,SV.bytes 1 false (zCTa7 x i).old,SV.bytes 1 false (zCTa7 x i).to,SV.int IntKind.i64 (zCTa7 x i).most] y | x=>False)/\True)))) ((false=true->true=true->x_1.i≠0\/x_1.i≠0)/\x.length=x_1.i/\0+x_1.i<=x_1.i/\(∀(i:Nat),i<x.length->(IntKind.i64=IntKind.i64/\(zCTa7 x i).kind=(zCTa6 x i).kind)/\(zCTa7 x i).table=(zCTa6 x i).table/\zCTa1 ((zCTa7 x i).key=(zCTa6 x i).key)/\zCTa1 ((zCTa7 x i).value=(zCTa6 x i).value)/\(zCTa7 x i).has=(zCTa6 x i).has/\zCTa1 ((zCTa7 x i).old=(zCTa6 x i).old)/\zCTa1 ((zCTa7 x i).to=(zCTa6 x i).to)/\(IntKind.i64=IntKind.i64/\(zCTa7 x i).most=(zCTa6 x i).most)/\True)/\True)
theorem eq_Copy:vc_Copy=nf_Copy:=by kernel_rfl
theorem pf_Copy:nf_Copy:=by
 delta nf_Copy zCTa0 zCTa1 zCTa5 zCTa2 zCTa4 zCTa6 zCTa7 zCTa3
 intro x0
 intro h1
 refine ⟨?_, ?_⟩
 ·refine ⟨⟨(((0:Int):Int)).toNat⟩, ?_⟩
  try dsimp only
  refine ⟨by (have e0:=h1.1;omega),by rfl,by rfl,by rfl,by rfl,by rfl,by rfl,by rfl,by rfl,by rfl,by decide,by (simp;done), ?_⟩
  refine ⟨by rfl, ?_⟩
  refine ⟨?_, ?_⟩
  ·intro i2
   intro h3
   refine ⟨by (simp;done),by rfl,by (exact ⟨rfl,fun h=>h,rfl⟩),by (exact ⟨rfl,fun h=>h,rfl⟩),by rfl,by (exact ⟨rfl,fun h=>h,rfl⟩),by (exact ⟨rfl,fun h=>h,rfl⟩),by (simp;done), ?_⟩
   trivial
  refine ⟨by decide,by decide,by rfl,by decide, ?_⟩
  trivial
 refine ⟨by trivial, ?_⟩
 intro x2
 intro h3
 refine ask_p bp_dec ?_ ?_
 ·intro h4
  refine ⟨by (have hh:=h1.2 (Int.toNat (x2.i:Int)) (by omega);unfold FSmOp at hh;omega),by (have hh:=h1.2 (Int.toNat (x2.i:Int)) (by omega);unfold FSmOp at hh;omega),by (have hh:=h1.2 (Int.toNat (x2.i:Int)) (by omega);unfold FSmOp at hh;omega),by (have hh:=h1.2 (Int.toNat (x2.i:Int)) (by omega);unfold FSmOp at hh;omega),by (have hh:=h1.2 (Int.toNat (x2.i:Int)) (by omega);unfold FSmOp at hh;omega),by (have hh:=h1.2 (Int.toNat (x2.i:Int)) (by omega);unfold FSmOp at hh;omega),by (have hh:=h1.2 (Int.toNat (x2.i:Int)) (by omega);unfold FSmOp at hh;omega),by (have hh:=h1.2 (Int.toNat (x2.i:Int)) (by omega);unfold FSmOp at hh;omega),by (have hh:=h1.2 (Int.toNat (x2.i:Int)) (by omega);unfold FSmOp at hh;omega),by (have hh:=h1.2 (Int.toNat (x2.i:Int)) (by omega);unfold FSmOp at hh;omega),by (have hh:=h1.2 (Int.toNat (x2.i:Int)) (by omega);unfold FSmOp at hh;omega),by (simp;done), ?_⟩
  refine ⟨by (have e0:=h1.1;omega),by trivial,by trivial,by trivial, ?_⟩
  refine ⟨⟨((IntKind.i64.wrap ((↑x2.i:Int)+(1:Int)):Int)).toNat⟩, ?_⟩
  try dsimp only
  refine ⟨by (try simp only [wrap_i64,wrap_u64,wrap_u32,wrap_u8] at*)<;>omega,by exact k_mu h1.1 h4,by rfl,by rfl,by rfl,by rfl,by rfl,by rfl,by rfl,by rfl,by rfl,by exact k_eq h1.1 h4, ?_⟩
  refine ⟨by (simp;done),by rfl, ?_⟩
  refine ⟨?_, ?_⟩
  ·intro i5
   intro h6
   refine ⟨by (simp;done),by rfl,by (exact ⟨rfl,fun h=>h,rfl⟩),by (exact ⟨rfl,fun h=>h,rfl⟩),by rfl,by (exact ⟨rfl,fun h=>h,rfl⟩),by (exact ⟨rfl,fun h=>h,rfl⟩),by (simp;done), ?_⟩
   trivial
  refine ⟨by rfl,by (rw [k_w h1.1 h4,Int.toNat_natCast];done),by (rw [k_w h1.1 h4,Int.toNat_natCast];done),by rfl,by (rw [k_w h1.1 h4,Int.toNat_natCast];done), ?_⟩
  refine ⟨?_, ?_⟩
  ·intro i5
   intro h6
   exact Copy_elem (fun j=>x0.getD j (LOp.mk 0 [] [] [] false [] [] 0)) x2.i i5 (elemF 8 0 (cutOp (x0.getD x2.i (LOp.mk 0 [] [] [] false [] [] 0)))) (by rw [k_w h1.1 h4,Int.toNat_natCast] at h6;exact h6) (by simp [elemF,cutOp,cutL_eq,opC,takeN,dropN])
  trivial
 intro h4
 refine ⟨by (simp;done),by (have e0:=h1.1;omega),by (have e0:=h1.1;omega), ?_⟩
 refine ⟨?_, ?_⟩
 ·intro i5
  intro h6
  refine ⟨by (simp;done),by grind,by (simp;done),by (simp;done),by grind,by (simp;done),by (simp;done),by (simp;done), ?_⟩
  trivial
 trivial
def nf_num:Prop:=
 ∀(x:Int),True->x=x/\True
theorem eq_num:vc_num=nf_num:=by kernel_rfl
theorem pf_num:nf_num:=by
 delta nf_num
 intro x0
 intro h1
 refine ⟨by rfl, ?_⟩
 trivial
abbrev zCTc0:LOp:=LOp.mk (0:Int) [] [] [] false [] [] (0:Int)
abbrev zCTc4:Bool->Prop:=fun x0=>x0=true->x0=true
abbrev zCTc5:Prop->Prop:=fun p=>0=0/\0=0/\0=0/\p
abbrev zCTc6:XI->Nat:=fun x0=>Int.toNat (↑x0.i:Int)
abbrev zCTc9:XI->XCC->Prop:=fun x0 x1=>x0.i<=x1.a.length/\FOpsEq x1.a x1.b x0.i
abbrev zCTc14:Prop:=false=true->false=true
abbrev zCTc3:Prop->Prop:=fun p=>true=true/\zCTc14/\p
abbrev zCTc7:XCC->Nat->LOp:=fun x0 x1=>x0.b.getD x1 zCTc0
abbrev zCTc8:XCC->Nat->LOp:=fun x0 x1=>x0.a.getD x1 zCTc0
abbrev zCTc10:Bool->Prop:=fun x0=>true=true->zCTc4 x0
abbrev zCTc11:XCC->XI->LOp:=fun x0 x1=>x0.a.getD (zCTc6 x1) zCTc0
abbrev zCTc12:XCC->XI->LOp:=fun x0 x1=>x0.b.getD (zCTc6 x1) zCTc0
abbrev zCTc13:Bool->Prop:=fun x0=>x0=true->zCTc4 x0
abbrev zCTc1:Bool->Prop->Prop:=fun x0 p=>zCTc13 x0/\zCTc13 x0/\zCTc13 x0/\p
abbrev zCTc2:XCC->Prop:=fun x0=>zCTc14/\x0.a.length=x0.a.length/\(∀(i:Nat),i<x0.a.length->(IntKind.i64=IntKind.i64/\(zCTc8 x0 i).kind=(zCTc8 x0 i).kind)/\(zCTc8 x0 i).table=(zCTc8 x0 i).table/\zCTc3 ((zCTc8 x0 i).key=(zCTc8 x0 i).key)/\zCTc3 ((zCTc8 x0 i).value=(zCTc8 x0 i).value)/\(zCTc8 x0 i).has=(zCTc8 x0 i).has/\zCTc3 ((zCTc8 x0 i).old=(zCTc8 x0 i).old)/\zCTc3 ((zCTc8 x0 i).to=(zCTc8 x0 i).to)/\(IntKind.i64=IntKind.i64/\(zCTc8 x0 i).most=(zCTc8 x0 i).most)/\True)/\zCTc14/\x0.b.length=x0.b.length/\(∀(i:Nat),i<x0.b.length->(IntKind.i64=IntKind.i64/\(zCTc7 x0 i).kind=(zCTc7 x0 i).kind)/\(zCTc7 x0 i).table=(zCTc7 x0 i).table/\zCTc3 ((zCTc7 x0 i).key=(zCTc7 x0 i).key)/\zCTc3 ((zCTc7 x0 i).value=(zCTc7 x0 i).value)/\(zCTc7 x0 i).has=(zCTc7 x0 i).has/\zCTc3 ((zCTc7 x0 i).old=(zCTc7 x0 i).old)/\zCTc3 ((zCTc7 x0 i).to=(zCTc7 x0 i).to)/\(IntKind.i64=IntKind.i64/\(zCTc7 x0 i).most=(zCTc7 x0 i).most)/\True)/\True
def nf_ref_Same:Prop:=
 ∀(x:XCC),FSmOps x.a/\FSmOps x.b->Eng.ask (!decide (Eq (α:=Int) (↑x.a.length:Int) (↑x.b.length:Int))) (FSame x.a x.b=false/\True) ((∃(x_1:XI),zCTc9 x_1 x/\zCTc5 (zCTc5 ((↑x_1.i:Int)=(0:Int)/\zCTc2 x)))/\True/\∀(x_1:XI),zCTc9 x_1 x->Eng.ask (decide (LT.lt (α:=Int) (↑x_1.i:Int) (↑x.a.length:Int))) ((0:Int)<=(↑x_1.i:Int)/\zCTc6 x_1<x.a.length/\(0:Int)<=(↑x_1.i:Int)/\zCTc6 x_1<x.b.length/\∀(q:Bool),q=decide ((zCTc11 x x_1).kind=(zCTc12 x x_1).kind)->zCTc1 q (zCTc13 q/\zCTc10 q/\∀(q_1:Bool),(q_1=bif q then decide ((zCTc11 x x_1).table=(zCTc12 x x_1).table) else false)->zCTc1 q_1 (zCTc1 q_1 (zCTc10 q_1/\∀(q:Bool),(q=bif q_1 then decide ((zCTc11 x x_1).key=(zCTc12 x x_1).key) else false)->zCTc1 q (zCTc1 q (zCTc10 q/\∀(q_2:Bool),(q_2=bif q then decide ((zCTc11 x x_1).value=(zCTc12 x x_1).value) else false)->zCTc1 q_2 (zCTc13 q_2/\zCTc10 q_2/\∀(q:Bool),(q=bif q_2 then (zCTc11 x x_1).has==(zCTc12 x x_1).has else false)->zCTc1 q (zCTc1 q (zCTc10 q/\∀(q_3:Bool),(q_3=bif q then decide ((zCTc11 x x_1).old=(zCTc12 x x_1).old) else false)->zCTc1 q_3 (zCTc1 q_3 (zCTc10 q_3/\∀(q:Bool),(q=bif q_3 then decide ((zCTc11 x x_1).to=(zCTc12 x x_1).to) else false)->zCTc1 q (zCTc13 q/\zCTc10 q/\Eng.ask (!bif q then decide ((zCTc11 x x_1).most=(zCTc12 x x_1).most) else false) (FSame x.a x.b=false/\True) (True/\True/\True/\∃(x':XI),zCTc9 x' x/\x.a.length-x'.i<x.a.length-x_1.i/\zCTc5 (zCTc5 ((↑x'.i:Int)=IntKind.i64.wrap ((↑x_1.i:Int)+(1:Int))/\zCTc2 x))))))))))))))) (FSame x.a x.b=true/\True))
theorem eq_ref_Same:vc_ref_Same=nf_ref_Same:=by kernel_rfl
theorem pf_ref_Same:nf_ref_Same:=by
 delta nf_ref_Same zCTc0 zCTc4 zCTc5 zCTc6 zCTc9 zCTc14 zCTc3 zCTc7 zCTc8 zCTc10 zCTc11 zCTc12 zCTc13 zCTc1 zCTc2
 intro x0
 intro ⟨h1,h2⟩
 refine ask_p (bp_not bp_dec) ?_ ?_
 ·intro h3
  refine ⟨by exact same_len ‹_›, ?_⟩
  trivial
 intro h3
 refine ⟨?_, ?_⟩
 ·refine ⟨⟨(((0:Int):Int)).toNat⟩, ?_⟩
  try dsimp only
  refine ⟨?_, ?_⟩
  ·refine ⟨by (have e0:=h1.1;omega), ?_⟩
   exact opsEq_zero
  refine ⟨by rfl,by rfl,by rfl,by rfl,by rfl,by rfl,by decide,by (simp;done),by rfl, ?_⟩
  refine ⟨?_, ?_⟩
  ·intro i4
   intro h5
   refine ⟨by (simp;done),by rfl,by (exact ⟨rfl,fun h=>h,rfl⟩),by (exact ⟨rfl,fun h=>h,rfl⟩),by rfl,by (exact ⟨rfl,fun h=>h,rfl⟩),by (exact ⟨rfl,fun h=>h,rfl⟩),by (simp;done), ?_⟩
   trivial
  refine ⟨by (simp;done),by rfl, ?_⟩
  refine ⟨?_, ?_⟩
  ·intro i4
   intro h5
   refine ⟨by (simp;done),by rfl,by (exact ⟨rfl,fun h=>h,rfl⟩),by (exact ⟨rfl,fun h=>h,rfl⟩),by rfl,by (exact ⟨rfl,fun h=>h,rfl⟩),by (exact ⟨rfl,fun h=>h,rfl⟩),by (simp;done), ?_⟩
   trivial
  trivial
 refine ⟨by trivial, ?_⟩
 intro x4
 intro ⟨h5,h6⟩
 refine ask_p bp_dec ?_ ?_
 ·intro h7
  refine ⟨by (have e0:=h1.1;omega),by (have e0:=h1.1;omega),by (have e0:=h1.1;omega),by (have e0:=h1.1;omega), ?_⟩
  intro q8 hq8;subst hq8
  refine ⟨by (simp;done),by (simp;done),by (simp;done),by (simp;done),by (simp;done), ?_⟩
  intro q9 hq9;subst hq9
  refine ⟨?_, ?_⟩
  ·intro h10
   intro h11
   (have e0:=h1.1;omega)
  refine ⟨?_, ?_⟩
  ·intro h10
   intro h11
   (have e0:=h1.1;omega)
  refine ⟨?_, ?_⟩
  ·intro h10
   intro h11
   (have e0:=h1.1;omega)
  refine ⟨?_, ?_⟩
  ·intro h10
   intro h11
   (have e0:=h1.1;omega)
  refine ⟨?_, ?_⟩
  ·intro h10
   intro h11
   (have e0:=h1.1;omega)
  refine ⟨?_, ?_⟩
  ·intro h10
   intro h11
   (have e0:=h1.1;omega)
  refine ⟨?_, ?_⟩
  ·intro h10
   intro h11
   (have e0:=h1.1;omega)
  intro q10 hq10;subst hq10
  refine ⟨?_, ?_⟩
  ·intro h11
   intro h12
   (have e0:=h1.1;omega)
  refine ⟨?_, ?_⟩
  ·intro h11
   intro h12
   (have e0:=h1.1;omega)
  refine ⟨?_, ?_⟩
  ·intro h11
   intro h12
   (have e0:=h1.1;omega)
  refine ⟨?_, ?_⟩
  ·intro h11
   intro h12
   (have e0:=h1.1;omega)
  refine ⟨?_, ?_⟩
  ·intro h11
   intro h12
   (have e0:=h1.1;omega)
  refine ⟨?_, ?_⟩
  ·intro h11
   intro h12
   (have e0:=h1.1;omega)
  refine ⟨?_, ?_⟩
  ·intro h11
   intro h12
   (have e0:=h1.1;omega)
  intro q11 hq11;subst hq11
  refine ⟨?_, ?_⟩
  ·intro h12
   intro h13
   (have e0:=h1.1;omega)
  refine ⟨?_, ?_⟩
  ·intro h12
   intro h13
   (have e0:=h1.1;omega)
  refine ⟨?_, ?_⟩
  ·intro h12
   intro h13
   (have e0:=h1.1;omega)
  refine ⟨?_, ?_⟩
  ·intro h12
   intro h13
   (have e0:=h1.1;omega)
  refine ⟨?_, ?_⟩
  ·intro h12
   intro h13
   (have e0:=h1.1;omega)
  intro q12 hq12;subst hq12
  refine ⟨?_, ?_⟩
  ·intro h13
   intro h14
   (have e0:=h1.1;omega)
  refine ⟨?_, ?_⟩
  ·intro h13
   intro h14
   (have e0:=h1.1;omega)
  refine ⟨?_, ?_⟩
  ·intro h13
   intro h14
   (have e0:=h1.1;omega)
  refine ⟨?_, ?_⟩
  ·intro h13
   intro h14
   (have e0:=h1.1;omega)
  refine ⟨?_, ?_⟩
  ·intro h13
   intro h14
   (have e0:=h1.1;omega)
  refine ⟨?_, ?_⟩
  ·intro h13
   intro h14
   (have e0:=h1.1;omega)
  refine ⟨?_, ?_⟩
  ·intro h13
   intro h14
   (have e0:=h1.1;omega)
  intro q13 hq13;subst hq13
  refine ⟨?_, ?_⟩
  ·intro h14
   intro h15
   (have e0:=h1.1;omega)
  refine ⟨?_, ?_⟩
  ·intro h14
   intro h15
   (have e0:=h1.1;omega)
  refine ⟨?_, ?_⟩
  ·intro h14
   intro h15
   (have e0:=h1.1;omega)
  refine ⟨?_, ?_⟩
  ·intro h14
   intro h15
   (have e0:=h1.1;omega)
  refine ⟨?_, ?_⟩
  ·intro h14
   intro h15
   (have e0:=h1.1;omega)
  refine ⟨?_, ?_⟩
  ·intro h14
   intro h15
   (have e0:=h1.1;omega)
  refine ⟨?_, ?_⟩
  ·intro h14
   intro h15
   (have e0:=h1.1;omega)
  intro q14 hq14;subst hq14
  refine ⟨?_, ?_⟩
  ·intro h15
   intro h16
   (have e0:=h1.1;omega)
  refine ⟨?_, ?_⟩
  ·intro h15
   intro h16
   (have e0:=h1.1;omega)
  refine ⟨?_, ?_⟩
  ·intro h15
   intro h16
   (have e0:=h1.1;omega)
  refine ⟨?_, ?_⟩
  ·intro h15
   intro h16
   (have e0:=h1.1;omega)
  refine ⟨?_, ?_⟩
  ·intro h15
   intro h16
   (have e0:=h1.1;omega)
  refine ask_p (bp_not (bp_and (bp_and (bp_and (bp_and (bp_and (bp_and (bp_and bp_dec bp_dec) bp_dec) bp_dec) bp_id) bp_dec) bp_dec) bp_dec)) ?_ ?_
  ·intro h15
   refine ⟨by exact same_no (i:=x4.i) fun e=>h15 (by simp only [Int.toNat_natCast];rw [e];simp), ?_⟩
   trivial
  intro h15
  refine ⟨by trivial,by trivial,by trivial, ?_⟩
  refine ⟨⟨((IntKind.i64.wrap ((↑x4.i:Int)+(1:Int)):Int)).toNat⟩, ?_⟩
  try dsimp only
  refine ⟨?_, ?_⟩
  ·refine ⟨by (try simp only [wrap_i64,wrap_u64,wrap_u32,wrap_u8] at*)<;>omega, ?_⟩
   (simp only [Int.toNat_natCast,beq_iff_eq,Classical.not_not] at h15;exact k_P (P:=FOpsEq _ _) h1.1 h7 (opsEq_step h6 (by obtain ⟨⟨⟨⟨⟨⟨⟨a1,a2⟩,a3⟩,a4⟩,a5⟩,a6⟩,a7⟩,a8⟩:=h15;apply op_ext<;>assumption)))
  refine ⟨by exact k_mu h1.1 h7,by rfl,by rfl,by rfl,by rfl,by rfl,by rfl,by exact k_eq h1.1 h7,by (simp;done),by rfl, ?_⟩
  refine ⟨?_, ?_⟩
  ·intro i16
   intro h17
   refine ⟨by (simp;done),by rfl,by (exact ⟨rfl,fun h=>h,rfl⟩),by (exact ⟨rfl,fun h=>h,rfl⟩),by rfl,by (exact ⟨rfl,fun h=>h,rfl⟩),by (exact ⟨rfl,fun h=>h,rfl⟩),by (simp;done), ?_⟩
   trivial
  refine ⟨by (simp;done),by rfl, ?_⟩
  refine ⟨?_, ?_⟩
  ·intro i16
   intro h17
   refine ⟨by (simp;done),by rfl,by (exact ⟨rfl,fun h=>h,rfl⟩),by (exact ⟨rfl,fun h=>h,rfl⟩),by rfl,by (exact ⟨rfl,fun h=>h,rfl⟩),by (exact ⟨rfl,fun h=>h,rfl⟩),by (simp;done), ?_⟩
   trivial
  trivial
 intro h7
 refine ⟨by exact same_end ‹_› ‹_› ‹_›, ?_⟩
 trivial
abbrev zCTd0:LOp:=LOp.mk (0:Int) [] [] [] false [] [] (0:Int)
abbrev zCTd1:Prop->Prop:=fun p=>true=true/\(false=true->false=true)/\p
abbrev zCTd3:List LOp->XIt->LOp:=fun x0 x1=>x0.getD (Int.toNat (↑x1.i:Int)) zCTd0
abbrev zCTd4:List LOp->Nat->LOp:=fun x0 x1=>x0.getD x1 zCTd0
abbrev zCTd2:List LOp->Prop:=fun x0=>(false=true->false=true)/\x0.length=x0.length/\(∀(i:Nat),i<x0.length->(IntKind.i64=IntKind.i64/\(zCTd4 x0 i).kind=(zCTd4 x0 i).kind)/\(zCTd4 x0 i).table=(zCTd4 x0 i).table/\zCTd1 ((zCTd4 x0 i).key=(zCTd4 x0 i).key)/\zCTd1 ((zCTd4 x0 i).value=(zCTd4 x0 i).value)/\(zCTd4 x0 i).has=(zCTd4 x0 i).has/\zCTd1 ((zCTd4 x0 i).old=(zCTd4 x0 i).old)/\zCTd1 ((zCTd4 x0 i).to=(zCTd4 x0 i).to)/\(IntKind.i64=IntKind.i64/\(zCTd4 x0 i).most=(zCTd4 x0 i).most)/\True)/\True
def nf_small:Prop:=
 ∀(x:List LOp),FSmOps x->(∃(x_1:XIt),x_1.i<=x.length/\0=0/\0=0/\0=0/\x_1.t=(0:Int)/\(↑x_1.i:Int)=(0:Int)/\zCTd2 x)/\True/\∀(x_1:XIt),x_1.i<=x.length->∀(q:Bool),q=decide (LT.lt (α:=Int) (↑x_1.i:Int) (↑x.length:Int))->(q=true->q=true->q=true)/\(true=true->q=true->q=true)/\Eng.ask (bif q then decide ((↑x_1.i:Int)<(20:Int)) else false) ((0:Int)<=(↑x_1.i:Int)/\Int.toNat (↑x_1.i:Int)<x.length/\∀(q:Int),q=IntKind.i64.wrap (x_1.t+bif decide ((9999:Int)<(↑(zCTd3 x x_1).table.length:Int)) then (9999:Int) else (↑(zCTd3 x x_1).table.length:Int))->∀(q_1:Int),q_1=IntKind.i64.wrap (q+bif decide ((9999:Int)<(↑(zCTd3 x x_1).key.length:Int)) then (9999:Int) else (↑(zCTd3 x x_1).key.length:Int))->∀(q:Int),q=IntKind.i64.wrap (q_1+bif decide ((9999:Int)<(↑(zCTd3 x x_1).value.length:Int)) then (9999:Int) else (↑(zCTd3 x x_1).value.length:Int))->∀(q_2:Int),q_2=IntKind.i64.wrap (q+bif decide ((9999:Int)<(↑(zCTd3 x x_1).old.length:Int)) then (9999:Int) else (↑(zCTd3 x x_1).old.length:Int))->∀(q:Int),q=IntKind.i64.wrap (q_2+bif decide ((9999:Int)<(↑(zCTd3 x x_1).to.length:Int)) then (9999:Int) else (↑(zCTd3 x x_1).to.length:Int))->True/\True/\True/\∃(x':XIt),x'.i<=x.length/\x.length-x'.i<x.length-x_1.i/\0=0/\0=0/\0=0/\x'.t=q/\(↑x'.i:Int)=IntKind.i64.wrap ((↑x_1.i:Int)+(1:Int))/\zCTd2 x) (∃(x:Bool),True/\x=decide (x_1.t<(9999:Int))/\True)
theorem eq_small:vc_small=nf_small:=by kernel_rfl
theorem pf_small:nf_small:=by
 delta nf_small zCTd0 zCTd1 zCTd3 zCTd4 zCTd2
 intro x0
 intro h1
 refine ⟨?_, ?_⟩
 ·refine ⟨⟨(((0:Int):Int)).toNat,((0:Int))⟩, ?_⟩
  try dsimp only
  refine ⟨by (have e0:=h1.1;omega),by rfl,by rfl,by rfl,by rfl,by decide,by (simp;done),by rfl, ?_⟩
  refine ⟨?_, ?_⟩
  ·intro i2
   intro h3
   refine ⟨by (simp;done),by rfl,by (exact ⟨rfl,fun h=>h,rfl⟩),by (exact ⟨rfl,fun h=>h,rfl⟩),by rfl,by (exact ⟨rfl,fun h=>h,rfl⟩),by (exact ⟨rfl,fun h=>h,rfl⟩),by (simp;done), ?_⟩
   trivial
  trivial
 refine ⟨by trivial, ?_⟩
 intro x2
 intro h3
 intro q4 hq4;subst hq4
 refine ⟨by (simp;done),by (simp;done), ?_⟩
 refine ask_p (bp_and bp_dec bp_dec) ?_ ?_
 ·intro ⟨h5,h6⟩
  refine ⟨by (have e0:=h1.1;omega),by (have e0:=h1.1;omega), ?_⟩
  intro q7 h7
  intro q8 h8
  intro q9 h9
  intro q10 h10
  intro q11 h11
  refine ⟨by trivial,by trivial,by trivial, ?_⟩
  refine ⟨⟨((IntKind.i64.wrap ((↑x2.i:Int)+(1:Int)):Int)).toNat,(q11)⟩, ?_⟩
  try dsimp only
  refine ⟨by exact k_le h1.1 ‹_›,by exact k_mu h1.1 ‹_›,by rfl,by rfl,by rfl,by rfl,by exact k_eq h1.1 ‹_›,by (simp;done),by rfl, ?_⟩
  refine ⟨?_, ?_⟩
  ·intro i12
   intro h13
   refine ⟨by (simp;done),by rfl,by (exact ⟨rfl,fun h=>h,rfl⟩),by (exact ⟨rfl,fun h=>h,rfl⟩),by rfl,by (exact ⟨rfl,fun h=>h,rfl⟩),by (exact ⟨rfl,fun h=>h,rfl⟩),by (simp;done), ?_⟩
   trivial
  trivial
 intro h5
 refine ⟨(decide (x2.t<(9999:Int))), ?_⟩
 try dsimp only
 refine ⟨by trivial,by rfl, ?_⟩
 trivial
abbrev zCTe1:LOp:=LOp.mk (0:Int) [] [] [] false [] [] (0:Int)
abbrev zCTe2:Bool->Prop:=fun x0=>(bif false then x0 else !x0)=true
abbrev zCTe6:XOn->List LOp->Prop:=fun x0 x1=>x0.i<=x0.k/\x0.k<=x0.c/\x0.buf.length=x0.c/\x0.k<1048577/\FMays x1=true/\FHold (FForm x1) x0.k2 x0.c2 x0.op2 x0.buf2
abbrev zCTe8:Prop->Prop:=fun p=>0=0/\0=0/\p
abbrev zCTe10:Prop:=false=true->false=true
abbrev zCTe3:Prop->Prop:=fun p=>true=true/\zCTe10/\p
abbrev zCTe7:Bool->Prop:=fun x0=>true=true->zCTe2 x0
abbrev zCTe9:List LOp->Nat->LOp:=fun x0 x1=>x0.getD x1 zCTe1
abbrev zCTe11:Bool->Prop->Prop:=fun x0 p=>(zCTe2 x0->zCTe2 x0->zCTe2 x0)/\(true=true->x0=false->zCTe2 x0)/\p
abbrev zCTe0:List LOp->List LOp->Prop->Prop:=fun x0 x1 p=>zCTe10/\x0.length=x1.length/\(∀(i:Nat),i<x0.length->(IntKind.i64=IntKind.i64/\(zCTe9 x0 i).kind=(zCTe9 x1 i).kind)/\(zCTe9 x0 i).table=(zCTe9 x1 i).table/\zCTe3 ((zCTe9 x0 i).key=(zCTe9 x1 i).key)/\zCTe3 ((zCTe9 x0 i).value=(zCTe9 x1 i).value)/\(zCTe9 x0 i).has=(zCTe9 x1 i).has/\zCTe3 ((zCTe9 x0 i).old=(zCTe9 x1 i).old)/\zCTe3 ((zCTe9 x0 i).to=(zCTe9 x1 i).to)/\(IntKind.i64=IntKind.i64/\(zCTe9 x0 i).most=(zCTe9 x1 i).most)/\True)/\p
abbrev zCTe4:List LOp->Prop->Prop:=fun x0 p=>zCTe10/\x0.length=x0.length/\(∀(i:Nat),i<x0.length->(IntKind.i64=IntKind.i64/\(zCTe9 x0 i).kind=(zCTe9 x0 i).kind)/\(zCTe9 x0 i).table=(zCTe9 x0 i).table/\zCTe3 ((zCTe9 x0 i).key=(zCTe9 x0 i).key)/\zCTe3 ((zCTe9 x0 i).value=(zCTe9 x0 i).value)/\(zCTe9 x0 i).has=(zCTe9 x0 i).has/\zCTe3 ((zCTe9 x0 i).old=(zCTe9 x0 i).old)/\zCTe3 ((zCTe9 x0 i).to=(zCTe9 x0 i).to)/\(IntKind.i64=IntKind.i64/\(zCTe9 x0 i).most=(zCTe9 x0 i).most)/\True)/\p
abbrev zCTe5:Bool->Prop->Prop:=fun x0 p=>(zCTe2 x0->zCTe2 x0->zCTe2 x0)/\zCTe11 x0 p
def nf_one:Prop:=
 ∀(x:List LOp),FSmOps x->∃(x_1:List LOp),FSmOps x_1/\zCTe0 x_1 x (∀(x_2:Bool),True->True/\Eng.ask (!x_2) (true=true/\True) (∃(x_3:List LOp),FSmOps x_3/\zCTe0 x_3 x (True/\∃(x_4:List LOp),FSmOps x_4/\zCTe0 x_4 x (True/\∃(x_5:List LOp),FSmOps x_5/\zCTe0 x_5 x_3 (∀(x_6:XHb),FBy x_5 x_6->True/\∃(x_7:List LOp),FSmOps x_7/\zCTe0 x_7 x_3 (∀(x_8:XHb),FBy x_7 x_8->True/\∃(x_9:List LOp),FSmOps x_9/\zCTe0 x_9 x_3 (True/\∃(x_10:List LOp),FSmOps x_10/\zCTe0 x_10 x_3 (True/\∃(x_11:Int),True/\x_11=FChk x_10/\True/\∀(q:Bool),q= !decide (x_11=FChk x_4)->∃(x_12:List LOp),(zCTe2 q->zCTe7 q/\FSmOps x_12/\True/\zCTe0 x_12 x_3 True)/\∃(x_13:List LOp),(zCTe2 q->zCTe7 q/\FSmOps x_13/\True/\zCTe0 x_13 x True)/\zCTe5 q (∀(q_1:Bool),(q_1=bif q then true else !FReads x_12==FReads x_13)->∃(x_14:Int),(zCTe2 q_1->zCTe7 q_1/\True/\True/\x_14=x_6.e/\True)/\zCTe5 q_1 (∀(q:Bool),(q=bif q_1 then true else !decide (x_14=FChk x_4))->∃(x_15:Int),(zCTe2 q->zCTe7 q/\True/\True/\x_15=FChk x_9/\True)/\zCTe5 q (∀(q_2:Bool),(q_2=bif q then true else !decide (x_15=FChk x_4))->∃(x_16:XCC),(zCTe2 q_2->zCTe7 q_2/\zCTe7 q_2/\(FSmOps x_16.a/\FSmOps x_16.b)/\True/\zCTe10/\x_16.a.length=x_3.length/\(∀(i:Nat),i<x_16.a.length->(IntKind.i64=IntKind.i64/\(x_16.a.getD i zCTe1).kind=(zCTe9 x_3 i).kind)/\(x_16.a.getD i zCTe1).table=(zCTe9 x_3 i).table/\zCTe3 ((x_16.a.getD i zCTe1).key=(zCTe9 x_3 i).key)/\zCTe3 ((x_16.a.getD i zCTe1).value=(zCTe9 x_3 i).value)/\(x_16.a.getD i zCTe1).has=(zCTe9 x_3 i).has/\zCTe3 ((x_16.a.getD i zCTe1).old=(zCTe9 x_3 i).old)/\zCTe3 ((x_16.a.getD i zCTe1).to=(zCTe9 x_3 i).to)/\(IntKind.i64=IntKind.i64/\(x_16.a.getD i zCTe1).most=(zCTe9 x_3 i).most)/\True)/\zCTe10/\x_16.b.length=x.length/\(∀(i:Nat),i<x_16.b.length->(IntKind.i64=IntKind.i64/\(x_16.b.getD i zCTe1).kind=(zCTe9 x i).kind)/\(x_16.b.getD i zCTe1).table=(zCTe9 x i).table/\zCTe3 ((x_16.b.getD i zCTe1).key=(zCTe9 x i).key)/\zCTe3 ((x_16.b.getD i zCTe1).value=(zCTe9 x i).value)/\(x_16.b.getD i zCTe1).has=(zCTe9 x i).has/\zCTe3 ((x_16.b.getD i zCTe1).old=(zCTe9 x i).old)/\zCTe3 ((x_16.b.getD i zCTe1).to=(zCTe9 x i).to)/\(IntKind.i64=IntKind.i64/\(x_16.b.getD i zCTe1).most=(zCTe9 x i).most)/\True)/\True)/\zCTe11 q_2 (Eng.ask (bif q_2 then true else !FSame x_16.a x_16.b) (true=false/\True) (Eng.ask (!decide (FChk x_4=(0:Int))) (∀(q:Bool),q=decide ((↑x_6.k:Int)=(0:Int))->(q=true->q=true->q=true)/\(true=true->q=true->q=true)/\∀(q_3:Bool),(q_3=bif q then decide ((bif decide (FChk x_9=(0:Int)) then FTxt x_9 else [])=(ByteArray.mk #[]).data.toList) else false)->Eng.ask q_3 (true=true/\True) (true=false/\True)) (0+x_6.k<=x_6.buf.length/\∃(x_17:List LOp),FMays x_17=true/\zCTe0 x_17 x (True/\∀(q:Bool),q= !decide (cutL x_6.buf 0 x_6.k=FForm x_17)->∃(x_18:List LOp),(zCTe2 q->zCTe7 q/\FMays x_18=true/\True/\zCTe0 x_18 x True)/\zCTe5 q (Eng.ask (bif q then true else !decide ((bif decide (FChk x_9=(0:Int)) then FTxt x_9 else [])=FTxt x_18)) (true=false/\True) ((∃(x_19:XOn),zCTe6 x_19 x/\zCTe8 (zCTe8 (x_19.k=x_6.k/\x_19.c=x_6.c/\x_19.op=x_6.op/\0=0/\x_19.k2=x_8.k/\x_19.c2=x_8.c/\x_19.op2=x_8.op/\(↑x_19.i:Int)=(0:Int)/\zCTe4 x (x_19.buf=x_6.buf/\x_19.buf2=x_8.buf/\True))))/\True/\∀(x_19:XOn),zCTe6 x_19 x->Eng.ask (decide (LT.lt (α:=Int) (↑x_19.i:Int) (↑x_19.k:Int))) ((0:Int)<=(↑x_19.i:Int)/\Int.toNat (↑x_19.i:Int)<x_19.k/\0+Int.toNat (↑x_19.i:Int)<x_19.buf.length/\((0:Int)<=(90:Int)/\(90:Int)<(256:Int))/\True/\True/\True/\∃(x':XOn),zCTe6 x' x/\x'.k-x'.i<x_19.k-x_19.i/\zCTe8 (zCTe8 (x'.k=x_19.k/\x'.c=x_19.c/\x'.op=x_19.op/\0=0/\x'.k2=x_19.k2/\x'.c2=x_19.c2/\x'.op2=x_19.op2/\(↑x'.i:Int)=IntKind.i64.wrap ((↑x_19.i:Int)+(1:Int))/\zCTe4 x (x'.buf=x_19.buf.set (0+Int.toNat (↑x_19.i:Int)) (UInt8.ofNat 90)/\x'.buf2=x_19.buf2/\True)))) (0+x_19.k2<=x_19.buf2.length/\∃(x_20:List LOp),FMays x_20=true/\zCTe0 x_20 x (True/\∀(q:Bool),q=decide (cutL x_19.buf2 0 x_19.k2=FForm x_20)->Eng.ask q (true=true/\True) False)))))))))))))))))))
theorem eq_one:vc_one=nf_one:=by kernel_rfl
theorem pf_one:nf_one:=by
 delta nf_one zCTe1 zCTe2 zCTe6 zCTe8 zCTe10 zCTe3 zCTe7 zCTe9 zCTe11 zCTe0 zCTe4 zCTe5
 intro x0
 intro h1
 refine ⟨x0, ?_⟩
 try dsimp only
 refine ⟨by exact h1,by (simp;done),by rfl, ?_⟩
 refine ⟨?_, ?_⟩
 ·intro i2
  intro h3
  refine ⟨by (simp;done),by rfl,by (exact ⟨rfl,fun h=>h,rfl⟩),by (exact ⟨rfl,fun h=>h,rfl⟩),by rfl,by (exact ⟨rfl,fun h=>h,rfl⟩),by (exact ⟨rfl,fun h=>h,rfl⟩),by (simp;done), ?_⟩
  trivial
 intro x2
 intro h3
 refine ⟨by trivial, ?_⟩
 refine ask_p (bp_not bp_id) ?_ ?_
 ·intro h4
  refine ⟨by rfl, ?_⟩
  trivial
 intro h4
 refine ⟨x0, ?_⟩
 try dsimp only
 refine ⟨by exact h1,by (simp;done),by rfl, ?_⟩
 refine ⟨?_, ?_⟩
 ·intro i5
  intro h6
  refine ⟨by (simp;done),by rfl,by (exact ⟨rfl,fun h=>h,rfl⟩),by (exact ⟨rfl,fun h=>h,rfl⟩),by rfl,by (exact ⟨rfl,fun h=>h,rfl⟩),by (exact ⟨rfl,fun h=>h,rfl⟩),by (simp;done), ?_⟩
  trivial
 refine ⟨by trivial, ?_⟩
 refine ⟨x0, ?_⟩
 try dsimp only
 refine ⟨by exact h1,by (simp;done),by rfl, ?_⟩
 refine ⟨?_, ?_⟩
 ·intro i5
  intro h6
  refine ⟨by (simp;done),by rfl,by (exact ⟨rfl,fun h=>h,rfl⟩),by (exact ⟨rfl,fun h=>h,rfl⟩),by rfl,by (exact ⟨rfl,fun h=>h,rfl⟩),by (exact ⟨rfl,fun h=>h,rfl⟩),by (simp;done), ?_⟩
  trivial
 refine ⟨by trivial, ?_⟩
 refine ⟨x0, ?_⟩
 try dsimp only
 refine ⟨by exact h1,by (simp;done),by rfl, ?_⟩
 refine ⟨?_, ?_⟩
 ·intro i5
  intro h6
  refine ⟨by (simp;done),by rfl,by (exact ⟨rfl,fun h=>h,rfl⟩),by (exact ⟨rfl,fun h=>h,rfl⟩),by rfl,by (exact ⟨rfl,fun h=>h,rfl⟩),by (exact ⟨rfl,fun h=>h,rfl⟩),by (simp;done), ?_⟩
  trivial
 intro x5
 intro h6
 refine ⟨by trivial, ?_⟩
 refine ⟨x0, ?_⟩
 try dsimp only
 refine ⟨by exact h1,by (simp;done),by rfl, ?_⟩
 refine ⟨?_, ?_⟩
 ·intro i7
  intro h8
  refine ⟨by (simp;done),by rfl,by (exact ⟨rfl,fun h=>h,rfl⟩),by (exact ⟨rfl,fun h=>h,rfl⟩),by rfl,by (exact ⟨rfl,fun h=>h,rfl⟩),by (exact ⟨rfl,fun h=>h,rfl⟩),by (simp;done), ?_⟩
  trivial
 intro x7
 intro h8
 refine ⟨by trivial, ?_⟩
 refine ⟨x0, ?_⟩
 try dsimp only
 refine ⟨by exact h1,by (simp;done),by rfl, ?_⟩
 refine ⟨?_, ?_⟩
 ·intro i9
  intro h10
  refine ⟨by (simp;done),by rfl,by (exact ⟨rfl,fun h=>h,rfl⟩),by (exact ⟨rfl,fun h=>h,rfl⟩),by rfl,by (exact ⟨rfl,fun h=>h,rfl⟩),by (exact ⟨rfl,fun h=>h,rfl⟩),by (simp;done), ?_⟩
  trivial
 refine ⟨by trivial, ?_⟩
 refine ⟨x0, ?_⟩
 try dsimp only
 refine ⟨by exact h1,by (simp;done),by rfl, ?_⟩
 refine ⟨?_, ?_⟩
 ·intro i9
  intro h10
  refine ⟨by (simp;done),by rfl,by (exact ⟨rfl,fun h=>h,rfl⟩),by (exact ⟨rfl,fun h=>h,rfl⟩),by rfl,by (exact ⟨rfl,fun h=>h,rfl⟩),by (exact ⟨rfl,fun h=>h,rfl⟩),by (simp;done), ?_⟩
  trivial
 refine ⟨by trivial, ?_⟩
 refine ⟨(FChk x0), ?_⟩
 try dsimp only
 refine ⟨by trivial,by rfl,by trivial, ?_⟩
 intro q9 hq9;subst hq9
 refine ⟨x0, ?_⟩
 try dsimp only
 refine ⟨?_, ?_⟩
 ·intro h10
  refine ⟨by (simp;done),by exact h1,by trivial,by (simp;done),by rfl, ?_⟩
  refine ⟨?_, ?_⟩
  ·intro i11
   intro h12
   refine ⟨by (simp;done),by rfl,by (exact ⟨rfl,fun h=>h,rfl⟩),by (exact ⟨rfl,fun h=>h,rfl⟩),by rfl,by (exact ⟨rfl,fun h=>h,rfl⟩),by (exact ⟨rfl,fun h=>h,rfl⟩),by (simp;done), ?_⟩
   trivial
  trivial
 refine ⟨x0, ?_⟩
 try dsimp only
 refine ⟨?_, ?_⟩
 ·intro h10
  refine ⟨by (simp;done),by exact h1,by trivial,by (simp;done),by rfl, ?_⟩
  refine ⟨?_, ?_⟩
  ·intro i11
   intro h12
   refine ⟨by (simp;done),by rfl,by (exact ⟨rfl,fun h=>h,rfl⟩),by (exact ⟨rfl,fun h=>h,rfl⟩),by rfl,by (exact ⟨rfl,fun h=>h,rfl⟩),by (exact ⟨rfl,fun h=>h,rfl⟩),by (simp;done), ?_⟩
   trivial
  trivial
 refine ⟨by (simp;done),by (simp;done),by (simp;done), ?_⟩
 intro q10 hq10;subst hq10
 refine ⟨(x5.e), ?_⟩
 try dsimp only
 refine ⟨by (simp;done),by (simp;done),by (simp;done),by (simp;done), ?_⟩
 intro q11 hq11;subst hq11
 refine ⟨(FChk x0), ?_⟩
 try dsimp only
 refine ⟨by (simp;done),by (simp;done),by (simp;done),by (simp;done), ?_⟩
 intro q12 hq12;subst hq12
 refine ⟨⟨x0,x0⟩, ?_⟩
 try dsimp only
 refine ⟨?_, ?_⟩
 ·intro h13
  refine ⟨?_, ?_⟩
  ·intro h14
   omega
  refine ⟨?_, ?_⟩
  ·intro h14
   omega
  refine ⟨?_, ?_⟩
  ·refine ⟨by exact h1, ?_⟩
   exact h1
  refine ⟨by trivial,by (simp;done),by rfl, ?_⟩
  refine ⟨?_, ?_⟩
  ·intro i14
   intro h15
   refine ⟨by (simp;done),by rfl,by (exact ⟨rfl,fun h=>h,rfl⟩),by (exact ⟨rfl,fun h=>h,rfl⟩),by rfl,by (exact ⟨rfl,fun h=>h,rfl⟩),by (exact ⟨rfl,fun h=>h,rfl⟩),by (simp;done), ?_⟩
   trivial
  refine ⟨by (simp;done),by rfl, ?_⟩
  refine ⟨?_, ?_⟩
  ·intro i14
   intro h15
   refine ⟨by (simp;done),by rfl,by (exact ⟨rfl,fun h=>h,rfl⟩),by (exact ⟨rfl,fun h=>h,rfl⟩),by rfl,by (exact ⟨rfl,fun h=>h,rfl⟩),by (exact ⟨rfl,fun h=>h,rfl⟩),by (simp;done), ?_⟩
   trivial
  trivial
 refine ⟨by (simp;done),by (simp;done), ?_⟩
 refine ask_p (bp_or (bp_or (bp_or (bp_or (bp_not bp_dec) (bp_not bp_id)) (bp_not bp_dec)) (bp_not bp_dec)) (bp_not bp_id)) ?_ ?_
 ·intro h13
  refine ⟨by (exfalso;rcases h13 with (((h13 | h13) | h13) | h13) | h13;exact h13 rfl;exact h13 (by simp);exact h13 h6.1;exact h13 rfl;exact h13 (same_yes rfl)), ?_⟩
  trivial
 intro h13
 refine ask_p (bp_not bp_dec) ?_ ?_
 ·intro h14
  intro q15 hq15;subst hq15
  refine ⟨by (simp;done),by (simp;done), ?_⟩
  intro q16 hq16;subst hq16
  refine ask_p (bp_and bp_dec bp_dec) ?_ ?_
  ·intro ⟨h17,h18⟩
   refine ⟨by rfl, ?_⟩
   trivial
  intro h17
  refine ⟨by (exfalso;exact h17 ⟨by rw [(h6.2.2 h14).1];rfl,ct_no h14⟩), ?_⟩
  trivial
 intro h14
 refine ⟨by (obtain ⟨e1,e2,e3,e4,e5⟩:=h6.2.1 (Classical.not_not.1 h14);omega), ?_⟩
 refine ⟨x0, ?_⟩
 try dsimp only
 refine ⟨by exact chk_may (Classical.not_not.1 h14),by (simp;done),by rfl, ?_⟩
 refine ⟨?_, ?_⟩
 ·intro i15
  intro h16
  refine ⟨by (simp;done),by rfl,by (exact ⟨rfl,fun h=>h,rfl⟩),by (exact ⟨rfl,fun h=>h,rfl⟩),by rfl,by (exact ⟨rfl,fun h=>h,rfl⟩),by (exact ⟨rfl,fun h=>h,rfl⟩),by (simp;done), ?_⟩
  trivial
 refine ⟨by trivial, ?_⟩
 intro q15 hq15;subst hq15
 refine ⟨x0, ?_⟩
 try dsimp only
 refine ⟨?_, ?_⟩
 ·intro h16
  refine ⟨?_, ?_⟩
  ·intro h17
   (obtain ⟨e1,e2,e3,e4,e5⟩:=h6.2.1 (Classical.not_not.1 h14);omega)
  refine ⟨by exact chk_may (Classical.not_not.1 h14),by trivial,by (simp;done),by rfl, ?_⟩
  refine ⟨?_, ?_⟩
  ·intro i17
   intro h18
   refine ⟨by (simp;done),by rfl,by (exact ⟨rfl,fun h=>h,rfl⟩),by (exact ⟨rfl,fun h=>h,rfl⟩),by rfl,by (exact ⟨rfl,fun h=>h,rfl⟩),by (exact ⟨rfl,fun h=>h,rfl⟩),by (simp;done), ?_⟩
   trivial
  trivial
 refine ⟨by (simp;done),by (simp;done),by (simp;done), ?_⟩
 refine ask_p (bp_or (bp_not bp_dec) (bp_not bp_dec)) ?_ ?_
 ·intro h16
  refine ⟨by (exfalso;rcases h16 with h16 | h16;exact h16 (hold_end (h6.2.1 (Classical.not_not.1 h14)) rfl).symm;exact h16 (ct_yes (Classical.not_not.1 h14))), ?_⟩
  trivial
 intro h16
 refine ⟨?_, ?_⟩
 ·refine ⟨⟨(((0:Int):Int)).toNat,(x5.k),(x5.c),(x5.op),(x5.buf),(x7.k),(x7.c),(x7.op),(x7.buf)⟩, ?_⟩
  try dsimp only
  refine ⟨?_, ?_⟩
  ·refine ⟨by (obtain ⟨e1,e2,e3,e4,e5⟩:=h6.2.1 (Classical.not_not.1 h14);omega),by (obtain ⟨e1,e2,e3,e4,e5⟩:=h6.2.1 (Classical.not_not.1 h14);omega),by (obtain ⟨e1,e2,e3,e4,e5⟩:=h6.2.1 (Classical.not_not.1 h14);omega),by (have e1:=chk_len (Classical.not_not.1 h14);have e2:=hold_len (h6.2.1 (Classical.not_not.1 h14));omega),by exact chk_may (Classical.not_not.1 h14), ?_⟩
   exact h8.2.1 (Classical.not_not.1 h14)
  refine ⟨by rfl,by rfl,by rfl,by rfl,by rfl,by rfl,by rfl,by rfl,by rfl,by rfl,by rfl,by decide, ?_⟩
  refine ⟨by (simp;done),by rfl, ?_⟩
  refine ⟨?_, ?_⟩
  ·intro i17
   intro h18
   refine ⟨by (simp;done),by rfl,by (exact ⟨rfl,fun h=>h,rfl⟩),by (exact ⟨rfl,fun h=>h,rfl⟩),by rfl,by (exact ⟨rfl,fun h=>h,rfl⟩),by (exact ⟨rfl,fun h=>h,rfl⟩),by (simp;done), ?_⟩
   trivial
  refine ⟨by rfl,by rfl, ?_⟩
  trivial
 refine ⟨by trivial, ?_⟩
 intro x17
 intro ⟨h18,⟨h19,⟨h20,⟨h21,⟨h22,h23⟩⟩⟩⟩⟩
 refine ask_p bp_dec ?_ ?_
 ·intro h24
  refine ⟨by (obtain ⟨e1,e2,e3,e4,e5⟩:=h6.2.1 (Classical.not_not.1 h14);omega),by (obtain ⟨e1,e2,e3,e4,e5⟩:=h6.2.1 (Classical.not_not.1 h14);omega),by (obtain ⟨e1,e2,e3,e4,e5⟩:=h6.2.1 (Classical.not_not.1 h14);omega),by (simp;done),by trivial,by trivial,by trivial, ?_⟩
  refine ⟨⟨((IntKind.i64.wrap ((↑x17.i:Int)+(1:Int)):Int)).toNat,(x17.k),(x17.c),(x17.op),(x17.buf.set (0+Int.toNat (↑x17.i:Int)) (UInt8.ofNat 90)),(x17.k2),(x17.c2),(x17.op2),(x17.buf2)⟩, ?_⟩
  try dsimp only
  refine ⟨?_, ?_⟩
  ·refine ⟨by (rw [wrap_succ _ (by omega)];omega),by (obtain ⟨e1,e2,e3,e4,e5⟩:=h6.2.1 (Classical.not_not.1 h14);omega),by grind,by (obtain ⟨e1,e2,e3,e4,e5⟩:=h6.2.1 (Classical.not_not.1 h14);omega),by (obtain ⟨e1,e2,e3,e4,e5⟩:=h6.2.1 (Classical.not_not.1 h14);omega), ?_⟩
   (obtain ⟨e1,e2,e3,e4,e5⟩:=h6.2.1 (Classical.not_not.1 h14);omega)
  refine ⟨by (rw [wrap_succ _ (by omega)];omega),by rfl,by rfl,by rfl,by rfl,by rfl,by rfl,by rfl,by rfl,by rfl,by rfl,by rfl, ?_⟩
  refine ⟨by (rw [wrap_succ _ (by omega)];omega),by (simp;done),by rfl, ?_⟩
  refine ⟨?_, ?_⟩
  ·intro i25
   intro h26
   refine ⟨by (simp;done),by rfl,by (exact ⟨rfl,fun h=>h,rfl⟩),by (exact ⟨rfl,fun h=>h,rfl⟩),by rfl,by (exact ⟨rfl,fun h=>h,rfl⟩),by (exact ⟨rfl,fun h=>h,rfl⟩),by (simp;done), ?_⟩
   trivial
  refine ⟨by rfl,by rfl, ?_⟩
  trivial
 intro h24
 refine ⟨by (obtain ⟨e1,e2,e3,e4,e5⟩:=h23;omega), ?_⟩
 refine ⟨x0, ?_⟩
 try dsimp only
 refine ⟨by (obtain ⟨e1,e2,e3,e4,e5⟩:=h6.2.1 (Classical.not_not.1 h14);omega),by (simp;done),by rfl, ?_⟩
 refine ⟨?_, ?_⟩
 ·intro i25
  intro h26
  refine ⟨by (simp;done),by rfl,by (exact ⟨rfl,fun h=>h,rfl⟩),by (exact ⟨rfl,fun h=>h,rfl⟩),by rfl,by (exact ⟨rfl,fun h=>h,rfl⟩),by (exact ⟨rfl,fun h=>h,rfl⟩),by (simp;done), ?_⟩
  trivial
 refine ⟨by trivial, ?_⟩
 intro q25 hq25;subst hq25
 refine ask_p bp_dec ?_ ?_
 ·intro h26
  refine ⟨by rfl, ?_⟩
  trivial
 intro h26
 exact h26 (hold_end h23 rfl).symm
end Go.Proofs
