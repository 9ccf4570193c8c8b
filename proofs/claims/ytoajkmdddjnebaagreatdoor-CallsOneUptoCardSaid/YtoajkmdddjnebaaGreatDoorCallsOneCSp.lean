import Derived.Test.YtoajkmdddjnebaaGreatDoorCallsOneCS
set_option linter.unusedSimpArgs false
set_option linter.unusedVariables false
namespace Go.Proofs
open Go.Eng
set_option maxRecDepth 100000
abbrev zCSa1:LOp:=LOp.mk (0:Int) [] [] [] false [] [] (0:Int)
abbrev zCSa2:Prop:=false=true->false=true
abbrev zCSa3:XI->Nat:=fun x0=>Int.toNat (↑x0.i:Int)
abbrev zCSa4:XI->List LOp->XI->Prop->Prop:=fun x0 x1 x2 p=>x0.i<=x1.length/\x1.length-x0.i<x1.length-x2.i/\0=0/\x0.i=x2.i+1/\p
abbrev zCSa5:List LOp->Int:=fun x0=>(↑x0.length:Int)
abbrev zCSa6:List LOp->Nat->LOp:=fun x0 x1=>x0.getD x1 zCSa1
abbrev zCSa7:List LOp->XI->LOp:=fun x0 x1=>x0.getD (zCSa3 x1) zCSa1
abbrev zCSa8:Prop->Prop:=fun p=>true=true/\zCSa2/\p
abbrev zCSa0:List LOp->Prop->Prop:=fun x0 p=>zCSa2/\x0.length=x0.length/\(∀(i:Nat),i<x0.length->(IntKind.i64=IntKind.i64/\(zCSa6 x0 i).kind=(zCSa6 x0 i).kind)/\(zCSa6 x0 i).table=(zCSa6 x0 i).table/\zCSa8 ((zCSa6 x0 i).key=(zCSa6 x0 i).key)/\zCSa8 ((zCSa6 x0 i).value=(zCSa6 x0 i).value)/\(zCSa6 x0 i).has=(zCSa6 x0 i).has/\zCSa8 ((zCSa6 x0 i).old=(zCSa6 x0 i).old)/\zCSa8 ((zCSa6 x0 i).to=(zCSa6 x0 i).to)/\(IntKind.i64=IntKind.i64/\(zCSa6 x0 i).most=(zCSa6 x0 i).most)/\True)/\zCSa5 x0=zCSa5 x0/\p
def nf_written:Prop:=
 ∀(x:List LOp),FMays x=true->true=true/\(0:Int)<=(0:Int)/\(0:Int)<=zCSa5 x/\16*(zCSa5 x).toNat<=1099511627776/\(zCSa5 x).toNat<=1099511627776/\(∃(x_1:XI),x_1.i<=x.length/\0=0/\x_1.i=0/\x.length=(zCSa5 x).toNat/\false=false/\zCSa0 x ((↑x_1.i:Int)=(0:Int)/\x.length=(zCSa5 x).toNat/\(∀(i:Nat),i<x.length->FWr x x_1.i i=[]/\True)/\True))/\True/\∀(x_1:XI),x_1.i<=x.length->Eng.ask (decide ((↑x_1.i:Int)<zCSa5 x)) ((0:Int)<=(↑x_1.i:Int)/\zCSa3 x_1<x.length/\∃(x_2:LOp),FMayOp x_2=true/\x_2.kind=(zCSa7 x x_1).kind/\x_2.table=(zCSa7 x x_1).table/\zCSa2/\x_2.key=(zCSa7 x x_1).key/\zCSa2/\x_2.value=(zCSa7 x x_1).value/\x_2.has=(zCSa7 x x_1).has/\zCSa2/\x_2.old=(zCSa7 x x_1).old/\zCSa2/\x_2.to=(zCSa7 x x_1).to/\x_2.most=(zCSa7 x x_1).most/\True/\0+x_1.i<=x.length/\Eng.ask (leNB (x_1.i+1) x.length) (0+x_1.i+1<=x.length/\True/\True/\True/\∃(x':XI),zCSa4 x' x x_1 (x.length=x.length/\false=false/\zCSa0 x ((↑x'.i:Int)=IntKind.i64.wrap ((↑x_1.i:Int)+(1:Int))/\x.length=x.length/\(∀(i:Nat),i<x.length->match (fun (i:Nat)=>bif i.blt (0+x_1.i) then [SV.str (FWr x x_1.i i)] else bif i.blt (0+x_1.i+1) then List.take 1 (List.drop ((0+(i- (0+x_1.i)))*1) [SV.str (FTxOp x_2)]) else [SV.str (FWr x x_1.i i)]) i with | b::y=>leV (SV.str (FWr x x'.i i)) b/\leL [] y | x=>False)/\True))) ((x_1.i+1)*16<1099511627776/\True/\True/\True/\∃(x':XI),zCSa4 x' x x_1 (x.length=x_1.i+1/\false=true/\zCSa0 x ((↑x'.i:Int)=IntKind.i64.wrap ((↑x_1.i:Int)+(1:Int))/\x.length=x_1.i+1/\(∀(i:Nat),i<x.length->match (fun (i:Nat)=>bif i.blt x_1.i then [SV.str (FWr x x_1.i (0+i))] else List.take 1 (List.drop ((0+(i-x_1.i))*1) [SV.str (FTxOp x_2)])) i with | b::y=>leV (SV.str (FWr x x'.i i)) b/\leL [] y | x=>False)/\True)))) (∃(x_2:XJ),(0<x_2.l.length/\x_2.l.length<=1099511627776/\(joinL x_2.l x_2.sep).length<1099511627776)/\(false=true->false=true->x_1.i≠0\/x.length≠0)/\x_2.l.length=x_1.i/\0+x_1.i<=x.length/\(∀(i:Nat),i<x_2.l.length->x_2.l.getD i []=FWr x x_1.i (0+i)/\True)/\x_2.sep=[(59:UInt8),(32:UInt8)]/\(True/\True)/\FTxt x=joinL x_2.l x_2.sep/\True)
theorem eq_written:vc_written=nf_written:=by kernel_rfl
theorem pf_written:nf_written:=by
 delta nf_written zCSa1 zCSa2 zCSa3 zCSa4 zCSa5 zCSa6 zCSa7 zCSa8 zCSa0
 intro x0
 intro h1
 refine ⟨by rfl,by decide,by (have:=forms_len h1;omega),by (have:=forms_len h1;omega),by (have:=forms_len h1;omega), ?_⟩
 refine ⟨?_, ?_⟩
 ·refine ⟨⟨(0)⟩, ?_⟩
  try dsimp only
  refine ⟨by (have:=forms_len h1;omega),by rfl,by rfl,by (have:=forms_len h1;omega),by rfl,by (simp;done),by rfl, ?_⟩
  refine ⟨?_, ?_⟩
  ·intro i2
   intro h3
   refine ⟨by (simp;done),by rfl,by (exact ⟨rfl,fun h=>h,rfl⟩),by (exact ⟨rfl,fun h=>h,rfl⟩),by rfl,by (exact ⟨rfl,fun h=>h,rfl⟩),by (exact ⟨rfl,fun h=>h,rfl⟩),by (simp;done), ?_⟩
   trivial
  refine ⟨by rfl,by decide,by (have:=forms_len h1;omega), ?_⟩
  refine ⟨?_, ?_⟩
  ·intro i2
   intro h3
   refine ⟨by rfl, ?_⟩
   trivial
  trivial
 refine ⟨by trivial, ?_⟩
 intro x2
 intro h3
 refine ask_p bp_dec ?_ ?_
 ·intro h4
  refine ⟨by (have:=forms_len h1;omega),by (have:=forms_len h1;omega), ?_⟩
  refine ⟨x0.getD x2.i (LOp.mk 0 [] [] [] false [] [] 0), ?_⟩
  try dsimp only
  refine ⟨by exact mays_op h1 h4,by rfl,by rfl,by (simp;done),by rfl,by (simp;done),by rfl,by rfl,by (simp;done),by rfl,by (simp;done),by rfl, ?_⟩
  refine ⟨by rfl,by trivial,by (have:=forms_len h1;omega), ?_⟩
  refine ask_p bp_le ?_ ?_
  ·intro h5
   refine ⟨by (have:=forms_len h1;omega),by trivial,by trivial,by trivial, ?_⟩
   refine ⟨⟨(x2.i+1)⟩, ?_⟩
   try dsimp only
   refine ⟨by (have:=forms_len h1;omega),by (have:=forms_len h1;omega),by rfl,by rfl,by rfl,by rfl,by (simp;done),by rfl, ?_⟩
   refine ⟨?_, ?_⟩
   ·intro i6
    intro h7
    refine ⟨by (simp;done),by rfl,by (exact ⟨rfl,fun h=>h,rfl⟩),by (exact ⟨rfl,fun h=>h,rfl⟩),by rfl,by (exact ⟨rfl,fun h=>h,rfl⟩),by (exact ⟨rfl,fun h=>h,rfl⟩),by (simp;done), ?_⟩
    trivial
   refine ⟨by rfl,by (have:=mays_len h1;rw [k_w (by omega) h4];done),by rfl, ?_⟩
   refine ⟨?_, ?_⟩
   ·intro i6
    intro h7
    exact wr_step _ rfl
   trivial
  intro h5
  exfalso;omega
 intro h4
 refine ⟨⟨x0.map FTxOp,[59,32]⟩, ?_⟩
 try dsimp only
 refine ⟨?_, ?_⟩
 ·refine ⟨by (have:=forms_len h1;simp only [List.length_map];omega),by (have:=forms_len h1;simp only [List.length_map];omega), ?_⟩
  (have:=ftxt_all h1;unfold FTxt at this;omega)
 refine ⟨by (simp;done),by (have:=forms_len h1;simp only [List.length_map];omega),by (have:=forms_len h1;omega), ?_⟩
 refine ⟨?_, ?_⟩
 ·intro i5
  intro h6
  refine ⟨by exact wr_get ‹_› ‹_› ‹_›, ?_⟩
  trivial
 refine ⟨by rfl,by (simp;done),by rfl, ?_⟩
 trivial
abbrev zCSb1:LOp:=LOp.mk (0:Int) [] [] [] false [] [] (0:Int)
abbrev zCSb2:Prop:=false=true->false=true
abbrev zCSb6:Prop->Prop:=fun p=>0=0/\0=0/\p
abbrev zCSb8:XI->List LOp->List UInt8:=fun x0 x1=>FTxt (List.take x0.i x1)
abbrev zCSb4:List LOp->XI->LOp:=fun x0 x1=>x0.getD (Int.toNat (↑x1.i:Int)) zCSb1
abbrev zCSb5:List LOp->Nat->LOp:=fun x0 x1=>x0.getD x1 zCSb1
abbrev zCSb7:Prop->Prop:=fun p=>true=true/\zCSb2/\p
abbrev zCSb0:List LOp->Prop:=fun x0=>zCSb2/\x0.length=x0.length/\(∀(i:Nat),i<x0.length->(IntKind.i64=IntKind.i64/\(zCSb5 x0 i).kind=(zCSb5 x0 i).kind)/\(zCSb5 x0 i).table=(zCSb5 x0 i).table/\zCSb7 ((zCSb5 x0 i).key=(zCSb5 x0 i).key)/\zCSb7 ((zCSb5 x0 i).value=(zCSb5 x0 i).value)/\(zCSb5 x0 i).has=(zCSb5 x0 i).has/\zCSb7 ((zCSb5 x0 i).old=(zCSb5 x0 i).old)/\zCSb7 ((zCSb5 x0 i).to=(zCSb5 x0 i).to)/\(IntKind.i64=IntKind.i64/\(zCSb5 x0 i).most=(zCSb5 x0 i).most)/\True)/\True
abbrev zCSb3:LOp->List LOp->XI->Prop->Prop:=fun x0 x1 x2 p=>FMayOp x0=true/\x0.kind=(zCSb4 x1 x2).kind/\x0.table=(zCSb4 x1 x2).table/\zCSb2/\x0.key=(zCSb4 x1 x2).key/\zCSb2/\x0.value=(zCSb4 x1 x2).value/\x0.has=(zCSb4 x1 x2).has/\zCSb2/\x0.old=(zCSb4 x1 x2).old/\zCSb2/\x0.to=(zCSb4 x1 x2).to/\x0.most=(zCSb4 x1 x2).most/\True/\p
def nf_rTxt:Prop:=
 ∀(x:List LOp),FMays x=true->(∃(x_1:XI),x_1.i<=x.length/\zCSb6 (0=0/\zCSb8 x_1 x=[]/\(↑x_1.i:Int)=(0:Int)/\zCSb0 x))/\True/\∀(x_1:XI),x_1.i<=x.length->Eng.ask (decide (LT.lt (α:=Int) (↑x_1.i:Int) (↑x.length:Int))) (Eng.ask (decide ((0:Int)<(↑x_1.i:Int))) ((zCSb8 x_1 x).length+2<1099511627776/\(0:Int)<=(↑x_1.i:Int)/\Int.toNat (↑x_1.i:Int)<x.length/\∃(x_2:LOp),zCSb3 x_2 x x_1 ((zCSb8 x_1 x++[(59:UInt8),(32:UInt8)]).length+(FTxOp x_2).length<1099511627776/\True/\True/\True/\∃(x':XI),x'.i<=x.length/\x.length-x'.i<x.length-x_1.i/\zCSb6 (0=0/\zCSb8 x' x=zCSb8 x_1 x++[(59:UInt8),(32:UInt8)]++FTxOp x_2/\(↑x'.i:Int)=IntKind.i64.wrap ((↑x_1.i:Int)+(1:Int))/\zCSb0 x))) ((0:Int)<=(↑x_1.i:Int)/\Int.toNat (↑x_1.i:Int)<x.length/\∃(x_2:LOp),zCSb3 x_2 x x_1 ((zCSb8 x_1 x).length+(FTxOp x_2).length<1099511627776/\True/\True/\True/\∃(x':XI),x'.i<=x.length/\x.length-x'.i<x.length-x_1.i/\zCSb6 (0=0/\zCSb8 x' x=zCSb8 x_1 x++FTxOp x_2/\(↑x'.i:Int)=IntKind.i64.wrap ((↑x_1.i:Int)+(1:Int))/\zCSb0 x)))) (FTxt x=zCSb8 x_1 x/\True)
theorem eq_rTxt:vc_rTxt=nf_rTxt:=by kernel_rfl
theorem pf_rTxt:nf_rTxt:=by
 delta nf_rTxt zCSb1 zCSb2 zCSb6 zCSb8 zCSb4 zCSb5 zCSb7 zCSb0 zCSb3
 intro x0
 intro h1
 refine ⟨?_, ?_⟩
 ·refine ⟨⟨(((0:Int):Int)).toNat⟩, ?_⟩
  try dsimp only
  refine ⟨by omega,by rfl,by rfl,by rfl,by rfl,by decide,by (simp;done),by rfl, ?_⟩
  refine ⟨?_, ?_⟩
  ·intro i2
   intro h3
   refine ⟨by (simp;done),by rfl,by (exact ⟨rfl,fun h=>h,rfl⟩),by (exact ⟨rfl,fun h=>h,rfl⟩),by rfl,by (exact ⟨rfl,fun h=>h,rfl⟩),by (exact ⟨rfl,fun h=>h,rfl⟩),by (simp;done), ?_⟩
   trivial
  trivial
 refine ⟨by trivial, ?_⟩
 intro x2
 intro h3
 refine ask_p bp_dec ?_ ?_
 ·intro h4
  refine ask_p bp_dec ?_ ?_
  ·intro h5
   refine ⟨by (have e1:=ftxt_le (i:=x2.i) h1;omega),by (have e1:=ftxt_le (i:=x2.i) h1;omega),by (have e1:=ftxt_le (i:=x2.i) h1;omega), ?_⟩
   refine ⟨x0.getD x2.i (LOp.mk 0 [] [] [] false [] [] 0), ?_⟩
   try dsimp only
   refine ⟨by exact mays_op h1 h4,by rfl,by rfl,by (simp;done),by rfl,by (simp;done),by rfl,by rfl,by (simp;done),by rfl,by (simp;done),by rfl, ?_⟩
   refine ⟨by rfl,by trivial,by (have e1:=ftxt_le (i:=x2.i) h1;have e2:=txop_le (mays_op h1 h4);simp only [List.length_append,List.length_cons,List.length_nil];omega),by trivial,by trivial,by trivial, ?_⟩
   refine ⟨⟨((IntKind.i64.wrap ((↑x2.i:Int)+(1:Int)):Int)).toNat⟩, ?_⟩
   try dsimp only
   refine ⟨by exact k_le (mays_len h1) h4,by exact k_mu (mays_len h1) h4,by rfl,by rfl,by rfl,by exact ftxt_step h1 h4 h5,by exact k_eq (mays_len h1) h4,by (simp;done),by rfl, ?_⟩
   refine ⟨?_, ?_⟩
   ·intro i6
    intro h7
    refine ⟨by (simp;done),by rfl,by (exact ⟨rfl,fun h=>h,rfl⟩),by (exact ⟨rfl,fun h=>h,rfl⟩),by rfl,by (exact ⟨rfl,fun h=>h,rfl⟩),by (exact ⟨rfl,fun h=>h,rfl⟩),by (simp;done), ?_⟩
    trivial
   trivial
  intro h5
  refine ⟨by (have e1:=ftxt_le (i:=x2.i) h1;omega),by (have e1:=ftxt_le (i:=x2.i) h1;omega), ?_⟩
  refine ⟨x0.getD x2.i (LOp.mk 0 [] [] [] false [] [] 0), ?_⟩
  try dsimp only
  refine ⟨by exact mays_op h1 h4,by rfl,by rfl,by (simp;done),by rfl,by (simp;done),by rfl,by rfl,by (simp;done),by rfl,by (simp;done),by rfl, ?_⟩
  refine ⟨by rfl,by trivial,by (have e1:=ftxt_le (i:=x2.i) h1;have e2:=txop_le (mays_op h1 h4);omega),by trivial,by trivial,by trivial, ?_⟩
  refine ⟨⟨((IntKind.i64.wrap ((↑x2.i:Int)+(1:Int)):Int)).toNat⟩, ?_⟩
  try dsimp only
  refine ⟨by exact k_le (mays_len h1) h4,by exact k_mu (mays_len h1) h4,by rfl,by rfl,by rfl,by exact ftxt_one h1 h4 h5,by exact k_eq (mays_len h1) h4,by (simp;done),by rfl, ?_⟩
  refine ⟨?_, ?_⟩
  ·intro i6
   intro h7
   refine ⟨by (simp;done),by rfl,by (exact ⟨rfl,fun h=>h,rfl⟩),by (exact ⟨rfl,fun h=>h,rfl⟩),by rfl,by (exact ⟨rfl,fun h=>h,rfl⟩),by (exact ⟨rfl,fun h=>h,rfl⟩),by (simp;done), ?_⟩
   trivial
  trivial
 intro h4
 refine ⟨by exact ftxt_end h1 h4, ?_⟩
 trivial
abbrev zCSc0:List LOp->Nat->LOp:=fun x0 x1=>x0.getD x1 (LOp.mk (0:Int) [] [] [] false [] [] (0:Int))
abbrev zCSc1:Prop->Prop:=fun p=>true=true/\(false=true->false=true)/\p
abbrev zCSc2:List LOp->List LOp->Prop->Prop:=fun x0 x1 p=>(false=true->false=true)/\x0.length=x1.length/\(∀(i:Nat),i<x0.length->(IntKind.i64=IntKind.i64/\(zCSc0 x0 i).kind=(zCSc0 x1 i).kind)/\(zCSc0 x0 i).table=(zCSc0 x1 i).table/\zCSc1 ((zCSc0 x0 i).key=(zCSc0 x1 i).key)/\zCSc1 ((zCSc0 x0 i).value=(zCSc0 x1 i).value)/\(zCSc0 x0 i).has=(zCSc0 x1 i).has/\zCSc1 ((zCSc0 x0 i).old=(zCSc0 x1 i).old)/\zCSc1 ((zCSc0 x0 i).to=(zCSc0 x1 i).to)/\(IntKind.i64=IntKind.i64/\(zCSc0 x0 i).most=(zCSc0 x1 i).most)/\True)/\True/\p
def nf_cText:Prop:=
 ∀(x:List LOp),FSmOps x->∃(x_1:List LOp),FSmOps x_1/\zCSc2 x_1 x (Eng.ask (!decide (FChk x_1=(0:Int))) ((bif decide (FChk x=(0:Int)) then FTxt x else [])=[]/\FChk x=FChk x_1/\True) (∃(x_2:List LOp),FMays x_2=true/\zCSc2 x_2 x ((bif decide (FChk x=(0:Int)) then FTxt x else [])=FTxt x_2/\FChk x=(0:Int)/\True)))
theorem eq_cText:vc_cText=nf_cText:=by kernel_rfl
theorem pf_cText:nf_cText:=by
 delta nf_cText zCSc0 zCSc1 zCSc2
 intro x0
 intro h1
 refine ⟨x0, ?_⟩
 try dsimp only
 refine ⟨by exact h1,by (simp;done),by rfl, ?_⟩
 refine ⟨?_, ?_⟩
 ·intro i2
  intro h3
  refine ⟨by (simp;done),by rfl,by (exact ⟨rfl,fun h=>h,rfl⟩),by (exact ⟨rfl,fun h=>h,rfl⟩),by rfl,by (exact ⟨rfl,fun h=>h,rfl⟩),by (exact ⟨rfl,fun h=>h,rfl⟩),by (simp;done), ?_⟩
  trivial
 refine ⟨by trivial, ?_⟩
 refine ask_p (bp_not bp_dec) ?_ ?_
 ·intro h2
  refine ⟨by exact ct_no ‹_›,by rfl, ?_⟩
  trivial
 intro h2
 refine ⟨x0, ?_⟩
 try dsimp only
 refine ⟨by exact chk_may (Classical.not_not.1 ‹_›),by (simp;done),by rfl, ?_⟩
 refine ⟨?_, ?_⟩
 ·intro i3
  intro h4
  refine ⟨by (simp;done),by rfl,by (exact ⟨rfl,fun h=>h,rfl⟩),by (exact ⟨rfl,fun h=>h,rfl⟩),by rfl,by (exact ⟨rfl,fun h=>h,rfl⟩),by (exact ⟨rfl,fun h=>h,rfl⟩),by (simp;done), ?_⟩
  trivial
 refine ⟨by trivial,by exact ct_yes (Classical.not_not.1 ‹_›),by omega, ?_⟩
 trivial
end Go.Proofs
