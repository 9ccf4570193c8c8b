import Derived.Test.YtoajkmdddjnebaaGreatDoorCallsOneCN
set_option linter.unusedSimpArgs false
set_option linter.unusedVariables false
namespace Go.Proofs
open Go.Eng
set_option maxRecDepth 100000
abbrev zCNa0:Prop:=false=true
abbrev zCNa1:LOp->List (List UInt8)->Prop:=fun x0 x1=>(true=true->true=true)/\FOp x0=FJoin x1/\True
abbrev zCNa2:List (List UInt8)->Prop:=fun x0=>(FJoin x0).length<1099511627000/\x0.length<1048577
abbrev zCNa3:Nat->List UInt8:=fun x0=>FNum x0++List.replicate (10- (FNum x0).length) (0:UInt8)
abbrev zCNa4:List UInt8->Prop:=fun x0=>x0.length<1099511627000
abbrev zCNa5:Prop:=zCNa0->true=true
abbrev zCNa6:List UInt8->Prop->Prop:=fun x0 p=>zCNa4 x0/\(zCNa0->zCNa0)/\p
abbrev zCNa7:List (List UInt8)->List (List UInt8)->Prop->Prop:=fun x0 x1 p=>zCNa5/\x0.getD 0 []=FJoin x1/\zCNa5/\p
def nf_form:Prop:=
 ∀(x:LOp),FMayOp x=true->∃(x_1:Nat),x_1<18446744073709551616/\(↑x_1:Int)=IntKind.u64.wrap x.kind/\True/\x.table.length<1099511627776/\∃(x_2:List UInt8),zCNa4 x_2/\(zCNa0->true=true->x.table.length≠0\/x.table.length≠0)/\0+x.table.length<=x.table.length/\x_2=cutL x.table 0 x.table.length/\(1≠0/\True)/\∃(x_3:List UInt8),zCNa6 x_3 (x_3=x.key/\True/\0+(FNum x_1).length<=(zCNa3 x_1).length/\∃(x_4:List (List UInt8)),zCNa2 x_4/\(zCNa0->zCNa0->3≠0\/3≠0)/\x_4.length=3/\(zCNa0->zCNa0)/\x_4.getD 0 []=cutL (zCNa3 x_1) 0 (FNum x_1).length/\zCNa5/\x_4.getD 1 []=FBytes x_2/\zCNa5/\x_4.getD 2 []=FBytes x_3/\(1≠0/\True)/\Eng.ask (decide (x.kind=(2:Int))) (∃(x_5:List UInt8),zCNa6 x_5 (x_5=x.value/\True/\∃(x_6:List (List UInt8)),zCNa2 x_6/\(zCNa0->zCNa0->2≠0\/2≠0)/\x_6.length=2/\zCNa7 x_6 x_4 (x_6.getD 1 []=FBytes x_5/\(1≠0/\True)/\zCNa1 x x_6))) (Eng.ask (decide (x.kind=(4:Int))) (∃(x_5:Bool),True/\x_5=x.has/\True/\∃(x_6:List UInt8),zCNa6 x_6 (x_6=x.old/\True/\∃(x_7:List UInt8),zCNa6 x_7 (x_7=x.value/\True/\∃(x_8:List (List UInt8)),zCNa2 x_8/\(zCNa0->zCNa0->4≠0\/4≠0)/\x_8.length=4/\zCNa7 x_8 x_4 (x_8.getD 1 []=FFlag x_5/\zCNa5/\x_8.getD 2 []=FBytes x_6/\zCNa5/\x_8.getD 3 []=FBytes x_7/\(1≠0/\True)/\zCNa1 x x_8)))) (Eng.ask (decide (x.kind=(5:Int))) (∃(x_5:List UInt8),zCNa6 x_5 (x_5=x.to/\True/\∃(x_6:Nat),x_6<18446744073709551616/\(↑x_6:Int)=IntKind.u64.wrap x.most/\True/\0+(FNum x_6).length<=(zCNa3 x_6).length/\∃(x_7:List (List UInt8)),zCNa2 x_7/\(zCNa0->zCNa0->3≠0\/3≠0)/\x_7.length=3/\zCNa7 x_7 x_4 (x_7.getD 1 []=FBytes x_5/\(zCNa0->zCNa0)/\x_7.getD 2 []=cutL (zCNa3 x_6) 0 (FNum x_6).length/\(1≠0/\True)/\zCNa1 x x_7))) (zCNa1 x x_4))))
theorem eq_form:vc_form=nf_form:=by kernel_rfl
theorem pf_form:nf_form:=by
 delta nf_form zCNa0 zCNa1 zCNa2 zCNa3 zCNa4 zCNa5 zCNa6 zCNa7
 intro x0
 intro h1
 refine ⟨((IntKind.u64.wrap x0.kind:Int)).toNat, ?_⟩
 try dsimp only
 refine ⟨by (try simp only [wrap_i64,wrap_u64,wrap_u32,wrap_u8] at*)<;>omega,by (try simp only [wrap_i64,wrap_u64,wrap_u32,wrap_u8] at*)<;>omega,by trivial,by (obtain ⟨_,_,_,_,_,_,_,_,e1,e2,e3,e4,e5⟩:=op_lens h1;omega), ?_⟩
 refine ⟨(cutL x0.table 0 x0.table.length), ?_⟩
 try dsimp only
 refine ⟨by (obtain ⟨_,_,_,_,_,_,_,_,e1,e2,e3,e4,e5⟩:=op_lens h1;rw [cutL_all];omega),by (simp;done),by (obtain ⟨_,_,_,_,_,_,_,_,e1,e2,e3,e4,e5⟩:=op_lens h1;omega),by rfl,by (simp;done), ?_⟩
 refine ⟨(x0.key), ?_⟩
 try dsimp only
 refine ⟨by (obtain ⟨_,_,_,_,_,_,_,_,e1,e2,e3,e4,e5⟩:=op_lens h1;omega),by (simp;done),by rfl,by trivial,by (simp [FJoin,FH];done), ?_⟩
 refine ⟨[FNum x0.kind.toNat,FBytes x0.table,FBytes x0.key], ?_⟩
 try dsimp only
 refine ⟨?_, ?_⟩
 ·refine ⟨by (obtain ⟨a1,a2,a3,a4,a5,a6,a7,a8,e1,e2,e3,e4,e5⟩:=op_lens h1;simp only [FJoin,FH,List.length_append,List.length_nil];omega), ?_⟩
  (simp [FJoin,FH];done)
 refine ⟨by (simp;done),by (simp [FJoin,FH];done),by (simp;done),by (rw [kind_u64 h1,cut_rep];rfl),by (simp;done),by (rw [cutL_all];rfl),by (simp;done),by (simp [FJoin,FH];done),by (simp;done), ?_⟩
 refine ask_p bp_dec ?_ ?_
 ·intro h2
  refine ⟨(x0.value), ?_⟩
  try dsimp only
  refine ⟨by (obtain ⟨_,_,_,_,_,_,_,_,e1,e2,e3,e4,e5⟩:=op_lens h1;omega),by (simp;done),by rfl,by trivial, ?_⟩
  refine ⟨[FH x0,FBytes x0.value], ?_⟩
  try dsimp only
  refine ⟨?_, ?_⟩
  ·refine ⟨by (obtain ⟨a1,a2,a3,a4,a5,a6,a7,a8,e1,e2,e3,e4,e5⟩:=op_lens h1;simp only [FJoin,FH,List.length_append,List.length_nil];omega), ?_⟩
   (simp [FJoin,FH];done)
  refine ⟨by (simp;done),by (simp [FJoin,FH];done),by (simp;done),by (simp [FJoin,FH];done),by (simp;done),by (simp [FJoin,FH];done),by (simp;done),by (simp;done),by (rw [op2 ‹_›];simp [FJoin];done), ?_⟩
  trivial
 intro h2
 refine ask_p bp_dec ?_ ?_
 ·intro h3
  refine ⟨(x0.has), ?_⟩
  try dsimp only
  refine ⟨by trivial,by rfl,by trivial, ?_⟩
  refine ⟨(x0.old), ?_⟩
  try dsimp only
  refine ⟨by (obtain ⟨_,_,_,_,_,_,_,_,e1,e2,e3,e4,e5⟩:=op_lens h1;omega),by (simp;done),by rfl,by trivial, ?_⟩
  refine ⟨(x0.value), ?_⟩
  try dsimp only
  refine ⟨by (obtain ⟨_,_,_,_,_,_,_,_,e1,e2,e3,e4,e5⟩:=op_lens h1;omega),by (simp;done),by rfl,by trivial, ?_⟩
  refine ⟨[FH x0,FFlag x0.has,FBytes x0.old,FBytes x0.value], ?_⟩
  try dsimp only
  refine ⟨?_, ?_⟩
  ·refine ⟨by (obtain ⟨a1,a2,a3,a4,a5,a6,a7,a8,e1,e2,e3,e4,e5⟩:=op_lens h1;simp only [FJoin,FH,List.length_append,List.length_nil];omega), ?_⟩
   (simp [FJoin,FH];done)
  refine ⟨by (simp;done),by (simp [FJoin,FH];done),by (simp;done),by (simp [FJoin,FH];done),by (simp;done),by (simp [FJoin,FH];done),by (simp;done),by (simp [FJoin,FH];done),by (simp;done),by (simp [FJoin,FH];done),by (simp;done),by (simp;done), ?_⟩
  refine ⟨by (rw [op4 ‹_›];simp [FJoin];done), ?_⟩
  trivial
 intro h3
 refine ask_p bp_dec ?_ ?_
 ·intro h4
  refine ⟨(x0.to), ?_⟩
  try dsimp only
  refine ⟨by (obtain ⟨_,_,_,_,_,_,_,_,e1,e2,e3,e4,e5⟩:=op_lens h1;omega),by (simp;done),by rfl,by trivial, ?_⟩
  refine ⟨((IntKind.u64.wrap x0.most:Int)).toNat, ?_⟩
  try dsimp only
  refine ⟨by (try simp only [wrap_i64,wrap_u64,wrap_u32,wrap_u8] at*)<;>omega,by (try simp only [wrap_i64,wrap_u64,wrap_u32,wrap_u8] at*)<;>omega,by trivial,by (simp [FJoin,FH];done), ?_⟩
  refine ⟨[FH x0,FBytes x0.to,FNum x0.most.toNat], ?_⟩
  try dsimp only
  refine ⟨?_, ?_⟩
  ·refine ⟨by (obtain ⟨a1,a2,a3,a4,a5,a6,a7,a8,e1,e2,e3,e4,e5⟩:=op_lens h1;simp only [FJoin,FH,List.length_append,List.length_nil];omega), ?_⟩
   (simp [FJoin,FH];done)
  refine ⟨by (simp;done),by (simp [FJoin,FH];done),by (simp;done),by (simp [FJoin,FH];done),by (simp;done),by (simp [FJoin,FH];done),by (simp;done),by (rw [most_u64 h1,cut_rep];rfl),by (simp;done),by (simp;done),by (rw [op5 ‹_›];simp [FJoin];done), ?_⟩
  trivial
 intro h4
 refine ⟨by (simp;done),by (rw [op0 ‹_› ‹_› ‹_›];simp [FJoin,FH];done), ?_⟩
 trivial
abbrev zCNb2:List UInt8->Prop->Prop:=fun x0 p=>x0.length<1099511627000/\(false=true->false=true)/\p
abbrev zCNb3:Bool->Nat:=fun x0=>(FFlag x0).length
abbrev zCNb6:Nat->List UInt8:=fun x0=>cutL (FNum x0) 0 (FNum x0).length
abbrev zCNb7:List UInt8->Nat:=fun x0=>(FBytes x0).length
abbrev zCNb1:Nat->List UInt8->List UInt8:=fun x0 x1=>zCNb6 x0++FBytes x1
abbrev zCNb12:Nat->List UInt8->Nat:=fun x0 x1=>(FNum x0).length+zCNb7 x1
abbrev zCNb0:Nat->List UInt8->List UInt8->Nat:=fun x0 x1 x2=>zCNb12 x0 x1+zCNb7 x2
abbrev zCNb4:Nat->List UInt8->List UInt8->List UInt8:=fun x0 x1 x2=>cutL (zCNb1 x0 x1) 0 (zCNb12 x0 x1)++FBytes x2
abbrev zCNb5:Nat->List UInt8->List UInt8->Bool->Nat:=fun x0 x1 x2 x3=>zCNb0 x0 x1 x2+zCNb3 x3
abbrev zCNb8:Nat->List UInt8->List UInt8->Prop->Prop:=fun x0 x1 x2 p=>True/\0+zCNb0 x0 x1 x2<=(zCNb4 x0 x1 x2).length/\(zCNb0 x0 x1 x2=zCNb0 x0 x1 x2/\0=0/\zCNb0 x0 x1 x2=(zCNb4 x0 x1 x2).length/\5=5)/\p
abbrev zCNb9:Nat->List UInt8->List UInt8->List UInt8:=fun x0 x1 x2=>cutL (zCNb4 x0 x1 x2) 0 (zCNb0 x0 x1 x2)
abbrev zCNb10:Nat->List UInt8->List UInt8->List UInt8->Nat:=fun x0 x1 x2 x3=>zCNb0 x0 x1 x2+zCNb7 x3
abbrev zCNb11:Nat->List UInt8->List UInt8->Bool->List UInt8->Nat:=fun x0 x1 x2 x3 x4=>zCNb5 x0 x1 x2 x3+zCNb7 x4
abbrev zCNb13:Nat->List UInt8->List UInt8->Bool->List UInt8->List UInt8:=fun x0 x1 x2 x3 x4=>cutL (zCNb9 x0 x1 x2++FFlag x3) 0 (zCNb5 x0 x1 x2 x3)++FBytes x4
abbrev zCNb14:Nat->List UInt8->List UInt8->List UInt8->Nat->Nat:=fun x0 x1 x2 x3 x4=>zCNb10 x0 x1 x2 x3+(zCNb6 x4).length
def nf_rform:Prop:=
 ∀(x:LOp),FMayOp x=true->∃(x_1:Nat),x_1<18446744073709551616/\(↑x_1:Int)=IntKind.u64.wrap x.kind/\True/\x.table.length<1099511627776/\∃(x_2:List UInt8),x_2.length<1099511627000/\(false=true->true=true->x.table.length≠0\/x.table.length≠0)/\0+x.table.length<=x.table.length/\x_2=cutL x.table 0 x.table.length/\(1≠0/\True)/\0+(FNum x_1).length<=(FNum x_1).length/\((FNum x_1).length=(FNum x_1).length/\0=0/\(FNum x_1).length=(FNum x_1).length/\5=5)/\zCNb12 x_1 x_2<1099511627776/\∃(x_3:List UInt8),zCNb2 x_3 (x_3=x.key/\True/\0+zCNb12 x_1 x_2<=(zCNb1 x_1 x_2).length/\(zCNb12 x_1 x_2=zCNb12 x_1 x_2/\0=0/\zCNb12 x_1 x_2=(zCNb1 x_1 x_2).length/\5=5)/\zCNb0 x_1 x_2 x_3<1099511627776/\Eng.ask (decide (x.kind=(2:Int))) (∃(x_4:List UInt8),zCNb2 x_4 (x_4=x.value/\zCNb8 x_1 x_2 x_3 (zCNb10 x_1 x_2 x_3 x_4<1099511627776/\(true=true->true=true->zCNb10 x_1 x_2 x_3 x_4≠0\/zCNb10 x_1 x_2 x_3 x_4≠0)/\0+zCNb10 x_1 x_2 x_3 x_4<=(zCNb9 x_1 x_2 x_3++FBytes x_4).length/\FOp x=cutL (zCNb9 x_1 x_2 x_3++FBytes x_4) 0 (zCNb10 x_1 x_2 x_3 x_4)/\True))) (Eng.ask (decide (x.kind=(4:Int))) (∃(x_4:Bool),True/\x_4=x.has/\zCNb8 x_1 x_2 x_3 (zCNb5 x_1 x_2 x_3 x_4<1099511627776/\∃(x_5:List UInt8),zCNb2 x_5 (x_5=x.old/\True/\0+zCNb5 x_1 x_2 x_3 x_4<=(zCNb9 x_1 x_2 x_3++FFlag x_4).length/\(zCNb5 x_1 x_2 x_3 x_4=zCNb5 x_1 x_2 x_3 x_4/\0=0/\zCNb5 x_1 x_2 x_3 x_4=(zCNb9 x_1 x_2 x_3++FFlag x_4).length/\5=5)/\zCNb11 x_1 x_2 x_3 x_4 x_5<1099511627776/\∃(x_6:List UInt8),zCNb2 x_6 (x_6=x.value/\True/\0+zCNb11 x_1 x_2 x_3 x_4 x_5<=(zCNb13 x_1 x_2 x_3 x_4 x_5).length/\(zCNb11 x_1 x_2 x_3 x_4 x_5=zCNb11 x_1 x_2 x_3 x_4 x_5/\0=0/\zCNb11 x_1 x_2 x_3 x_4 x_5=(zCNb13 x_1 x_2 x_3 x_4 x_5).length/\5=5)/\zCNb11 x_1 x_2 x_3 x_4 x_5+zCNb7 x_6<1099511627776/\(true=true->true=true->zCNb11 x_1 x_2 x_3 x_4 x_5+zCNb7 x_6≠0\/zCNb11 x_1 x_2 x_3 x_4 x_5+zCNb7 x_6≠0)/\0+(zCNb11 x_1 x_2 x_3 x_4 x_5+zCNb7 x_6)<=(cutL (zCNb13 x_1 x_2 x_3 x_4 x_5) 0 (zCNb11 x_1 x_2 x_3 x_4 x_5)++FBytes x_6).length/\FOp x=cutL (cutL (zCNb13 x_1 x_2 x_3 x_4 x_5) 0 (zCNb11 x_1 x_2 x_3 x_4 x_5)++FBytes x_6) 0 (zCNb11 x_1 x_2 x_3 x_4 x_5+zCNb7 x_6)/\True)))) (Eng.ask (decide (x.kind=(5:Int))) (∃(x_4:List UInt8),zCNb2 x_4 (x_4=x.to/\zCNb8 x_1 x_2 x_3 (zCNb10 x_1 x_2 x_3 x_4<1099511627776/\∃(x_5:Nat),x_5<18446744073709551616/\(↑x_5:Int)=IntKind.u64.wrap x.most/\True/\0+(FNum x_5).length<=(FNum x_5).length/\0+zCNb10 x_1 x_2 x_3 x_4<=(zCNb9 x_1 x_2 x_3++FBytes x_4).length/\(zCNb10 x_1 x_2 x_3 x_4=zCNb10 x_1 x_2 x_3 x_4/\0=0/\zCNb10 x_1 x_2 x_3 x_4=(zCNb9 x_1 x_2 x_3++FBytes x_4).length/\5=5)/\zCNb14 x_1 x_2 x_3 x_4 x_5<1099511627776/\(true=true->true=true->zCNb14 x_1 x_2 x_3 x_4 x_5≠0\/zCNb14 x_1 x_2 x_3 x_4 x_5≠0)/\0+zCNb14 x_1 x_2 x_3 x_4 x_5<=(cutL (zCNb9 x_1 x_2 x_3++FBytes x_4) 0 (zCNb10 x_1 x_2 x_3 x_4)++zCNb6 x_5).length/\FOp x=cutL (cutL (zCNb9 x_1 x_2 x_3++FBytes x_4) 0 (zCNb10 x_1 x_2 x_3 x_4)++zCNb6 x_5) 0 (zCNb14 x_1 x_2 x_3 x_4 x_5)/\True))) ((true=true->true=true->zCNb0 x_1 x_2 x_3≠0\/zCNb0 x_1 x_2 x_3≠0)/\0+zCNb0 x_1 x_2 x_3<=(zCNb4 x_1 x_2 x_3).length/\FOp x=zCNb9 x_1 x_2 x_3/\True))))
theorem eq_rform:vc_rform=nf_rform:=by kernel_rfl
theorem pf_rform:nf_rform:=by
 delta nf_rform zCNb2 zCNb3 zCNb6 zCNb7 zCNb1 zCNb12 zCNb0 zCNb4 zCNb5 zCNb8 zCNb9 zCNb10 zCNb11 zCNb13 zCNb14
 intro x0
 intro h1
 refine ⟨((IntKind.u64.wrap x0.kind:Int)).toNat, ?_⟩
 try dsimp only
 refine ⟨by (try simp only [wrap_i64,wrap_u64,wrap_u32,wrap_u8] at*)<;>omega,by (try simp only [wrap_i64,wrap_u64,wrap_u32,wrap_u8] at*)<;>omega,by trivial,by (obtain ⟨_,_,_,_,_,_,_,_,e1,e2,e3,e4,e5⟩:=op_lens h1;omega), ?_⟩
 refine ⟨(cutL x0.table 0 x0.table.length), ?_⟩
 try dsimp only
 refine ⟨by (obtain ⟨a1,a2,a3,a4,a5,a6,a7,a8,e1,e2,e3,e4,e5⟩:=op_lens h1;simp only [kind_u64 h1,most_u64 h1,cutL_all];omega),by (simp;done),by (obtain ⟨_,_,_,_,_,_,_,_,e1,e2,e3,e4,e5⟩:=op_lens h1;omega),by rfl,by (simp;done),by (obtain ⟨_,_,_,_,_,_,_,_,e1,e2,e3,e4,e5⟩:=op_lens h1;omega),by (simp;done),by (obtain ⟨a1,a2,a3,a4,a5,a6,a7,a8,e1,e2,e3,e4,e5⟩:=op_lens h1;simp only [kind_u64 h1,most_u64 h1,cutL_all];omega), ?_⟩
 refine ⟨(x0.key), ?_⟩
 try dsimp only
 refine ⟨by (obtain ⟨_,_,_,_,_,_,_,_,e1,e2,e3,e4,e5⟩:=op_lens h1;omega),by (simp;done),by rfl,by trivial,by (simp only [kind_u64 h1,most_u64 h1,cutL_all,<-List.length_append,Nat.zero_add,Nat.le_refl];done), ?_⟩
 refine ⟨?_, ?_⟩
 ·refine ⟨by rfl,by rfl,by (simp only [kind_u64 h1,most_u64 h1,cutL_all,<-List.length_append,Nat.zero_add,Nat.le_refl];done), ?_⟩
  rfl
 refine ⟨by (obtain ⟨a1,a2,a3,a4,a5,a6,a7,a8,e1,e2,e3,e4,e5⟩:=op_lens h1;simp only [kind_u64 h1,most_u64 h1,cutL_all];omega), ?_⟩
 refine ask_p bp_dec ?_ ?_
 ·intro h2
  refine ⟨(x0.value), ?_⟩
  try dsimp only
  refine ⟨by (obtain ⟨_,_,_,_,_,_,_,_,e1,e2,e3,e4,e5⟩:=op_lens h1;omega),by (simp;done),by rfl,by trivial,by (simp only [kind_u64 h1,most_u64 h1,cutL_all,<-List.length_append,Nat.zero_add,Nat.le_refl];done), ?_⟩
  refine ⟨?_, ?_⟩
  ·refine ⟨by rfl,by rfl,by (simp only [kind_u64 h1,most_u64 h1,cutL_all,<-List.length_append,Nat.zero_add,Nat.le_refl];done), ?_⟩
   rfl
  refine ⟨by (obtain ⟨a1,a2,a3,a4,a5,a6,a7,a8,e1,e2,e3,e4,e5⟩:=op_lens h1;simp only [kind_u64 h1,most_u64 h1,cutL_all];omega), ?_⟩
  refine ⟨?_, ?_⟩
  ·intro h3
   intro h4
   (have e:=FNum_pos (IntKind.u64.wrap x0.kind).toNat;omega)
  refine ⟨by (simp only [kind_u64 h1,most_u64 h1,cutL_all,<-List.length_append,Nat.zero_add,Nat.le_refl];done),by (rw [op2 ‹_›];simp only [kind_u64 h1,most_u64 h1,cutL_all,<-List.length_append];simp [FH];done), ?_⟩
  trivial
 intro h2
 refine ask_p bp_dec ?_ ?_
 ·intro h3
  refine ⟨(x0.has), ?_⟩
  try dsimp only
  refine ⟨by trivial,by rfl,by trivial,by (simp only [kind_u64 h1,most_u64 h1,cutL_all,<-List.length_append,Nat.zero_add,Nat.le_refl];done), ?_⟩
  refine ⟨?_, ?_⟩
  ·refine ⟨by rfl,by rfl,by (simp only [kind_u64 h1,most_u64 h1,cutL_all,<-List.length_append,Nat.zero_add,Nat.le_refl];done), ?_⟩
   rfl
  refine ⟨by (obtain ⟨a1,a2,a3,a4,a5,a6,a7,a8,e1,e2,e3,e4,e5⟩:=op_lens h1;simp only [kind_u64 h1,most_u64 h1,cutL_all];omega), ?_⟩
  refine ⟨(x0.old), ?_⟩
  try dsimp only
  refine ⟨by (obtain ⟨_,_,_,_,_,_,_,_,e1,e2,e3,e4,e5⟩:=op_lens h1;omega),by (simp;done),by rfl,by trivial,by (simp only [kind_u64 h1,most_u64 h1,cutL_all,<-List.length_append,Nat.zero_add,Nat.le_refl];done), ?_⟩
  refine ⟨?_, ?_⟩
  ·refine ⟨by rfl,by rfl,by (simp only [kind_u64 h1,most_u64 h1,cutL_all,<-List.length_append,Nat.zero_add,Nat.le_refl];done), ?_⟩
   rfl
  refine ⟨by (obtain ⟨a1,a2,a3,a4,a5,a6,a7,a8,e1,e2,e3,e4,e5⟩:=op_lens h1;simp only [kind_u64 h1,most_u64 h1,cutL_all];omega), ?_⟩
  refine ⟨(x0.value), ?_⟩
  try dsimp only
  refine ⟨by (obtain ⟨_,_,_,_,_,_,_,_,e1,e2,e3,e4,e5⟩:=op_lens h1;omega),by (simp;done),by rfl,by trivial,by (simp only [kind_u64 h1,most_u64 h1,cutL_all,<-List.length_append,Nat.zero_add,Nat.le_refl];done), ?_⟩
  refine ⟨?_, ?_⟩
  ·refine ⟨by rfl,by rfl,by (simp only [kind_u64 h1,most_u64 h1,cutL_all,<-List.length_append,Nat.zero_add,Nat.le_refl];done), ?_⟩
   rfl
  refine ⟨by (obtain ⟨a1,a2,a3,a4,a5,a6,a7,a8,e1,e2,e3,e4,e5⟩:=op_lens h1;simp only [kind_u64 h1,most_u64 h1,cutL_all];omega), ?_⟩
  refine ⟨?_, ?_⟩
  ·intro h4
   intro h5
   (obtain ⟨_,_,_,_,_,_,_,_,e1,e2,e3,e4,e5⟩:=op_lens h1;omega)
  refine ⟨by (simp only [kind_u64 h1,most_u64 h1,cutL_all,<-List.length_append,Nat.zero_add,Nat.le_refl];done),by (rw [op4 ‹_›];simp only [kind_u64 h1,most_u64 h1,cutL_all,<-List.length_append];simp [FH];done), ?_⟩
  trivial
 intro h3
 refine ask_p bp_dec ?_ ?_
 ·intro h4
  refine ⟨(x0.to), ?_⟩
  try dsimp only
  refine ⟨by (obtain ⟨_,_,_,_,_,_,_,_,e1,e2,e3,e4,e5⟩:=op_lens h1;omega),by (simp;done),by rfl,by trivial,by (simp only [kind_u64 h1,most_u64 h1,cutL_all,<-List.length_append,Nat.zero_add,Nat.le_refl];done), ?_⟩
  refine ⟨?_, ?_⟩
  ·refine ⟨by rfl,by rfl,by (simp only [kind_u64 h1,most_u64 h1,cutL_all,<-List.length_append,Nat.zero_add,Nat.le_refl];done), ?_⟩
   rfl
  refine ⟨by (obtain ⟨a1,a2,a3,a4,a5,a6,a7,a8,e1,e2,e3,e4,e5⟩:=op_lens h1;simp only [kind_u64 h1,most_u64 h1,cutL_all];omega), ?_⟩
  refine ⟨((IntKind.u64.wrap x0.most:Int)).toNat, ?_⟩
  try dsimp only
  refine ⟨by (try simp only [wrap_i64,wrap_u64,wrap_u32,wrap_u8] at*)<;>omega,by (try simp only [wrap_i64,wrap_u64,wrap_u32,wrap_u8] at*)<;>omega,by trivial,by (obtain ⟨_,_,_,_,_,_,_,_,e1,e2,e3,e4,e5⟩:=op_lens h1;omega),by (simp only [kind_u64 h1,most_u64 h1,cutL_all,<-List.length_append,Nat.zero_add,Nat.le_refl];done), ?_⟩
  refine ⟨?_, ?_⟩
  ·refine ⟨by rfl,by rfl,by (simp only [kind_u64 h1,most_u64 h1,cutL_all,<-List.length_append,Nat.zero_add,Nat.le_refl];done), ?_⟩
   rfl
  refine ⟨by (obtain ⟨a1,a2,a3,a4,a5,a6,a7,a8,e1,e2,e3,e4,e5⟩:=op_lens h1;simp only [kind_u64 h1,most_u64 h1,cutL_all];omega), ?_⟩
  refine ⟨?_, ?_⟩
  ·intro h5
   intro h6
   (have e:=FNum_pos (IntKind.u64.wrap x0.kind).toNat;omega)
  refine ⟨by (simp only [kind_u64 h1,most_u64 h1,cutL_all,<-List.length_append,Nat.zero_add,Nat.le_refl];done),by (rw [op5 ‹_›];simp only [kind_u64 h1,most_u64 h1,cutL_all,<-List.length_append];simp [FH];done), ?_⟩
  trivial
 intro h4
 refine ⟨?_, ?_⟩
 ·intro h5
  intro h6
  (have e:=FNum_pos (IntKind.u64.wrap x0.kind).toNat;omega)
 refine ⟨by (simp only [kind_u64 h1,most_u64 h1,cutL_all,<-List.length_append,Nat.zero_add,Nat.le_refl];done),by (rw [op0 ‹_› ‹_› ‹_›];simp only [kind_u64 h1,most_u64 h1,cutL_all,<-List.length_append];simp [FH];done), ?_⟩
 trivial
abbrev zCNc1:LOp:=LOp.mk (0:Int) [] [] [] false [] [] (0:Int)
abbrev zCNc3:Prop:=false=true->false=true
abbrev zCNc4:XPut->Nat:=fun x0=>Int.toNat (↑x0.i:Int)
abbrev zCNc5:XPut->List LOp->Prop:=fun x0 x1=>x0.i<=x1.length/\FHold (FNum x1.length++FCat FOp (List.take x0.i x1)) x0.k x0.c x0.op x0.buf
abbrev zCNc6:List LOp->Nat->LOp:=fun x0 x1=>x0.getD x1 zCNc1
abbrev zCNc7:List LOp->XPut->LOp:=fun x0 x1=>x0.getD (zCNc4 x1) zCNc1
abbrev zCNc8:Prop->Prop:=fun p=>true=true/\zCNc3/\p
abbrev zCNc9:XPut->List LOp->XPut->LOp->Prop->Prop:=fun x0 x1 x2 x3 p=>zCNc5 x0 x1/\x1.length-x0.i<x1.length-x2.i/\0=0/\x0.k=x2.k+(FOp x3).length/\p
abbrev zCNc0:List LOp->Prop->Prop:=fun x0 p=>zCNc3/\x0.length=x0.length/\(∀(i:Nat),i<x0.length->(IntKind.i64=IntKind.i64/\(zCNc6 x0 i).kind=(zCNc6 x0 i).kind)/\(zCNc6 x0 i).table=(zCNc6 x0 i).table/\zCNc8 ((zCNc6 x0 i).key=(zCNc6 x0 i).key)/\zCNc8 ((zCNc6 x0 i).value=(zCNc6 x0 i).value)/\(zCNc6 x0 i).has=(zCNc6 x0 i).has/\zCNc8 ((zCNc6 x0 i).old=(zCNc6 x0 i).old)/\zCNc8 ((zCNc6 x0 i).to=(zCNc6 x0 i).to)/\(IntKind.i64=IntKind.i64/\(zCNc6 x0 i).most=(zCNc6 x0 i).most)/\True)/\Eq (α:=Int) (↑x0.length:Int) (↑x0.length:Int)/\p
abbrev zCNc2:XPut->LOp->List LOp->Prop:=fun x0 x1 x2=>x0.k+(FOp x1).length<1099511627776/\True/\True/\True/\∃(x':XPut),zCNc9 x' x2 x0 x1 (x'.c=x0.k+(FOp x1).length/\x'.op=true/\zCNc0 x2 ((↑x'.i:Int)=IntKind.i64.wrap ((↑x0.i:Int)+(1:Int))/\x'.buf=cutL x0.buf 0 x0.k++FOp x1/\True))
def nf_PutOp:Prop:=
 ∀(x:List LOp),FMays x=true->∃(x_1:Nat),x_1<18446744073709551616/\(↑x_1:Int)=IntKind.u64.wrap (↑x.length:Int)/\True/\(∃(x_2:XPut),zCNc5 x_2 x/\0=0/\x_2.k=(FNum x_1).length/\x_2.c=10/\x_2.op=false/\zCNc0 x ((↑x_2.i:Int)=(0:Int)/\x_2.buf=FNum x_1++List.replicate (10- (FNum x_1).length) (0:UInt8)/\True))/\True/\∀(x_2:XPut),zCNc5 x_2 x->Eng.ask (decide (LT.lt (α:=Int) (↑x_2.i:Int) (↑x.length:Int))) ((0:Int)<=(↑x_2.i:Int)/\zCNc4 x_2<x.length/\∃(x_3:LOp),FMayOp x_3=true/\x_3.kind=(zCNc7 x x_2).kind/\x_3.table=(zCNc7 x x_2).table/\zCNc3/\x_3.key=(zCNc7 x x_2).key/\zCNc3/\x_3.value=(zCNc7 x x_2).value/\x_3.has=(zCNc7 x x_2).has/\zCNc3/\x_3.old=(zCNc7 x x_2).old/\zCNc3/\x_3.to=(zCNc7 x x_2).to/\x_3.most=(zCNc7 x x_2).most/\True/\0+x_2.k<=x_2.buf.length/\Eng.ask x_2.op ((x_2.c=x_2.k/\0=0/\x_2.k=x_2.buf.length/\5=5)/\zCNc2 x_2 x_3 x) (Eng.ask (leNB (x_2.k+(FOp x_3).length) x_2.c) (0+x_2.k+(FOp x_3).length<=x_2.buf.length/\True/\True/\True/\∃(x':XPut),zCNc9 x' x x_2 x_3 (x'.c=x_2.c/\x'.op=false/\zCNc0 x ((↑x'.i:Int)=IntKind.i64.wrap ((↑x_2.i:Int)+(1:Int))/\x'.buf=List.take (0+x_2.k) x_2.buf++(FOp x_3++List.drop (0+x_2.k+(FOp x_3).length) x_2.buf)/\True))) (zCNc2 x_2 x_3 x))) (∃(x_3:XHd),FHold (FForm x) x_3.k x_3.c x_3.op x_3.buf/\0=0/\x_3.k=x_2.k/\x_3.c=x_2.c/\x_3.op=x_2.op/\(0:Int)=(0:Int)/\x_3.buf=x_2.buf/\True)
theorem eq_PutOp:vc_PutOp=nf_PutOp:=by kernel_rfl
theorem pf_PutOp:nf_PutOp:=by
 delta nf_PutOp zCNc1 zCNc3 zCNc4 zCNc5 zCNc6 zCNc7 zCNc8 zCNc9 zCNc0 zCNc2
 intro x0
 intro h1
 refine ⟨((IntKind.u64.wrap (↑x0.length:Int):Int)).toNat, ?_⟩
 try dsimp only
 refine ⟨by (try simp only [wrap_i64,wrap_u64,wrap_u32,wrap_u8] at*)<;>omega,by rfl,by trivial, ?_⟩
 refine ⟨?_, ?_⟩
 ·refine ⟨⟨(((0:Int):Int)).toNat,((FNum (IntKind.u64.wrap (↑x0.length:Int)).toNat).length),(10),(false),(FNum (IntKind.u64.wrap (↑x0.length:Int)).toNat++List.replicate (10- (FNum (IntKind.u64.wrap (↑x0.length:Int)).toNat).length) (0:UInt8))⟩, ?_⟩
  try dsimp only
  refine ⟨?_, ?_⟩
  ·refine ⟨by (have:=mays_len h1;omega), ?_⟩
   exact hold_num (Nat.lt_trans (mays_len h1) (by decide)) (by simp [FCat])
  refine ⟨by rfl,by rfl,by rfl,by rfl,by (simp;done),by rfl, ?_⟩
  refine ⟨?_, ?_⟩
  ·intro i2
   intro h3
   refine ⟨by (simp;done),by rfl,by (exact ⟨rfl,fun h=>h,rfl⟩),by (exact ⟨rfl,fun h=>h,rfl⟩),by rfl,by (exact ⟨rfl,fun h=>h,rfl⟩),by (exact ⟨rfl,fun h=>h,rfl⟩),by (simp;done), ?_⟩
   trivial
  refine ⟨by rfl,by decide,by rfl, ?_⟩
  trivial
 refine ⟨by trivial, ?_⟩
 intro x2
 intro ⟨h3,h4⟩
 refine ask_p bp_dec ?_ ?_
 ·intro h5
  refine ⟨by (obtain ⟨e1,e2,e3,e4,e5⟩:=h4;first | omega | (have:=e5 ‹_›;omega)),by (obtain ⟨e1,e2,e3,e4,e5⟩:=h4;first | omega | (have:=e5 ‹_›;omega)), ?_⟩
  refine ⟨x0.getD x2.i (LOp.mk 0 [] [] [] false [] [] 0), ?_⟩
  try dsimp only
  refine ⟨by exact (forms_len h1).2.2.2 _ (by omega),by rfl,by rfl,by (simp;done),by rfl,by (simp;done),by rfl,by rfl,by (simp;done),by rfl,by (simp;done),by rfl, ?_⟩
  refine ⟨by rfl,by trivial,by (obtain ⟨e1,e2,e3,e4,e5⟩:=h4;first | omega | (have:=e5 ‹_›;omega)), ?_⟩
  refine ask_p bp_id ?_ ?_
  ·intro h6
   refine ⟨?_, ?_⟩
   ·refine ⟨by (obtain ⟨e1,e2,e3,e4,e5⟩:=h4;first | omega | (have:=e5 ‹_›;omega)),by rfl,by (obtain ⟨e1,e2,e3,e4,e5⟩:=h4;first | omega | (have:=e5 ‹_›;omega)), ?_⟩
    rfl
   refine ⟨by exact Nat.lt_trans (part_lt (d:=LOp.mk 0 [] [] [] false [] [] 0) h4 (forms_len h1).1 (by omega)) (by omega),by trivial,by trivial,by trivial, ?_⟩
   refine ⟨⟨((IntKind.i64.wrap ((↑x2.i:Int)+(1:Int)):Int)).toNat,(x2.k+(FOp (x0.getD x2.i (LOp.mk (0:Int) [] [] [] false [] [] (0:Int)))).length),(x2.k+(FOp (x0.getD x2.i (LOp.mk (0:Int) [] [] [] false [] [] (0:Int)))).length),(true),(cutL x2.buf 0 x2.k++FOp (x0.getD x2.i (LOp.mk (0:Int) [] [] [] false [] [] (0:Int))))⟩, ?_⟩
   try dsimp only
   refine ⟨?_, ?_⟩
   ·refine ⟨by exact k_le (mays_len h1) h5, ?_⟩
    exact hold_new h4 (put_step (d:=LOp.mk 0 [] [] [] false [] [] 0) (by omega) (mays_len h1))
   refine ⟨by exact k_mu (mays_len h1) h5,by rfl,by rfl,by rfl,by rfl,by (simp;done),by rfl, ?_⟩
   refine ⟨?_, ?_⟩
   ·intro i7
    intro h8
    refine ⟨by (simp;done),by rfl,by (exact ⟨rfl,fun h=>h,rfl⟩),by (exact ⟨rfl,fun h=>h,rfl⟩),by rfl,by (exact ⟨rfl,fun h=>h,rfl⟩),by (exact ⟨rfl,fun h=>h,rfl⟩),by (simp;done), ?_⟩
    trivial
   refine ⟨by rfl,by exact k_eq (mays_len h1) h5,by rfl, ?_⟩
   trivial
  intro h6
  refine ask_p bp_le ?_ ?_
  ·intro h7
   refine ⟨by (obtain ⟨e1,e2,e3,e4,e5⟩:=h4;first | omega | (have:=e5 ‹_›;omega)),by trivial,by trivial,by trivial, ?_⟩
   refine ⟨⟨((IntKind.i64.wrap ((↑x2.i:Int)+(1:Int)):Int)).toNat,(x2.k+(FOp (x0.getD x2.i (LOp.mk (0:Int) [] [] [] false [] [] (0:Int)))).length),(x2.c),(false),(List.take (0+x2.k) x2.buf++(FOp (x0.getD x2.i (LOp.mk (0:Int) [] [] [] false [] [] (0:Int)))++List.drop (0+x2.k+(FOp (x0.getD x2.i (LOp.mk (0:Int) [] [] [] false [] [] (0:Int)))).length) x2.buf))⟩, ?_⟩
   try dsimp only
   refine ⟨?_, ?_⟩
   ·refine ⟨by exact k_le (mays_len h1) h5, ?_⟩
    exact hold_in h4 (by omega) (put_step (d:=LOp.mk 0 [] [] [] false [] [] 0) (by omega) (mays_len h1))
   refine ⟨by exact k_mu (mays_len h1) h5,by rfl,by rfl,by rfl,by rfl,by (simp;done),by rfl, ?_⟩
   refine ⟨?_, ?_⟩
   ·intro i8
    intro h9
    refine ⟨by (simp;done),by rfl,by (exact ⟨rfl,fun h=>h,rfl⟩),by (exact ⟨rfl,fun h=>h,rfl⟩),by rfl,by (exact ⟨rfl,fun h=>h,rfl⟩),by (exact ⟨rfl,fun h=>h,rfl⟩),by (simp;done), ?_⟩
    trivial
   refine ⟨by rfl,by exact k_eq (mays_len h1) h5,by rfl, ?_⟩
   trivial
  intro h7
  refine ⟨by exact Nat.lt_trans (part_lt (d:=LOp.mk 0 [] [] [] false [] [] 0) h4 (forms_len h1).1 (by omega)) (by omega),by trivial,by trivial,by trivial, ?_⟩
  refine ⟨⟨((IntKind.i64.wrap ((↑x2.i:Int)+(1:Int)):Int)).toNat,(x2.k+(FOp (x0.getD x2.i (LOp.mk (0:Int) [] [] [] false [] [] (0:Int)))).length),(x2.k+(FOp (x0.getD x2.i (LOp.mk (0:Int) [] [] [] false [] [] (0:Int)))).length),(true),(cutL x2.buf 0 x2.k++FOp (x0.getD x2.i (LOp.mk (0:Int) [] [] [] false [] [] (0:Int))))⟩, ?_⟩
  try dsimp only
  refine ⟨?_, ?_⟩
  ·refine ⟨by exact k_le (mays_len h1) h5, ?_⟩
   exact hold_new h4 (put_step (d:=LOp.mk 0 [] [] [] false [] [] 0) (by omega) (mays_len h1))
  refine ⟨by exact k_mu (mays_len h1) h5,by rfl,by rfl,by rfl,by rfl,by (simp;done),by rfl, ?_⟩
  refine ⟨?_, ?_⟩
  ·intro i8
   intro h9
   refine ⟨by (simp;done),by rfl,by (exact ⟨rfl,fun h=>h,rfl⟩),by (exact ⟨rfl,fun h=>h,rfl⟩),by rfl,by (exact ⟨rfl,fun h=>h,rfl⟩),by (exact ⟨rfl,fun h=>h,rfl⟩),by (simp;done), ?_⟩
   trivial
  refine ⟨by rfl,by exact k_eq (mays_len h1) h5,by rfl, ?_⟩
  trivial
 intro h5
 refine ⟨⟨(x2.k),(x2.c),(x2.op),(x2.buf)⟩, ?_⟩
 try dsimp only
 refine ⟨by (have e:FForm x0=FNum x0.length++FCat FOp (List.take x2.i x0):=put_end h5;rw [e];exact h4),by rfl,by rfl,by rfl,by rfl,by rfl,by rfl, ?_⟩
 trivial
abbrev zCNd0:LOp:=LOp.mk (0:Int) [] [] [] false [] [] (0:Int)
abbrev zCNd1:Prop:=false=true->false=true
abbrev zCNd2:List LOp->XI->Nat:=fun x0 x1=>(FFr x0 x1.i).length
abbrev zCNd5:Prop->Prop:=fun p=>0=0/\0=0/\p
abbrev zCNd4:List LOp->XI->LOp:=fun x0 x1=>x0.getD (Int.toNat (↑x1.i:Int)) zCNd0
abbrev zCNd6:List LOp->Nat->LOp:=fun x0 x1=>x0.getD x1 zCNd0
abbrev zCNd7:Prop->Prop:=fun p=>true=true/\zCNd1/\p
abbrev zCNd3:List LOp->Prop->Prop:=fun x0 p=>zCNd1/\x0.length=x0.length/\(∀(i:Nat),i<x0.length->(IntKind.i64=IntKind.i64/\(zCNd6 x0 i).kind=(zCNd6 x0 i).kind)/\(zCNd6 x0 i).table=(zCNd6 x0 i).table/\zCNd7 ((zCNd6 x0 i).key=(zCNd6 x0 i).key)/\zCNd7 ((zCNd6 x0 i).value=(zCNd6 x0 i).value)/\(zCNd6 x0 i).has=(zCNd6 x0 i).has/\zCNd7 ((zCNd6 x0 i).old=(zCNd6 x0 i).old)/\zCNd7 ((zCNd6 x0 i).to=(zCNd6 x0 i).to)/\(IntKind.i64=IntKind.i64/\(zCNd6 x0 i).most=(zCNd6 x0 i).most)/\True)/\p
def nf_Form:Prop:=
 ∀(x:List LOp),FMays x=true->∃(x_1:Nat),x_1<18446744073709551616/\(↑x_1:Int)=IntKind.u64.wrap (↑x.length:Int)/\True/\(∃(x_2:XI),x_2.i<=x.length/\zCNd5 (zCNd5 (zCNd2 x x_2=(FNum x_1).length/\zCNd2 x x_2=(FNum x_1).length/\true=true/\(↑x_2.i:Int)=(0:Int)/\zCNd3 x (FFr x x_2.i=FNum x_1/\True))))/\True/\∀(x_2:XI),x_2.i<=x.length->Eng.ask (decide (LT.lt (α:=Int) (↑x_2.i:Int) (↑x.length:Int))) ((0:Int)<=(↑x_2.i:Int)/\Int.toNat (↑x_2.i:Int)<x.length/\∃(x_3:LOp),FMayOp x_3=true/\x_3.kind=(zCNd4 x x_2).kind/\x_3.table=(zCNd4 x x_2).table/\zCNd1/\x_3.key=(zCNd4 x x_2).key/\zCNd1/\x_3.value=(zCNd4 x x_2).value/\x_3.has=(zCNd4 x x_2).has/\zCNd1/\x_3.old=(zCNd4 x x_2).old/\zCNd1/\x_3.to=(zCNd4 x x_2).to/\x_3.most=(zCNd4 x x_2).most/\True/\0+zCNd2 x x_2<=zCNd2 x x_2/\(zCNd2 x x_2=zCNd2 x x_2/\0=0/\zCNd2 x x_2=zCNd2 x x_2/\5=5)/\zCNd2 x x_2+(FOp x_3).length<1099511627776/\True/\True/\True/\∃(x':XI),x'.i<=x.length/\x.length-x'.i<x.length-x_2.i/\zCNd5 (zCNd5 (zCNd2 x x'=zCNd2 x x_2+(FOp x_3).length/\zCNd2 x x'=zCNd2 x x_2+(FOp x_3).length/\true=true/\(↑x'.i:Int)=IntKind.i64.wrap ((↑x_2.i:Int)+(1:Int))/\zCNd3 x (FFr x x'.i=cutL (FFr x x_2.i) 0 (zCNd2 x x_2)++FOp x_3/\True)))) ((true=true->true=true->zCNd2 x x_2≠0\/zCNd2 x x_2≠0)/\0+zCNd2 x x_2<=zCNd2 x x_2/\FForm x=cutL (FFr x x_2.i) 0 (zCNd2 x x_2)/\True)
theorem eq_Form:vc_Form=nf_Form:=by kernel_rfl
theorem pf_Form:nf_Form:=by
 delta nf_Form zCNd0 zCNd1 zCNd2 zCNd5 zCNd4 zCNd6 zCNd7 zCNd3
 intro x0
 intro h1
 refine ⟨((IntKind.u64.wrap (↑x0.length:Int):Int)).toNat, ?_⟩
 try dsimp only
 refine ⟨by (try simp only [wrap_i64,wrap_u64,wrap_u32,wrap_u8] at*)<;>omega,by rfl,by trivial, ?_⟩
 refine ⟨?_, ?_⟩
 ·refine ⟨⟨(((0:Int):Int)).toNat⟩, ?_⟩
  try dsimp only
  refine ⟨by (have:=mays_len h1;omega),by rfl,by rfl,by rfl,by rfl,by (rw [ffr_zero (Nat.lt_trans (mays_len h1) (by decide))];done),by (rw [ffr_zero (Nat.lt_trans (mays_len h1) (by decide))];done),by rfl,by decide,by (simp;done),by rfl, ?_⟩
  refine ⟨?_, ?_⟩
  ·intro i2
   intro h3
   refine ⟨by (simp;done),by rfl,by (exact ⟨rfl,fun h=>h,rfl⟩),by (exact ⟨rfl,fun h=>h,rfl⟩),by rfl,by (exact ⟨rfl,fun h=>h,rfl⟩),by (exact ⟨rfl,fun h=>h,rfl⟩),by (simp;done), ?_⟩
   trivial
  refine ⟨by exact ffr_zero (Nat.lt_trans (mays_len h1) (by decide)), ?_⟩
  trivial
 refine ⟨by trivial, ?_⟩
 intro x2
 intro h3
 refine ask_p bp_dec ?_ ?_
 ·intro h4
  refine ⟨by (have e1:=ffr_le (x:=x0) (i:=x2.i) (by omega);have e2:=(forms_len h1).1;omega),by (have e1:=ffr_le (x:=x0) (i:=x2.i) (by omega);have e2:=(forms_len h1).1;omega), ?_⟩
  refine ⟨x0.getD x2.i (LOp.mk 0 [] [] [] false [] [] 0), ?_⟩
  try dsimp only
  refine ⟨by exact (forms_len h1).2.2.2 _ (by omega),by rfl,by rfl,by (simp;done),by rfl,by (simp;done),by rfl,by rfl,by (simp;done),by rfl,by (simp;done),by rfl, ?_⟩
  refine ⟨by rfl,by trivial,by (have e1:=ffr_le (x:=x0) (i:=x2.i) (by omega);have e2:=(forms_len h1).1;omega),by (simp;done),by (have e1:=ffr_le (x:=x0) (i:=x2.i) (by omega);have e2:=(forms_len h1).1;omega),by trivial,by trivial,by trivial, ?_⟩
  refine ⟨⟨((IntKind.i64.wrap ((↑x2.i:Int)+(1:Int)):Int)).toNat⟩, ?_⟩
  try dsimp only
  refine ⟨by exact k_le (mays_len h1) h4,by exact k_mu (mays_len h1) h4,by rfl,by rfl,by rfl,by rfl,by (rw [k_w (mays_len h1) h4,Int.toNat_natCast,ffr_next (by omega)];simp [cutL_all];done),by (rw [k_w (mays_len h1) h4,Int.toNat_natCast,ffr_next (by omega)];simp [cutL_all];done),by rfl,by exact k_eq (mays_len h1) h4,by (simp;done),by rfl, ?_⟩
  refine ⟨?_, ?_⟩
  ·intro i5
   intro h6
   refine ⟨by (simp;done),by rfl,by (exact ⟨rfl,fun h=>h,rfl⟩),by (exact ⟨rfl,fun h=>h,rfl⟩),by rfl,by (exact ⟨rfl,fun h=>h,rfl⟩),by (exact ⟨rfl,fun h=>h,rfl⟩),by (simp;done), ?_⟩
   trivial
  refine ⟨by (rw [k_w (mays_len h1) h4,Int.toNat_natCast,ffr_next (by omega)];simp [cutL_all];done), ?_⟩
  trivial
 intro h4
 refine ⟨?_, ?_⟩
 ·intro h5
  intro h6
  (have:=ffr_pos (x:=x0) (i:=x2.i);omega)
 refine ⟨by (have:=ffr_pos (x:=x0) (i:=x2.i);omega),by (rw [cutL_all];exact ffr_end h4), ?_⟩
 trivial
abbrev zCNe0:List LOp->Nat->LOp:=fun x0 x1=>x0.getD x1 (LOp.mk (0:Int) [] [] [] false [] [] (0:Int))
abbrev zCNe1:Prop->Prop:=fun p=>true=true/\(false=true->false=true)/\p
abbrev zCNe2:List LOp->List LOp->Prop->Prop:=fun x0 x1 p=>(false=true->false=true)/\x0.length=x1.length/\(∀(i:Nat),i<x0.length->(IntKind.i64=IntKind.i64/\(zCNe0 x0 i).kind=(zCNe0 x1 i).kind)/\(zCNe0 x0 i).table=(zCNe0 x1 i).table/\zCNe1 ((zCNe0 x0 i).key=(zCNe0 x1 i).key)/\zCNe1 ((zCNe0 x0 i).value=(zCNe0 x1 i).value)/\(zCNe0 x0 i).has=(zCNe0 x1 i).has/\zCNe1 ((zCNe0 x0 i).old=(zCNe0 x1 i).old)/\zCNe1 ((zCNe0 x0 i).to=(zCNe0 x1 i).to)/\(IntKind.i64=IntKind.i64/\(zCNe0 x0 i).most=(zCNe0 x1 i).most)/\True)/\p
def nf_Bytes:Prop:=
 ∀(x:List LOp),FSmOps x->∃(x_1:List LOp),FSmOps x_1/\zCNe2 x_1 x (True/\Eng.ask (!FMays x_1) (∃(x_2:XHb),FBy x x_2/\x_2.k=0/\x_2.c=0/\x_2.op=true/\x_2.e=(2:Int)/\x_2.buf=[]/\True) (∃(x_2:List LOp),FMays x_2=true/\zCNe2 x_2 x (∀(x_3:XHd),FHold (FForm x_2) x_3.k x_3.c x_3.op x_3.buf->True/\Eng.ask (decide ((4096:Int)<(↑x_3.k:Int))) (∃(x_4:XHb),FBy x x_4/\x_4.k=0/\x_4.c=0/\x_4.op=true/\x_4.e=(3:Int)/\x_4.buf=[]/\True) (∃(x_4:XHb),FBy x x_4/\0=0/\x_4.k=x_3.k/\x_4.c=x_3.c/\x_4.op=x_3.op/\x_4.e=(0:Int)/\x_4.buf=x_3.buf/\True))))
theorem eq_Bytes:vc_Bytes=nf_Bytes:=by kernel_rfl
theorem pf_Bytes:nf_Bytes:=by
 delta nf_Bytes zCNe0 zCNe1 zCNe2
 intro x0
 intro h1
 refine ⟨x0, ?_⟩
 try dsimp only
 refine ⟨by exact h1,by (simp;done),by rfl, ?_⟩
 refine ⟨?_, ?_⟩
 ·intro i2
  intro h3
  refine ⟨by (simp;done),by rfl,by (exact ⟨rfl,fun h=>h,rfl⟩),by (exact ⟨rfl,fun h=>h,rfl⟩),by rfl,by (exact ⟨rfl,fun h=>h,rfl⟩),by (exact ⟨rfl,fun h=>h,rfl⟩),by (simp;done), ?_⟩
  trivial
 refine ⟨by trivial, ?_⟩
 refine ask_p (bp_not bp_id) ?_ ?_
 ·intro h2
  refine ⟨⟨(0),(0),(true),([]),((2:Int))⟩, ?_⟩
  try dsimp only
  refine ⟨by exact by_nil (chk2 ‹_›) (by decide),by rfl,by rfl,by rfl,by rfl,by rfl, ?_⟩
  trivial
 intro h2
 refine ⟨x0, ?_⟩
 try dsimp only
 refine ⟨by grind,by (simp;done),by rfl, ?_⟩
 refine ⟨?_, ?_⟩
 ·intro i3
  intro h4
  refine ⟨by (simp;done),by rfl,by (exact ⟨rfl,fun h=>h,rfl⟩),by (exact ⟨rfl,fun h=>h,rfl⟩),by rfl,by (exact ⟨rfl,fun h=>h,rfl⟩),by (exact ⟨rfl,fun h=>h,rfl⟩),by (simp;done), ?_⟩
  trivial
 intro x3
 intro h4
 refine ⟨by trivial, ?_⟩
 refine ask_p bp_dec ?_ ?_
 ·intro h5
  refine ⟨⟨(0),(0),(true),([]),((3:Int))⟩, ?_⟩
  try dsimp only
  refine ⟨by exact by_nil (by_long (Classical.not_not.1 ‹_›) ‹_› ‹_›) (by decide),by rfl,by rfl,by rfl,by rfl,by rfl, ?_⟩
  trivial
 intro h5
 refine ⟨⟨(x3.k),(x3.c),(x3.op),(x3.buf),((0:Int))⟩, ?_⟩
 try dsimp only
 refine ⟨by exact by_ok (Classical.not_not.1 ‹_›) ‹_› ‹_›,by rfl,by rfl,by rfl,by rfl,by rfl,by rfl, ?_⟩
 trivial
abbrev zCNf0:List LOp->Nat->LOp:=fun x0 x1=>x0.getD x1 (LOp.mk (0:Int) [] [] [] false [] [] (0:Int))
abbrev zCNf1:Prop->Prop:=fun p=>true=true/\(false=true->false=true)/\p
def nf_Check:Prop:=
 ∀(x:List LOp),FSmOps x->∃(x_1:List LOp),FSmOps x_1/\(false=true->false=true)/\x_1.length=x.length/\(∀(i:Nat),i<x_1.length->(IntKind.i64=IntKind.i64/\(zCNf0 x_1 i).kind=(zCNf0 x i).kind)/\(zCNf0 x_1 i).table=(zCNf0 x i).table/\zCNf1 ((zCNf0 x_1 i).key=(zCNf0 x i).key)/\zCNf1 ((zCNf0 x_1 i).value=(zCNf0 x i).value)/\(zCNf0 x_1 i).has=(zCNf0 x i).has/\zCNf1 ((zCNf0 x_1 i).old=(zCNf0 x i).old)/\zCNf1 ((zCNf0 x_1 i).to=(zCNf0 x i).to)/\(IntKind.i64=IntKind.i64/\(zCNf0 x_1 i).most=(zCNf0 x i).most)/\True)/\∀(x_2:XHb),FBy x_1 x_2->True/\FChk x=x_2.e/\True
theorem eq_Check:vc_Check=nf_Check:=by kernel_rfl
theorem pf_Check:nf_Check:=by
 delta nf_Check zCNf0 zCNf1
 intro x0
 intro h1
 refine ⟨x0, ?_⟩
 try dsimp only
 refine ⟨by (simp_all [FChk];done),by (simp;done),by rfl, ?_⟩
 refine ⟨?_, ?_⟩
 ·intro i2
  intro h3
  refine ⟨by (simp;done),by rfl,by (exact ⟨rfl,fun h=>h,rfl⟩),by (exact ⟨rfl,fun h=>h,rfl⟩),by rfl,by (exact ⟨rfl,fun h=>h,rfl⟩),by (exact ⟨rfl,fun h=>h,rfl⟩),by (simp;done), ?_⟩
  trivial
 intro x2
 intro h3
 refine ⟨by trivial,by exact (‹FBy _ _›).1.symm, ?_⟩
 trivial
abbrev zCNg0:List LOp->Nat->LOp:=fun x0 x1=>x0.getD x1 (LOp.mk (0:Int) [] [] [] false [] [] (0:Int))
abbrev zCNg1:Prop->Prop:=fun p=>true=true/\(false=true->false=true)/\p
abbrev zCNg2:List LOp->List LOp->Prop->Prop:=fun x0 x1 p=>(false=true->false=true)/\x0.length=x1.length/\(∀(i:Nat),i<x0.length->(IntKind.i64=IntKind.i64/\(zCNg0 x0 i).kind=(zCNg0 x1 i).kind)/\(zCNg0 x0 i).table=(zCNg0 x1 i).table/\zCNg1 ((zCNg0 x0 i).key=(zCNg0 x1 i).key)/\zCNg1 ((zCNg0 x0 i).value=(zCNg0 x1 i).value)/\(zCNg0 x0 i).has=(zCNg0 x1 i).has/\zCNg1 ((zCNg0 x0 i).old=(zCNg0 x1 i).old)/\zCNg1 ((zCNg0 x0 i).to=(zCNg0 x1 i).to)/\(IntKind.i64=IntKind.i64/\(zCNg0 x0 i).most=(zCNg0 x1 i).most)/\True)/\True/\p
def nf_rCheck:Prop:=
 ∀(x:List LOp),FSmOps x->∃(x_1:List LOp),FSmOps x_1/\zCNg2 x_1 x (Eng.ask (!FMays x_1) (FChk x=(2:Int)/\True) (∃(x_2:List LOp),FMays x_2=true/\zCNg2 x_2 x (Eng.ask (decide ((4096:Int)<(↑(FForm x_2).length:Int))) (FChk x=(3:Int)/\True) (FChk x=(0:Int)/\True))))
theorem eq_rCheck:vc_rCheck=nf_rCheck:=by kernel_rfl
theorem pf_rCheck:nf_rCheck:=by
 delta nf_rCheck zCNg0 zCNg1 zCNg2
 intro x0
 intro h1
 refine ⟨x0, ?_⟩
 try dsimp only
 refine ⟨by (simp_all [FChk];done),by (simp;done),by rfl, ?_⟩
 refine ⟨?_, ?_⟩
 ·intro i2
  intro h3
  refine ⟨by (simp;done),by rfl,by (exact ⟨rfl,fun h=>h,rfl⟩),by (exact ⟨rfl,fun h=>h,rfl⟩),by rfl,by (exact ⟨rfl,fun h=>h,rfl⟩),by (exact ⟨rfl,fun h=>h,rfl⟩),by (simp;done), ?_⟩
  trivial
 refine ⟨by trivial, ?_⟩
 refine ask_p (bp_not bp_id) ?_ ?_
 ·intro h2
  refine ⟨by (simp_all [FChk];done), ?_⟩
  trivial
 intro h2
 refine ⟨x0, ?_⟩
 try dsimp only
 refine ⟨by (simp_all [FChk];done),by (simp;done),by rfl, ?_⟩
 refine ⟨?_, ?_⟩
 ·intro i3
  intro h4
  refine ⟨by (simp;done),by rfl,by (exact ⟨rfl,fun h=>h,rfl⟩),by (exact ⟨rfl,fun h=>h,rfl⟩),by rfl,by (exact ⟨rfl,fun h=>h,rfl⟩),by (exact ⟨rfl,fun h=>h,rfl⟩),by (simp;done), ?_⟩
  trivial
 refine ⟨by trivial, ?_⟩
 refine ask_p bp_dec ?_ ?_
 ·intro h3
  refine ⟨by (simp_all [FChk];done), ?_⟩
  trivial
 intro h3
 refine ⟨by exact chk0 (Classical.not_not.1 ‹_›) ‹_›, ?_⟩
 trivial
end Go.Proofs
