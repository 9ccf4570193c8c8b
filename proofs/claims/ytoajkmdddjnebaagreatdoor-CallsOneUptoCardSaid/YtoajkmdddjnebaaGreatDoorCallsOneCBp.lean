import Derived.Test.YtoajkmdddjnebaaGreatDoorCallsOneCB
set_option linter.unusedSimpArgs false
set_option linter.unusedVariables false
namespace Go.Proofs
open Go.Eng
set_option maxRecDepth 100000
abbrev zCBa0:Nat->List UInt8:=fun x0=>FNum x0++List.replicate (10- (FNum x0).length) (0:UInt8)
abbrev zCBa1:Nat->List UInt8->Nat:=fun x0 x1=>(FNum x0).length+x1.length
abbrev zCBa2:Nat->Nat:=fun x0=>0+(FNum x0).length
def nf_wire_Bytes:Prop:=
 ∀(x:List UInt8),x.length<1099511627000->∃(x_1:Nat),x_1<18446744073709551616/\(↑x_1:Int)=IntKind.u64.wrap (↑x.length:Int)/\True/\zCBa2 x_1<=(zCBa0 x_1).length/\Eng.ask (leNB (zCBa1 x_1 x) 10) (zCBa2 x_1+x.length<=(zCBa0 x_1).length/\(true=true->false=true->zCBa1 x_1 x≠0\/10≠0)/\0+zCBa1 x_1 x<=(List.take (zCBa2 x_1) (zCBa0 x_1)++(x++List.drop (zCBa2 x_1+x.length) (zCBa0 x_1))).length/\FBytes x=cutL (List.take (zCBa2 x_1) (zCBa0 x_1)++(x++List.drop (zCBa2 x_1+x.length) (zCBa0 x_1))) 0 (zCBa1 x_1 x)/\True) (zCBa1 x_1 x<1099511627776/\(true=true->true=true->zCBa1 x_1 x≠0\/zCBa1 x_1 x≠0)/\0+zCBa1 x_1 x<=(cutL (zCBa0 x_1) 0 (FNum x_1).length++x).length/\FBytes x=cutL (cutL (zCBa0 x_1) 0 (FNum x_1).length++x) 0 (zCBa1 x_1 x)/\True)
theorem eq_wire_Bytes:vc_wire_Bytes=nf_wire_Bytes:=by kernel_rfl
theorem pf_wire_Bytes:nf_wire_Bytes:=by
 delta nf_wire_Bytes zCBa0 zCBa1 zCBa2
 intro x0
 intro h1
 refine ⟨((IntKind.u64.wrap (↑x0.length:Int):Int)).toNat, ?_⟩
 try dsimp only
 refine ⟨by (try simp only [wrap_i64,wrap_u64,wrap_u32,wrap_u8] at*)<;>omega,by rfl,by trivial,by (rw [FNum_u64 (by omega)] at*;have:=FNum_len x0.length;simp [cutL]), ?_⟩
 refine ask_p bp_le ?_ ?_
 ·intro h2
  refine ⟨by grind,by (simp;done),by (rw [FNum_u64 (by omega)] at*;have:=FNum_len x0.length;simp [cutL]),by (rw [FNum_u64 (by omega),buf_app1];rfl), ?_⟩
  trivial
 intro h2
 refine ⟨by (rw [FNum_u64 (by omega)] at*;have:=FNum_len x0.length;omega), ?_⟩
 refine ⟨?_, ?_⟩
 ·intro h3
  intro h4
  (rw [FNum_u64 (by omega)] at*;have:=FNum_pos x0.length;omega)
 refine ⟨by (rw [FNum_u64 (by omega)] at*;have:=FNum_len x0.length;simp [cutL]),by (rw [FNum_u64 (by omega),buf_app2];rfl), ?_⟩
 trivial
def nf_wire_Flag:Prop:=
 ∀(x:Bool),True->∀(q:Bool),q=x->Eng.ask q ((true=true->false=true->1≠0\/1≠0)/\((0:Int)<=(1:Int)/\(1:Int)<(256:Int))/\FFlag x=[UInt8.ofNat 1]/\True) ((true=true->false=true->1≠0\/1≠0)/\((0:Int)<=(0:Int)/\(0:Int)<(256:Int))/\FFlag x=[UInt8.ofNat 0]/\True)
theorem eq_wire_Flag:vc_wire_Flag=nf_wire_Flag:=by kernel_rfl
theorem pf_wire_Flag:nf_wire_Flag:=by
 delta nf_wire_Flag
 intro x0
 intro h1
 intro q2 hq2;subst hq2
 refine ask_p bp_id ?_ ?_
 ·intro h3
  refine ⟨by (simp;done),by (simp;done),by simp_all [FFlag], ?_⟩
  trivial
 intro h3
 refine ⟨by (simp;done),by (simp;done),by simp_all [FFlag], ?_⟩
 trivial
abbrev zCBc1:List (List UInt8)->Prop->Prop:=fun x0 p=>(false=true->false=true)/\x0.length=x0.length/\(∀(i:Nat),i<x0.length->(true=true/\(false=true->false=true)/\x0.getD i []=x0.getD i [])/\True)/\Eq (α:=Int) (↑x0.length:Int) (↑x0.length:Int)/\p
abbrev zCBc2:XBuf->List (List UInt8)->Prop:=fun x0 x1=>x0.i<=x1.length/\x0.buf=FJoin (List.take x0.i x1)/\(x0.op=true->x0.buf.length≠0)
abbrev zCBc4:XBuf->Nat:=fun x0=>0+x0.buf.length
abbrev zCBc5:List (List UInt8)->XBuf->List UInt8:=fun x0 x1=>x0.getD (Int.toNat (↑x1.i:Int)) []
abbrev zCBc3:XBuf->List (List UInt8)->Nat:=fun x0 x1=>x0.buf.length+(zCBc5 x1 x0).length
abbrev zCBc6:XBuf->List (List UInt8)->XBuf->Prop->Prop:=fun x0 x1 x2 p=>zCBc2 x0 x1/\x1.length-x0.i<x1.length-x2.i/\0=0/\x0.buf.length=zCBc3 x2 x1/\p
abbrev zCBc0:XBuf->List (List UInt8)->Prop:=fun x0 x1=>zCBc3 x0 x1<1099511627776/\True/\True/\True/\∃(x':XBuf),zCBc6 x' x1 x0 (x'.buf.length=zCBc3 x0 x1/\x'.op=true/\zCBc1 x1 ((↑x'.i:Int)=IntKind.i64.wrap ((↑x0.i:Int)+(1:Int))/\x'.buf=cutL x0.buf 0 x0.buf.length++zCBc5 x1 x0/\True))
def nf_wire_Join:Prop:=
 ∀(x:List (List UInt8)),(FJoin x).length<1099511627000/\x.length<1048577->(∃(x_1:XBuf),zCBc2 x_1 x/\0=0/\x_1.buf.length=0/\x_1.buf.length=0/\x_1.op=false/\zCBc1 x ((↑x_1.i:Int)=(0:Int)/\x_1.buf=[]/\True))/\True/\∀(x_1:XBuf),zCBc2 x_1 x->Eng.ask (decide (LT.lt (α:=Int) (↑x_1.i:Int) (↑x.length:Int))) ((0:Int)<=(↑x_1.i:Int)/\Int.toNat (↑x_1.i:Int)<x.length/\zCBc4 x_1<=x_1.buf.length/\Eng.ask x_1.op ((x_1.buf.length=x_1.buf.length/\0=0/\x_1.buf.length=x_1.buf.length/\5=5)/\zCBc0 x_1 x) (Eng.ask (leNB (zCBc3 x_1 x) x_1.buf.length) (zCBc4 x_1+(zCBc5 x x_1).length<=x_1.buf.length/\True/\True/\True/\∃(x':XBuf),zCBc6 x' x x_1 (x'.buf.length=x_1.buf.length/\x'.op=false/\zCBc1 x ((↑x'.i:Int)=IntKind.i64.wrap ((↑x_1.i:Int)+(1:Int))/\x'.buf=List.take (zCBc4 x_1) x_1.buf++(zCBc5 x x_1++List.drop (zCBc4 x_1+(zCBc5 x x_1).length) x_1.buf)/\True))) (zCBc0 x_1 x))) ((true=true->x_1.op=true->x_1.buf.length≠0\/x_1.buf.length≠0)/\zCBc4 x_1<=x_1.buf.length/\FJoin x=cutL x_1.buf 0 x_1.buf.length/\True)
theorem eq_wire_Join:vc_wire_Join=nf_wire_Join:=by kernel_rfl
theorem pf_wire_Join:nf_wire_Join:=by
 delta nf_wire_Join zCBc1 zCBc2 zCBc4 zCBc5 zCBc3 zCBc6 zCBc0
 intro x0
 intro ⟨h1,h2⟩
 refine ⟨?_, ?_⟩
 ·refine ⟨⟨(((0:Int):Int)).toNat,([]),(false)⟩, ?_⟩
  try dsimp only
  refine ⟨?_, ?_⟩
  ·refine ⟨by (simp [cutL];done),by rfl, ?_⟩
   intro h3
   grind
  refine ⟨by rfl,by decide,by decide,by rfl,by (simp;done),by rfl,by (simp;done),by rfl,by decide,by rfl, ?_⟩
  trivial
 refine ⟨by trivial, ?_⟩
 intro x3
 intro ⟨h4,⟨h5,h6⟩⟩
 refine ask_p bp_dec ?_ ?_
 ·intro h7
  refine ⟨by (simp [cutL];done),by omega,by (simp [cutL];done), ?_⟩
  refine ask_p bp_id ?_ ?_
  ·intro h8
   refine ⟨by (simp;done),by (have h8:=FJoin_take (x:=x0) (i:=x3.i) (by omega);have h9:=FJoin_le (x:=x0) (x3.i+1);rw [h8,List.length_append] at h9;simp only [Int.toNat_natCast] at*;simp_all;omega),by trivial,by trivial,by trivial, ?_⟩
   refine ⟨⟨((IntKind.i64.wrap ((↑x3.i:Int)+(1:Int)):Int)).toNat,(cutL x3.buf 0 x3.buf.length++x0.getD (Int.toNat (↑x3.i:Int)) []),(true)⟩, ?_⟩
   try dsimp only
   refine ⟨?_, ?_⟩
   ·refine ⟨by (rw [wrap_succ _ (by omega)];omega),by (have h8:=FJoin_take (x:=x0) (i:=x3.i) (by omega);rw [wrap_succ _ (by omega)];simp only [Int.toNat_natCast] at*;rw [h8,cutL_all];simp_all;done), ?_⟩
    intro h9
    (have:=‹_=true->_› ‹_›;simp only [cutL_all,List.length_append];omega)
   refine ⟨by (rw [wrap_succ _ (by omega)];omega),by rfl,by (simp [cutL];done),by (simp [cutL];done),by rfl,by (simp;done),by rfl,by (simp;done),by rfl,by (rw [wrap_succ _ (by omega)];omega),by rfl, ?_⟩
   trivial
  intro h8
  refine ask_p bp_le ?_ ?_
  ·intro h9
   refine ⟨by omega,by trivial,by trivial,by trivial, ?_⟩
   refine ⟨⟨((IntKind.i64.wrap ((↑x3.i:Int)+(1:Int)):Int)).toNat,(List.take (0+x3.buf.length) x3.buf++(x0.getD (Int.toNat (↑x3.i:Int)) []++List.drop (0+x3.buf.length+(x0.getD (Int.toNat (↑x3.i:Int)) []).length) x3.buf)),(false)⟩, ?_⟩
   try dsimp only
   refine ⟨?_, ?_⟩
   ·refine ⟨by (rw [wrap_succ _ (by omega)];omega),by (have h8:=FJoin_take (x:=x0) (i:=x3.i) (by omega);rw [wrap_succ _ (by omega)];simp only [Int.toNat_natCast] at*;rw [h8,buf_app3 (by omega)];simp_all;done), ?_⟩
    intro h10
    grind
   refine ⟨by (rw [wrap_succ _ (by omega)];omega),by rfl,by (simp [cutL];done),by grind,by rfl,by (simp;done),by rfl,by (simp;done),by rfl,by (rw [wrap_succ _ (by omega)];omega),by rfl, ?_⟩
   trivial
  intro h9
  refine ⟨by (have h8:=FJoin_take (x:=x0) (i:=x3.i) (by omega);have h9:=FJoin_le (x:=x0) (x3.i+1);rw [h8,List.length_append] at h9;simp only [Int.toNat_natCast] at*;simp_all;omega),by trivial,by trivial,by trivial, ?_⟩
  refine ⟨⟨((IntKind.i64.wrap ((↑x3.i:Int)+(1:Int)):Int)).toNat,(cutL x3.buf 0 x3.buf.length++x0.getD (Int.toNat (↑x3.i:Int)) []),(true)⟩, ?_⟩
  try dsimp only
  refine ⟨?_, ?_⟩
  ·refine ⟨by (rw [wrap_succ _ (by omega)];omega),by (have h8:=FJoin_take (x:=x0) (i:=x3.i) (by omega);rw [wrap_succ _ (by omega)];simp only [Int.toNat_natCast] at*;rw [h8,cutL_all];simp_all;done), ?_⟩
   intro h10
   grind
  refine ⟨by (rw [wrap_succ _ (by omega)];omega),by rfl,by (simp [cutL];done),by (simp [cutL];done),by rfl,by (simp;done),by rfl,by (simp;done),by rfl,by (rw [wrap_succ _ (by omega)];omega),by rfl, ?_⟩
  trivial
 intro h7
 refine ⟨?_, ?_⟩
 ·intro h8
  intro h9
  (rw [List.take_of_length_le (by omega)] at*;simp_all [cutL];done)
 refine ⟨by (simp [cutL];done),by (rw [List.take_of_length_le (by omega)] at*;simp_all [cutL];done), ?_⟩
 trivial
abbrev zCBd0:Nat->List UInt8->Nat:=fun x0 x1=>(FNum x0).length+x1.length
def nf_rf01Bytes:Prop:=
 ∀(x:List UInt8),x.length<1099511627000->∃(x_1:Nat),x_1<18446744073709551616/\(↑x_1:Int)=IntKind.u64.wrap (↑x.length:Int)/\True/\0+(FNum x_1).length<=(FNum x_1).length/\((FNum x_1).length=(FNum x_1).length/\0=0/\(FNum x_1).length=(FNum x_1).length/\5=5)/\zCBd0 x_1 x<1099511627776/\(true=true->true=true->zCBd0 x_1 x≠0\/zCBd0 x_1 x≠0)/\0+zCBd0 x_1 x<=(cutL (FNum x_1) 0 (FNum x_1).length++x).length/\FBytes x=cutL (cutL (FNum x_1) 0 (FNum x_1).length++x) 0 (zCBd0 x_1 x)/\True
theorem eq_rf01Bytes:vc_rf01Bytes=nf_rf01Bytes:=by kernel_rfl
theorem pf_rf01Bytes:nf_rf01Bytes:=by
 delta nf_rf01Bytes zCBd0
 intro x0
 intro h1
 refine ⟨((IntKind.u64.wrap (↑x0.length:Int):Int)).toNat, ?_⟩
 try dsimp only
 refine ⟨by (try simp only [wrap_i64,wrap_u64,wrap_u32,wrap_u8] at*)<;>omega,by rfl,by trivial,by (rw [FNum_u64 (by omega)] at*;have:=FNum_pos x0.length;omega),by (simp;done),by (rw [FNum_u64 (by omega)] at*;have:=FNum_len x0.length;omega), ?_⟩
 refine ⟨?_, ?_⟩
 ·intro h2
  intro h3
  (rw [FNum_u64 (by omega)] at*;have:=FNum_pos x0.length;omega)
 refine ⟨by (rw [FNum_u64 (by omega),cutL_all];simp;done),by (rw [FNum_u64 (by omega),cutL_all];rw [show (FNum x0.length).length+x0.length=(FNum x0.length++x0).length by simp,cutL_all];rfl), ?_⟩
 trivial
def nf_rf01Flag:Prop:=
 ∀(x:Bool),True->∀(q:Bool),q=x->Eng.ask q ((true=true->false=true->1≠0\/1≠0)/\((0:Int)<=(1:Int)/\(1:Int)<(256:Int))/\FFlag x=[UInt8.ofNat 1]/\True) ((true=true->false=true->1≠0\/1≠0)/\((0:Int)<=(0:Int)/\(0:Int)<(256:Int))/\FFlag x=[UInt8.ofNat 0]/\True)
theorem eq_rf01Flag:vc_rf01Flag=nf_rf01Flag:=by kernel_rfl
theorem pf_rf01Flag:nf_rf01Flag:=by
 delta nf_rf01Flag
 intro x0
 intro h1
 intro q2 hq2;subst hq2
 refine ask_p bp_id ?_ ?_
 ·intro h3
  refine ⟨by (simp;done),by (simp;done),by simp_all [FFlag], ?_⟩
  trivial
 intro h3
 refine ⟨by (simp;done),by (simp;done),by simp_all [FFlag], ?_⟩
 trivial
end Go.Proofs
