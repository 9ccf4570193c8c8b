import Derived.Test.YtoajkmdddjnebaaGreatDoorCallsResultsCB
set_option linter.unusedSimpArgs false
set_option linter.unusedVariables false
namespace Go.Proofs
open Go.Eng
set_option maxRecDepth 100000
abbrev zCB0_0:Nat->List UInt8:=fun x0=>FNum x0++List.replicate (10- (FNum x0).length) (0:UInt8)
abbrev zCB0_1:Nat->List UInt8->Nat:=fun x0 x1=>(FNum x0).length+x1.length
abbrev zCB0_2:Nat->Nat:=fun x0=>0+(FNum x0).length
def nf_wire_Bytes:Prop:=
 ∀(x:List UInt8),x.length<1099511627000->∃(x_1:Nat),x_1<18446744073709551616/\(↑x_1:Int)=IntKind.u64.wrap (↑x.length:Int)/\True/\zCB0_2 x_1<=(zCB0_0 x_1).length/\Eng.ask (leNB (zCB0_1 x_1 x) 10) (zCB0_2 x_1+x.length<=(zCB0_0 x_1).length/\(true=true->false=true->zCB0_1 x_1 x≠0\/10≠0)/\0+zCB0_1 x_1 x<=(List.take (zCB0_2 x_1) (zCB0_0 x_1)++(x++List.drop (zCB0_2 x_1+x.length) (zCB0_0 x_1))).length/\FBytes x=cutL (List.take (zCB0_2 x_1) (zCB0_0 x_1)++(x++List.drop (zCB0_2 x_1+x.length) (zCB0_0 x_1))) 0 (zCB0_1 x_1 x)/\True) (zCB0_1 x_1 x<1099511627776/\(true=true->true=true->zCB0_1 x_1 x≠0\/zCB0_1 x_1 x≠0)/\0+zCB0_1 x_1 x<=(cutL (zCB0_0 x_1) 0 (FNum x_1).length++x).length/\FBytes x=cutL (cutL (zCB0_0 x_1) 0 (FNum x_1).length++x) 0 (zCB0_1 x_1 x)/\True)
theorem eq_wire_Bytes:vc_wire_Bytes=nf_wire_Bytes:=by kernel_rfl
theorem pf_wire_Bytes:nf_wire_Bytes:=by
 delta nf_wire_Bytes zCB0_0 zCB0_1 zCB0_2
 intro x0
 intro h1
 refine ⟨((IntKind.u64.wrap (↑x0.length:Int):Int)).toNat,?_⟩
 try dsimp only
 refine ⟨by (try simp only [wrap_i64,wrap_u64,wrap_u32,wrap_u8] at*)<;>omega,by rfl,by trivial,by (rw [FNum_u64 (by omega)] at*;have:=FNum_len x0.length;simp [cutL]),?_⟩
 refine ask_p bp_le ?_ ?_
 ·intro h2
  refine ⟨by grind,by (simp;done),by (rw [FNum_u64 (by omega)] at*;have:=FNum_len x0.length;simp [cutL]),by (rw [FNum_u64 (by omega),buf_app1];rfl),?_⟩
  trivial
 intro h2
 refine ⟨by (rw [FNum_u64 (by omega)] at*;have:=FNum_len x0.length;omega),?_⟩
 refine ⟨?_,?_⟩
 ·intro h3
  intro h4
  (rw [FNum_u64 (by omega)] at*;have:=FNum_pos x0.length;omega)
 refine ⟨by (rw [FNum_u64 (by omega)] at*;have:=FNum_len x0.length;simp [cutL]),by (rw [FNum_u64 (by omega),buf_app2];rfl),?_⟩
 trivial
def nf_wire_Flag:Prop:=
 ∀(x:Bool),True->∀(q:Bool),q=x->Eng.ask q ((true=true->false=true->1≠0\/1≠0)/\((0:Int)<=(1:Int)/\(1:Int)<(256:Int))/\FFlag x=[UInt8.ofNat 1]/\True) ((true=true->false=true->1≠0\/1≠0)/\((0:Int)<=(0:Int)/\(0:Int)<(256:Int))/\FFlag x=[UInt8.ofNat 0]/\True)
theorem eq_wire_Flag:vc_wire_Flag=nf_wire_Flag:=by kernel_rfl
theorem pf_wire_Flag:nf_wire_Flag:=by
 delta nf_wire_Flag
 intro x0
 intro h1
 intro q2 hq2;subst hq2
 refine ask_p bp_id ?_ ?_
 ·intro h3
  refine ⟨by (simp;done),by (simp;done),by simp_all [FFlag],?_⟩
  trivial
 intro h3
 refine ⟨by (simp;done),by (simp;done),by simp_all [FFlag],?_⟩
 trivial
abbrev zCB2_1:List (List UInt8)->Prop->Prop:=fun x0 p=>(false=true->false=true)/\x0.length=x0.length/\(∀(i:Nat),i<x0.length->(true=true/\(false=true->false=true)/\x0.getD i []=x0.getD i [])/\True)/\Eq (α:=Int) (↑x0.length:Int) (↑x0.length:Int)/\p
abbrev zCB2_2:XBuf->List (List UInt8)->Prop:=fun x0 x1=>x0.i<=x1.length/\x0.buf=FJoin (List.take x0.i x1)/\(x0.op=true->x0.buf.length≠0)
abbrev zCB2_4:XBuf->Nat:=fun x0=>0+x0.buf.length
abbrev zCB2_5:List (List UInt8)->XBuf->List UInt8:=fun x0 x1=>x0.getD (Int.toNat (↑x1.i:Int)) []
abbrev zCB2_3:XBuf->List (List UInt8)->Nat:=fun x0 x1=>x0.buf.length+(zCB2_5 x1 x0).length
abbrev zCB2_6:XBuf->List (List UInt8)->XBuf->Prop->Prop:=fun x0 x1 x2 p=>zCB2_2 x0 x1/\x1.length-x0.i<x1.length-x2.i/\0=0/\x0.buf.length=zCB2_3 x2 x1/\p
abbrev zCB2_0:XBuf->List (List UInt8)->Prop:=fun x0 x1=>zCB2_3 x0 x1<1099511627776/\True/\True/\True/\∃(x':XBuf),zCB2_6 x' x1 x0 (x'.buf.length=zCB2_3 x0 x1/\x'.op=true/\zCB2_1 x1 ((↑x'.i:Int)=IntKind.i64.wrap ((↑x0.i:Int)+(1:Int))/\x'.buf=cutL x0.buf 0 x0.buf.length++zCB2_5 x1 x0/\True))
def nf_wire_Join:Prop:=
 ∀(x:List (List UInt8)),(FJoin x).length<1099511627000/\x.length<1048577->(∃(x_1:XBuf),zCB2_2 x_1 x/\0=0/\x_1.buf.length=0/\x_1.buf.length=0/\x_1.op=false/\zCB2_1 x ((↑x_1.i:Int)=(0:Int)/\x_1.buf=[]/\True))/\True/\∀(x_1:XBuf),zCB2_2 x_1 x->Eng.ask (decide (LT.lt (α:=Int) (↑x_1.i:Int) (↑x.length:Int))) ((0:Int)<=(↑x_1.i:Int)/\Int.toNat (↑x_1.i:Int)<x.length/\zCB2_4 x_1<=x_1.buf.length/\Eng.ask x_1.op ((x_1.buf.length=x_1.buf.length/\0=0/\x_1.buf.length=x_1.buf.length/\5=5)/\zCB2_0 x_1 x) (Eng.ask (leNB (zCB2_3 x_1 x) x_1.buf.length) (zCB2_4 x_1+(zCB2_5 x x_1).length<=x_1.buf.length/\True/\True/\True/\∃(x':XBuf),zCB2_6 x' x x_1 (x'.buf.length=x_1.buf.length/\x'.op=false/\zCB2_1 x ((↑x'.i:Int)=IntKind.i64.wrap ((↑x_1.i:Int)+(1:Int))/\x'.buf=List.take (zCB2_4 x_1) x_1.buf++(zCB2_5 x x_1++List.drop (zCB2_4 x_1+(zCB2_5 x x_1).length) x_1.buf)/\True))) (zCB2_0 x_1 x))) ((true=true->x_1.op=true->x_1.buf.length≠0\/x_1.buf.length≠0)/\zCB2_4 x_1<=x_1.buf.length/\FJoin x=cutL x_1.buf 0 x_1.buf.length/\True)
theorem eq_wire_Join:vc_wire_Join=nf_wire_Join:=by kernel_rfl
theorem pf_wire_Join:nf_wire_Join:=by
 delta nf_wire_Join zCB2_1 zCB2_2 zCB2_4 zCB2_5 zCB2_3 zCB2_6 zCB2_0
 intro x0
 intro ⟨h1,h2⟩
 refine ⟨?_,?_⟩
 ·refine ⟨⟨(((0:Int):Int)).toNat,([]),(false)⟩,?_⟩
  try dsimp only
  refine ⟨?_,?_⟩
  ·refine ⟨by (simp [cutL];done),by rfl,?_⟩
   intro h3
   grind
  refine ⟨by rfl,by decide,by decide,by rfl,by (simp;done),by rfl,by (simp;done),by rfl,by decide,by rfl,?_⟩
  trivial
 refine ⟨by trivial,?_⟩
 intro x3
 intro ⟨h4,⟨h5,h6⟩⟩
 refine ask_p bp_dec ?_ ?_
 ·intro h7
  refine ⟨by (simp [cutL];done),by omega,by (simp [cutL];done),?_⟩
  refine ask_p bp_id ?_ ?_
  ·intro h8
   refine ⟨by (simp;done),by (have h8:=FJoin_take (x:=x0) (i:=x3.i) (by omega);have h9:=FJoin_le (x:=x0) (x3.i+1);rw [h8,List.length_append] at h9;simp only [Int.toNat_natCast] at*;simp_all;omega),by trivial,by trivial,by trivial,?_⟩
   refine ⟨⟨((IntKind.i64.wrap ((↑x3.i:Int)+(1:Int)):Int)).toNat,(cutL x3.buf 0 x3.buf.length++x0.getD (Int.toNat (↑x3.i:Int)) []),(true)⟩,?_⟩
   try dsimp only
   refine ⟨?_,?_⟩
   ·refine ⟨by (rw [wrap_succ _ (by omega)];omega),by (have h8:=FJoin_take (x:=x0) (i:=x3.i) (by omega);rw [wrap_succ _ (by omega)];simp only [Int.toNat_natCast] at*;rw [h8,cutL_all];simp_all;done),?_⟩
    intro h9
    (have:=‹_=true->_› ‹_›;simp only [cutL_all,List.length_append];omega)
   refine ⟨by (rw [wrap_succ _ (by omega)];omega),by rfl,by (simp [cutL];done),by (simp [cutL];done),by rfl,by (simp;done),by rfl,by (simp;done),by rfl,by (rw [wrap_succ _ (by omega)];omega),by rfl,?_⟩
   trivial
  intro h8
  refine ask_p bp_le ?_ ?_
  ·intro h9
   refine ⟨by omega,by trivial,by trivial,by trivial,?_⟩
   refine ⟨⟨((IntKind.i64.wrap ((↑x3.i:Int)+(1:Int)):Int)).toNat,(List.take (0+x3.buf.length) x3.buf++(x0.getD (Int.toNat (↑x3.i:Int)) []++List.drop (0+x3.buf.length+(x0.getD (Int.toNat (↑x3.i:Int)) []).length) x3.buf)),(false)⟩,?_⟩
   try dsimp only
   refine ⟨?_,?_⟩
   ·refine ⟨by (rw [wrap_succ _ (by omega)];omega),by (have h8:=FJoin_take (x:=x0) (i:=x3.i) (by omega);rw [wrap_succ _ (by omega)];simp only [Int.toNat_natCast] at*;rw [h8,buf_app3 (by omega)];simp_all;done),?_⟩
    intro h10
    grind
   refine ⟨by (rw [wrap_succ _ (by omega)];omega),by rfl,by (simp [cutL];done),by grind,by rfl,by (simp;done),by rfl,by (simp;done),by rfl,by (rw [wrap_succ _ (by omega)];omega),by rfl,?_⟩
   trivial
  intro h9
  refine ⟨by (have h8:=FJoin_take (x:=x0) (i:=x3.i) (by omega);have h9:=FJoin_le (x:=x0) (x3.i+1);rw [h8,List.length_append] at h9;simp only [Int.toNat_natCast] at*;simp_all;omega),by trivial,by trivial,by trivial,?_⟩
  refine ⟨⟨((IntKind.i64.wrap ((↑x3.i:Int)+(1:Int)):Int)).toNat,(cutL x3.buf 0 x3.buf.length++x0.getD (Int.toNat (↑x3.i:Int)) []),(true)⟩,?_⟩
  try dsimp only
  refine ⟨?_,?_⟩
  ·refine ⟨by (rw [wrap_succ _ (by omega)];omega),by (have h8:=FJoin_take (x:=x0) (i:=x3.i) (by omega);rw [wrap_succ _ (by omega)];simp only [Int.toNat_natCast] at*;rw [h8,cutL_all];simp_all;done),?_⟩
   intro h10
   grind
  refine ⟨by (rw [wrap_succ _ (by omega)];omega),by rfl,by (simp [cutL];done),by (simp [cutL];done),by rfl,by (simp;done),by rfl,by (simp;done),by rfl,by (rw [wrap_succ _ (by omega)];omega),by rfl,?_⟩
  trivial
 intro h7
 refine ⟨?_,?_⟩
 ·intro h8
  intro h9
  (rw [List.take_of_length_le (by omega)] at*;simp_all [cutL];done)
 refine ⟨by (simp [cutL];done),by (rw [List.take_of_length_le (by omega)] at*;simp_all [cutL];done),?_⟩
 trivial
abbrev zCB3_0:Prop:=false=true
def nf_row:Prop:=
 ∀(x:LRow),(FRow x).length<1099511626000->∃(x_1:List UInt8),x_1.length<1099511627000/\(zCB3_0->zCB3_0)/\x_1=x.key/\True/\∃(x_2:List UInt8),x_2.length<1099511627000/\(zCB3_0->zCB3_0)/\x_2=x.value/\True/\∃(x_3:List (List UInt8)),((FJoin x_3).length<1099511627000/\x_3.length<1048577)/\(zCB3_0->zCB3_0->2≠0\/2≠0)/\x_3.length=2/\(zCB3_0->true=true)/\x_3.getD 0 []=FBytes x_1/\(zCB3_0->true=true)/\x_3.getD 1 []=FBytes x_2/\(1≠0/\True)/\(true=true->true=true)/\FRow x=FJoin x_3/\True
theorem eq_row:vc_row=nf_row:=by kernel_rfl
theorem pf_row:nf_row:=by
 delta nf_row zCB3_0
 intro x0
 intro h1
 refine ⟨(x0.key),?_⟩
 try dsimp only
 refine ⟨by (have:=FBytes_len x0.key;have:=FBytes_len x0.value;simp only [FRow,List.length_append] at*;omega),by (simp;done),by rfl,by trivial,?_⟩
 refine ⟨(x0.value),?_⟩
 try dsimp only
 refine ⟨by (have:=FBytes_len x0.key;have:=FBytes_len x0.value;simp only [FRow,List.length_append] at*;omega),by (simp;done),by rfl,by trivial,?_⟩
 refine ⟨[FBytes x0.key,FBytes x0.value],?_⟩
 try dsimp only
 refine ⟨?_,?_⟩
 ·refine ⟨by (have:=FBytes_len x0.key;have:=FBytes_len x0.value;simp [FRow,FJoin] at*;omega),?_⟩
  (simp [FJoin,FRow];done)
 refine ⟨by (simp;done),by (simp [FJoin,FRow];done),by (simp;done),by (simp [FJoin,FRow];done),by (simp;done),by (simp [FJoin,FRow];done),by (simp;done),by (simp;done),by (simp [FJoin,FRow];done),?_⟩
 trivial
abbrev zCB4_3:XPut->List LRow->Prop:=fun x0 x1=>x0.i<=x1.length/\FHold (FNum x1.length++FCat FRow (List.take x0.i x1)) x0.k x0.c x0.op x0.buf
abbrev zCB4_4:Prop:=false=true->false=true
abbrev zCB4_0:List LRow->Prop->Prop:=fun x0 p=>zCB4_4/\x0.length=x0.length/\(∀(i:Nat),i<x0.length->(true=true/\zCB4_4/\(x0.getD i (LRow.mk [] [])).key=(x0.getD i (LRow.mk [] [])).key)/\(true=true/\zCB4_4/\(x0.getD i (LRow.mk [] [])).value=(x0.getD i (LRow.mk [] [])).value)/\True)/\Eq (α:=Int) (↑x0.length:Int) (↑x0.length:Int)/\p
abbrev zCB4_1:XPut->List LRow->XPut->LRow->Prop->Prop:=fun x0 x1 x2 x3 p=>zCB4_3 x0 x1/\x1.length-x0.i<x1.length-x2.i/\0=0/\x0.k=x2.k+(FRow x3).length/\p
abbrev zCB4_2:XPut->LRow->List LRow->Prop:=fun x0 x1 x2=>x0.k+(FRow x1).length<1099511627776/\True/\True/\True/\∃(x':XPut),zCB4_1 x' x2 x0 x1 (x'.c=x0.k+(FRow x1).length/\x'.op=true/\zCB4_0 x2 ((↑x'.i:Int)=IntKind.i64.wrap ((↑x0.i:Int)+(1:Int))/\x'.buf=cutL x0.buf 0 x0.k++FRow x1/\True))
def nf_PutRow:Prop:=
 ∀(x:List LRow),(FRows x).length<1099511626000/\x.length<1048577->∃(x_1:Nat),x_1<18446744073709551616/\(↑x_1:Int)=IntKind.u64.wrap (↑x.length:Int)/\True/\(∃(x_2:XPut),zCB4_3 x_2 x/\0=0/\x_2.k=(FNum x_1).length/\x_2.c=10/\x_2.op=false/\zCB4_0 x ((↑x_2.i:Int)=(0:Int)/\x_2.buf=FNum x_1++List.replicate (10- (FNum x_1).length) (0:UInt8)/\True))/\True/\∀(x_2:XPut),zCB4_3 x_2 x->Eng.ask (decide (LT.lt (α:=Int) (↑x_2.i:Int) (↑x.length:Int))) ((0:Int)<=(↑x_2.i:Int)/\Int.toNat (↑x_2.i:Int)<x.length/\∃(x_3:LRow),(FRow x_3).length<1099511626000/\zCB4_4/\x_3.key=(x.getD (Int.toNat (↑x_2.i:Int)) (LRow.mk [] [])).key/\zCB4_4/\x_3.value=(x.getD (Int.toNat (↑x_2.i:Int)) (LRow.mk [] [])).value/\True/\0+x_2.k<=x_2.buf.length/\Eng.ask x_2.op ((x_2.c=x_2.k/\0=0/\x_2.k=x_2.buf.length/\5=5)/\zCB4_2 x_2 x_3 x) (Eng.ask (leNB (x_2.k+(FRow x_3).length) x_2.c) (0+x_2.k+(FRow x_3).length<=x_2.buf.length/\True/\True/\True/\∃(x':XPut),zCB4_1 x' x x_2 x_3 (x'.c=x_2.c/\x'.op=false/\zCB4_0 x ((↑x'.i:Int)=IntKind.i64.wrap ((↑x_2.i:Int)+(1:Int))/\x'.buf=List.take (0+x_2.k) x_2.buf++(FRow x_3++List.drop (0+x_2.k+(FRow x_3).length) x_2.buf)/\True))) (zCB4_2 x_2 x_3 x))) ((true=true->x_2.op=true->x_2.k≠0\/x_2.c≠0)/\0+x_2.k<=x_2.buf.length/\FRows x=cutL x_2.buf 0 x_2.k/\(0:Int)=(0:Int)/\True)
theorem eq_PutRow:vc_PutRow=nf_PutRow:=by kernel_rfl
theorem pf_PutRow:nf_PutRow:=by
 delta nf_PutRow zCB4_3 zCB4_4 zCB4_0 zCB4_1 zCB4_2
 intro x0
 intro ⟨h1,h2⟩
 refine ⟨((IntKind.u64.wrap (↑x0.length:Int):Int)).toNat,?_⟩
 try dsimp only
 refine ⟨by (try simp only [wrap_i64,wrap_u64,wrap_u32,wrap_u8] at*)<;>omega,by rfl,by trivial,?_⟩
 refine ⟨?_,?_⟩
 ·refine ⟨⟨(((0:Int):Int)).toNat,((FNum (IntKind.u64.wrap (↑x0.length:Int)).toNat).length),(10),(false),(FNum (IntKind.u64.wrap (↑x0.length:Int)).toNat++List.replicate (10- (FNum (IntKind.u64.wrap (↑x0.length:Int)).toNat).length) (0:UInt8))⟩,?_⟩
  try dsimp only
  refine ⟨?_,?_⟩
  ·refine ⟨by omega,?_⟩
   exact hold_num (by omega) (by simp [FCat])
  refine ⟨by rfl,by rfl,by rfl,by rfl,by (simp;done),by rfl,by (simp;done),by rfl,by decide,by rfl,?_⟩
  trivial
 refine ⟨by trivial,?_⟩
 intro x3
 intro ⟨h4,h5⟩
 refine ask_p bp_dec ?_ ?_
 ·intro h6
  refine ⟨by (obtain ⟨e1,e2,e3,e4,e5⟩:=h5;first | omega | (have:=e5 ‹_›;omega)),by (obtain ⟨e1,e2,e3,e4,e5⟩:=h5;first | omega | (have:=e5 ‹_›;omega)),?_⟩
  refine ⟨⟨((x0.getD (Int.toNat (↑x3.i:Int)) (LRow.mk [] [])).key),((x0.getD (Int.toNat (↑x3.i:Int)) (LRow.mk [] [])).value)⟩,?_⟩
  try dsimp only
  refine ⟨by exact part_lt' (d:=(LRow.mk [] [])) h1 (by omega),by (simp;done),by rfl,by (simp;done),by rfl,by trivial,by (obtain ⟨e1,e2,e3,e4,e5⟩:=h5;first | omega | (have:=e5 ‹_›;omega)),?_⟩
  refine ask_p bp_id ?_ ?_
  ·intro h7
   refine ⟨?_,?_⟩
   ·refine ⟨by (obtain ⟨e1,e2,e3,e4,e5⟩:=h5;first | omega | (have:=e5 ‹_›;omega)),by rfl,by (obtain ⟨e1,e2,e3,e4,e5⟩:=h5;first | omega | (have:=e5 ‹_›;omega)),?_⟩
    rfl
   refine ⟨by exact Nat.lt_trans (part_lt (d:=(LRow.mk [] [])) h5 h1 (by omega)) (by omega),by trivial,by trivial,by trivial,?_⟩
   refine ⟨⟨((IntKind.i64.wrap ((↑x3.i:Int)+(1:Int)):Int)).toNat,(x3.k+(FRow (LRow.mk (x0.getD (Int.toNat (↑x3.i:Int)) (LRow.mk [] [])).key (x0.getD (Int.toNat (↑x3.i:Int)) (LRow.mk [] [])).value)).length),(x3.k+(FRow (LRow.mk (x0.getD (Int.toNat (↑x3.i:Int)) (LRow.mk [] [])).key (x0.getD (Int.toNat (↑x3.i:Int)) (LRow.mk [] [])).value)).length),(true),(cutL x3.buf 0 x3.k++FRow (LRow.mk (x0.getD (Int.toNat (↑x3.i:Int)) (LRow.mk [] [])).key (x0.getD (Int.toNat (↑x3.i:Int)) (LRow.mk [] [])).value))⟩,?_⟩
   try dsimp only
   refine ⟨?_,?_⟩
   ·refine ⟨by (rw [wrap_succ _ (by omega)];omega),?_⟩
    exact hold_new h5 (put_step (d:=(LRow.mk [] [])) (by omega) (by omega))
   refine ⟨by (rw [wrap_succ _ (by omega)];omega),by rfl,by rfl,by rfl,by rfl,by (simp;done),by rfl,by (simp;done),by rfl,by (rw [wrap_succ _ (by omega)];omega),by rfl,?_⟩
   trivial
  intro h7
  refine ask_p bp_le ?_ ?_
  ·intro h8
   refine ⟨by (obtain ⟨e1,e2,e3,e4,e5⟩:=h5;first | omega | (have:=e5 ‹_›;omega)),by trivial,by trivial,by trivial,?_⟩
   refine ⟨⟨((IntKind.i64.wrap ((↑x3.i:Int)+(1:Int)):Int)).toNat,(x3.k+(FRow (LRow.mk (x0.getD (Int.toNat (↑x3.i:Int)) (LRow.mk [] [])).key (x0.getD (Int.toNat (↑x3.i:Int)) (LRow.mk [] [])).value)).length),(x3.c),(false),(List.take (0+x3.k) x3.buf++(FRow (LRow.mk (x0.getD (Int.toNat (↑x3.i:Int)) (LRow.mk [] [])).key (x0.getD (Int.toNat (↑x3.i:Int)) (LRow.mk [] [])).value)++List.drop (0+x3.k+(FRow (LRow.mk (x0.getD (Int.toNat (↑x3.i:Int)) (LRow.mk [] [])).key (x0.getD (Int.toNat (↑x3.i:Int)) (LRow.mk [] [])).value)).length) x3.buf))⟩,?_⟩
   try dsimp only
   refine ⟨?_,?_⟩
   ·refine ⟨by (rw [wrap_succ _ (by omega)];omega),?_⟩
    exact hold_in h5 (by omega) (put_step (d:=(LRow.mk [] [])) (by omega) (by omega))
   refine ⟨by (rw [wrap_succ _ (by omega)];omega),by rfl,by rfl,by rfl,by rfl,by (simp;done),by rfl,by (simp;done),by rfl,by (rw [wrap_succ _ (by omega)];omega),by rfl,?_⟩
   trivial
  intro h8
  refine ⟨by exact Nat.lt_trans (part_lt (d:=(LRow.mk [] [])) h5 h1 (by omega)) (by omega),by trivial,by trivial,by trivial,?_⟩
  refine ⟨⟨((IntKind.i64.wrap ((↑x3.i:Int)+(1:Int)):Int)).toNat,(x3.k+(FRow (LRow.mk (x0.getD (Int.toNat (↑x3.i:Int)) (LRow.mk [] [])).key (x0.getD (Int.toNat (↑x3.i:Int)) (LRow.mk [] [])).value)).length),(x3.k+(FRow (LRow.mk (x0.getD (Int.toNat (↑x3.i:Int)) (LRow.mk [] [])).key (x0.getD (Int.toNat (↑x3.i:Int)) (LRow.mk [] [])).value)).length),(true),(cutL x3.buf 0 x3.k++FRow (LRow.mk (x0.getD (Int.toNat (↑x3.i:Int)) (LRow.mk [] [])).key (x0.getD (Int.toNat (↑x3.i:Int)) (LRow.mk [] [])).value))⟩,?_⟩
  try dsimp only
  refine ⟨?_,?_⟩
  ·refine ⟨by (rw [wrap_succ _ (by omega)];omega),?_⟩
   exact hold_new h5 (put_step (d:=(LRow.mk [] [])) (by omega) (by omega))
  refine ⟨by (rw [wrap_succ _ (by omega)];omega),by rfl,by rfl,by rfl,by rfl,by (simp;done),by rfl,by (simp;done),by rfl,by (rw [wrap_succ _ (by omega)];omega),by rfl,?_⟩
  trivial
 intro h6
 refine ⟨?_,?_⟩
 ·intro h7
  intro h8
  (obtain ⟨e1,e2,e3,e4,e5⟩:=h5;first | omega | (have:=e5 ‹_›;omega))
 refine ⟨by (obtain ⟨e1,e2,e3,e4,e5⟩:=h5;first | omega | (have:=e5 ‹_›;omega)),by exact hold_end h5 (put_end (by omega)),by rfl,?_⟩
 trivial
abbrev zCB5_0:Prop:=false=true
def nf_out:Prop:=
 ∀(x:LOut),(FOut x).length<1099511625000/\x.rows.length<1048577->∃(x_1:List LRow),((FRows x_1).length<1099511626000/\x_1.length<1048577)/\(zCB5_0->zCB5_0)/\x_1.length=x.rows.length/\(∀(i:Nat),i<x_1.length->(true=true/\(zCB5_0->zCB5_0)/\(x_1.getD i (LRow.mk [] [])).key=(x.rows.getD i (LRow.mk [] [])).key)/\(true=true/\(zCB5_0->zCB5_0)/\(x_1.getD i (LRow.mk [] [])).value=(x.rows.getD i (LRow.mk [] [])).value)/\True)/\True/\∃(x_2:Bool),True/\x_2=x.has/\True/\∃(x_3:List UInt8),x_3.length<1099511627000/\(zCB5_0->zCB5_0)/\x_3=x.value/\True/\∃(x_4:List (List UInt8)),((FJoin x_4).length<1099511627000/\x_4.length<1048577)/\(zCB5_0->zCB5_0->3≠0\/3≠0)/\x_4.length=3/\(zCB5_0->true=true)/\x_4.getD 0 []=FFlag x_2/\(zCB5_0->true=true)/\x_4.getD 1 []=FBytes x_3/\(zCB5_0->true=true)/\x_4.getD 2 []=FRows x_1/\(1≠0/\True)/\(true=true->true=true)/\FOut x=FJoin x_4/\True
theorem eq_out:vc_out=nf_out:=by kernel_rfl
theorem pf_out:nf_out:=by
 delta nf_out zCB5_0
 intro x0
 intro ⟨h1,h2⟩
 refine ⟨x0.rows,?_⟩
 try dsimp only
 refine ⟨?_,?_⟩
 ·refine ⟨by (have:=FBytes_len x0.value;simp [FOut,FFlag,FJoin] at*;omega),?_⟩
  (have:=FBytes_len x0.value;simp [FOut,FFlag,FJoin] at*;omega)
 refine ⟨by (simp;done),by rfl,by (simp;done),by trivial,?_⟩
 refine ⟨(x0.has),?_⟩
 try dsimp only
 refine ⟨by trivial,by rfl,by trivial,?_⟩
 refine ⟨(x0.value),?_⟩
 try dsimp only
 refine ⟨by (have:=FBytes_len x0.value;simp [FOut,FFlag,FJoin] at*;omega),by (simp;done),by rfl,by trivial,?_⟩
 refine ⟨[FFlag x0.has,FBytes x0.value,FRows x0.rows],?_⟩
 try dsimp only
 refine ⟨?_,?_⟩
 ·refine ⟨by (have:=FBytes_len x0.value;simp [FOut,FFlag,FJoin] at*;omega),?_⟩
  (simp [FOut,FJoin];done)
 refine ⟨by (simp;done),by (simp [FOut,FJoin];done),by (simp;done),by (simp [FOut,FJoin];done),by (simp;done),by (simp [FOut,FJoin];done),by (simp;done),by (simp [FOut,FJoin];done),by (simp;done),by (simp;done),by (simp [FOut,FJoin];done),?_⟩
 trivial
abbrev zCB6_2:LOut:=LOut.mk false [] []
abbrev zCB6_4:XPut->List LOut->Prop:=fun x0 x1=>x0.i<=x1.length/\FHold (FNum x1.length++FCat FOut (List.take x0.i x1)) x0.k x0.c x0.op x0.buf
abbrev zCB6_5:Prop:=false=true->false=true
abbrev zCB6_8:XPut->LOut->Nat:=fun x0 x1=>x0.k+(FOut x1).length
abbrev zCB6_3:Prop->Prop:=fun p=>true=true/\zCB6_5/\p
abbrev zCB6_6:List LOut->Nat->Nat->LRow:=fun x0 x1 x2=>(x0.getD x1 zCB6_2).rows.getD x2 (LRow.mk [] [])
abbrev zCB6_7:List LOut->XPut->LOut:=fun x0 x1=>x0.getD (Int.toNat (↑x1.i:Int)) zCB6_2
abbrev zCB6_0:List LOut->Prop->Prop:=fun x0 p=>zCB6_5/\x0.length=x0.length/\(∀(i:Nat),i<x0.length->(x0.getD i zCB6_2).has=(x0.getD i zCB6_2).has/\zCB6_3 ((x0.getD i zCB6_2).value=(x0.getD i zCB6_2).value)/\zCB6_3 ((x0.getD i zCB6_2).rows.length=(x0.getD i zCB6_2).rows.length/\2=2/\∀(i_1:Nat),i_1<(x0.getD i zCB6_2).rows.length->zCB6_3 ((zCB6_6 x0 i i_1).key=(zCB6_6 x0 i i_1).key)/\zCB6_3 ((zCB6_6 x0 i i_1).value=(zCB6_6 x0 i i_1).value)/\True)/\True)/\Eq (α:=Int) (↑x0.length:Int) (↑x0.length:Int)/\p
abbrev zCB6_1:XPut->LOut->List LOut->Prop:=fun x0 x1 x2=>zCB6_8 x0 x1<1099511627776/\True/\True/\True/\∃(x':XPut),zCB6_4 x' x2/\x2.length-x'.i<x2.length-x0.i/\0=0/\x'.k=zCB6_8 x0 x1/\x'.c=zCB6_8 x0 x1/\x'.op=true/\zCB6_0 x2 ((↑x'.i:Int)=IntKind.i64.wrap ((↑x0.i:Int)+(1:Int))/\x'.buf=cutL x0.buf 0 x0.k++FOut x1/\True)
def nf_PutOut:Prop:=
 ∀(x:List LOut),((FOuts x).length<1099511625000/\x.length<1048577/\∀(i:Nat),i<x.length->(x.getD i zCB6_2).rows.length<1048577)->∃(x_1:Nat),x_1<18446744073709551616/\(↑x_1:Int)=IntKind.u64.wrap (↑x.length:Int)/\True/\(∃(x_2:XPut),zCB6_4 x_2 x/\0=0/\x_2.k=(FNum x_1).length/\x_2.c=10/\x_2.op=false/\zCB6_0 x ((↑x_2.i:Int)=(0:Int)/\x_2.buf=FNum x_1++List.replicate (10- (FNum x_1).length) (0:UInt8)/\True))/\True/\∀(x_2:XPut),zCB6_4 x_2 x->Eng.ask (decide (LT.lt (α:=Int) (↑x_2.i:Int) (↑x.length:Int))) ((0:Int)<=(↑x_2.i:Int)/\Int.toNat (↑x_2.i:Int)<x.length/\∃(x_3:LOut),((FOut x_3).length<1099511625000/\x_3.rows.length<1048577)/\x_3.has=(zCB6_7 x x_2).has/\zCB6_5/\x_3.value=(zCB6_7 x x_2).value/\zCB6_5/\x_3.rows.length=(zCB6_7 x x_2).rows.length/\(∀(i:Nat),i<x_3.rows.length->zCB6_3 ((x_3.rows.getD i (LRow.mk [] [])).key=((zCB6_7 x x_2).rows.getD i (LRow.mk [] [])).key)/\zCB6_3 ((x_3.rows.getD i (LRow.mk [] [])).value=((zCB6_7 x x_2).rows.getD i (LRow.mk [] [])).value)/\True)/\True/\0+x_2.k<=x_2.buf.length/\Eng.ask x_2.op ((x_2.c=x_2.k/\0=0/\x_2.k=x_2.buf.length/\5=5)/\zCB6_1 x_2 x_3 x) (Eng.ask (leNB (zCB6_8 x_2 x_3) x_2.c) (0+x_2.k+(FOut x_3).length<=x_2.buf.length/\True/\True/\True/\∃(x':XPut),zCB6_4 x' x/\x.length-x'.i<x.length-x_2.i/\0=0/\x'.k=zCB6_8 x_2 x_3/\x'.c=x_2.c/\x'.op=false/\zCB6_0 x ((↑x'.i:Int)=IntKind.i64.wrap ((↑x_2.i:Int)+(1:Int))/\x'.buf=List.take (0+x_2.k) x_2.buf++(FOut x_3++List.drop (0+x_2.k+(FOut x_3).length) x_2.buf)/\True)) (zCB6_1 x_2 x_3 x))) ((true=true->x_2.op=true->x_2.k≠0\/x_2.c≠0)/\0+x_2.k<=x_2.buf.length/\FOuts x=cutL x_2.buf 0 x_2.k/\(0:Int)=(0:Int)/\True)
theorem eq_PutOut:vc_PutOut=nf_PutOut:=by kernel_rfl
theorem pf_PutOut:nf_PutOut:=by
 delta nf_PutOut zCB6_2 zCB6_4 zCB6_5 zCB6_8 zCB6_3 zCB6_6 zCB6_7 zCB6_0 zCB6_1
 intro x0
 intro ⟨h1,⟨h2,h3⟩⟩
 refine ⟨((IntKind.u64.wrap (↑x0.length:Int):Int)).toNat,?_⟩
 try dsimp only
 refine ⟨by (try simp only [wrap_i64,wrap_u64,wrap_u32,wrap_u8] at*)<;>omega,by rfl,by trivial,?_⟩
 refine ⟨?_,?_⟩
 ·refine ⟨⟨(((0:Int):Int)).toNat,((FNum (IntKind.u64.wrap (↑x0.length:Int)).toNat).length),(10),(false),(FNum (IntKind.u64.wrap (↑x0.length:Int)).toNat++List.replicate (10- (FNum (IntKind.u64.wrap (↑x0.length:Int)).toNat).length) (0:UInt8))⟩,?_⟩
  try dsimp only
  refine ⟨?_,?_⟩
  ·refine ⟨by omega,?_⟩
   exact hold_num (by omega) (by simp [FCat])
  refine ⟨by rfl,by rfl,by rfl,by rfl,by (simp;done),by rfl,by (simp;done),by rfl,by decide,by rfl,?_⟩
  trivial
 refine ⟨by trivial,?_⟩
 intro x4
 intro ⟨h5,h6⟩
 refine ask_p bp_dec ?_ ?_
 ·intro h7
  refine ⟨by (obtain ⟨e1,e2,e3,e4,e5⟩:=h6;first | omega | (have:=e5 ‹_›;omega)),by (obtain ⟨e1,e2,e3,e4,e5⟩:=h6;first | omega | (have:=e5 ‹_›;omega)),?_⟩
  refine ⟨x0.getD x4.i (LOut.mk false [] []),?_⟩
  try dsimp only
  refine ⟨?_,?_⟩
  ·refine ⟨by exact part_lt' (d:=(LOut.mk false [] [])) h1 (by omega),?_⟩
   exact h3 _ (by omega)
  refine ⟨by rfl,by (simp;done),by rfl,by (simp;done),by rfl,by (simp;done),by trivial,by (obtain ⟨e1,e2,e3,e4,e5⟩:=h6;first | omega | (have:=e5 ‹_›;omega)),?_⟩
  refine ask_p bp_id ?_ ?_
  ·intro h8
   refine ⟨?_,?_⟩
   ·refine ⟨by (obtain ⟨e1,e2,e3,e4,e5⟩:=h6;first | omega | (have:=e5 ‹_›;omega)),by rfl,by (obtain ⟨e1,e2,e3,e4,e5⟩:=h6;first | omega | (have:=e5 ‹_›;omega)),?_⟩
    rfl
   refine ⟨by exact Nat.lt_trans (part_lt (d:=(LOut.mk false [] [])) h6 h1 (by omega)) (by omega),by trivial,by trivial,by trivial,?_⟩
   refine ⟨⟨((IntKind.i64.wrap ((↑x4.i:Int)+(1:Int)):Int)).toNat,(x4.k+(FOut (x0.getD x4.i (LOut.mk false [] []))).length),(x4.k+(FOut (x0.getD x4.i (LOut.mk false [] []))).length),(true),(cutL x4.buf 0 x4.k++FOut (x0.getD x4.i (LOut.mk false [] [])))⟩,?_⟩
   try dsimp only
   refine ⟨?_,?_⟩
   ·refine ⟨by (rw [wrap_succ _ (by omega)];omega),?_⟩
    exact hold_new h6 (put_step (d:=(LOut.mk false [] [])) (by omega) (by omega))
   refine ⟨by (rw [wrap_succ _ (by omega)];omega),by rfl,by rfl,by rfl,by rfl,by (simp;done),by rfl,by (simp;done),by rfl,by (rw [wrap_succ _ (by omega)];omega),by rfl,?_⟩
   trivial
  intro h8
  refine ask_p bp_le ?_ ?_
  ·intro h9
   refine ⟨by (obtain ⟨e1,e2,e3,e4,e5⟩:=h6;first | omega | (have:=e5 ‹_›;omega)),by trivial,by trivial,by trivial,?_⟩
   refine ⟨⟨((IntKind.i64.wrap ((↑x4.i:Int)+(1:Int)):Int)).toNat,(x4.k+(FOut (x0.getD x4.i (LOut.mk false [] []))).length),(x4.c),(false),(List.take (0+x4.k) x4.buf++(FOut (x0.getD x4.i (LOut.mk false [] []))++List.drop (0+x4.k+(FOut (x0.getD x4.i (LOut.mk false [] []))).length) x4.buf))⟩,?_⟩
   try dsimp only
   refine ⟨?_,?_⟩
   ·refine ⟨by (rw [wrap_succ _ (by omega)];omega),?_⟩
    exact hold_in h6 (by omega) (put_step (d:=(LOut.mk false [] [])) (by omega) (by omega))
   refine ⟨by (rw [wrap_succ _ (by omega)];omega),by rfl,by rfl,by rfl,by rfl,by (simp;done),by rfl,by (simp;done),by rfl,by (rw [wrap_succ _ (by omega)];omega),by rfl,?_⟩
   trivial
  intro h9
  refine ⟨by exact Nat.lt_trans (part_lt (d:=(LOut.mk false [] [])) h6 h1 (by omega)) (by omega),by trivial,by trivial,by trivial,?_⟩
  refine ⟨⟨((IntKind.i64.wrap ((↑x4.i:Int)+(1:Int)):Int)).toNat,(x4.k+(FOut (x0.getD x4.i (LOut.mk false [] []))).length),(x4.k+(FOut (x0.getD x4.i (LOut.mk false [] []))).length),(true),(cutL x4.buf 0 x4.k++FOut (x0.getD x4.i (LOut.mk false [] [])))⟩,?_⟩
  try dsimp only
  refine ⟨?_,?_⟩
  ·refine ⟨by (rw [wrap_succ _ (by omega)];omega),?_⟩
   exact hold_new h6 (put_step (d:=(LOut.mk false [] [])) (by omega) (by omega))
  refine ⟨by (rw [wrap_succ _ (by omega)];omega),by rfl,by rfl,by rfl,by rfl,by (simp;done),by rfl,by (simp;done),by rfl,by (rw [wrap_succ _ (by omega)];omega),by rfl,?_⟩
  trivial
 intro h7
 refine ⟨?_,?_⟩
 ·intro h8
  intro h9
  (obtain ⟨e1,e2,e3,e4,e5⟩:=h6;first | omega | (have:=e5 ‹_›;omega))
 refine ⟨by (obtain ⟨e1,e2,e3,e4,e5⟩:=h6;first | omega | (have:=e5 ‹_›;omega)),by exact hold_end h6 (put_end (by omega)),by rfl,?_⟩
 trivial
abbrev zCB7_1:Bool->Bool:=fun x0=>bif false then x0 else !x0
abbrev zCB7_5:Prop:=false=true->false=true
abbrev zCB7_12:XI->LRes->Prop:=fun x0 x1=>x0.i<=x1.outs.length/\FHead x1/\FOutsTo x1 x0.i
abbrev zCB7_14:LOut:=LOut.mk false [] []
abbrev zCB7_17:LRes->Prop:=fun x0=>FMay x0=false/\True
abbrev zCB7_18:Bool->Prop:=fun x0=>x0=true->x0=true
abbrev zCB7_19:XI->Nat:=fun x0=>Int.toNat (↑x0.i:Int)
abbrev zCB7_20:LRes->Int:=fun x0=>(↑x0.outs.length:Int)
abbrev zCB7_2:Bool->Prop->Prop:=fun x0 p=>(x0=true->zCB7_18 x0)/\(x0=true->zCB7_18 x0)/\p
abbrev zCB7_3:LRes->XIK->LOut:=fun x0 x1=>x0.outs.getD x1.i zCB7_14
abbrev zCB7_10:Bool->Bool->Prop:=fun x0 x1=>(x0&&zCB7_1 x1)=true
abbrev zCB7_22:Prop->Prop:=fun p=>true=true/\zCB7_5/\p
abbrev zCB7_23:LRes->XI->LOut:=fun x0 x1=>x0.outs.getD (zCB7_19 x1) zCB7_14
abbrev zCB7_24:LRes->Nat->LOut:=fun x0 x1=>x0.outs.getD x1 zCB7_14
abbrev zCB7_25:Bool->Prop:=fun x0=>zCB7_1 x0=true
abbrev zCB7_6:LRes->Prop:=fun x0=>∀(q:Bool),q=decide ((0:Int)<=x0.place)->zCB7_2 q ((true=true->zCB7_18 q)/\∀(q_1:Bool),(q_1=bif q then decide (x0.place<(16:Int)) else false)->zCB7_2 q_1 ((q_1=true->zCB7_18 q_1)/\(true=true->zCB7_18 q_1)/\(FMay x0=bif q_1 then decide (zCB7_20 x0=(0:Int)) else false)/\True))
abbrev zCB7_9:Bool->Prop:=fun x0=>zCB7_25 x0->zCB7_25 x0->zCB7_25 x0
abbrev zCB7_11:XIK->LRes->Prop->Prop:=fun x0 x1 p=>x0.i<x1.outs.length/\FHead x1/\FOutsTo x1 x0.i/\(zCB7_3 x1 x0).value.length<=256/\p
abbrev zCB7_15:Bool->Prop:=fun x0=>true=true->x0=false->zCB7_25 x0
abbrev zCB7_16:Bool->Bool->Prop:=fun x0 x1=>zCB7_10 x0 x1->zCB7_10 x0 x1->zCB7_10 x0 x1
abbrev zCB7_21:LRes->XIK->Nat:=fun x0 x1=>(zCB7_3 x0 x1).rows.length
abbrev zCB7_26:LRes->XIK->Nat->LRow:=fun x0 x1 x2=>(zCB7_3 x0 x1).rows.getD x2 (LRow.mk [] [])
abbrev zCB7_27:LRes->Nat->Nat->LRow:=fun x0 x1 x2=>(zCB7_24 x0 x1).rows.getD x2 (LRow.mk [] [])
abbrev zCB7_29:LRes->XIK->LRow:=fun x0 x1=>(zCB7_3 x0 x1).rows.getD (Int.toNat (↑x1.k:Int)) (LRow.mk [] [])
abbrev zCB7_0:LRes->Prop->Prop:=fun x0 p=>zCB7_5/\x0.outs.length=x0.outs.length/\(∀(i:Nat),i<x0.outs.length->(zCB7_24 x0 i).has=(zCB7_24 x0 i).has/\zCB7_22 ((zCB7_24 x0 i).value=(zCB7_24 x0 i).value)/\zCB7_22 ((zCB7_24 x0 i).rows.length=(zCB7_24 x0 i).rows.length/\2=2/\∀(i_1:Nat),i_1<(zCB7_24 x0 i).rows.length->zCB7_22 ((zCB7_27 x0 i i_1).key=(zCB7_27 x0 i i_1).key)/\zCB7_22 ((zCB7_27 x0 i i_1).value=(zCB7_27 x0 i i_1).value)/\True)/\True)/\zCB7_20 x0=zCB7_20 x0/\p
abbrev zCB7_4:Bool->Prop->Prop:=fun x0 p=>zCB7_9 x0/\zCB7_9 x0/\p
abbrev zCB7_7:Bool->Bool->Prop->Prop:=fun x0 x1 p=>zCB7_16 x0 x1/\zCB7_16 x0 x1/\p
abbrev zCB7_8:LRes->XIK->XI->Prop->Prop:=fun x0 x1 x2 p=>zCB7_5/\zCB7_21 x0 x1=(zCB7_23 x0 x2).rows.length/\(∀(i:Nat),i<zCB7_21 x0 x1->zCB7_22 ((zCB7_26 x0 x1 i).key=((zCB7_23 x0 x2).rows.getD i (LRow.mk [] [])).key)/\zCB7_22 ((zCB7_26 x0 x1 i).value=((zCB7_23 x0 x2).rows.getD i (LRow.mk [] [])).value)/\True)/\p
abbrev zCB7_13:LRes->XIK->XIK->Prop->Prop:=fun x0 x1 x2 p=>zCB7_5/\zCB7_21 x0 x1=zCB7_21 x0 x2/\(∀(i:Nat),i<zCB7_21 x0 x1->zCB7_22 ((zCB7_26 x0 x1 i).key=(zCB7_26 x0 x2 i).key)/\zCB7_22 ((zCB7_26 x0 x1 i).value=(zCB7_26 x0 x2 i).value)/\True)/\p
abbrev zCB7_28:XIK->LRes->Nat->Prop:=fun x0 x1 x2=>zCB7_11 x0 x1 (x0.k<=zCB7_21 x1 x0/\FRowsTo (zCB7_3 x1 x0).rows x0.k)/\x2=x0.i
def nf_mayResult:Prop:=
 ∀(x:LRes),FSm x->Eng.ask (decide (x.abort=(0:Int))) (∀(q:Bool),q= !decide (x.place=(0:Int))->zCB7_4 q (zCB7_9 q/\zCB7_15 q/\∀(q_1:Bool),(q_1=bif q then true else decide (zCB7_20 x<(1:Int)))->zCB7_4 q_1 (zCB7_9 q_1/\zCB7_15 q_1/\Eng.ask (bif q_1 then true else decide ((16:Int)<zCB7_20 x)) (zCB7_17 x) ((∃(x_1:XI),zCB7_12 x_1 x/\zCB7_0 x ((↑x_1.i:Int)=(0:Int)/\True))/\True/\∀(x_1:XI),zCB7_12 x_1 x->Eng.ask (decide ((↑x_1.i:Int)<zCB7_20 x)) ((0:Int)<=(↑x_1.i:Int)/\zCB7_19 x_1<x.outs.length/\∃(x_2:List UInt8),x_2.length<1099511627776/\zCB7_5/\x_2=(zCB7_23 x x_1).value/\True/\∀(q:Bool),q= !FValue x_2->zCB7_4 q (zCB7_9 q/\zCB7_15 q/\Eng.ask (bif q then true else decide ((64:Int)<(↑(zCB7_23 x x_1).rows.length:Int))) (zCB7_17 x) (∃(r:Nat),(∃(x_3:XIK),zCB7_28 x_3 x r/\zCB7_0 x (Eq (α:=Int) (↑x_3.i:Int) (↑x_1.i:Int)/\0=0/\0=0/\0=0/\zCB7_8 x x_3 x_1 (Eq (α:=Int) (↑(zCB7_21 x x_3):Int) (↑(zCB7_23 x x_1).rows.length:Int)/\(↑x_3.k:Int)=(0:Int)/\(zCB7_3 x x_3).has=(zCB7_23 x x_1).has/\zCB7_5/\(zCB7_3 x x_3).value=(zCB7_23 x x_1).value/\zCB7_8 x x_3 x_1 True)))/\True/\∀(x_3:XIK),zCB7_28 x_3 x r->Eng.ask (decide (LT.lt (α:=Int) (↑x_3.k:Int) (↑(zCB7_21 x x_3):Int))) ((0:Int)<=(↑x_3.k:Int)/\Int.toNat (↑x_3.k:Int)<zCB7_21 x x_3/\∃(x_4:List UInt8),x_4.length<1099511627776/\zCB7_5/\x_4=(zCB7_29 x x_3).key/\True/\∀(q:Bool),q= !FKey x_4->zCB7_9 q/\∃(x_5:List UInt8),(zCB7_25 q->(true=true->zCB7_25 q)/\x_5.length<1099511627776/\True/\zCB7_5/\x_5=(zCB7_29 x x_3).value/\True)/\zCB7_9 q/\zCB7_15 q/\∀(q_2:Bool),(q_2=bif q then true else !FValue x_5)->zCB7_4 q_2 (∀(q:Bool),q=decide ((0:Int)<(↑x_3.k:Int))->zCB7_7 q q_2 (zCB7_7 q q_2 ((zCB7_10 q q_2->(0:Int)<=IntKind.i64.wrap ((↑x_3.k:Int)- (1:Int)))/\(zCB7_10 q q_2->(IntKind.i64.wrap ((↑x_3.k:Int)- (1:Int))).toNat<zCB7_21 x x_3)/\zCB7_7 q q_2 (zCB7_16 q q_2/\∃(x_6:XAB),(zCB7_10 q q_2->(true=true->zCB7_10 q q_2)/\(true=true->zCB7_10 q q_2)/\(x_6.a.length<1099511627776/\x_6.b.length<1099511627776)/\True/\zCB7_5/\x_6.a=((zCB7_3 x x_3).rows.getD (IntKind.i64.wrap ((↑x_3.k:Int)- (1:Int))).toNat (LRow.mk [] [])).key/\zCB7_5/\x_6.b=(zCB7_29 x x_3).key/\True)/\zCB7_16 q q_2/\zCB7_9 q_2/\(zCB7_25 q_2->zCB7_25 q_2->q=true->zCB7_10 q q_2)/\zCB7_15 q_2/\Eng.ask (bif q_2 then true else bif q then decide ((0:Int)<=FCmp x_6.a x_6.b) else false) (zCB7_17 x) (True/\True/\True/\∃(x':XIK),zCB7_28 x' x r/\zCB7_21 x x'-x'.k<zCB7_21 x x_3-x_3.k/\zCB7_0 x (Eq (α:=Int) (↑x'.i:Int) (↑x_3.i:Int)/\0=0/\0=0/\0=0/\zCB7_13 x x' x_3 (Eq (α:=Int) (↑(zCB7_21 x x'):Int) (↑(zCB7_21 x x_3):Int)/\(↑x'.k:Int)=IntKind.i64.wrap ((↑x_3.k:Int)+(1:Int))/\(zCB7_3 x x').has=(zCB7_3 x x_3).has/\zCB7_5/\(zCB7_3 x x').value=(zCB7_3 x x_3).value/\zCB7_13 x x' x_3 True)))))))) (True/\True/\True/\∃(x':XI),zCB7_12 x' x/\x.outs.length-x'.i<x.outs.length-x_1.i/\zCB7_0 x ((↑x'.i:Int)=IntKind.i64.wrap ((↑x_3.i:Int)+(1:Int))/\True))))) (FMay x=true/\True))))) (Eng.ask (decide (x.abort=(1:Int))) (Eng.ask (decide (x.abort=(1:Int))) (zCB7_6 x) (zCB7_17 x)) (Eng.ask (decide (x.abort=(2:Int))) (Eng.ask (decide (x.abort=(2:Int))) (zCB7_6 x) (zCB7_17 x)) (Eng.ask (decide (x.abort=(3:Int))) (zCB7_6 x) (zCB7_17 x))))
theorem eq_mayResult:vc_mayResult=nf_mayResult:=by kernel_rfl
theorem pf_mayResult:nf_mayResult:=by
 delta nf_mayResult zCB7_1 zCB7_5 zCB7_12 zCB7_14 zCB7_17 zCB7_18 zCB7_19 zCB7_20 zCB7_2 zCB7_3 zCB7_10 zCB7_22 zCB7_23 zCB7_24 zCB7_25 zCB7_6 zCB7_9 zCB7_11 zCB7_15 zCB7_16 zCB7_21 zCB7_26 zCB7_27 zCB7_29 zCB7_0 zCB7_4 zCB7_7 zCB7_8 zCB7_13 zCB7_28
 intro x0
 intro h1
 refine ask_p bp_dec ?_ ?_
 ·intro h2
  intro q3 hq3;subst hq3
  refine ⟨by (simp;done),by (simp;done),by (simp;done),by (simp;done),?_⟩
  intro q4 hq4;subst hq4
  refine ⟨by (simp;done),by (simp;done),by (simp;done),by (simp;done),?_⟩
  refine ask_p (bp_or (bp_or (bp_not bp_dec) bp_dec) bp_dec) ?_ ?_
  ·intro h5
   refine ⟨by exact may_head (by omega) ‹_›,?_⟩
   trivial
  intro h5
  refine ⟨?_,?_⟩
  ·refine ⟨⟨(((0:Int):Int)).toNat⟩,?_⟩
   try dsimp only
   refine ⟨?_,?_⟩
   ·refine ⟨by (have:=h1.1;omega),by exact FHead_of (by omega) ‹_›,?_⟩
    exact fun i hi=>absurd hi (by simp)
   refine ⟨by (simp;done),by rfl,by (simp;done),by rfl,by decide,?_⟩
   trivial
  refine ⟨by trivial,?_⟩
  intro x6
  intro ⟨h7,⟨h8,h9⟩⟩
  refine ask_p bp_dec ?_ ?_
  ·intro h10
   refine ⟨by (have:=h1.1;omega),by (have:=h1.1;omega),?_⟩
   refine ⟨((x0.outs.getD (Int.toNat (↑x6.i:Int)) (LOut.mk false [] [])).value),?_⟩
   try dsimp only
   refine ⟨by exact Nat.lt_trans (h1.2 x6.i (by omega)).2.1 (by omega),by (simp;done),by rfl,by trivial,?_⟩
   intro q11 hq11;subst hq11
   refine ⟨by (simp;done),by (simp;done),by (simp;done),by (simp;done),?_⟩
   refine ask_p (bp_or (bp_not bp_id) bp_dec) ?_ ?_
   ·intro h12
    refine ⟨by exact may_val ‹_› ‹_› ‹_›,?_⟩
    trivial
   intro h12
   refine ⟨x6.i,?_⟩
   try dsimp only
   refine ⟨?_,?_⟩
   ·refine ⟨⟨(x6.i),(((0:Int):Int)).toNat⟩,?_⟩
    try dsimp only
    refine ⟨?_,?_⟩
    ·refine ⟨?_,?_⟩
     ·refine ⟨by (have:=h1.1;omega),by (have:=h1.1;omega),by (have:=h1.1;omega),by (simp only [FValue,not_or,Classical.not_not,decide_eq_true_eq,Int.toNat_natCast] at*;omega),by (have:=h1.1;omega),?_⟩
      (simp only [FValue,not_or,Classical.not_not,decide_eq_true_eq,Int.toNat_natCast] at*;exact ⟨by omega,fun k hk=>absurd hk (by omega)⟩)
     rfl
    refine ⟨by (simp;done),by rfl,by (simp;done),by rfl,by rfl,by rfl,by rfl,by rfl,by (simp;done),by rfl,by (simp;done),by rfl,?_⟩
    refine ⟨by decide,by rfl,by (simp;done),by rfl,by (simp;done),by rfl,by (simp;done),?_⟩
    trivial
   refine ⟨by trivial,?_⟩
   intro x13
   intro ⟨⟨h14,⟨h15,⟨h16,⟨h17,⟨h18,h19⟩⟩⟩⟩⟩,h20⟩
   refine ask_p bp_dec ?_ ?_
   ·intro h21
    refine ⟨by (have:=h1.1;omega),by (have:=h1.1;omega),?_⟩
    refine ⟨(((x0.outs.getD x13.i (LOut.mk false [] [])).rows.getD (Int.toNat (↑x13.k:Int)) (LRow.mk [] [])).key),?_⟩
    try dsimp only
    refine ⟨by exact Nat.lt_trans ((h1.2 x13.i (by omega)).2.2 x13.k (by omega)).1 (by omega),by (simp;done),by rfl,by trivial,?_⟩
    intro q22 hq22;subst hq22
    refine ⟨by (simp;done),?_⟩
    refine ⟨(((x0.outs.getD x13.i (LOut.mk false [] [])).rows.getD (Int.toNat (↑x13.k:Int)) (LRow.mk [] [])).value),?_⟩
    try dsimp only
    refine ⟨?_,?_⟩
    ·intro h23
     refine ⟨?_,?_⟩
     ·intro h24
      (have:=h1.1;omega)
     refine ⟨by exact Nat.lt_trans ((h1.2 x13.i (by omega)).2.2 x13.k (by omega)).2 (by omega),by trivial,by (simp;done),by rfl,?_⟩
     trivial
    refine ⟨by (simp;done),by (simp;done),?_⟩
    intro q23 hq23;subst hq23
    refine ⟨by (simp;done),by (simp;done),?_⟩
    intro q24 hq24;subst hq24
    refine ⟨?_,?_⟩
    ·intro h25
     intro h26
     (have:=h1.1;omega)
    refine ⟨?_,?_⟩
    ·intro h25
     intro h26
     (have:=h1.1;omega)
    refine ⟨?_,?_⟩
    ·intro h25
     intro h26
     (have:=h1.1;omega)
    refine ⟨?_,?_⟩
    ·intro h25
     intro h26
     (have:=h1.1;omega)
    refine ⟨?_,?_⟩
    ·intro h25
     (simp only [Bool.and_eq_true,decide_eq_true_eq] at*;have:=(h1.2 x13.i (by omega)).1;rw [wrap_pred (by omega) (by omega)];omega)
    refine ⟨?_,?_⟩
    ·intro h25
     (simp only [Bool.and_eq_true,decide_eq_true_eq] at*;have:=(h1.2 x13.i (by omega)).1;rw [wrap_pred (by omega) (by omega)];omega)
    refine ⟨?_,?_⟩
    ·intro h25
     intro h26
     (have:=h1.1;omega)
    refine ⟨?_,?_⟩
    ·intro h25
     intro h26
     (have:=h1.1;omega)
    refine ⟨?_,?_⟩
    ·intro h25
     intro h26
     (have:=h1.1;omega)
    refine ⟨⟨(((x0.outs.getD x13.i (LOut.mk false [] [])).rows.getD (IntKind.i64.wrap ((↑x13.k:Int)- (1:Int))).toNat (LRow.mk [] [])).key),(((x0.outs.getD x13.i (LOut.mk false [] [])).rows.getD (Int.toNat (↑x13.k:Int)) (LRow.mk [] [])).key)⟩,?_⟩
    try dsimp only
    refine ⟨?_,?_⟩
    ·intro h25
     refine ⟨?_,?_⟩
     ·intro h26
      (have:=h1.1;omega)
     refine ⟨?_,?_⟩
     ·intro h26
      (have:=h1.1;omega)
     refine ⟨?_,?_⟩
     ·refine ⟨by (simp only [Bool.and_eq_true,decide_eq_true_eq] at*;have:=(h1.2 x13.i (by omega)).1;rw [wrap_pred (by omega) (by omega)];exact Nat.lt_trans ((h1.2 x13.i (by omega)).2.2 _ (by omega)).1 (by omega)),?_⟩
      exact Nat.lt_trans ((h1.2 x13.i (by omega)).2.2 x13.k (by omega)).1 (by omega)
     refine ⟨by trivial,by (simp;done),by rfl,by (simp;done),by rfl,?_⟩
     trivial
    refine ⟨?_,?_⟩
    ·intro h25
     intro h26
     (have:=h1.1;omega)
    refine ⟨by (simp;done),?_⟩
    refine ⟨?_,?_⟩
    ·intro h25
     intro h26
     intro h27
     grind
    refine ⟨by (simp;done),?_⟩
    refine ask_p (bp_or (bp_or (bp_not bp_id) (bp_not bp_id)) (bp_and bp_dec bp_dec)) ?_ ?_
    ·intro h25
     refine ⟨by exact may_row ‹FHead x0› (by omega) ‹_› (by have:=(h1.2 x13.i (by omega)).1;omega) ‹_›,?_⟩
     trivial
    intro h25
    refine ⟨by trivial,by trivial,by trivial,?_⟩
    refine ⟨⟨(x13.i),((IntKind.i64.wrap ((↑x13.k:Int)+(1:Int)):Int)).toNat⟩,?_⟩
    try dsimp only
    refine ⟨?_,?_⟩
    ·refine ⟨?_,?_⟩
     ·refine ⟨by (have:=h1.1;omega),by (have:=h1.1;omega),by (have:=h1.1;omega),by (have:=h1.1;omega),by (have:=(h1.2 x13.i (by omega)).1;rw [wrap_succ _ (by omega)];omega),?_⟩
      exact rows_go ‹_› (by have:=(h1.2 x13.i (by omega)).1;omega) ‹_›
     (have:=h1.1;omega)
    refine ⟨by (have:=(h1.2 x13.i (by omega)).1;rw [wrap_succ _ (by omega)];omega),by (simp;done),by rfl,by (simp;done),by rfl,by rfl,by rfl,by rfl,by rfl,by (simp;done),by rfl,by (simp;done),?_⟩
    refine ⟨by rfl,by (have:=(h1.2 x13.i (by omega)).1;rw [wrap_succ _ (by omega)];omega),by rfl,by (simp;done),by rfl,by (simp;done),by rfl,by (simp;done),?_⟩
    trivial
   intro h21
   refine ⟨by trivial,by trivial,by trivial,?_⟩
   refine ⟨⟨((IntKind.i64.wrap ((↑x13.i:Int)+(1:Int)):Int)).toNat⟩,?_⟩
   try dsimp only
   refine ⟨?_,?_⟩
   ·refine ⟨by (have:=(h1.2 x13.i (by omega)).1;rw [wrap_succ _ (by omega)];omega),by (have:=h1.1;omega),?_⟩
    (have:=h1.1;rw [wrap_succ _ (by omega),Int.toNat_natCast];exact outs_step ‹_› ‹_› ‹_› ‹_›)
   refine ⟨by (have:=(h1.2 x13.i (by omega)).1;rw [wrap_succ _ (by omega)];omega),by (simp;done),by rfl,by (simp;done),by rfl,by (have:=(h1.2 x13.i (by omega)).1;rw [wrap_succ _ (by omega)];omega),?_⟩
   trivial
  intro h10
  refine ⟨by exact may_all ‹_› ‹_› ‹_›,?_⟩
  trivial
 intro h2
 refine ask_p bp_dec ?_ ?_
 ·intro h3
  refine ask_p bp_dec ?_ ?_
  ·intro h4
   intro q5 hq5;subst hq5
   refine ⟨by (simp;done),by (simp;done),by (simp;done),?_⟩
   intro q6 hq6;subst hq6
   refine ⟨by (simp;done),by (simp;done),by (simp;done),by (simp;done),by exact may_abort (by omega),?_⟩
   trivial
  intro h4
  exfalso;omega
 intro h3
 refine ask_p bp_dec ?_ ?_
 ·intro h4
  refine ask_p bp_dec ?_ ?_
  ·intro h5
   intro q6 hq6;subst hq6
   refine ⟨by (simp;done),by (simp;done),by (simp;done),?_⟩
   intro q7 hq7;subst hq7
   refine ⟨by (simp;done),by (simp;done),by (simp;done),by (simp;done),by exact may_abort (by omega),?_⟩
   trivial
  intro h5
  exfalso;omega
 intro h4
 refine ask_p bp_dec ?_ ?_
 ·intro h5
  intro q6 hq6;subst hq6
  refine ⟨by (simp;done),by (simp;done),by (simp;done),?_⟩
  intro q7 hq7;subst hq7
  refine ⟨by (simp;done),by (simp;done),by (simp;done),by (simp;done),by exact may_abort (by omega),?_⟩
  trivial
 intro h5
 refine ⟨by exact may_none ‹_› ‹_› ‹_› ‹_›,?_⟩
 trivial
abbrev zCB8_0:LRes->Nat->LOut:=fun x0 x1=>x0.outs.getD x1 (LOut.mk false [] [])
abbrev zCB8_2:Nat->List UInt8:=fun x0=>FNum x0++List.replicate (10- (FNum x0).length) (0:UInt8)
abbrev zCB8_3:LRes->List (List UInt8)->Prop:=fun x0 x1=>(1≠0/\True)/\Eng.ask (FMay x0) ((true=true->true=true)/\FRes x0=FJoin x1/\(0:Int)=(0:Int)/\True) False
abbrev zCB8_5:List LOut->Nat->LOut:=fun x0 x1=>x0.getD x1 (LOut.mk false [] [])
abbrev zCB8_8:Prop:=false=true
abbrev zCB8_1:Prop->Prop:=fun p=>true=true/\(zCB8_8->zCB8_8)/\p
abbrev zCB8_4:List (List UInt8)->Nat->Prop->Prop:=fun x0 x1 p=>((FJoin x0).length<1099511627000/\x0.length<1048577)/\(zCB8_8->zCB8_8->2≠0\/2≠0)/\x0.length=2/\(zCB8_8->zCB8_8)/\x0.getD 0 []=cutL (zCB8_2 x1) 0 (FNum x1).length/\p
abbrev zCB8_6:LRes->Nat->Nat->LRow:=fun x0 x1 x2=>(zCB8_0 x0 x1).rows.getD x2 (LRow.mk [] [])
abbrev zCB8_7:Nat->Prop:=fun x0=>0+(FNum x0).length<=(zCB8_2 x0).length
def nf_Result:Prop:=
 ∀(x:LRes),FSm x->∃(x_1:LRes),FSm x_1/\x_1.abort=x.abort/\x_1.place=x.place/\(zCB8_8->zCB8_8)/\x_1.outs.length=x.outs.length/\(∀(i:Nat),i<x_1.outs.length->(zCB8_0 x_1 i).has=(zCB8_0 x i).has/\zCB8_1 ((zCB8_0 x_1 i).value=(zCB8_0 x i).value)/\zCB8_1 ((zCB8_0 x_1 i).rows.length=(zCB8_0 x i).rows.length/\2=2/\∀(i_1:Nat),i_1<(zCB8_0 x_1 i).rows.length->zCB8_1 ((zCB8_6 x_1 i i_1).key=(zCB8_6 x i i_1).key)/\zCB8_1 ((zCB8_6 x_1 i i_1).value=(zCB8_6 x i i_1).value)/\True)/\True)/\True/\Eng.ask (!FMay x_1) (Eng.ask (FMay x) (true=false/\FRes x=[]/\(0:Int)=(2:Int)/\True) ((2:Int)=(2:Int)/\True)) (Eng.ask (!decide (x.abort=(0:Int))) (∃(x_2:Nat),x_2<18446744073709551616/\(↑x_2:Int)=IntKind.u64.wrap x.abort/\True/\∃(x_3:Nat),x_3<18446744073709551616/\(↑x_3:Int)=IntKind.u64.wrap x.place/\True/\zCB8_7 x_2/\zCB8_7 x_3/\∃(x_4:List (List UInt8)),zCB8_4 x_4 x_2 ((zCB8_8->zCB8_8)/\x_4.getD 1 []=cutL (zCB8_2 x_3) 0 (FNum x_3).length/\zCB8_3 x x_4)) (∃(x_2:List LOut),((FOuts x_2).length<1099511625000/\x_2.length<1048577/\∀(i:Nat),i<x_2.length->(zCB8_5 x_2 i).rows.length<1048577)/\(zCB8_8->zCB8_8)/\x_2.length=x.outs.length/\(∀(i:Nat),i<x_2.length->(zCB8_5 x_2 i).has=(zCB8_0 x i).has/\zCB8_1 ((zCB8_5 x_2 i).value=(zCB8_0 x i).value)/\zCB8_1 ((zCB8_5 x_2 i).rows.length=(zCB8_0 x i).rows.length/\2=2/\∀(i_1:Nat),i_1<(zCB8_5 x_2 i).rows.length->zCB8_1 (((zCB8_5 x_2 i).rows.getD i_1 (LRow.mk [] [])).key=(zCB8_6 x i i_1).key)/\zCB8_1 (((zCB8_5 x_2 i).rows.getD i_1 (LRow.mk [] [])).value=(zCB8_6 x i i_1).value)/\True)/\True)/\True/\∃(x_3:Nat),x_3<18446744073709551616/\(↑x_3:Int)=(0:Int)/\True/\zCB8_7 x_3/\∃(x_4:List (List UInt8)),zCB8_4 x_4 x_3 ((zCB8_8->true=true)/\x_4.getD 1 []=FOuts x_2/\zCB8_3 x x_4)))
theorem eq_Result:vc_Result=nf_Result:=by kernel_rfl
theorem pf_Result:nf_Result:=by
 delta nf_Result zCB8_0 zCB8_2 zCB8_3 zCB8_5 zCB8_8 zCB8_1 zCB8_4 zCB8_6 zCB8_7
 intro x0
 intro h1
 refine ⟨x0,?_⟩
 try dsimp only
 refine ⟨by exact h1,by rfl,by rfl,by (simp;done),by rfl,by (simp;done),by trivial,?_⟩
 refine ask_p (bp_not bp_id) ?_ ?_
 ·intro h2
  refine ask_p bp_id ?_ ?_
  ·intro h3
   refine ⟨by grind,by grind,by grind,?_⟩
   trivial
  intro h3
  refine ⟨by rfl,?_⟩
  trivial
 intro h2
 refine ask_p (bp_not bp_dec) ?_ ?_
 ·intro h3
  refine ⟨((IntKind.u64.wrap x0.abort:Int)).toNat,?_⟩
  try dsimp only
  refine ⟨by (try simp only [wrap_i64,wrap_u64,wrap_u32,wrap_u8] at*)<;>omega,by (try simp only [wrap_i64,wrap_u64,wrap_u32,wrap_u8] at*)<;>omega,by trivial,?_⟩
  refine ⟨((IntKind.u64.wrap x0.place:Int)).toNat,?_⟩
  try dsimp only
  refine ⟨by (try simp only [wrap_i64,wrap_u64,wrap_u32,wrap_u8] at*)<;>omega,by (try simp only [wrap_i64,wrap_u64,wrap_u32,wrap_u8] at*)<;>omega,by trivial,by grind,by grind,?_⟩
  refine ⟨FPcs x0,?_⟩
  try dsimp only
  refine ⟨?_,?_⟩
  ·refine ⟨by exact pc_lt (outs_short (Classical.not_not.1 h2)),?_⟩
   (rw [pc_len];omega)
  refine ⟨by (simp;done),by exact pc_len _,by (simp;done),by exact pc0 ‹_› ‹_›,by (simp;done),by exact pc1 ‹_› ‹_›,by (simp;done),?_⟩
  refine ask_p bp_id ?_ ?_
  ·intro h4
   refine ⟨by (simp;done),by exact pc_join _,by rfl,?_⟩
   trivial
  intro h4
  grind
 intro h3
 refine ⟨x0.outs,?_⟩
 try dsimp only
 refine ⟨?_,?_⟩
 ·refine ⟨by exact Nat.lt_trans (outs_short (Classical.not_not.1 h2)) (by omega),by exact h1.1,?_⟩
  intro i4
  intro h5
  exact (h1.2 _ ‹_›).1
 refine ⟨by (simp;done),by rfl,by (simp;done),by trivial,?_⟩
 refine ⟨(((0:Int):Int)).toNat,?_⟩
 try dsimp only
 refine ⟨by decide,by decide,by trivial,by grind,?_⟩
 refine ⟨FPcs x0,?_⟩
 try dsimp only
 refine ⟨?_,?_⟩
 ·refine ⟨by exact pc_lt (outs_short (Classical.not_not.1 h2)),?_⟩
  (rw [pc_len];omega)
 refine ⟨by (simp;done),by exact pc_len _,by (simp;done),by exact pc0' ‹_›,by (simp;done),by exact pc1' ‹_›,by (simp;done),?_⟩
 refine ask_p bp_id ?_ ?_
 ·intro h4
  refine ⟨by (simp;done),by exact pc_join _,by rfl,?_⟩
  trivial
 intro h4
 grind
end Go.Proofs
