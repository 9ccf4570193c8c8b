import Derived.Test.YtoajkmdddjnebaaGreatDoorCallsOneCK
set_option linter.unusedSimpArgs false
set_option linter.unusedVariables false
namespace Go.Proofs
open Go.Eng
noncomputable def sp_wire_Bytes:FSpec where
 X:=List UInt8
 pre x:=x.length<1099511627000
 args x:=[.bytes 0 false x]
 base:=[]
 own _:=[]
 out x:= .ret (.bytes 1 true (FBytes x)) []
noncomputable def Sp_NumberO:List (Nat×FSpec):=[(Id.wire_Number,sp_wire_NumberO)]
def vc_wire_Bytes:Prop:=FnVC Tryz.cy Sp_NumberO Id.wire_Bytes sp_wire_Bytes (fun _ _=>none) 10
noncomputable def sp_Flag:FSpec where
 X:=Bool
 pre x:=True
 args x:=[.bool x]
 base:=[]
 own _:=[]
 out x:= .ret (.bytes 1 true (FFlag x)) []
def vc_wire_Flag:Prop:=FnVC Tryz.cy [] Id.wire_Flag sp_Flag (fun _ _=>none) 10
structure XBuf where
 i:Nat
 buf:List UInt8
 op:Bool
def FJoin:List (List UInt8)->List UInt8
 | []=>[]
 | x::r=>x++FJoin r
theorem FJoin_append:∀(x y:List (List UInt8)),FJoin (x++y)=FJoin x++FJoin y
 | [],y=>rfl
 | a::x,y=>by simp only [List.cons_append,FJoin,FJoin_append x y,List.append_assoc]
theorem FJoin_take {x:List (List UInt8)} {i:Nat} (h:i<x.length):FJoin (x.take (i+1))=FJoin (x.take i)++x.getD i []:=by
 rw [List.take_add_one,FJoin_append]
 simp [List.getD,h,FJoin]
theorem FJoin_le {x:List (List UInt8)} (i:Nat):(FJoin (x.take i)).length<=(FJoin x).length:=by
 have:FJoin x=FJoin (x.take i)++FJoin (x.drop i):=by rw [<-FJoin_append,List.take_append_drop]
 rw [this,List.length_append]
 omega
noncomputable def sp_wire_Join:FSpec where
 X:=List (List UInt8)
 pre x:=(FJoin x).length<1099511627000/\x.length<1048577
 args x:=[.imm 0 false x.length 1 fun i=>[.bytes 0 false (x.getD i [])]]
 base:=[]
 own _:=[]
 out x:= .ret (.bytes 1 true (FJoin x)) []
noncomputable def an_wire_Join (x:List (List UInt8)):Nat->Option Cut
 | 0=>some {X:=XBuf,pre:=fun y=>y.i<=x.length/\y.buf=FJoin (x.take y.i)/\(y.op=true->y.buf.length≠0)
            tm:=fun y=>[(3,.sl 0 1 0 y.buf.length y.buf.length y.op),(7,.imm 0 false x.length 1 fun i=>[.bytes 0 false (x.getD i [])]),(8,.int .i64 x.length),(9,.int .i64 y.i)]
            own:=fun y=>[(0,.bytes y.buf Ty.uint8)]
            mu:=fun y=>x.length-y.i}
 | _=>none
def vc_wire_Join:Prop:=FnVC Tryz.cy [] Id.wire_Join sp_wire_Join an_wire_Join 10
theorem FNum_u64 {n:Nat} (h:n<1099511627776):FNum (IntKind.u64.wrap (n:Int)).toNat=FNum n:=by
 rw [wrap_u64];congr 1;omega
theorem buf_app1 {A x R D:List UInt8}:cutL (List.take (0+A.length) (A++R)++(x++D)) 0 (A.length+x.length)=A++x:=by
 rw [Nat.zero_add,List.take_left,cutL_eq,List.drop_zero,<-List.append_assoc,<-List.length_append,List.take_left]
theorem buf_app2 {A x R:List UInt8}:cutL (cutL (A++R) 0 A.length++x) 0 (A.length+x.length)=A++x:=by
 rw [cutL_eq (A++R),List.drop_zero,List.take_left,cutL_eq,List.drop_zero,<-List.length_append,List.take_length]
theorem buf_app3 {A x:List UInt8} (h:A.length+x.length<=A.length):List.take (0+A.length) A++(x++List.drop (0+A.length+x.length) A)=A++x:=by
 obtain rfl:x=[]:=List.length_eq_zero_iff.1 (by omega)
 simp
theorem cutL_all (l:List UInt8):cutL l 0 l.length=l:=by simp [cutL]
noncomputable def Sp_NumR:List (Nat×FSpec):=[(Id.wicketref01_Number,sp_ref01_Number)]
def vc_rf01Bytes:Prop:=FnVC Tryz.cy Sp_NumR Id.wicketref01_Bytes sp_wire_Bytes (fun _ _=>none) 10
def vc_rf01Flag:Prop:=FnVC Tryz.cy [] Id.wicketref01_Flag sp_Flag (fun _ _=>none) 10
theorem FCat_take {α:Type} {e:α->List UInt8} {x:List α} {d:α} {i:Nat} (h:i<x.length):FCat e (x.take (i+1))=FCat e (x.take i)++e (x.getD i d):=by
 rw [List.take_add_one,FCat_append]
 simp [List.getD,h,FCat]
theorem FCat_le {α:Type} {e:α->List UInt8} (x:List α) (i:Nat):(FCat e (x.take i)).length<=(FCat e x).length:=by
 have:FCat e x=FCat e (x.take i)++FCat e (x.drop i):=by rw [<-FCat_append,List.take_append_drop]
 rw [this,List.length_append]
 omega
theorem FCat_part {α:Type} {e:α->List UInt8} {x:List α} {d:α} {i:Nat} (h:i<x.length):(FCat e (x.take i)).length+(e (x.getD i d)).length<=(FCat e x).length:=by
 have:=FCat_le (e:=e) x (i+1)
 rw [FCat_take (d:=d) h,List.length_append] at this
 exact this
noncomputable def Sp_row:List (Nat×FSpec):=[(Id.wire_Bytes,sp_wire_Bytes),(Id.wire_Join,sp_wire_Join),(Id.wire_Flag,sp_Flag)]
def FHold (w:List UInt8) (k c:Nat) (op:Bool) (buf:List UInt8):Prop:=w=buf.take k/\buf.length=c/\k<=c/\0<k/\(op=true->c=k)
section
variable {w w' x buf:List UInt8} {k c:Nat} {op:Bool}
theorem hold_num {n:Nat} (h:n<1099511627776) (e:w'=FNum n):FHold w' (FNum (IntKind.u64.wrap (n:Int)).toNat).length 10 false (FNum (IntKind.u64.wrap (n:Int)).toNat++List.replicate (10- (FNum (IntKind.u64.wrap (n:Int)).toNat).length) 0):=by
 rw [FNum_u64 h]
 have h1:=FNum_len n;have h2:=FNum_pos n
 refine ⟨by rw [e,List.take_left],by simp;omega,h1,h2,fun h=>by cases h⟩
theorem hold_len (h:FHold w k c op buf):w.length=k:=by
 obtain ⟨h1,h2,h3,_⟩:=h
 rw [h1,List.length_take];omega
theorem hold_new (h:FHold w k c op buf) (e:w'=w++x):FHold w' (k+x.length) (k+x.length) true (cutL buf 0 k++x):=by
 have hl:=hold_len h
 obtain ⟨h1,h2,h3,h4,h5⟩:=h
 have e2:cutL buf 0 k=w:=by rw [h1];simp [cutL]
 rw [e2,e,<-hl,<-List.length_append]
 exact ⟨by rw [List.take_length],rfl,Nat.le_refl _,by rw [List.length_append];omega,fun _=>rfl⟩
theorem hold_in (h:FHold w k c op buf) (hc:k+x.length<=c) (e:w'=w++x):FHold w' (k+x.length) c false (List.take (0+k) buf++(x++List.drop (0+k+x.length) buf)):=by
 have hl:=hold_len h
 obtain ⟨h1,h2,h3,h4,h5⟩:=h
 refine ⟨?_,by simp;omega,hc,by omega,fun h=>by cases h⟩
 rw [Nat.zero_add,<-h1,e,<-List.append_assoc,<-hl,<-List.length_append,List.take_left]
theorem hold_end (h:FHold w k c op buf) (e:w'=w):w'=cutL buf 0 k:=by
 rw [e,h.1];simp [cutL]
theorem put_step {α:Type} {e:α->List UInt8} {x:List α} {d:α} {i:Nat} {b:List UInt8} (hi:i<x.length) (hx:x.length<1048577):b++FCat e (x.take (IntKind.i64.wrap ((i:Int)+1)).toNat)=b++FCat e (x.take i)++e (x.getD i d):=by
 rw [wrap_succ _ (by omega),Int.toNat_natCast,FCat_take (d:=d) hi,List.append_assoc]
theorem part_lt {α:Type} {e:α->List UInt8} {l:List α} {d:α} {i N:Nat} {b:List UInt8} (h:FHold (b++FCat e (l.take i)) k c op buf) (hN:(b++FCat e l).length<N) (hi:i<l.length):k+(e (l.getD i d)).length<N:=by
 have:=hold_len h
 have:=FCat_part (e:=e) (d:=d) hi
 simp only [List.length_append] at*
 omega
theorem put_end {α:Type} {e:α->List UInt8} {x:List α} {i:Nat} {b:List UInt8} (hi:¬(i:Int)<(x.length:Int)):b++FCat e x=b++FCat e (x.take i):=by
 rw [List.take_of_length_le (by omega)]
end
structure XPut where
 i:Nat
 k:Nat
 c:Nat
 op:Bool
 buf:List UInt8
structure XI where
 i:Nat
structure XIK where
 i:Nat
 k:Nat
section
variable {x:LRes} {i k:Nat}
end
theorem fcat_le {α:Type} {e:α->List UInt8} {m:Nat}:∀{l:List α},(∀x∈l,(e x).length<=m)->(FCat e l).length<=m*l.length
 | [],_=>by simp [FCat]
 | x::r,h=>by
   have h1:=h x (by simp)
   have h2:=fcat_le (e:=e) (m:=m) (l:=r) (fun y hy=>h y (by simp [hy]))
   simp only [FCat,List.length_append,List.length_cons,Nat.mul_succ]
   omega
section
variable {x:LRes}
theorem cut_rep {A R:List UInt8}:cutL (A++R) 0 A.length=A:=by simp [cutL]
end
theorem k_w {k n:Nat} (hn:n<1048577) (hk:(k:Int)<(n:Int)):IntKind.i64.wrap ((k:Int)+1)=((k+1:Nat):Int):=wrap_succ _ (by omega)
theorem k_le {k n:Nat} (hn:n<1048577) (hk:(k:Int)<(n:Int)):(IntKind.i64.wrap ((k:Int)+(1:Int))).toNat<=n:=by rw [k_w hn hk,Int.toNat_natCast];omega
theorem k_mu {k n:Nat} (hn:n<1048577) (hk:(k:Int)<(n:Int)):n- (IntKind.i64.wrap ((k:Int)+(1:Int))).toNat<n-k:=by rw [k_w hn hk,Int.toNat_natCast];omega
theorem k_eq {k n:Nat} (hn:n<1048577) (hk:(k:Int)<(n:Int)):((IntKind.i64.wrap ((k:Int)+(1:Int))).toNat:Int)=IntKind.i64.wrap ((k:Int)+(1:Int)):=by rw [k_w hn hk,Int.toNat_natCast]
theorem k_P {k n:Nat} {P:Nat->Prop} (hn:n<1048577) (hk:(k:Int)<(n:Int)) (h:P (k+1)):P (IntKind.i64.wrap ((k:Int)+(1:Int))).toNat:=by rw [k_w hn hk,Int.toNat_natCast];exact h
end Go.Proofs
