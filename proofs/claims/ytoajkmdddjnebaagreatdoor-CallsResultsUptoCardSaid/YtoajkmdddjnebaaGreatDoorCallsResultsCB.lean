import Derived.Test.YtoajkmdddjnebaaGreatDoorCallsResultsCK
set_option linter.unusedSimpArgs false
set_option linter.unusedVariables false
namespace Go.Proofs
open Go.Eng
def rowC (r:Nat) (x:LRow):List SV:=[.bytes r false x.key,.bytes r false x.value]
def rowsV (r:Nat) (l:List LRow):SV:= .imm r false l.length 2 fun i=>rowC r (l.getD i (LRow.mk [] []))
def outC (r:Nat) (o:LOut):List SV:=[.bool o.has,.bytes r false o.value,rowsV r o.rows]
def outsV (r:Nat) (l:List LOut):SV:= .imm r false l.length 3 fun i=>outC r (l.getD i (LOut.mk false [] []))
def resC (r:Nat) (x:LRes):List SV:=[.int .i64 x.abort,.int .i64 x.place,outsV r x.outs]
abbrev lim:Nat:=1048577
noncomputable def sp_wire_Bytes:FSpec where
 X:=List UInt8
 pre x:=x.length<1099511627000
 args x:=[.bytes 0 false x]
 base:=[]
 own _:=[]
 out x:= .ret (.bytes 1 true (FBytes x)) []
noncomputable def Sp_NumberO:List (Nat×FSpec):=[(Id.wire_Number,sp_wire_NumberO)]
def vc_wire_Bytes:Prop:=FnVC Tryz.cy Sp_NumberO Id.wire_Bytes sp_wire_Bytes (fun _ _=>none) 10
noncomputable def sp_Flag:FSpec where
 X:=Bool
 pre x:=True
 args x:=[.bool x]
 base:=[]
 own _:=[]
 out x:= .ret (.bytes 1 true (FFlag x)) []
def vc_wire_Flag:Prop:=FnVC Tryz.cy [] Id.wire_Flag sp_Flag (fun _ _=>none) 10
structure XBuf where
 i:Nat
 buf:List UInt8
 op:Bool
def FJoin:List (List UInt8)->List UInt8
 | []=>[]
 | x::r=>x++FJoin r
theorem FJoin_append:∀(x y:List (List UInt8)),FJoin (x++y)=FJoin x++FJoin y
 | [],y=>rfl
 | a::x,y=>by simp only [List.cons_append,FJoin,FJoin_append x y,List.append_assoc]
theorem FJoin_take {x:List (List UInt8)} {i:Nat} (h:i<x.length):FJoin (x.take (i+1))=FJoin (x.take i)++x.getD i []:=by
 rw [List.take_add_one,FJoin_append]
 simp [List.getD,h,FJoin]
theorem FJoin_le {x:List (List UInt8)} (i:Nat):(FJoin (x.take i)).length<=(FJoin x).length:=by
 have:FJoin x=FJoin (x.take i)++FJoin (x.drop i):=by rw [<-FJoin_append,List.take_append_drop]
 rw [this,List.length_append]
 omega
noncomputable def sp_wire_Join:FSpec where
 X:=List (List UInt8)
 pre x:=(FJoin x).length<1099511627000/\x.length<1048577
 args x:=[.imm 0 false x.length 1 fun i=>[.bytes 0 false (x.getD i [])]]
 base:=[]
 own _:=[]
 out x:= .ret (.bytes 1 true (FJoin x)) []
noncomputable def an_wire_Join (x:List (List UInt8)):Nat->Option Cut
 | 0=>some {X:=XBuf,pre:=fun y=>y.i<=x.length/\y.buf=FJoin (x.take y.i)/\(y.op=true->y.buf.length≠0)
            tm:=fun y=>[(3,.sl 0 1 0 y.buf.length y.buf.length y.op),(7,.imm 0 false x.length 1 fun i=>[.bytes 0 false (x.getD i [])]),(8,.int .i64 x.length),(9,.int .i64 y.i)]
            own:=fun y=>[(0,.bytes y.buf Ty.uint8)]
            mu:=fun y=>x.length-y.i}
 | _=>none
def vc_wire_Join:Prop:=FnVC Tryz.cy [] Id.wire_Join sp_wire_Join an_wire_Join 10
theorem FNum_u64 {n:Nat} (h:n<1099511627776):FNum (IntKind.u64.wrap (n:Int)).toNat=FNum n:=by
 rw [wrap_u64];congr 1;omega
theorem buf_app1 {A x R D:List UInt8}:cutL (List.take (0+A.length) (A++R)++(x++D)) 0 (A.length+x.length)=A++x:=by
 rw [Nat.zero_add,List.take_left,cutL_eq,List.drop_zero,<-List.append_assoc,<-List.length_append,List.take_left]
theorem buf_app2 {A x R:List UInt8}:cutL (cutL (A++R) 0 A.length++x) 0 (A.length+x.length)=A++x:=by
 rw [cutL_eq (A++R),List.drop_zero,List.take_left,cutL_eq,List.drop_zero,<-List.length_append,List.take_length]
theorem buf_app3 {A x:List UInt8} (h:A.length+x.length<=A.length):List.take (0+A.length) A++(x++List.drop (0+A.length+x.length) A)=A++x:=by
 obtain rfl:x=[]:=List.length_eq_zero_iff.1 (by omega)
 simp
theorem cutL_all (l:List UInt8):cutL l 0 l.length=l:=by simp [cutL]
theorem FCat_take {α:Type} {e:α->List UInt8} {x:List α} {d:α} {i:Nat} (h:i<x.length):FCat e (x.take (i+1))=FCat e (x.take i)++e (x.getD i d):=by
 rw [List.take_add_one,FCat_append]
 simp [List.getD,h,FCat]
theorem FCat_le {α:Type} {e:α->List UInt8} (x:List α) (i:Nat):(FCat e (x.take i)).length<=(FCat e x).length:=by
 have:FCat e x=FCat e (x.take i)++FCat e (x.drop i):=by rw [<-FCat_append,List.take_append_drop]
 rw [this,List.length_append]
 omega
theorem FCat_part {α:Type} {e:α->List UInt8} {x:List α} {d:α} {i:Nat} (h:i<x.length):(FCat e (x.take i)).length+(e (x.getD i d)).length<=(FCat e x).length:=by
 have:=FCat_le (e:=e) x (i+1)
 rw [FCat_take (d:=d) h,List.length_append] at this
 exact this
theorem FBytes_len (b:List UInt8):b.length<(FBytes b).length/\(FBytes b).length<=b.length+10:=by
 have:=FNum_pos b.length;have:=FNum_len b.length
 simp only [FBytes,List.length_append];omega
noncomputable def sp_row:FSpec where
 X:=LRow
 pre x:=(FRow x).length<1099511626000
 args x:=[.agg (rowC 0 x)]
 base:=[]
 own _:=[]
 out x:= .ret (.bytes 1 true (FRow x)) []
noncomputable def Sp_row:List (Nat×FSpec):=[(Id.wire_Bytes,sp_wire_Bytes),(Id.wire_Join,sp_wire_Join),(Id.wire_Flag,sp_Flag)]
def vc_row:Prop:=FnVC Tryz.cy Sp_row Id.calls_row sp_row (fun _ _=>none) 10
def FHold (w:List UInt8) (k c:Nat) (op:Bool) (buf:List UInt8):Prop:=w=buf.take k/\buf.length=c/\k<=c/\0<k/\(op=true->c=k)
section
variable {w w' x buf:List UInt8} {k c:Nat} {op:Bool}
theorem hold_num {n:Nat} (h:n<1099511627776) (e:w'=FNum n):FHold w' (FNum (IntKind.u64.wrap (n:Int)).toNat).length 10 false (FNum (IntKind.u64.wrap (n:Int)).toNat++List.replicate (10- (FNum (IntKind.u64.wrap (n:Int)).toNat).length) 0):=by
 rw [FNum_u64 h]
 have h1:=FNum_len n;have h2:=FNum_pos n
 refine ⟨by rw [e,List.take_left],by simp;omega,h1,h2,fun h=>by cases h⟩
theorem hold_len (h:FHold w k c op buf):w.length=k:=by
 obtain ⟨h1,h2,h3,_⟩:=h
 rw [h1,List.length_take];omega
theorem hold_new (h:FHold w k c op buf) (e:w'=w++x):FHold w' (k+x.length) (k+x.length) true (cutL buf 0 k++x):=by
 have hl:=hold_len h
 obtain ⟨h1,h2,h3,h4,h5⟩:=h
 have e2:cutL buf 0 k=w:=by rw [h1];simp [cutL]
 rw [e2,e,<-hl,<-List.length_append]
 exact ⟨by rw [List.take_length],rfl,Nat.le_refl _,by rw [List.length_append];omega,fun _=>rfl⟩
theorem hold_in (h:FHold w k c op buf) (hc:k+x.length<=c) (e:w'=w++x):FHold w' (k+x.length) c false (List.take (0+k) buf++(x++List.drop (0+k+x.length) buf)):=by
 have hl:=hold_len h
 obtain ⟨h1,h2,h3,h4,h5⟩:=h
 refine ⟨?_,by simp;omega,hc,by omega,fun h=>by cases h⟩
 rw [Nat.zero_add,<-h1,e,<-List.append_assoc,<-hl,<-List.length_append,List.take_left]
theorem hold_end (h:FHold w k c op buf) (e:w'=w):w'=cutL buf 0 k:=by
 rw [e,h.1];simp [cutL]
theorem put_step {α:Type} {e:α->List UInt8} {x:List α} {d:α} {i:Nat} {b:List UInt8} (hi:i<x.length) (hx:x.length<1048577):b++FCat e (x.take (IntKind.i64.wrap ((i:Int)+1)).toNat)=b++FCat e (x.take i)++e (x.getD i d):=by
 rw [wrap_succ _ (by omega),Int.toNat_natCast,FCat_take (d:=d) hi,List.append_assoc]
theorem part_lt {α:Type} {e:α->List UInt8} {l:List α} {d:α} {i N:Nat} {b:List UInt8} (h:FHold (b++FCat e (l.take i)) k c op buf) (hN:(b++FCat e l).length<N) (hi:i<l.length):k+(e (l.getD i d)).length<N:=by
 have:=hold_len h
 have:=FCat_part (e:=e) (d:=d) hi
 simp only [List.length_append] at*
 omega
theorem part_lt' {α:Type} {e:α->List UInt8} {l:List α} {d:α} {i N:Nat} {b:List UInt8} (hN:(b++FCat e l).length<N) (hi:i<l.length):(e (l.getD i d)).length<N:=by
 have:=FCat_part (e:=e) (d:=d) hi
 simp only [List.length_append] at*
 omega
theorem put_end {α:Type} {e:α->List UInt8} {x:List α} {i:Nat} {b:List UInt8} (hi:¬(i:Int)<(x.length:Int)):b++FCat e x=b++FCat e (x.take i):=by
 rw [List.take_of_length_le (by omega)]
end
structure XPut where
 i:Nat
 k:Nat
 c:Nat
 op:Bool
 buf:List UInt8
noncomputable def sp_PutRow:FSpec where
 X:=List LRow
 pre x:=(FRows x).length<1099511626000/\x.length<1048577
 args x:=[rowsV 0 x,.fn Id.calls_row [] []]
 base:=[]
 own _:=[]
 out x:= .ret (.tup [.bytes 1 true (FRows x),.int .i64 0]) []
noncomputable def an_PutRow (x:List LRow):Nat->Option Cut
 | 0=>some {X:=XPut,pre:=fun y=>y.i<=x.length/\FHold (FNum x.length++FCat FRow (x.take y.i)) y.k y.c y.op y.buf
            tm:=fun y=>[(1,.fn Id.calls_row [] []),(6,.sl 0 1 0 y.k y.c y.op),(15,rowsV 0 x),(16,.int .i64 x.length),(17,.int .i64 y.i)]
            own:=fun y=>[(0,.bytes y.buf Ty.uint8)]
            mu:=fun y=>x.length-y.i}
 | _=>none
noncomputable def Sp_PutRow:List (Nat×FSpec):=[(Id.calls_row,sp_row),(Id.wire_Number,sp_wire_NumberO)]
def vc_PutRow:Prop:=FnVC Tryz.cy Sp_PutRow Id.wire_Put_api_Row sp_PutRow an_PutRow 10
noncomputable def sp_out:FSpec where
 X:=LOut
 pre x:=(FOut x).length<1099511625000/\x.rows.length<1048577
 args x:=[.agg (outC 0 x)]
 base:=[]
 own _:=[]
 out x:= .ret (.bytes 1 true (FOut x)) []
noncomputable def Sp_out:List (Nat×FSpec):=(Id.wire_Put_api_Row,sp_PutRow)::Sp_row
def vc_out:Prop:=FnVC Tryz.cy Sp_out Id.calls_out sp_out (fun _ _=>none) 10
noncomputable def sp_PutOut:FSpec where
 X:=List LOut
 pre x:=(FOuts x).length<1099511625000/\x.length<1048577/\∀i,i<x.length->(x.getD i (LOut.mk false [] [])).rows.length<1048577
 args x:=[outsV 0 x,.fn Id.calls_out [] []]
 base:=[]
 own _:=[]
 out x:= .ret (.tup [.bytes 1 true (FOuts x),.int .i64 0]) []
noncomputable def an_PutOut (x:List LOut):Nat->Option Cut
 | 0=>some {X:=XPut,pre:=fun y=>y.i<=x.length/\FHold (FNum x.length++FCat FOut (x.take y.i)) y.k y.c y.op y.buf
            tm:=fun y=>[(1,.fn Id.calls_out [] []),(6,.sl 0 1 0 y.k y.c y.op),(15,outsV 0 x),(16,.int .i64 x.length),(17,.int .i64 y.i)]
            own:=fun y=>[(0,.bytes y.buf Ty.uint8)]
            mu:=fun y=>x.length-y.i}
 | _=>none
noncomputable def Sp_PutOut:List (Nat×FSpec):=[(Id.calls_out,sp_out),(Id.wire_Number,sp_wire_NumberO)]
def vc_PutOut:Prop:=FnVC Tryz.cy Sp_PutOut Id.wire_Put_api_Out sp_PutOut an_PutOut 10
noncomputable def FMay (x:LRes):Bool:= @decide (PMay x) (Classical.propDecidable _)
theorem FMay_true {x:LRes}:FMay x=true↔PMay x:= @decide_eq_true_iff _ (Classical.propDecidable _)
theorem FMay_yes {x:LRes} (h:PMay x):FMay x=true:=FMay_true.2 h
theorem FMay_no {x:LRes} (h:¬PMay x):FMay x=false:=by
 cases e:FMay x with
 | false=>rfl
 | true=>exact absurd (FMay_true.1 e) h
structure XI where
 i:Nat
structure XIK where
 i:Nat
 k:Nat
def FHead (x:LRes):Prop:=x.abort=0/\x.place=0/\1<=x.outs.length/\x.outs.length<=16
def FRowsTo (l:List LRow) (n:Nat):Prop:=l.length<=64/\∀k,k<n->(1<=(l.getD k (LRow.mk [] [])).key.length/\(l.getD k (LRow.mk [] [])).key.length<=64)/\(l.getD k (LRow.mk [] [])).value.length<=256/\(0<k->FCmp (l.getD (k-1) (LRow.mk [] [])).key (l.getD k (LRow.mk [] [])).key<0)
def FOutsTo (x:LRes) (n:Nat):Prop:=∀i,i<n->POut (x.outs.getD i (LOut.mk false [] []))
section
variable {x:LRes} {i k:Nat}
theorem may_head (h3:x.abort=0) (h:(¬x.place=0\/(x.outs.length:Int)<1)\/(16:Int)<(x.outs.length:Int)):FMay x=false:=
 FMay_no fun hm=>by
  rcases hm with ⟨a,b,c,d,_⟩ | ⟨a,_⟩
  · rcases h with (h | h) | h
    · exact h b
    · omega
    · omega
  · omega
theorem FHead_of (h3:x.abort=0) (h:¬((¬x.place=0\/(x.outs.length:Int)<1)\/(16:Int)<(x.outs.length:Int))):FHead x:=by
 simp only [not_or,Classical.not_not] at h
 exact ⟨h3,h.1.1,by omega,by omega⟩
theorem may_all (hh:FHead x) (h:FOutsTo x i) (hi:¬(i:Int)<(x.outs.length:Int)):FMay x=true:=
 FMay_yes (.inl ⟨hh.1,hh.2.1,hh.2.2.1,hh.2.2.2,fun j hj=>h j (by omega)⟩)
theorem may_out (hh:FHead x) (hi:i<x.outs.length) (h:¬POut (x.outs.getD i (LOut.mk false [] []))):FMay x=false:=
 FMay_no fun hm=>by
  rcases hm with ⟨_,_,_,_,e⟩ | ⟨a,_⟩
  · exact h (e i hi)
  · have:=hh.1;omega
theorem may_val (hh:FHead x) (hi:(i:Int)<(x.outs.length:Int)) (h:¬FValue (x.outs.getD (Int.toNat (i:Int)) (LOut.mk false [] [])).value=true\/(64:Int)<((x.outs.getD (Int.toNat (i:Int)) (LOut.mk false [] [])).rows.length:Int)):FMay x=false:=
 may_out (i:=i) hh (by omega) fun hp=>by
  obtain ⟨h1,h2,_⟩:=hp
  simp only [Int.toNat_natCast,FValue,decide_eq_true_eq] at h
  omega
theorem may_abort (h0:x.abort=1\/x.abort=2\/x.abort=3):FMay x=bif bif decide ((0:Int)<=x.place) then decide (x.place<(16:Int)) else false then decide ((x.outs.length:Int)=(0:Int)) else false:=by
 have:PMay x↔(0<=x.place/\x.place<16/\x.outs=[]):=by
  constructor
  · rintro (⟨a,_⟩ | ⟨_,b⟩)
    · omega
    · exact b
  · exact fun h=> .inr ⟨h0,h⟩
 rw [Bool.eq_iff_iff,FMay_true,this]
 simp only [Bool.cond_eq_true_distrib,decide_eq_true_eq]
 have e:(x.outs.length:Int)=0↔x.outs=[]:=by rw [<-List.length_eq_zero_iff];omega
 by_cases h1:(0:Int)<=x.place<;>by_cases h2:x.place<(16:Int)<;>simp [h1,h2]
theorem may_none (h1:¬x.abort=0) (h2:¬x.abort=1) (h3:¬x.abort=2) (h4:¬x.abort=3):FMay x=false:=
 FMay_no fun hm=>by
  rcases hm with ⟨a,_⟩ | ⟨a,_⟩<;>omega
theorem wrap_pred {k:Nat} (h:0<k) (hk:k<1099511627776):IntKind.i64.wrap ((k:Int)-1)=((k-1:Nat):Int):=by rw [wrap_i64];omega
theorem may_row (hh:FHead x) (hi:i<x.outs.length) (hk:(k:Int)<((x.outs.getD i (LOut.mk false [] [])).rows.length:Int)) (hl:k<1099511627776)
 (h:(¬FKey ((x.outs.getD i (LOut.mk false [] [])).rows.getD (Int.toNat (k:Int)) (LRow.mk [] [])).key=true\/¬FValue ((x.outs.getD i (LOut.mk false [] [])).rows.getD (Int.toNat (k:Int)) (LRow.mk [] [])).value=true)\/
   (0:Int)<(k:Int)/\(0:Int)<=FCmp ((x.outs.getD i (LOut.mk false [] [])).rows.getD (IntKind.i64.wrap ((k:Int)-1)).toNat (LRow.mk [] [])).key ((x.outs.getD i (LOut.mk false [] [])).rows.getD (Int.toNat (k:Int)) (LRow.mk [] [])).key):FMay x=false:=
 may_out (i:=i) hh hi fun hp=>by
  obtain ⟨_,_,hr⟩:=hp
  obtain ⟨r1,r2,r3⟩:=hr k (by omega)
  simp only [Int.toNat_natCast,FKey,FValue,Bool.and_eq_true,decide_eq_true_eq] at h
  rcases h with (h | h) | ⟨h,h'⟩
  · exact h r1
  · exact h r2
  · rw [wrap_pred (by omega) hl,Int.toNat_natCast] at h'
    have:=r3 (by omega)
    have:FCmp ((x.outs.getD i (LOut.mk false [] [])).rows.getD (k-1) (LRow.mk [] [])).key ((x.outs.getD i (LOut.mk false [] [])).rows.getD k (LRow.mk [] [])).key<0:=this
    omega
theorem rows_go {l:List LRow} (h:FRowsTo l k) (hl:k<1099511627776) (h2:¬((¬FKey (l.getD (Int.toNat (k:Int)) (LRow.mk [] [])).key=true\/¬FValue (l.getD (Int.toNat (k:Int)) (LRow.mk [] [])).value=true)\/
 (0:Int)<(k:Int)/\(0:Int)<=FCmp (l.getD (IntKind.i64.wrap ((k:Int)-1)).toNat (LRow.mk [] [])).key (l.getD (Int.toNat (k:Int)) (LRow.mk [] [])).key)):FRowsTo l (IntKind.i64.wrap ((k:Int)+1)).toNat:=by
 rw [wrap_succ _ hl,Int.toNat_natCast]
 simp only [Int.toNat_natCast,FKey,FValue,Bool.and_eq_true,decide_eq_true_eq] at h2
 refine ⟨h.1,fun j hj=> ?_⟩
 rcases Nat.lt_or_ge j k with h' | h'
 · exact h.2 j h'
 · obtain rfl:j=k:=by omega
   refine ⟨Classical.byContradiction fun hn=>h2 (.inl (.inl hn)),Classical.byContradiction fun hn=>h2 (.inl (.inr hn)),fun hk=> ?_⟩
   rw [wrap_pred hk hl,Int.toNat_natCast] at h2
   exact Classical.byContradiction fun hn=>h2 (.inr ⟨by omega,by omega⟩)
theorem outs_step (h:FOutsTo x i) (hv:(x.outs.getD i (LOut.mk false [] [])).value.length<=256) (hr:FRowsTo (x.outs.getD i (LOut.mk false [] [])).rows k) (hk:¬(k:Int)<((x.outs.getD i (LOut.mk false [] [])).rows.length:Int)):FOutsTo x (i+1):=by
 intro j hj
 rcases Nat.lt_or_ge j i with h' | h'
 · exact h j h'
 · obtain rfl:j=i:=by omega
   exact ⟨hv,hr.1,fun m hm=>hr.2 m (by omega)⟩
end
def FSm (x:LRes):Prop:=x.outs.length<1048577/\∀i,i<x.outs.length->(x.outs.getD i (LOut.mk false [] [])).rows.length<1048577/\(x.outs.getD i (LOut.mk false [] [])).value.length<1048577/\
 ∀k,k<(x.outs.getD i (LOut.mk false [] [])).rows.length->((x.outs.getD i (LOut.mk false [] [])).rows.getD k (LRow.mk [] [])).key.length<1048577/\((x.outs.getD i (LOut.mk false [] [])).rows.getD k (LRow.mk [] [])).value.length<1048577
noncomputable def sp_mayResult:FSpec where
 X:=LRes
 pre x:=FSm x
 args x:=[.agg (resC 0 x)]
 base:=[]
 own _:=[]
 out x:= .ret (.bool (FMay x)) []
noncomputable def an_mayResult (x:LRes):Nat->Option Cut
 | 1=>some {X:=XI,pre:=fun y=>y.i<=x.outs.length/\FHead x/\FOutsTo x y.i
            tm:=fun y=>[(45,outsV 0 x.outs),(46,.int .i64 x.outs.length),(47,.int .i64 y.i)]
            own:=fun y=>[]
            mu:=fun y=>x.outs.length-y.i}
 | 3=>some {X:=XIK,R:=Nat,rel:=some fun r y=>r=y.i,pre:=fun y=>y.i<x.outs.length/\FHead x/\FOutsTo x y.i/\(x.outs.getD y.i (LOut.mk false [] [])).value.length<=256/\y.k<=(x.outs.getD y.i (LOut.mk false [] [])).rows.length/\FRowsTo (x.outs.getD y.i (LOut.mk false [] [])).rows y.k
            tm:=fun y=>[(45,outsV 0 x.outs),(46,.int .i64 x.outs.length),(47,.int .i64 y.i),(4,.ptr 0 0 0 0),(62,rowsV 0 (x.outs.getD y.i (LOut.mk false [] [])).rows),(63,.int .i64 (x.outs.getD y.i (LOut.mk false [] [])).rows.length),(64,.int .i64 y.k)]
            own:=fun y=>[(0,.cells (outC 0 (x.outs.getD y.i (LOut.mk false [] []))) Ty.api_Out)]
            mu:=fun y=>(x.outs.getD y.i (LOut.mk false [] [])).rows.length -y.k}
 | _=>none
noncomputable def Sp_may:List (Nat×FSpec):=[(Id.names_Key,sp_Key),(Id.names_Value,sp_Value),(Id.names_Cmp,sp_Cmp)]
def vc_mayResult:Prop:=FnVC Tryz.cy Sp_may Id.calls_mayResult sp_mayResult an_mayResult 10
theorem fcat_le {α:Type} {e:α->List UInt8} {m:Nat}:∀{l:List α},(∀x∈l,(e x).length<=m)->(FCat e l).length<=m*l.length
 | [],_=>by simp [FCat]
 | x::r,h=>by
   have h1:=h x (by simp)
   have h2:=fcat_le (e:=e) (m:=m) (l:=r) (fun y hy=>h y (by simp [hy]))
   simp only [FCat,List.length_append,List.length_cons,Nat.mul_succ]
   omega
theorem outs_short {x:LRes} (hm:FMay x=true):(FOuts x.outs).length<1099511624000:=by
 have hb:∀b:List UInt8,(FBytes b).length<=10+b.length:=fun b=>by unfold FBytes;rw [List.length_append];have:=FNum_len b.length;omega
 have hr:∀r:LRow,okRow r->(FRow r).length<=400:=fun r h=>by
  unfold FRow;rw [List.length_append];have:=hb r.key;have:=hb r.value;obtain ⟨h1,h2⟩:=h;omega
 have ho:∀o:LOut,okOut o->(FOut o).length<=30000:=fun o h=>by
  obtain ⟨h1,h2,h3⟩:=h
  have e1:=fcat_le (e:=FRow) (m:=400) (l:=o.rows) (fun r hx=>hr r (h3 r hx))
  have e2:=FNum_len o.rows.length
  have e3:=hb o.value
  have e4:(FFlag o.has).length=1:=rfl
  simp only [FOut,FRows,List.length_append];omega
 have g:∀l:List LOut,okOuts l->(FOuts l).length<1099511624000:=fun l h=>by
  obtain ⟨h1,h2⟩:=h
  have e1:=fcat_le (e:=FOut) (m:=30000) (l:=l) (fun r hx=>ho r (h2 r hx))
  have e2:=FNum_len l.length
  simp only [FOuts,List.length_append];omega
 rcases FMay_true.1 hm with ⟨_,_,h1,h2,h3⟩ | h
 · exact g _ (okOuts_of h2 h3)
 · rw [h.2.2.2];exact g [] ⟨by simp,fun x hx=>by cases hx⟩
noncomputable def sp_Result:FSpec where
 X:=LRes
 pre x:=FSm x
 args x:=[.agg (resC 0 x)]
 base:=[]
 own _:=[]
 out x:= .ask (FMay x) (.ret (.tup [.bytes 1 true (FRes x),.int .i64 0]) []) (.ret (.tup [.nilS,.int .i64 2]) [])
def FPcs (x:LRes):List (List UInt8):=if x.abort=0 then [FNum 0,FOuts x.outs] else [FNum x.abort.toNat,FNum x.place.toNat]
section
variable {x:LRes}
theorem pc_join (x:LRes):FRes x=FJoin (FPcs x):=by unfold FRes FPcs;split<;>simp [FJoin]
theorem pc_len (x:LRes):(FPcs x).length=2:=by unfold FPcs;split<;>rfl
theorem pc_lt (h:(FOuts x.outs).length<1099511624000):(FJoin (FPcs x)).length<1099511627000:=by
 have:=FNum_len 0;have:=FNum_len x.abort.toNat;have:=FNum_len x.place.toNat
 unfold FPcs;split<;>simp [FJoin]<;>omega
theorem cut_rep {A R:List UInt8}:cutL (A++R) 0 A.length=A:=by simp [cutL]
theorem may_nums (h:¬¬FMay x=true) (h0:¬x.abort=0):(IntKind.u64.wrap x.abort).toNat=x.abort.toNat/\(IntKind.u64.wrap x.place).toNat=x.place.toNat:=by
 have hm:=FMay_true.1 (Classical.not_not.1 h)
 rw [wrap_u64,wrap_u64]
 rcases hm with ⟨a,_⟩ | ⟨a,b,c,_⟩<;>omega
theorem pc0 (h:¬¬FMay x=true) (h0:¬x.abort=0):(FPcs x).getD 0 []=cutL (FNum (IntKind.u64.wrap x.abort).toNat++List.replicate (10- (FNum (IntKind.u64.wrap x.abort).toNat).length) (0:UInt8)) 0 (FNum (IntKind.u64.wrap x.abort).toNat).length:=by
 rw [cut_rep,(may_nums h h0).1];simp [FPcs,h0]
theorem pc1 (h:¬¬FMay x=true) (h0:¬x.abort=0):(FPcs x).getD 1 []=cutL (FNum (IntKind.u64.wrap x.place).toNat++List.replicate (10- (FNum (IntKind.u64.wrap x.place).toNat).length) (0:UInt8)) 0 (FNum (IntKind.u64.wrap x.place).toNat).length:=by
 rw [cut_rep,(may_nums h h0).2];simp [FPcs,h0]
theorem pc0' (h0:¬¬x.abort=0):(FPcs x).getD 0 []=cutL (FNum (Int.toNat (0:Int))++List.replicate (10- (FNum (Int.toNat (0:Int))).length) (0:UInt8)) 0 (FNum (Int.toNat (0:Int))).length:=by
 rw [cut_rep];simp [FPcs,Classical.not_not.1 h0]
theorem pc1' (h0:¬¬x.abort=0):(FPcs x).getD 1 []=FOuts x.outs:=by simp [FPcs,Classical.not_not.1 h0]
end
noncomputable def Sp_Result:List (Nat×FSpec):=[(Id.calls_mayResult,sp_mayResult),(Id.wire_Number,sp_wire_NumberO),(Id.wire_Join,sp_wire_Join),(Id.wire_Put_api_Out,sp_PutOut)]
def vc_Result:Prop:=FnVC Tryz.cy Sp_Result Id.calls_Result sp_Result (fun _ _=>none) 10
end Go.Proofs
