import Derived.Test.YtoajkmdddjnebaaGreatDoorCallsResultsCB
set_option linter.unusedSimpArgs false
set_option linter.unusedVariables false
namespace Go.Proofs
open Go.Eng
noncomputable def rdO (l:List UInt8) (a:Nat):List (Nat×SB):=[(0,.cells [.bytes 1 true l,.int .i64 a] Ty.wire_Reader)]
noncomputable def sp_Open:FSpec where
 X:=List UInt8
 pre x:=x.length<1099511627000
 args x:=[.bytes 0 false x]
 base:=[]
 own _:=[]
 out x:= .ret (.ptr 0 0 0 0) (rdO x 0)
def vc_Open:Prop:=FnVC Tryz.cy [] Id.wire_Open sp_Open (fun _ _=>none) 10
structure XRdM where
 l:List UInt8
 a:Nat
 most:Nat
def FRdOk (l:List UInt8) (a:Nat):Prop:=a<=l.length/\l.length<1099511627000
def FCntR (most:Nat) (l:List UInt8) (a:Nat) (p:Nat×Int×Nat):Prop:=(p.2.1=0/\FCnt most l a=some (p.1,p.2.2))\/(p.2.1≠0/\FCnt most l a=none/\p.1=0/\p.2.2<=l.length)
noncomputable def sp_count:FSpec where
 X:=XRdM
 pre x:=FRdOk x.l x.a/\x.most<1048577
 args x:=[.ptr 0 0 0 0,.int .i64 x.most]
 base:=[0]
 own x:=rdO x.l x.a
 out x:= .ex (Nat×Int×Nat) (FCntR x.most x.l x.a) fun p=> .ret (.tup [.int .i64 p.1,.int .i64 p.2.1]) (rdO x.l p.2.2)
noncomputable def Sp_Num:List (Nat×FSpec):=[(Id.wire_Reader_Number,sp_wire_Reader_Number)]
def vc_count:Prop:=FnVC Tryz.cy Sp_Num Id.wire_Reader_count sp_count (fun _ _=>none) 10
theorem cnt_none {most:Nat} {l:List UInt8} {a:Nat} (h:¬(FNumP l a).isSome=true):FCnt most l a=none:=by
 unfold FCnt
 cases hn:FNumP l a with
 | none=>rfl
 | some p=>rw [hn] at h;simp at h
theorem cnt_long {most:Nat} {l:List UInt8} {a:Nat} {p:Nat×Nat} (h:FNumP l a=some p) (hl:(most:Int)<(p.1:Int)):FCnt most l a=none:=by
 unfold FCnt
 rw [h];simp only;rw [if_neg (by omega)]
theorem cnt_good {most:Nat} {l:List UInt8} {a:Nat} {p:Nat×Nat} (h:FNumP l a=some p) (hl:¬(most:Int)<(p.1:Int)):FCnt most l a=some p:=by
 unfold FCnt
 rw [h];simp only;rw [if_pos (by omega)]
theorem cntR_num {most:Nat} {l:List UInt8} {a:Nat} {p:Nat×Nat} {m:Int} (hr:FRdOk l a) (hm:most<1048577) (hq:m=IntKind.u64.wrap (most:Int)) (h:FNumP l a=some p):
 (m<(p.1:Int)->FCntR most l a (0,3,p.2))/\(¬m<(p.1:Int)->FCntR most l a ((IntKind.i64.wrap (p.1:Int)).toNat,0,p.2)/\((IntKind.i64.wrap (p.1:Int)).toNat:Int)=IntKind.i64.wrap (p.1:Int)):=by
 rw [wrap_u64] at hq
 have hb:p.2<=l.length:=(reads_num.sound hr.1 h).2.2.2
 refine ⟨fun hl=> .inr ⟨by simp,cnt_long h (by omega),rfl,hb⟩,fun hl=> ?_⟩
 have hw:IntKind.i64.wrap (p.1:Int)=(p.1:Int):=by rw [wrap_i64];omega
 rw [hw,Int.toNat_natCast]
 exact ⟨.inl ⟨rfl,cnt_good h (by omega)⟩,rfl⟩
theorem cntR_no {most:Nat} {l:List UInt8} {a:Nat} (hr:FRdOk l a) (h:¬(FNumP l a).isSome=true):FCntR most l a (0,4,a):= .inr ⟨by simp,cnt_none h,rfl,hr.1⟩
theorem u64_small {n:Nat} (h:n<1099511627776):IntKind.u64.wrap (n:Int)=(n:Int):=by rw [wrap_u64];omega
theorem i64_small {n:Nat} (h:n<1099511627776):IntKind.i64.wrap (n:Int)=(n:Int):=by rw [wrap_i64];omega
theorem wrap_add2 {a b:Nat} (h:a+b<1099511627776):IntKind.i64.wrap ((a:Int)+(b:Int))=((a+b:Nat):Int):=by rw [wrap_i64];omega
theorem wrap_back {a b:Nat} (h:a+b<1099511627776):IntKind.i64.wrap (IntKind.i64.wrap ((a:Int)+(b:Int))- (b:Int))=(a:Int):=by rw [wrap_i64,wrap_i64];omega
theorem wrap_sub2 {a b:Nat} (h:b<=a) (ha:a<1099511627776):IntKind.i64.wrap ((a:Int)- (b:Int))=((a-b:Nat):Int):=by rw [wrap_i64];omega
theorem rd_none {most:Nat} {l:List UInt8} {a:Nat} (h:¬(FCnt most l a).isSome=true):FBytesP most l a=none:=by
 rw [FBytesP_eq]
 cases hn:FCnt most l a with
 | none=>rfl
 | some p=>rw [hn] at h;simp at h
theorem rd_short {most:Nat} {l:List UInt8} {a:Nat} {p:Nat×Nat} (ha:FRdOk l a) (h:FCnt most l a=some p) (hl:IntKind.i64.wrap ((l.length:Int)- (p.2:Int))<(p.1:Int)):FBytesP most l a=none:=by
 have hh:=FCnt_le ha.1 h
 have h2:=ha.2
 rw [wrap_sub2 hh.2.2 (by omega)] at hl
 rw [FBytesP_eq,h]
 simp only
 rw [if_neg (by omega)]
theorem rd_good {most:Nat} {l:List UInt8} {a:Nat} {p:Nat×Nat} (ha:FRdOk l a) (h:FCnt most l a=some p) (hl:¬IntKind.i64.wrap ((l.length:Int)- (p.2:Int))<(p.1:Int)):
 FBytesP most l a=some ((l.drop p.2).take p.1,p.2+p.1)/\p.2+p.1<=l.length:=by
 have hh:=FCnt_le ha.1 h
 have h2:=ha.2
 rw [wrap_sub2 hh.2.2 (by omega)] at hl
 rw [FBytesP_eq,h]
 simp only
 rw [if_pos (by omega)]
 exact ⟨rfl,by omega⟩
theorem rd_q {most:Nat} {l:List UInt8} {a:Nat} {p:Nat×Nat} {q r t:Int} (ha:FRdOk l a) (h:FCnt most l a=some p) (h1:q=IntKind.i64.wrap ((l.length:Int)- (p.2:Int))) (hl:¬(True/\q<(p.1:Int)))
 (h2:r=IntKind.i64.wrap ((p.2:Int)+(p.1:Int))) (h3:t=IntKind.i64.wrap (r- (p.1:Int))):
 FBytesP most l a=some ((l.drop p.2).take p.1,p.2+p.1)/\p.2+p.1<=l.length/\r=((p.2+p.1:Nat):Int)/\t=(p.2:Int)/\l.length<1099511627000:=by
 have hh:=rd_good ha h (fun hn=>hl ⟨trivial,by rw [h1];exact hn⟩)
 have h4:=ha.2
 refine ⟨hh.1,hh.2,by rw [h2,wrap_add2 (by omega)],by rw [h3,h2,wrap_back (by omega)],h4⟩
theorem rd_val1 {l:List UInt8} {b n:Nat} (h:b+n<=l.length):cutL (cutL l b (b+n-b)++List.drop (0+(cutL l b (b+n-b)).length) []) 0 (0+(cutL l b (b+n-b)).length)=(l.drop b).take n:=by
 rw [Nat.add_sub_cancel_left];simp only [cutL,List.take_zero,List.drop_nil,List.append_nil,List.nil_append,List.drop_zero,Nat.zero_add,List.take_length]
theorem rd_val2 {l:List UInt8} {b n:Nat} (h:b+n<=l.length):cutL (cutL [] 0 0++cutL l b (b+n-b)) 0 (0+(cutL l b (b+n-b)).length)=(l.drop b).take n:=by
 rw [Nat.add_sub_cancel_left];simp only [cutL,List.take_zero,List.drop_nil,List.append_nil,List.nil_append,List.drop_zero,Nat.zero_add,List.take_length]
def FByR (most:Nat) (l:List UInt8) (a:Nat) (p:List UInt8×Int×Nat):Prop:=(p.2.1=0/\FBytesP most l a=some (p.1,p.2.2))\/(p.2.1≠0/\FBytesP most l a=none/\p.1=[]/\p.2.2=a)
noncomputable def sp_RdBytes:FSpec where
 X:=XRdM
 pre x:=FRdOk x.l x.a/\x.most<1048577
 args x:=[.ptr 0 0 0 0,.int .i64 x.most]
 base:=[0]
 own x:=rdO x.l x.a
 out x:= .ex (List UInt8×Int×Nat) (FByR x.most x.l x.a) fun p=> .ret (.tup [.bytes 1 false p.1,.int .i64 p.2.1]) (rdO x.l p.2.2)
theorem cntR_ok {most:Nat} {l:List UInt8} {a:Nat} {x:Nat×Int×Nat} (h:FCntR most l a x) (he:x.2.1=0):FCnt most l a=some (x.1,x.2.2):=by
 rcases h with h | h
 · exact h.2
 · exact absurd he h.1
theorem byR_fail {most:Nat} {l:List UInt8} {a:Nat} {x:Nat×Int×Nat} (h:FCntR most l a x) (he:¬x.2.1=0):FByR most l a ([],x.2.1,a):=by
 rcases h with h | h
 · exact absurd h.1 he
 · exact .inr ⟨he,rd_none (by rw [h.2.1];simp),rfl,rfl⟩
theorem byR_short {most:Nat} {l:List UInt8} {a:Nat} {x:Nat×Int×Nat} {q:Int} (ha:FRdOk l a) (h:FCntR most l a x) (he:x.2.1=0) (hq:q=IntKind.i64.wrap ((l.length:Int)- (x.2.2:Int))) (hl:q<(x.1:Int)):FByR most l a ([],4,a):=
 .inr ⟨by simp,rd_short ha (cntR_ok h he) (by rw [<-hq];exact hl),rfl,rfl⟩
theorem byR_good {most:Nat} {l:List UInt8} {a:Nat} {x:Nat×Int×Nat} {q r t:Int} (ha:FRdOk l a) (h:FCntR most l a x) (he:x.2.1=0) (h1:q=IntKind.i64.wrap ((l.length:Int)- (x.2.2:Int))) (hl:¬q<(x.1:Int))
 (h2:r=IntKind.i64.wrap ((x.2.2:Int)+(x.1:Int))) (h3:t=IntKind.i64.wrap (r- (x.1:Int))):
 FBytesP most l a=some ((l.drop x.2.2).take x.1,x.2.2+x.1)/\x.2.2+x.1<=l.length/\r=((x.2.2+x.1:Nat):Int)/\t=(x.2.2:Int)/\l.length<1099511627000:=
 rd_q (p:=(x.1,x.2.2)) ha (cntR_ok h he) h1 (fun hn=>hl hn.2) h2 h3
noncomputable def Sp_Rd:List (Nat×FSpec):=[(Id.wire_Reader_count,sp_count)]
def vc_RdBytes:Prop:=FnVC Tryz.cy Sp_Rd Id.wire_Reader_Bytes sp_RdBytes (fun _ _=>none) 10
def FFlR (l:List UInt8) (a:Nat) (p:Bool×Int×Nat):Prop:=(p.2.1=0/\FFlagP l a=some (p.1,p.2.2))\/(p.2.1≠0/\FFlagP l a=none/\p.1=false/\p.2.2=a)
noncomputable def sp_RdFlag:FSpec where
 X:=XRd
 pre x:=FRdOk x.l x.a
 args x:=[.ptr 0 0 0 0]
 base:=[0]
 own x:=rdO x.l x.a
 out x:= .ex (Bool×Int×Nat) (FFlR x.l x.a) fun p=> .ret (.tup [.bool p.1,.int .i64 p.2.1]) (rdO x.l p.2.2)
def vc_RdFlag:Prop:=FnVC Tryz.cy [] Id.wire_Reader_Flag sp_RdFlag (fun _ _=>none) 10
theorem fl_bad {l:List UInt8} {a:Nat} {q:Int} (h:FRdOk l a) (hq:q=IntKind.i64.wrap ((l.length:Int)- (a:Int))) (hb:q=0\/(1:Int)<((l.getD (Int.toNat (a:Int)) 0).toNat:Int)):FFlagP l a=none:=by
 have h2:=h.1;have h3:=h.2
 rw [wrap_sub2 h2 (by omega)] at hq
 unfold FFlagP
 rcases Nat.lt_or_ge a l.length with h4 | h4
 · rw [drop_getD l a h4]
   simp only [Int.toNat_natCast] at*
   rw [if_neg (by omega)]
 · rw [List.drop_eq_nil_of_le h4]
theorem fl_in {l:List UInt8} {a:Nat} {q:Int} (h:FRdOk l a) (hq:q=IntKind.i64.wrap ((l.length:Int)- (a:Int))) (hb:¬q=0):a<l.length:=by
 have h2:=h.1;have h3:=h.2
 rw [wrap_sub2 h2 (by omega)] at hq
 omega
theorem fl_good {l:List UInt8} {a:Nat} {q:Int} (h:FRdOk l a) (hq:q=IntKind.i64.wrap ((l.length:Int)- (a:Int))) (hb:¬(q=0\/(1:Int)<((l.getD (Int.toNat (a:Int)) 0).toNat:Int))):
 FFlagP l a=some (decide (((l.getD a 0).toNat:Int)=1),a+1)/\a<l.length/\l.length<1099511627000:=by
 have h4:=fl_in h hq (fun e=>hb (.inl e))
 refine ⟨?_,h4,h.2⟩
 unfold FFlagP
 rw [drop_getD l a h4]
 simp only [Int.toNat_natCast] at*
 rw [if_pos (by omega)]
 congr 3
 rw [eq_iff_iff]
 omega
theorem wrap_incdec {a:Nat} (h:a<1099511627000):IntKind.i64.wrap (IntKind.i64.wrap ((a:Int)+1)-1)=(a:Int):=by rw [wrap_i64,wrap_i64];omega
theorem flR_bad {l:List UInt8} {a:Nat} {q:Int} (h:FRdOk l a) (hq:q=IntKind.i64.wrap ((l.length:Int)- (a:Int))) (hb:q=0\/(1:Int)<((l.getD (Int.toNat (a:Int)) 0).toNat:Int)):FFlR l a (false,4,a):=
 .inr ⟨by simp,fl_bad h hq hb,rfl,rfl⟩
theorem flR_good {l:List UInt8} {a:Nat} {q:Int} (h:FRdOk l a) (hq:q=IntKind.i64.wrap ((l.length:Int)- (a:Int))) (hb:¬(q=0\/(1:Int)<((l.getD (Int.toNat (a:Int)) 0).toNat:Int))):
 FFlR l a (decide (((l.getD (IntKind.i64.wrap (IntKind.i64.wrap ((a:Int)+1)-1)).toNat 0).toNat:Int)=1),0,(IntKind.i64.wrap ((a:Int)+1)).toNat):=by
 have hh:=fl_good h hq hb
 rw [wrap_incdec (by omega),wrap_succ _ (by omega),Int.toNat_natCast,Int.toNat_natCast]
 exact .inl ⟨rfl,hh.1⟩
def refusedV:SV:= .ifc Ty.calls_refused (.agg [])
noncomputable def sp_readRow:FSpec where
 X:=XRd
 pre x:=FRdOk x.l x.a
 args x:=[.ptr 0 0 0 0]
 base:=[0]
 own x:=rdO x.l x.a
 out x:= .ask (FPRow x.l x.a).isSome
  (.ex (LRow×Nat) (fun p=>FPRow x.l x.a=some p) fun p=> .ret (.tup [.agg (rowC 1 p.1),.int .i64 0]) (rdO x.l p.2))
  (.ex Nat (fun _=>True) fun b=> .pan refusedV (rdO x.l b))
theorem by_at {l:List UInt8} {a m:Nat} {p:List UInt8×Nat} (h:FRdOk l a) (hm:m<1048577) (hb:FBytesP m l a=some p):FRdOk l p.2/\p.1.length<=m:=
 ⟨⟨((reads_bytes (by omega)).sound h.1 hb).2.2.2,h.2⟩,((reads_bytes (by omega)).sound h.1 hb).1⟩
theorem byR_ok {most:Nat} {l:List UInt8} {a:Nat} {x:List UInt8×Int×Nat} (h:FByR most l a x) (he:¬¬x.2.1=0):FBytesP most l a=some (x.1,x.2.2):=by
 rcases h with h | h
 · exact h.2
 · exact absurd h.1 he
theorem byR_no {most:Nat} {l:List UInt8} {a:Nat} {x:List UInt8×Int×Nat} (h:FByR most l a x) (he:¬x.2.1=0):¬(FBytesP most l a).isSome=true:=by
 rcases h with h | h
 · exact absurd h.1 he
 · rw [h.2.1];simp
section
variable {α β γ:Type} {p:List UInt8->Nat->Option (α×Nat)} {q:List UInt8->Nat->Option (β×Nat)} {f:α->β->γ} {l:List UInt8} {a:Nat} {x:α×Nat} {y:β×Nat}
theorem seq_some (h1:p l a=some x) (h2:q l x.2=some y):FseqP p q f l a=some (f x.1 y.1,y.2):=by
 unfold FseqP;rw [h1];simp only;rw [h2]
theorem seq_no1 (h1:¬(p l a).isSome=true):FseqP p q f l a=none:=by
 unfold FseqP
 cases hn:p l a with
 | none=>rfl
 | some p=>rw [hn] at h1;simp at h1
theorem seq_no2 (h1:p l a=some x) (h2:¬(q l x.2).isSome=true):FseqP p q f l a=none:=by
 unfold FseqP;rw [h1];simp only
 cases hn:q l x.2 with
 | none=>rfl
 | some p=>rw [hn] at h2;simp at h2
theorem some_no {o:Option α} (h:o=none) (h2:o.isSome=true):False:=by rw [h] at h2;cases h2
theorem no_some {o:Option α} {x:α} (h:o=some x) (h2:¬o.isSome=true):False:=h2 (by rw [h];rfl)
end
theorem at_ok {l:List UInt8} {a m:Nat} {x:List UInt8×Int×Nat} (h:FRdOk l a) (hm:m<1048577) (hb:FByR m l a x):FRdOk l x.2.2:=by
 rcases hb with hb | hb
 · exact (by_at (p:=(x.1,x.2.2)) h hm hb.2).1
 · rw [hb.2.2.2];exact h
noncomputable def Sp_readRow:List (Nat×FSpec):=[(Id.wire_Reader_Bytes,sp_RdBytes)]
def vc_readRow:Prop:=FnVC Tryz.cy Sp_readRow Id.calls_readRow sp_readRow (fun _ _=>none) 10
structure XTk (α:Type) where
 i:Nat
 n:Nat
 b:Nat
 at_:Nat
 xs:List α
 op:Bool
 e:Int
def FTkP {α:Type} (most:Nat) (p:List UInt8->Nat->Option (α×Nat)) (l:List UInt8) (a:Nat):Bool:=(FCnt most l a).isSome&& !(FtakeP most p l a).isSome
def FTkR {α:Type} (most:Nat) (p:List UInt8->Nat->Option (α×Nat)) (l:List UInt8) (a:Nat) (x:List α×Int×Nat):Prop:=(x.2.1=0/\FtakeP most p l a=some (x.1,x.2.2))\/(x.2.1≠0/\FCnt most l a=none/\x.1=[]/\x.2.2=a)
def FTk {α:Type} (most:Nat) (p:List UInt8->Nat->Option (α×Nat)) (l:List UInt8) (a:Nat) (y:XTk α):Prop:=
 (y.e=0/\FCnt most l a=some (y.n,y.b)/\y.i<=y.n/\FmanyP p y.i l y.b=some (y.xs,y.at_)/\y.xs.length=y.i/\y.at_<=l.length/\y.n<=most)\/
 (y.e≠0/\¬(FCnt most l a).isSome=true/\y.i=0/\y.n=0/\y.xs=[]/\y.at_<=l.length)
section
variable {α:Type} {most:Nat} {p:List UInt8->Nat->Option (α×Nat)} {l:List UInt8} {a:Nat} {y:XTk α}
theorem tk_start {c:Nat×Int×Nat} (h:FRdOk l a) (hc:FCntR most l a c):FTk most p l a ⟨0,c.1,c.2.2,c.2.2,[],false,c.2.1⟩:=by
 rcases hc with ⟨h0,hc⟩ | ⟨h0,hc,h1,h2⟩
 · have:=FCnt_le h.1 hc
   exact .inl ⟨h0,hc,Nat.zero_le _,rfl,rfl,this.2.2,this.1⟩
 · exact .inr ⟨h0,by rw [hc];simp,rfl,h1,rfl,h2⟩
theorem tk_put {xs:List α} {x d:α} {i k:Nat} (hl:xs.length=i):(k<i->(xs++[x]).getD k d=xs.getD k d)/\(xs++[x]).getD i d=x:=by
 subst hl
 constructor
 · intro hk;simp [List.getD,List.getElem?_append_left hk]
 · simp [List.getD]
theorem leL_row (r:Nat) (x:LRow):leL (rowC r x) (rowC r x):=by simp [leL,leV,leR,rowC]
theorem leL_out (r:Nat) (x:LOut):leL (outC r x) (outC r x):=by simp [leL,leV,leR,outC,rowsV,rowC]
theorem row_elem {xs:List LRow} {x:LRow} {n i:Nat} (hl:xs.length=n) (hi:i<n+1):
 leL (rowC 1 ((xs++[x]).getD i (LRow.mk [] []))) (bif Nat.blt i n then rowC 1 (xs.getD (0+i) (LRow.mk [] [])) else List.take 2 (List.drop ((0+(i-n))*2) (rowC 1 x))):=by
 have ht:=tk_put (x:=x) (d:=LRow.mk [] []) (k:=i) hl
 rcases Nat.lt_or_ge i n with h | h
 · rw [show Nat.blt i n=true from by rw [Nat.blt_eq];exact h,ht.1 h,Nat.zero_add];exact leL_row _ _
 · obtain rfl:i=n:=by omega
   rw [show Nat.blt i i=false from by rw [<-Bool.not_eq_true,Nat.blt_eq];omega,ht.2]
   simp only [cond_false,Nat.sub_self,Nat.add_zero,Nat.zero_mul,List.drop_zero]
   exact leL_row _ _
theorem out_elem {xs:List LOut} {x:LOut} {n i:Nat} (hl:xs.length=n) (hi:i<n+1):
 leL (outC 1 ((xs++[x]).getD i (LOut.mk false [] []))) (bif Nat.blt i n then outC 1 (xs.getD (0+i) (LOut.mk false [] [])) else List.take 3 (List.drop ((0+(i-n))*3) (outC 1 x))):=by
 have ht:=tk_put (x:=x) (d:=LOut.mk false [] []) (k:=i) hl
 rcases Nat.lt_or_ge i n with h | h
 · rw [show Nat.blt i n=true from by rw [Nat.blt_eq];exact h,ht.1 h,Nat.zero_add];exact leL_out _ _
 · obtain rfl:i=n:=by omega
   rw [show Nat.blt i i=false from by rw [<-Bool.not_eq_true,Nat.blt_eq];omega,ht.2]
   simp only [cond_false,Nat.sub_self,Nat.add_zero,Nat.zero_mul,List.drop_zero]
   exact leL_out _ _
theorem tk_ok (h:FTk most p l a y) (hr:FRdOk l a):FRdOk l y.at_:=by
 rcases h with h | h
 · exact ⟨h.2.2.2.2.2.1,hr.2⟩
 · exact ⟨h.2.2.2.2.2,hr.2⟩
theorem tk_n (h:FTk most p l a y):y.n<=most/\y.i<=y.n/\y.xs.length=y.i:=by
 rcases h with h | h
 · exact ⟨h.2.2.2.2.2.2,h.2.2.1,h.2.2.2.2.1⟩
 · obtain ⟨_,_,h1,h2,h3,_⟩:=h
   rw [h1,h2,h3];exact ⟨Nat.zero_le _,Nat.le_refl _,rfl⟩
theorem tk_step {x:α×Nat} (h:FTk most p l a y) (he:y.e=0) (hi:(y.i:Int)<(y.n:Int)) (hx:p l y.at_=some x) (hb:x.2<=l.length):FTk most p l a ⟨y.i+1,y.n,y.b,x.2,y.xs++[x.1],true,0⟩:=by
 rcases h with ⟨_,h1,h2,h3,h4,h5,h6⟩ | h
 · refine .inl ⟨rfl,h1,by show y.i+1<=y.n;omega,?_,by simp [h4],hb,h6⟩
   simp only [FmanyP]
   rw [h3];simp only;rw [hx]
 · exact absurd he h.1
theorem tk_end (h:FTk most p l a y) (he:y.e=0) (hi:¬(y.i:Int)<(y.n:Int)):FtakeP most p l a=some (y.xs,y.at_):=by
 rcases h with ⟨_,h1,h2,h3,h4,h5,h6⟩ | h
 · rw [FtakeP_eq,h1]
   simp only
   rw [show y.n=y.i by omega];exact h3
 · exact absurd he h.1
theorem tk_cnt (h:FTk most p l a y) (he:y.e=0):(FCnt most l a).isSome=true:=by
 rcases h with ⟨_,h1,_⟩ | h
 · rw [h1];rfl
 · exact absurd he h.1
theorem tk_pan (h:FTk most p l a y) (he:y.e=0) (hi:(y.i:Int)<(y.n:Int)) (hx:¬(p l y.at_).isSome=true):FtakeP most p l a=none:=by
 rcases h with ⟨_,h1,h2,h3,h4,h5,h6⟩ | h
 · rw [FtakeP_eq,h1]
   simp only
   refine manyP_none (n:=y.i+1) (by omega) ?_
   simp only [FmanyP]
   rw [h3];simp only
   cases hn:p l y.at_ with
   | none=>rfl
   | some p=>rw [hn] at hx;simp at hx
 · exact absurd he h.1
theorem tk_bad (h:FTk most p l a y) (he:¬y.e=0):¬(FCnt most l a).isSome=true:=by
 rcases h with h | h
 · exact absurd h.1 he
 · exact h.2.1
theorem tkP_pan (h:FTk most p l a y) (he:y.e=0) (hi:(y.i:Int)<(y.n:Int)) (hx:¬(p l y.at_).isSome=true):FTkP most p l a=true:=by
 unfold FTkP;rw [tk_cnt h he,tk_pan h he hi hx];rfl
theorem tkP_bad (h:FTk most p l a y) (he:¬y.e=0):FTkP most p l a=false:=by
 have:=tk_bad h he
 unfold FTkP
 cases hc:(FCnt most l a).isSome with
 | true=>exact absurd hc this
 | false=>rfl
theorem tkP_end (h:FTk most p l a y) (he:y.e=0) (hi:¬(y.e=0/\(y.i:Int)<(y.n:Int))):FTkP most p l a=false:=by
 unfold FTkP;rw [tk_end h he (fun h=>hi ⟨he,h⟩)];simp
theorem tkR_bad (h:FTk most p l a y) (he:¬y.e=0):FTkR most p l a ([],y.e,a):=by
 have:=tk_bad h he
 refine .inr ⟨he,?_,rfl,rfl⟩
 show FCnt most l a=none
 cases hc:FCnt most l a with
 | none=>rfl
 | some x=>rw [hc] at this;simp at this
theorem tkR_end (h:FTk most p l a y) (he:y.e=0) (hi:¬(y.e=0/\(y.i:Int)<(y.n:Int))):FTkR most p l a (y.xs,0,y.at_):= .inl ⟨rfl,tk_end h he (fun h=>hi ⟨he,h⟩)⟩
end
noncomputable def sp_TakeRow:FSpec where
 X:=XRd
 pre x:=FRdOk x.l x.a
 args x:=[.ptr 0 0 0 0,.int .i64 64,.fn Id.calls_readRow [] []]
 base:=[0]
 own x:=rdO x.l x.a
 out x:= .ask (FTkP 64 FPRow x.l x.a) (.ex Nat (fun _=>True) fun b=> .pan refusedV (rdO x.l b))
  (.ex (List LRow×Int×Nat) (FTkR 64 FPRow x.l x.a) fun p=> .ret (.tup [rowsV 1 p.1,.int .i64 p.2.1]) (rdO x.l p.2.2))
noncomputable def an_TakeRow (x:XRd):Nat->Option Cut
 | 0=>some {X:=XTk LRow,pre:=fun y=>FTk 64 FPRow x.l x.a y
            tm:=fun y=>[(0,.ptr 0 0 0 0),(2,.fn Id.calls_readRow [] []),(8,.int .i64 x.a),(9,.int .i64 y.n),(10,.int .i64 y.e),(11,.sl 1 2 0 y.i y.i y.op),(12,.int .i64 y.i)]
            own:=fun y=>[(0,.cells [.bytes 1 true x.l,.int .i64 y.at_] Ty.wire_Reader),(1,.arr y.i 2 (fun k=>rowC 1 (y.xs.getD k (LRow.mk [] []))) Ty.api_Row)]
            mu:=fun y=>y.n-y.i}
 | _=>none
noncomputable def Sp_TakeRow:List (Nat×FSpec):=[(Id.wire_Reader_count,sp_count),(Id.calls_readRow,sp_readRow)]
def vc_TakeRow:Prop:=FnVC Tryz.cy Sp_TakeRow Id.wire_Take_api_Row sp_TakeRow an_TakeRow 10
noncomputable def sp_readOut:FSpec where
 X:=XRd
 pre x:=FRdOk x.l x.a
 args x:=[.ptr 0 0 0 0]
 base:=[0]
 own x:=rdO x.l x.a
 out x:= .ask (FPOut x.l x.a).isSome
  (.ex (LOut×Nat) (fun p=>FPOut x.l x.a=some p) fun p=> .ret (.tup [.agg (outC 1 p.1),.int .i64 0]) (rdO x.l p.2))
  (.ex Nat (fun _=>True) fun b=> .pan refusedV (rdO x.l b))
theorem flR_ok {l:List UInt8} {a:Nat} {x:Bool×Int×Nat} (h:FFlR l a x) (he:¬¬x.2.1=0):FFlagP l a=some (x.1,x.2.2):=by
 rcases h with h | h
 · exact h.2
 · exact absurd h.1 he
theorem flR_no {l:List UInt8} {a:Nat} {x:Bool×Int×Nat} (h:FFlR l a x) (he:¬x.2.1=0):¬(FFlagP l a).isSome=true:=by
 rcases h with h | h
 · exact absurd h.1 he
 · rw [h.2.1];simp
theorem flR_at {l:List UInt8} {a:Nat} {x:Bool×Int×Nat} (ha:FRdOk l a) (h:FFlR l a x):FRdOk l x.2.2:=by
 rcases h with h | h
 · exact ⟨(reads_flag.sound ha.1 h.2).2.2.2,ha.2⟩
 · rw [h.2.2.2];exact ha
theorem tkR_ok {α:Type} {most:Nat} {p:List UInt8->Nat->Option (α×Nat)} {l:List UInt8} {a:Nat} {x:List α×Int×Nat} (h:FTkR most p l a x) (he:¬¬x.2.1=0):FtakeP most p l a=some (x.1,x.2.2):=by
 rcases h with h | h
 · exact h.2
 · exact absurd h.1 he
theorem tkR_no {α:Type} {most:Nat} {p:List UInt8->Nat->Option (α×Nat)} {l:List UInt8} {a:Nat} {x:List α×Int×Nat} (h:FTkR most p l a x) (he:¬x.2.1=0):¬(FtakeP most p l a).isSome=true:=by
 rcases h with h | h
 · exact absurd h.1 he
 · rw [FtakeP_eq,h.2.1];simp
theorem tkP_no {α:Type} {most:Nat} {p:List UInt8->Nat->Option (α×Nat)} {l:List UInt8} {a:Nat} (h:FTkP most p l a=true):¬(FtakeP most p l a).isSome=true:=by
 unfold FTkP at h
 simp only [Bool.and_eq_true,Bool.not_eq_true'] at h
 rw [h.2];simp
section
variable {l:List UInt8} {a:Nat} {x2:Bool×Int×Nat} {x6:List UInt8×Int×Nat} {x10:List LRow×Int×Nat}
theorem out_some (h3:FFlR l a x2) (h4:¬¬x2.2.1=0) (h7:FByR 256 l x2.2.2 x6) (h8:¬¬x6.2.1=0) (h11:FTkR 64 FPRow l x6.2.2 x10) (h12:¬¬x10.2.1=0):FPOut l a=some (⟨x2.1,x6.1,x10.1⟩,x10.2.2):=
 seq_some (f:=fun (h:Bool) (p:List UInt8×List LRow)=>LOut.mk h p.1 p.2) (flR_ok h3 h4) (seq_some (f:=Prod.mk) (byR_ok h7 h8) (tkR_ok h11 h12))
theorem out_no1 (h3:FFlR l a x2) (h4:¬x2.2.1=0):FPOut l a=none:=seq_no1 (flR_no h3 h4)
theorem no_isSome {α:Type} {o:Option α} (h:o=none):¬o.isSome=true:=by rw [h];simp
theorem out_no2 (h3:FFlR l a x2) (h4:¬¬x2.2.1=0) (h7:FByR 256 l x2.2.2 x6) (h8:¬x6.2.1=0):FPOut l a=none:=
 seq_no2 (flR_ok h3 h4) (no_isSome (seq_no1 (f:=Prod.mk) (q:=FPRows) (byR_no h7 h8)))
theorem out_no3 (h3:FFlR l a x2) (h4:¬¬x2.2.1=0) (h7:FByR 256 l x2.2.2 x6) (h8:¬¬x6.2.1=0) (h9:¬(FPRows l x6.2.2).isSome=true):FPOut l a=none:=
 seq_no2 (flR_ok h3 h4) (no_isSome (seq_no2 (f:=Prod.mk) (byR_ok h7 h8) h9))
end
noncomputable def Sp_readOut:List (Nat×FSpec):=[(Id.wire_Reader_Bytes,sp_RdBytes),(Id.wire_Reader_Flag,sp_RdFlag),(Id.wire_Take_api_Row,sp_TakeRow)]
def vc_readOut:Prop:=FnVC Tryz.cy Sp_readOut Id.calls_readOut sp_readOut (fun _ _=>none) 10
noncomputable def sp_TakeOut:FSpec where
 X:=XRd
 pre x:=FRdOk x.l x.a
 args x:=[.ptr 0 0 0 0,.int .i64 16,.fn Id.calls_readOut [] []]
 base:=[0]
 own x:=rdO x.l x.a
 out x:= .ask (FTkP 16 FPOut x.l x.a) (.ex Nat (fun _=>True) fun b=> .pan refusedV (rdO x.l b))
  (.ex (List LOut×Int×Nat) (FTkR 16 FPOut x.l x.a) fun p=> .ret (.tup [outsV 1 p.1,.int .i64 p.2.1]) (rdO x.l p.2.2))
noncomputable def an_TakeOut (x:XRd):Nat->Option Cut
 | 0=>some {X:=XTk LOut,pre:=fun y=>FTk 16 FPOut x.l x.a y
            tm:=fun y=>[(0,.ptr 0 0 0 0),(2,.fn Id.calls_readOut [] []),(8,.int .i64 x.a),(9,.int .i64 y.n),(10,.int .i64 y.e),(11,.sl 1 3 0 y.i y.i y.op),(12,.int .i64 y.i)]
            own:=fun y=>[(0,.cells [.bytes 1 true x.l,.int .i64 y.at_] Ty.wire_Reader),(1,.arr y.i 3 (fun k=>outC 1 (y.xs.getD k (LOut.mk false [] []))) Ty.api_Out)]
            mu:=fun y=>y.n-y.i}
 | _=>none
noncomputable def Sp_TakeOut:List (Nat×FSpec):=[(Id.wire_Reader_count,sp_count),(Id.calls_readOut,sp_readOut)]
def vc_TakeOut:Prop:=FnVC Tryz.cy Sp_TakeOut Id.wire_Take_api_Out sp_TakeOut an_TakeOut 10
end Go.Proofs
