import Derived.Test.YtoajkmdddjnebaaGreatDoorCallsOneCM
set_option linter.unusedSimpArgs false
set_option linter.unusedVariables false
namespace Go.Proofs
open Go.Eng
def FOpT (o:LOp):List UInt8:=if o.kind=2 then FBytes o.value else if o.kind=4 then FFlag o.has++(FBytes o.old++FBytes o.value) else if o.kind=5 then FBytes o.to++FNum o.most.toNat else []
def FOp (o:LOp):List UInt8:=FNum o.kind.toNat++(FBytes o.table++(FBytes o.key++FOpT o))
def FForm (l:List LOp):List UInt8:=FNum l.length++FCat FOp l
def POpKind (o:LOp):Prop:=(o.kind=1\/o.kind=2\/o.kind=3\/o.kind=4\/o.kind=5)/\o.table.length<=16/\o.key.length<=64/\o.value.length<=256/\o.old.length<=256/\o.to.length<=64/\0<=o.most/\o.most<=64
theorem may_kind {o:LOp} (h:FMayOp o=true):POpKind o:=by
 unfold FMayOp at h
 rw [Bool.and_eq_true] at h
 obtain ⟨h1,h2⟩:=h
 have ht:o.table.length<=16:=by
  unfold FTable at h1
  simp only [Bool.and_eq_true,decide_eq_true_eq] at h1
  exact h1.1.2
 unfold POpKind
 by_cases k1:o.kind=1\/o.kind=3
 · rw [if_pos k1] at h2;simp only [FKey,Bool.and_eq_true,decide_eq_true_eq] at h2;omega
 · rw [if_neg k1] at h2
   by_cases k2:o.kind=2
   · rw [if_pos k2] at h2;simp only [FKey,FValue,Bool.and_eq_true,decide_eq_true_eq] at h2;omega
   · rw [if_neg k2] at h2
     by_cases k4:o.kind=4
     · rw [if_pos k4] at h2;simp only [FKey,FValue,Bool.and_eq_true,decide_eq_true_eq] at h2;omega
     · rw [if_neg k4] at h2
       by_cases k5:o.kind=5
       · rw [if_pos k5] at h2;simp only [Bool.and_eq_true,decide_eq_true_eq] at h2;omega
       · rw [if_neg k5] at h2;cases h2
theorem bytes_le (b:List UInt8):(FBytes b).length<=10+b.length:=by unfold FBytes;rw [List.length_append];have:=FNum_len b.length;omega
theorem op_le {o:LOp} (h:FMayOp o=true):(FOp o).length<=1000:=by
 obtain ⟨hk,h1,h2,h3,h4,h5,_⟩:=may_kind h
 have e1:=bytes_le o.table;have e2:=bytes_le o.key;have e3:=bytes_le o.value;have e4:=bytes_le o.old;have e5:=bytes_le o.to
 have e6:=FNum_len o.kind.toNat;have e7:=FNum_len o.most.toNat
 have e8:(FFlag o.has).length=1:=rfl
 unfold FOp FOpT
 simp only [List.length_append]
 split
 · omega
 · split
   · simp only [List.length_append];omega
   · split
     · simp only [List.length_append];omega
     · simp only [List.length_nil];omega
def FH (x:LOp):List UInt8:=FNum x.kind.toNat++(FBytes x.table++FBytes x.key)
section
variable {x:LOp}
theorem u64_nat {k:Int} (h:0<=k) (h':k<18446744073709551616):(IntKind.u64.wrap k).toNat=k.toNat:=by rw [wrap_u64];omega
theorem op_lens (h:FMayOp x=true):(FBytes x.table).length<=26/\(FBytes x.key).length<=74/\(FBytes x.value).length<=266/\(FBytes x.old).length<=266/\(FBytes x.to).length<=74/\(FNum x.kind.toNat).length<=10/\(FNum x.most.toNat).length<=10/\(FFlag x.has).length=1/\
 x.table.length<=16/\x.key.length<=64/\x.value.length<=256/\x.old.length<=256/\x.to.length<=64:=by
 obtain ⟨hk,h1,h2,h3,h4,h5,_⟩:=may_kind h
 have e1:=bytes_le x.table;have e2:=bytes_le x.key;have e3:=bytes_le x.value;have e4:=bytes_le x.old;have e5:=bytes_le x.to
 have e6:=FNum_len x.kind.toNat;have e7:=FNum_len x.most.toNat
 have e8:(FFlag x.has).length=1:=rfl
 refine ⟨?_, ?_, ?_, ?_, ?_, ?_, ?_, ?_, ?_, ?_, ?_, ?_, ?_⟩<;>omega
theorem kind_u64 (h:FMayOp x=true):(IntKind.u64.wrap x.kind).toNat=x.kind.toNat:=by have:=(may_kind h).1;exact u64_nat (by omega) (by omega)
theorem most_u64 (h:FMayOp x=true):(IntKind.u64.wrap x.most).toNat=x.most.toNat:=by obtain ⟨_,_,_,_,_,_,h1,h2⟩:=may_kind h;exact u64_nat (by omega) (by omega)
theorem op2 (h:x.kind=2):FOp x=FH x++FBytes x.value:=by simp [FOp,FOpT,FH,h]
theorem op4 (h:x.kind=4):FOp x=FH x++FFlag x.has++FBytes x.old++FBytes x.value:=by simp [FOp,FOpT,FH,h]
theorem op5 (h:x.kind=5):FOp x=FH x++FBytes x.to++FNum x.most.toNat:=by simp [FOp,FOpT,FH,h]
theorem op0 (h:¬x.kind=2) (h':¬x.kind=4) (h'':¬x.kind=5):FOp x=FH x:=by simp [FOp,FOpT,FH,h,h',h'']
end
noncomputable def sp_form:FSpec where
 X:=LOp
 pre x:=FMayOp x=true
 args x:=[.agg (opC 0 x)]
 base:=[]
 own _:=[]
 out x:= .ret (.bytes 1 true (FOp x)) []
noncomputable def Sp_form:List (Nat×FSpec):=(Id.wire_Number,sp_wire_NumberO)::Sp_row
def vc_form:Prop:=FnVC Tryz.cy Sp_form Id.calls_form sp_form (fun _ _=>none) 10
noncomputable def Sp_rform:List (Nat×FSpec):=[(Id.wicketref01_Number,sp_ref01_Number),(Id.wicketref01_Bytes,sp_wire_Bytes),(Id.wicketref01_Flag,sp_Flag)]
def vc_rform:Prop:=FnVC Tryz.cy Sp_rform Id.wicketref06_form sp_form (fun _ _=>none) 10
theorem forms_len {l:List LOp} (h:FMays l=true):(FForm l).length<1099511624000/\1<=l.length/\l.length<=16/\∀i,i<l.length->FMayOp (l.getD i (LOp.mk 0 [] [] [] false [] [] 0))=true:=by
 unfold FMays at h
 simp only [Bool.and_eq_true,decide_eq_true_eq,List.all_eq_true] at h
 obtain ⟨⟨h1,h2⟩,h3⟩:=h
 have e1:=fcat_le (e:=FOp) (m:=1000) (l:=l) (fun x hx=>op_le (h3 x hx))
 have e2:=FNum_len l.length
 refine ⟨?_,h1,h2,fun i hi=> ?_⟩
 · simp only [FForm,List.length_append];omega
 · rw [show l.getD i (LOp.mk 0 [] [] [] false [] [] 0)=l[i] by simp [List.getD,hi]]
   exact h3 _ (List.getElem_mem hi)
structure XHd where
 k:Nat
 c:Nat
 op:Bool
 buf:List UInt8
noncomputable def sp_PutOp:FSpec where
 X:=List LOp
 pre x:=FMays x=true
 args x:=[opsV 0 x,.fn Id.calls_form [] []]
 base:=[]
 own _:=[]
 out x:= .ex XHd (fun y=>FHold (FForm x) y.k y.c y.op y.buf) fun y=> .ret (.tup [.sl 0 1 0 y.k y.c y.op,.int .i64 0]) [(0,.bytes y.buf Ty.uint8)]
noncomputable def an_PutOp (x:List LOp):Nat->Option Cut
 | 0=>some {X:=XPut,pre:=fun y=>y.i<=x.length/\FHold (FNum x.length++FCat FOp (x.take y.i)) y.k y.c y.op y.buf
            tm:=fun y=>[(1,.fn Id.calls_form [] []),(6,.sl 0 1 0 y.k y.c y.op),(15,opsV 0 x),(16,.int .i64 x.length),(17,.int .i64 y.i)]
            own:=fun y=>[(0,.bytes y.buf Ty.uint8)]
            mu:=fun y=>x.length-y.i}
 | _=>none
noncomputable def Sp_PutOp:List (Nat×FSpec):=[(Id.calls_form,sp_form),(Id.wire_Number,sp_wire_NumberO)]
def vc_PutOp:Prop:=FnVC Tryz.cy Sp_PutOp Id.wire_Put_api_Op sp_PutOp an_PutOp 10
noncomputable def sp_Form:FSpec where
 X:=List LOp
 pre x:=FMays x=true
 args x:=[.agg [opsV 0 x]]
 base:=[]
 own _:=[]
 out x:= .ret (.bytes 1 true (FForm x)) []
 pv:=some ⟨fun x=> .bytes 1 true (FForm x),rfl,fun _=>⟨rfl,rfl⟩⟩
def FFr (x:List LOp) (i:Nat):List UInt8:=FNum x.length++FCat FOp (x.take i)
section
variable {x:List LOp} {i:Nat}
theorem ffr_le (hi:i<x.length):(FFr x i).length+(FOp (x.getD i (LOp.mk 0 [] [] [] false [] [] 0))).length<=(FForm x).length:=by
 have:=FCat_part (e:=FOp) (d:=LOp.mk 0 [] [] [] false [] [] 0) hi
 simp only [FFr,FForm,List.length_append] at*
 omega
theorem ffr_next (hi:i<x.length):FFr x (i+1)=FFr x i++FOp (x.getD i (LOp.mk 0 [] [] [] false [] [] 0)):=by
 unfold FFr;rw [FCat_take (d:=LOp.mk 0 [] [] [] false [] [] 0) hi];simp
theorem ffr_end (hi:¬(i:Int)<(x.length:Int)):FForm x=FFr x i:=put_end hi
theorem ffr_pos:0<(FFr x i).length:=by have:=FNum_pos x.length;simp only [FFr,List.length_append];omega
theorem ffr_zero (h:x.length<1099511627776):FFr x (Int.toNat 0)=FNum (IntKind.u64.wrap (x.length:Int)).toNat:=by rw [FNum_u64 h];simp [FFr,FCat]
theorem mays_len (h:FMays x=true):x.length<1048577:=by have:=forms_len h;omega
end
noncomputable def an_Form (x:List LOp):Nat->Option Cut
 | 0=>some {X:=XI,pre:=fun y=>y.i<=x.length
            tm:=fun y=>[(1,.ptr 0 0 0 0),(3,.sl 1 1 0 (FFr x y.i).length (FFr x y.i).length true),(4,.int .i64 y.i)]
            own:=fun y=>[(0,.cells [opsV 0 x] Ty.api_Call),(1,.bytes (FFr x y.i) Ty.uint8)]
            mu:=fun y=>x.length-y.i}
 | _=>none
noncomputable def Sp_Form:List (Nat×FSpec):=[(Id.wicketref06_form,sp_form),(Id.wicketref01_Number,sp_ref01_Number)]
def vc_Form:Prop:=FnVC Tryz.cy Sp_Form Id.wicketref06_Form sp_Form an_Form 10
def FChk (x:List LOp):Int:=bif FMays x then bif decide ((4096:Int)<((FForm x).length:Int)) then 3 else 0 else 2
theorem chk0 {x:List LOp} (h:FMays x=true) (h':¬(4096:Int)<((FForm x).length:Int)):FChk x=0:=by unfold FChk;rw [h,decide_eq_false h'];rfl
structure XHb where
 k:Nat
 c:Nat
 op:Bool
 buf:List UInt8
 e:Int
def FBy (x:List LOp) (y:XHb):Prop:=y.e=FChk x/\(FChk x=0->FHold (FForm x) y.k y.c y.op y.buf)/\(¬FChk x=0->y.k=0/\y.c=0/\y.op=true/\y.buf=[])
theorem chk3 {x:List LOp} (h:FMays x=true) (h':(4096:Int)<((FForm x).length:Int)):FChk x=3:=by unfold FChk;rw [h,decide_eq_true h'];rfl
theorem chk2 {x:List LOp} (h:¬FMays x=true):FChk x=2:=by
 rw [Bool.not_eq_true] at h
 unfold FChk;rw [h];rfl
theorem by_nil {x:List LOp} {e:Int} (h:FChk x=e) (h0:¬e=0):FBy x ⟨0,0,true,[],e⟩:=⟨h.symm,fun k=>absurd (h.symm.trans k) h0,fun _=>⟨rfl,rfl,rfl,rfl⟩⟩
theorem by_ok {x:List LOp} {k c:Nat} {op:Bool} {buf:List UInt8} (hm:FMays x=true) (h:FHold (FForm x) k c op buf) (hk:¬(4096:Int)<(k:Int)):FBy x ⟨k,c,op,buf,0⟩:=by
 have e:=chk0 hm (by rw [hold_len h];exact hk)
 exact ⟨e.symm,fun _=>h,fun h0=>absurd e h0⟩
theorem by_long {x:List LOp} {k c:Nat} {op:Bool} {buf:List UInt8} (hm:FMays x=true) (h:FHold (FForm x) k c op buf) (hk:(4096:Int)<(k:Int)):FChk x=3:=chk3 hm (by rw [hold_len h];exact hk)
noncomputable def sp_Bytes:FSpec where
 X:=List LOp
 pre x:=FSmOps x
 args x:=[.agg [opsV 0 x]]
 base:=[]
 own _:=[]
 out x:= .ex XHb (fun y=>FBy x y) fun y=> .ret (.tup [.sl 0 1 0 y.k y.c y.op,.int .i64 y.e]) [(0,.bytes y.buf Ty.uint8)]
noncomputable def Sp_Bytes:List (Nat×FSpec):=[(Id.calls_mayCall,sp_mayCall),(Id.wire_Put_api_Op,sp_PutOp)]
def vc_Bytes:Prop:=FnVC Tryz.cy Sp_Bytes Id.calls_Bytes sp_Bytes (fun _ _=>none) 10
noncomputable def sp_Check:FSpec where
 X:=List LOp
 pre x:=FSmOps x
 args x:=[.agg [opsV 0 x]]
 base:=[]
 own _:=[]
 out x:= .ret (.int .i64 (FChk x)) []
 pv:=some ⟨fun x=> .int .i64 (FChk x),rfl,fun _=>⟨rfl,rfl⟩⟩
noncomputable def Sp_Check:List (Nat×FSpec):=[(Id.calls_Bytes,sp_Bytes)]
def vc_Check:Prop:=FnVC Tryz.cy Sp_Check Id.calls_Check sp_Check (fun _ _=>none) 10
noncomputable def Sp_rCheck:List (Nat×FSpec):=[(Id.wicketref06_May,sp_mayCall),(Id.wicketref06_Form,sp_Form)]
def vc_rCheck:Prop:=FnVC Tryz.cy Sp_rCheck Id.wicketref06_Check sp_Check (fun _ _=>none) 10
end Go.Proofs
