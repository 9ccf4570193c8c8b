import Derived.Test.YtoajkmdddjnebaaGreatDoorCallsResultsCD
set_option linter.unusedSimpArgs false
set_option linter.unusedVariables false
namespace Go.Proofs
open Go.Eng
def FDecR' (b:List UInt8) (p:LRes×Int):Prop:=(p.2=0/\FDec b=some p.1)\/(p.2=4/\FDec b=none/\p.1=⟨0,0,[]⟩)
theorem dec_none {b:List UInt8} (h:FDec0 b=none):FDecR' b (⟨0,0,[]⟩,4):= .inr ⟨rfl,by unfold FDec;rw [h],rfl⟩
theorem dec_bad {b:List UInt8} {x:LRes} {a:Nat} (h:FDec0 b=some (x,a)) (hn:¬(a=b.length/\PMay x)):FDecR' b (⟨0,0,[]⟩,4):=by
 refine .inr ⟨rfl,?_,rfl⟩
 show FDec b=none
 cases hd:FDec b with
 | none=>rfl
 | some y=>
   obtain ⟨h1,h2⟩:=FDec_some.1 hd
   rw [h] at h1
   cases h1
   exact absurd ⟨rfl,h2⟩ hn
theorem dec_yes {b:List UInt8} {x:LRes} {a:Nat} (h:FDec0 b=some (x,a)) (ha:a=b.length) (hm:FMay x=true):FDecR' b (x,0):=by
 subst ha
 exact .inl ⟨rfl,FDec_some.2 ⟨h,FMay_true.1 hm⟩⟩
section
variable {b:List UInt8} {x3 x8:Nat×Nat} {q:Int}
theorem w4096 {n:Nat} (h:¬(4096:Int)<(n:Int)):IntKind.i64.wrap (n:Int)=(n:Int):=by rw [wrap_i64];omega
theorem num_none {l:List UInt8} {a:Nat} (h:¬(FNumP l a).isSome=true):FNumP l a=none:=by
 cases hn:FNumP l a with
 | none=>rfl
 | some p=>rw [hn] at h;simp at h
theorem dec1 (h:¬(FNumP b 0).isSome=true):FDec0 b=none:=by unfold FDec0;rw [num_none h]
theorem dec2 (h4:FNumP b 0=some x3) (h5:(4096:Int)<(x3.1:Int)):FDec0 b=none:=by unfold FDec0;rw [h4];simp only;rw [if_pos (by omega)]
theorem dec3 (h4:FNumP b 0=some x3) (h5:¬(4096:Int)<(x3.1:Int)) (h6:¬IntKind.i64.wrap (x3.1:Int)=0) (h7:¬(FNumP b x3.2).isSome=true):FDec0 b=none:=by
 rw [w4096 h5] at h6
 unfold FDec0;rw [h4];simp only;rw [if_neg (by omega),if_neg (by omega),num_none h7]
theorem dec4 (h4:FNumP b 0=some x3) (h5:¬(4096:Int)<(x3.1:Int)) (h6:¬IntKind.i64.wrap (x3.1:Int)=0) (h9:FNumP b x3.2=some x8) (h10:(4096:Int)<(x8.1:Int)):FDec0 b=none:=by
 rw [w4096 h5] at h6
 unfold FDec0;rw [h4];simp only;rw [if_neg (by omega),if_neg (by omega),h9];simp only;rw [if_pos (by omega)]
theorem dec5 (h4:FNumP b 0=some x3) (h5:¬(4096:Int)<(x3.1:Int)) (h6:¬IntKind.i64.wrap (x3.1:Int)=0) (h9:FNumP b x3.2=some x8) (h10:¬(4096:Int)<(x8.1:Int)):
 FDec0 b=some (⟨IntKind.i64.wrap (x3.1:Int),IntKind.i64.wrap (x8.1:Int),[]⟩,x8.2):=by
 rw [w4096 h10]
 rw [w4096 h5] at h6 ⊢
 unfold FDec0;rw [h4];simp only;rw [if_neg (by omega),if_neg (by omega),h9];simp only;rw [if_neg (by omega)]
theorem dec6 (h4:FNumP b 0=some x3) (h5:¬(4096:Int)<(x3.1:Int)) (h6:¬¬IntKind.i64.wrap (x3.1:Int)=0) (h7:¬(FtakeP 16 FPOut b x3.2).isSome=true):FDec0 b=none:=by
 rw [w4096 h5] at h6
 have h7':FPOuts b x3.2=none:=by
  show FtakeP 16 FPOut b x3.2=none
  cases hn:FtakeP 16 FPOut b x3.2 with
  | none=>rfl
  | some p=>rw [hn] at h7;simp at h7
 unfold FDec0;rw [h4];simp only;rw [if_neg (by omega),if_pos (by omega),h7']
theorem dec7 {x:List LOut×Int×Nat} (h4:FNumP b 0=some x3) (h5:¬(4096:Int)<(x3.1:Int)) (h6:¬¬IntKind.i64.wrap (x3.1:Int)=0) (h9:FTkR 16 FPOut b x3.2 x) (h10:¬¬x.2.1=0):
 FDec0 b=some (⟨IntKind.i64.wrap (x3.1:Int),0,x.1⟩,x.2.2):=by
 rw [Classical.not_not.1 h6]
 rw [w4096 h5] at h6
 have h7':FPOuts b x3.2=some (x.1,x.2.2):=tkR_ok h9 h10
 unfold FDec0;rw [h4];simp only;rw [if_neg (by omega),if_pos (by omega),h7']
theorem dec_at (h4:FNumP b 0=some x3):x3.2<=b.length:=(reads_num.sound (Nat.zero_le _) h4).2.2.2
theorem dec_at2 (h4:FNumP b 0=some x3) (h9:FNumP b x3.2=some x8):x8.2<=b.length:=(reads_num.sound (dec_at h4) h9).2.2.2
theorem dec_at3 {x:List LOut×Int×Nat} (h4:FNumP b 0=some x3) (h9:FTkR 16 FPOut b x3.2 x) (h10:¬¬x.2.1=0):x.2.2<=b.length/\okOuts x.1:=by
 have h:=reads_outs.sound (a:=x3.2) (dec_at h4) (tkR_ok h9 h10)
 exact ⟨h.2.2.2,h.1⟩
theorem end_q {a:Nat} (hl:b.length<1099511620000) (ha:a<=b.length) (hq:q=IntKind.i64.wrap ((b.length:Int)- (a:Int))):(0<q↔a<b.length)/\(¬0<q↔a=b.length):=by
 rw [wrap_sub2 ha (by omega)] at hq
 omega
theorem sm_nil (a c:Int):FSm ⟨a,c,[]⟩:=⟨by simp,fun i hi=>absurd hi (by simp)⟩
theorem sm_outs {a c:Int} {l:List LOut} (h:okOuts l):FSm ⟨a,c,l⟩:=by
 obtain ⟨h1,h2⟩:=h
 have g:∀{α:Type} {P:α->Prop} {l:List α} {d:α},(∀x∈l,P x)->∀i,i<l.length->P (l.getD i d):=by
  intro α P l d h i hi
  have:l.getD i d=l[i]:=by simp [List.getD,hi]
  rw [this];exact h _ (List.getElem_mem hi)
 refine ⟨by show l.length<_;omega,fun i hi=> ?_⟩
 have ho:okOut (l.getD i ⟨false,[],[]⟩):=g h2 i hi
 obtain ⟨o1,o2,o3⟩:=ho
 refine ⟨by show (l.getD i ⟨false,[],[]⟩).rows.length<_;omega,by show (l.getD i ⟨false,[],[]⟩).value.length<_;omega,fun k hk=> ?_⟩
 have hr:okRow ((l.getD i ⟨false,[],[]⟩).rows.getD k ⟨[],[]⟩):=g o3 k hk
 exact ⟨by have:=hr.1;show ((l.getD i ⟨false,[],[]⟩).rows.getD k ⟨[],[]⟩).key.length<_;omega,by have:=hr.2;show ((l.getD i ⟨false,[],[]⟩).rows.getD k ⟨[],[]⟩).value.length<_;omega⟩
end
noncomputable def sp_ReadResult:FSpec where
 X:=List UInt8
 pre x:=x.length<1099511620000
 args x:=[.bytes 0 false x]
 base:=[]
 own _:=[]
 out x:= .ex (LRes×Int) (FDecR' x) fun p=> .ret (.tup [.agg (resC 1 p.1),.int .i64 p.2]) []
noncomputable def Sp_ReadResult:List (Nat×FSpec):=[(Id.wire_Open,sp_Open),(Id.wire_Reader_Number,sp_wire_Reader_Number),(Id.wire_Take_api_Out,sp_TakeOut),(Id.calls_mayResult,sp_mayResult)]
def vc_ReadResult:Prop:=FnVC Tryz.cy Sp_ReadResult Id.calls_ReadResult sp_ReadResult (fun _ _=>none) 20
end Go.Proofs
