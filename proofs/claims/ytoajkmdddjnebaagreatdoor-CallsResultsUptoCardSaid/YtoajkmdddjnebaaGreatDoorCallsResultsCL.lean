import Derived.Test.YtoajkmdddjnebaaGreatDoorCallsResultsCJ
set_option linter.unusedSimpArgs false
set_option linter.unusedVariables false
namespace Go.Proofs
open Go.Eng
theorem decR_same {b:List UInt8} {p q:LRes×Int} (h:FDecR' b p) (h':FDecR' b q):p=q:=by
 obtain ⟨p1,p2⟩:=p
 obtain ⟨q1,q2⟩:=q
 rcases h with ⟨h1,h2⟩ | ⟨h1,h2,h3⟩<;>rcases h' with ⟨g1,g2⟩ | ⟨g1,g2,g3⟩<;>simp_all
theorem sm_may {x:LRes} (h:PMay x):FSm x:=by
 rcases h with ⟨_,_,h1,h2,h3⟩ | h
 · exact sm_outs (okOuts_of h2 h3)
 · obtain ⟨_,_,_,h⟩:=h
   exact ⟨by rw [h];simp,fun i hi=>absurd hi (by rw [h];simp)⟩
theorem decR_sm {b:List UInt8} {p:LRes×Int} (h:FDecR' b p):FSm p.1:=by
 rcases h with h | h
 · exact sm_may (FDec_some.1 h.2).2
 · rw [h.2.2];exact sm_nil 0 0
theorem decR_back {x:LRes} {p:LRes×Int} (hm:FMay x=true) (h:FDecR' (FRes x) p):p=(x,0):=by
 have hb:=FDec_back (FMay_true.1 hm)
 obtain ⟨p1,p2⟩:=p
 rcases h with ⟨h1,h2⟩ | ⟨h1,h2,h3⟩
 · simp only at h1 h2
   rw [hb] at h2
   cases h2;subst h1;rfl
 · rw [hb] at h2;cases h2
theorem res_short {x:LRes} (hm:FMay x=true):(FRes x).length<1048577:=by
 have hb:∀b:List UInt8,(FBytes b).length<=10+b.length:=fun b=>by unfold FBytes;rw [List.length_append];have:=FNum_len b.length;omega
 have hr:∀r:LRow,okRow r->(FRow r).length<=400:=fun r h=>by
  unfold FRow;rw [List.length_append];have:=hb r.key;have:=hb r.value;obtain ⟨h1,h2⟩:=h;omega
 have ho:∀o:LOut,okOut o->(FOut o).length<=30000:=fun o h=>by
  obtain ⟨h1,h2,h3⟩:=h
  have e1:=fcat_le (e:=FRow) (m:=400) (l:=o.rows) (fun r hx=>hr r (h3 r hx))
  have e2:=FNum_len o.rows.length
  have e3:=hb o.value
  have e4:(FFlag o.has).length=1:=rfl
  simp only [FOut,FRows,List.length_append];omega
 have e0:=FNum_len 0
 unfold FRes
 rcases FMay_true.1 hm with ⟨h0,_,h1,h2,h3⟩ | h
 · rw [if_pos h0]
   obtain ⟨h1,h2⟩:=okOuts_of h2 h3
   have e1:=fcat_le (e:=FOut) (m:=30000) (l:=x.outs) (fun r hx=>ho r (h2 r hx))
   have e2:=FNum_len x.outs.length
   simp only [FOuts,List.length_append];omega
 · rw [if_neg (by omega)]
   have e1:=FNum_len x.abort.toNat
   have e2:=FNum_len x.place.toNat
   simp only [List.length_append];omega
theorem outs_res {x:LRes} (hm:FMay x=true):(FOuts x.outs).length<1099511624000:=outs_short hm
structure XLw where
 r:LRes
 b:List UInt8
structure XLn where
 i:Nat
 t:Int
structure XLm where
 i:Nat
 k:Nat
 t:Int
noncomputable def sp_law:FSpec where
 X:=XLw
 pre x:=FSm x.r/\x.b.length<1048577
 args x:=[.agg (resC 0 x.r),.bytes 0 false x.b]
 base:=[]
 own _:=[]
 out x:= .ret (.bool true) []
noncomputable def an_law (x:XLw):Nat->Option Cut
 | 0=>some {X:=XLn,pre:=fun y=>y.i<=x.r.outs.length
            tm:=fun y=>[(1,.bytes 0 false x.b),(2,.ptr 0 0 0 0),(5,.int .i64 y.t),(6,.int .i64 y.i)]
            own:=fun y=>[(0,.cells (resC 0 x.r) Ty.api_Result)]
            mu:=fun y=>x.r.outs.length-y.i}
 | 2=>some {X:=XLm,R:=Nat,rel:=some fun r y=>r=y.i,pre:=fun y=>y.i<x.r.outs.length/\y.k<=(x.r.outs.getD y.i (LOut.mk false [] [])).rows.length
            tm:=fun y=>[(1,.bytes 0 false x.b),(2,.ptr 0 0 0 0),(5,.int .i64 y.t),(6,.int .i64 y.i),(7,.int .i64 y.k)]
            own:=fun y=>[(0,.cells (resC 0 x.r) Ty.api_Result)]
            mu:=fun y=>(x.r.outs.getD y.i (LOut.mk false [] [])).rows.length -y.k}
 | _=>none
noncomputable def Sp_law:List (Nat×FSpec):=[(Id.calls_Result,sp_Result),(Id.calls_ReadResult,sp_ReadResult),(Id.wicketref06_ReadResult,sp_rRead),(Id.wicketref06_Alike,sp_Alike),(Id.wicketref06_MayResult,sp_rMay),(Id.wicketref06_FormResult,sp_rForm),(Id.calls_Alike,sp_Alike)]
def vc_law:Prop:=FnVC Tryz.cy Sp_law Id.wicketlaw06_CallsResults sp_law an_law 10
end Go.Proofs
