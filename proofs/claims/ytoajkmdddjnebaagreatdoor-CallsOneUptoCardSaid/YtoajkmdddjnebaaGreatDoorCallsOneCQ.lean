import Derived.Test.YtoajkmdddjnebaaGreatDoorCallsOneCO
set_option linter.unusedSimpArgs false
set_option linter.unusedVariables false
namespace Go.Proofs
open Go.Eng
def FItoa (n:Nat):List UInt8:=if n<10 then [UInt8.ofNat (48+n)] else [UInt8.ofNat (48+n/10),UInt8.ofNat (48+n%10)]
noncomputable def sp_Itoa:FSpec where
 X:=Int
 pre x:=0<=x/\x<100
 args x:=[.int .i64 x]
 base:=[]
 own _:=[]
 out x:= .ret (.str (FItoa x.toNat)) []
def vc_Itoa:Prop:=FnVC Tryz.cy [] Id.strconv_Itoa sp_Itoa (fun _ _=>none) 10
def FKw (k:Int):List UInt8:=if k=1 then [103,101,116] else if k=2 then [112,117,116] else if k=3 then [100,101,108,101,116,101] else if k=4 then [115,119,97,112] else [115,99,97,110]
def FOld (o:LOp):List UInt8:=if o.has=true then [43]++FTx o.old else [45]
def FWds (o:LOp):List (List UInt8):=[FKw o.kind,o.table,FTx o.key]++(if o.kind=2 then [FTx o.value] else if o.kind=4 then [FOld o,FTx o.value] else if o.kind=5 then [FTx o.to,FItoa o.most.toNat] else [])
def FTxOp (o:LOp):List UInt8:=joinL (FWds o) [32]
theorem itoa_len (n:Nat):(FItoa n).length<=2:=by unfold FItoa;split<;>simp
section
variable {x:LOp}
theorem tx_lens (h:FMayOp x=true):x.table.length<=16/\(FTx x.key).length<=193/\(FTx x.value).length<=769/\(FTx x.old).length<=769/\(FTx x.to).length<=193/\(FItoa x.most.toNat).length<=2/\x.key.length<=64/\x.value.length<=256/\x.old.length<=256/\x.to.length<=64:=by
 obtain ⟨hk,h1,h2,h3,h4,h5,_⟩:=may_kind h
 have e1:=ftx_len x.key;have e2:=ftx_len x.value;have e3:=ftx_len x.old;have e4:=ftx_len x.to
 have e5:=itoa_len x.most.toNat
 refine ⟨h1, ?_, ?_, ?_, ?_,e5,h2,h3,h4,h5⟩<;>omega
theorem most_le (h:FMayOp x=true):0<=x.most/\x.most<100:=by have:=may_kind h;obtain ⟨_,_,_,_,_,_,h1,h2⟩:=this;omega
end
noncomputable def sp_text:FSpec where
 X:=LOp
 pre x:=FMayOp x=true
 args x:=[.agg (opC 0 x)]
 base:=[]
 own _:=[]
 out x:= .ret (.str (FTxOp x)) []
noncomputable def sp_textK (k:Int):FSpec where
 X:=LOp
 pre x:=FMayOp x=true/\x.kind=k
 args x:=[.agg [.int .i64 k,.str x.table,.bytes 0 false x.key,.bytes 0 false x.value,.bool x.has,.bytes 0 false x.old,.bytes 0 false x.to,.int .i64 x.most]]
 base:=[]
 own _:=[]
 out x:= .ret (.str (FTxOp x)) []
theorem text_of {C:Cx} {f:Nat} (h1:SpecOk C f (sp_textK 1)) (h2:SpecOk C f (sp_textK 2)) (h3:SpecOk C f (sp_textK 3)) (h4:SpecOk C f (sp_textK 4)) (h5:SpecOk C f (sp_textK 5)):SpecOk C f sp_text:=by
 intro x hx s g A args hs hl
 have hk:=(may_kind hx).1
 have key:∀k,SpecOk C f (sp_textK k)->x.kind=k->∃out,CallTo C false f args .run s out/\SR C sp_text.base (SS.ofList (sp_text.own x)) s g A out (sp_text.out x):=by
  intro k h e
  refine h x ⟨hx,e⟩ s g A args hs ?_
  have:(sp_textK k).args x=sp_text.args x:=by simp [sp_textK,sp_text,opC,e]
  rw [this];exact hl
 rcases hk with e | e | e | e | e
 · exact key 1 h1 e
 · exact key 2 h2 e
 · exact key 3 h3 e
 · exact key 4 h4 e
 · exact key 5 h5 e
noncomputable def Sp_text:List (Nat×FSpec):=[(Id.names_Text,sp_Text),(Id.strconv_Itoa,sp_Itoa),(Id.strings_Join,sp_Join)]
def vc_text1:Prop:=FnVC Tryz.cy Sp_text Id.calls_text (sp_textK 1) (fun _ _=>none) 10
def vc_text2:Prop:=FnVC Tryz.cy Sp_text Id.calls_text (sp_textK 2) (fun _ _=>none) 10
def vc_text3:Prop:=FnVC Tryz.cy Sp_text Id.calls_text (sp_textK 3) (fun _ _=>none) 10
def vc_text4:Prop:=FnVC Tryz.cy Sp_text Id.calls_text (sp_textK 4) (fun _ _=>none) 10
def vc_text5:Prop:=FnVC Tryz.cy Sp_text Id.calls_text (sp_textK 5) (fun _ _=>none) 10
noncomputable def Sp_line:List (Nat×FSpec):=[(Id.wicketref05_Text,sp_Text),(Id.strconv_Itoa,sp_Itoa)]
def vc_line:Prop:=FnVC Tryz.cy Sp_line Id.wicketref06_line sp_text (fun _ _=>none) 10
end Go.Proofs
