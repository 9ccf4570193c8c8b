import Derived.Test.YtoajkmdddjnebaaGreatDoorCallsResultsCG
set_option linter.unusedSimpArgs false
set_option linter.unusedVariables false
namespace Go.Proofs
open Go.Eng
noncomputable def Sp_NumR:List (Nat×FSpec):=[(Id.wicketref01_Number,sp_ref01_Number)]
def vc_rf01Bytes:Prop:=FnVC Tryz.cy Sp_NumR Id.wicketref01_Bytes sp_wire_Bytes (fun _ _=>none) 10
def vc_rf01Flag:Prop:=FnVC Tryz.cy [] Id.wicketref01_Flag sp_Flag (fun _ _=>none) 10
noncomputable def sp_rMay:FSpec where
 X:=LRes
 pre x:=FSm x
 args x:=[.agg (resC 0 x)]
 base:=[]
 own _:=[]
 out x:= .ret (.bool (FMay x)) []
 pv:=some ⟨fun x=> .bool (FMay x),rfl,fun _=>⟨rfl,rfl⟩⟩
noncomputable def an_rMay (x:LRes):Nat->Option Cut
 | 1=>some {X:=XI,pre:=fun y=>y.i<=x.outs.length/\FHead x/\FOutsTo x y.i
            tm:=fun y=>[(1,.ptr 0 0 0 0),(3,.int .i64 y.i)]
            own:=fun y=>[(0,.cells (resC 0 x) Ty.api_Result)]
            mu:=fun y=>x.outs.length-y.i}
 | 3=>some {X:=XIK,R:=Nat,rel:=some fun r y=>r=y.i,pre:=fun y=>y.i<x.outs.length/\FHead x/\FOutsTo x y.i/\(x.outs.getD y.i (LOut.mk false [] [])).value.length<=256/\y.k<=(x.outs.getD y.i (LOut.mk false [] [])).rows.length/\FRowsTo (x.outs.getD y.i (LOut.mk false [] [])).rows y.k
            tm:=fun y=>[(1,.ptr 0 0 0 0),(3,.int .i64 y.i),(4,rowsV 0 (x.outs.getD y.i (LOut.mk false [] [])).rows),(5,.int .i64 y.k)]
            own:=fun y=>[(0,.cells (resC 0 x) Ty.api_Result)]
            mu:=fun y=>(x.outs.getD y.i (LOut.mk false [] [])).rows.length -y.k}
 | _=>none
noncomputable def Sp_rMay:List (Nat×FSpec):=[(Id.wicketref05_Key,sp_Key),(Id.wicketref05_Value,sp_Value),(Id.wicketref05_Cmp,sp_Cmp)]
def vc_rMay:Prop:=FnVC Tryz.cy Sp_rMay Id.wicketref06_MayResult sp_rMay an_rMay 10
def FW (x:LRes) (i:Nat):List UInt8:=FNum 0++FNum x.outs.length++FCat FOut (x.outs.take i)
def FV (o:LOut) (r:Nat):List UInt8:=FFlag o.has++FBytes o.value++FNum o.rows.length++FCat FRow (o.rows.take r)
theorem cutL_app {A B:List UInt8}:cutL (A++B) 0 (A.length+B.length)=A++B:=by rw [<-List.length_append,cutL_all]
theorem cutL_app3 {A B D:List UInt8}:cutL (A++B++D) 0 (A.length+B.length+D.length)=A++B++D:=by rw [<-List.length_append,<-List.length_append,cutL_all]
section
variable {x:LRes} {i k:Nat} {o:LOut}
theorem fw_le (hi:i<x.outs.length):(FW x i).length+(FOut (x.outs.getD i (LOut.mk false [] []))).length<=10+(FOuts x.outs).length:=by
 have:=FCat_part (e:=FOut) (d:=LOut.mk false [] []) hi
 have:=FNum_len 0
 simp only [FW,FOuts,List.length_append] at*
 omega
theorem fv_le (hk:k<o.rows.length):(FV o k).length+(FRow (o.rows.getD k (LRow.mk [] []))).length<=(FOut o).length:=by
 have:=FCat_part (e:=FRow) (d:=LRow.mk [] []) hk
 simp only [FV,FOut,FRows,List.length_append] at*
 omega
theorem fo_len (o:LOut):(FFlag o.has).length+(FBytes o.value).length+(FNum o.rows.length).length<=(FOut o).length:=by
 simp only [FOut,FRows,List.length_append];omega
theorem fv_end (hk:¬(k:Int)<(o.rows.length:Int)):FV o k=FOut o:=by
 unfold FV FOut FRows
 rw [List.take_of_length_le (by omega)]
 simp
theorem fv_zero (o:LOut):FV o 0=FFlag o.has++FBytes o.value++FNum o.rows.length:=by simp [FV,FCat]
theorem fw_next (hi:i<x.outs.length):FW x (i+1)=FW x i++FOut (x.outs.getD i (LOut.mk false [] [])):=by
 unfold FW;rw [FCat_take (d:=LOut.mk false [] []) hi];simp
theorem fv_next (hk:k<o.rows.length):FV o (k+1)=FV o k++FBytes (o.rows.getD k (LRow.mk [] [])).key++FBytes (o.rows.getD k (LRow.mk [] [])).value:=by
 unfold FV;rw [FCat_take (d:=LRow.mk [] []) hk];simp [FRow]
theorem fw_zero (x:LRes):FW x 0=FNum 0++FNum x.outs.length:=by simp [FW,FCat]
theorem fw_end (h0:x.abort=0) (hi:¬(i:Int)<(x.outs.length:Int)):FRes x=FW x i:=by
 unfold FRes FW FOuts
 rw [if_pos h0,List.take_of_length_le (by omega)]
 simp
theorem res_abort (h:FMay x=true) (h0:¬x.abort=0):FRes x=FNum (IntKind.u64.wrap x.abort).toNat++FNum (IntKind.u64.wrap x.place).toNat:=by
 have:=may_nums (Classical.not_not.2 h) h0
 rw [this.1,this.2]
 unfold FRes;rw [if_neg h0]
theorem fw_pos (x:LRes) (i:Nat):0<(FW x i).length:=by
 have:=FNum_pos 0
 simp only [FW,List.length_append];omega
end
noncomputable def sp_rForm:FSpec where
 X:=LRes
 pre x:=FSm x/\FMay x=true/\(FOuts x.outs).length<1099511624000
 args x:=[.agg (resC 0 x)]
 base:=[]
 own _:=[]
 out x:= .ret (.bytes 1 true (FRes x)) []
 pv:=some ⟨fun x=> .bytes 1 true (FRes x),rfl,fun _=>⟨rfl,rfl⟩⟩
noncomputable def an_rForm (x:LRes):Nat->Option Cut
 | 0=>some {X:=XI,pre:=fun y=>y.i<=x.outs.length/\x.abort=0
            tm:=fun y=>[(1,.ptr 0 0 0 0),(3,.sl 1 1 0 (FW x y.i).length (FW x y.i).length true),(4,.int .i64 y.i)]
            own:=fun y=>[(0,.cells (resC 0 x) Ty.api_Result),(1,.bytes (FW x y.i) Ty.uint8)]
            mu:=fun y=>x.outs.length-y.i}
 | 2=>some {X:=XIK,R:=Nat,rel:=some fun r y=>r=y.i,pre:=fun y=>y.i<x.outs.length/\x.abort=0/\y.k<=(x.outs.getD y.i (LOut.mk false [] [])).rows.length
            tm:=fun y=>[(1,.ptr 0 0 0 0),(3,.sl 1 1 0 (FW x y.i++FV (x.outs.getD y.i (LOut.mk false [] [])) y.k).length (FW x y.i++FV (x.outs.getD y.i (LOut.mk false [] [])) y.k).length true),(4,.int .i64 y.i),(5,.ptr 2 0 0 0),(6,.int .i64 y.k)]
            own:=fun y=>[(0,.cells (resC 0 x) Ty.api_Result),(1,.bytes (FW x y.i++FV (x.outs.getD y.i (LOut.mk false [] [])) y.k) Ty.uint8),(2,.cells (outC 0 (x.outs.getD y.i (LOut.mk false [] []))) Ty.api_Out)]
            mu:=fun y=>(x.outs.getD y.i (LOut.mk false [] [])).rows.length -y.k}
 | _=>none
noncomputable def Sp_rForm:List (Nat×FSpec):=[(Id.wicketref01_Number,sp_ref01_Number),(Id.wicketref01_Bytes,sp_wire_Bytes),(Id.wicketref01_Flag,sp_Flag)]
def vc_rForm:Prop:=FnVC Tryz.cy Sp_rForm Id.wicketref06_FormResult sp_rForm an_rForm 10
end Go.Proofs
