import Derived.Test.YtoajkmdddjnebaaGreatDoorCallsResultsWAp
import Derived.Test.YtoajkmdddjnebaaGreatDoorCallsResultsCKp
import Derived.Test.YtoajkmdddjnebaaGreatDoorCallsResultsCBp
import Derived.Test.YtoajkmdddjnebaaGreatDoorCallsResultsCDp
import Derived.Test.YtoajkmdddjnebaaGreatDoorCallsResultsCEp
import Derived.Test.YtoajkmdddjnebaaGreatDoorCallsResultsCFp
import Derived.Test.YtoajkmdddjnebaaGreatDoorCallsResultsCGp
import Derived.Test.YtoajkmdddjnebaaGreatDoorCallsResultsCHp
import Derived.Test.YtoajkmdddjnebaaGreatDoorCallsResultsCIp
import Derived.Test.YtoajkmdddjnebaaGreatDoorCallsResultsCJp
import Derived.Test.YtoajkmdddjnebaaGreatDoorCallsResultsCLp
import Derived.Test.YtoajkmdddjnebaaGreatDoorCallsResultsSLib
import Derived.Test.YtoajkmdddjnebaaGreatDoorRows
import Derived.WalkKit
import Derived.ProofKit
import Derived.OpenShut
set_option linter.unusedSimpArgs false
set_option linter.unusedVariables false
namespace Go.Proofs.YtoajkmdddjnebaaGreatDoor.callsResults
open Go.Eng Go.ChangeShapes Go.WideShapes Go.ChangeAt Go.RowKit
theorem cyOk:CxOk Tryz.cy Tryz.prog:=CxOk.with Tryz.cxOk (sure_one rfl Tryz.known)
theorem S_wire_NumberO:SpecOk Tryz.cy Id.wire_Number sp_wire_NumberO:=spec_sound .nil (show vc_wire_NumberO from eq_wire_NumberO.mpr pf_wire_NumberO)
theorem S_ref01_Number:SpecOk Tryz.cy Id.wicketref01_Number sp_ref01_Number:=spec_sound .nil (show vc_ref01_Number from eq_ref01_Number.mpr pf_ref01_Number)
theorem S_wire_Reader_Number:SpecOk Tryz.cy Id.wire_Reader_Number sp_wire_Reader_Number:=spec_sound .nil (show vc_wire_Reader_Number from eq_wire_Reader_Number.mpr pf_wire_Reader_Number)
theorem S_names_Key:SpecOk Tryz.cy Id.names_Key sp_Key:=spec_sound .nil (show vc_names_Key from eq_names_Key.mpr pf_names_Key)
theorem S_names_Value:SpecOk Tryz.cy Id.names_Value sp_Value:=spec_sound .nil (show vc_names_Value from eq_names_Value.mpr pf_names_Value)
theorem S_names_Cmp:SpecOk Tryz.cy Id.names_Cmp sp_Cmp:=spec_sound .nil (show vc_names_Cmp from eq_names_Cmp.mpr pf_names_Cmp)
theorem S_ref05_Key:SpecOk Tryz.cy Id.wicketref05_Key sp_Key:=spec_sound .nil (show vc_ref05_Key from eq_ref05_Key.mpr pf_ref05_Key)
theorem S_ref05_Value:SpecOk Tryz.cy Id.wicketref05_Value sp_Value:=spec_sound .nil (show vc_ref05_Value from eq_ref05_Value.mpr pf_ref05_Value)
theorem S_ref05_Cmp:SpecOk Tryz.cy Id.wicketref05_Cmp sp_Cmp:=spec_sound .nil (show vc_ref05_Cmp from eq_ref05_Cmp.mpr pf_ref05_Cmp)
theorem S_wire_Bytes:SpecOk Tryz.cy Id.wire_Bytes sp_wire_Bytes:=spec_sound (SpOk.cons S_wire_NumberO .nil) (show vc_wire_Bytes from eq_wire_Bytes.mpr pf_wire_Bytes)
theorem S_wire_Flag:SpecOk Tryz.cy Id.wire_Flag sp_Flag:=spec_sound .nil (show vc_wire_Flag from eq_wire_Flag.mpr pf_wire_Flag)
theorem S_wire_Join:SpecOk Tryz.cy Id.wire_Join sp_wire_Join:=spec_sound .nil (show vc_wire_Join from eq_wire_Join.mpr pf_wire_Join)
theorem S_row:SpecOk Tryz.cy Id.calls_row sp_row:=spec_sound (SpOk.cons S_wire_Bytes (SpOk.cons S_wire_Join (SpOk.cons S_wire_Flag .nil))) (show vc_row from eq_row.mpr pf_row)
theorem S_PutRow:SpecOk Tryz.cy Id.wire_Put_api_Row sp_PutRow:=spec_sound (SpOk.cons S_row (SpOk.cons S_wire_NumberO .nil)) (show vc_PutRow from eq_PutRow.mpr pf_PutRow)
theorem S_out:SpecOk Tryz.cy Id.calls_out sp_out:=spec_sound (SpOk.cons S_PutRow (SpOk.cons S_wire_Bytes (SpOk.cons S_wire_Join (SpOk.cons S_wire_Flag .nil)))) (show vc_out from eq_out.mpr pf_out)
theorem S_PutOut:SpecOk Tryz.cy Id.wire_Put_api_Out sp_PutOut:=spec_sound (SpOk.cons S_out (SpOk.cons S_wire_NumberO .nil)) (show vc_PutOut from eq_PutOut.mpr pf_PutOut)
theorem S_mayResult:SpecOk Tryz.cy Id.calls_mayResult sp_mayResult:=spec_sound (SpOk.cons S_names_Key (SpOk.cons S_names_Value (SpOk.cons S_names_Cmp .nil))) (show vc_mayResult from eq_mayResult.mpr pf_mayResult)
theorem S_Result:SpecOk Tryz.cy Id.calls_Result sp_Result:=spec_sound (SpOk.cons S_mayResult (SpOk.cons S_wire_NumberO (SpOk.cons S_wire_Join (SpOk.cons S_PutOut .nil)))) (show vc_Result from eq_Result.mpr pf_Result)
theorem S_Open:SpecOk Tryz.cy Id.wire_Open sp_Open:=spec_sound .nil (show vc_Open from eq_Open.mpr pf_Open)
theorem S_count:SpecOk Tryz.cy Id.wire_Reader_count sp_count:=spec_sound (SpOk.cons S_wire_Reader_Number .nil) (show vc_count from eq_count.mpr pf_count)
theorem S_RdBytes:SpecOk Tryz.cy Id.wire_Reader_Bytes sp_RdBytes:=spec_sound (SpOk.cons S_count .nil) (show vc_RdBytes from eq_RdBytes.mpr pf_RdBytes)
theorem S_RdFlag:SpecOk Tryz.cy Id.wire_Reader_Flag sp_RdFlag:=spec_sound .nil (show vc_RdFlag from eq_RdFlag.mpr pf_RdFlag)
theorem S_readRow:SpecOk Tryz.cy Id.calls_readRow sp_readRow:=spec_sound (SpOk.cons S_RdBytes .nil) (show vc_readRow from eq_readRow.mpr pf_readRow)
theorem S_TakeRow:SpecOk Tryz.cy Id.wire_Take_api_Row sp_TakeRow:=spec_sound (SpOk.cons S_count (SpOk.cons S_readRow .nil)) (show vc_TakeRow from eq_TakeRow.mpr pf_TakeRow)
theorem S_readOut:SpecOk Tryz.cy Id.calls_readOut sp_readOut:=spec_sound (SpOk.cons S_RdBytes (SpOk.cons S_RdFlag (SpOk.cons S_TakeRow .nil))) (show vc_readOut from eq_readOut.mpr pf_readOut)
theorem S_TakeOut:SpecOk Tryz.cy Id.wire_Take_api_Out sp_TakeOut:=spec_sound (SpOk.cons S_count (SpOk.cons S_readOut .nil)) (show vc_TakeOut from eq_TakeOut.mpr pf_TakeOut)
theorem S_ReadResult:SpecOk Tryz.cy Id.calls_ReadResult sp_ReadResult:=spec_sound (SpOk.cons S_Open (SpOk.cons S_wire_Reader_Number (SpOk.cons S_TakeOut (SpOk.cons S_mayResult .nil)))) (show vc_ReadResult from eq_ReadResult.mpr pf_ReadResult)
theorem S_rfNumber:SpecOk Tryz.cy Id.wicketref01_Reader_Number sp_rfNumber:=spec_sound .nil (show vc_rfNumber from eq_rfNumber.mpr pf_rfNumber)
theorem S_rfFlag:SpecOk Tryz.cy Id.wicketref01_Reader_Flag sp_rfFlag:=spec_sound .nil (show vc_rfFlag from eq_rfFlag.mpr pf_rfFlag)
theorem S_rfBytes:SpecOk Tryz.cy Id.wicketref01_Reader_Bytes sp_rfBytes:=spec_sound (SpOk.cons S_rfNumber .nil) (show vc_rfBytes from eq_rfBytes.mpr pf_rfBytes)
theorem S_number:SpecOk Tryz.cy Id.wicketref06_number sp_number:=spec_sound (SpOk.cons S_rfNumber .nil) (show vc_number from eq_number.mpr pf_number)
theorem S_piece:SpecOk Tryz.cy Id.wicketref06_piece sp_piece:=spec_sound (SpOk.cons S_rfBytes .nil) (show vc_piece from eq_piece.mpr pf_piece)
theorem S_flag:SpecOk Tryz.cy Id.wicketref06_flag sp_flag:=spec_sound (SpOk.cons S_rfFlag .nil) (show vc_flag from eq_flag.mpr pf_flag)
theorem S_rf01Bytes:SpecOk Tryz.cy Id.wicketref01_Bytes sp_wire_Bytes:=spec_sound (SpOk.cons S_ref01_Number .nil) (show vc_rf01Bytes from eq_rf01Bytes.mpr pf_rf01Bytes)
theorem S_rf01Flag:SpecOk Tryz.cy Id.wicketref01_Flag sp_Flag:=spec_sound .nil (show vc_rf01Flag from eq_rf01Flag.mpr pf_rf01Flag)
theorem S_rMay:SpecOk Tryz.cy Id.wicketref06_MayResult sp_rMay:=spec_sound (SpOk.cons S_ref05_Key (SpOk.cons S_ref05_Value (SpOk.cons S_ref05_Cmp .nil))) (show vc_rMay from eq_rMay.mpr pf_rMay)
theorem S_rForm:SpecOk Tryz.cy Id.wicketref06_FormResult sp_rForm:=spec_sound (SpOk.cons S_ref01_Number (SpOk.cons S_rf01Bytes (SpOk.cons S_rf01Flag .nil))) (show vc_rForm from eq_rForm.mpr pf_rForm)
theorem S_rRead:SpecOk Tryz.cy Id.wicketref06_ReadResult sp_rRead:=spec_sound (SpOk.cons S_number (SpOk.cons S_flag (SpOk.cons S_piece (SpOk.cons S_rMay (SpOk.cons S_rForm .nil))))) (show vc_rRead from eq_rRead.mpr pf_rRead)
theorem S_calls_Alike:SpecOk Tryz.cy Id.calls_Alike sp_Alike:=spec_sound .nil (show vc_calls_Alike from eq_calls_Alike.mpr pf_calls_Alike)
theorem S_ref_Alike:SpecOk Tryz.cy Id.wicketref06_Alike sp_Alike:=spec_sound .nil (show vc_ref_Alike from eq_ref_Alike.mpr pf_ref_Alike)
theorem S_law:SpecOk Tryz.cy Id.wicketlaw06_CallsResults sp_law:=spec_sound (SpOk.cons S_Result (SpOk.cons S_ReadResult (SpOk.cons S_rRead (SpOk.cons S_ref_Alike (SpOk.cons S_rMay (SpOk.cons S_rForm (SpOk.cons S_calls_Alike .nil))))))) (show vc_law from eq_law.mpr pf_law)
section
variable {H:Type}
theorem one_le (d:DataW H):1<=Rows.uptoBulk d:=by
 cases d with
 | lit l=>cases l<;>simp [Rows.uptoBulk]
 | nil=>simp [Rows.uptoBulk]
 | ptr d=>simp [Rows.uptoBulk]
 | slice elems spare=>simp [Rows.uptoBulk]
 | agg parts=>simp [Rows.uptoBulk]
 | iface t d=>simp [Rows.uptoBulk]
 | map entries=>simp [Rows.uptoBulk]
 | held h=>simp [Rows.uptoBulk]
theorem part_le {d:DataW H} {l:List (DataW H)} (h:d∈l):Rows.uptoBulk d<=Rows.uptoBulkAll l:=by
 induction l with
 | nil=>cases h
 | cons x r ih=>
   simp only [Rows.uptoBulkAll]
   cases List.mem_cons.1 h with
   | inl e=>subst e;omega
   | inr e=>have:=ih e;omega
theorem length_le (l:List (DataW H)):l.length<=Rows.uptoBulkAll l:=by
 induction l with
 | nil=>simp [Rows.uptoBulkAll]
 | cons x r ih=>have:=one_le x;simp only [Rows.uptoBulkAll,List.length_cons];omega
theorem u51:Tryz.cy.und 51=Tryz.prog.underlying 51:=und_same cyOk (by kernel_rfl)
theorem u49:Tryz.cy.und 49=Tryz.prog.underlying 49:=und_same cyOk (by kernel_rfl)
theorem u54:Tryz.cy.und 54=Tryz.prog.underlying 54:=und_same cyOk (by kernel_rfl)
theorem u52:Tryz.cy.und 52=Tryz.prog.underlying 52:=und_same cyOk (by kernel_rfl)
theorem u56:Tryz.cy.und 56=Tryz.prog.underlying 56:=und_same cyOk (by kernel_rfl)
theorem u29:Tryz.cy.und 29=Tryz.prog.underlying 29:=und_same cyOk (by kernel_rfl)
theorem u48:Tryz.cy.und 48=Tryz.prog.underlying 48:=und_same cyOk (by kernel_rfl)
theorem u4:Tryz.cy.und 4=Tryz.prog.underlying 4:=und_same cyOk (by kernel_rfl)
theorem u3:Tryz.cy.und 3=Tryz.prog.underlying 3:=und_same cyOk (by kernel_rfl)
theorem z5:Tryz.cy.size 5=some 1:=by kernel_rfl
theorem z54:Tryz.cy.size 54=some 3:=by kernel_rfl
theorem z56:Tryz.cy.size 56=some 2:=by kernel_rfl
theorem b5:isU8 Tryz.cy 5=true:=by kernel_rfl
theorem b54:isU8 Tryz.cy 54=false:=by kernel_rfl
theorem b56:isU8 Tryz.cy 56=false:=by kernel_rfl
theorem bytesD {n:Nat} {d:DataW H} {l:List SV} (h:isD Tryz.cy (n+1) 29 d l):∃bs,l=[.bytes 0 false bs]/\bs.length<Rows.uptoBulk d:=by
 obtain ⟨bs,rfl,⟨rfl,rfl⟩ | ⟨spare,rfl⟩⟩:=isD_bytes (u29.trans Tryz.underlying29) z5 b5 h
 · exact ⟨[],rfl,by simp [Rows.uptoBulk]⟩
 · refine ⟨bs,rfl,?_⟩
   have:=length_le (bs.map fun b=>DataW.lit (H:=H) (.int .u8 b.toNat))
   simp only [List.length_map] at this
   simp only [Rows.uptoBulk]
   omega
theorem rowD {n:Nat} {d:DataW H} {l:List SV} (h:isD Tryz.cy (n+2) 56 d l):∃x:LRow,l=rowC 0 x/\x.key.length<Rows.uptoBulk d/\x.value.length<Rows.uptoBulk d:=by
 obtain ⟨ds,rfl,hf⟩:=isD_struct (u56.trans Tryz.underlying56) h
 obtain ⟨d1,ds,l1,r,rfl,rfl,h1,hf⟩:=isDF_cons hf
 obtain ⟨d2,ds,l2,r,rfl,rfl,h2,hf⟩:=isDF_cons hf
 obtain ⟨rfl,rfl⟩:=isDF_nil hf
 obtain ⟨x1,rfl,e1⟩:=bytesD h1
 obtain ⟨x2,rfl,e2⟩:=bytesD h2
 simp only [Rows.uptoBulk,Rows.uptoBulkAll]
 exact ⟨⟨x1,x2⟩,rfl,by simp only;omega,by simp only;omega⟩
theorem getD_mk {α:Type} (g:Nat->α) (n:Nat) (d:α) {i:Nat} (h:i<n):((List.range n).map g).getD i d=g i:=by
 simp [List.getD,h]
def SmOut (o:LOut):Prop:=o.rows.length<1048577/\o.value.length<1048577/\
 ∀k,k<o.rows.length->(o.rows.getD k (LRow.mk [] [])).key.length<1048577/\(o.rows.getD k (LRow.mk [] [])).value.length<1048577
theorem outD {n:Nat} {d:DataW H} {l:List SV} (h:isD Tryz.cy (n+4) 54 d l) (hb:Rows.uptoBulk d<=1048576):∃o:LOut,leL (outC 0 o) l/\SmOut o:=by
 obtain ⟨ds,rfl,hf⟩:=isD_struct (u54.trans Tryz.underlying54) h
 obtain ⟨d1,ds,l1,r,rfl,rfl,h1,hf⟩:=isDF_cons hf
 obtain ⟨d2,ds,l2,r,rfl,rfl,h2,hf⟩:=isDF_cons hf
 obtain ⟨d3,ds,l3,r,rfl,rfl,h3,hf⟩:=isDF_cons hf
 obtain ⟨rfl,rfl⟩:=isDF_nil hf
 obtain ⟨x1,_,rfl⟩:=isD_bool (u4.trans Tryz.underlying4) h1
 obtain ⟨x2,rfl,e2⟩:=bytesD h2
 simp only [Rows.uptoBulk,Rows.uptoBulkAll] at hb
 obtain ⟨m,f,rfl,⟨rfl,rfl⟩ | ⟨elems,spare,rfl,rfl,he⟩⟩:=isD_slice (u52.trans Tryz.underlying52) z56 b56 h3
 · exact ⟨⟨x1,x2,[]⟩,by simp [leL,leV,leR,outC,rowsV],⟨by simp,by simp only;omega,fun k hk=>absurd hk (by simp)⟩⟩
 · simp only [Rows.uptoBulk,Rows.uptoBulkAll] at hb
   have hlen:=length_le elems
   have key:∀i,∃o:LRow,i<elems.length->f i=rowC 0 o/\o.key.length<1048577/\o.value.length<1048577:=by
    intro i
    by_cases hi:i<elems.length
    · have hp:=part_le (List.getElem_mem hi)
      obtain ⟨o,h1,h2,h3⟩:=rowD (he i elems[i] (List.getElem?_eq_getElem hi))
      exact ⟨o,fun _=>⟨h1,by omega,by omega⟩⟩
    · exact ⟨⟨[],[]⟩,fun h=>absurd h hi⟩
   obtain ⟨g,hg⟩:=Classical.skolem.1 key
   have hl:((List.range elems.length).map g).length=elems.length:=by simp
   refine ⟨⟨x1,x2,(List.range elems.length).map g⟩,?_,⟨?_,?_,fun k hk=> ?_⟩⟩
   · simp only [List.append_nil,List.cons_append,List.nil_append,leL,leV,leR,outC,rowsV,hl,and_true,true_and]
     refine ⟨⟨by decide,fun h=>h⟩,by decide,fun h=>h,fun i hi=> ?_⟩
     rw [getD_mk g _ _ hi,(hg i hi).1]
     simp [leL,leV,leR,rowC]
   · simp only [hl];omega
   · simp only;omega
   · simp only [hl] at hk
     simp only [getD_mk g _ _ hk]
     exact (hg k hk).2
theorem resD {n:Nat} {d:DataW H} {l:List SV} (h:isD Tryz.cy (n+6) 51 d l) (hb:Rows.uptoBulk d<=1048576):∃o:LRes,leL (resC 0 o) l/\FSm o:=by
 obtain ⟨ds,rfl,hf⟩:=isD_struct (u51.trans Tryz.underlying51) h
 obtain ⟨d1,ds,l1,r,rfl,rfl,h1,hf⟩:=isDF_cons hf
 obtain ⟨d2,ds,l2,r,rfl,rfl,h2,hf⟩:=isDF_cons hf
 obtain ⟨d3,ds,l3,r,rfl,rfl,h3,hf⟩:=isDF_cons hf
 obtain ⟨rfl,rfl⟩:=isDF_nil hf
 obtain ⟨x1,_,rfl,_⟩:=isD_int (u48.trans Tryz.underlying48) h1
 obtain ⟨x2,_,rfl,_⟩:=isD_int (u3.trans Tryz.underlying3) h2
 obtain ⟨m,f,rfl,⟨rfl,rfl⟩ | ⟨elems,spare,rfl,rfl,he⟩⟩:=isD_slice (u49.trans Tryz.underlying49) z54 b54 h3
 · exact ⟨⟨x1,x2,[]⟩,by simp [leL,leV,leR,resC,outsV],⟨by simp,fun i hi=>absurd hi (by simp)⟩⟩
 · simp only [Rows.uptoBulk,Rows.uptoBulkAll] at hb
   have hlen:=length_le elems
   have key:∀i,∃o:LOut,i<elems.length->leL (outC 0 o) (f i)/\SmOut o:=by
    intro i
    by_cases hi:i<elems.length
    · have hp:=part_le (List.getElem_mem hi)
      obtain ⟨o,h1,h2⟩:=outD (he i elems[i] (List.getElem?_eq_getElem hi)) (by omega)
      exact ⟨o,fun _=>⟨h1,h2⟩⟩
    · exact ⟨⟨false,[],[]⟩,fun h=>absurd h hi⟩
   obtain ⟨g,hg⟩:=Classical.skolem.1 key
   have hl:((List.range elems.length).map g).length=elems.length:=by simp
   refine ⟨⟨x1,x2,(List.range elems.length).map g⟩,?_,⟨?_,fun i hi=> ?_⟩⟩
   · simp only [List.append_nil,List.cons_append,List.nil_append,leL,leV,leR,resC,outsV,hl,and_true,true_and]
     refine ⟨by decide,fun h=>h,fun i hi=> ?_⟩
     rw [getD_mk g _ _ hi]
     exact (hg i hi).1
   · simp only [hl];omega
   · simp only [hl] at hi
     simp only [getD_mk g _ _ hi]
     exact (hg i hi).2
theorem lawD {ds:List (DataW H)} {av:List SV} (h:isArgs Tryz.cy 8 [51,29] ds av) (hb:Rows.uptoBulkAll ds<=1048576):∃x:XLw,sp_law.pre x/\leTs (sp_law.args x) av:=by
 obtain ⟨d1,ds,a1,av,rfl,rfl,h1,h⟩:=isArgs_cons h
 obtain ⟨d2,ds,a2,av,rfl,rfl,h2,h⟩:=isArgs_cons h
 obtain ⟨rfl,rfl⟩:=isArgs_nil h
 simp only [isArg,u51,u29,Tryz.underlying51,Tryz.underlying29] at h1 h2
 obtain ⟨l1,rfl,h1⟩:=h1
 simp only [Rows.uptoBulkAll] at hb
 obtain ⟨r,hr,hr'⟩:=resD h1 (by omega)
 obtain ⟨b,e,hb'⟩:=bytesD h2
 cases e
 refine ⟨⟨r,b⟩,⟨hr',by show b.length<_;omega⟩,hr,?_,trivial⟩
 simp [leT,leV,leR]
end
set_option maxRecDepth 100000 in
theorem contract (H:Type) (enc:TypeId×Value->H) (W:World) (base:Nat) (args:Array Value) (ds gs:List (DataW H)) (before:List MemPlace)
 (hval:∀(j:Nat) t v,Tryz.f6.params[j]? =some t->args[j]? =some v->Value.okWide Tryz.prog W .any base t v)
 (hW:DataW.Whole enc Tryz.prog Tryz.f6.params.toList Rows.callsResultsSpec.vars false W args.toList ds gs before) (hk:Rows.uptoSmall H (ds++gs)=true) (hsh:W.ShapedOpen Tryz.prog):
 Calls Tryz.prog 6 args W fun e W'=>∃v,e= .returned v/\Rows.callsResultsSpec.post enc Tryz.prog Tryz.f6 false true false false W args v W':=by
 have hW':=hW
 obtain ⟨p,q,hA0,hV,rfl,hfz,hnd⟩:=hW
 have hA:DataW.TrodAll enc Tryz.prog W 0 (fun _=>true) true [51,29] args.toList ds p:=hA0
 rw [Tryz.params6] at hval
 obtain ⟨rfl,rfl⟩:=trodVars_none hV
 obtain ⟨d1,d2,rfl⟩:∃d1 d2,ds=[d1,d2]:=by
  obtain ⟨_,_,d1,d2,_,_,_,h,_⟩:=trodAll_two hA
  exact ⟨d1,d2,h⟩
 simp only [List.append_nil] at hW' hk
 obtain ⟨m,hm⟩:=Tryz.maxCell W hsh
 obtain ⟨B⟩:=bd_start (C:=Tryz.cy) (g:=0) (t:=3) (by decide) rfl (by kernel_rfl) hm
 have hv:∀(j:Nat) t v,[51,29][j]? =some t->args.toList[j]? =some v->Value.okWide Tryz.prog W .any base t v:=by
  intro j t v ht hv
  exact hval j t v (arr_get ht) (arr_get' hv)
 obtain ⟨B',vs,av,_,hok,hden,hrl,his⟩:=top_args cyOk (fun _=>rfl) (n:=8) [51,29] args.toList [d1,d2] p B (by kernel_rfl) hv hA
 obtain ⟨x,hx,hle⟩:=lawD his (of_decide_eq_true hk)
 have walk:=top_law cyOk (f:=6) (fn:=Tryz.f6) (by kernel_rfl) (by kernel_rfl) S_law x hx rfl rfl B' (leTs_rel B'.hFH hle hrl) hok
 rw [hden] at walk
 refine walk.mono fun e W' ⟨he,hg⟩=> ?_
 subst he
 have hlt:∀y∈p,y.block<W.heap.size:=fun y hy=>hW'.lt y hy
 exact ⟨_,rfl,post_below (pa:=p) (pv:=[]) hW' (fun _ _ _=>trodAll_cons_mk (shut_bool Tryz.underlying4 _) trodAll_mk0)
  (fun sp hsp=>stays_all (by kernel_rfl) [51,29] _ _ p (by kernel_rfl) hA (fun y hy=>hg.same (hlt y hy)) hsp) (fun _ _=>rfl) (by simp)
  hg (ok_one (by kernel_rfl) rfl (okWide_bool_mk Tryz.underlying4 _))⟩
end Go.Proofs.YtoajkmdddjnebaaGreatDoor.callsResults
