import Derived.Test.YtoajkmdddjnebaaGreatDoorCallsOneWAp
import Derived.Test.YtoajkmdddjnebaaGreatDoorCallsOneCKp
import Derived.Test.YtoajkmdddjnebaaGreatDoorCallsOneCBp
import Derived.Test.YtoajkmdddjnebaaGreatDoorCallsOneCMp
import Derived.Test.YtoajkmdddjnebaaGreatDoorCallsOneCNp
import Derived.Test.YtoajkmdddjnebaaGreatDoorCallsOneCOp
import Derived.Test.YtoajkmdddjnebaaGreatDoorCallsOneCQp
import Derived.Test.YtoajkmdddjnebaaGreatDoorCallsOneCSp
import Derived.Test.YtoajkmdddjnebaaGreatDoorCallsOneCTp
import Derived.Test.YtoajkmdddjnebaaGreatDoorCallsOneSLib
import Derived.Test.YtoajkmdddjnebaaGreatDoorCallsOneSJoin
import Derived.Test.YtoajkmdddjnebaaGreatDoorRows
import Derived.WalkKit
import Derived.ProofKit
import Derived.OpenShut
set_option linter.unusedSimpArgs false
set_option linter.unusedVariables false
namespace Go.Proofs.YtoajkmdddjnebaaGreatDoor.callsOne
open Go.Eng Go.ChangeShapes Go.WideShapes Go.ChangeAt Go.RowKit
theorem cyOk:CxOk Tryz.cy Tryz.prog:=CxOk.withJoin (CxOk.with Tryz.cxOk (sure_one rfl Tryz.known)) Tryz.joinOk
theorem S_join:SpecOk Tryz.cy Id.strings_Join sp_Join:=join_ok (fn:=Tryz.f81) rfl (by kernel_rfl) (by kernel_rfl)
theorem S_wire_NumberO:SpecOk Tryz.cy Id.wire_Number sp_wire_NumberO:=spec_sound .nil (show vc_wire_NumberO from eq_wire_NumberO.mpr pf_wire_NumberO)
theorem S_ref01_Number:SpecOk Tryz.cy Id.wicketref01_Number sp_ref01_Number:=spec_sound .nil (show vc_ref01_Number from eq_ref01_Number.mpr pf_ref01_Number)
theorem S_names_Key:SpecOk Tryz.cy Id.names_Key sp_Key:=spec_sound .nil (show vc_names_Key from eq_names_Key.mpr pf_names_Key)
theorem S_names_Value:SpecOk Tryz.cy Id.names_Value sp_Value:=spec_sound .nil (show vc_names_Value from eq_names_Value.mpr pf_names_Value)
theorem S_ref05_Key:SpecOk Tryz.cy Id.wicketref05_Key sp_Key:=spec_sound .nil (show vc_ref05_Key from eq_ref05_Key.mpr pf_ref05_Key)
theorem S_ref05_Value:SpecOk Tryz.cy Id.wicketref05_Value sp_Value:=spec_sound .nil (show vc_ref05_Value from eq_ref05_Value.mpr pf_ref05_Value)
theorem S_wire_Bytes:SpecOk Tryz.cy Id.wire_Bytes sp_wire_Bytes:=spec_sound (SpOk.cons S_wire_NumberO .nil) (show vc_wire_Bytes from eq_wire_Bytes.mpr pf_wire_Bytes)
theorem S_wire_Flag:SpecOk Tryz.cy Id.wire_Flag sp_Flag:=spec_sound .nil (show vc_wire_Flag from eq_wire_Flag.mpr pf_wire_Flag)
theorem S_wire_Join:SpecOk Tryz.cy Id.wire_Join sp_wire_Join:=spec_sound .nil (show vc_wire_Join from eq_wire_Join.mpr pf_wire_Join)
theorem S_rf01Bytes:SpecOk Tryz.cy Id.wicketref01_Bytes sp_wire_Bytes:=spec_sound (SpOk.cons S_ref01_Number .nil) (show vc_rf01Bytes from eq_rf01Bytes.mpr pf_rf01Bytes)
theorem S_rf01Flag:SpecOk Tryz.cy Id.wicketref01_Flag sp_Flag:=spec_sound .nil (show vc_rf01Flag from eq_rf01Flag.mpr pf_rf01Flag)
theorem S_names_Table:SpecOk Tryz.cy Id.names_Table sp_Table:=spec_sound .nil (show vc_names_Table from eq_names_Table.mpr pf_names_Table)
theorem S_ref05_Table:SpecOk Tryz.cy Id.wicketref05_Table sp_Table:=spec_sound .nil (show vc_ref05_Table from eq_ref05_Table.mpr pf_ref05_Table)
theorem S_mayOp:SpecOk Tryz.cy Id.calls_may sp_mayOp:=spec_sound (SpOk.cons S_names_Key (SpOk.cons S_names_Value (SpOk.cons S_names_Table .nil))) (show vc_mayOp from eq_mayOp.mpr pf_mayOp)
theorem S_MayOpR:SpecOk Tryz.cy Id.wicketref06_MayOp sp_mayOp:=spec_sound (SpOk.cons S_ref05_Key (SpOk.cons S_ref05_Value (SpOk.cons S_ref05_Table .nil))) (show vc_MayOpR from eq_MayOpR.mpr pf_MayOpR)
theorem S_mayCall:SpecOk Tryz.cy Id.calls_mayCall sp_mayCall:=spec_sound (SpOk.cons S_mayOp .nil) (show vc_mayCall from eq_mayCall.mpr pf_mayCall)
theorem S_May:SpecOk Tryz.cy Id.wicketref06_May sp_mayCall:=spec_sound (SpOk.cons S_MayOpR .nil) (show vc_May from eq_May.mpr pf_May)
theorem S_calls_Reads:SpecOk Tryz.cy Id.calls_Reads sp_Reads:=spec_sound (SpOk.cons S_mayCall .nil) (show vc_calls_Reads from eq_calls_Reads.mpr pf_calls_Reads)
theorem S_ref_Reads:SpecOk Tryz.cy Id.wicketref06_Reads sp_Reads:=spec_sound (SpOk.cons S_May .nil) (show vc_ref_Reads from eq_ref_Reads.mpr pf_ref_Reads)
theorem S_form:SpecOk Tryz.cy Id.calls_form sp_form:=spec_sound (SpOk.cons S_wire_NumberO (SpOk.cons S_wire_Bytes (SpOk.cons S_wire_Join (SpOk.cons S_wire_Flag .nil)))) (show vc_form from eq_form.mpr pf_form)
theorem S_rform:SpecOk Tryz.cy Id.wicketref06_form sp_form:=spec_sound (SpOk.cons S_ref01_Number (SpOk.cons S_rf01Bytes (SpOk.cons S_rf01Flag .nil))) (show vc_rform from eq_rform.mpr pf_rform)
theorem S_PutOp:SpecOk Tryz.cy Id.wire_Put_api_Op sp_PutOp:=spec_sound (SpOk.cons S_form (SpOk.cons S_wire_NumberO .nil)) (show vc_PutOp from eq_PutOp.mpr pf_PutOp)
theorem S_Form:SpecOk Tryz.cy Id.wicketref06_Form sp_Form:=spec_sound (SpOk.cons S_rform (SpOk.cons S_ref01_Number .nil)) (show vc_Form from eq_Form.mpr pf_Form)
theorem S_Bytes:SpecOk Tryz.cy Id.calls_Bytes sp_Bytes:=spec_sound (SpOk.cons S_mayCall (SpOk.cons S_PutOp .nil)) (show vc_Bytes from eq_Bytes.mpr pf_Bytes)
theorem S_Check:SpecOk Tryz.cy Id.calls_Check sp_Check:=spec_sound (SpOk.cons S_Bytes .nil) (show vc_Check from eq_Check.mpr pf_Check)
theorem S_rCheck:SpecOk Tryz.cy Id.wicketref06_Check sp_Check:=spec_sound (SpOk.cons S_May (SpOk.cons S_Form .nil)) (show vc_rCheck from eq_rCheck.mpr pf_rCheck)
theorem S_names_plain:SpecOk Tryz.cy Id.names_plain sp_plain:=spec_sound .nil (show vc_names_plain from eq_names_plain.mpr pf_names_plain)
theorem S_ref05_plain:SpecOk Tryz.cy Id.wicketref05_plain sp_plain:=spec_sound .nil (show vc_ref05_plain from eq_ref05_plain.mpr pf_ref05_plain)
theorem S_digit:SpecOk Tryz.cy Id.wicketref05_digit sp_digit:=spec_sound .nil (show vc_digit from eq_digit.mpr pf_digit)
theorem S_names_Text:SpecOk Tryz.cy Id.names_Text sp_Text:=spec_sound (SpOk.cons S_names_plain .nil) (show vc_names_Text from eq_names_Text.mpr pf_names_Text)
theorem S_ref05_Text:SpecOk Tryz.cy Id.wicketref05_Text sp_Text:=spec_sound (SpOk.cons S_ref05_plain (SpOk.cons S_digit .nil)) (show vc_ref05_Text from eq_ref05_Text.mpr pf_ref05_Text)
theorem S_Itoa:SpecOk Tryz.cy Id.strconv_Itoa sp_Itoa:=spec_sound .nil (show vc_Itoa from eq_Itoa.mpr pf_Itoa)
theorem S_text1:SpecOk Tryz.cy Id.calls_text (sp_textK 1):=spec_sound (SpOk.cons S_names_Text (SpOk.cons S_Itoa (SpOk.cons S_join .nil))) (show vc_text1 from eq_text1.mpr pf_text1)
theorem S_text2:SpecOk Tryz.cy Id.calls_text (sp_textK 2):=spec_sound (SpOk.cons S_names_Text (SpOk.cons S_Itoa (SpOk.cons S_join .nil))) (show vc_text2 from eq_text2.mpr pf_text2)
theorem S_text3:SpecOk Tryz.cy Id.calls_text (sp_textK 3):=spec_sound (SpOk.cons S_names_Text (SpOk.cons S_Itoa (SpOk.cons S_join .nil))) (show vc_text3 from eq_text3.mpr pf_text3)
theorem S_text4:SpecOk Tryz.cy Id.calls_text (sp_textK 4):=spec_sound (SpOk.cons S_names_Text (SpOk.cons S_Itoa (SpOk.cons S_join .nil))) (show vc_text4 from eq_text4.mpr pf_text4)
theorem S_text5:SpecOk Tryz.cy Id.calls_text (sp_textK 5):=spec_sound (SpOk.cons S_names_Text (SpOk.cons S_Itoa (SpOk.cons S_join .nil))) (show vc_text5 from eq_text5.mpr pf_text5)
theorem S_text:SpecOk Tryz.cy Id.calls_text sp_text:=text_of S_text1 S_text2 S_text3 S_text4 S_text5
theorem S_line:SpecOk Tryz.cy Id.wicketref06_line sp_text:=spec_sound (SpOk.cons S_ref05_Text (SpOk.cons S_Itoa .nil)) (show vc_line from eq_line.mpr pf_line)
theorem S_written:SpecOk Tryz.cy Id.calls_written sp_written:=spec_sound (SpOk.cons S_text (SpOk.cons S_join .nil)) (show vc_written from eq_written.mpr pf_written)
theorem S_rTxt:SpecOk Tryz.cy Id.wicketref06_Text sp_written:=spec_sound (SpOk.cons S_line .nil) (show vc_rTxt from eq_rTxt.mpr pf_rTxt)
theorem S_cText:SpecOk Tryz.cy Id.calls_Text sp_cText:=spec_sound (SpOk.cons S_Check (SpOk.cons S_written .nil)) (show vc_cText from eq_cText.mpr pf_cText)
theorem S_Copy:SpecOk Tryz.cy Id.wicketref06_Copy sp_Copy:=spec_sound .nil (show vc_Copy from eq_Copy.mpr pf_Copy)
theorem S_num:SpecOk Tryz.cy Id.wicketlaw06_num sp_num:=spec_sound .nil (show vc_num from eq_num.mpr pf_num)
theorem S_ref_Same:SpecOk Tryz.cy Id.wicketref06_Same sp_Same:=spec_sound .nil (show vc_ref_Same from eq_ref_Same.mpr pf_ref_Same)
theorem S_small:SpecOk Tryz.cy Id.wicketlaw06_small sp_small:=spec_sound .nil (show vc_small from eq_small.mpr pf_small)
theorem S_one:SpecOk Tryz.cy Id.wicketlaw06_CallsOne sp_one:=spec_sound (SpOk.cons S_num (SpOk.cons S_small (SpOk.cons S_Copy (SpOk.cons S_rCheck (SpOk.cons S_Bytes (SpOk.cons S_cText (SpOk.cons S_Check (SpOk.cons S_calls_Reads (SpOk.cons S_ref_Reads (SpOk.cons S_ref_Same (SpOk.cons S_Form (SpOk.cons S_rTxt .nil)))))))))))) (show vc_one from eq_one.mpr pf_one)
section
variable {H:Type}
theorem one_le (d:DataW H):1<=Rows.uptoBulk d:=by
 cases d with
 | lit l=>cases l<;>simp [Rows.uptoBulk]
 | nil=>simp [Rows.uptoBulk]
 | ptr d=>simp [Rows.uptoBulk]
 | slice elems spare=>simp [Rows.uptoBulk]
 | agg parts=>simp [Rows.uptoBulk]
 | iface t d=>simp [Rows.uptoBulk]
 | map entries=>simp [Rows.uptoBulk]
 | held h=>simp [Rows.uptoBulk]
theorem part_le {d:DataW H} {l:List (DataW H)} (h:d∈l):Rows.uptoBulk d<=Rows.uptoBulkAll l:=by
 induction l with
 | nil=>cases h
 | cons x r ih=>
   simp only [Rows.uptoBulkAll]
   cases List.mem_cons.1 h with
   | inl e=>subst e;omega
   | inr e=>have:=ih e;omega
theorem length_le (l:List (DataW H)):l.length<=Rows.uptoBulkAll l:=by
 induction l with
 | nil=>simp [Rows.uptoBulkAll]
 | cons x r ih=>have:=one_le x;simp only [Rows.uptoBulkAll,List.length_cons];omega
theorem u24:Tryz.cy.und 24=Tryz.prog.underlying 24:=und_same cyOk (by kernel_rfl)
theorem u22:Tryz.cy.und 22=Tryz.prog.underlying 22:=und_same cyOk (by kernel_rfl)
theorem u68:Tryz.cy.und 68=Tryz.prog.underlying 68:=und_same cyOk (by kernel_rfl)
theorem u66:Tryz.cy.und 66=Tryz.prog.underlying 66:=und_same cyOk (by kernel_rfl)
theorem u29:Tryz.cy.und 29=Tryz.prog.underlying 29:=und_same cyOk (by kernel_rfl)
theorem u4:Tryz.cy.und 4=Tryz.prog.underlying 4:=und_same cyOk (by kernel_rfl)
theorem u3:Tryz.cy.und 3=Tryz.prog.underlying 3:=und_same cyOk (by kernel_rfl)
theorem u9:Tryz.cy.und 9=Tryz.prog.underlying 9:=und_same cyOk (by kernel_rfl)
theorem z5:Tryz.cy.size 5=some 1:=by kernel_rfl
theorem z68:Tryz.cy.size 68=some 8:=by kernel_rfl
theorem b5:isU8 Tryz.cy 5=true:=by kernel_rfl
theorem b68:isU8 Tryz.cy 68=false:=by kernel_rfl
theorem bytesD {n:Nat} {d:DataW H} {l:List SV} (h:isD Tryz.cy (n+1) 29 d l):∃bs,l=[.bytes 0 false bs]/\bs.length<Rows.uptoBulk d:=by
 obtain ⟨bs,rfl,⟨rfl,rfl⟩ | ⟨spare,rfl⟩⟩:=isD_bytes (u29.trans Tryz.underlying29) z5 b5 h
 · exact ⟨[],rfl,by simp [Rows.uptoBulk]⟩
 · refine ⟨bs,rfl, ?_⟩
   have:=length_le (bs.map fun b=>DataW.lit (H:=H) (.int .u8 b.toNat))
   simp only [List.length_map] at this
   simp only [Rows.uptoBulk]
   omega
theorem opD {n:Nat} {d:DataW H} {l:List SV} (h:isD Tryz.cy (n+2) 68 d l) (hb:Rows.uptoBulk d<=1048576):∃o:LOp,l=opC 0 o/\FSmOp o:=by
 obtain ⟨ds,rfl,hf⟩:=isD_struct (u68.trans Tryz.underlying68) h
 obtain ⟨d1,ds,l1,r,rfl,rfl,h1,hf⟩:=isDF_cons hf
 obtain ⟨d2,ds,l2,r,rfl,rfl,h2,hf⟩:=isDF_cons hf
 obtain ⟨d3,ds,l3,r,rfl,rfl,h3,hf⟩:=isDF_cons hf
 obtain ⟨d4,ds,l4,r,rfl,rfl,h4,hf⟩:=isDF_cons hf
 obtain ⟨d5,ds,l5,r,rfl,rfl,h5,hf⟩:=isDF_cons hf
 obtain ⟨d6,ds,l6,r,rfl,rfl,h6,hf⟩:=isDF_cons hf
 obtain ⟨d7,ds,l7,r,rfl,rfl,h7,hf⟩:=isDF_cons hf
 obtain ⟨d8,ds,l8,r,rfl,rfl,h8,hf⟩:=isDF_cons hf
 obtain ⟨rfl,rfl⟩:=isDF_nil hf
 obtain ⟨x1,_,rfl,_⟩:=isD_int (u66.trans Tryz.underlying66) h1
 obtain ⟨x2,e2,rfl⟩:=isD_str (u9.trans Tryz.underlying9) h2
 obtain ⟨x3,rfl,b3⟩:=bytesD h3
 obtain ⟨x4,rfl,b4⟩:=bytesD h4
 obtain ⟨x5,_,rfl⟩:=isD_bool (u4.trans Tryz.underlying4) h5
 obtain ⟨x6,rfl,b6⟩:=bytesD h6
 obtain ⟨x7,rfl,b7⟩:=bytesD h7
 obtain ⟨x8,_,rfl,_⟩:=isD_int (u3.trans Tryz.underlying3) h8
 subst e2
 simp only [Rows.uptoBulk,Rows.uptoBulkAll] at hb
 exact ⟨⟨x1,x2,x3,x4,x5,x6,x7,x8⟩,rfl,by unfold FSmOp;simp only;omega⟩
theorem getD_mk {α:Type} (g:Nat->α) (n:Nat) (d:α) {i:Nat} (h:i<n):((List.range n).map g).getD i d=g i:=by
 simp [List.getD,h]
theorem callD {n:Nat} {d:DataW H} {l:List SV} (h:isD Tryz.cy (n+4) 24 d l) (hb:Rows.uptoBulk d<=1048576):∃c:List LOp,leL [opsV 0 c] l/\FSmOps c:=by
 obtain ⟨ds,rfl,hf⟩:=isD_struct (u24.trans Tryz.underlying24) h
 obtain ⟨d1,ds,l1,r,rfl,rfl,h1,hf⟩:=isDF_cons hf
 obtain ⟨rfl,rfl⟩:=isDF_nil hf
 obtain ⟨m,f,rfl,⟨rfl,rfl⟩ | ⟨elems,spare,rfl,rfl,he⟩⟩:=isD_slice (u22.trans Tryz.underlying22) z68 b68 h1
 · exact ⟨[],by simp [leL,leV,leR,opsV],⟨by simp,fun i hi=>absurd hi (by simp)⟩⟩
 · simp only [Rows.uptoBulk,Rows.uptoBulkAll] at hb
   have hlen:=length_le elems
   have key:∀i,∃o:LOp,i<elems.length->f i=opC 0 o/\FSmOp o:=by
    intro i
    by_cases hi:i<elems.length
    · have hp:=part_le (List.getElem_mem hi)
      obtain ⟨o,h1,h2⟩:=opD (he i elems[i] (List.getElem?_eq_getElem hi)) (by omega)
      exact ⟨o,fun _=>⟨h1,h2⟩⟩
    · exact ⟨⟨0,[],[],[],false,[],[],0⟩,fun h=>absurd h hi⟩
   obtain ⟨g,hg⟩:=Classical.skolem.1 key
   have hl:((List.range elems.length).map g).length=elems.length:=by simp
   refine ⟨(List.range elems.length).map g, ?_,⟨?_,fun i hi=> ?_⟩⟩
   · simp only [List.append_nil,leL,leV,leR,opsV,hl,and_true,true_and]
     refine ⟨by decide,fun h=>h,fun i hi=> ?_⟩
     rw [getD_mk g _ _ hi,(hg i hi).1]
     exact leL_opC 0 _
   · simp only [hl];omega
   · simp only [hl] at hi
     simp only [getD_mk g _ _ hi]
     exact (hg i hi).2
theorem lawD {ds:List (DataW H)} {av:List SV} (h:isArgs Tryz.cy 8 [24] ds av) (hb:Rows.uptoBulkAll ds<=1048576):∃x:List LOp,sp_one.pre x/\leTs (sp_one.args x) av:=by
 obtain ⟨d1,ds,a1,av,rfl,rfl,h1,h⟩:=isArgs_cons h
 obtain ⟨rfl,rfl⟩:=isArgs_nil h
 simp only [isArg,u24,Tryz.underlying24] at h1
 obtain ⟨l1,rfl,h1⟩:=h1
 simp only [Rows.uptoBulkAll] at hb
 obtain ⟨a,ha,ha'⟩:=callD h1 (by omega)
 exact ⟨a,ha',ha,trivial⟩
end
set_option maxRecDepth 100000 in
theorem contract (H:Type) (enc:TypeId×Value->H) (W:World) (base:Nat) (args:Array Value) (ds gs:List (DataW H)) (before:List MemPlace)
 (hval:∀(j:Nat) t v,Tryz.f3.params[j]? =some t->args[j]? =some v->Value.okWide Tryz.prog W .any base t v)
 (hW:DataW.Whole enc Tryz.prog Tryz.f3.params.toList Rows.callsOneSpec.vars false W args.toList ds gs before) (hk:Rows.uptoSmall H (ds++gs)=true) (hsh:W.ShapedOpen Tryz.prog):
 Calls Tryz.prog 3 args W fun e W'=>∃v,e= .returned v/\Rows.callsOneSpec.post enc Tryz.prog Tryz.f3 false true false false W args v W':=by
 have hW':=hW
 obtain ⟨p,q,hA0,hV,rfl,hfz,hnd⟩:=hW
 have hA:DataW.TrodAll enc Tryz.prog W 0 (fun _=>true) true [24] args.toList ds p:=hA0
 rw [Tryz.params3] at hval
 obtain ⟨rfl,rfl⟩:=trodVars_none hV
 obtain ⟨d1,rfl⟩:∃d1,ds=[d1]:=by
  obtain ⟨_,_,d1,ds',_,_,_,h,_,_,hr⟩:=trodAll_cons hA
  obtain ⟨_,e,_⟩:=trodAll_nil hr
  exact ⟨d1,by rw [h,e]⟩
 simp only [List.append_nil] at hW' hk
 obtain ⟨m,hm⟩:=Tryz.maxCell W hsh
 obtain ⟨B⟩:=bd_start (C:=Tryz.cy) (g:=0) (t:=3) (by decide) rfl (by kernel_rfl) hm
 have hv:∀(j:Nat) t v,[24][j]? =some t->args.toList[j]? =some v->Value.okWide Tryz.prog W .any base t v:=by
  intro j t v ht hv
  exact hval j t v (arr_get ht) (arr_get' hv)
 obtain ⟨B',vs,av,_,hok,hden,hrl,his⟩:=top_args cyOk (fun _=>rfl) (n:=8) [24] args.toList [d1] p B (by kernel_rfl) hv hA
 obtain ⟨x,hx,hle⟩:=lawD his (of_decide_eq_true hk)
 have walk:=top_law cyOk (f:=3) (fn:=Tryz.f3) (by kernel_rfl) (by kernel_rfl) S_one x hx rfl rfl B' (leTs_rel B'.hFH hle hrl) hok
 rw [hden] at walk
 refine walk.mono fun e W' ⟨he,hg⟩=> ?_
 subst he
 have hlt:∀y∈p,y.block<W.heap.size:=fun y hy=>hW'.lt y hy
 exact ⟨_,rfl,post_below (pa:=p) (pv:=[]) hW' (fun _ _ _=>trodAll_cons_mk (shut_bool Tryz.underlying4 _) trodAll_mk0)
  (fun sp hsp=>stays_all (by kernel_rfl) [24] _ _ p (by kernel_rfl) hA (fun y hy=>hg.same (hlt y hy)) hsp) (fun _ _=>rfl) (by simp)
  hg (ok_one (by kernel_rfl) rfl (okWide_bool_mk Tryz.underlying4 _))⟩
end Go.Proofs.YtoajkmdddjnebaaGreatDoor.callsOne
