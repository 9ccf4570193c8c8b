import Derived.Test.YtoajkmdddjnebaaGreatDoorCallsOneCB
import Derived.Test.YtoajkmdddjnebaaGreatDoorSymF
set_option linter.unusedSimpArgs false
set_option linter.unusedVariables false
namespace Go.Proofs
open Go.Eng
structure LOp where
 kind:Int
 table:List UInt8
 key:List UInt8
 value:List UInt8
 has:Bool
 old:List UInt8
 to:List UInt8
 most:Int
 deriving DecidableEq
def opC (r:Nat) (o:LOp):List SV:=[.int .i64 o.kind,.str o.table,.bytes r false o.key,.bytes r false o.value,.bool o.has,.bytes r false o.old,.bytes r false o.to,.int .i64 o.most]
def opsV (r:Nat) (l:List LOp):SV:= .imm r false l.length 8 fun i=>opC r (l.getD i (LOp.mk 0 [] [] [] false [] [] 0))
def FTc (c:UInt8):Bool:=(decide (97<=c.toNat)&&decide (c.toNat<=122))||(decide (48<=c.toNat)&&decide (c.toNat<=57))
def FTable (s:List UInt8):Bool:=decide (1<=s.length)&&decide (s.length<=16)&&s.all FTc
def FTcs (s:List UInt8) (i:Nat):Prop:=∀j,j<i->FTc (s.getD j 0)=true
section
variable {s:List UInt8} {i:Nat}
theorem tcs_zero:FTcs s 0:=fun j hj=>absurd hj (by omega)
theorem tcs_step (h:FTcs s i) (hc:FTc (s.getD i 0)=true):FTcs s (i+1):=by
 intro j hj
 rcases Nat.lt_or_ge j i with g | g
 · exact h j g
 · obtain rfl:j=i:=by omega
   exact hc
theorem tab_bad (hi:i<s.length) (h:FTc (s.getD i 0)=false):FTable s=false:=by
 have:s.all FTc=false:=by
  rw [List.all_eq_false]
  refine ⟨s.getD i 0, ?_,by rw [h];simp⟩
  simp [List.getD,hi]
 simp [FTable,this]
theorem tab_good (h:FTcs s i) (hi:¬i<s.length):FTable s=(decide (1<=s.length)&&decide (s.length<=16)):=by
 have:s.all FTc=true:=by
  rw [List.all_eq_true]
  intro c hc
  obtain ⟨j,hj,rfl⟩:=List.getElem_of_mem hc
  have:=h j (by omega)
  simpa [List.getD,hj] using this
 simp [FTable,this]
theorem tab_short (h:(s.length:Int)<1\/(16:Int)<s.length):FTable s=false:=by
 unfold FTable
 rcases h with h | h
 · rw [show decide (1<=s.length)=false from decide_eq_false (by omega)];rfl
 · rw [show decide (s.length<=16)=false from decide_eq_false (by omega)];simp
theorem tc_no {c:UInt8} (h1:(c.toNat:Int)<97\/(122:Int)<c.toNat) (h2:(c.toNat:Int)<48\/(57:Int)<c.toNat):FTc c=false:=by
 simp only [FTc,Bool.or_eq_false_iff,Bool.and_eq_false_iff,decide_eq_false_iff_not];omega
theorem tc_yes {c:UInt8} (h:¬(((c.toNat:Int)<97\/(122:Int)<c.toNat)/\((c.toNat:Int)<48\/(57:Int)<c.toNat))):FTc c=true:=by
 simp only [FTc,Bool.or_eq_true,Bool.and_eq_true,decide_eq_true_eq];omega
theorem tc_no2 {c:UInt8} (h:¬((97:Int)<=c.toNat/\(c.toNat:Int)<=122\/(48:Int)<=c.toNat/\(c.toNat:Int)<=57)):FTc c=false:=tc_no (by omega) (by omega)
theorem tc_yes2 {c:UInt8} (h:¬¬((97:Int)<=c.toNat/\(c.toNat:Int)<=122\/(48:Int)<=c.toNat/\(c.toNat:Int)<=57)):FTc c=true:=tc_yes (by omega)
theorem tab_end (h:FTcs s i) (hi:¬(i:Int)<(s.length:Int)):FTable s=bif decide ((1:Int)<=(s.length:Int)) then decide ((s.length:Int)<=16) else false:=by
 rw [tab_good h (by omega),Bool.eq_iff_iff];simp;omega
theorem tab_true (h:FTcs s i) (hi:¬(i:Int)<(s.length:Int)) (h1:1<=s.length) (h2:s.length<=16):FTable s=true:=by
 rw [tab_good h (by omega)];simp;omega
end
noncomputable def sp_Table:FSpec where
 X:=List UInt8
 pre x:=x.length<1099511627776
 args x:=[.str x]
 base:=[]
 own _:=[]
 out x:= .ret (.bool (FTable x)) []
 pv:=some ⟨fun x=> .bool (FTable x),rfl,fun _=>⟨rfl,rfl⟩⟩
noncomputable def an_names_Table (x:List UInt8):Nat->Option Cut
 | 0=>some {X:=XI,pre:=fun y=>y.i<=x.length/\1<=x.length/\x.length<=16/\FTcs x y.i
            tm:=fun y=>[(14,.sl 0 1 0 x.length x.length true),(15,.int .i64 x.length),(16,.int .i64 y.i)]
            own:=fun y=>[(0,.bytes x Ty.uint8)]
            mu:=fun y=>x.length-y.i}
 | _=>none
def vc_names_Table:Prop:=FnVC Tryz.cy [] Id.names_Table sp_Table an_names_Table 10
noncomputable def an_ref05_Table (x:List UInt8):Nat->Option Cut
 | 0=>some {X:=XI,pre:=fun y=>y.i<=x.length/\FTcs x y.i
            tm:=fun y=>[(0,.str x),(3,.int .i64 y.i)]
            own:=fun y=>[]
            mu:=fun y=>x.length-y.i}
 | _=>none
def vc_ref05_Table:Prop:=FnVC Tryz.cy [] Id.wicketref05_Table sp_Table an_ref05_Table 10
def FMayOp (o:LOp):Bool:=FTable o.table&&
 (if o.kind=1\/o.kind=3 then FKey o.key&&decide (o.value.length=0)&& !o.has&&decide (o.old.length=0)&&decide (o.to.length=0)&&decide (o.most=0)
  else if o.kind=2 then FKey o.key&&FValue o.value&& !o.has&&decide (o.old.length=0)&&decide (o.to.length=0)&&decide (o.most=0)
  else if o.kind=4 then FKey o.key&&FValue o.value&&FValue o.old&&(o.has||decide (o.old.length=0))&&decide (o.to.length=0)&&decide (o.most=0)
  else if o.kind=5 then decide (o.key.length<=64)&&decide (o.to.length<=64)&&decide (1<=o.most)&&decide (o.most<=64)&&decide (o.value.length=0)&& !o.has&&decide (o.old.length=0)
  else false)
def FSmOp (o:LOp):Prop:=o.table.length<1048577/\o.key.length<1048577/\o.value.length<1048577/\o.old.length<1048577/\o.to.length<1048577
noncomputable def sp_mayOp:FSpec where
 X:=LOp
 pre x:=FSmOp x
 args x:=[.agg (opC 0 x)]
 base:=[]
 own _:=[]
 out x:= .ret (.bool (FMayOp x)) []
 pv:=some ⟨fun x=> .bool (FMayOp x),rfl,fun _=>⟨rfl,rfl⟩⟩
noncomputable def Sp_mayOp:List (Nat×FSpec):=[(Id.names_Key,sp_Key),(Id.names_Value,sp_Value),(Id.names_Table,sp_Table)]
def vc_mayOp:Prop:=FnVC Tryz.cy Sp_mayOp Id.calls_may sp_mayOp (fun _ _=>none) 10
noncomputable def Sp_MayOpR:List (Nat×FSpec):=[(Id.wicketref05_Key,sp_Key),(Id.wicketref05_Value,sp_Value),(Id.wicketref05_Table,sp_Table)]
def vc_MayOpR:Prop:=FnVC Tryz.cy Sp_MayOpR Id.wicketref06_MayOp sp_mayOp (fun _ _=>none) 10
def FMays (l:List LOp):Bool:=decide (1<=l.length)&&decide (l.length<=16)&&l.all FMayOp
def FKd (o:LOp):Bool:=decide (o.kind=1)||decide (o.kind=5)
def FReads (l:List LOp):Bool:=l.all FKd&&FMays l
def FSmOps (l:List LOp):Prop:=l.length<1048577/\∀i,i<l.length->FSmOp (l.getD i (LOp.mk 0 [] [] [] false [] [] 0))
def FMaysTo (l:List LOp) (i:Nat):Prop:=∀j,j<i->FMayOp (l.getD j (LOp.mk 0 [] [] [] false [] [] 0))=true
def FKdsTo (l:List LOp) (i:Nat):Prop:=∀j,j<i->FKd (l.getD j (LOp.mk 0 [] [] [] false [] [] 0))=true
section
variable {α:Type} {l:List α} {p:α->Bool} {d:α} {i:Nat}
theorem all_bad (hi:i<l.length) (h:p (l.getD i d)=false):l.all p=false:=by
 rw [List.all_eq_false]
 exact ⟨l.getD i d,by simp [List.getD,hi],by rw [h];simp⟩
theorem all_good (h:∀j,j<i->p (l.getD j d)=true) (hi:¬i<l.length):l.all p=true:=by
 rw [List.all_eq_true]
 intro c hc
 obtain ⟨j,hj,rfl⟩:=List.getElem_of_mem hc
 have:=h j (by omega)
 simpa [List.getD,hj] using this
theorem all_step (h:∀j,j<i->p (l.getD j d)=true) (hc:p (l.getD i d)=true):∀j,j<i+1->p (l.getD j d)=true:=by
 intro j hj
 rcases Nat.lt_or_ge j i with g | g
 · exact h j g
 · obtain rfl:j=i:=by omega
   exact hc
end
section
variable {l:List LOp} {i:Nat}
theorem mays_zero:FMaysTo l 0:=fun j hj=>absurd hj (by omega)
theorem kds_zero:FKdsTo l 0:=fun j hj=>absurd hj (by omega)
theorem mays_short (h:(l.length:Int)<1\/(16:Int)<l.length):FMays l=false:=by
 unfold FMays
 rcases h with h | h
 · rw [show decide (1<=l.length)=false from decide_eq_false (by omega)];rfl
 · rw [show decide (l.length<=16)=false from decide_eq_false (by omega)];simp
theorem mays_bad (hi:i<l.length) (h:¬FMayOp (l.getD i (LOp.mk 0 [] [] [] false [] [] 0))=true):FMays l=false:=by
 unfold FMays;rw [all_bad hi (by simpa using h)];simp
theorem mays_end (h:FMaysTo l i) (hi:¬(i:Int)<(l.length:Int)) (h1:1<=l.length) (h2:l.length<=16):FMays l=true:=by
 unfold FMays;rw [all_good h (by omega)];simp;omega
theorem reads_bad (hi:i<l.length) (h:FKd (l.getD i (LOp.mk 0 [] [] [] false [] [] 0))=false):FReads l=false:=by
 unfold FReads;rw [all_bad hi h];rfl
theorem kd_no {o:LOp} (h1:¬o.kind=1) (h2:¬o.kind=5):FKd o=false:=by simp [FKd,h1,h2]
theorem kd_yes {o:LOp} (h:¬(¬o.kind=1/\¬o.kind=5)):FKd o=true:=by simp only [FKd,Bool.or_eq_true,decide_eq_true_eq];omega
theorem reads_end (h:FKdsTo l i) (hi:¬(i:Int)<(l.length:Int)):FReads l=FMays l:=by
 unfold FReads;rw [all_good h (by omega)];rfl
end
noncomputable def sp_mayCall:FSpec where
 X:=List LOp
 pre x:=FSmOps x
 args x:=[.agg [opsV 0 x]]
 base:=[]
 own _:=[]
 out x:= .ret (.bool (FMays x)) []
noncomputable def an_mayCall (x:List LOp):Nat->Option Cut
 | 0=>some {X:=XI,pre:=fun y=>y.i<=x.length/\1<=x.length/\x.length<=16/\FMaysTo x y.i
            tm:=fun y=>[(16,opsV 0 x),(17,.int .i64 x.length),(18,.int .i64 y.i)]
            own:=fun y=>[]
            mu:=fun y=>x.length-y.i}
 | _=>none
noncomputable def Sp_mayCall:List (Nat×FSpec):=[(Id.calls_may,sp_mayOp)]
def vc_mayCall:Prop:=FnVC Tryz.cy Sp_mayCall Id.calls_mayCall sp_mayCall an_mayCall 10
noncomputable def an_May (x:List LOp):Nat->Option Cut
 | 0=>some {X:=XI,pre:=fun y=>y.i<=x.length/\1<=x.length/\x.length<=16/\FMaysTo x y.i
            tm:=fun y=>[(1,.ptr 0 0 0 0),(3,.int .i64 y.i)]
            own:=fun y=>[(0,.cells [opsV 0 x] Ty.api_Call)]
            mu:=fun y=>x.length-y.i}
 | _=>none
noncomputable def Sp_May:List (Nat×FSpec):=[(Id.wicketref06_MayOp,sp_mayOp)]
def vc_May:Prop:=FnVC Tryz.cy Sp_May Id.wicketref06_May sp_mayCall an_May 10
noncomputable def sp_Reads:FSpec where
 X:=List LOp
 pre x:=FSmOps x
 args x:=[.agg [opsV 0 x]]
 base:=[]
 own _:=[]
 out x:= .ret (.bool (FReads x)) []
 pv:=some ⟨fun x=> .bool (FReads x),rfl,fun _=>⟨rfl,rfl⟩⟩
noncomputable def an_calls_Reads (x:List LOp):Nat->Option Cut
 | 0=>some {X:=XI,pre:=fun y=>y.i<=x.length/\FKdsTo x y.i
            tm:=fun y=>[(1,.ptr 0 0 0 0),(6,opsV 0 x),(7,.int .i64 x.length),(8,.int .i64 y.i)]
            own:=fun y=>[(0,.cells [opsV 0 x] Ty.api_Call)]
            mu:=fun y=>x.length-y.i}
 | _=>none
noncomputable def Sp_cReads:List (Nat×FSpec):=[(Id.calls_mayCall,sp_mayCall)]
def vc_calls_Reads:Prop:=FnVC Tryz.cy Sp_cReads Id.calls_Reads sp_Reads an_calls_Reads 10
noncomputable def an_ref_Reads (x:List LOp):Nat->Option Cut
 | 0=>some {X:=XI,pre:=fun y=>y.i<=x.length/\FKdsTo x y.i
            tm:=fun y=>[(1,.ptr 0 0 0 0),(3,.int .i64 y.i)]
            own:=fun y=>[(0,.cells [opsV 0 x] Ty.api_Call)]
            mu:=fun y=>x.length-y.i}
 | _=>none
noncomputable def Sp_rReads:List (Nat×FSpec):=[(Id.wicketref06_May,sp_mayCall)]
def vc_ref_Reads:Prop:=FnVC Tryz.cy Sp_rReads Id.wicketref06_Reads sp_Reads an_ref_Reads 10
end Go.Proofs
