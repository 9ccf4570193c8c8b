import Derived.Test.YtoajkmdddjnebaaGreatDoorCallsOneCS
set_option linter.unusedSimpArgs false
set_option linter.unusedVariables false
namespace Go.Proofs
open Go.Eng
theorem leL_opC (r:Nat) (o:LOp):leL (opC r o) (opC r o):=by
 simp [leL,leV,leR,opC]
def cutOp (o:LOp):List SV:=[.int .i64 o.kind,.str o.table,.bytes 1 false (cutL o.key 0 o.key.length),.bytes 1 false (cutL o.value 0 o.value.length),.bool o.has,.bytes 1 false (cutL o.old 0 o.old.length),.bytes 1 false (cutL o.to 0 o.to.length),.int .i64 o.most]
theorem Copy_elem (f:Nat->LOp) (i j:Nat) (g:Nat->List SV) (h:j<i+1) (hg:g 0=opC 1 (f i)):leL (opC 1 (f j)) (appF i (fun k=>opC 1 (f (0+k))) g j):=by
 unfold appF
 by_cases e:j<i
 · rw [show Nat.blt j i=true from by rw [Nat.blt_eq];exact e]
   simp only [cond_true,Nat.zero_add]
   exact leL_opC 1 _
 · obtain rfl:j=i:=by omega
   rw [show Nat.blt j j=false from by rw [<-Bool.not_eq_true,Nat.blt_eq];omega]
   simp only [cond_false,Nat.sub_self,hg]
   exact leL_opC 1 _
noncomputable def sp_Copy:FSpec where
 X:=List LOp
 pre x:=FSmOps x
 args x:=[.agg [opsV 0 x]]
 base:=[]
 own _:=[]
 out x:= .ret (.agg [opsV 1 x]) []
noncomputable def an_Copy (x:List LOp):Nat->Option Cut
 | 0=>some {X:=XI,pre:=fun y=>y.i<=x.length
            tm:=fun y=>[(1,.ptr 0 0 0 0),(2,.ptr 1 0 0 0),(3,.ptr 2 0 0 0),(4,.int .i64 y.i)]
            own:=fun y=>[(0,.cells [opsV 0 x] Ty.api_Call),(1,.cells [.nilS] Ty.api_Call),(2,.cells [.sl 3 8 0 y.i y.i true] Ty.api_Call),(3,.arr y.i 8 (fun j=>opC 1 (x.getD j (LOp.mk 0 [] [] [] false [] [] 0))) Ty.api_Op)]
            mu:=fun y=>x.length-y.i}
 | _=>none
def vc_Copy:Prop:=FnVC Tryz.cy [] Id.wicketref06_Copy sp_Copy an_Copy 10
structure XCC where
 a:List LOp
 b:List LOp
def FSame (a b:List LOp):Bool:=decide (a=b)
def FOpsEq (a b:List LOp) (i:Nat):Prop:=∀j,j<i->a.getD j (LOp.mk 0 [] [] [] false [] [] 0)=b.getD j (LOp.mk 0 [] [] [] false [] [] 0)
section
variable {a b:List LOp} {i:Nat}
theorem same_yes (h:a=b):FSame a b=true:=decide_eq_true h
theorem same_len (h:¬(a.length:Int)=(b.length:Int)):FSame a b=false:=decide_eq_false fun e=>h (by rw [e])
theorem opsEq_zero:FOpsEq a b 0:=fun j hj=>absurd hj (by omega)
theorem same_end (hl:¬¬(a.length:Int)=(b.length:Int)) (h:FOpsEq a b i) (hi:¬(i:Int)<(a.length:Int)):FSame a b=true:=by
 refine same_yes (List.ext_getElem (by omega) fun j h1 h2=> ?_)
 have:=h j (by omega)
 simpa [List.getD,h1,h2] using this
theorem same_no (h:¬a.getD i (LOp.mk 0 [] [] [] false [] [] 0)=b.getD i (LOp.mk 0 [] [] [] false [] [] 0)):FSame a b=false:=decide_eq_false fun e=>h (by rw [e])
theorem opsEq_step (h:FOpsEq a b i) (hi:a.getD i (LOp.mk 0 [] [] [] false [] [] 0)=b.getD i (LOp.mk 0 [] [] [] false [] [] 0)):FOpsEq a b (i+1):=by
 intro j hj
 rcases Nat.lt_or_ge j i with g | g
 · exact h j g
 · obtain rfl:j=i:=by omega
   exact hi
theorem op_ext {p q:LOp} (h1:p.kind=q.kind) (h2:p.table=q.table) (h3:p.key=q.key) (h4:p.value=q.value) (h5:p.has=q.has) (h6:p.old=q.old) (h7:p.to=q.to) (h8:p.most=q.most):p=q:=by
 cases p;cases q;simp_all
end
noncomputable def sp_Same:FSpec where
 X:=XCC
 pre x:=FSmOps x.a/\FSmOps x.b
 args x:=[.agg [opsV 0 x.a],.agg [opsV 0 x.b]]
 base:=[]
 own _:=[]
 out x:= .ret (.bool (FSame x.a x.b)) []
 pv:=some ⟨fun x=> .bool (FSame x.a x.b),rfl,fun _=>⟨rfl,rfl⟩⟩
noncomputable def sp_num:FSpec where
 X:=Int
 pre x:=True
 args x:=[.int .i64 x]
 base:=[]
 own _:=[]
 out x:= .ret (.int .i64 x) []
 pv:=some ⟨fun x=> .int .i64 x,rfl,fun _=>⟨rfl,rfl⟩⟩
def vc_num:Prop:=FnVC Tryz.cy [] Id.wicketlaw06_num sp_num (fun _ _=>none) 10
noncomputable def an_ref_Same (x:XCC):Nat->Option Cut
 | 0=>some {X:=XI,pre:=fun y=>y.i<=x.a.length/\FOpsEq x.a x.b y.i
            tm:=fun y=>[(2,.ptr 0 0 0 0),(3,.ptr 1 0 0 0),(5,.int .i64 y.i)]
            own:=fun y=>[(0,.cells [opsV 0 x.a] Ty.api_Call),(1,.cells [opsV 0 x.b] Ty.api_Call)]
            mu:=fun y=>x.a.length-y.i}
 | _=>none
def vc_ref_Same:Prop:=FnVC Tryz.cy [] Id.wicketref06_Same sp_Same an_ref_Same 10
structure XIt where
 i:Nat
 t:Int
noncomputable def sp_small:FSpec where
 X:=List LOp
 pre x:=FSmOps x
 args x:=[.agg [opsV 0 x]]
 base:=[]
 own _:=[]
 out x:= .ex Bool (fun _=>True) fun b=> .ret (.bool b) []
noncomputable def an_small (x:List LOp):Nat->Option Cut
 | 0=>some {X:=XIt,pre:=fun y=>y.i<=x.length
            tm:=fun y=>[(1,.ptr 0 0 0 0),(3,.int .i64 y.t),(4,.int .i64 y.i)]
            own:=fun y=>[(0,.cells [opsV 0 x] Ty.api_Call)]
            mu:=fun y=>x.length-y.i}
 | _=>none
def vc_small:Prop:=FnVC Tryz.cy [] Id.wicketlaw06_small sp_small an_small 10
theorem chk_len {x:List LOp} (h:FChk x=0):(FForm x).length<=4096:=by
 have hm:=chk_may h
 by_cases g:(4096:Int)<((FForm x).length:Int)
 · rw [chk3 hm g] at h;cases h
 · omega
structure XOn where
 i:Nat
 k:Nat
 c:Nat
 op:Bool
 buf:List UInt8
 k2:Nat
 c2:Nat
 op2:Bool
 buf2:List UInt8
noncomputable def sp_one:FSpec where
 X:=List LOp
 pre x:=FSmOps x
 args x:=[.agg [opsV 0 x]]
 base:=[]
 own _:=[]
 out x:= .ret (.bool true) []
noncomputable def an_one (x:List LOp):Nat->Option Cut
 | 0=>some {X:=XOn,pre:=fun y=>y.i<=y.k/\y.k<=y.c/\y.buf.length=y.c/\y.k<1048577/\FMays x=true/\FHold (FForm x) y.k2 y.c2 y.op2 y.buf2
            tm:=fun y=>[(1,.ptr 0 0 0 0),(5,.sl 1 1 0 y.k y.c y.op),(7,.sl 2 1 0 y.k2 y.c2 y.op2),(11,.int .i64 y.i)]
            own:=fun y=>[(0,.cells [opsV 0 x] Ty.api_Call),(1,.bytes y.buf Ty.uint8),(2,.bytes y.buf2 Ty.uint8)]
            mu:=fun y=>y.k-y.i}
 | _=>none
noncomputable def Sp_one:List (Nat×FSpec):=[(Id.wicketlaw06_num,sp_num),(Id.wicketlaw06_small,sp_small),(Id.wicketref06_Copy,sp_Copy),(Id.wicketref06_Check,sp_Check),(Id.calls_Bytes,sp_Bytes),(Id.calls_Text,sp_cText),(Id.calls_Check,sp_Check),(Id.calls_Reads,sp_Reads),(Id.wicketref06_Reads,sp_Reads),(Id.wicketref06_Same,sp_Same),(Id.wicketref06_Form,sp_Form),(Id.wicketref06_Text,sp_written)]
def vc_one:Prop:=FnVC Tryz.cy Sp_one Id.wicketlaw06_CallsOne sp_one an_one 10
end Go.Proofs
