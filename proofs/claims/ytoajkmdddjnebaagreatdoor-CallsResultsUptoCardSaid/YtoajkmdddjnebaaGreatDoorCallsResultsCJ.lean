import Derived.Test.YtoajkmdddjnebaaGreatDoorCallsResultsCI
set_option linter.unusedSimpArgs false
set_option linter.unusedVariables false
namespace Go.Proofs
open Go.Eng
structure XRR where
 a:LRes
 b:LRes
def FAlike (a b:LRes):Bool:=decide (a=b)
def FResHd (a b:LRes):Prop:=a.abort=b.abort/\a.place=b.place/\a.outs.length=b.outs.length
def FOutHd (a b:LOut):Prop:=a.has=b.has/\a.value=b.value/\a.rows.length=b.rows.length
def FOutsEq (a b:List LOut) (i:Nat):Prop:=∀j,j<i->a.getD j (LOut.mk false [] [])=b.getD j (LOut.mk false [] [])
def FRowsEq (a b:List LRow) (i:Nat):Prop:=∀j,j<i->a.getD j (LRow.mk [] [])=b.getD j (LRow.mk [] [])
theorem list_eq {α:Type} {a b:List α} {d:α} (hl:a.length=b.length) (h:∀j,j<a.length->a.getD j d=b.getD j d):a=b:=by
 refine List.ext_getElem hl fun j h1 h2=> ?_
 have:=h j h1
 simpa [List.getD,h1,h2] using this
section
variable {a b:LRes} {o p:LOut} {k i:Nat} {x y:LRow}
theorem FAlike_yes (h:a=b):FAlike a b=true:=decide_eq_true h
theorem FAlike_no (h:¬a=b):FAlike a b=false:=decide_eq_false h
theorem rows_end (h:FOutHd o p) (hk:¬(k:Int)<(o.rows.length:Int)) (h2:FRowsEq o.rows p.rows k):o=p:=by
 obtain ⟨h1,h3,h4⟩:=h
 have:=list_eq h4 fun j hj=>h2 j (by omega)
 cases o;cases p;simp_all
theorem outs_end (h:FResHd a b) (hk:¬(k:Int)<(a.outs.length:Int)) (h2:FOutsEq a.outs b.outs k):FAlike a b=true:=by
 obtain ⟨h1,h3,h4⟩:=h
 have:=list_eq h4 fun j hj=>h2 j (by omega)
 refine FAlike_yes ?_
 cases a;cases b;simp_all
theorem outs_next (h2:FOutsEq a.outs b.outs i) (h:FOutHd (a.outs.getD i (LOut.mk false [] [])) (b.outs.getD i (LOut.mk false [] []))) (hk:¬(k:Int)<((a.outs.getD i (LOut.mk false [] [])).rows.length:Int))
 (h3:FRowsEq (a.outs.getD i (LOut.mk false [] [])).rows (b.outs.getD i (LOut.mk false [] [])).rows k):FOutsEq a.outs b.outs (i+1):=by
 intro j hj
 rcases Nat.lt_or_ge j i with g | g
 · exact h2 j g
 · obtain rfl:j=i:=by omega
   exact rows_end h hk h3
theorem rows_next (h3:FRowsEq o.rows p.rows k) (h:(o.rows.getD k (LRow.mk [] [])).key=(p.rows.getD k (LRow.mk [] [])).key) (h':(o.rows.getD k (LRow.mk [] [])).value=(p.rows.getD k (LRow.mk [] [])).value):FRowsEq o.rows p.rows (k+1):=by
 intro j hj
 rcases Nat.lt_or_ge j k with g | g
 · exact h3 j g
 · obtain rfl:j=k:=by omega
   revert h h'
   cases o.rows.getD j (LRow.mk [] []);cases p.rows.getD j (LRow.mk [] [])
   simp_all
theorem not_row (h:¬((o.rows.getD k (LRow.mk [] [])).key=(p.rows.getD k (LRow.mk [] [])).key/\(o.rows.getD k (LRow.mk [] [])).value=(p.rows.getD k (LRow.mk [] [])).value))
 (ho:o=a.outs.getD i (LOut.mk false [] [])) (hp:p=b.outs.getD i (LOut.mk false [] [])):FAlike a b=false:=by
 refine FAlike_no fun e=>h ?_
 subst e;subst ho;subst hp;exact ⟨rfl,rfl⟩
theorem not_out (h:¬FOutHd (a.outs.getD i (LOut.mk false [] [])) (b.outs.getD i (LOut.mk false [] []))):FAlike a b=false:=FAlike_no fun e=>h (by subst e;exact ⟨rfl,rfl,rfl⟩)
theorem not_res (h:¬FResHd a b):FAlike a b=false:=FAlike_no fun e=>h (by subst e;exact ⟨rfl,rfl,rfl⟩)
theorem rows_zero:FRowsEq o.rows p.rows 0:=fun j hj=>absurd hj (by omega)
theorem outs_zero:FOutsEq a.outs b.outs 0:=fun j hj=>absurd hj (by omega)
end
theorem k_w {k n:Nat} (hn:n<1048577) (hk:(k:Int)<(n:Int)):IntKind.i64.wrap ((k:Int)+1)=((k+1:Nat):Int):=wrap_succ _ (by omega)
theorem k_le {k n:Nat} (hn:n<1048577) (hk:(k:Int)<(n:Int)):(IntKind.i64.wrap ((k:Int)+(1:Int))).toNat<=n:=by rw [k_w hn hk,Int.toNat_natCast];omega
theorem k_mu {k n:Nat} (hn:n<1048577) (hk:(k:Int)<(n:Int)):n- (IntKind.i64.wrap ((k:Int)+(1:Int))).toNat<n-k:=by rw [k_w hn hk,Int.toNat_natCast];omega
theorem k_eq {k n:Nat} (hn:n<1048577) (hk:(k:Int)<(n:Int)):((IntKind.i64.wrap ((k:Int)+(1:Int))).toNat:Int)=IntKind.i64.wrap ((k:Int)+(1:Int)):=by rw [k_w hn hk,Int.toNat_natCast]
theorem k_P {k n:Nat} {P:Nat->Prop} (hn:n<1048577) (hk:(k:Int)<(n:Int)) (h:P (k+1)):P (IntKind.i64.wrap ((k:Int)+(1:Int))).toNat:=by rw [k_w hn hk,Int.toNat_natCast];exact h
theorem no_key {a b:LRes} {i k:Nat} (h:¬((a.outs.getD i (LOut.mk false [] [])).rows.getD k (LRow.mk [] [])).key=((b.outs.getD i (LOut.mk false [] [])).rows.getD k (LRow.mk [] [])).key):FAlike a b=false:=
 not_row (fun hh=>h hh.1) rfl rfl
theorem no_val {a b:LRes} {i k:Nat} (h:¬((a.outs.getD i (LOut.mk false [] [])).rows.getD k (LRow.mk [] [])).value=((b.outs.getD i (LOut.mk false [] [])).rows.getD k (LRow.mk [] [])).value):FAlike a b=false:=
 not_row (fun hh=>h hh.2) rfl rfl
noncomputable def sp_Alike:FSpec where
 X:=XRR
 pre x:=FSm x.a/\FSm x.b
 args x:=[.agg (resC 0 x.a),.agg (resC 0 x.b)]
 base:=[]
 own _:=[]
 out x:= .ret (.bool (FAlike x.a x.b)) []
noncomputable def an_calls_Alike (x:XRR):Nat->Option Cut
 | 0=>some {X:=XI,pre:=fun y=>y.i<=x.a.outs.length/\FResHd x.a x.b/\FOutsEq x.a.outs x.b.outs y.i
            tm:=fun y=>[(2,.ptr 0 0 0 0),(3,.ptr 1 0 0 0),(31,outsV 0 x.a.outs),(32,.int .i64 x.a.outs.length),(33,.int .i64 y.i)]
            own:=fun y=>[(0,.cells (resC 0 x.a) Ty.api_Result),(1,.cells (resC 0 x.b) Ty.api_Result)]
            mu:=fun y=>x.a.outs.length-y.i}
 | 2=>some {X:=XIK,R:=Nat,rel:=some fun r y=>r=y.i,pre:=fun y=>y.i<x.a.outs.length/\FResHd x.a x.b/\FOutsEq x.a.outs x.b.outs y.i/\y.k<=(x.a.outs.getD y.i (LOut.mk false [] [])).rows.length/\
             FOutHd (x.a.outs.getD y.i (LOut.mk false [] [])) (x.b.outs.getD y.i (LOut.mk false [] []))/\FRowsEq (x.a.outs.getD y.i (LOut.mk false [] [])).rows (x.b.outs.getD y.i (LOut.mk false [] [])).rows y.k
            tm:=fun y=>[(2,.ptr 0 0 0 0),(3,.ptr 1 0 0 0),(31,outsV 0 x.a.outs),(32,.int .i64 x.a.outs.length),(33,.int .i64 y.i),(5,.int .i64 y.i),(6,.ptr 2 0 0 0),(7,.ptr 3 0 0 0),
             (66,rowsV 0 (x.a.outs.getD y.i (LOut.mk false [] [])).rows),(67,.int .i64 (x.a.outs.getD y.i (LOut.mk false [] [])).rows.length),(68,.int .i64 y.k)]
            own:=fun y=>[(0,.cells (resC 0 x.a) Ty.api_Result),(1,.cells (resC 0 x.b) Ty.api_Result),(2,.cells (outC 0 (x.a.outs.getD y.i (LOut.mk false [] []))) Ty.api_Out),(3,.cells (outC 0 (x.b.outs.getD y.i (LOut.mk false [] []))) Ty.api_Out)]
            mu:=fun y=>(x.a.outs.getD y.i (LOut.mk false [] [])).rows.length -y.k}
 | _=>none
def vc_calls_Alike:Prop:=FnVC Tryz.cy [] Id.calls_Alike sp_Alike an_calls_Alike 10
noncomputable def an_ref_Alike (x:XRR):Nat->Option Cut
 | 0=>some {X:=XI,pre:=fun y=>y.i<=x.a.outs.length/\FResHd x.a x.b/\FOutsEq x.a.outs x.b.outs y.i
            tm:=fun y=>[(2,.ptr 0 0 0 0),(3,.ptr 1 0 0 0),(5,.int .i64 y.i)]
            own:=fun y=>[(0,.cells (resC 0 x.a) Ty.api_Result),(1,.cells (resC 0 x.b) Ty.api_Result)]
            mu:=fun y=>x.a.outs.length-y.i}
 | 2=>some {X:=XIK,R:=Nat,rel:=some fun r y=>r=y.i,pre:=fun y=>y.i<x.a.outs.length/\FResHd x.a x.b/\FOutsEq x.a.outs x.b.outs y.i/\y.k<=(x.a.outs.getD y.i (LOut.mk false [] [])).rows.length/\
             FOutHd (x.a.outs.getD y.i (LOut.mk false [] [])) (x.b.outs.getD y.i (LOut.mk false [] []))/\FRowsEq (x.a.outs.getD y.i (LOut.mk false [] [])).rows (x.b.outs.getD y.i (LOut.mk false [] [])).rows y.k
            tm:=fun y=>[(2,.ptr 0 0 0 0),(3,.ptr 1 0 0 0),(5,.int .i64 y.i),(6,.ptr 2 0 0 0),(7,.ptr 3 0 0 0),(8,.int .i64 y.k)]
            own:=fun y=>[(0,.cells (resC 0 x.a) Ty.api_Result),(1,.cells (resC 0 x.b) Ty.api_Result),(2,.cells (outC 0 (x.a.outs.getD y.i (LOut.mk false [] []))) Ty.api_Out),(3,.cells (outC 0 (x.b.outs.getD y.i (LOut.mk false [] []))) Ty.api_Out)]
            mu:=fun y=>(x.a.outs.getD y.i (LOut.mk false [] [])).rows.length -y.k}
 | _=>none
def vc_ref_Alike:Prop:=FnVC Tryz.cy [] Id.wicketref06_Alike sp_Alike an_ref_Alike 10
end Go.Proofs
