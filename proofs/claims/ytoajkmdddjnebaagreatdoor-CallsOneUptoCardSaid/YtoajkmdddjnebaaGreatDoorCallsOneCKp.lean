import Derived.Test.YtoajkmdddjnebaaGreatDoorCallsOneCK
set_option linter.unusedSimpArgs false
set_option linter.unusedVariables false
namespace Go.Proofs
open Go.Eng
set_option maxRecDepth 100000
def nf_names_Key:Prop:=
 ∀(x:List UInt8),x.length<1099511627776->∀(q:Bool),q=decide ((1:Int)<=(↑x.length:Int))->(q=true->q=true->q=true)/\(q=true->q=true->q=true)/\(true=true->q=true->q=true)/\(FKey x=bif q then decide ((↑x.length:Int)<=(64:Int)) else false)/\True
theorem eq_names_Key:vc_names_Key=nf_names_Key:=by kernel_rfl
theorem pf_names_Key:nf_names_Key:=by
 delta nf_names_Key
 intro x0
 intro h1
 intro q2 hq2;subst hq2
 refine ⟨by (simp;done),by (simp;done),by (simp;done),by exact FKey_eq _, ?_⟩
 trivial
def nf_names_Value:Prop:=
 ∀(x:List UInt8),x.length<1099511627776->FValue x=decide ((↑x.length:Int)<=(256:Int))/\True
theorem eq_names_Value:vc_names_Value=nf_names_Value:=by kernel_rfl
theorem pf_names_Value:nf_names_Value:=by
 delta nf_names_Value
 intro x0
 intro h1
 refine ⟨by exact FValue_eq _, ?_⟩
 trivial
def nf_ref05_Key:Prop:=
 ∀(x:List UInt8),x.length<1099511627776->∀(q:Bool),q=decide ((1:Int)<=(↑x.length:Int))->(q=true->q=true->q=true)/\(q=true->q=true->q=true)/\(true=true->q=true->q=true)/\(FKey x=bif q then decide ((↑x.length:Int)<=(64:Int)) else false)/\True
theorem eq_ref05_Key:vc_ref05_Key=nf_ref05_Key:=by kernel_rfl
theorem pf_ref05_Key:nf_ref05_Key:=by
 delta nf_ref05_Key
 intro x0
 intro h1
 intro q2 hq2;subst hq2
 refine ⟨by (simp;done),by (simp;done),by (simp;done),by exact FKey_eq _, ?_⟩
 trivial
def nf_ref05_Value:Prop:=
 ∀(x:List UInt8),x.length<1099511627776->FValue x=decide ((↑x.length:Int)<=(256:Int))/\True
theorem eq_ref05_Value:vc_ref05_Value=nf_ref05_Value:=by kernel_rfl
theorem pf_ref05_Value:nf_ref05_Value:=by
 delta nf_ref05_Value
 intro x0
 intro h1
 refine ⟨by exact FValue_eq _, ?_⟩
 trivial
end Go.Proofs
