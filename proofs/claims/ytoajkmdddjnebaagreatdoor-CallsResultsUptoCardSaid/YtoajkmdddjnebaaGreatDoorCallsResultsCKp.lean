import Derived.Test.YtoajkmdddjnebaaGreatDoorCallsResultsCK
set_option linter.unusedSimpArgs false
set_option linter.unusedVariables false
namespace Go.Proofs
open Go.Eng
set_option maxRecDepth 100000
def nf_names_Key:Prop:=
 ∀(x:List UInt8),x.length<1099511627776->∀(q:Bool),q=decide ((1:Int)<=(↑x.length:Int))->(q=true->q=true->q=true)/\(q=true->q=true->q=true)/\(true=true->q=true->q=true)/\(FKey x=bif q then decide ((↑x.length:Int)<=(64:Int)) else false)/\True
theorem eq_names_Key:vc_names_Key=nf_names_Key:=by kernel_rfl
theorem pf_names_Key:nf_names_Key:=by
 delta nf_names_Key
 intro x0
 intro h1
 intro q2 hq2;subst hq2
 refine ⟨by (simp;done),by (simp;done),by (simp;done),by exact FKey_eq _,?_⟩
 trivial
def nf_names_Value:Prop:=
 ∀(x:List UInt8),x.length<1099511627776->FValue x=decide ((↑x.length:Int)<=(256:Int))/\True
theorem eq_names_Value:vc_names_Value=nf_names_Value:=by kernel_rfl
theorem pf_names_Value:nf_names_Value:=by
 delta nf_names_Value
 intro x0
 intro h1
 refine ⟨by exact FValue_eq _,?_⟩
 trivial
def nf_names_Cmp:Prop:=
 ∀(x:XAB),x.a.length<1099511627776/\x.b.length<1099511627776->FCmp x.a x.b=cmpBytes x.a x.b/\True
theorem eq_names_Cmp:vc_names_Cmp=nf_names_Cmp:=by kernel_rfl
theorem pf_names_Cmp:nf_names_Cmp:=by
 delta nf_names_Cmp
 intro x0
 intro ⟨h1,h2⟩
 refine ⟨by exact (cmp_eq _ _).symm,?_⟩
 trivial
def nf_ref05_Key:Prop:=
 ∀(x:List UInt8),x.length<1099511627776->∀(q:Bool),q=decide ((1:Int)<=(↑x.length:Int))->(q=true->q=true->q=true)/\(q=true->q=true->q=true)/\(true=true->q=true->q=true)/\(FKey x=bif q then decide ((↑x.length:Int)<=(64:Int)) else false)/\True
theorem eq_ref05_Key:vc_ref05_Key=nf_ref05_Key:=by kernel_rfl
theorem pf_ref05_Key:nf_ref05_Key:=by
 delta nf_ref05_Key
 intro x0
 intro h1
 intro q2 hq2;subst hq2
 refine ⟨by (simp;done),by (simp;done),by (simp;done),by exact FKey_eq _,?_⟩
 trivial
def nf_ref05_Value:Prop:=
 ∀(x:List UInt8),x.length<1099511627776->FValue x=decide ((↑x.length:Int)<=(256:Int))/\True
theorem eq_ref05_Value:vc_ref05_Value=nf_ref05_Value:=by kernel_rfl
theorem pf_ref05_Value:nf_ref05_Value:=by
 delta nf_ref05_Value
 intro x0
 intro h1
 refine ⟨by exact FValue_eq _,?_⟩
 trivial
abbrev zCK5_0:XCI->XAB->Prop:=fun x0 x1=>x0.i<=x1.a.length/\x0.i<=x1.b.length/\FCmp x1.a x1.b=FCmp (List.drop x0.i x1.a) (List.drop x0.i x1.b)
abbrev zCK5_1:XCI->XAB->Prop->Prop:=fun x0 x1 p=>(0:Int)<=(↑x0.i:Int)/\Int.toNat (↑x0.i:Int)<x1.a.length/\(0:Int)<=(↑x0.i:Int)/\Int.toNat (↑x0.i:Int)<x1.b.length/\p
abbrev zCK5_2:XAB->Prop->Prop:=fun x0 p=>(false=true->false=true)/\x0.a=x0.a/\(false=true->false=true)/\x0.b=x0.b/\p
abbrev zCK5_4:Bool->Prop:=fun x0=>x0=true->x0=true->x0=true
abbrev zCK5_3:Bool->Prop->Prop:=fun x0 p=>zCK5_4 x0/\zCK5_4 x0/\p
def nf_ref05_Cmp:Prop:=
 ∀(x:XAB),x.a.length<1099511627776/\x.b.length<1099511627776->(∃(x_1:XCI),zCK5_0 x_1 x/\zCK5_2 x ((↑x_1.i:Int)=(0:Int)/\True))/\True/\∀(x_1:XCI),zCK5_0 x_1 x->∀(q:Bool),q=decide (LT.lt (α:=Int) (↑x_1.i:Int) (↑x.a.length:Int))->zCK5_3 q (zCK5_4 q/\(true=true->q=true->q=true)/\Eng.ask (bif q then decide (LT.lt (α:=Int) (↑x_1.i:Int) (↑x.b.length:Int)) else false) (zCK5_1 x_1 x (Eng.ask (decide (LT.lt (α:=Int) (↑(x.a.getD (Int.toNat (↑x_1.i:Int)) (0:UInt8)).toNat:Int) (↑(x.b.getD (Int.toNat (↑x_1.i:Int)) (0:UInt8)).toNat:Int))) (FCmp x.a x.b=(-1:Int)/\True) (zCK5_1 x_1 x (Eng.ask (decide (LT.lt (α:=Int) (↑(x.b.getD (Int.toNat (↑x_1.i:Int)) (0:UInt8)).toNat:Int) (↑(x.a.getD (Int.toNat (↑x_1.i:Int)) (0:UInt8)).toNat:Int))) (FCmp x.a x.b=(1:Int)/\True) (True/\True/\True/\∃(x':XCI),zCK5_0 x' x/\x.a.length-x'.i<x.a.length-x_1.i/\zCK5_2 x ((↑x'.i:Int)=IntKind.i64.wrap ((↑x_1.i:Int)+(1:Int))/\True)))))) (Eng.ask (decide (LT.lt (α:=Int) (↑x.a.length:Int) (↑x.b.length:Int))) (FCmp x.a x.b=(-1:Int)/\True) (Eng.ask (decide (LT.lt (α:=Int) (↑x.b.length:Int) (↑x.a.length:Int))) (FCmp x.a x.b=(1:Int)/\True) (FCmp x.a x.b=(0:Int)/\True))))
theorem eq_ref05_Cmp:vc_ref05_Cmp=nf_ref05_Cmp:=by kernel_rfl
theorem pf_ref05_Cmp:nf_ref05_Cmp:=by
 delta nf_ref05_Cmp zCK5_0 zCK5_1 zCK5_2 zCK5_4 zCK5_3
 intro x0
 intro ⟨h1,h2⟩
 refine ⟨?_,?_⟩
 ·refine ⟨⟨(((0:Int):Int)).toNat⟩,?_⟩
  try dsimp only
  refine ⟨by (simp;done),by (simp;done),by rfl,by (simp;done),by rfl,by decide,?_⟩
  trivial
 refine ⟨by trivial,?_⟩
 intro x3
 intro ⟨h4,⟨h5,h6⟩⟩
 intro q7 hq7;subst hq7
 refine ⟨by (simp;done),by (simp;done),by (simp;done),by (simp;done),?_⟩
 refine ask_p (bp_and bp_dec bp_dec) ?_ ?_
 ·intro ⟨h8,h9⟩
  refine ⟨by omega,by omega,by omega,by omega,?_⟩
  refine ask_p bp_dec ?_ ?_
  ·intro h10
   refine ⟨by exact cmp_lt ‹_› (by omega) (by omega) (by simp only [Int.toNat_natCast] at*;omega),?_⟩
   trivial
  intro h10
  refine ⟨by omega,by omega,by omega,by omega,?_⟩
  refine ask_p bp_dec ?_ ?_
  ·intro h11
   refine ⟨by exact cmp_gt ‹_› (by omega) (by omega) (by simp only [Int.toNat_natCast] at*;omega),?_⟩
   trivial
  intro h11
  refine ⟨by trivial,by trivial,by trivial,?_⟩
  refine ⟨⟨((IntKind.i64.wrap ((↑x3.i:Int)+(1:Int)):Int)).toNat⟩,?_⟩
  try dsimp only
  refine ⟨?_,?_⟩
  ·refine ⟨by (rw [wrap_succ _ (by omega)];omega),by (rw [wrap_succ _ (by omega)];omega),?_⟩
   (rw [wrap_succ _ (by omega),Int.toNat_natCast];exact cmp_go ‹_› (by omega) (by omega) (by simp only [Int.toNat_natCast] at*;omega) (by simp only [Int.toNat_natCast] at*;omega))
  refine ⟨by (rw [wrap_succ _ (by omega)];omega),by (simp;done),by rfl,by (simp;done),by rfl,by (rw [wrap_succ _ (by omega)];omega),?_⟩
  trivial
 intro h8
 refine ask_p bp_dec ?_ ?_
 ·intro h9
  refine ⟨by (rw [cmp_end ‹_› (by omega) (by omega) (by omega)];split<;>omega),?_⟩
  trivial
 intro h9
 refine ask_p bp_dec ?_ ?_
 ·intro h10
  refine ⟨by (rw [cmp_end ‹_› (by omega) (by omega) (by omega)];split<;>omega),?_⟩
  trivial
 intro h10
 refine ⟨by (rw [cmp_end ‹_› (by omega) (by omega) (by omega)];split<;>omega),?_⟩
 trivial
end Go.Proofs
