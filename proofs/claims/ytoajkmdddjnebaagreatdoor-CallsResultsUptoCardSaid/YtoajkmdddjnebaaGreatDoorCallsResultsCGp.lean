import Derived.Test.YtoajkmdddjnebaaGreatDoorCallsResultsCG
set_option linter.unusedSimpArgs false
set_option linter.unusedVariables false
namespace Go.Proofs
open Go.Eng
set_option maxRecDepth 100000
abbrev zCG0_0:Bool->Prop->Prop:=fun x0 p=>(x0=true->x0=true->x0=true)/\(true=true->x0=true->x0=true)/\p
def nf_number:Prop:=
 ∀(x:XRf),FRdOk x.l x.a->∃(x_1:XRd),FRdOk x_1.l x_1.a/\0=0/\0=0/\0=0/\(false=true->false=true)/\x_1.l=x.l/\Eq (α:=Int) (↑x_1.a:Int) (↑x.a:Int)/\∀(x_2:Nat×Int×Nat),FNmR x_1.l x_1.a x_2->True/\∀(q:Bool),q=x.ok->zCG0_0 q (∀(q_1:Bool),(q_1=bif q then decide (x_2.snd.fst=(0:Int)) else false)->zCG0_0 q_1 (∃(x_3:Nat×Bool×Nat),FRf FRNum (fun x=>x<1073741824) x.l x.a x.ok x_3/\(↑x_3.fst:Int)=IntKind.i64.wrap (IntKind.u64.wrap (↑(BitVec.ofInt 64 (↑x_2.fst:Int) &&& BitVec.ofInt 64 (1073741823:Int)).toNat:Int))/\(false=true->false=true)/\x.l=x_1.l/\Eq (α:=Int) (↑x_3.snd.snd:Int) (↑x_2.snd.snd:Int)/\(x_3.snd.fst=bif q_1 then decide ((↑x_2.fst:Int)<(1073741824:Int)) else false)/\True))
theorem eq_number:vc_number=nf_number:=by kernel_rfl
theorem pf_number:nf_number:=by
 delta nf_number zCG0_0
 intro x0
 intro h1
 refine ⟨⟨(x0.l),(x0.a)⟩,?_⟩
 try dsimp only
 refine ⟨by exact h1,by rfl,by rfl,by rfl,by (simp;done),by rfl,by rfl,?_⟩
 intro x2
 intro h3
 refine ⟨by trivial,?_⟩
 intro q4 hq4;subst hq4
 refine ⟨by (simp;done),by (simp;done),?_⟩
 intro q5 hq5;subst hq5
 refine ⟨by (simp;done),by (simp;done),?_⟩
 refine ⟨⟨((IntKind.i64.wrap (IntKind.u64.wrap (↑(BitVec.ofInt 64 (↑x2.fst:Int) &&& BitVec.ofInt 64 (1073741823:Int)).toNat:Int)):Int)).toNat,⟨(bif bif x0.ok then decide (x2.snd.fst=(0:Int)) else false then decide ((↑x2.fst:Int)<(1073741824:Int)) else false),(x2.snd.snd)⟩⟩,?_⟩
 try dsimp only
 refine ⟨by exact rf_num h1 h3,by (rw [num_and,Int.toNat_natCast]),by (simp;done),by rfl,by rfl,by rfl,?_⟩
 trivial
abbrev zCG1_0:Prop:=false=true->false=true
def nf_piece:Prop:=
 ∀(x:XRf),FRdOk x.l x.a->∃(x_1:XRdM),(FRdOk x_1.l x_1.a/\x_1.most<1048577)/\0=0/\0=0/\0=0/\(↑x_1.most:Int)=(4096:Int)/\zCG1_0/\x_1.l=x.l/\Eq (α:=Int) (↑x_1.a:Int) (↑x.a:Int)/\∀(x_2:List UInt8×Int×Nat),FByR x_1.most x_1.l x_1.a x_2->True/\∀(q:Bool),q=x.ok->(q=true->q=true->q=true)/\(true=true->q=true->q=true)/\∃(x_3:List UInt8×Bool×Nat),FRf (FBytesP 4096) (fun x=>x.length<1048577) x.l x.a x.ok x_3/\zCG1_0/\x_3.fst=x_2.fst/\zCG1_0/\x.l=x_1.l/\Eq (α:=Int) (↑x_3.snd.snd:Int) (↑x_2.snd.snd:Int)/\(x_3.snd.fst=bif q then decide (x_2.snd.fst=(0:Int)) else false)/\True
theorem eq_piece:vc_piece=nf_piece:=by kernel_rfl
theorem pf_piece:nf_piece:=by
 delta nf_piece zCG1_0
 intro x0
 intro h1
 refine ⟨⟨(x0.l),(x0.a),(((4096:Int):Int)).toNat⟩,?_⟩
 try dsimp only
 refine ⟨?_,?_⟩
 ·refine ⟨by exact h1,?_⟩
  decide
 refine ⟨by rfl,by rfl,by rfl,by decide,by (simp;done),by rfl,by rfl,?_⟩
 intro x2
 intro h3
 refine ⟨by trivial,?_⟩
 intro q4 hq4;subst hq4
 refine ⟨by (simp;done),by (simp;done),?_⟩
 refine ⟨⟨(x2.fst),⟨(bif x0.ok then decide (x2.snd.fst=(0:Int)) else false),(x2.snd.snd)⟩⟩,?_⟩
 try dsimp only
 refine ⟨by exact rf_piece h1 h3,by (simp;done),by rfl,by (simp;done),by rfl,by rfl,by rfl,?_⟩
 trivial
def nf_flag:Prop:=
 ∀(x:XRf),FRdOk x.l x.a->∃(x_1:XRd),FRdOk x_1.l x_1.a/\0=0/\0=0/\0=0/\(false=true->false=true)/\x_1.l=x.l/\Eq (α:=Int) (↑x_1.a:Int) (↑x.a:Int)/\∀(x_2:Bool×Int×Nat),FFlR x_1.l x_1.a x_2->True/\∀(q:Bool),q=x.ok->(q=true->q=true->q=true)/\(true=true->q=true->q=true)/\∀(q_1:Bool),q_1=x_2.fst->∃(x_3:Bool×Bool×Nat),FRf FFlagP (fun x=>True) x.l x.a x.ok x_3/\x_3.fst=q_1/\(false=true->false=true)/\x.l=x_1.l/\Eq (α:=Int) (↑x_3.snd.snd:Int) (↑x_2.snd.snd:Int)/\(x_3.snd.fst=bif q then decide (x_2.snd.fst=(0:Int)) else false)/\True
theorem eq_flag:vc_flag=nf_flag:=by kernel_rfl
theorem pf_flag:nf_flag:=by
 delta nf_flag
 intro x0
 intro h1
 refine ⟨⟨(x0.l),(x0.a)⟩,?_⟩
 try dsimp only
 refine ⟨by exact h1,by rfl,by rfl,by rfl,by (simp;done),by rfl,by rfl,?_⟩
 intro x2
 intro h3
 refine ⟨by trivial,?_⟩
 intro q4 hq4;subst hq4
 refine ⟨by (simp;done),by (simp;done),?_⟩
 intro q5 hq5;subst hq5
 refine ⟨⟨(x2.fst),⟨(bif x0.ok then decide (x2.snd.fst=(0:Int)) else false),(x2.snd.snd)⟩⟩,?_⟩
 try dsimp only
 refine ⟨by exact rf_flag h1 h3,by rfl,by (simp;done),by rfl,by rfl,by rfl,?_⟩
 trivial
end Go.Proofs
