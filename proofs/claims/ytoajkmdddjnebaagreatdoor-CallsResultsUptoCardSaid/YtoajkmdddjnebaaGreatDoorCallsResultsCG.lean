import Derived.Test.YtoajkmdddjnebaaGreatDoorCallsResultsCF
set_option linter.unusedSimpArgs false
set_option linter.unusedVariables false
namespace Go.Proofs
open Go.Eng
structure XRf where
 l:List UInt8
 a:Nat
 ok:Bool
noncomputable def rgO (l:List UInt8) (a:Nat) (ok:Bool):List (Nat×SB):=[(0,.cells [.bytes 0 false l,.int .i64 a] Ty.wicketref01_Reader),(1,.cells [.bool ok] Ty.bool)]
def FRf {α:Type} (p:List UInt8->Nat->Option (α×Nat)) (lim:α->Prop) (l:List UInt8) (a:Nat) (ok:Bool) (x:α×Bool×Nat):Prop:=
 x.2.2<=l.length/\lim x.1/\x.2.1=(ok&&(p l a).isSome)/\∀q,p l a=some q->x.1=q.1/\x.2.2=q.2
theorem and30 (c:Nat):c &&& 1073741823=c%1073741824:=Nat.and_two_pow_sub_one_eq_mod c 30
theorem num_and0 (n:Nat):(BitVec.ofInt 64 (n:Int) &&& BitVec.ofInt 64 (1073741823:Int)).toNat=n%18446744073709551616%1073741824:=by
 have e1:(BitVec.ofInt 64 (1073741823:Int)).toNat=1073741823:=by rw [BitVec.ofInt_ofNat,BitVec.toNat_ofNat]
 have e2:(BitVec.ofInt 64 (n:Int)).toNat=n%18446744073709551616:=by rw [BitVec.ofInt_natCast,BitVec.toNat_ofNat]
 rw [BitVec.toNat_and,e1,e2,and30]
theorem num_and (n:Nat):IntKind.i64.wrap (IntKind.u64.wrap ((BitVec.ofInt 64 (n:Int) &&& BitVec.ofInt 64 (1073741823:Int)).toNat:Int))=((n%1073741824:Nat):Int):=by
 rw [num_and0,wrap_i64,wrap_u64]
 omega
section
variable {l:List UInt8} {a:Nat} {ok:Bool}
theorem rf_num {x:Nat×Int×Nat} (ha:FRdOk l a) (h:FNmR l a x):
 FRf FRNum (fun x=>x<1073741824) l a ok ((IntKind.i64.wrap (IntKind.u64.wrap ((BitVec.ofInt 64 (x.1:Int) &&& BitVec.ofInt 64 (1073741823:Int)).toNat:Int))).toNat,
  bif bif ok then decide (x.2.1=(0:Int)) else false then decide ((x.1:Int)<(1073741824:Int)) else false,x.2.2):=by
 rw [num_and,Int.toNat_natCast]
 rcases h with ⟨h0,h1⟩ | ⟨h0,h1,h2,h3⟩
 · have hb:=(reads_num.sound ha.1 h1).2.2.2
   refine ⟨hb,(by show x.1%1073741824<1073741824;omega),?_,fun q hq=> ?_⟩
   · show (bif bif ok then decide (x.2.1=(0:Int)) else false then decide ((x.1:Int)<(1073741824:Int)) else false)=(ok&&(FRNum l a).isSome)
     unfold FRNum
     rw [h1,h0]
     simp only
     by_cases h:x.1<1073741824
     · rw [if_pos h,decide_eq_true (show (x.1:Int)<(1073741824:Int) by omega)];cases ok<;>rfl
     · rw [if_neg h,decide_eq_false (show ¬(x.1:Int)<(1073741824:Int) by omega)];cases ok<;>rfl
   · unfold FRNum at hq
     rw [h1] at hq
     simp only at hq
     split at hq
     · rename_i hn
       cases hq
       exact ⟨Nat.mod_eq_of_lt hn,rfl⟩
     · cases hq
 · refine ⟨by show x.2.2<=_;rw [h3];exact ha.1,(by show x.1%1073741824<1073741824;omega),?_,fun q hq=> ?_⟩
   · show (bif bif ok then decide (x.2.1=(0:Int)) else false then decide ((x.1:Int)<(1073741824:Int)) else false)=(ok&&(FRNum l a).isSome)
     unfold FRNum
     rw [h1,decide_eq_false h0]
     cases ok<;>rfl
   · unfold FRNum at hq
     rw [h1] at hq
     cases hq
theorem rf_piece {x:List UInt8×Int×Nat} (ha:FRdOk l a) (h:FByR 4096 l a x):
 FRf (FBytesP 4096) (fun x=>x.length<1048577) l a ok (x.1,bif ok then decide (x.2.1=(0:Int)) else false,x.2.2):=by
 rcases h with ⟨h0,h1⟩ | ⟨h0,h1,h2,h3⟩
 · have hb:=by_at (p:=(x.1,x.2.2)) ha (by omega) h1
   refine ⟨hb.1.1,by have:=hb.2;show x.1.length<_;simp only at this;omega,?_,fun q hq=> ?_⟩
   · show (bif ok then decide (x.2.1=(0:Int)) else false)=_
     rw [h1,h0];cases ok<;>simp
   · rw [h1] at hq;cases hq;exact ⟨rfl,rfl⟩
 · refine ⟨by show x.2.2<=_;rw [h3];exact ha.1,by show x.1.length<_;rw [h2];simp,?_,fun q hq=> ?_⟩
   · show (bif ok then decide (x.2.1=(0:Int)) else false)=_
     rw [h1];cases ok<;>simp [h0]
   · rw [h1] at hq;cases hq
theorem rf_flag {x:Bool×Int×Nat} (ha:FRdOk l a) (h:FFlR l a x):FRf FFlagP (fun _=>True) l a ok (x.1,bif ok then decide (x.2.1=(0:Int)) else false,x.2.2):=by
 rcases h with ⟨h0,h1⟩ | ⟨h0,h1,h2,h3⟩
 · have hb:=(reads_flag.sound ha.1 h1).2.2.2
   refine ⟨hb,trivial,?_,fun q hq=> ?_⟩
   · show (bif ok then decide (x.2.1=(0:Int)) else false)=_
     rw [h1,h0];cases ok<;>simp
   · rw [h1] at hq;cases hq;exact ⟨rfl,rfl⟩
 · refine ⟨by show x.2.2<=_;rw [h3];exact ha.1,trivial,?_,fun q hq=> ?_⟩
   · show (bif ok then decide (x.2.1=(0:Int)) else false)=_
     rw [h1];cases ok<;>simp [h0]
   · rw [h1] at hq;cases hq
end
noncomputable def sp_number:FSpec where
 X:=XRf
 pre x:=FRdOk x.l x.a
 args x:=[.ptr 0 0 0 0,.ptr 1 0 0 0]
 base:=[0,1]
 own x:=rgO x.l x.a x.ok
 out x:= .ex (Nat×Bool×Nat) (FRf FRNum (· <1073741824) x.l x.a x.ok) fun p=> .ret (.int .i64 p.1) (rgO x.l p.2.2 p.2.1)
noncomputable def Sp_number:List (Nat×FSpec):=[(Id.wicketref01_Reader_Number,sp_rfNumber)]
def vc_number:Prop:=FnVC Tryz.cy Sp_number Id.wicketref06_number sp_number (fun _ _=>none) 10
noncomputable def sp_piece:FSpec where
 X:=XRf
 pre x:=FRdOk x.l x.a
 args x:=[.ptr 0 0 0 0,.ptr 1 0 0 0]
 base:=[0,1]
 own x:=rgO x.l x.a x.ok
 out x:= .ex (List UInt8×Bool×Nat) (FRf (FBytesP 4096) (·.length<1048577) x.l x.a x.ok) fun p=> .ret (.bytes 1 false p.1) (rgO x.l p.2.2 p.2.1)
noncomputable def Sp_piece:List (Nat×FSpec):=[(Id.wicketref01_Reader_Bytes,sp_rfBytes)]
def vc_piece:Prop:=FnVC Tryz.cy Sp_piece Id.wicketref06_piece sp_piece (fun _ _=>none) 10
noncomputable def sp_flag:FSpec where
 X:=XRf
 pre x:=FRdOk x.l x.a
 args x:=[.ptr 0 0 0 0,.ptr 1 0 0 0]
 base:=[0,1]
 own x:=rgO x.l x.a x.ok
 out x:= .ex (Bool×Bool×Nat) (FRf FFlagP (fun _=>True) x.l x.a x.ok) fun p=> .ret (.bool p.1) (rgO x.l p.2.2 p.2.1)
noncomputable def Sp_flag:List (Nat×FSpec):=[(Id.wicketref01_Reader_Flag,sp_rfFlag)]
def vc_flag:Prop:=FnVC Tryz.cy Sp_flag Id.wicketref06_flag sp_flag (fun _ _=>none) 10
end Go.Proofs
