import Derived.Test.YtoajkmdddjnebaaGreatDoorCallsOneWA
set_option linter.unusedSimpArgs false
set_option linter.unusedVariables false
namespace Go.Proofs
open Go.Eng
theorem cmp_eq:∀(a b:List UInt8),cmpBytes a b=FCmp a b
 | [],[]=>rfl
 | [],_::_=>rfl
 | _::_,[]=>rfl
 | a::x,b::y=>by
   simp only [cmpBytes,FCmp,cmp_eq x y]
   have e1:Nat.blt a.toNat b.toNat=decide (a<b):=by
    rw [Bool.eq_iff_iff,Nat.blt_eq,decide_eq_true_iff];exact UInt8.lt_iff_toNat_lt.symm
   have e2:Nat.blt b.toNat a.toNat=decide (b<a):=by
    rw [Bool.eq_iff_iff,Nat.blt_eq,decide_eq_true_iff];exact UInt8.lt_iff_toNat_lt.symm
   rw [e1,e2]
   simp only [Bool.cond_decide]
def FKey (x:List UInt8):Bool:=decide (1<=x.length)&&decide (x.length<=64)
def FValue (x:List UInt8):Bool:=decide (x.length<=256)
theorem FKey_eq (x:List UInt8):FKey x=bif decide ((1:Int)<=(x.length:Int)) then decide ((x.length:Int)<=64) else false:=by
 unfold FKey;rw [Bool.eq_iff_iff];simp;omega
theorem FValue_eq (x:List UInt8):FValue x=decide ((x.length:Int)<=256):=by
 unfold FValue;rw [Bool.eq_iff_iff];simp;omega
noncomputable def sp_Key:FSpec where
 X:=List UInt8
 pre x:=x.length<1099511627776
 args x:=[.bytes 0 false x]
 base:=[]
 own _:=[]
 out x:= .ret (.bool (FKey x)) []
 pv:=some ⟨fun x=> .bool (FKey x),rfl,fun _=>⟨rfl,rfl⟩⟩
noncomputable def sp_Value:FSpec where
 X:=List UInt8
 pre x:=x.length<1099511627776
 args x:=[.bytes 0 false x]
 base:=[]
 own _:=[]
 out x:= .ret (.bool (FValue x)) []
 pv:=some ⟨fun x=> .bool (FValue x),rfl,fun _=>⟨rfl,rfl⟩⟩
structure XAB where
 a:List UInt8
 b:List UInt8
def vc_names_Key:Prop:=FnVC Tryz.cy [] Id.names_Key sp_Key (fun _ _=>none) 10
def vc_names_Value:Prop:=FnVC Tryz.cy [] Id.names_Value sp_Value (fun _ _=>none) 10
def vc_ref05_Key:Prop:=FnVC Tryz.cy [] Id.wicketref05_Key sp_Key (fun _ _=>none) 10
def vc_ref05_Value:Prop:=FnVC Tryz.cy [] Id.wicketref05_Value sp_Value (fun _ _=>none) 10
structure XCI where
 i:Nat
section
variable {a b:List UInt8} {i:Nat}
end
end Go.Proofs
