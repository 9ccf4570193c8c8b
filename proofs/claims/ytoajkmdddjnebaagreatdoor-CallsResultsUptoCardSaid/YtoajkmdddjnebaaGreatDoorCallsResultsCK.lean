import Derived.Test.YtoajkmdddjnebaaGreatDoorCallsResultsWA
set_option linter.unusedSimpArgs false
set_option linter.unusedVariables false
namespace Go.Proofs
open Go.Eng
theorem cmp_eq:∀(a b:List UInt8),cmpBytes a b=FCmp a b
 | [],[]=>rfl
 | [],_::_=>rfl
 | _::_,[]=>rfl
 | a::x,b::y=>by
   simp only [cmpBytes,FCmp,cmp_eq x y]
   have e1:Nat.blt a.toNat b.toNat=decide (a<b):=by
    rw [Bool.eq_iff_iff,Nat.blt_eq,decide_eq_true_iff];exact UInt8.lt_iff_toNat_lt.symm
   have e2:Nat.blt b.toNat a.toNat=decide (b<a):=by
    rw [Bool.eq_iff_iff,Nat.blt_eq,decide_eq_true_iff];exact UInt8.lt_iff_toNat_lt.symm
   rw [e1,e2]
   simp only [Bool.cond_decide]
def FKey (x:List UInt8):Bool:=decide (1<=x.length)&&decide (x.length<=64)
def FValue (x:List UInt8):Bool:=decide (x.length<=256)
theorem FKey_eq (x:List UInt8):FKey x=bif decide ((1:Int)<=(x.length:Int)) then decide ((x.length:Int)<=64) else false:=by
 unfold FKey;rw [Bool.eq_iff_iff];simp;omega
theorem FValue_eq (x:List UInt8):FValue x=decide ((x.length:Int)<=256):=by
 unfold FValue;rw [Bool.eq_iff_iff];simp;omega
noncomputable def sp_Key:FSpec where
 X:=List UInt8
 pre x:=x.length<1099511627776
 args x:=[.bytes 0 false x]
 base:=[]
 own _:=[]
 out x:= .ret (.bool (FKey x)) []
 pv:=some ⟨fun x=> .bool (FKey x),rfl,fun _=>⟨rfl,rfl⟩⟩
noncomputable def sp_Value:FSpec where
 X:=List UInt8
 pre x:=x.length<1099511627776
 args x:=[.bytes 0 false x]
 base:=[]
 own _:=[]
 out x:= .ret (.bool (FValue x)) []
 pv:=some ⟨fun x=> .bool (FValue x),rfl,fun _=>⟨rfl,rfl⟩⟩
structure XAB where
 a:List UInt8
 b:List UInt8
noncomputable def sp_Cmp:FSpec where
 X:=XAB
 pre x:=x.a.length<1099511627776/\x.b.length<1099511627776
 args x:=[.bytes 0 false x.a,.bytes 0 false x.b]
 base:=[]
 own _:=[]
 out x:= .ret (.int .i64 (FCmp x.a x.b)) []
 pv:=some ⟨fun x=> .int .i64 (FCmp x.a x.b),rfl,fun _=>⟨rfl,rfl⟩⟩
def vc_names_Key:Prop:=FnVC Tryz.cy [] Id.names_Key sp_Key (fun _ _=>none) 10
def vc_names_Value:Prop:=FnVC Tryz.cy [] Id.names_Value sp_Value (fun _ _=>none) 10
def vc_names_Cmp:Prop:=FnVC Tryz.cy [] Id.names_Cmp sp_Cmp (fun _ _=>none) 10
def vc_ref05_Key:Prop:=FnVC Tryz.cy [] Id.wicketref05_Key sp_Key (fun _ _=>none) 10
def vc_ref05_Value:Prop:=FnVC Tryz.cy [] Id.wicketref05_Value sp_Value (fun _ _=>none) 10
structure XCI where
 i:Nat
noncomputable def an_ref05_Cmp (x:XAB):Nat->Option Cut
 | 0=>some {X:=XCI,pre:=fun y=>y.i<=x.a.length/\y.i<=x.b.length/\FCmp x.a x.b=FCmp (x.a.drop y.i) (x.b.drop y.i)
            tm:=fun y=>[(0,.bytes 0 false x.a),(1,.bytes 0 false x.b),(5,.int .i64 y.i)]
            own:=fun y=>[]
            mu:=fun y=>x.a.length-y.i}
 | _=>none
def vc_ref05_Cmp:Prop:=FnVC Tryz.cy [] Id.wicketref05_Cmp sp_Cmp an_ref05_Cmp 10
section
variable {a b:List UInt8} {i:Nat}
theorem cmp_at (ha:i<a.length) (hb:i<b.length):FCmp (a.drop i) (b.drop i)=if a.getD i 0<b.getD i 0 then -1 else if b.getD i 0<a.getD i 0 then 1 else FCmp (a.drop (i+1)) (b.drop (i+1)):=by
 rw [drop_getD a i ha,drop_getD b i hb];rfl
theorem cmp_lt (h:FCmp a b=FCmp (a.drop i) (b.drop i)) (ha:i<a.length) (hb:i<b.length) (hl:(a.getD i 0).toNat<(b.getD i 0).toNat):FCmp a b= -1:=by
 rw [h,cmp_at ha hb,if_pos (UInt8.lt_iff_toNat_lt.2 hl)]
theorem cmp_gt (h:FCmp a b=FCmp (a.drop i) (b.drop i)) (ha:i<a.length) (hb:i<b.length) (hl:(b.getD i 0).toNat<(a.getD i 0).toNat):FCmp a b=1:=by
 rw [h,cmp_at ha hb,if_neg (fun h=>by have:=UInt8.lt_iff_toNat_lt.1 h;omega),if_pos (UInt8.lt_iff_toNat_lt.2 hl)]
theorem cmp_go (h:FCmp a b=FCmp (a.drop i) (b.drop i)) (ha:i<a.length) (hb:i<b.length) (h1:¬(a.getD i 0).toNat<(b.getD i 0).toNat) (h2:¬(b.getD i 0).toNat<(a.getD i 0).toNat):FCmp a b=FCmp (a.drop (i+1)) (b.drop (i+1)):=by
 rw [h,cmp_at ha hb,if_neg (fun h=>by have:=UInt8.lt_iff_toNat_lt.1 h;omega),if_neg (fun h=>by have:=UInt8.lt_iff_toNat_lt.1 h;omega)]
theorem cmp_end (h:FCmp a b=FCmp (a.drop i) (b.drop i)) (ha:i<=a.length) (hb:i<=b.length) (he:¬(i<a.length/\i<b.length)):FCmp a b=if a.length<b.length then -1 else if b.length<a.length then 1 else 0:=by
 rw [h]
 rcases Nat.lt_or_ge i a.length with h1 | h1
 · have h2:b.length<=i:=by omega
   rw [List.drop_eq_nil_of_le h2,drop_getD a i h1,if_neg (by omega),if_pos (by omega)];rfl
 · rw [List.drop_eq_nil_of_le h1]
   rcases Nat.lt_or_ge i b.length with h2 | h2
   · rw [drop_getD b i h2,if_pos (by omega)];rfl
   · rw [List.drop_eq_nil_of_le h2,if_neg (by omega),if_neg (by omega)];rfl
end
end Go.Proofs
