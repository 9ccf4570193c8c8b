import Derived.Test.YtoajkmdddjnebaaGreatDoorCallsOneCY
import Derived.Test.YtoajkmdddjnebaaGreatDoorSymF
import Derived.Test.YtoajkmdddjnebaaGreatDoorCallsOneIds
import Derived.Test.YtoajkmdddjnebaaGreatDoorCallsOnePL
set_option linter.unusedSimpArgs false
set_option linter.unusedVariables false
namespace Go.Proofs
open Go.Eng
structure XNumber where
 n:Nat
 k:Nat
 buf:List UInt8
noncomputable def an_wire_Number (n:Nat):Nat->Option Cut
 | 0=>some {X:=XNumber,pre:=fun x=>x.n*128^x.k<=n/\x.k<=9/\x.buf.length=10/\(0<x.k->0<x.n)/\x.buf.drop x.k=List.replicate (10-x.k) 0/\FNum n=x.buf.take x.k++formF (10-x.k) x.n
            tm:=fun x=>[(0,.int .u64 x.n),(3,.sl 0 1 0 x.k 10 false)]
            own:=fun x=>[(0,.bytes x.buf Ty.uint8)]
            mu:=fun x=>x.n}
 | _=>none
noncomputable def sp_wire_NumberO:FSpec where
 X:=Nat
 pre n:=n<18446744073709551616
 args n:=[.int .u64 n]
 base:=[]
 own _:=[]
 out n:= .ret (.sl 0 1 0 (FNum n).length 10 false) [(0,.bytes (FNum n++List.replicate (10- (FNum n).length) 0) Ty.uint8)]
def vc_wire_NumberO:Prop:=FnVC Tryz.cy [] Id.wire_Number sp_wire_NumberO an_wire_Number 10
theorem cutL_all' (l:List UInt8):cutL l 0 l.length=l:=by simp [cutL]
theorem rep_step {buf:List UInt8} {k:Nat} {x:UInt8} (hl:buf.length=10) (hk:k+1<=10) (h:buf.drop k=List.replicate (10-k) 0):
 List.drop (k+1) (List.take (0+k) buf++x::List.drop (0+k+1) buf)=List.replicate (10- (k+1)) 0:=by
 have e:(List.take (0+k) buf++[x]).length=k+1:=by simp;omega
 have e2:List.take (0+k) buf++x::List.drop (0+k+1) buf=(List.take (0+k) buf++[x])++List.drop (0+k+1) buf:=by simp
 have e3:List.drop (k+1) ((List.take (0+k) buf++[x])++List.drop (0+k+1) buf)=List.drop (0+k+1) buf:=by
  conv=>lhs;rw [<-e]
  exact List.drop_left
 rw [e2,e3,Nat.zero_add,<-List.drop_drop,h]
 simp
 omega
theorem num_len {b:List UInt8} {k n x:Nat} (h:FNum x=b++formF (10-k) n) (hb:b.length=k) (hk:k<=9) (hn:¬(127:Int)<(n:Int)):(FNum x).length=k+1:=by
 rw [h,show 10-k=(9-k)+1 by omega,formF_last (by omega)];simp [hb]
theorem u8_small {n:Nat} (hn:¬(127:Int)<(n:Int)):UInt8.ofNat (IntKind.u8.wrap (n:Int)).toNat=UInt8.ofNat n:=by
 rw [u8_wrap];congr 1;omega
theorem num_fill {buf:List UInt8} {k n x:Nat} (h:FNum x=buf.take k++formF (10-k) n) (hl:buf.length=10) (hk:k<=9) (hn:¬(127:Int)<(n:Int)) (hd:buf.drop k=List.replicate (10-k) 0):
 FNum x++List.replicate (10- (FNum x).length) 0=List.take (0+k) buf++UInt8.ofNat (IntKind.u8.wrap (n:Int)).toNat::List.drop (0+k+1) buf:=by
 rw [num_len h (by simp;omega) hk hn,h,u8_small hn,show 10-k=(9-k)+1 by omega,formF_last (by omega),Nat.zero_add,<-List.drop_drop,hd]
 simp
 omega
theorem tdiv128 (n:Nat) (h:n<18446744073709551616):(IntKind.u64.wrap (Int.tdiv (n:Int) 128)).toNat=n/128:=by
 rw [show Int.tdiv (n:Int) (128:Int)=((n/128:Nat):Int) from rfl,wrap_u64];omega
theorem tmod128 (n:Nat):UInt8.ofNat (IntKind.u8.wrap (IntKind.u64.wrap (Int.tmod (n:Int) 128+128))).toNat=UInt8.ofNat (n%128+128):=by
 have e:IntKind.u64.wrap (Int.tmod (n:Int) 128+128)=((n%128+128:Nat):Int):=by
  rw [show Int.tmod (n:Int) (128:Int)=((n%128:Nat):Int) from rfl,wrap_u64];omega
 rw [e,u8_wrap]
 congr 1
 omega
theorem le_pow_div {n k x:Nat} (h:n*128^k<=x):n/128*128^(k+1)<=x:=by
 rw [Nat.pow_succ]
 refine Nat.le_trans ?_ h
 rw [<-Nat.mul_assoc,Nat.mul_right_comm]
 exact Nat.mul_le_mul_right _ (Nat.div_mul_le_self ..)
theorem lt_of_pow {n k x b:Nat} (h:n*128^k<=x) (hx:x<b):n<b:=by
 have:n*1<=n*128^k:=Nat.mul_le_mul_left _ (Nat.pow_pos (by decide))
 omega
noncomputable def an_ref01_Number (n:Nat):Nat->Option Cut
 | 0=>some {X:=XNumber,pre:=fun x=>x.n*128^x.k<=n/\x.k<=9/\x.buf.length=x.k/\(0<x.k->0<x.n)/\FNum n=x.buf++formF (10-x.k) x.n
            tm:=fun x=>[(0,.int .u64 x.n),(3,.sl 0 1 0 x.k x.k true)]
            own:=fun x=>[(0,.bytes x.buf Ty.uint8)]
            mu:=fun x=>x.n}
 | _=>none
noncomputable def sp_ref01_Number:FSpec where
 X:=Nat
 pre n:=n<18446744073709551616
 args n:=[.int .u64 n]
 base:=[]
 own _:=[]
 out n:= .ret (.sl 0 1 0 (FNum n).length (FNum n).length true) [(0,.bytes (FNum n) Ty.uint8)]
def vc_ref01_Number:Prop:=FnVC Tryz.cy [] Id.wicketref01_Number sp_ref01_Number an_ref01_Number 10
section
variable {l:List UInt8} {a i acc at_:Nat} (h:Frd 0 0 (l.drop a)=Frd i acc (l.drop at_))
include h
end
structure XRd where
 l:List UInt8
 a:Nat
structure XRdL where
 i:Nat
 at_:Nat
 acc:Nat
 sh:Nat
end Go.Proofs
