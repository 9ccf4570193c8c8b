import Derived.Test.YtoajkmdddjnebaaGreatDoorCallsResultsCY
import Derived.Test.YtoajkmdddjnebaaGreatDoorSymF
import Derived.Test.YtoajkmdddjnebaaGreatDoorCallsResultsIds
import Derived.Test.YtoajkmdddjnebaaGreatDoorCallsResultsPL
set_option linter.unusedSimpArgs false
set_option linter.unusedVariables false
namespace Go.Proofs
open Go.Eng
structure XNumber where
 n:Nat
 k:Nat
 buf:List UInt8
noncomputable def an_wire_Number (n:Nat):Nat->Option Cut
 | 0=>some {X:=XNumber,pre:=fun x=>x.n*128^x.k<=n/\x.k<=9/\x.buf.length=10/\(0<x.k->0<x.n)/\x.buf.drop x.k=List.replicate (10-x.k) 0/\FNum n=x.buf.take x.k++formF (10-x.k) x.n
            tm:=fun x=>[(0,.int .u64 x.n),(3,.sl 0 1 0 x.k 10 false)]
            own:=fun x=>[(0,.bytes x.buf Ty.uint8)]
            mu:=fun x=>x.n}
 | _=>none
noncomputable def sp_wire_NumberO:FSpec where
 X:=Nat
 pre n:=n<18446744073709551616
 args n:=[.int .u64 n]
 base:=[]
 own _:=[]
 out n:= .ret (.sl 0 1 0 (FNum n).length 10 false) [(0,.bytes (FNum n++List.replicate (10- (FNum n).length) 0) Ty.uint8)]
def vc_wire_NumberO:Prop:=FnVC Tryz.cy [] Id.wire_Number sp_wire_NumberO an_wire_Number 10
theorem cutL_all' (l:List UInt8):cutL l 0 l.length=l:=by simp [cutL]
theorem rep_step {buf:List UInt8} {k:Nat} {x:UInt8} (hl:buf.length=10) (hk:k+1<=10) (h:buf.drop k=List.replicate (10-k) 0):
 List.drop (k+1) (List.take (0+k) buf++x::List.drop (0+k+1) buf)=List.replicate (10- (k+1)) 0:=by
 have e:(List.take (0+k) buf++[x]).length=k+1:=by simp;omega
 have e2:List.take (0+k) buf++x::List.drop (0+k+1) buf=(List.take (0+k) buf++[x])++List.drop (0+k+1) buf:=by simp
 have e3:List.drop (k+1) ((List.take (0+k) buf++[x])++List.drop (0+k+1) buf)=List.drop (0+k+1) buf:=by
  conv=>lhs;rw [<-e]
  exact List.drop_left
 rw [e2,e3,Nat.zero_add,<-List.drop_drop,h]
 simp
 omega
theorem num_len {b:List UInt8} {k n x:Nat} (h:FNum x=b++formF (10-k) n) (hb:b.length=k) (hk:k<=9) (hn:¬(127:Int)<(n:Int)):(FNum x).length=k+1:=by
 rw [h,show 10-k=(9-k)+1 by omega,formF_last (by omega)];simp [hb]
theorem u8_small {n:Nat} (hn:¬(127:Int)<(n:Int)):UInt8.ofNat (IntKind.u8.wrap (n:Int)).toNat=UInt8.ofNat n:=by
 rw [u8_wrap];congr 1;omega
theorem num_fill {buf:List UInt8} {k n x:Nat} (h:FNum x=buf.take k++formF (10-k) n) (hl:buf.length=10) (hk:k<=9) (hn:¬(127:Int)<(n:Int)) (hd:buf.drop k=List.replicate (10-k) 0):
 FNum x++List.replicate (10- (FNum x).length) 0=List.take (0+k) buf++UInt8.ofNat (IntKind.u8.wrap (n:Int)).toNat::List.drop (0+k+1) buf:=by
 rw [num_len h (by simp;omega) hk hn,h,u8_small hn,show 10-k=(9-k)+1 by omega,formF_last (by omega),Nat.zero_add,<-List.drop_drop,hd]
 simp
 omega
theorem tdiv128 (n:Nat) (h:n<18446744073709551616):(IntKind.u64.wrap (Int.tdiv (n:Int) 128)).toNat=n/128:=by
 rw [show Int.tdiv (n:Int) (128:Int)=((n/128:Nat):Int) from rfl,wrap_u64];omega
theorem tmod128 (n:Nat):UInt8.ofNat (IntKind.u8.wrap (IntKind.u64.wrap (Int.tmod (n:Int) 128+128))).toNat=UInt8.ofNat (n%128+128):=by
 have e:IntKind.u64.wrap (Int.tmod (n:Int) 128+128)=((n%128+128:Nat):Int):=by
  rw [show Int.tmod (n:Int) (128:Int)=((n%128:Nat):Int) from rfl,wrap_u64];omega
 rw [e,u8_wrap]
 congr 1
 omega
theorem le_pow_div {n k x:Nat} (h:n*128^k<=x):n/128*128^(k+1)<=x:=by
 rw [Nat.pow_succ]
 refine Nat.le_trans ?_ h
 rw [<-Nat.mul_assoc,Nat.mul_right_comm]
 exact Nat.mul_le_mul_right _ (Nat.div_mul_le_self ..)
theorem lt_of_pow {n k x b:Nat} (h:n*128^k<=x) (hx:x<b):n<b:=by
 have:n*1<=n*128^k:=Nat.mul_le_mul_left _ (Nat.pow_pos (by decide))
 omega
noncomputable def an_ref01_Number (n:Nat):Nat->Option Cut
 | 0=>some {X:=XNumber,pre:=fun x=>x.n*128^x.k<=n/\x.k<=9/\x.buf.length=x.k/\(0<x.k->0<x.n)/\FNum n=x.buf++formF (10-x.k) x.n
            tm:=fun x=>[(0,.int .u64 x.n),(3,.sl 0 1 0 x.k x.k true)]
            own:=fun x=>[(0,.bytes x.buf Ty.uint8)]
            mu:=fun x=>x.n}
 | _=>none
noncomputable def sp_ref01_Number:FSpec where
 X:=Nat
 pre n:=n<18446744073709551616
 args n:=[.int .u64 n]
 base:=[]
 own _:=[]
 out n:= .ret (.sl 0 1 0 (FNum n).length (FNum n).length true) [(0,.bytes (FNum n) Ty.uint8)]
def vc_ref01_Number:Prop:=FnVC Tryz.cy [] Id.wicketref01_Number sp_ref01_Number an_ref01_Number 10
theorem and127 (c:Nat):c &&& 127=c%128:=Nat.and_two_pow_sub_one_eq_mod c 7
theorem rd_shift {m i:Nat} (h:m*128^i<2^64) (hi:i<=9):IntKind.u64.wrap ((m:Int)*(2:Int)^min (7*i) 64)=((m*128^i:Nat):Int):=by
 have e1:min (7*i) 64=7*i:=by omega
 have e2:(2:Int)^(7*i)=((128^i:Nat):Int):=by rw [Int.pow_mul];simp
 rw [e1,e2,wrap_u64,<-Int.natCast_mul]
 omega
theorem rd_small {acc i c:Nat} (hi:i<=9) (ha:acc<128^i) (h9:i=9->c<=1):acc<2^63/\c%128*128^i<=2^63:=by
 have hp:128^i<=128^9:=Nat.pow_le_pow_right (by decide) hi
 refine ⟨Nat.lt_of_lt_of_le ha (Nat.le_trans hp (by decide)),?_⟩
 rcases Nat.lt_or_ge i 9 with h | h
 · have:128^i<=128^8:=Nat.pow_le_pow_right (by decide) (by omega)
   calc c%128*128^i<=127*128^8:=Nat.mul_le_mul (by omega) this
    _<=2^63:=by decide
 · obtain rfl:i=9:=by omega
   calc c%128*128^9<=1*128^9:=Nat.mul_le_mul_right _ (by have:=h9 rfl;omega)
    _<=2^63:=by decide
theorem rd_or {acc i c sh:Nat} (hs:sh=7*i) (hi:i<=9) (ha:acc<128^i) (hc:c<256) (h9:i=9->c<=1):
 IntKind.u64.wrap ((BitVec.ofInt 64 (acc:Int) ||| BitVec.ofInt 64 (IntKind.u64.wrap (IntKind.u64.wrap (IntKind.u8.wrap ((BitVec.ofInt 8 (c:Int) &&& BitVec.ofInt 8 (127:Int)).toNat:Int))*(2:Int)^min sh 64))).toNat:Int)
  =((acc+c%128*128^i:Nat):Int):=by
 subst hs
 have e1:(BitVec.ofInt 8 (c:Int) &&& BitVec.ofInt 8 (127:Int)).toNat=c%128:=by
  rw [BitVec.ofInt_natCast,BitVec.ofInt_ofNat,BitVec.toNat_and,BitVec.toNat_ofNat,BitVec.toNat_ofNat,Nat.mod_eq_of_lt hc]
  exact and127 c
 obtain ⟨ha2,hm2⟩:=rd_small hi ha h9
 have e3:IntKind.u64.wrap (IntKind.u8.wrap ((c%128:Nat):Int))=((c%128:Nat):Int):=by rw [wrap_u64,wrap_u8];omega
 rw [e1,e3,rd_shift (by omega) hi,BitVec.ofInt_natCast,BitVec.ofInt_natCast,BitVec.toNat_or,BitVec.toNat_ofNat,BitVec.toNat_ofNat]
 have e4:acc%2^64=acc:=Nat.mod_eq_of_lt (by omega)
 have e5:c%128*128^i%2^64=c%128*128^i:=Nat.mod_eq_of_lt (by omega)
 have e6:(128:Nat)^i=2^(7*i):=by rw [Nat.pow_mul]
 have e7:acc ||| c%128*128^i=acc+c%128*128^i:=by
  rw [Nat.or_comm,e6,Nat.mul_comm,<-Nat.two_pow_add_eq_or_of_lt (by rw [<-e6];exact ha)]
  omega
 rw [e4,e5,e7,wrap_u64]
 omega
theorem rdn_q {acc i sh c:Nat} {q r:Int} (hs:sh=7*i) (hi:i<=9) (ha:acc<128^i) (hc:c<256) (hb:¬((sh:Int)=(63:Int)/\(1:Int)<(c:Int)\/(0:Int)<(sh:Int)/\(c:Int)=(0:Int)))
 (h16:q=IntKind.u64.wrap (IntKind.u64.wrap (IntKind.u8.wrap ((BitVec.ofInt 8 (c:Int) &&& BitVec.ofInt 8 (127:Int)).toNat:Int))*(2:Int)^min (Int.toNat (sh:Int)) 64))
 (h17:r=IntKind.u64.wrap ((BitVec.ofInt 64 (acc:Int) ||| BitVec.ofInt 64 q).toNat:Int)):r=((acc+c%128*128^i:Nat):Int):=by
 subst h16;subst h17
 rw [Int.toNat_natCast]
 exact rd_or hs hi ha hc (fun e=>by omega)
theorem rd_add {acc i c:Nat} (hi:i<=9) (ha:acc<128^i) (hc:c<256) (h9:i=9->c<=1):
 IntKind.u64.wrap ((acc:Int)+IntKind.u64.wrap (IntKind.u64.wrap (Int.tmod (c:Int) (128:Int))*(2:Int)^min (Int.toNat (IntKind.i64.wrap ((7:Int)*(i:Int)))) 64))
  =((acc+c%128*128^i:Nat):Int):=by
 obtain ⟨ha2,hm2⟩:=rd_small hi ha h9
 have e1:IntKind.i64.wrap ((7:Int)*(i:Int))=((7*i:Nat):Int):=by rw [wrap_i64];omega
 have e3:IntKind.u64.wrap (Int.tmod (c:Int) (128:Int))=((c%128:Nat):Int):=by
  rw [show Int.tmod (c:Int) (128:Int)=((c%128:Nat):Int) from rfl,wrap_u64];omega
 rw [e1,e3,Int.toNat_natCast,rd_shift (by omega) hi,wrap_u64]
 omega
theorem rd_lt {acc i c:Nat} (ha:acc<128^i):acc+c%128*128^i<128^(i+1):=by
 have:c%128*128^i<=127*128^i:=Nat.mul_le_mul_right _ (by omega)
 rw [Nat.pow_succ]
 omega
section
variable {l:List UInt8} {a i acc at_:Nat} (h:Frd 0 0 (l.drop a)=Frd i acc (l.drop at_))
include h
theorem FNumP_end (h1:l.length<=at_):FNumP l a=none:=by
 unfold FNumP;rw [h,List.drop_eq_nil_of_le h1];rfl
theorem FNumP_bad (h1:at_<l.length) (h2:badC i (l.getD at_ 0)):FNumP l a=none:=by
 unfold FNumP;rw [h,drop_getD l at_ h1];unfold Frd;rw [if_pos h2];rfl
theorem FNumP_good (h1:at_<l.length) (h2:¬badC i (l.getD at_ 0)) (h3:(l.getD at_ 0).toNat<128) (h4:at_=a+i):FNumP l a=some (acc+(l.getD at_ 0).toNat%128*128^i,at_+1):=by
 unfold FNumP;rw [h,drop_getD l at_ h1];unfold Frd;rw [if_neg h2,if_pos h3];simp;omega
theorem Frd_next (h1:at_<l.length) (h2:¬badC i (l.getD at_ 0)) (h3:¬(l.getD at_ 0).toNat<128):Frd 0 0 (l.drop a)=Frd (i+1) (acc+(l.getD at_ 0).toNat%128*128^i) (l.drop (at_+1)):=by
 rw [h,drop_getD l at_ h1,Frd,if_neg h2,if_neg h3]
end
structure XRd where
 l:List UInt8
 a:Nat
structure XRdL where
 i:Nat
 at_:Nat
 acc:Nat
 sh:Nat
noncomputable def rdOwn (x:XRd) (a:Nat):List (Nat×SB):=[(0,.cells [.bytes 1 true x.l,.int .i64 a] Ty.wire_Reader)]
noncomputable def sp_wire_Reader_Number:FSpec where
 X:=XRd
 pre x:=x.a<=x.l.length/\x.l.length<1099511627776
 args x:=[.ptr 0 0 0 0]
 base:=[0]
 own x:=rdOwn x x.a
 out x:= .ask (FNumP x.l x.a).isSome
  (.ex (Nat×Nat) (fun p=>FNumP x.l x.a=some p) fun p=> .ret (.tup [.int .u64 p.1,.int .i64 0]) (rdOwn x p.2))
  (.ret (.tup [.int .u64 0,.int .i64 4]) (rdOwn x x.a))
def preRd (x:XRd) (y:XRdL):Prop:=y.i<=9/\y.at_=x.a+y.i/\y.at_<=x.l.length/\y.sh=7*y.i/\y.acc<128^y.i/\Frd 0 0 (x.l.drop x.a)=Frd y.i y.acc (x.l.drop y.at_)
noncomputable def an_wire_Reader_Number (x:XRd):Nat->Option Cut
 | 0=>some {X:=XRdL,pre:=fun y=>preRd x y
            tm:=fun y=>[(0,.ptr 0 0 0 0),(4,.int .u64 y.acc),(5,.int .i64 y.at_),(6,.int .u64 y.sh)]
            own:=fun y=>rdOwn x x.a
            mu:=fun y=>x.l.length-y.at_}
 | _=>none
def vc_wire_Reader_Number:Prop:=FnVC Tryz.cy [] Id.wire_Reader_Number sp_wire_Reader_Number an_wire_Reader_Number 10
end Go.Proofs
