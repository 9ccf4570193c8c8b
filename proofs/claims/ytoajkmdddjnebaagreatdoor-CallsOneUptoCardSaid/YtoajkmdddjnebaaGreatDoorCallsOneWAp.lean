import Derived.Test.YtoajkmdddjnebaaGreatDoorCallsOneWA
set_option linter.unusedSimpArgs false
set_option linter.unusedVariables false
namespace Go.Proofs
open Go.Eng
set_option maxRecDepth 100000
abbrev zWAa0:XNumber->Nat->Prop:=fun x0 x1=>x0.n*128^x0.k<=x1/\x0.k<=9/\x0.buf.length=10/\(0<x0.k->0<x0.n)/\List.drop x0.k x0.buf=List.replicate (10-x0.k) (0:UInt8)/\FNum x1=List.take x0.k x0.buf++formF (10-x0.k) x0.n
abbrev zWAa1:XNumber->Int:=fun x0=>IntKind.u8.wrap (↑(BitVec.ofInt 8 (IntKind.u8.wrap (↑x0.n:Int)) ||| BitVec.ofInt 8 (128:Int)).toNat:Int)
abbrev zWAa2:XNumber->XNumber->Prop->Prop:=fun x0 x1 p=>x0.n<x1.n/\(↑x0.n:Int)=(↑x1.n:Int)/(128:Int)/\0=0/\x0.k=x1.k+1/\p
def nf_wire_NumberO:Prop:=
 ∀(x:Nat),x<18446744073709551616->true=true/\(0:Int)<=(0:Int)/\(0:Int)<=(10:Int)/\10<=1099511627776/\10<=1099511627776/\(∃(x_1:XNumber),zWAa0 x_1 x/\Eq (α:=Int) (↑x_1.n:Int) (↑x:Int)/\0=0/\x_1.k=0/\10=10/\false=false/\x_1.buf=[(0:UInt8),(0:UInt8),(0:UInt8),(0:UInt8),(0:UInt8),(0:UInt8),(0:UInt8),(0:UInt8),(0:UInt8),(0:UInt8)]/\True)/\True/\∀(x_1:XNumber),zWAa0 x_1 x->Eng.ask (decide ((127:Int)<(↑x_1.n:Int))) (((0:Int)<=zWAa1 x_1/\zWAa1 x_1<(256:Int))/\0+x_1.k<=x_1.buf.length/\Eng.ask (leNB (x_1.k+1) 10) (0+x_1.k+1<=x_1.buf.length/\(0:Int)<=(7:Int)/\True/\True/\True/\∃(x':XNumber),zWAa0 x' x/\zWAa2 x' x_1 (10=10/\false=false/\x'.buf=List.take (0+x_1.k) x_1.buf++UInt8.ofNat (zWAa1 x_1).toNat::List.drop (0+x_1.k+1) x_1.buf/\True)) (x_1.k+1<1099511627776/\(0:Int)<=(7:Int)/\True/\True/\True/\∃(x':XNumber),zWAa0 x' x/\zWAa2 x' x_1 (10=x_1.k+1/\false=true/\x'.buf=cutL x_1.buf 0 x_1.k++[UInt8.ofNat (zWAa1 x_1).toNat]/\True))) (((0:Int)<=IntKind.u8.wrap (↑x_1.n:Int)/\IntKind.u8.wrap (↑x_1.n:Int)<(256:Int))/\0+x_1.k<=x_1.buf.length/\Eng.ask (leNB (x_1.k+1) 10) (0+x_1.k+1<=x_1.buf.length/\0=0/\(FNum x).length=x_1.k+1/\10=10/\false=false/\FNum x++List.replicate (10- (FNum x).length) (0:UInt8)=List.take (0+x_1.k) x_1.buf++UInt8.ofNat (IntKind.u8.wrap (↑x_1.n:Int)).toNat::List.drop (0+x_1.k+1) x_1.buf/\True) (x_1.k+1<1099511627776/\0=0/\(FNum x).length=x_1.k+1/\10=x_1.k+1/\false=true/\FNum x++List.replicate (10- (FNum x).length) (0:UInt8)=cutL x_1.buf 0 x_1.k++[UInt8.ofNat (IntKind.u8.wrap (↑x_1.n:Int)).toNat]/\True))
theorem eq_wire_NumberO:vc_wire_NumberO=nf_wire_NumberO:=by kernel_rfl
theorem pf_wire_NumberO:nf_wire_NumberO:=by
 delta nf_wire_NumberO zWAa0 zWAa1 zWAa2
 intro x0
 intro h1
 refine ⟨by rfl,by decide,by decide,by decide,by decide, ?_⟩
 refine ⟨?_, ?_⟩
 ·refine ⟨⟨(x0),(0),([(0:UInt8),(0:UInt8),(0:UInt8),(0:UInt8),(0:UInt8),(0:UInt8),(0:UInt8),(0:UInt8),(0:UInt8),(0:UInt8)])⟩, ?_⟩
  try dsimp only
  refine ⟨?_, ?_⟩
  ·refine ⟨by simp [FNum],by decide,by decide,by (simp;done),by decide, ?_⟩
   simp [FNum]
  refine ⟨by rfl,by rfl,by rfl,by rfl,by rfl,by rfl, ?_⟩
  trivial
 refine ⟨by trivial, ?_⟩
 intro x2
 intro ⟨h3,⟨h4,⟨h5,⟨h6,⟨h7,h8⟩⟩⟩⟩⟩
 refine ask_p bp_dec ?_ ?_
 ·intro h9
  refine ⟨?_, ?_⟩
  ·refine ⟨by (try simp only [wrap_i64,wrap_u64,wrap_u32,wrap_u8] at*)<;>omega, ?_⟩
   (try simp only [wrap_i64,wrap_u64,wrap_u32,wrap_u8] at*)<;>omega
  refine ⟨by omega, ?_⟩
  refine ask_p bp_le ?_ ?_
  ·intro h10
   refine ⟨by omega,by decide,by trivial,by trivial,by trivial, ?_⟩
   refine ⟨⟨(((↑x2.n:Int)/(128:Int):Int)).toNat,(x2.k+1),(List.take (0+x2.k) x2.buf++UInt8.ofNat (IntKind.u8.wrap (↑(BitVec.ofInt 8 (IntKind.u8.wrap (↑x2.n:Int)) ||| BitVec.ofInt 8 (128:Int)).toNat:Int)).toNat::List.drop (0+x2.k+1) x2.buf)⟩, ?_⟩
   try dsimp only
   refine ⟨?_, ?_⟩
   ·refine ⟨?_, ?_⟩
    ·have e:((x2.n:Int)/128).toNat=x2.n/128:=by omega
     rw [e,Nat.pow_succ]
     refine Nat.le_trans ?_ h3
     rw [<-Nat.mul_assoc,Nat.mul_right_comm]
     exact Nat.mul_le_mul_right _ (Nat.div_mul_le_self ..)
    refine ⟨by grind,by grind, ?_⟩
    refine ⟨?_, ?_⟩
    ·intro h11
     omega
    refine ⟨by exact rep_step ‹_› ‹_› ‹_›, ?_⟩
    have e:((x2.n:Int)/128).toNat=x2.n/128:=by omega
    rw [h8,e,wor128,show 10-x2.k=(10- (x2.k+1))+1 from by omega,formF_more (by omega),take_put _ _ _ _ (by omega),show ((↑(x2.n%128+128):Int)).toNat=x2.n%128+128 from by omega]
    simp
   refine ⟨by omega,by rfl,by rfl,by rfl,by rfl,by rfl,by rfl, ?_⟩
   trivial
  intro h10
  exfalso;omega
 intro h9
 refine ⟨?_, ?_⟩
 ·refine ⟨by (try simp only [wrap_i64,wrap_u64,wrap_u32,wrap_u8] at*)<;>omega, ?_⟩
  (try simp only [wrap_i64,wrap_u64,wrap_u32,wrap_u8] at*)<;>omega
 refine ⟨by omega, ?_⟩
 refine ask_p bp_le ?_ ?_
 ·intro h10
  refine ⟨by omega,by rfl,by exact num_len ‹_› (by simp;omega) ‹_› ‹_›,by rfl,by rfl,by exact num_fill ‹_› ‹_› ‹_› ‹_› ‹_›, ?_⟩
  trivial
 intro h10
 exfalso;omega
abbrev zWAb0:XNumber->Nat->Prop:=fun x0 x1=>x0.n*128^x0.k<=x1/\x0.k<=9/\x0.buf.length=x0.k/\(0<x0.k->0<x0.n)/\FNum x1=x0.buf++formF (10-x0.k) x0.n
abbrev zWAb1:XNumber->Prop->Prop:=fun x0 p=>0+x0.k<=x0.buf.length/\(x0.k=x0.k/\0=0/\x0.k=x0.buf.length/\5=5)/\x0.k+1<1099511627776/\p
abbrev zWAb2:XNumber->Int:=fun x0=>IntKind.u8.wrap (IntKind.u64.wrap (Int.tmod (↑x0.n:Int) (128:Int)+(128:Int)))
def nf_ref01_Number:Prop:=
 ∀(x:Nat),x<18446744073709551616->(∃(x_1:XNumber),zWAb0 x_1 x/\Eq (α:=Int) (↑x_1.n:Int) (↑x:Int)/\x_1.k=0/\x_1.k=0/\true=true/\x_1.buf=[]/\True)/\True/\∀(x_1:XNumber),zWAb0 x_1 x->Eng.ask (decide ((127:Int)<(↑x_1.n:Int))) ((128:Int)≠(0:Int)/\((0:Int)<=zWAb2 x_1/\zWAb2 x_1<(256:Int))/\zWAb1 x_1 ((128:Int)≠(0:Int)/\True/\True/\True/\∃(x':XNumber),zWAb0 x' x/\x'.n<x_1.n/\(↑x'.n:Int)=IntKind.u64.wrap (Int.tdiv (↑x_1.n:Int) (128:Int))/\0=0/\x'.k=x_1.k+1/\x'.k=x_1.k+1/\true=true/\x'.buf=cutL x_1.buf 0 x_1.k++[UInt8.ofNat (zWAb2 x_1).toNat]/\True)) (((0:Int)<=IntKind.u8.wrap (↑x_1.n:Int)/\IntKind.u8.wrap (↑x_1.n:Int)<(256:Int))/\zWAb1 x_1 (0=0/\(FNum x).length=x_1.k+1/\(FNum x).length=x_1.k+1/\true=true/\FNum x=cutL x_1.buf 0 x_1.k++[UInt8.ofNat (IntKind.u8.wrap (↑x_1.n:Int)).toNat]/\True))
theorem eq_ref01_Number:vc_ref01_Number=nf_ref01_Number:=by kernel_rfl
theorem pf_ref01_Number:nf_ref01_Number:=by
 delta nf_ref01_Number zWAb0 zWAb1 zWAb2
 intro x0
 intro h1
 refine ⟨?_, ?_⟩
 ·refine ⟨⟨(x0),(0),([])⟩, ?_⟩
  try dsimp only
  refine ⟨?_, ?_⟩
  ·refine ⟨by omega,by decide,by decide,by (simp;done), ?_⟩
   rfl
  refine ⟨by rfl,by rfl,by rfl,by rfl,by rfl, ?_⟩
  trivial
 refine ⟨by trivial, ?_⟩
 intro x2
 intro ⟨h3,⟨h4,⟨h5,⟨h6,h7⟩⟩⟩⟩
 refine ask_p bp_dec ?_ ?_
 ·intro h8
  refine ⟨by decide, ?_⟩
  refine ⟨?_, ?_⟩
  ·refine ⟨by (try simp only [wrap_i64,wrap_u64,wrap_u32,wrap_u8] at*)<;>omega, ?_⟩
   (try simp only [wrap_i64,wrap_u64,wrap_u32,wrap_u8] at*)<;>omega
  refine ⟨by (simp [cutL];omega), ?_⟩
  refine ⟨?_, ?_⟩
  ·refine ⟨by rfl,by rfl,by omega, ?_⟩
   rfl
  refine ⟨by omega,by decide,by trivial,by trivial,by trivial, ?_⟩
  refine ⟨⟨((IntKind.u64.wrap (Int.tdiv (↑x2.n:Int) (128:Int)):Int)).toNat,(x2.k+1),(cutL x2.buf 0 x2.k++[UInt8.ofNat (IntKind.u8.wrap (IntKind.u64.wrap (Int.tmod (↑x2.n:Int) (128:Int)+(128:Int)))).toNat])⟩, ?_⟩
  try dsimp only
  refine ⟨?_, ?_⟩
  ·refine ⟨by (rw [tdiv128 _ (lt_of_pow ‹_› ‹_›)];exact le_pow_div ‹_›),by grind,by (simp [cutL];omega), ?_⟩
   refine ⟨?_, ?_⟩
   ·intro h9
    (rw [tdiv128 _ (lt_of_pow ‹_› ‹_›)];omega)
   (rw [tdiv128 _ (lt_of_pow ‹_*_<=_› ‹_›),tmod128,h7,<-h5,cutL_all',show 10-x2.buf.length=(10- (x2.buf.length+1))+1 by omega,formF_more (by omega)];simp;done)
  refine ⟨by (rw [tdiv128 _ (lt_of_pow ‹_› ‹_›)];omega),by rfl,by rfl,by rfl,by rfl,by rfl,by rfl, ?_⟩
  trivial
 intro h8
 refine ⟨?_, ?_⟩
 ·refine ⟨by (try simp only [wrap_i64,wrap_u64,wrap_u32,wrap_u8] at*)<;>omega, ?_⟩
  (try simp only [wrap_i64,wrap_u64,wrap_u32,wrap_u8] at*)<;>omega
 refine ⟨by (simp [cutL];omega), ?_⟩
 refine ⟨?_, ?_⟩
 ·refine ⟨by rfl,by rfl,by omega, ?_⟩
  rfl
 refine ⟨by omega,by rfl,by exact num_len ‹_› ‹_› ‹_› ‹_›,by exact num_len ‹_› ‹_› ‹_› ‹_›,by rfl,by (rw [u8_small ‹_›,h7,<-h5,cutL_all',show 10-x2.buf.length=(10- (x2.buf.length+1))+1 by omega,formF_last (by omega)];done), ?_⟩
 trivial
end Go.Proofs
