import Derived.Test.YtoajkmdddjnebaaGreatDoorCallsOneCN
set_option linter.unusedSimpArgs false
set_option linter.unusedVariables false
namespace Go.Proofs
open Go.Eng
def FPl (c:UInt8):Bool:=decide (33<=c.toNat)&&decide (c.toNat<=126)&& !decide (c.toNat=37)&& !decide (c.toNat=44)&& !decide (c.toNat=59)
def FHx (n:Nat):UInt8:=UInt8.ofNat (if n<10 then 48+n else 55+n)
def FTxB (c:UInt8):List UInt8:=if FPl c=true then [c] else [37,FHx (c.toNat/16),FHx (c.toNat%16)]
def FTx (b:List UInt8):List UInt8:=if b.length=0 then [37] else FCat FTxB b
theorem pl_yes {c:UInt8} (h1:¬(c.toNat:Int)<33) (h2:¬(126:Int)<c.toNat) (h3:¬(((c.toNat:Int)=37\/(c.toNat:Int)=44)\/(c.toNat:Int)=59)):FPl c=true:=by
 simp only [FPl,Bool.and_eq_true,decide_eq_true_eq,Bool.not_eq_true',decide_eq_false_iff_not];omega
theorem pl_no {c:UInt8} (h:(c.toNat:Int)<33\/(126:Int)<c.toNat\/(((c.toNat:Int)=37\/(c.toNat:Int)=44)\/(c.toNat:Int)=59)):FPl c=false:=by
 rw [<-Bool.not_eq_true]
 simp only [FPl,Bool.and_eq_true,decide_eq_true_eq,Bool.not_eq_true',decide_eq_false_iff_not];omega
theorem pl_eq (c:UInt8):FPl c=bif bif bif bif decide ((33:Int)<=(c.toNat:Int)) then decide ((c.toNat:Int)<=126) else false then !decide ((c.toNat:Int)=37) else false then !decide ((c.toNat:Int)=44) else false then !decide ((c.toNat:Int)=59) else false:=by
 rw [Bool.eq_iff_iff]
 simp [FPl,Bool.cond_false_right]
 omega
theorem hx_lo {x:Int} (h:0<=x) (h1:x<10):((FHx x.toNat).toNat:Int)=IntKind.u8.wrap (48+x):=by
 unfold FHx;rw [if_pos (by omega),UInt8.toNat_ofNat',wrap_u8];omega
theorem hx_hi {x:Int} (h:x<16) (h1:¬x<10):((FHx x.toNat).toNat:Int)=IntKind.u8.wrap (IntKind.u8.wrap (65+x)-10):=by
 unfold FHx;rw [if_neg (by omega),UInt8.toNat_ofNat'];simp only [wrap_u8];omega
theorem hx_tab:∀n,n<16->([48,49,50,51,52,53,54,55,56,57,65,66,67,68,69,70]:List UInt8).getD n 0=FHx n:=by decide
theorem and15:∀n:Nat,n<256->(IntKind.u8.wrap (↑(BitVec.ofInt 8 (n:Int) &&& BitVec.ofInt 8 (15:Int)).toNat:Int)).toNat=n%16:=by decide+kernel
theorem of_to (c:UInt8):UInt8.ofNat (Int.toNat (c.toNat:Int))=c:=by rw [Int.toNat_natCast];exact UInt8.ofNat_toNat
theorem one_eq {c:UInt8} (h:FPl c=true):[UInt8.ofNat (Int.toNat (c.toNat:Int))]=FTxB c:=by rw [of_to,FTxB,if_pos h]
theorem hi4 (c:UInt8):((c.toNat:Int)/16).toNat=c.toNat/16:=by omega
theorem esc_eq {c:UInt8} (h:¬FPl c=true):[UInt8.ofNat 37,UInt8.ofNat (Int.toNat ((([48,49,50,51,52,53,54,55,56,57,65,66,67,68,69,70]:List UInt8).getD (((c.toNat:Int)/16).toNat) 0).toNat:Int)),
 UInt8.ofNat (Int.toNat ((([48,49,50,51,52,53,54,55,56,57,65,66,67,68,69,70]:List UInt8).getD (IntKind.u8.wrap (↑(BitVec.ofInt 8 (c.toNat:Int) &&& BitVec.ofInt 8 (15:Int)).toNat:Int)).toNat 0).toNat:Int))]=FTxB c:=by
 have hc:=UInt8.toNat_lt c
 rw [hi4,and15 _ hc,hx_tab _ (by omega),hx_tab _ (by omega),of_to,of_to,FTxB,if_neg h];rfl
theorem esc_eq2 {c:UInt8} (h:¬FPl c=true):[UInt8.ofNat 37,UInt8.ofNat (Int.toNat ((FHx (IntKind.u8.wrap (Int.tdiv (c.toNat:Int) 16)).toNat).toNat:Int)),UInt8.ofNat (Int.toNat ((FHx (Int.tmod (c.toNat:Int) 16).toNat).toNat:Int))]=FTxB c:=by
 have hc:=UInt8.toNat_lt c
 have e1:(IntKind.u8.wrap (Int.tdiv (c.toNat:Int) 16)).toNat=c.toNat/16:=by rw [show Int.tdiv (c.toNat:Int) (16:Int)=((c.toNat/16:Nat):Int) from rfl,wrap_u8];omega
 have e2:(Int.tmod (c.toNat:Int) 16).toNat=c.toNat%16:=by rw [show Int.tmod (c.toNat:Int) (16:Int)=((c.toNat%16:Nat):Int) from rfl];omega
 rw [e1,e2,of_to,of_to,FTxB,if_neg h];rfl
theorem td16 (c:UInt8):IntKind.u8.wrap (Int.tdiv (c.toNat:Int) 16)<16:=by
 have hc:=UInt8.toNat_lt c
 rw [show Int.tdiv (c.toNat:Int) (16:Int)=((c.toNat/16:Nat):Int) from rfl,wrap_u8];omega
theorem lo4 (c:UInt8):(IntKind.u8.wrap (↑(BitVec.ofInt 8 (c.toNat:Int) &&& BitVec.ofInt 8 (15:Int)).toNat:Int)).toNat<16:=by rw [and15 _ (UInt8.toNat_lt c)];omega
theorem hi4_lt (c:UInt8):((c.toNat:Int)/16).toNat<16:=by have hc:=UInt8.toNat_lt c;omega
theorem u8_lt (c:UInt8):(c.toNat:Int)<256:=by have hc:=UInt8.toNat_lt c;omega
theorem txb_le (c:UInt8):(FTxB c).length<=3/\0<(FTxB c).length:=by unfold FTxB;split<;>simp
theorem tx_le (x:List UInt8):(FCat FTxB x).length<=3*x.length:=fcat_le fun c _=>(txb_le c).1
theorem ftx_len (x:List UInt8):(FTx x).length<=3*x.length+1:=by
 have:=tx_le x
 unfold FTx
 by_cases h:x.length=0
 · rw [if_pos h];simp
 · rw [if_neg h];omega
section
variable {x y:List UInt8} {i:Nat}
theorem tx_part (h:x.length<1048577):(FCat FTxB (x.take i)).length<=3145728:=by
 have:=tx_le (x.take i);rw [List.length_take] at this;omega
theorem tx_step (hx:x.length<1048577) (hi:(i:Int)<(x.length:Int)) (e:y=FTxB (x.getD i 0)):FCat FTxB (x.take (IntKind.i64.wrap ((i:Int)+(1:Int))).toNat)=FCat FTxB (x.take i)++y:=by
 rw [k_w hx hi,Int.toNat_natCast,FCat_take (d:=0) (by omega),e]
theorem tx_end (h0:0<x.length) (hi:¬(i:Int)<(x.length:Int)):FTx x=FCat FTxB (x.take i):=by
 unfold FTx;rw [if_neg (by omega),List.take_of_length_le (by omega)]
theorem tx_nil (h:(x.length:Int)=0):FTx x=[37]:=by unfold FTx;rw [if_pos (by omega)]
end
def FHold0 (w:List UInt8) (k c:Nat) (op:Bool) (buf:List UInt8):Prop:=w=buf.take k/\buf.length=c/\k<=c/\(op=true->c=k)
section
variable {w w' y buf:List UInt8} {k c:Nat} {op:Bool}
theorem hold0_len (h:FHold0 w k c op buf):w.length=k:=by
 obtain ⟨h1,h2,h3,_⟩:=h
 rw [h1,List.length_take];omega
theorem hold0_new (h:FHold0 w k c op buf) (e:w'=w++y):FHold0 w' (k+y.length) (k+y.length) true (cutL buf 0 k++y):=by
 have hl:=hold0_len h
 obtain ⟨h1,h2,h3,h5⟩:=h
 have e2:cutL buf 0 k=w:=by rw [h1];simp [cutL]
 rw [e2,e,<-hl,<-List.length_append]
 exact ⟨by rw [List.take_length],rfl,Nat.le_refl _,fun _=>rfl⟩
theorem hold0_in (h:FHold0 w k c op buf) (hc:k+y.length<=c) (e:w'=w++y):FHold0 w' (k+y.length) c false (List.take (0+k) buf++(y++List.drop (0+k+y.length) buf)):=by
 have hl:=hold0_len h
 obtain ⟨h1,h2,h3,h5⟩:=h
 refine ⟨?_,by simp;omega,hc,fun h=>by cases h⟩
 rw [Nat.zero_add,<-h1,e,<-List.append_assoc,<-hl,<-List.length_append,List.take_left]
theorem hold0_end (h:FHold0 w k c op buf) (e:w'=w):w'=cutL buf 0 k:=by
 rw [e,h.1];simp [cutL]
theorem hold0_zero {n:Nat} {l:List UInt8}:FHold0 (FCat FTxB (l.take (Int.toNat 0))) 0 (Int.toNat (n:Int)) false (List.replicate (Int.toNat (n:Int)) 0):=
 ⟨by simp [FCat],by simp,Nat.zero_le _,fun h=>by cases h⟩
end
noncomputable def sp_plain:FSpec where
 X:=UInt8
 pre x:=True
 args x:=[.int .u8 x.toNat]
 base:=[]
 own _:=[]
 out x:= .ret (.bool (FPl x)) []
def vc_names_plain:Prop:=FnVC Tryz.cy [] Id.names_plain sp_plain (fun _ _=>none) 10
def vc_ref05_plain:Prop:=FnVC Tryz.cy [] Id.wicketref05_plain sp_plain (fun _ _=>none) 10
noncomputable def sp_digit:FSpec where
 X:=Int
 pre x:=0<=x/\x<16
 args x:=[.int .u8 x]
 base:=[]
 own _:=[]
 out x:= .ret (.int .u8 (FHx x.toNat).toNat) []
 pv:=some ⟨fun x=> .int .u8 (FHx x.toNat).toNat,rfl,fun _=>⟨rfl,rfl⟩⟩
def vc_digit:Prop:=FnVC Tryz.cy [] Id.wicketref05_digit sp_digit (fun _ _=>none) 10
noncomputable def sp_Text:FSpec where
 X:=List UInt8
 pre x:=x.length<1048577
 args x:=[.bytes 0 false x]
 base:=[]
 own _:=[]
 out x:= .ret (.str (FTx x)) []
noncomputable def an_names_Text (x:List UInt8):Nat->Option Cut
 | 0=>some {X:=XPut,pre:=fun y=>y.i<=x.length/\0<x.length/\FHold0 (FCat FTxB (x.take y.i)) y.k y.c y.op y.buf
            tm:=fun y=>[(3,.sl 0 1 0 y.k y.c y.op),(12,.bytes 0 false x),(13,.int .i64 x.length),(14,.int .i64 y.i)]
            own:=fun y=>[(0,.bytes y.buf Ty.uint8)]
            mu:=fun y=>x.length-y.i}
 | _=>none
noncomputable def Sp_nText:List (Nat×FSpec):=[(Id.names_plain,sp_plain)]
def vc_names_Text:Prop:=FnVC Tryz.cy Sp_nText Id.names_Text sp_Text an_names_Text 10
noncomputable def an_ref05_Text (x:List UInt8):Nat->Option Cut
 | 0=>some {X:=XI,pre:=fun y=>y.i<=x.length/\0<x.length
            tm:=fun y=>[(0,.bytes 0 false x),(3,.sl 0 1 0 (FCat FTxB (x.take y.i)).length (FCat FTxB (x.take y.i)).length true),(4,.int .i64 y.i)]
            own:=fun y=>[(0,.bytes (FCat FTxB (x.take y.i)) Ty.uint8)]
            mu:=fun y=>x.length-y.i}
 | _=>none
noncomputable def Sp_rText:List (Nat×FSpec):=[(Id.wicketref05_plain,sp_plain),(Id.wicketref05_digit,sp_digit)]
def vc_ref05_Text:Prop:=FnVC Tryz.cy Sp_rText Id.wicketref05_Text sp_Text an_ref05_Text 10
end Go.Proofs
