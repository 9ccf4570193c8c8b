import Derived.Test.YtoajkmdddjnebaaGreatDoorCallsResultsCE
set_option linter.unusedSimpArgs false
set_option linter.unusedVariables false
namespace Go.Proofs
open Go.Eng
noncomputable def rfO (l:List UInt8) (a:Nat):List (Nat×SB):=[(0,.cells [.bytes 0 false l,.int .i64 a] Ty.wicketref01_Reader)]
structure XNm where
 i:Nat
 acc:Nat
def FNmR (l:List UInt8) (a:Nat) (p:Nat×Int×Nat):Prop:=(p.2.1=0/\FNumP l a=some (p.1,p.2.2))\/(p.2.1≠0/\FNumP l a=none/\p.1=0/\p.2.2=a)
noncomputable def sp_rfNumber:FSpec where
 X:=XRd
 pre x:=FRdOk x.l x.a
 args x:=[.ptr 0 0 0 0]
 base:=[0]
 own x:=rfO x.l x.a
 out x:= .ex (Nat×Int×Nat) (FNmR x.l x.a) fun p=> .ret (.tup [.int .u64 p.1,.int .i64 p.2.1]) (rfO x.l p.2.2)
def FNm (x:XRd) (y:XNm):Prop:=y.i<=9/\x.a+y.i<=x.l.length/\y.acc<128^y.i/\Frd 0 0 (x.l.drop x.a)=Frd y.i y.acc (x.l.drop (x.a+y.i))
noncomputable def an_rfNumber (x:XRd):Nat->Option Cut
 | 0=>some {X:=XNm,pre:=fun y=>FNm x y
            tm:=fun y=>[(0,.ptr 0 0 0 0),(4,.int .u64 y.acc),(5,.int .i64 y.i)]
            own:=fun y=>rfO x.l x.a
            mu:=fun y=>10-y.i}
 | _=>none
def vc_rfNumber:Prop:=FnVC Tryz.cy [] Id.wicketref01_Reader_Number sp_rfNumber an_rfNumber 10
section
variable {x:XRd} {y:XNm} {q q13 q14:Int}
theorem nm_start (h:FRdOk x.l x.a):FNm x ⟨0,0⟩:=⟨by simp,h.1,by simp,rfl⟩
theorem nm_at (h:FRdOk x.l x.a) (hy:FNm x y) (hq:q=IntKind.i64.wrap ((x.a:Int)+(y.i:Int))):q=((x.a+y.i:Nat):Int):=by
 have h1:=hy.2.1;have h2:=h.2
 rw [hq,wrap_add2 (by omega)]
theorem nm_sh (hy:FNm x y):(0:Int)<=IntKind.i64.wrap ((7:Int)*(y.i:Int)):=by
 have:=hy.1
 have e:IntKind.i64.wrap ((7:Int)*(y.i:Int))=((7*y.i:Nat):Int):=by rw [wrap_i64];omega
 rw [e];omega
theorem nm_mu (hy:FNm x y):10- (IntKind.i64.wrap ((y.i:Int)+1)).toNat<10-y.i:=by have:=hy.1;rw [wrap_succ _ (by omega)];omega
theorem nm_up (hy:FNm x y):((IntKind.i64.wrap ((y.i:Int)+1)).toNat:Int)=IntKind.i64.wrap ((y.i:Int)+1):=by have:=hy.1;rw [wrap_succ _ (by omega)];simp
theorem nm_cast {y:XNm} {q13 q14:Int} (h14:q14=IntKind.u64.wrap ((y.acc:Int)+q13)):(q14.toNat:Int)=q14:=by rw [h14,wrap_u64];omega
theorem nm_bad (h:FRdOk x.l x.a) (hy:FNm x y) (hq:q=IntKind.i64.wrap ((x.a:Int)+(y.i:Int))) (hl:q.toNat<x.l.length)
 (hb:(y.i:Int)=9/\(1:Int)<((x.l.getD q.toNat 0).toNat:Int)\/(0:Int)<(y.i:Int)/\((x.l.getD q.toNat 0).toNat:Int)=0):FNmR x.l x.a (0,4,x.a):=by
 have e:=nm_at h hy hq
 subst e
 rw [Int.toNat_natCast] at*
 exact .inr ⟨by simp,FNumP_bad hy.2.2.2 hl (by unfold badC;omega),rfl,rfl⟩
theorem nm_end (h:FRdOk x.l x.a) (hy:FNm x y) (hq:q=IntKind.i64.wrap ((x.a:Int)+(y.i:Int))) (hl:¬((y.i:Int)<10/\q<(x.l.length:Int))):FNmR x.l x.a (0,4,x.a):=by
 have e:=nm_at h hy hq
 have:=hy.1
 exact .inr ⟨by simp,FNumP_end hy.2.2.2 (by omega),rfl,rfl⟩
theorem nm_add (h:FRdOk x.l x.a) (hy:FNm x y) (hq:q=IntKind.i64.wrap ((x.a:Int)+(y.i:Int)))
 (hb:¬((y.i:Int)=9/\(1:Int)<((x.l.getD q.toNat 0).toNat:Int)\/(0:Int)<(y.i:Int)/\((x.l.getD q.toNat 0).toNat:Int)=0))
 (h13:q13=IntKind.u64.wrap (IntKind.u64.wrap (Int.tmod ((x.l.getD q.toNat 0).toNat:Int) 128)*(2:Int)^min (IntKind.i64.wrap ((7:Int)*(y.i:Int))).toNat 64)) (h14:q14=IntKind.u64.wrap ((y.acc:Int)+q13)):
 q14=((y.acc+(x.l.getD (x.a+y.i) 0).toNat%128*128^y.i:Nat):Int)/\¬badC y.i (x.l.getD (x.a+y.i) 0):=by
 have e:=nm_at h hy hq
 subst e
 rw [Int.toNat_natCast] at*
 have hb':¬badC y.i (x.l.getD (x.a+y.i) 0):=by unfold badC;omega
 refine ⟨?_,hb'⟩
 rw [h14,h13]
 exact rd_add hy.1 hy.2.2.1 (UInt8.toNat_lt _) (fun h9=>by
  rcases Nat.lt_or_ge 1 (x.l.getD (x.a+y.i) 0).toNat with h | h
  · exact absurd (.inl ⟨h9,h⟩) hb'
  · exact h)
theorem nm_good {q16:Int} (h:FRdOk x.l x.a) (hy:FNm x y) (hq:q=IntKind.i64.wrap ((x.a:Int)+(y.i:Int))) (hl:q<(x.l.length:Int))
 (hb:¬((y.i:Int)=9/\(1:Int)<((x.l.getD q.toNat 0).toNat:Int)\/(0:Int)<(y.i:Int)/\((x.l.getD q.toNat 0).toNat:Int)=0))
 (h13:q13=IntKind.u64.wrap (IntKind.u64.wrap (Int.tmod ((x.l.getD q.toNat 0).toNat:Int) 128)*(2:Int)^min (IntKind.i64.wrap ((7:Int)*(y.i:Int))).toNat 64)) (h14:q14=IntKind.u64.wrap ((y.acc:Int)+q13))
 (hc:((x.l.getD q.toNat 0).toNat:Int)<128) (h16:q16=IntKind.i64.wrap ((x.a:Int)+(y.i:Int))):FNmR x.l x.a (q14.toNat,0,(IntKind.i64.wrap (q16+1)).toNat)/\IntKind.i64.wrap (q16+1)=((x.a+y.i+1:Nat):Int):=by
 obtain ⟨e1,e2⟩:=nm_add h hy hq hb h13 h14
 have e3:=nm_at h hy h16
 have e4:=nm_at h hy hq
 have h2:=h.2;have h3:=hy.2.1
 subst e4
 rw [Int.toNat_natCast] at hc
 have e5:IntKind.i64.wrap (q16+1)=((x.a+y.i+1:Nat):Int):=by rw [e3];exact wrap_succ _ (by omega)
 refine ⟨.inl ⟨rfl,?_⟩,e5⟩
 show FNumP x.l x.a=some (q14.toNat,(IntKind.i64.wrap (q16+1)).toNat)
 rw [e5,e1,Int.toNat_natCast,Int.toNat_natCast]
 exact FNumP_good hy.2.2.2 (by omega) e2 (by omega) rfl
theorem nm_next (h:FRdOk x.l x.a) (hy:FNm x y) (hq:q=IntKind.i64.wrap ((x.a:Int)+(y.i:Int))) (hl:q<(x.l.length:Int))
 (hb:¬((y.i:Int)=9/\(1:Int)<((x.l.getD q.toNat 0).toNat:Int)\/(0:Int)<(y.i:Int)/\((x.l.getD q.toNat 0).toNat:Int)=0))
 (h13:q13=IntKind.u64.wrap (IntKind.u64.wrap (Int.tmod ((x.l.getD q.toNat 0).toNat:Int) 128)*(2:Int)^min (IntKind.i64.wrap ((7:Int)*(y.i:Int))).toNat 64)) (h14:q14=IntKind.u64.wrap ((y.acc:Int)+q13))
 (hc:¬((x.l.getD q.toNat 0).toNat:Int)<128):FNm x ⟨(IntKind.i64.wrap ((y.i:Int)+1)).toNat,q14.toNat⟩:=by
 obtain ⟨e1,e2⟩:=nm_add h hy hq hb h13 h14
 have e4:=nm_at h hy hq
 have h3:=hy.2.1;have h1:=hy.1
 subst e4
 rw [Int.toNat_natCast] at hc
 rw [wrap_succ _ (by omega),Int.toNat_natCast,e1,Int.toNat_natCast]
 have h9:y.i≠9:=fun h9=>e2 (.inl ⟨h9,by omega⟩)
 refine ⟨by show y.i+1<=9;omega,by show x.a+(y.i+1)<=_;omega,rd_lt hy.2.2.1,?_⟩
 exact Frd_next hy.2.2.2 (by omega) e2 (by omega)
end
noncomputable def sp_rfFlag:FSpec where
 X:=XRd
 pre x:=FRdOk x.l x.a
 args x:=[.ptr 0 0 0 0]
 base:=[0]
 own x:=rfO x.l x.a
 out x:= .ex (Bool×Int×Nat) (FFlR x.l x.a) fun p=> .ret (.tup [.bool p.1,.int .i64 p.2.1]) (rfO x.l p.2.2)
def vc_rfFlag:Prop:=FnVC Tryz.cy [] Id.wicketref01_Reader_Flag sp_rfFlag (fun _ _=>none) 10
noncomputable def sp_rfBytes:FSpec where
 X:=XRdM
 pre x:=FRdOk x.l x.a/\x.most<1048577
 args x:=[.ptr 0 0 0 0,.int .i64 x.most]
 base:=[0]
 own x:=rfO x.l x.a
 out x:= .ex (List UInt8×Int×Nat) (FByR x.most x.l x.a) fun p=> .ret (.tup [.bytes 1 false p.1,.int .i64 p.2.1]) (rfO x.l p.2.2)
section
variable {most:Nat} {l:List UInt8} {a:Nat} {x:Nat×Int×Nat} {q r t:Int}
theorem nmR_no (h:FNmR l a x) (he:¬x.2.1=0):¬(FNumP l a).isSome=true:=by
 rcases h with h | h
 · exact absurd h.1 he
 · rw [h.2.1];simp
theorem nmR_ok (h:FNmR l a x) (he:x.2.1=0):FNumP l a=some (x.1,x.2.2):=by
 rcases h with h | h
 · exact h.2
 · exact absurd he h.1
theorem nmB_no (h:FNmR l a x) (he:¬x.2.1=0):FByR most l a ([],x.2.1,a):= .inr ⟨he,rd_none (by rw [cnt_none (nmR_no h he)];simp),rfl,rfl⟩
theorem nmB_long (hm:most<1048577) (h:FNmR l a x) (he:x.2.1=0) (hl:IntKind.u64.wrap (most:Int)<(x.1:Int)):FByR most l a ([],3,a):=
 .inr ⟨by simp,rd_none (by rw [cnt_long (nmR_ok h he) (by rw [u64_small (by omega)] at hl;exact hl)];simp),rfl,rfl⟩
theorem nm_cnt (hm:most<1048577) (h:FNmR l a x) (he:x.2.1=0) (hl:¬(x.2.1=0/\IntKind.u64.wrap (most:Int)<(x.1:Int))):FCntR most l a x/\x.1<=most:=by
 have hl':¬(most:Int)<(x.1:Int):=fun hh=>hl ⟨he,by rw [u64_small (by omega)];exact hh⟩
 exact ⟨.inl ⟨he,cnt_good (p:=(x.1,x.2.2)) (nmR_ok h he) hl'⟩,by omega⟩
theorem nmB_short (hm:most<1048577) (ha:FRdOk l a) (h:FNmR l a x) (he:x.2.1=0) (hl:¬(x.2.1=0/\IntKind.u64.wrap (most:Int)<(x.1:Int))) (hq:q=IntKind.i64.wrap ((l.length:Int)- (x.2.2:Int)))
 (hs:IntKind.u64.wrap q<(x.1:Int)):FByR most l a ([],4,a):=by
 obtain ⟨hc,_⟩:=nm_cnt hm h he hl
 have hh:=FCnt_le ha.1 (cntR_ok hc he)
 have h2:=ha.2
 refine byR_short ha hc he hq ?_
 have hq':=hq
 rw [wrap_sub2 hh.2.2 (by omega)] at hq'
 rw [hq',u64_small (by omega)] at hs
 rw [hq'];exact hs
theorem nmB_good (hm:most<1048577) (ha:FRdOk l a) (h:FNmR l a x) (he:x.2.1=0) (hl:¬(x.2.1=0/\IntKind.u64.wrap (most:Int)<(x.1:Int))) (hq:q=IntKind.i64.wrap ((l.length:Int)- (x.2.2:Int)))
 (hs:¬IntKind.u64.wrap q<(x.1:Int)) (h2:r=IntKind.i64.wrap ((x.2.2:Int)+IntKind.i64.wrap (x.1:Int))) (h3:t=IntKind.i64.wrap (r-IntKind.i64.wrap (x.1:Int))):
 FBytesP most l a=some ((l.drop x.2.2).take x.1,x.2.2+x.1)/\x.2.2+x.1<=l.length/\r=((x.2.2+x.1:Nat):Int)/\t=(x.2.2:Int)/\l.length<1099511627000:=by
 obtain ⟨hc,hn⟩:=nm_cnt hm h he hl
 rw [i64_small (by omega)] at h2 h3
 have hh:=FCnt_le ha.1 (cntR_ok hc he)
 have h4:=ha.2
 refine byR_good ha hc he hq ?_ h2 h3
 have hq':=hq
 rw [wrap_sub2 hh.2.2 (by omega)] at hq'
 rw [hq',u64_small (by omega)] at hs
 rw [hq'];exact hs
end
noncomputable def Sp_rfBytes:List (Nat×FSpec):=[(Id.wicketref01_Reader_Number,sp_rfNumber)]
def vc_rfBytes:Prop:=FnVC Tryz.cy Sp_rfBytes Id.wicketref01_Reader_Bytes sp_rfBytes (fun _ _=>none) 10
end Go.Proofs
