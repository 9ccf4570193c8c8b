import Derived.Test.YtoajkmdddjnebaaGreatDoorCallsResultsCH
set_option linter.unusedSimpArgs false
set_option linter.unusedVariables false
namespace Go.Proofs
open Go.Eng
def FPre (l:List UInt8) (n i:Nat) (xs:List LOut) (c:Nat):Prop:=
 ∃a0 b,FRNum l 0=some (0,a0)/\FRNum l a0=some (n,b)/\i<=n/\FmanyP FROut i l b=some (xs,c)
theorem decR_none {l:List UInt8} (h:FDecR0 l=none):FDec l=none:=by rw [<-FDec_same];unfold FDecR;rw [h]
theorem pre_fail {l:List UInt8} {n i c:Nat} {xs:List LOut} (h:FPre l n i xs c) (hi:i<n) (h16:i<=16) (hf:FROut l c=none):FDecR0 l=none:=by
 obtain ⟨a0,b,h1,h2,h3,h4⟩:=h
 unfold FDecR0 FROuts
 rw [h1];simp only [if_true]
 rw [h2];simp only
 rw [manyP_none (n:=i+1) (by omega) (by simp only [FmanyP];rw [h4];simp only;rw [hf])]
theorem pre_step {l:List UInt8} {n i c d:Nat} {xs:List LOut} {o:LOut} (h:FPre l n i xs c) (hi:i<n) (hf:FROut l c=some (o,d)):FPre l n (i+1) (xs++[o]) d:=by
 obtain ⟨a0,b,h1,h2,h3,h4⟩:=h
 refine ⟨a0,b,h1,h2,hi,?_⟩
 simp only [FmanyP];rw [h4];simp only;rw [hf]
theorem pre_end {l:List UInt8} {n i c:Nat} {xs:List LOut} (h:FPre l n i xs c) (h17:i<=17) (hi:¬(i<n/\i<=16)):FDecR0 l=some (⟨0,0,xs⟩,c):=by
 obtain ⟨a0,b,h1,h2,h3,h4⟩:=h
 unfold FDecR0 FROuts
 rw [h1];simp only [if_true]
 rw [h2];simp only
 rw [show min n 17=i by omega,h4]
def FPreO (l:List UInt8) (c:Nat) (has:Bool) (value:List UInt8) (m k:Nat) (rows:List LRow) (e:Nat):Prop:=
 ∃d1 d2 d3,FFlagP l c=some (has,d1)/\FBytesP 4096 l d1=some (value,d2)/\FRNum l d2=some (m,d3)/\k<=m/\FmanyP FRRow k l d3=some (rows,e)
theorem preO_fail {l:List UInt8} {c m k e:Nat} {has:Bool} {value:List UInt8} {rows:List LRow} (h:FPreO l c has value m k rows e) (hk:k<m) (h64:k<=64) (hf:FRRow l e=none):FROut l c=none:=by
 obtain ⟨d1,d2,d3,h1,h2,h3,h4,h5⟩:=h
 refine seq_no2 h1 (no_isSome (seq_no2 (f:=Prod.mk) h2 (no_isSome ?_)))
 unfold FRRows
 rw [h3];simp only
 exact manyP_none (n:=k+1) (by omega) (by simp only [FmanyP];rw [h5];simp only;rw [hf])
theorem preO_step {l:List UInt8} {c m k e d:Nat} {has:Bool} {value:List UInt8} {rows:List LRow} {r:LRow} (h:FPreO l c has value m k rows e) (hk:k<m) (hf:FRRow l e=some (r,d)):
 FPreO l c has value m (k+1) (rows++[r]) d:=by
 obtain ⟨d1,d2,d3,h1,h2,h3,h4,h5⟩:=h
 refine ⟨d1,d2,d3,h1,h2,h3,hk,?_⟩
 simp only [FmanyP];rw [h5];simp only;rw [hf]
theorem preO_end {l:List UInt8} {c m k e:Nat} {has:Bool} {value:List UInt8} {rows:List LRow} (h:FPreO l c has value m k rows e) (h65:k<=65) (hk:¬(k<m/\k<=64)):FROut l c=some (⟨has,value,rows⟩,e):=by
 obtain ⟨d1,d2,d3,h1,h2,h3,h4,h5⟩:=h
 refine seq_some (f:=fun (h:Bool) (p:List UInt8×List LRow)=>LOut.mk h p.1 p.2) (y:=((value,rows),e)) h1 (seq_some (f:=Prod.mk) (y:=(rows,e)) h2 ?_)
 unfold FRRows
 rw [h3];simp only
 rw [show min m 65=k by omega,h5]
structure XRI where
 i:Nat
 n:Nat
 at_:Nat
 ok:Bool
 xs:List LOut
structure XRJ extends XRI where
 c:Nat
 has:Bool
 value:List UInt8
 m:Nat
 k:Nat
 rows:List LRow
def FOr (l:List UInt8) (ok:Bool) (P:Prop):Prop:=(ok=true/\P)\/(ok=false/\FDecR0 l=none)
def FRowsSm (rows:List LRow):Prop:=rows.length<=65/\∀k,k<rows.length->(rows.getD k ⟨[],[]⟩).key.length<1048577/\(rows.getD k ⟨[],[]⟩).value.length<1048577
def FOutsSm (xs:List LOut):Prop:=xs.length<=17/\∀i,i<xs.length->FRowsSm (xs.getD i ⟨false,[],[]⟩).rows/\(xs.getD i ⟨false,[],[]⟩).value.length<1048577
def FRI (l:List UInt8) (y:XRI):Prop:=FRdOk l y.at_/\y.n<1073741824/\y.xs.length=y.i/\FOutsSm y.xs/\FOr l y.ok (FPre l y.n y.i y.xs y.at_)
def FRJ (l:List UInt8) (y:XRJ):Prop:=FRdOk l y.at_/\(y.n<1073741824/\y.i<y.n/\y.i<=16)/\y.xs.length=y.i/\FOutsSm y.xs/\(y.m<1073741824/\y.rows.length=y.k/\FRowsSm y.rows/\y.value.length<1048577)/\
 FOr l y.ok (FPre l y.n y.i y.xs y.c/\FPreO l y.c y.has y.value y.m y.k y.rows y.at_)
theorem sm_of {xs:List LOut} {a b:Int} (h:FOutsSm xs):FSm ⟨a,b,xs⟩:=by
 obtain ⟨h1,h2⟩:=h
 refine ⟨by show xs.length<_;omega,fun i hi=> ?_⟩
 obtain ⟨⟨h3,h4⟩,h5⟩:=h2 i hi
 exact ⟨by show (xs.getD i ⟨false,[],[]⟩).rows.length<_;omega,h5,h4⟩
theorem or_bad {l:List UInt8} {ok:Bool} {P:Prop} (h:FOr l ok P) (hk:ok=false):FDecR0 l=none:=by
 rcases h with h | h
 · rw [hk] at h;cases h.1
 · exact h.2
theorem or_ok {l:List UInt8} {ok:Bool} {P:Prop} (h:FOr l ok P) (hk:ok=true):P:=by
 rcases h with h | h
 · exact h.2
 · rw [hk] at h;cases h.1
section
variable {α β γ δ:Type} {p:List UInt8->Nat->Option (α×Nat)} {lim:α->Prop} {l:List UInt8} {a:Nat} {ok:Bool} {x:α×Bool×Nat}
theorem or_next {P:Prop} {Q:Prop} (h:FOr l ok P) (hx:FRf p lim l a ok x) (hs:P->p l a=some (x.1,x.2.2)->Q) (hn:P->p l a=none->FDecR0 l=none):FOr l x.2.1 Q:=by
 obtain ⟨h1,h2,h3,h4⟩:=hx
 rcases h with ⟨rfl,hP⟩ | ⟨rfl,hd⟩
 · cases hp:p l a with
   | none=>exact .inr ⟨by rw [h3,hp];rfl,hn hP hp⟩
   | some q=>
     obtain ⟨e1,e2⟩:=h4 q hp
     exact .inl ⟨by rw [h3,hp];rfl,hs hP (by rw [hp,e1,e2])⟩
 · exact .inr ⟨by rw [h3];rfl,hd⟩
theorem or_all (ok:Bool) (hk:ok=true):FOr l ok True:= .inl ⟨hk,trivial⟩
theorem rf_at (ha:FRdOk l a) (hx:FRf p lim l a ok x):FRdOk l x.2.2:=⟨hx.1,ha.2⟩
end
theorem R0_none {l:List UInt8} (h:FRNum l 0=none):FDecR0 l=none:=by unfold FDecR0;rw [h]
theorem R0_none2 {l:List UInt8} {n a:Nat} (h:FRNum l 0=some (n,a)) (hn:FRNum l a=none):FDecR0 l=none:=by
 unfold FDecR0;rw [h];simp only
 split
 · unfold FROuts;rw [hn]
 · rw [hn]
theorem R0_some {l:List UInt8} {n a m b:Nat} (h:FRNum l 0=some (n,a)) (hn:FRNum l a=some (m,b)) (h0:n≠0):FDecR0 l=some (⟨n,m,[]⟩,b):=by
 unfold FDecR0;rw [h];simp only;rw [if_neg h0,hn]
theorem decR_yes {l:List UInt8} {x:LRes} {c:Nat} (h:FDecR0 l=some (x,c)) (hm:FMay x=true) (hf:FRes x=l):FDecR' l (x,0):=by
 refine .inl ⟨rfl,?_⟩
 rw [<-FDec_same];unfold FDecR;rw [h];simp only
 rw [if_pos ⟨FMay_true.1 hm,hf⟩]
theorem decR_no {l:List UInt8} {x:LRes} {c:Nat} (h:FDecR0 l=some (x,c)) (hm:¬(FMay x=true/\FRes x=l)):FDecR' l (⟨0,0,[]⟩,4):=by
 refine .inr ⟨rfl,?_,rfl⟩
 show FDec l=none
 rw [<-FDec_same];unfold FDecR;rw [h];simp only
 rw [if_neg fun hh=>hm ⟨FMay_true.2 hh.1,hh.2⟩]
theorem decR_no' {l:List UInt8} (h:FDecR0 l=none):FDecR' l (⟨0,0,[]⟩,4):= .inr ⟨rfl,decR_none h,rfl⟩
theorem some_none {α:Type} {o:Option α} (h:o=none):¬o.isSome=true:=by rw [h];simp
section
variable {l:List UInt8} {x2 x5:Nat×Bool×Nat} {y:XRI} {z:XRJ}
theorem or_one (h3:FRf FRNum (fun x=>x<1073741824) l (Int.toNat (0:Int)) true x2):FOr l x2.2.1 (FRNum l 0=some (x2.1,x2.2.2)):=
 or_next (or_all true rfl) h3 (fun _ h=>h) (fun _ h=>R0_none h)
theorem fri_start (hl:l.length<1099511627000) (h3:FRf FRNum (fun x=>x<1073741824) l (Int.toNat (0:Int)) true x2) (h4:¬¬(x2.1:Int)=(0:Int)) (h6:FRf FRNum (fun x=>x<1073741824) l x2.2.2 x2.2.1 x5):
 FRI l (XRI.mk 0 x5.1 x5.2.2 x5.2.1 []):=by
 have e:x2.1=0:=by omega
 refine ⟨⟨h6.1,hl⟩,h6.2.1,rfl,⟨by simp,fun i hi=>absurd hi (by simp)⟩,or_next (or_one h3) h6 (fun hP hx=>⟨x2.2.2,x5.2.2,by rw [hP,e],hx,Nat.zero_le _,rfl⟩) (fun hP hn=>R0_none2 hP hn)⟩
variable {x14:Bool×Bool×Nat} {x16:List UInt8×Bool×Nat} {x18:Nat×Bool×Nat}
theorem frj_start (h8:FRI l y) (h11:(y.i:Int)<(y.n:Int)) (h12:(y.i:Int)<=(16:Int)) (h15:FRf FFlagP (fun x=>True) l y.at_ y.ok x14) (h17:FRf (FBytesP 4096) (fun x=>x.length<1048577) l x14.2.2 x14.2.1 x16)
 (h19:FRf FRNum (fun x=>x<1073741824) l x16.2.2 x16.2.1 x18):FRJ l (XRJ.mk (XRI.mk y.i y.n x18.2.2 x18.2.1 y.xs) y.at_ x14.1 x16.1 x18.1 0 []):=by
 obtain ⟨k1,k2,k3,k4,k5⟩:=h8
 refine ⟨⟨h19.1,k1.2⟩,⟨k2,by show y.i<y.n;omega,by show y.i<=16;omega⟩,k3,k4,⟨h19.2.1,rfl,⟨by simp,fun i hi=>absurd hi (by simp)⟩,h17.2.1⟩,?_⟩
 have hf:FPre l y.n y.i y.xs y.at_->FROut l y.at_=none->FDecR0 l=none:=fun hP hn=>pre_fail hP (by omega) (by omega) hn
 have o1:=or_next (Q:=FPre l y.n y.i y.xs y.at_/\FFlagP l y.at_=some (x14.1,x14.2.2)) k5 h15 (fun hP hx=>⟨hP,hx⟩) (fun hP hn=>hf hP (seq_no1 (some_none hn)))
 have o2:=or_next (Q:=FPre l y.n y.i y.xs y.at_/\FFlagP l y.at_=some (x14.1,x14.2.2)/\FBytesP 4096 l x14.2.2=some (x16.1,x16.2.2)) o1 h17 (fun hP hx=>⟨hP.1,hP.2,hx⟩)
  (fun hP hn=>hf hP.1 (seq_no2 hP.2 (some_none (seq_no1 (some_none hn)))))
 exact or_next o2 h19 (fun hP hx=>⟨hP.1,x14.2.2,x16.2.2,x18.2.2,hP.2.1,hP.2.2,hx,Nat.zero_le _,rfl⟩)
  (fun hP hn=>hf hP.1 (seq_no2 hP.2.1 (some_none (seq_no2 (f:=Prod.mk) hP.2.2 (some_none (by unfold FRRows;rw [hn]))))))
variable {x28 x30:List UInt8×Bool×Nat}
theorem sm_put {rows:List LRow} {r:LRow} (h:FRowsSm rows) (hl:rows.length<=64) (h1:r.key.length<1048577) (h2:r.value.length<1048577):FRowsSm (rows++[r]):=by
 refine ⟨by simp;omega,fun k hk=> ?_⟩
 have ht:=tk_put (x:=r) (d:=(⟨[],[]⟩:LRow)) (k:=k) (xs:=rows) rfl
 simp only [List.length_append,List.length_cons,List.length_nil] at hk
 rcases Nat.lt_or_ge k rows.length with g | g
 · rw [ht.1 g];exact h.2 k g
 · obtain rfl:k=rows.length:=by omega
   rw [ht.2];exact ⟨h1,h2⟩
theorem osm_put {xs:List LOut} {o:LOut} (h:FOutsSm xs) (hl:xs.length<=16) (h1:FRowsSm o.rows) (h2:o.value.length<1048577):FOutsSm (xs++[o]):=by
 refine ⟨by simp;omega,fun k hk=> ?_⟩
 have ht:=tk_put (x:=o) (d:=(⟨false,[],[]⟩:LOut)) (k:=k) (xs:=xs) rfl
 simp only [List.length_append,List.length_cons,List.length_nil] at hk
 rcases Nat.lt_or_ge k xs.length with g | g
 · rw [ht.1 g];exact h.2 k g
 · obtain rfl:k=xs.length:=by omega
   rw [ht.2];exact ⟨h1,h2⟩
theorem frj_step (h21:FRJ l z) (h25:(z.k:Int)<(z.m:Int)) (h26:(z.k:Int)<=(64:Int)) (h29:FRf (FBytesP 4096) (fun x=>x.length<1048577) l z.at_ z.ok x28) (h31:FRf (FBytesP 4096) (fun x=>x.length<1048577) l x28.2.2 x28.2.1 x30):
 FRJ l (XRJ.mk (XRI.mk z.i z.n x30.2.2 x30.2.1 z.xs) z.c z.has z.value z.m (z.k+1) (z.rows++[LRow.mk x28.1 x30.1])):=by
 obtain ⟨k1,k2,k3,k4,⟨k5,k6,k7,k8⟩,k9⟩:=h21
 refine ⟨⟨h31.1,k1.2⟩,k2,k3,k4,⟨k5,by show (z.rows++[LRow.mk x28.1 x30.1]).length=z.k+1;simp [k6],sm_put k7 (by omega) h29.2.1 h31.2.1,k8⟩,?_⟩
 have hf:FPre l z.n z.i z.xs z.c/\FPreO l z.c z.has z.value z.m z.k z.rows z.at_->FRRow l z.at_=none->FDecR0 l=none:=
  fun hP hn=>pre_fail hP.1 k2.2.1 k2.2.2 (preO_fail hP.2 (by omega) (by omega) hn)
 have o1:=or_next (Q:=(FPre l z.n z.i z.xs z.c/\FPreO l z.c z.has z.value z.m z.k z.rows z.at_)/\FBytesP 4096 l z.at_=some (x28.1,x28.2.2)) k9 h29 (fun hP hx=>⟨hP,hx⟩) (fun hP hn=>hf hP (seq_no1 (some_none hn)))
 have hkm:z.k<z.m:=by omega
 exact or_next o1 h31 (fun hP hx=>⟨hP.1.1,preO_step hP.1.2 hkm (seq_some (f:=LRow.mk) (y:=(x30.1,x30.2.2)) hP.2 hx)⟩) (fun hP hn=>hf hP.1 (seq_no2 hP.2 (some_none hn)))
theorem fri_step (h21:FRJ l z) (hx:¬(((z.k:Int)<(z.m:Int)/\(z.k:Int)<=(64:Int))/\z.ok=true)):FRI l (XRI.mk (z.i+1) z.n z.at_ z.ok (z.xs++[LOut.mk z.has z.value z.rows])):=by
 obtain ⟨k1,k2,k3,k4,⟨k5,k6,k7,k8⟩,k9⟩:=h21
 have h65:=k7.1
 refine ⟨k1,k2.1,by show (z.xs++[LOut.mk z.has z.value z.rows]).length=z.i+1;simp [k3],osm_put k4 (by omega) k7 k8,?_⟩
 rcases k9 with ⟨g,g1,g2⟩ | g
 · exact .inl ⟨g,pre_step g1 k2.2.1 (preO_end g2 (by omega) (fun hh=>hx ⟨by omega,g⟩))⟩
 · exact .inr g
theorem fri_end (h8:FRI l y) (hx:¬(((y.i:Int)<(y.n:Int)/\(y.i:Int)<=(16:Int))/\y.ok=true)) (hk:y.ok=true):FDecR0 l=some (⟨0,0,y.xs⟩,y.at_):=by
 obtain ⟨k1,k2,k3,k4,k5⟩:=h8
 have:=k4.1
 exact pre_end (or_ok k5 hk) (by omega) (fun hh=>hx ⟨by omega,hk⟩)
theorem fri_no (h8:FRI l y) (hk:y.ok=false):FDecR0 l=none:=or_bad h8.2.2.2.2 hk
theorem two_end (h3:FRf FRNum (fun x=>x<1073741824) l (Int.toNat (0:Int)) true x2) (h4:¬(x2.1:Int)=(0:Int)) (h6:FRf FRNum (fun x=>x<1073741824) l x2.2.2 x2.2.1 x5):
 FOr l x5.2.1 (FDecR0 l=some (⟨(x2.1:Int),(x5.1:Int),[]⟩,x5.2.2)):=
 or_next (or_one h3) h6 (fun hP hx=>R0_some hP hx (by omega)) (fun hP hn=>R0_none2 hP hn)
theorem or_res {ok:Bool} {x:LRes} {c:Nat} (h:FOr l ok (FDecR0 l=some (x,c))):(ok=true->FMay x=true->FRes x=l->FDecR' l (x,0))/\((ok=true->FMay x=true->FRes x≠l)->FDecR' l (⟨0,0,[]⟩,4)):=by
 refine ⟨fun h1 h2 h3=>decR_yes (or_ok h h1) h2 h3,fun hn=> ?_⟩
 rcases h with h | h
 · exact decR_no h.2 (fun hh=>hn h.1 hh.1 hh.2)
 · exact decR_no' h.2
theorem fri_or (h8:FRI l y) (hx:¬(((y.i:Int)<(y.n:Int)/\(y.i:Int)<=(16:Int))/\y.ok=true)):FOr l y.ok (FDecR0 l=some (⟨0,0,y.xs⟩,y.at_)):=by
 cases hk:y.ok with
 | true=>exact .inl ⟨rfl,fri_end h8 hx hk⟩
 | false=>exact .inr ⟨rfl,fri_no h8 hk⟩
end
theorem may_of {ok m z:Bool} (h:(bif false then z else !bif !ok then true else !m)=true):ok=true/\m=true:=by
 revert h;cases ok<;>cases m<;>simp
theorem res_a {l:List UInt8} {ok:Bool} {x:LRes} {c:Nat} (h:FOr l ok (FDecR0 l=some (x,c))) (hc:¬ok=true\/¬FMay x=true):FDecR' l (⟨0,0,[]⟩,4):=
 (or_res h).2 fun h1 h2=>by rcases hc with hc | hc<;>contradiction
theorem res_b {l:List UInt8} {ok:Bool} {x:LRes} {c:Nat} (h:FOr l ok (FDecR0 l=some (x,c))) (hc:¬FRes x=l):FDecR' l (⟨0,0,[]⟩,4):=
 (or_res h).2 fun h1 h2 h3=>hc h3
theorem res_c {l:List UInt8} {ok:Bool} {x:LRes} {c:Nat} (h:FOr l ok (FDecR0 l=some (x,c))) (h1:¬(¬ok=true\/¬FMay x=true)) (h2:¬¬FRes x=l):FDecR' l (x,0):=by
 simp only [not_or,Classical.not_not] at h1 h2
 exact (or_res h).1 h1.1 h1.2 h2
theorem row_elem2 {xs:List LRow} {a b:List UInt8} {n i:Nat} (hl:xs.length=n) (hi:i<n+1):
 leL (rowC 1 ((xs++[LRow.mk a b]).getD i (LRow.mk [] []))) (bif Nat.blt i n then rowC 1 (xs.getD (0+i) (LRow.mk [] [])) else List.take 2 (List.drop ((0+(i-n))*2) [SV.bytes 1 false a,SV.bytes 1 false b])):=
 row_elem (x:=LRow.mk a b) hl hi
theorem out_elem2 {xs:List LOut} {has:Bool} {value:List UInt8} {rows:List LRow} {n k i:Nat} (hl:xs.length=n) (hr:rows.length=k) (hi:i<n+1):
 leL (outC 1 ((xs++[LOut.mk has value rows]).getD i (LOut.mk false [] []))) (bif Nat.blt i n then outC 1 (xs.getD (0+i) (LOut.mk false [] [])) else List.take 3 (List.drop ((0+(i-n))*3)
  [SV.bool has,SV.bytes 1 false value,SV.imm 1 false k 2 fun i=>[SV.bytes 1 false (rows.getD (0+i) (LRow.mk [] [])).key,SV.bytes 1 false (rows.getD (0+i) (LRow.mk [] [])).value]])):=by
 subst hr
 have:=out_elem (x:=LOut.mk has value rows) hl hi
 simp only [outC,rowsV,rowC,Nat.zero_add] at*
 exact this
noncomputable def sp_rRead:FSpec where
 X:=List UInt8
 pre x:=x.length<1099511627000
 args x:=[.bytes 0 false x]
 base:=[]
 own _:=[]
 out x:= .ex (LRes×Int) (FDecR' x) fun p=> .ret (.tup [.agg (resC 1 p.1),.int .i64 p.2]) []
noncomputable def an_rRead (x:List UInt8):Nat->Option Cut
 | 0=>some {X:=XRI,pre:=fun y=>FRI x y
            tm:=fun y=>[(0,.bytes 0 false x),(2,.ptr 0 0 0 0),(4,.ptr 1 0 0 0),(5,.ptr 2 0 0 0),(6,.ptr 3 0 0 0),(7,.int .i64 y.n),(8,.int .i64 y.i)]
            own:=fun y=>[(0,.cells [.int .i64 0,.int .i64 0,.nilS] Ty.api_Result),(1,.cells [.bytes 0 false x,.int .i64 y.at_] Ty.wicketref01_Reader),(2,.cells [.bool y.ok] Ty.bool),
             (3,.cells [.int .i64 0,.int .i64 0,.sl 4 3 0 y.i y.i true] Ty.api_Result),(4,.arr y.i 3 (fun k=>outC 1 (y.xs.getD k (LOut.mk false [] []))) Ty.api_Out)]
            mu:=fun y=>y.n-y.i}
 | 2=>some {X:=XRJ,R:=Nat×Nat,rel:=some fun r y=>r=(y.i,y.n),pre:=fun y=>FRJ x y
            tm:=fun y=>[(0,.bytes 0 false x),(2,.ptr 0 0 0 0),(4,.ptr 1 0 0 0),(5,.ptr 2 0 0 0),(6,.ptr 3 0 0 0),(7,.int .i64 y.n),(8,.int .i64 y.i),(9,.ptr 5 0 0 0),(10,.int .i64 y.m),(11,.int .i64 y.k)]
            own:=fun y=>[(0,.cells [.int .i64 0,.int .i64 0,.nilS] Ty.api_Result),(1,.cells [.bytes 0 false x,.int .i64 y.at_] Ty.wicketref01_Reader),(2,.cells [.bool y.ok] Ty.bool),
             (3,.cells [.int .i64 0,.int .i64 0,.sl 4 3 0 y.i y.i true] Ty.api_Result),(4,.arr y.i 3 (fun k=>outC 1 (y.xs.getD k (LOut.mk false [] []))) Ty.api_Out),
             (5,.cells [.bool y.has,.bytes 1 false y.value,.sl 6 2 0 y.k y.k true] Ty.api_Out),(6,.arr y.k 2 (fun k=>rowC 1 (y.rows.getD k (LRow.mk [] []))) Ty.api_Row)]
            mu:=fun y=>y.m-y.k}
 | _=>none
noncomputable def Sp_rRead:List (Nat×FSpec):=[(Id.wicketref06_number,sp_number),(Id.wicketref06_flag,sp_flag),(Id.wicketref06_piece,sp_piece),(Id.wicketref06_MayResult,sp_rMay),(Id.wicketref06_FormResult,sp_rForm)]
def vc_rRead:Prop:=FnVC Tryz.cy Sp_rRead Id.wicketref06_ReadResult sp_rRead an_rRead 10
end Go.Proofs
