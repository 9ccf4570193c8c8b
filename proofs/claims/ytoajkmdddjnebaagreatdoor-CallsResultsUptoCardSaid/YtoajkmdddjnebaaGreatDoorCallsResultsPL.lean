set_option linter.unusedSimpArgs false
set_option linter.unusedVariables false
namespace Go.Proofs
def formF:Nat->Nat->List UInt8
 | 0,_=>[]
 | f+1,n=>if n>127 then UInt8.ofNat (n%128+128)::formF f (n/128) else [UInt8.ofNat n]
def FNum (n:Nat):List UInt8:=formF 10 n
theorem formF_more {m n:Nat} (h:127<n):formF (m+1) n=UInt8.ofNat (n%128+128)::formF m (n/128):=by simp [formF,h]
theorem formF_last {m n:Nat} (h:¬127<n):formF (m+1) n=[UInt8.ofNat n]:=by simp [formF,h]
theorem formF_len:∀(f n:Nat),(formF f n).length<=f
 | 0,_=>by simp [formF]
 | f+1,n=>by unfold formF;split<;>simp;exact formF_len f _
theorem FNum_len (n:Nat):(FNum n).length<=10:=formF_len 10 n
theorem FNum_pos (n:Nat):0<(FNum n).length:=by unfold FNum formF;split<;>simp
abbrev badC (i:Nat) (c:UInt8):Prop:=(i=9/\1<c.toNat)\/(0<i/\c.toNat=0)
def Frd:Nat->Nat->List UInt8->Option (Nat×Nat)
 | _,_,[]=>none
 | i,acc,c::r=>
   if badC i c then none
   else if c.toNat<128 then some (acc+c.toNat%128*128^i,i+1)
   else Frd (i+1) (acc+c.toNat%128*128^i) r
def FNumP (l:List UInt8) (a:Nat):Option (Nat×Nat):=(Frd 0 0 (l.drop a)).map fun p=>(p.1,a+p.2)
theorem Frd_form:∀(f i acc n:Nat) (r:List UInt8),i+f=10->n*128^i<2^64->(0<i->0<n)->Frd i acc (formF f n++r)=some (acc+n*128^i,i+(formF f n).length)
 | 0,i,acc,n,r,h1,h2,h3=>by
   obtain rfl:i=10:=by omega
   have:=h3 (by omega)
   have:1*128^10<=n*128^10:=Nat.mul_le_mul_right _ (by omega)
   have:(1:Nat)*128^10>2^64:=by decide
   omega
 | f+1,i,acc,n,r,h1,h2,h3=>by
   by_cases hn:127<n
   · rw [formF_more hn]
     have hc:(UInt8.ofNat (n%128+128)).toNat=n%128+128:=by
      rw [UInt8.toNat_ofNat'];omega
     have h9:i≠9:=by
      rintro rfl
      have h:2*128^9<=n*128^9:=Nat.mul_le_mul_right _ (by omega)
      have:(2:Nat)*128^9=2^64:=by decide
      omega
     have ih:=Frd_form f (i+1) (acc+n%128*128^i) (n/128) r (by omega) (by
      refine Nat.lt_of_le_of_lt ?_ h2
      rw [Nat.pow_succ,Nat.mul_comm (128^i),<-Nat.mul_assoc]
      exact Nat.mul_le_mul_right _ (Nat.div_mul_le_self ..)) (by omega)
     simp only [List.cons_append,Frd]
     rw [if_neg (by unfold badC;rw [hc];omega),if_neg (by rw [hc];omega),hc,show (n%128+128)%128=n%128 by omega,ih]
     have e:acc+n%128*128^i+n/128*128^(i+1)=acc+n*128^i:=by
      have:n*128^i=(n%128+128*(n/128))*128^i:=by rw [Nat.mod_add_div]
      rw [this,Nat.add_mul,Nat.pow_succ,Nat.add_assoc,Nat.mul_comm (128^i) 128,<-Nat.mul_assoc,Nat.mul_comm (n/128) 128]
     rw [e]
     simp only [List.length_cons]
     congr 2
     omega
   · rw [formF_last hn]
     have hc:(UInt8.ofNat n).toNat=n:=by rw [UInt8.toNat_ofNat'];omega
     have hb:¬badC i (UInt8.ofNat n):=by
      unfold badC
      rw [hc]
      rintro (⟨rfl,h⟩ | ⟨h,h'⟩)
      · have h:2*128^9<=n*128^9:=Nat.mul_le_mul_right _ (by omega)
        have:(2:Nat)*128^9=2^64:=by decide
        omega
      · have:=h3 h;omega
     simp only [List.cons_append,List.nil_append,Frd]
     rw [if_neg hb,if_pos (by rw [hc];omega),hc,Nat.mod_eq_of_lt (by omega)]
     rfl
theorem Frd_sound:∀(l:List UInt8) (i acc v j:Nat),i<=9->Frd i acc l=some (v,j)->
 ∃n,v=acc+n*128^i/\l=formF (10-i) n++l.drop (j-i)/\n*128^i<2^64/\(0<i->0<n)/\i<j/\j<=i+l.length
 | [],i,acc,v,j,hi,h=>by simp [Frd] at h
 | c::r,i,acc,v,j,hi,h=>by
   simp only [Frd] at h
   split at h
   · cases h
   rename_i hb
   have hc:=UInt8.toNat_lt c
   have hp8:i<=8->128^i<=128^8:=fun h=>Nat.pow_le_pow_right (by decide) h
   split at h
   · rename_i h1
     simp only [Option.some.injEq,Prod.mk.injEq] at h
     obtain ⟨rfl,rfl⟩:=h
     refine ⟨c.toNat,by rw [Nat.mod_eq_of_lt h1],?_,?_,fun h=> ?_,by omega,by simp⟩
     · rw [show 10-i=(9-i)+1 by omega,formF_last (by omega),show i+1-i=1 by omega]
       simp
     · rcases Nat.lt_or_ge i 9 with h | h
       · have:=hp8 (by omega)
         calc c.toNat*128^i<=127*128^8:=Nat.mul_le_mul (by omega) this
          _<2^64:=by decide
       · obtain rfl:i=9:=by omega
         have:c.toNat<=1:=by
          rcases Nat.lt_or_ge 1 c.toNat with h | h
          · exact absurd (.inl ⟨rfl,h⟩) hb
          · exact h
         calc c.toNat*128^9<=1*128^9:=Nat.mul_le_mul_right _ this
          _<2^64:=by decide
     · rcases Nat.eq_zero_or_pos c.toNat with h' | h'
       · exact absurd (.inr ⟨h,h'⟩) hb
       · exact h'
   · rename_i h1
     have h9:i≠9:=by
      rintro rfl
      exact hb (.inl ⟨rfl,by omega⟩)
     obtain ⟨n,rfl,e2,e3,e4,e5,e6⟩:=Frd_sound r (i+1) _ v j (by omega) h
     have hn:=e4 (by omega)
     refine ⟨c.toNat%128+128*n,?_,?_,?_,fun _=>by omega,by omega,by simp;omega⟩
     · rw [Nat.add_mul,Nat.pow_succ,Nat.mul_comm (128^i) 128,<-Nat.mul_assoc,Nat.mul_comm n 128]
       omega
     · rw [show 10-i=(9-i)+1 by omega,formF_more (by omega),show (c.toNat%128+128*n)%128+128=c.toNat by omega,show (c.toNat%128+128*n)/128=n by omega,
        show j-i=(j- (i+1))+1 by omega]
       have e2':r=formF (9-i) n++r.drop (j- (i+1)):=by rw [show 9-i=10- (i+1) by omega];exact e2
       simp only [List.drop_succ_cons,List.cons_append]
       rw [<-e2']
       simp
     · have:(c.toNat%128+128*n)*128^i<=(127+128*n)*128^i:=Nat.mul_le_mul_right _ (by omega)
       refine Nat.lt_of_le_of_lt this ?_
       have hlt:n+1<=2^64/128^(i+1):=by
        have h1:n<2^64/128^(i+1):=by
         rw [Nat.lt_div_iff_mul_lt (Nat.pow_pos (by decide))]
         have:(128^(i+1))∣2^64\/i=9:=by
          by_cases h:i=9
          · exact .inr h
          · left
            rw [show (128:Nat)=2^7 from rfl,<-Nat.pow_mul]
            exact Nat.pow_dvd_pow 2 (by omega)
         rcases this with h | h
         · obtain ⟨k,hk⟩:=h
           have hk':n<k:=by
            refine Nat.lt_of_mul_lt_mul_right (a:=128^(i+1)) ?_
            rw [Nat.mul_comm k,<-hk];exact e3
           have:128^(i+1)<=128^(i+1)*(k-n):=Nat.le_mul_of_pos_right _ (by omega)
           rw [Nat.mul_sub,<-hk] at this
           have hp:0<128^(i+1):=Nat.pow_pos (by decide)
           rw [Nat.mul_comm (128^(i+1)) n] at this
           omega
         · exact absurd h h9
        exact h1
       have h2:(n+1)*128^(i+1)<=2^64:=Nat.le_trans (Nat.mul_le_mul_right _ hlt) (Nat.div_mul_le_self ..)
       have h3:(127+128*n)*128^i<(n+1)*128^(i+1):=by
        rw [Nat.pow_succ,Nat.mul_comm (128^i) 128,<-Nat.mul_assoc]
        exact Nat.mul_lt_mul_of_pos_right (by omega) (Nat.pow_pos (by decide))
       omega
structure Reads {α:Type} (p:List UInt8->Nat->Option (α×Nat)) (e:α->List UInt8) (ok:α->Prop):Prop where
 sound:∀{l:List UInt8} {a:Nat} {x:α} {a':Nat},a<=l.length->p l a=some (x,a')->ok x/\l.drop a=e x++l.drop a'/\a<=a'/\a'<=l.length
 comp:∀{l:List UInt8} {a:Nat} {x:α} {r:List UInt8},a<=l.length->ok x->l.drop a=e x++r->p l a=some (x,a+(e x).length)
theorem drop_app {l e r:List UInt8} {a:Nat} (h:l.drop a=e++r):l.drop (a+e.length)=r:=by
 rw [<-List.drop_drop,h,List.drop_left]
theorem le_app {l e r:List UInt8} {a:Nat} (ha:a<=l.length) (h:l.drop a=e++r):a+e.length<=l.length:=by
 have:=congrArg List.length h
 simp only [List.length_drop,List.length_append] at this
 omega
theorem reads_num:Reads FNumP FNum (· <2^64) where
 sound:=by
  intro l a x a' ha h
  unfold FNumP at h
  simp only [Option.map_eq_some_iff,Prod.mk.injEq] at h
  obtain ⟨⟨v,j⟩,h1,rfl,rfl⟩:=h
  obtain ⟨n,e1,e2,e3,_,e5,e6⟩:=Frd_sound _ 0 0 v j (by omega) h1
  have hv:v=n:=by simpa using e1
  subst hv
  refine ⟨by simpa using e3,?_,by omega,?_⟩
  · rw [<-List.drop_drop]
    simpa [FNum] using e2
  · simp only [List.length_drop] at e6
    show a+j<=_
    omega
 comp:=by
  intro l a x r ha hx h
  unfold FNumP
  rw [h,FNum,Frd_form 10 0 0 x r (by omega) (by simpa using hx) (by omega)]
  simp
def FseqP {α β γ:Type} (p:List UInt8->Nat->Option (α×Nat)) (q:List UInt8->Nat->Option (β×Nat)) (f:α->β->γ) (l:List UInt8) (a:Nat):Option (γ×Nat):=
 match p l a with
 | none=>none
 | some (x,b)=>match q l b with
   | none=>none
   | some (y,c)=>some (f x y,c)
theorem reads_seq {α β γ:Type} {p:List UInt8->Nat->Option (α×Nat)} {q:List UInt8->Nat->Option (β×Nat)} {f:α->β->γ} {e1:α->List UInt8} {e2:β->List UInt8} {ok1:α->Prop} {ok2:β->Prop}
 {e:γ->List UInt8} {ok:γ->Prop} (hp:Reads p e1 ok1) (hq:Reads q e2 ok2) (he:∀x y,e (f x y)=e1 x++e2 y) (hok:∀x y,ok1 x->ok2 y->ok (f x y)) (hinv:∀z,ok z->∃x y,z=f x y/\ok1 x/\ok2 y):Reads (FseqP p q f) e ok where
 sound:=by
  intro l a x a' ha h
  unfold FseqP at h
  split at h
  · cases h
  · rename_i x1 b h1
    split at h
    · cases h
    · rename_i y c h2
      simp only [Option.some.injEq,Prod.mk.injEq] at h
      obtain ⟨rfl,rfl⟩:=h
      obtain ⟨k1,k2,k3,k4⟩:=hp.sound ha h1
      obtain ⟨m1,m2,m3,m4⟩:=hq.sound k4 h2
      exact ⟨hok _ _ k1 m1,by rw [he,k2,m2,List.append_assoc],by omega,m4⟩
 comp:=by
  intro l a z r ha hz h
  obtain ⟨x,y,rfl,hx,hy⟩:=hinv z hz
  rw [he,List.append_assoc] at h
  unfold FseqP
  rw [hp.comp ha hx h]
  simp only
  rw [hq.comp (le_app ha h) hy (drop_app h)]
  simp only [he,List.length_append,Nat.add_assoc]
def FmanyP {α:Type} (p:List UInt8->Nat->Option (α×Nat)):Nat->List UInt8->Nat->Option (List α×Nat)
 | 0,_,a=>some ([],a)
 | n+1,l,a=>match FmanyP p n l a with
   | none=>none
   | some (xs,b)=>match p l b with
     | none=>none
     | some (x,c)=>some (xs++[x],c)
def FCat {α:Type} (e:α->List UInt8):List α->List UInt8
 | []=>[]
 | x::r=>e x++FCat e r
theorem FCat_append {α:Type} (e:α->List UInt8):∀(x y:List α),FCat e (x++y)=FCat e x++FCat e y
 | [],y=>rfl
 | a::x,y=>by simp only [List.cons_append,FCat,FCat_append e x y,List.append_assoc]
theorem FCat_one {α:Type} (e:α->List UInt8) (x:α):FCat e [x]=e x:=by simp [FCat]
theorem reads_many {α:Type} {p:List UInt8->Nat->Option (α×Nat)} {e:α->List UInt8} {ok:α->Prop} (hp:Reads p e ok):∀n,Reads (FmanyP p n) (FCat e) (fun xs=>xs.length=n/\∀x∈xs,ok x)
 | 0=>{
   sound:=by
    intro l a x a' ha h
    simp only [FmanyP,Option.some.injEq,Prod.mk.injEq] at h
    obtain ⟨rfl,rfl⟩:=h
    exact ⟨⟨rfl,fun x hx=>by cases hx⟩,by simp [FCat],Nat.le_refl _,ha⟩
   comp:=by
    intro l a x r ha hx h
    obtain rfl:x=[]:=List.length_eq_zero_iff.1 hx.1
    simp [FmanyP,FCat]}
 | n+1=>{
   sound:=by
    intro l a x a' ha h
    simp only [FmanyP] at h
    split at h
    · cases h
    · rename_i xs b h1
      split at h
      · cases h
      · rename_i y c h2
        simp only [Option.some.injEq,Prod.mk.injEq] at h
        obtain ⟨rfl,rfl⟩:=h
        obtain ⟨⟨k1,k1'⟩,k2,k3,k4⟩:=(reads_many hp n).sound ha h1
        obtain ⟨m1,m2,m3,m4⟩:=hp.sound k4 h2
        refine ⟨⟨by simp [k1],fun z hz=> ?_⟩,by rw [FCat_append,FCat_one,k2,m2,List.append_assoc],by omega,m4⟩
        rcases List.mem_append.1 hz with hz | hz
        · exact k1' z hz
        · rw [List.mem_singleton] at hz;subst hz;exact m1
   comp:=by
    intro l a x r ha hx h
    have hne:x≠[]:=by rintro rfl;simp at hx
    obtain ⟨xs,y,rfl⟩:∃xs y,x=xs++[y]:=⟨x.dropLast,x.getLast hne,(List.dropLast_concat_getLast hne).symm⟩
    have hl:xs.length=n:=by have:=hx.1;simp at this;exact this
    rw [FCat_append,FCat_one,List.append_assoc] at h
    simp only [FmanyP]
    rw [(reads_many hp n).comp ha ⟨hl,fun z hz=>hx.2 z (List.mem_append_left _ hz)⟩ h]
    simp only
    rw [hp.comp (le_app ha h) (hx.2 y (by simp)) (drop_app h)]
    simp only [FCat_append,FCat_one,List.length_append,Nat.add_assoc]}
theorem manyP_none {α:Type} {p:List UInt8->Nat->Option (α×Nat)} {l:List UInt8} {a:Nat}:∀{n m:Nat},n<=m->FmanyP p n l a=none->FmanyP p m l a=none
 | n,0,h,hn=>by obtain rfl:n=0:=by omega
                exact hn
 | n,m+1,h,hn=>by
   rcases Nat.lt_or_ge n (m+1) with h' | h'
   · simp only [FmanyP,manyP_none (Nat.le_of_lt_succ h') hn]
   · obtain rfl:n=m+1:=by omega
     exact hn
def FtakeP {α:Type} (most:Nat) (p:List UInt8->Nat->Option (α×Nat)) (l:List UInt8) (a:Nat):Option (List α×Nat):=
 match FNumP l a with
 | none=>none
 | some (n,b)=>if n<=most then FmanyP p n l b else none
theorem reads_take {α:Type} {most:Nat} {p:List UInt8->Nat->Option (α×Nat)} {e:α->List UInt8} {ok:α->Prop} (hp:Reads p e ok) (hm:most<2^64):
 Reads (FtakeP most p) (fun xs=>FNum xs.length++FCat e xs) (fun xs=>xs.length<=most/\∀x∈xs,ok x) where
 sound:=by
  intro l a x a' ha h
  unfold FtakeP at h
  split at h
  · cases h
  · rename_i n b h1
    split at h
    · rename_i hn
      obtain ⟨k1,k2,k3,k4⟩:=reads_num.sound ha h1
      obtain ⟨⟨m1,m1'⟩,m2,m3,m4⟩:=(reads_many hp n).sound k4 h
      refine ⟨⟨by omega,m1'⟩,?_,by omega,m4⟩
      rw [k2,m2,m1,List.append_assoc]
    · cases h
 comp:=by
  intro l a x r ha hx h
  simp only [List.append_assoc] at h
  unfold FtakeP
  rw [reads_num.comp ha (Nat.lt_of_le_of_lt hx.1 hm) h]
  simp only
  rw [if_pos hx.1,(reads_many hp _).comp (le_app ha h) ⟨rfl,hx.2⟩ (drop_app h)]
  simp only [List.length_append,Nat.add_assoc]
def FCnt (most:Nat) (l:List UInt8) (a:Nat):Option (Nat×Nat):=match FNumP l a with
 | none=>none
 | some (n,b)=>if n<=most then some (n,b) else none
theorem FtakeP_eq {α:Type} {most:Nat} {p:List UInt8->Nat->Option (α×Nat)} {l:List UInt8} {a:Nat}:FtakeP most p l a=match FCnt most l a with
 | none=>none
 | some (n,b)=>FmanyP p n l b:=by
 unfold FtakeP FCnt
 cases FNumP l a with
 | none=>rfl
 | some q=>
   obtain ⟨n,b⟩:=q
   simp only
   split<;>rfl
theorem FCnt_le {most:Nat} {l:List UInt8} {a n b:Nat} (ha:a<=l.length) (h:FCnt most l a=some (n,b)):n<=most/\a<b/\b<=l.length:=by
 unfold FCnt at h
 split at h
 · cases h
 · rename_i n' b' h1
   split at h
   · rename_i hn
     cases h
     obtain ⟨k1,k2,k3,k4⟩:=reads_num.sound ha h1
     refine ⟨hn,?_,k4⟩
     have:=congrArg List.length k2
     have:=FNum_pos n
     simp only [List.length_drop,List.length_append] at*
     omega
   · cases h
def FBytes (b:List UInt8):List UInt8:=FNum b.length++b
def FBytesP (most:Nat) (l:List UInt8) (a:Nat):Option (List UInt8×Nat):=
 match FNumP l a with
 | none=>none
 | some (n,b)=>if n<=most/\n<=l.length-b then some ((l.drop b).take n,b+n) else none
theorem reads_bytes {most:Nat} (hm:most<2^64):Reads (FBytesP most) FBytes (·.length<=most) where
 sound:=by
  intro l a x a' ha h
  unfold FBytesP at h
  split at h
  · cases h
  · rename_i n b h1
    split at h
    · rename_i hn
      simp only [Option.some.injEq,Prod.mk.injEq] at h
      obtain ⟨rfl,rfl⟩:=h
      obtain ⟨k1,k2,k3,k4⟩:=reads_num.sound ha h1
      have hl:((l.drop b).take n).length=n:=by simp;omega
      refine ⟨by omega,?_,by omega,by omega⟩
      rw [FBytes,hl,k2,List.append_assoc,<-List.drop_drop,List.take_append_drop]
    · cases h
 comp:=by
  intro l a x r ha hx h
  have hx':x.length<2^64:=Nat.lt_of_le_of_lt hx hm
  rw [FBytes,List.append_assoc] at h
  unfold FBytesP
  rw [reads_num.comp ha hx' h]
  have hd:=drop_app h
  have hl:=le_app ha h
  have hlen:=congrArg List.length hd
  simp only [List.length_drop,List.length_append] at hlen
  simp only
  rw [if_pos ⟨hx,by omega⟩,hd,List.take_left]
  simp only [FBytes,List.length_append,Nat.add_assoc]
theorem FBytesP_eq {most:Nat} {l:List UInt8} {a:Nat}:FBytesP most l a=match FCnt most l a with
 | none=>none
 | some (n,b)=>if n<=l.length-b then some ((l.drop b).take n,b+n) else none:=by
 unfold FBytesP FCnt
 cases FNumP l a with
 | none=>rfl
 | some q=>
   obtain ⟨n,b⟩:=q
   simp only
   by_cases h:n<=most
   · simp [h]
   · simp [h]
def FFlag (b:Bool):List UInt8:=[if b then 1 else 0]
def FFlagP (l:List UInt8) (a:Nat):Option (Bool×Nat):=
 match l.drop a with
 | []=>none
 | c::_=>if c.toNat<=1 then some (decide (c.toNat=1),a+1) else none
theorem reads_flag:Reads FFlagP FFlag (fun _=>True) where
 sound:=by
  intro l a x a' ha h
  unfold FFlagP at h
  split at h
  · cases h
  · rename_i c r hc
    split at h
    · rename_i h1
      simp only [Option.some.injEq,Prod.mk.injEq] at h
      obtain ⟨rfl,rfl⟩:=h
      have hl:=congrArg List.length hc
      simp only [List.length_drop,List.length_cons] at hl
      refine ⟨trivial,?_,by omega,by omega⟩
      have:l.drop (a+1)=r:=by rw [<-List.drop_drop,hc];rfl
      rw [this,hc,FFlag]
      rcases (show c.toNat=0\/c.toNat=1 by omega) with h0 | h0
      · have:c=0:=UInt8.toNat_inj.1 h0
        subst this;rfl
      · have:c=1:=UInt8.toNat_inj.1 h0
        subst this;rfl
    · cases h
 comp:=by
  intro l a x r ha hx h
  unfold FFlagP
  rw [h]
  cases x<;>simp [FFlag]
structure LRow where
 key:List UInt8
 value:List UInt8
 deriving DecidableEq
structure LOut where
 has:Bool
 value:List UInt8
 rows:List LRow
 deriving DecidableEq
structure LRes where
 abort:Int
 place:Int
 outs:List LOut
 deriving DecidableEq
def FRow (x:LRow):List UInt8:=FBytes x.key++FBytes x.value
def FRows (l:List LRow):List UInt8:=FNum l.length++FCat FRow l
def FOut (o:LOut):List UInt8:=FFlag o.has++(FBytes o.value++FRows o.rows)
def FOuts (l:List LOut):List UInt8:=FNum l.length++FCat FOut l
def FRes (r:LRes):List UInt8:=if r.abort=0 then FNum 0++FOuts r.outs else FNum r.abort.toNat++FNum r.place.toNat
structure Comp {α:Type} (p:List UInt8->Nat->Option (α×Nat)) (e:α->List UInt8) (ok:α->Prop):Prop where
 comp:∀{l:List UInt8} {a:Nat} {x:α} {r:List UInt8},a<=l.length->ok x->l.drop a=e x++r->p l a=some (x,a+(e x).length)
theorem Reads.half {α:Type} {p:List UInt8->Nat->Option (α×Nat)} {e:α->List UInt8} {ok ok':α->Prop} (h:Reads p e ok) (hk:∀x,ok' x->ok x):Comp p e ok':=⟨fun ha hx hd=>h.comp ha (hk _ hx) hd⟩
theorem comp_seq {α β γ:Type} {p:List UInt8->Nat->Option (α×Nat)} {q:List UInt8->Nat->Option (β×Nat)} {f:α->β->γ} {e1:α->List UInt8} {e2:β->List UInt8} {ok1:α->Prop} {ok2:β->Prop}
 {e:γ->List UInt8} {ok:γ->Prop} (hp:Comp p e1 ok1) (hq:Comp q e2 ok2) (he:∀x y,e (f x y)=e1 x++e2 y) (hinv:∀z,ok z->∃x y,z=f x y/\ok1 x/\ok2 y):Comp (FseqP p q f) e ok where
 comp:=by
  intro l a z r ha hz h
  obtain ⟨x,y,rfl,hx,hy⟩:=hinv z hz
  rw [he,List.append_assoc] at h
  unfold FseqP
  rw [hp.comp ha hx h]
  simp only
  rw [hq.comp (le_app ha h) hy (drop_app h)]
  simp only [he,List.length_append,Nat.add_assoc]
theorem comp_many {α:Type} {p:List UInt8->Nat->Option (α×Nat)} {e:α->List UInt8} {ok:α->Prop} (hp:Comp p e ok):∀n,Comp (FmanyP p n) (FCat e) (fun xs=>xs.length=n/\∀x∈xs,ok x)
 | 0=>⟨by
    intro l a x r ha hx h
    obtain rfl:x=[]:=List.length_eq_zero_iff.1 hx.1
    simp [FmanyP,FCat]⟩
 | n+1=>⟨by
    intro l a x r ha hx h
    have hne:x≠[]:=by rintro rfl;simp at hx
    obtain ⟨xs,y,rfl⟩:∃xs y,x=xs++[y]:=⟨x.dropLast,x.getLast hne,(List.dropLast_concat_getLast hne).symm⟩
    have hl:xs.length=n:=by have:=hx.1;simp at this;exact this
    rw [FCat_append,FCat_one,List.append_assoc] at h
    simp only [FmanyP]
    rw [(comp_many hp n).comp ha ⟨hl,fun z hz=>hx.2 z (List.mem_append_left _ hz)⟩ h]
    simp only
    rw [hp.comp (le_app ha h) (hx.2 y (by simp)) (drop_app h)]
    simp only [FCat_append,FCat_one,List.length_append,Nat.add_assoc]⟩
def FCmp:List UInt8->List UInt8->Int
 | [],[]=>0
 | [],_::_=> -1
 | _::_,[]=>1
 | a::x,b::y=>if a<b then -1 else if b<a then 1 else FCmp x y
def PRows (l:List LRow):Prop:=l.length<=64/\∀k,k<l.length->(1<=(l.getD k ⟨[],[]⟩).key.length/\(l.getD k ⟨[],[]⟩).key.length<=64)/\(l.getD k ⟨[],[]⟩).value.length<=256/\
 (0<k->FCmp (l.getD (k-1) ⟨[],[]⟩).key (l.getD k ⟨[],[]⟩).key<0)
def POut (o:LOut):Prop:=o.value.length<=256/\PRows o.rows
def PMay (r:LRes):Prop:=(r.abort=0/\r.place=0/\1<=r.outs.length/\r.outs.length<=16/\∀i,i<r.outs.length->POut (r.outs.getD i ⟨false,[],[]⟩))\/
 ((r.abort=1\/r.abort=2\/r.abort=3)/\0<=r.place/\r.place<16/\r.outs=[])
theorem mem_getD {α:Type} {P:α->Prop} {l:List α} {d:α} (h:∀i,i<l.length->P (l.getD i d)):∀x∈l,P x:=by
 intro x hx
 obtain ⟨i,hi,rfl⟩:=List.mem_iff_getElem.1 hx
 have:=h i hi
 simpa [List.getD,hi] using this
def FPRow:=FseqP (FBytesP 64) (FBytesP 256) LRow.mk
def okRow (x:LRow):Prop:=x.key.length<=64/\x.value.length<=256
def FPRows:=FtakeP 64 FPRow
def okRows (l:List LRow):Prop:=l.length<=64/\∀x∈l,okRow x
def FPOut:=FseqP FFlagP (FseqP (FBytesP 256) FPRows Prod.mk) (fun h p=>LOut.mk h p.1 p.2)
def okOut (o:LOut):Prop:=o.value.length<=256/\okRows o.rows
def FPOuts:=FtakeP 16 FPOut
def okOuts (l:List LOut):Prop:=l.length<=16/\∀x∈l,okOut x
theorem reads_row:Reads FPRow FRow okRow:=
 reads_seq (reads_bytes (by decide)) (reads_bytes (by decide)) (fun _ _=>rfl) (fun _ _ h1 h2=>⟨h1,h2⟩) (fun z hz=>⟨z.key,z.value,rfl,hz.1,hz.2⟩)
theorem reads_rows:Reads FPRows FRows okRows:=reads_take reads_row (by decide)
theorem reads_out:Reads FPOut FOut okOut:=
 reads_seq (e2:=fun p:List UInt8×List LRow=>FBytes p.1++FRows p.2) (ok2:=fun p=>p.1.length<=256/\okRows p.2) reads_flag
  (reads_seq (reads_bytes (by decide)) reads_rows (fun _ _=>rfl) (fun _ _ h1 h2=>⟨h1,h2⟩) (fun z hz=>⟨z.1,z.2,rfl,hz.1,hz.2⟩))
  (fun _ _=>rfl) (fun _ _ _ h2=>h2) (fun z hz=>⟨z.has,(z.value,z.rows),rfl,trivial,hz⟩)
theorem reads_outs:Reads FPOuts FOuts okOuts:=reads_take reads_out (by decide)
theorem okRows_of {l:List LRow} (h:PRows l):okRows l:=⟨h.1,mem_getD (d:=⟨[],[]⟩) fun i hi=>⟨(h.2 i hi).1.2,(h.2 i hi).2.1⟩⟩
theorem okOuts_of {l:List LOut} (h1:l.length<=16) (h:∀i,i<l.length->POut (l.getD i ⟨false,[],[]⟩)):okOuts l:=⟨h1,mem_getD (d:=⟨false,[],[]⟩) fun i hi=>⟨(h i hi).1,okRows_of (h i hi).2⟩⟩
def FDec0 (b:List UInt8):Option (LRes×Nat):=
 match FNumP b 0 with
 | none=>none
 | some (n,a)=>if 4096<n then none else if n=0 then (match FPOuts b a with
    | none=>none
    | some (l,c)=>some (⟨0,0,l⟩,c))
   else match FNumP b a with
    | none=>none
    | some (m,c)=>if 4096<m then none else some (⟨n,m,[]⟩,c)
noncomputable def FDec (b:List UInt8):Option LRes:=match FDec0 b with
 | none=>none
 | some (x,a)=> @ite _ (a=b.length/\PMay x) (Classical.propDecidable _) (some x) none
theorem FDec_some {b:List UInt8} {x:LRes}:FDec b=some x↔FDec0 b=some (x,b.length)/\PMay x:=by
 unfold FDec
 cases h:FDec0 b with
 | none=>simp
 | some p=>
   obtain ⟨y,a⟩:=p
   simp only
   split
   · rename_i hc
     obtain ⟨rfl,hm⟩:=hc
     simp only [Option.some.injEq,Prod.mk.injEq]
     refine ⟨fun e=>⟨⟨e,?_⟩,e ▸ hm⟩,fun e=>e.1.1⟩
     first | rfl | trivial
   · rename_i hc
     simp only [Option.some.injEq,Prod.mk.injEq,reduceCtorEq,false_iff]
     rintro ⟨⟨rfl,rfl⟩,hm⟩
     exact hc ⟨rfl,hm⟩
theorem FDec_form {b:List UInt8} {x:LRes} (h:FDec b=some x):FRes x=b:=by
 obtain ⟨h,hm⟩:=FDec_some.1 h
 unfold FDec0 at h
 split at h
 · cases h
 rename_i n a h1
 obtain ⟨k1,k2,k3,k4⟩:=reads_num.sound (Nat.zero_le _) h1
 split at h
 · cases h
 split at h
 · rename_i hn
   subst hn
   split at h
   · cases h
   rename_i l c h2
   simp only [Option.some.injEq,Prod.mk.injEq] at h
   obtain ⟨rfl,rfl⟩:=h
   obtain ⟨m1,m2,m3,m4⟩:=reads_outs.sound k4 h2
   simp only [FRes,if_pos]
   rw [List.drop_zero] at k2
   rw [List.drop_length,List.append_nil] at m2
   rw [k2,m2]
 · rename_i hn
   split at h
   · cases h
   rename_i m c h2
   split at h
   · cases h
   simp only [Option.some.injEq,Prod.mk.injEq] at h
   obtain ⟨rfl,rfl⟩:=h
   obtain ⟨m1,m2,m3,m4⟩:=reads_num.sound k4 h2
   simp only [FRes]
   rw [if_neg (by omega),Int.toNat_natCast,Int.toNat_natCast]
   rw [List.drop_zero] at k2
   rw [List.drop_length,List.append_nil] at m2
   rw [k2,m2]
theorem FDec_back {x:LRes} (h:PMay x):FDec (FRes x)=some x:=by
 refine FDec_some.2 ⟨?_,h⟩
 unfold FDec0
 rcases h with ⟨h0,hp,h1,h2,h3⟩ | ⟨h0,hp,h1,h2⟩
 · have e:FRes x=FNum 0++FOuts x.outs:=by unfold FRes;rw [if_pos h0]
   have d0:(FRes x).drop 0=FNum 0++FOuts x.outs:=by rw [List.drop_zero,e]
   rw [reads_num.comp (Nat.zero_le _) (by decide) d0]
   have d1:(FRes x).drop (0+(FNum 0).length)=FOuts x.outs++[]:=by rw [drop_app d0,List.append_nil]
   simp only
   rw [if_neg (by decide),if_pos trivial,reads_outs.comp (le_app (Nat.zero_le _) d0) (okOuts_of h2 h3) d1]
   simp only [Option.some.injEq,Prod.mk.injEq]
   refine ⟨?_,by rw [e,List.length_append,Nat.zero_add]⟩
   cases x
   simp only at h0 hp
   subst h0 hp
   rfl
 · obtain ⟨ab,pl,outs⟩:=x
   simp only at h0 hp h1 h2
   subst h2
   have e:FRes ⟨ab,pl,[]⟩=FNum ab.toNat++FNum pl.toNat:=by unfold FRes;rw [if_neg (by simp only;omega)]
   have d0:(FRes ⟨ab,pl,[]⟩).drop 0=FNum ab.toNat++FNum pl.toNat:=by rw [List.drop_zero,e]
   rw [reads_num.comp (Nat.zero_le _) (by omega) d0]
   have d1:(FRes ⟨ab,pl,[]⟩).drop (0+(FNum ab.toNat).length)=FNum pl.toNat++[]:=by rw [drop_app d0,List.append_nil]
   simp only
   rw [if_neg (by omega),if_neg (by omega),reads_num.comp (le_app (Nat.zero_le _) d0) (by omega) d1]
   simp only
   rw [if_neg (by omega)]
   simp only [Option.some.injEq,Prod.mk.injEq]
   refine ⟨?_,by rw [e,List.length_append,Nat.zero_add]⟩
   rw [show ((ab.toNat:Nat):Int)=ab by omega,show ((pl.toNat:Nat):Int)=pl by omega]
def FRNum (l:List UInt8) (a:Nat):Option (Nat×Nat):=match FNumP l a with
 | none=>none
 | some (n,b)=>if n<1073741824 then some (n,b) else none
theorem comp_rNum:Comp FRNum FNum (· <1073741824):=⟨fun ha hx h=>by
 unfold FRNum
 rw [reads_num.comp ha (by omega) h]
 simp only [if_pos hx]⟩
def FRRow:=FseqP (FBytesP 4096) (FBytesP 4096) LRow.mk
def FRRows (l:List UInt8) (a:Nat):Option (List LRow×Nat):=match FRNum l a with
 | none=>none
 | some (n,b)=>FmanyP FRRow (min n 65) l b
def FROut:=FseqP FFlagP (FseqP (FBytesP 4096) FRRows Prod.mk) (fun h p=>LOut.mk h p.1 p.2)
def FROuts (l:List UInt8) (a:Nat):Option (List LOut×Nat):=match FRNum l a with
 | none=>none
 | some (n,b)=>FmanyP FROut (min n 17) l b
theorem comp_rRow:Comp FRRow FRow okRow:=
 comp_seq ((reads_bytes (most:=4096) (by decide)).half (ok':=(·.length<=64)) fun x h=>Nat.le_trans h (by decide))
  ((reads_bytes (most:=4096) (by decide)).half (ok':=(·.length<=256)) fun x h=>Nat.le_trans h (by decide)) (fun _ _=>rfl) (fun z hz=>⟨z.key,z.value,rfl,hz.1,hz.2⟩)
theorem comp_rRows:Comp FRRows FRows okRows:=⟨by
 intro l a x r ha hx h
 have hl:=hx.1
 unfold FRows at h
 rw [List.append_assoc] at h
 unfold FRRows
 rw [comp_rNum.comp ha (show x.length<1073741824 by omega) h]
 simp only
 rw [show min x.length 65=x.length by omega,(comp_many comp_rRow _).comp (le_app ha h) ⟨rfl,hx.2⟩ (drop_app h)]
 simp only [FRows,List.length_append,Nat.add_assoc]⟩
theorem comp_rOut:Comp FROut FOut okOut:=
 comp_seq (e2:=fun p:List UInt8×List LRow=>FBytes p.1++FRows p.2) (ok2:=fun p=>p.1.length<=256/\okRows p.2) (reads_flag.half (ok':=fun _=>True) fun x h=>h)
  (comp_seq ((reads_bytes (most:=4096) (by decide)).half (ok':=(·.length<=256)) fun x h=>Nat.le_trans h (by decide)) comp_rRows (fun _ _=>rfl) (fun z hz=>⟨z.1,z.2,rfl,hz.1,hz.2⟩))
  (fun _ _=>rfl) (fun z hz=>⟨z.has,(z.value,z.rows),rfl,trivial,hz⟩)
theorem comp_rOuts:Comp FROuts FOuts okOuts:=⟨by
 intro l a x r ha hx h
 have hl:=hx.1
 unfold FOuts at h
 rw [List.append_assoc] at h
 unfold FROuts
 rw [comp_rNum.comp ha (show x.length<1073741824 by omega) h]
 simp only
 rw [show min x.length 17=x.length by omega,(comp_many comp_rOut _).comp (le_app ha h) ⟨rfl,hx.2⟩ (drop_app h)]
 simp only [FOuts,List.length_append,Nat.add_assoc]⟩
def FDecR0 (b:List UInt8):Option (LRes×Nat):=
 match FRNum b 0 with
 | none=>none
 | some (n,a)=>if n=0 then (match FROuts b a with
    | none=>none
    | some (l,c)=>some (⟨0,0,l⟩,c))
   else match FRNum b a with
    | none=>none
    | some (m,c)=>some (⟨n,m,[]⟩,c)
theorem FDecR0_back {x:LRes} (h:PMay x):FDecR0 (FRes x)=some (x,(FRes x).length):=by
 unfold FDecR0
 rcases h with ⟨h0,hp,h1,h2,h3⟩ | ⟨h0,hp,h1,h2⟩
 · have e:FRes x=FNum 0++FOuts x.outs:=by unfold FRes;rw [if_pos h0]
   have d0:(FRes x).drop 0=FNum 0++FOuts x.outs:=by rw [List.drop_zero,e]
   rw [comp_rNum.comp (Nat.zero_le _) (by decide) d0]
   have d1:(FRes x).drop (0+(FNum 0).length)=FOuts x.outs++[]:=by rw [drop_app d0,List.append_nil]
   simp only
   rw [if_pos trivial,comp_rOuts.comp (le_app (Nat.zero_le _) d0) (okOuts_of h2 h3) d1]
   simp only [Option.some.injEq,Prod.mk.injEq]
   refine ⟨?_,by rw [e,List.length_append,Nat.zero_add]⟩
   cases x
   simp only at h0 hp
   subst h0 hp
   rfl
 · obtain ⟨ab,pl,outs⟩:=x
   simp only at h0 hp h1 h2
   subst h2
   have e:FRes ⟨ab,pl,[]⟩=FNum ab.toNat++FNum pl.toNat:=by unfold FRes;rw [if_neg (by simp only;omega)]
   have d0:(FRes ⟨ab,pl,[]⟩).drop 0=FNum ab.toNat++FNum pl.toNat:=by rw [List.drop_zero,e]
   rw [comp_rNum.comp (Nat.zero_le _) (by omega) d0]
   have d1:(FRes ⟨ab,pl,[]⟩).drop (0+(FNum ab.toNat).length)=FNum pl.toNat++[]:=by rw [drop_app d0,List.append_nil]
   simp only
   rw [if_neg (by omega),comp_rNum.comp (le_app (Nat.zero_le _) d0) (by omega) d1]
   simp only [Option.some.injEq,Prod.mk.injEq]
   refine ⟨?_,by rw [e,List.length_append,Nat.zero_add]⟩
   rw [show ((ab.toNat:Nat):Int)=ab by omega,show ((pl.toNat:Nat):Int)=pl by omega]
noncomputable def FDecR (b:List UInt8):Option LRes:=match FDecR0 b with
 | none=>none
 | some (x,_)=> @ite _ (PMay x/\FRes x=b) (Classical.propDecidable _) (some x) none
theorem FDec_same (b:List UInt8):FDecR b=FDec b:=by
 cases h:FDec b with
 | some x=>
   have hm:=(FDec_some.1 h).2
   have hf:=FDec_form h
   subst hf
   unfold FDecR
   rw [FDecR0_back hm]
   simp only
   rw [if_pos ⟨hm,rfl⟩]
 | none=>
   unfold FDecR
   cases h0:FDecR0 b with
   | none=>rfl
   | some p=>
     obtain ⟨x,c⟩:=p
     simp only
     split
     · rename_i hc
       obtain ⟨hm,rfl⟩:=hc
       rw [FDec_back hm] at h
       cases h
     · rfl
end Go.Proofs
