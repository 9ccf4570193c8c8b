import Derived.Test.YtoajkmdddjnebaaGreatDoorSymB
set_option linter.unusedSimpArgs false
set_option linter.unusedVariables false
namespace Go.Eng
section
variable {C:Cx} {σ:SS} {s:St} {g:Gh} {A:Nat->Prop}
def Gh.set (g:Gh) (l:Nat) (e:Option Nat):Gh:=⟨fun x=>if x=l then e else g.ι x,g.H,g.F⟩
theorem Gh.set_same (g:Gh) (l:Nat) (e:Option Nat):(g.set l e).ι l=e:=by simp [Gh.set]
theorem Gh.set_other (g:Gh) {l x:Nat} (e:Option Nat) (h:x≠l):(g.set l e).ι x=g.ι x:=by simp [Gh.set,h]
theorem Sim.new (hs:Sim C σ s g A) {b:SB} {blk:Blk} (hb:RB s.heap g σ.next b blk) (hp:∀q,parB blk=some q->¬A q/\q<s.next/\∀l o,σ.own.get l=some o->g.ι l≠some q):
 Sim C (σ.new b) (s.new blk) (g.set σ.next (some s.next)) A/\Xt σ s g A (σ.new b) (s.new blk) (g.set σ.next (some s.next)) A:=by
 have hι:∀l,l<σ.next->(g.set σ.next (some s.next)).ι l=g.ι l:=fun l hl=>Gh.set_other _ _ (by omega)
 have hg:∀id,id≠s.next->(s.new blk).heap.get id=s.heap.get id:=fun id hid=>by simp only [St.new,T.get_set,if_neg hid]
 have hgrow:Grow s.heap g σ.next (s.new blk).heap (g.set σ.next (some s.next)) (σ.new b).next:=
  ⟨Nat.le_succ _,hι,fun _ h=>h,fun _ h=>h,fun id hid=>hg id (by have:=hs.lt id (hs.HA id hid);omega),fun id hid=>hg id (by have:=hs.lt id (hs.HA id (hs.FH id hid));omega)⟩
 have hold:∀l o,(σ.new b).own.get l=some o->l≠σ.next->σ.own.get l=some o:=fun l o h hne=>by
  simp only [SS.new,T.get_set,if_neg hne] at h;exact h
 refine ⟨⟨?_, ?_,hs.HA,hs.FH,fun id h=>Nat.lt_succ_of_lt (hs.lt id h),hs.nd.next (fun _ h=>h) fun id h=>hg id (by have:=hs.lt id h;omega)⟩,⟨hgrow,fun _ h=>h,Nat.le_succ _,fun _ h=> .inl h,fun _ h=> .inl h, ?_, ?_, ?_, ?_⟩⟩
 · intro l o h
   by_cases e:l=σ.next
   · subst e
     simp only [SS.new,T.get_set,if_true,Option.some.injEq] at h
     subst h
     refine ⟨Nat.lt_succ_self _,Nat.lt_succ_self _,fun eid he=> ?_,fun he=> ?_⟩
     · rw [Gh.set_same] at he;cases he
       refine ⟨blk,by simp only [St.new,T.get_set,if_true],hb.mono hgrow,fun ha=>Nat.lt_irrefl _ (hs.lt _ ha),Nat.lt_succ_self _,fun q hq=> ?_⟩
       obtain ⟨h1,h2,h3⟩:=hp q hq
       refine ⟨h1,Nat.lt_succ_of_lt h2,fun l' o' hl'=> ?_⟩
       by_cases e':l'=σ.next
       · subst e';rw [Gh.set_same];intro e2;cases e2;exact Nat.lt_irrefl _ h2
       · rw [Gh.set_other _ _ e'];exact h3 l' o' (hold l' o' hl' e')
     · rw [Gh.set_same] at he;cases he
   · have ho:=hold l o h e
     obtain ⟨h1,h2,h3,h4⟩:=hs.own l o ho
     rw [Gh.set_other _ _ e]
     refine ⟨Nat.lt_succ_of_lt h1,Nat.lt_succ_of_lt h2,fun eid he=> ?_,h4⟩
     obtain ⟨blk',g1,g2,g3,g4,g5⟩:=h3 eid he
     refine ⟨blk',(hg eid (by omega)).trans g1,g2.mono hgrow,g3,Nat.lt_succ_of_lt g4,fun q hq=> ?_⟩
     obtain ⟨k1,k2,k3⟩:=g5 q hq
     refine ⟨k1,Nat.lt_succ_of_lt k2,fun l' o' hl'=> ?_⟩
     by_cases e':l'=σ.next
     · subst e';rw [Gh.set_same];intro e2;cases e2;exact Nat.lt_irrefl _ k2
     · rw [Gh.set_other _ _ e'];exact k3 l' o' (hold l' o' hl' e')
 · intro l l' o o' eid h1 h2 h3 h4
   by_cases e:l=σ.next<;>by_cases e':l'=σ.next
   · omega
   · exfalso
     subst e;rw [Gh.set_same] at h3;cases h3
     rw [Gh.set_other _ _ e'] at h4
     obtain ⟨_,_,_,_,g4,_⟩:=(hs.own l' o' (hold l' o' h2 e')).2.2.1 _ h4
     omega
   · exfalso
     subst e';rw [Gh.set_same] at h4;cases h4
     rw [Gh.set_other _ _ e] at h3
     obtain ⟨_,_,_,_,g4,_⟩:=(hs.own l o (hold l o h1 e)).2.2.1 _ h3
     omega
   · rw [Gh.set_other _ _ e] at h3;rw [Gh.set_other _ _ e'] at h4
     exact hs.inj l l' o o' eid (hold l o h1 e) (hold l' o' h2 e') h3 h4
 · intro l o eid h1 h2
   by_cases e:l=σ.next
   · subst e;rw [Gh.set_same] at h2;cases h2;exact .inl (Nat.le_refl _)
   · rw [Gh.set_other _ _ e] at h2;exact .inr ⟨l,o,hold l o h1 e,h2⟩
 · intro id h;exact hg id (by have:=hs.lt id h;omega)
 · intro l o eid h1 h2 h3
   obtain ⟨_,_,_,_,g4,_⟩:=(hs.own l o h1).2.2.1 eid h3
   exact hg eid (by omega)
 · intro l o h1 h2
   by_cases e:l=σ.next
   · subst e
     simp only [SS.new,T.get_set,if_true,Option.some.injEq] at h1
     subst h1
     exact absurd h2 (Nat.lt_irrefl _)
   · exact hold l o h1 e
theorem Sim.ghost (hs:Sim C σ s g A) {b:SB} (hb:emptyB b):
 Sim C (σ.new b) s (g.set σ.next none) A/\Xt σ s g A (σ.new b) s (g.set σ.next none) A:=by
 have hι:∀l,l<σ.next->(g.set σ.next none).ι l=g.ι l:=fun l hl=>Gh.set_other _ _ (by omega)
 have hgrow:Grow s.heap g σ.next s.heap (g.set σ.next none) (σ.new b).next:=⟨Nat.le_succ _,hι,fun _ h=>h,fun _ h=>h,fun id hid=>rfl,fun id hid=>rfl⟩
 have hold:∀l o,(σ.new b).own.get l=some o->l≠σ.next->σ.own.get l=some o:=fun l o h hne=>by
  simp only [SS.new,T.get_set,if_neg hne] at h;exact h
 refine ⟨⟨?_, ?_,hs.HA,hs.FH,hs.lt,hs.nd⟩,⟨hgrow,fun _ h=>h,Nat.le_refl _,fun _ h=> .inl h,fun _ h=> .inl h,(fun l o eid h1 h2=>by
  by_cases e:l=σ.next
  · subst e;rw [Gh.set_same] at h2;cases h2
  · rw [Gh.set_other _ _ e] at h2;exact .inr ⟨l,o,hold l o h1 e,h2⟩),fun _ _=>rfl,fun _ _ _ _ _ _=>rfl, ?_⟩⟩
 · intro l o h
   by_cases e:l=σ.next
   · subst e
     simp only [SS.new,T.get_set,if_true,Option.some.injEq] at h
     subst h
     exact ⟨Nat.lt_succ_self _,Nat.lt_succ_self _,fun eid he=>(by rw [Gh.set_same] at he;cases he),fun _=>hb⟩
   · have ho:=hold l o h e
     obtain ⟨h1,h2,h3,h4⟩:=hs.own l o ho
     rw [Gh.set_other _ _ e]
     refine ⟨Nat.lt_succ_of_lt h1,Nat.lt_succ_of_lt h2,fun eid he=> ?_,h4⟩
     obtain ⟨blk',g1,g2,g3,g4,g5⟩:=h3 eid he
     refine ⟨blk',g1,g2.mono hgrow,g3,g4,fun q hq=> ?_⟩
     obtain ⟨k1,k2,k3⟩:=g5 q hq
     refine ⟨k1,k2,fun l' o' hl'=> ?_⟩
     by_cases e':l'=σ.next
     · subst e';rw [Gh.set_same];intro e2;cases e2
     · rw [Gh.set_other _ _ e'];exact k3 l' o' (hold l' o' hl' e')
 · intro l l' o o' eid h1 h2 h3 h4
   by_cases e:l=σ.next
   · subst e;rw [Gh.set_same] at h3;cases h3
   by_cases e':l'=σ.next
   · subst e';rw [Gh.set_same] at h4;cases h4
   rw [Gh.set_other _ _ e] at h3;rw [Gh.set_other _ _ e'] at h4
   exact hs.inj l l' o o' eid (hold l o h1 e) (hold l' o' h2 e') h3 h4
 · intro l o h1 h2
   by_cases e:l=σ.next
   · subst e
     simp only [SS.new,T.get_set,if_true,Option.some.injEq] at h1
     subst h1
     exact absurd h2 (Nat.lt_irrefl _)
   · exact hold l o h1 e
theorem Sim.drop (hs:Sim C σ s g A) (id:Nat):Sim C (σ.drop id) s g A/\Xt σ s g A (σ.drop id) s g A:=by
 have hold:∀l o,(σ.drop id).own.get l=some o->l≠id/\σ.own.get l=some o:=fun l o h=>by
  simp only [SS.drop,T.get_del] at h
  split at h
  · cases h
  · exact ⟨by assumption,h⟩
 refine ⟨⟨?_, ?_,hs.HA,hs.FH,hs.lt,hs.nd⟩,⟨.refl _ _ _,fun _ h=>h,Nat.le_refl _,fun _ h=> .inl h,fun _ h=> .inl h,fun l o _ h1 h2=> .inr ⟨l,o,(hold l o h1).2,h2⟩,fun _ _=>rfl,fun _ _ _ _ _ _=>rfl,fun l o h _=>(hold l o h).2⟩⟩
 · intro l o h
   obtain ⟨h1,h2,h3,h4⟩:=hs.own l o (hold l o h).2
   refine ⟨h1,h2,fun eid he=> ?_,h4⟩
   obtain ⟨blk',g1,g2,g3,g4,g5⟩:=h3 eid he
   exact ⟨blk',g1,g2,g3,g4,fun q hq=>⟨(g5 q hq).1,(g5 q hq).2.1,fun l' o' hl'=>(g5 q hq).2.2 l' o' (hold l' o' hl').2⟩⟩
 · intro l l' o o' eid h1 h2 h3 h4
   exact hs.inj l l' o o' eid (hold l o h1).2 (hold l' o' h2).2 h3 h4
theorem Sim.upd (hs:Sim C σ s g A) {l eid:Nat} {o:SO} {blk blk':Blk} {b':SB} {s':St} (ho:σ.own.get l=some o) (hi:g.ι l=some eid) (hk:s.heap.get eid=some blk)
 (hn:s'.next=s.next) (h1:s'.heap.get eid=some blk') (h2:∀id,id≠eid->parB blk≠some id->s'.heap.get id=s.heap.get id) (hb:RB s.heap g σ.next b' blk')
 (hp:∀q,parB blk'=some q->parB blk=some q):
 Sim C (σ.upd l b') s' g A/\Xt σ s g A (σ.upd l b') s' g A:=by
 obtain ⟨c1,c2,c3,_⟩:=hs.own l o ho
 obtain ⟨blk0,d1,d2,d3,d4,d5⟩:=c3 eid hi
 rw [hk] at d1;cases d1
 have hA:∀id,A id->s'.heap.get id=s.heap.get id:=fun id ha=>h2 id (fun e=>d3 (e ▸ ha)) (fun e=>(d5 id e).1 ha)
 have hgrow:Grow s.heap g σ.next s'.heap g (σ.upd l b').next:=⟨Nat.le_succ _,fun _ _=>rfl,fun _ h=>h,fun _ h=>h,fun id hid=>hA id (hs.HA id hid),fun id hid=>hA id (hs.HA id (hs.FH id hid))⟩
 have hold:∀x o,(σ.upd l b').own.get x=some o->x≠l->σ.own.get x=some o:=fun x o h hne=>by
  simp only [SS.upd,T.get_set,if_neg hne] at h;exact h
 have hown:∀x o,(σ.upd l b').own.get x=some o->∃o',σ.own.get x=some o':=fun x o h=>by
  by_cases e:x=l
  · subst e;exact ⟨_,ho⟩
  · exact ⟨o,hold x o h e⟩
 refine ⟨⟨?_, ?_,hs.HA,hs.FH,(fun id h=>by rw [hn];exact hs.lt id h),hs.nd.next (fun _ h=>h) hA⟩,⟨hgrow,fun _ h=>h,Nat.le_of_eq hn.symm,fun _ h=> .inl h,fun _ h=> .inl h,(fun x o id h1 h2=>by obtain ⟨o',h3⟩:=hown x o h1;exact .inr ⟨x,o',h3,h2⟩),hA, ?_, ?_⟩⟩
 · intro x o' h
   by_cases e:x=l
   · subst e
     simp only [SS.upd,T.get_set,if_true,Option.some.injEq] at h
     subst h
     refine ⟨Nat.lt_succ_of_lt c1,Nat.lt_succ_self _,fun eid' he=> ?_,fun he=> ?_⟩
     · rw [hi] at he;cases he
       refine ⟨blk',h1,hb.mono hgrow,d3,by rw [hn];exact d4,fun q hq=> ?_⟩
       obtain ⟨k1,k2,k3⟩:=d5 q (hp q hq)
       refine ⟨k1,by rw [hn];exact k2,fun l' o'' hl'=> ?_⟩
       obtain ⟨o3,h3⟩:=hown l' o'' hl'
       exact k3 l' o3 h3
     · rw [hi] at he;cases he
   · have hx:=hold x o' h e
     obtain ⟨e1,e2,e3,e4⟩:=hs.own x o' hx
     refine ⟨Nat.lt_succ_of_lt e1,Nat.lt_succ_of_lt e2,fun eid' he=> ?_,e4⟩
     obtain ⟨blk2,g1,g2,g3,g4,g5⟩:=e3 eid' he
     have hne:eid'≠eid:=fun e'=>e (hs.inj x l o' o eid hx ho (e' ▸ he) hi)
     have hnp:parB blk≠some eid':=fun e'=>(d5 eid' e').2.2 x o' hx he
     refine ⟨blk2,(h2 eid' hne hnp).trans g1,g2.mono hgrow,g3,by rw [hn];exact g4,fun q hq=> ?_⟩
     obtain ⟨k1,k2,k3⟩:=g5 q hq
     refine ⟨k1,by rw [hn];exact k2,fun l' o'' hl'=> ?_⟩
     obtain ⟨o3,h3⟩:=hown l' o'' hl'
     exact k3 l' o3 h3
 · intro x x' o1 o2 e' h3 h4 h5 h6
   obtain ⟨o3,h7⟩:=hown x o1 h3
   obtain ⟨o4,h8⟩:=hown x' o2 h4
   exact hs.inj x x' o3 o4 e' h7 h8 h5 h6
 · intro x o' e' h3 h4 h5
   by_cases e:x=l
   · subst e
     simp only [SS.upd,T.get_set,if_true,Option.some.injEq] at h4
     rw [ho] at h3;cases h3
     have:o.stamp=σ.next:=by rw [<-h4]
     omega
   · have hne:e'≠eid:=fun e2=>e (hs.inj x l o' o eid h3 ho (e2 ▸ h5) hi)
     exact h2 e' hne (fun e2=>(d5 e' e2).2.2 x o' h3 h5)
 · intro x o' h3 h4
   by_cases e:x=l
   · subst e
     simp only [SS.upd,T.get_set,if_true,Option.some.injEq] at h3
     subst h3
     exact absurd h4 (Nat.lt_irrefl _)
   · exact hold x o' h3 e
theorem writeBlk_some {id off:Nat} {us cs cs':List Value} {e:TypeId} {par:Option Nat} (h1:s.heap.get id=some (.cells cs e 0 par)) (hw:writeN cs off us=some cs') (ho:oneCells us=true) (hp:par≠some id):
 ∃s',writeBlk s id off us=some s'/\s'.next=s.next/\(∃par',s'.heap.get id=some (.cells cs' e 0 par')/\∀q,par'=some q->par=some q)/\∀x,x≠id->par≠some x->s'.heap.get x=s.heap.get x:=by
 cases us with
 | nil=>
   refine ⟨s,rfl,rfl,⟨par, ?_,fun _ h=>h⟩,fun _ _ _=>rfl⟩
   rw [writeN_some] at hw
   have:cs'=cs:=by rw [hw.2];simp
   rw [this];exact h1
 | cons u us=>
   have hpi:parIs par id=false:=by
    cases par with
    | none=>rfl
    | some q=>
      simp only [parIs]
      cases hb:Nat.beq q id with
      | false=>rfl
      | true=>exact absurd (by rw [Nat.eq_of_beq_eq_true hb]) hp
   refine ⟨{heap:=(killPar s par).heap.set id (.cells cs' e 0 none),next:=(killPar s par).next}, ?_, ?_,⟨none, ?_,fun _ h=>by cases h⟩, ?_⟩
   · simp only [writeBlk,h1,hw,ho,hpi,Bool.not_false,Bool.and_self,cond_true]
   · cases par<;>rfl
   · simp only [T.get_set,if_true]
   · intro x hx hpx
     simp only [T.get_set,if_neg hx]
     cases par with
     | none=>rfl
     | some q=>
       simp only [killPar,T.get_del]
       rw [if_neg]
       intro e;subst e;exact hpx rfl
theorem arr_write {h:T Blk} {N n sz i j:Nat} {f:Nat->List SV} {cs us:List Value} {ss l:List SV} (h1:cs.length=n*sz) (h3:∀i,i<n->(f i).length=sz)
 (h4:∀(i j:Nat) (a:SV) (v:Value),i<n->(f i)[j]? =some a->cs[i*sz+j]? =some v->RV h g N a v) (hi:i<n) (hu:RL h g N ss us) (hw:writeN (f i) j ss=some l):
 ∃cs',writeN cs (i*sz+j) us=some cs'/\cs'.length=n*sz/\(∀x,x<n->((fun x=>bif Nat.beq x i then l else f x) x).length=sz)/\
  ∀(x y:Nat) (a:SV) (v:Value),x<n->((fun x=>bif Nat.beq x i then l else f x) x)[y]? =some a->cs'[x*sz+y]? =some v->RV h g N a v:=by
 rw [writeN_some] at hw
 obtain ⟨hl,rfl⟩:=hw
 have hf:=h3 i hi
 rw [hf] at hl
 have hb:(i+1)*sz<=n*sz:=Nat.mul_le_mul_right _ hi
 rw [Nat.add_mul,Nat.one_mul] at hb
 have hus:=hu.1
 refine ⟨cs.take (i*sz+j)++us++cs.drop (i*sz+j+us.length),(writeN_some _ _ _ _).2 ⟨by rw [h1];omega,rfl⟩, ?_, ?_, ?_⟩
 · simp only [List.length_append,List.length_take,List.length_drop,h1];omega
 · intro x hx
   cases hq:Nat.beq x i with
   | false=>simp only [hq,cond_false];exact h3 x hx
   | true=>simp only [hq,cond_true,List.length_append,List.length_take,List.length_drop,hf];omega
 · intro x y a v hx ha hv
   have hlen1:(cs.take (i*sz+j)).length=i*sz+j:=by simp only [List.length_take,h1];omega
   have get1:∀k,(cs.take (i*sz+j)++us++cs.drop (i*sz+j+us.length))[k]? =if k<i*sz+j then cs[k]? else if k<i*sz+j+us.length then us[k- (i*sz+j)]? else cs[k]? :=by
    intro k
    rw [List.append_assoc,List.getElem?_append,hlen1]
    split
    · rw [List.getElem?_take,if_pos (by assumption)]
    · rw [List.getElem?_append]
      by_cases hk:k<i*sz+j+us.length
      · rw [if_pos (by omega),if_pos hk]
      · rw [if_neg (by omega),if_neg hk,List.getElem?_drop];congr 1;omega
   rw [get1] at hv
   cases hq:Nat.beq x i with
   | false=>
     simp only [hq,cond_false] at ha
     have hne:x≠i:=fun e=>by subst e;rw [Nat.beq_refl] at hq;cases hq
     have hy:y<sz:=by have:=(List.getElem?_eq_some_iff.1 ha).1;rw [h3 x hx] at this;exact this
     have:¬(i*sz+j<=x*sz+y/\x*sz+y<i*sz+j+us.length):=by
      rintro ⟨p,q⟩
      rcases Nat.lt_or_gt_of_ne hne with h | h
      · have:=Nat.mul_le_mul_right sz h;rw [Nat.succ_mul] at this;omega
      · have:=Nat.mul_le_mul_right sz h;rw [Nat.succ_mul] at this;omega
     have hv':cs[x*sz+y]? =some v:=by
      split at hv
      · exact hv
      · rw [if_neg (by omega)] at hv;exact hv
     exact h4 x y a v hx ha hv'
   | true=>
     have:=Nat.eq_of_beq_eq_true hq;subst this
     simp only [hq,cond_true] at ha
     have hl2:((f x).take j).length=j:=by simp only [List.length_take,hf];omega
     rw [List.append_assoc,List.getElem?_append,hl2] at ha
     split at ha
     · rename_i hyj
       rw [List.getElem?_take,if_pos hyj] at ha
       rw [if_pos (by omega)] at hv
       exact h4 x y a v hx ha hv
     · rename_i hyj
       rw [List.getElem?_append] at ha
       split at ha
       · rename_i hys
         rw [if_neg (by omega),if_pos (by omega)] at hv
         refine hu.2 (y-j) a v ha ?_
         rw [<-hv];congr 1;omega
       · rename_i hys
         rw [List.getElem?_drop] at ha
         rw [if_neg (by omega),if_neg (by omega)] at hv
         refine h4 x y a v hx ?_ hv
         rw [<-ha];congr 1;omega
theorem store_rel (hs:Sim C σ s g A) {p:SV} {v:Value} {cs:List SV} {us:List Value} {ps:List Prop} {σ':SS} (hp:RV s.heap g σ.next p v) (hu:RL s.heap g σ.next cs us) (ho:oneL cs=true)
 (hw:writeS σ p cs=some (ps,σ')) (hps:PS ps):
 ∃id off s',v= .pointer (some ⟨id,off,none⟩)/\writeBlk s id off us=some s'/\Sim C σ' s' g A/\Xt σ s g A σ' s' g A:=by
 have hone:oneCells us=true:=oneCells_iff.2 (oneL_rel hu ho)
 unfold writeS at hw
 split at hw
 · rename_i id sz i j
   cases hp with
   | ptr _ _ _ _ eid h1 h2=>
     split at hw
     · rename_i st vs t hown
       split at hw
       · rename_i vs' hwr
         simp only [Option.some.injEq,Prod.mk.injEq] at hw
         obtain ⟨rfl,rfl⟩:=hw
         obtain ⟨b,h3,h4,h5,h6,h7⟩:=(hs.own _ _ hown).2.2.1 _ h2
         cases h4 with
         | cells _ cs0 _ par h8 h9=>
           obtain ⟨ws',h10,h11⟩:=write_rel h8 hu hwr
           obtain ⟨s',g1,g2,⟨par',g3,g3'⟩,g4⟩:=writeBlk_some (s:=s) h3 h10 hone (fun e=>(h7 eid e).2.2 id _ hown h2)
           refine ⟨eid,_,s',rfl,g1,Sim.upd hs hown h2 h3 g2 g3 g4 (.cells _ _ _ _ h11 fun v hv=> ?_) g3'⟩
           rw [writeN_some] at h10
           rw [h10.2] at hv
           rcases List.mem_append.1 hv with hv | hv
           · rcases List.mem_append.1 hv with hv | hv
             · exact h9 v (List.mem_of_mem_take hv)
             · exact oneCells_iff.1 hone v hv
           · exact h9 v (List.mem_of_mem_drop hv)
       · cases hw
     · rename_i st m sz' f t hown
       cases hb:(Nat.beq sz sz'&&noOwnL cs) with
       | false=>rw [hb] at hw;cases hw
       | true=>
         rw [hb] at hw
         simp only [cond_true] at hw
         simp only [Bool.and_eq_true] at hb
         have:=Nat.eq_of_beq_eq_true hb.1;subst this
         split at hw
         · rename_i l hwr
           simp only [Option.some.injEq,Prod.mk.injEq] at hw
           obtain ⟨rfl,rfl⟩:=hw
           obtain ⟨b,h3,h4,h5,h6,h7⟩:=(hs.own _ _ hown).2.2.1 _ h2
           cases h4 with
           | arr _ _ _ _ cs0 par k1 k2 k3 k4=>
             obtain ⟨cs',h10,h11,h12,h13⟩:=arr_write k1 k3 k4 hps.cons.1 (hu.free hb.2) hwr
             obtain ⟨s',g1,g2,⟨par',g3,g3'⟩,g4⟩:=writeBlk_some (s:=s) h3 h10 hone (fun e=>(h7 eid e).2.2 id _ hown h2)
             refine ⟨eid,_,s',rfl,g1,Sim.upd hs hown h2 h3 g2 g3 g4 (.arr _ _ _ _ _ _ h11 (fun v hv=> ?_) h12 h13) g3'⟩
             rw [writeN_some] at h10
             rw [h10.2] at hv
             rcases List.mem_append.1 hv with hv | hv
             · rcases List.mem_append.1 hv with hv | hv
               · exact k2 v (List.mem_of_mem_take hv)
               · exact oneCells_iff.1 hone v hv
             · exact k2 v (List.mem_of_mem_drop hv)
         · cases hw
     · rename_i st l t hown
       cases hb:(Nat.beq sz 1&&Nat.beq j 0) with
       | false=>rw [hb] at hw;cases hw
       | true=>
         rw [hb] at hw
         simp only [cond_true] at hw
         simp only [Bool.and_eq_true] at hb
         have e1:=Nat.eq_of_beq_eq_true hb.1
         have e2:=Nat.eq_of_beq_eq_true hb.2
         subst e1 e2
         split at hw
         · rename_i n
           simp only [Option.some.injEq,Prod.mk.injEq] at hw
           obtain ⟨rfl,rfl⟩:=hw
           obtain ⟨u,r,rfl,hu1,hu2⟩:=hu.cons_inv
           have:=hu2.nil_inv;subst this
           cases hu1
           obtain ⟨b,h3,h4,h5,h6,h7⟩:=(hs.own _ _ hown).2.2.1 _ h2
           obtain ⟨q1,q2⟩:=hps.cons
           obtain ⟨q3,q4⟩:=q2.cons.1
           cases h4 with
           | bytes _ _ par=>
             have hwr:writeN (l.map byteV) (i*1+0) [Value.int .u8 n]=some ((l.set i (UInt8.ofNat n.toNat)).map byteV):=by
              rw [writeN_some]
              refine ⟨by simp;omega, ?_⟩
              have hn:Value.int .u8 n=byteV (UInt8.ofNat n.toNat):=by
               obtain ⟨m,rfl⟩:=Int.eq_ofNat_of_zero_le q3
               have:m<256:=by omega
               simp only [byteV,Int.toNat_natCast,UInt8.toNat_ofNat']
               congr 1;omega
              rw [hn,Nat.mul_one,Nat.add_zero,List.set_eq_take_append_cons_drop,if_pos q1]
              simp [List.map_take,List.map_drop]
             obtain ⟨s',g1,g2,⟨par',g3,g3'⟩,g4⟩:=writeBlk_some (s:=s) h3 hwr (by rfl) (fun e=>(h7 eid e).2.2 id _ hown h2)
             exact ⟨eid,_,s',rfl,g1,Sim.upd hs hown h2 h3 g2 g3 g4 (.bytes _ _ _) g3'⟩
         · cases hw
     · cases hw
 · cases hw
end
end Go.Eng
namespace Go.Eng
section
variable {C:Cx} {σ:SS} {s:St} {g:Gh} {A:Nat->Prop}
inductive OpR (C:Cx) (K:SK) (σ:SS) (s:St) (g:Gh) (A:Nat->Prop):R ANext->Prop where
 | val {A':Nat->Prop} (v:Value) (s':St) (a:SV) (σ':SS) (g':Gh):K.val a σ'->RV s'.heap g' σ'.next a v->Sim C σ' s' g' A'->Xt σ s g A σ' s' g' A'->OpR C K σ s g A (.ok (.value v) s')
 | enter (f:FuncId) (l:List SV) (args:List Value):K.enter f l σ->RL s.heap g σ.next l args->OpR C K σ s g A (callFuncA C f args s)
 | pan (v:Value) (a:SV):K.pan a σ->RV s.heap g σ.next a v->OpR C K σ s g A (.panic v s)
 | dfr (d:SDef) (d':Deferred):K.dfr d->RD s.heap g σ.next d d'->OpR C K σ s g A (.ok (.defer d') s)
 | recover:K.recover->OpR C K σ s g A (.ok .recover s)
theorem Sim.junk (hs:Sim C σ s g A) {s':St} (hn:s'.next=s.next) (h:∀id,(A id\/∃l o,σ.own.get l=some o/\g.ι l=some id)->s'.heap.get id=s.heap.get id):
 Sim C σ s' g A/\Xt σ s g A σ s' g A:=by
 have hgrow:Grow s.heap g σ.next s'.heap g σ.next:=⟨Nat.le_refl _,fun _ _=>rfl,fun _ h=>h,fun _ h=>h,fun id hid=>h id (.inl (hs.HA id hid)),fun id hid=>h id (.inl (hs.HA id (hs.FH id hid)))⟩
 refine ⟨⟨?_,hs.inj,hs.HA,hs.FH,(fun id ha=>by rw [hn];exact hs.lt id ha),hs.nd.next (fun _ h=>h) fun id ha=>h id (.inl ha)⟩,⟨hgrow,fun _ h=>h,Nat.le_of_eq hn.symm,fun _ h=> .inl h,fun _ h=> .inl h,fun l o _ h1 h2=> .inr ⟨l,o,h1,h2⟩,fun id ha=>h id (.inl ha),fun l o eid h1 _ h3=>h eid (.inr ⟨l,o,h1,h3⟩),fun _ _ h _=>h⟩⟩
 intro l o ho
 obtain ⟨h1,h2,h3,h4⟩:=hs.own l o ho
 refine ⟨h1,h2,fun eid he=> ?_,h4⟩
 obtain ⟨blk',g1,g2,g3,g4,g5⟩:=h3 eid he
 exact ⟨blk',(h eid (.inr ⟨l,o,ho,he⟩)).trans g1,g2.mono hgrow,g3,by rw [hn];exact g4,fun q hq=>⟨(g5 q hq).1,by rw [hn];exact (g5 q hq).2.1,(g5 q hq).2.2⟩⟩
theorem Sim.rename (hs:Sim C σ s g A) {id eid:Nat} {o:SO} {blk:Blk} {b:SB} (ho:σ.own.get id=some o) (hi:g.ι id=some eid) (hk:s.heap.get eid=some blk) (hb:RB s.heap g σ.next b blk):
 Sim C ((σ.drop id).new b) s (g.set σ.next (some eid)) A/\Xt σ s g A ((σ.drop id).new b) s (g.set σ.next (some eid)) A:=by
 obtain ⟨c1,c2,c3,_⟩:=hs.own id o ho
 obtain ⟨blk0,d1,d2,d3,d4,d5⟩:=c3 eid hi
 rw [hk] at d1;cases d1
 have hι:∀l,l<σ.next->(g.set σ.next (some eid)).ι l=g.ι l:=fun l hl=>Gh.set_other _ _ (by omega)
 have hgrow:Grow s.heap g σ.next s.heap (g.set σ.next (some eid)) ((σ.drop id).new b).next:=⟨Nat.le_succ _,hι,fun _ h=>h,fun _ h=>h,fun id hid=>rfl,fun id hid=>rfl⟩
 have hold:∀l o,((σ.drop id).new b).own.get l=some o->l≠σ.next->l≠id/\σ.own.get l=some o:=fun l o h hne=>by
  simp only [SS.new,SS.drop,T.get_set,T.get_del] at h
  rw [if_neg hne] at h
  split at h
  · cases h
  · exact ⟨by assumption,h⟩
 refine ⟨⟨?_, ?_,hs.HA,hs.FH,hs.lt,hs.nd⟩,⟨hgrow,fun _ h=>h,Nat.le_refl _,fun _ h=> .inl h,fun _ h=> .inl h,(fun l o e1 h1 h2=>by
  by_cases e:l=σ.next
  · subst e;rw [Gh.set_same] at h2;cases h2;exact .inr ⟨id,_,ho,hi⟩
  · rw [Gh.set_other _ _ e] at h2;exact .inr ⟨l,o,(hold l o h1 e).2,h2⟩),fun _ _=>rfl,fun _ _ _ _ _ _=>rfl, ?_⟩⟩
 · intro l o' h
   by_cases e:l=σ.next
   · subst e
     simp only [SS.new,SS.drop,T.get_set,if_true,Option.some.injEq] at h
     subst h
     refine ⟨Nat.lt_succ_self _,Nat.lt_succ_self _,fun eid' he=> ?_,fun he=> ?_⟩
     · rw [Gh.set_same] at he;cases he
       refine ⟨blk,hk,hb.mono hgrow,d3,d4,fun q hq=> ?_⟩
       obtain ⟨k1,k2,k3⟩:=d5 q hq
       refine ⟨k1,k2,fun l' o' hl'=> ?_⟩
       by_cases e':l'=σ.next
       · subst e';rw [Gh.set_same];intro e2;cases e2;exact k3 id o ho hi
       · rw [Gh.set_other _ _ e'];exact k3 l' o' (hold l' o' hl' e').2
     · rw [Gh.set_same] at he;cases he
   · have hx:=hold l o' h e
     obtain ⟨h1,h2,h3,h4⟩:=hs.own l o' hx.2
     rw [Gh.set_other _ _ e]
     refine ⟨Nat.lt_succ_of_lt h1,Nat.lt_succ_of_lt h2,fun eid' he=> ?_,h4⟩
     obtain ⟨blk',g1,g2,g3,g4,g5⟩:=h3 eid' he
     refine ⟨blk',g1,g2.mono hgrow,g3,g4,fun q hq=> ?_⟩
     obtain ⟨k1,k2,k3⟩:=g5 q hq
     refine ⟨k1,k2,fun l' o'' hl'=> ?_⟩
     by_cases e':l'=σ.next
     · subst e';rw [Gh.set_same];intro e2;cases e2;exact k3 id o ho hi
     · rw [Gh.set_other _ _ e'];exact k3 l' o'' (hold l' o'' hl' e').2
 · intro l l' o1 o2 e1 h1 h2 h3 h4
   by_cases e:l=σ.next<;>by_cases e':l'=σ.next
   · omega
   · exfalso
     subst e;rw [Gh.set_same] at h3;cases h3
     rw [Gh.set_other _ _ e'] at h4
     have:=hold l' o2 h2 e'
     exact this.1 (hs.inj l' id o2 o eid this.2 ho h4 hi)
   · exfalso
     subst e';rw [Gh.set_same] at h4;cases h4
     rw [Gh.set_other _ _ e] at h3
     have:=hold l o1 h1 e
     exact this.1 (hs.inj l id o1 o eid this.2 ho h3 hi)
   · rw [Gh.set_other _ _ e] at h3;rw [Gh.set_other _ _ e'] at h4
     exact hs.inj l l' o1 o2 e1 (hold l o1 h1 e).2 (hold l' o2 h2 e').2 h3 h4
 · intro l o' h1 h2
   by_cases e:l=σ.next
   · subst e
     simp only [SS.new,SS.drop,T.get_set,if_true,Option.some.injEq] at h1
     subst h1
     exact absurd h2 (Nat.lt_irrefl _)
   · exact (hold l o' h1 e).2
theorem grow_rel (hs:Sim C σ s g A) {id eid off len need size:Nat} {o:SO} {vs old new:List Value} {elem:TypeId} {par:Option Nat} {b:SB}
 (ho:σ.own.get id=some o) (hi:g.ι id=some eid) (hk:s.heap.get eid=some (.cells vs elem 0 par)) (hold:takeN (len*size) (dropN off vs)=some old)
 (h1:off%size=0) (h2:off+len*size=vs.length) (hone:oneCells new=true)
 (hb:∀h' g' N',Grow s.heap g σ.next h' g' N'->RB h' g' N' b (.cells (old++new) elem 0 (some eid))):
 ∃s',growA s eid off len (2*len+1) need size elem new= .ok (.value (.slice (some ⟨s.next,0,none⟩) need (2*need+1))) s'/\
  Sim C ((σ.drop id).new b) s' (g.set σ.next (some s.next)) A/\Xt σ s g A ((σ.drop id).new b) s' (g.set σ.next (some s.next)) A:=by
 obtain ⟨c1,c2,c3,_⟩:=hs.own id o ho
 obtain ⟨blk0,d1,d2,d3,d4,d5⟩:=c3 eid hi
 rw [hk] at d1;cases d1
 have hpi:parIs par eid=false:=by
  cases par with
  | none=>rfl
  | some q=>
    simp only [parIs]
    cases hb:Nat.beq q eid with
    | false=>rfl
    | true=>exact absurd hi ((d5 q rfl).2.2 id o ho |> fun h=>by rw [<-Nat.eq_of_beq_eq_true hb];exact h)
 have ecap:capOf (2*len+1)=len:=by unfold capOf;omega
 have eopn:opn (2*len+1)=true:=by unfold opn;rw [show (2*len+1)%2=1 from by omega];rfl
 obtain ⟨i1,i2⟩:=hs.drop id
 let s2:St:={heap:=(killPar s par).heap.set eid (.cells vs elem 1 none),next:=(killPar s par).next}
 have hn2:s2.next=s.next:=by show (killPar s par).next=s.next;cases par<;>rfl
 have hown:∀l o',(σ.drop id).own.get l=some o'->l≠id/\σ.own.get l=some o':=fun l o' h=>by
  simp only [SS.drop,T.get_del] at h
  split at h
  · cases h
  · exact ⟨by assumption,h⟩
 obtain ⟨j1,j2⟩:=i1.junk (s':=s2) hn2 (fun x hx=>by
  have hx1:x≠eid:=by
   rcases hx with hx | ⟨l,o',hl,hl'⟩
   · exact fun e=>d3 (e ▸ hx)
   · exact fun e=>(hown l o' hl).1 (hs.inj l id o' o eid (hown l o' hl).2 ho (e ▸ hl') hi)
  show ((killPar s par).heap.set eid _).get x=_
  rw [T.get_set,if_neg hx1]
  cases par with
  | none=>rfl
  | some q=>
    simp only [killPar,T.get_del]
    rw [if_neg]
    rintro rfl
    rcases hx with hx | ⟨l,o',hl,hl'⟩
    · exact (d5 x rfl).1 hx
    · exact (d5 x rfl).2.2 l o' (hown l o' hl).2 hl')
 have hgrow1:Grow s.heap g σ.next s2.heap g σ.next:=(i2.grow).trans j2.grow
 obtain ⟨k1,k2⟩:=j1.new (b:=b) (blk:= .cells (old++new) elem 0 (some eid)) (hb _ _ _ hgrow1) (fun q hq=>by
  cases hq
  exact ⟨d3,by rw [hn2];exact d4,fun l o' hl hl'=>(hown l o' hl).1 (hs.inj l id o' o eid (hown l o' hl).2 ho hl' hi)⟩)
 rw [hn2] at k1 k2
 refine ⟨s2.new (.cells (old++new) elem 0 (some eid)), ?_,k1,Xt.trans hs i2 (Xt.trans i1 j2 k2)⟩
 have e2:s2={heap:=(killPar s par).heap.set eid (.cells vs elem 1 none),next:=s.next}:=by
  show ({heap:=_,next:=(killPar s par).next}:St)=_
  cases par<;>rfl
 have cond:(Nat.beq 0 0&&(Nat.beq (off%size) 0&&Nat.beq (off+capOf (2*len+1)*size) vs.length&&(Nat.beq len (capOf (2*len+1))&&(Nat.beq elem elem&&(!parIs par eid&&oneCells new)))))=true:=by
  simp only [ecap,h1,h2,hpi,hone,Nat.beq_refl,Bool.not_false,Bool.and_self]
 simp only [growA,hk,hold,eopn,cond_true,cond]
 rw [<-e2]
theorem grow2_rel (hs:Sim C σ s g A) {eid off len c need size:Nat} {vs old new:List Value} {elem e:TypeId} {st:Nat} {par:Option Nat} {b:SB}
 (hk:s.heap.get eid=some (.cells vs e st par)) (hold:takeN (len*size) (dropN off vs)=some old)
 (hb:∀h' g' N',Grow s.heap g σ.next h' g' N'->RB h' g' N' b (.cells (old++new) elem 0 none)):
 ∃s',growA s eid off len (2*c) need size elem new= .ok (.value (.slice (some ⟨s.next,0,none⟩) need (2*need+1))) s'/\
  Sim C (σ.new b) s' (g.set σ.next (some s.next)) A/\Xt σ s g A (σ.new b) s' (g.set σ.next (some s.next)) A:=by
 have eopn:opn (2*c)=false:=by unfold opn;rw [show (2*c)%2=0 from by omega];rfl
 obtain ⟨k1,k2⟩:=hs.new (b:=b) (blk:= .cells (old++new) elem 0 none) (hb _ _ _ (.refl _ _ _)) (fun q hq=>by cases hq)
 exact ⟨_,by simp only [growA,hk,hold,eopn,cond_false],k1,k2⟩
theorem roomy_of {n bytes:Nat} (h1:n*bytes<big) (h2:0<bytes) (h3:bytes<1048576):roomy n bytes=true:=by
 unfold roomy
 unfold big at h1
 simp only [blt_true h1,blt_true h2,blt_true h3,Bool.and_self]
theorem not_ble {a b:Nat} (h:b<a):Nat.ble a b=false:=by
 cases hb:Nat.ble a b with
 | false=>rfl
 | true=>rw [Nat.ble_eq] at hb;omega
theorem is_ble {a b:Nat} (h:a<=b):Nat.ble a b=true:=by rw [Nat.ble_eq];exact h
theorem not_beq {a b:Nat} (h:a≠b):Nat.beq a b=false:=by
 cases hb:Nat.beq a b with
 | false=>rfl
 | true=>exact absurd (Nat.eq_of_beq_eq_true hb) h
theorem leNB_iff {a b:Nat}:leNB a b=true↔a<=b:=by simp [leNB]
theorem leNB_false {a b:Nat}:leNB a b=false↔b<a:=by simp [leNB]
theorem sl_inv {h:T Blk} {N id sz off len c:Nat} {op:Bool} {v:Value} (hx:RV h g N (.sl id sz off len c op) v):
 (∃eid,id<N/\g.ι id=some eid/\len<=c/\v= .slice (some ⟨eid,off*sz,none⟩) len (2*c+op.toNat))\/(id<N/\g.ι id=none/\len=0/\c=0/\op=true/\v= .slice none 0 0):=by
 cases hx with
 | sl _ _ _ _ _ _ eid h1 h2 h3=>exact .inl ⟨eid,h1,h2,h3,rfl⟩
 | slN _ _ _ h1 h2=>exact .inr ⟨h1,h2,rfl,rfl,rfl,rfl⟩
theorem rv_newS {h:T Blk} {N len e:Nat} {sz:Nat} (h1:σ.next<N):RV h (g.set σ.next (some e)) N (.sl σ.next sz 0 len len true) (.slice (some ⟨e,0,none⟩) len (2*len+1)):=by
 have:=RV.sl (h:=h) (g:=g.set σ.next (some e)) (N:=N) σ.next sz 0 len len true e h1 (Gh.set_same _ _ _) (Nat.le_refl _)
 rwa [Nat.zero_mul] at this
theorem app_nil' (hs:Sim C σ s g A) {elem:TypeId} {size bytes n:Nat} {new:List Value} {b:SB} (h0:n=0->emptyB b) (hroom:n*bytes<big) (hb1:0<bytes) (hb2:bytes<1048576)
 (hb:RB s.heap g σ.next b (.cells new elem 0 none)):∃v s' g',appendTo s elem size bytes n new (.slice none 0 0)= .ok (.value v) s'/\RV s'.heap g' (σ.new b).next (.sl σ.next size 0 n n true) v/\
   Sim C (σ.new b) s' g' A/\Xt σ s g A (σ.new b) s' g' A:=by
 by_cases hn:n=0
 · subst hn
   obtain ⟨i1,i2⟩:=hs.ghost (h0 rfl)
   exact ⟨.slice none 0 0,s,_,rfl,.slN _ _ _ (Nat.lt_succ_self _) (Gh.set_same _ _ _),i1,i2⟩
 · obtain ⟨k1,k2⟩:=hs.new hb (fun q hq=>by cases hq)
   have e:appendTo s elem size bytes n new (.slice none 0 0)= .ok (.value (.slice (some ⟨s.next,0,none⟩) n (2*n+1))) (s.new (.cells new elem 0 none)):=by
    simp only [appendTo,Nat.beq_refl,Bool.and_self,cond_true,not_beq hn,cond_false,roomy_of hroom hb1 hb2]
   exact ⟨_,_,_,e,rv_newS (Nat.lt_succ_self _),k1,k2⟩
theorem app_nil (hs:Sim C σ s g A) {elem:TypeId} {size bytes n:Nat} {new:List Value} {b:SB} {K:SK} (h0:n=0->emptyB b) (hroom:n*bytes<big) (hb1:0<bytes) (hb2:bytes<1048576)
 (hb:RB s.heap g σ.next b (.cells new elem 0 none)) (hk:K.val (.sl σ.next size 0 n n true) (σ.new b)):OpR C K σ s g A (appendTo s elem size bytes n new (.slice none 0 0)):=by
 obtain ⟨v,s',g',h1,h2,h3,h4⟩:=app_nil' hs (size:=size) h0 hroom hb1 hb2 hb
 rw [h1];exact .val _ _ _ _ _ hk h2 h3 h4
theorem app_nil2 (hs:Sim C σ s g A) {elem:TypeId} {size bytes n id:Nat} {new:List Value} {b:SB} {K:SK} (h0:n=0->emptyB b) (hroom:n*bytes<big) (hb1:0<bytes) (hb2:bytes<1048576)
 (hb:∀h' g' N',Grow s.heap g σ.next h' g' N'->RB h' g' N' b (.cells new elem 0 none)) (hk:K.val (.sl σ.next size 0 n n true) ((σ.drop id).new b)):OpR C K σ s g A (appendTo s elem size bytes n new (.slice none 0 0)):=by
 obtain ⟨i1,i2⟩:=hs.drop id
 obtain ⟨v,s',g',h1,h2,h3,h4⟩:=app_nil' i1 (size:=size) h0 hroom hb1 hb2 (hb _ _ _ i2.grow)
 rw [h1];exact .val _ _ _ _ _ hk h2 h3 (Xt.trans hs i2 h4)
theorem app_full (hs:Sim C σ s g A) {elem:TypeId} {size bytes n id eid len:Nat} {o:SO} {cs new:List Value} {par:Option Nat} {b:SB} {K:SK} (hown:σ.own.get id=some o) (hi:g.ι id=some eid)
 (hk:s.heap.get eid=some (.cells cs elem 0 par)) (hl:cs.length=len*size) (hroom:(len+n)*bytes<big) (hb1:0<bytes) (hb2:bytes<1048576) (hone:oneCells new=true) (hnl:new.length=n*size)
 (hb:∀h' g' N',Grow s.heap g σ.next h' g' N'->∀par,RB h' g' N' b (.cells (cs++new) elem 0 par)) (hkk:K.val (.sl σ.next size 0 (len+n) (len+n) true) ((σ.drop id).new b)):
 OpR C K σ s g A (appendTo s elem size bytes n new (.slice (some ⟨eid,0,none⟩) len (2*len+1))):=by
 have ecap:capOf (2*len+1)=len:=by unfold capOf;omega
 by_cases hn:n=0
 · subst hn
   have hnew:new=[]:=List.length_eq_zero_iff.1 (by rw [hnl,Nat.zero_mul])
   subst hnew
   have hb':=hb _ _ _ (.refl _ _ _) par
   rw [List.append_nil] at hb'
   obtain ⟨i1,i2⟩:=hs.rename hown hi hk hb'
   have e:appendTo s elem size bytes 0 [] (.slice (some ⟨eid,0,none⟩) len (2*len+1))= .ok (.value (.slice (some ⟨eid,0,none⟩) len (2*len+1))) s:=by
    simp only [appendTo,ecap,is_ble (Nat.le_refl len),cond_true,writeBlk,Nat.add_zero]
   rw [e]
   exact .val _ _ _ _ _ hkk (rv_newS (Nat.lt_succ_self _)) i1 i2
 · have hold:takeN (len*size) (dropN 0 cs)=some cs:=by
    rw [dropN_eq,takeN_some];exact ⟨by simp [hl],by rw [List.drop_zero,<-hl,List.take_length]⟩
   obtain ⟨s',g1,g2,g3⟩:=grow_rel hs (need:=len+n) (size:=size) (len:=len) (off:=0) (b:=b) (new:=new) hown hi hk hold (Nat.zero_mod _) (by rw [hl,Nat.zero_add]) hone
    (fun h' g' N' hg=>hb h' g' N' hg _)
   have e:appendTo s elem size bytes n new (.slice (some ⟨eid,0,none⟩) len (2*len+1))= .ok (.value (.slice (some ⟨s.next,0,none⟩) (len+n) (2*(len+n)+1))) s':=by
    simp only [appendTo,ecap,not_ble (show len<len+n by omega),cond_false,roomy_of hroom hb1 hb2,cond_true]
    exact g1
   rw [e]
   exact .val _ _ _ _ _ hkk (rv_newS (Nat.lt_succ_self _)) g2 g3
theorem appBytes_rel (hs:Sim C σ s g A) {elem:TypeId} {dst:SV} {v:Value} {ys:List UInt8} {K:SK} (hx:RV s.heap g σ.next dst v) (hw:appBytesW σ elem dst ys K):
 OpR C K σ s g A (appendTo s elem 1 1 ys.length (ys.map byteV) v):=by
 have hone:=oneCells_iff.2 (byteV_one ys)
 unfold appBytesW at hw
 split at hw
 · -- nil
   obtain ⟨h1,h2⟩:=hw
   cases hx
   exact app_nil hs (b:= .bytes ys elem) (fun e=>List.length_eq_zero_iff.1 e) (by omega) (by omega) (by omega) (.bytes _ _ _) h2
 · -- one's own
   rename_i id sz off len c op
   cases hz:Nat.beq sz 1 with
   | false=>rw [hz] at hw;exact hw.elim
   | true=>
   rw [hz] at hw
   have:=Nat.eq_of_beq_eq_true hz;subst this
   simp only [Bool.not_true,cond_false] at hw
   split at hw
   · rename_i ps xs hrd
     obtain ⟨hps,hw⟩:=allP_iff.1 hw
     have hread:=rdBytes_rel hs hx hrd hps
     cases op with
     | true=>
       simp only [ask] at hw
       obtain ⟨⟨rfl,hw1⟩,hroom,hk⟩:=hw
       split at hw1
       · rename_i st l t hown
         obtain ⟨rfl,rfl,rfl⟩:=hw1
         have hxs:xs=l:=by
          simp only [rdBytesS,hown,Nat.beq_refl,cond_true,Option.some.injEq,Prod.mk.injEq] at hrd
          rw [<-hrd.2];simp [cutL]
         subst hxs
         rcases sl_inv hx with ⟨eid,h1,h2,hlc,rfl⟩ | ⟨h1,h2,h3,_,_,rfl⟩
         · obtain ⟨blk,b1,b2,b3,b4,b5⟩:=(hs.own _ _ hown).2.2.1 _ h2
           cases b2 with
           | bytes _ _ par=>
             have:=app_full (C:=C) hs (elem:=t) (size:=1) (bytes:=1) (n:=ys.length) (len:=xs.length) (b:= .bytes (xs++ys) t) (new:=ys.map byteV) (K:=K) hown h2 b1 (by simp) (by omega) (by omega) (by omega) hone (by simp)
              (fun h' g' N' _ par=>by rw [<-List.map_append];exact .bytes _ _ _) hk
             rwa [<-Nat.zero_mul 1] at this
         · have hl:xs=[]:=List.length_eq_zero_iff.1 h3
           subst hl
           simp only [List.length_nil,Nat.zero_add,List.nil_append] at hk hroom
           exact app_nil2 hs (id:=id) (b:= .bytes ys t) (fun e=>List.length_eq_zero_iff.1 e) (by omega) (by omega) (by omega) (fun _ _ _ _=> .bytes _ _ _) hk
       · exact hw1.elim
     | false=>
       replace hw:=hw
       rw [show ∀t f:Prop,ask false t f=f from fun _ _=>rfl] at hw
       rcases sl_inv hx with ⟨eid,h1,h2,hlc,rfl⟩ | ⟨_,_,_,_,h5,_⟩
       case inr=>cases h5
       have ecap:capOf (2*c+false.toNat)=c:=by unfold capOf;simp
       rw [ask_iff] at hw
       rcases Nat.lt_or_ge c (len+ys.length) with hlt | hge
       · obtain ⟨hroom,hk⟩:=hw.2 (leNB_false.2 hlt)
         have hrd':=hread
         simp only [rdSlice] at hrd'
         split at hrd'
         · rename_i vs e st par hblk
           split at hrd'
           · rename_i l hl
             simp only [Option.some.injEq,Prod.mk.injEq] at hrd'
             obtain ⟨h6,h7⟩:=hrd'
             subst h7
             obtain ⟨s',g1,g2,g3⟩:=grow2_rel hs (c:=c) (need:=len+ys.length) (size:=1) (elem:=elem) (new:=ys.map byteV) (b:= .bytes (xs++ys) elem) hblk hl
              (fun h' g' N' _=>by rw [<-List.map_append];exact .bytes _ _ _)
             have e2:appendTo s elem 1 1 ys.length (ys.map byteV) (.slice (some ⟨eid,off*1,none⟩) len (2*c+false.toNat))=
              .ok (.value (.slice (some ⟨s.next,0,none⟩) (len+ys.length) (2*(len+ys.length)+1))) s':=by
              simp only [appendTo,ecap,not_ble hlt,cond_false,roomy_of (n:=len+ys.length) (bytes:=1) (by omega) (by omega) (by omega),cond_true]
              exact g1
             rw [e2]
             exact .val _ _ _ _ _ hk (rv_newS (Nat.lt_succ_self _)) g2 g3
           · cases hrd'
         · cases hrd'
       · have hw2:=hw.1 (leNB_iff.2 hge)
         split at hw2
         · rename_i st l t hown
           obtain ⟨hfit,hk⟩:=hw2
           obtain ⟨blk,b1,b2,b3,b4,b5⟩:=(hs.own _ _ hown).2.2.1 _ h2
           cases b2 with
           | bytes _ _ par=>
             have hwr:writeN (l.map byteV) (off*1+len*1) (ys.map byteV)=some ((l.take (off+len)++(ys++l.drop (off+len+ys.length))).map byteV):=by
              rw [writeN_some]
              refine ⟨by simp;omega, ?_⟩
              simp [List.map_take,List.map_drop]
             obtain ⟨s',g1,g2,⟨par',g3,g3'⟩,g4⟩:=writeBlk_some (s:=s) b1 hwr hone (fun e=>(b5 eid e).2.2 id _ hown h2)
             obtain ⟨u1,u2⟩:=Sim.upd hs hown h2 b1 g2 g3 g4 (.bytes _ _ _) g3'
             have e2:appendTo s elem 1 1 ys.length (ys.map byteV) (.slice (some ⟨eid,off*1,none⟩) len (2*c+false.toNat))=
              .ok (.value (.slice (some ⟨eid,off*1,none⟩) (len+ys.length) (2*c+false.toNat))) s':=by
              simp only [appendTo,ecap,is_ble hge,cond_true,g1]
             rw [e2]
             exact .val _ _ _ _ _ hk (.sl _ _ _ _ _ _ eid (Nat.lt_succ_of_lt h1) h2 hge) u1 u2
         · exact hw2.elim
   · exact hw.elim
 · exact hw.elim
end
end Go.Eng
namespace Go.Eng
section
variable {C:Cx} {σ:SS} {s:St} {g:Gh} {A:Nat->Prop}
structure ArrIs (h:T Blk) (g:Gh) (n sz:Nat) (f:Nat->List SV) (cs:List Value):Prop where
 len:cs.length=n*sz
 one:∀v∈cs,v.oneCell'=true
 szs:∀i,i<n->(f i).length=sz
 rel:∀(i j:Nat) (a:SV) (v:Value),i<n->(f i)[j]? =some a->cs[i*sz+j]? =some v->RV h g.frz 0 a v
theorem ArrIs.rb {h:T Blk} {N n sz:Nat} {f:Nat->List SV} {cs:List Value} (ha:ArrIs h g n sz f cs) (t:TypeId) (par:Option Nat):RB h g N (.arr n sz f t) (.cells cs t 0 par):=
 .arr n sz f t cs par ha.len ha.one ha.szs ha.rel
theorem ArrIs.mono {h h':T Blk} {g g':Gh} {N N' n sz:Nat} {f:Nat->List SV} {cs:List Value} (w:Grow h g N h' g' N') (ha:ArrIs h g n sz f cs):ArrIs h' g' n sz f cs:=
 ⟨ha.len,ha.one,ha.szs,fun i j a v h1 h2 h3=>(ha.rel i j a v h1 h2 h3).mono w.frz⟩
theorem ArrIs.append {h:T Blk} {n m sz:Nat} {f k:Nat->List SV} {cs ds:List Value} (ha:ArrIs h g n sz f cs) (hb:ArrIs h g m sz k ds):ArrIs h g (n+m) sz (appF n f k) (cs++ds):=by
 refine ⟨by rw [List.length_append,ha.len,hb.len,Nat.add_mul],fun v hv=> ?_,fun i hi=> ?_,fun i j a v hi h1 h2=> ?_⟩
 · rcases List.mem_append.1 hv with hv | hv
   · exact ha.one v hv
   · exact hb.one v hv
 · unfold appF
   by_cases h:i<n
   · rw [blt_true h];exact ha.szs i h
   · have:Nat.blt i n=false:=not_ble (by omega)
     rw [this];exact hb.szs _ (by omega)
 · unfold appF at h1
   by_cases h:i<n
   · rw [blt_true h] at h1
     simp only [cond_true] at h1
     have hj:j<sz:=by have:=(List.getElem?_eq_some_iff.1 h1).1;rwa [ha.szs i h] at this
     have hb2:(i+1)*sz<=n*sz:=Nat.mul_le_mul_right _ h
     rw [Nat.add_mul,Nat.one_mul] at hb2
     rw [List.getElem?_append_left (by rw [ha.len];omega)] at h2
     exact ha.rel i j a v h h1 h2
   · have hbl:Nat.blt i n=false:=not_ble (by omega)
     rw [hbl] at h1
     simp only [cond_false] at h1
     have e:i*sz+j=n*sz+((i-n)*sz+j):=by rw [<-Nat.add_assoc,<-Nat.add_mul];congr 2;omega
     rw [e,List.getElem?_append_right (by rw [ha.len];omega),ha.len,Nat.add_sub_cancel_left] at h2
     exact hb.rel _ j a v (by omega) h1 h2
theorem ArrIs.nil {h:T Blk} {sz:Nat} {f:Nat->List SV}:ArrIs h g 0 sz f [] where
 len:=by simp
 one:=fun v h=>by cases h
 szs:=fun i h=>by omega
 rel:=fun i j a v h=>by omega
theorem rdArr_rel (hs:Sim C σ s g A) {sz:Nat} {x:SV} {v:Value} {n:Nat} {f:Nat->List SV} {ps:List Prop} (hx:RV s.heap g σ.next x v) (hr:rdArrS σ sz x=some (ps,n,f)) (hps:PS ps):
 ∃cells,rdSlice s sz v=some (n,cells)/\ArrIs s.heap g n sz f cells:=by
 have emp:∀(r:Nat) (f:Nat->List SV) (v:Value),EmpR s.heap g r v->∃cells,rdSlice s sz v=some (0,cells)/\ArrIs s.heap g 0 sz f cells:=by
  rintro r f v (⟨id,off,cap,cs,e,st,par,rfl,h1,h2⟩ | ⟨id,off,k,rfl⟩)
  · exact ⟨[],by simp [rdSlice,h2,takeN],.nil⟩
  · exact ⟨[],rfl,.nil⟩
 unfold rdArrS at hr
 split at hr
 · rename_i r nn m sz' f'
   cases hb:Nat.beq sz sz' with
   | false=>rw [hb] at hr;cases hr
   | true=>
   rw [hb] at hr
   simp only [cond_true,Option.some.injEq,Prod.mk.injEq] at hr
   have:=Nat.eq_of_beq_eq_true hb;subst this
   obtain ⟨rfl,rfl,rfl⟩:=hr
   cases hx with
   | imm _ _ _ _ _ id off cap cs e st par vs h1 h2 h3 h4 h5 h6 h7=>
     have hl:((cs.drop off).take (m*sz)).length=m*sz:=by simp only [List.length_take,List.length_drop];omega
     have hget:∀i j,i<m->j<sz->((cs.drop off).take (m*sz))[i*sz+j]? =some (vs i j):=fun i j hi hj=>by
      have hb2:(i+1)*sz<=m*sz:=Nat.mul_le_mul_right _ hi
      rw [Nat.add_mul,Nat.one_mul] at hb2
      rw [List.getElem?_take,if_pos (by omega),List.getElem?_drop]
      exact (h5 i j hi hj).1
     refine ⟨(cs.drop off).take (m*sz), ?_,hl,fun v hv=> ?_,h4,fun i j a v hi ha hv=> ?_⟩
     · have:takeN (m*sz) (dropN off cs)=some ((cs.drop off).take (m*sz)):=by
        rw [dropN_eq,takeN_some];exact ⟨by simp only [List.length_drop];omega,rfl⟩
       simp only [rdSlice,h2,this]
     · obtain ⟨k,hk⟩:=List.mem_iff_getElem?.1 hv
       have hkl:=(List.getElem?_eq_some_iff.1 hk).1
       rw [hl] at hkl
       have hsz:0<sz:=by
        rcases Nat.eq_zero_or_pos sz with h | h
        · subst h;simp at hkl
        · exact h
       have e:k/sz*sz+k%sz=k:=by rw [Nat.mul_comm];exact Nat.div_add_mod k sz
       have hi:k/sz<m:=(Nat.div_lt_iff_lt_mul hsz).2 hkl
       have hj:k%sz<sz:=Nat.mod_lt _ hsz
       have:=hget _ _ hi hj
       rw [e,hk] at this
       simp only [Option.some.injEq] at this
       rw [this];exact (h5 _ _ hi hj).2
     · have hj:j<sz:=by have:=(List.getElem?_eq_some_iff.1 ha).1;rwa [h4 i hi] at this
       rw [hget i j hi hj] at hv
       simp only [Option.some.injEq] at hv;subst hv
       exact h6 i j a hi ha
   | immE _ _ _ _ _ hE=>exact emp _ _ _ hE
   | immN=>exact ⟨[],rfl,.nil⟩
 · simp only [Option.some.injEq,Prod.mk.injEq] at hr
   obtain ⟨rfl,rfl,rfl⟩:=hr
   cases hx
   exact ⟨[],rfl,.nil⟩
 · simp only [Option.some.injEq,Prod.mk.injEq] at hr
   obtain ⟨rfl,rfl,rfl⟩:=hr
   cases hx with
   | empS _ hE=>exact emp _ _ _ hE
 · rename_i id sz' off len c op
   cases hb:Nat.beq sz sz' with
   | false=>rw [hb] at hr;cases hr
   | true=>
   rw [hb] at hr
   simp only [cond_true] at hr
   have:=Nat.eq_of_beq_eq_true hb;subst this
   split at hr
   · rename_i st vs t hown
     cases hble:(Nat.ble ((off+len)*sz) vs.length&&noOwnL vs) with
     | false=>rw [hble] at hr;cases hr
     | true=>
     rw [hble] at hr
     simp only [cond_true,Option.some.injEq,Prod.mk.injEq] at hr
     obtain ⟨rfl,rfl,rfl⟩:=hr
     rw [Bool.and_eq_true] at hble
     obtain ⟨hble,hno⟩:=hble
     rw [Nat.ble_eq,Nat.add_mul] at hble
     rcases sl_inv hx with ⟨eid,h1,h2,hlc,rfl⟩ | ⟨h1,h2,h3,_,_,rfl⟩
     · obtain ⟨b,h3,h4⟩:=hs.blk hown h2
       cases h4 with
       | cells _ cs _ par h5 h6=>
         have hcl:=h5.1
         have ht:takeN (len*sz) (dropN (off*sz) cs)=some ((cs.drop (off*sz)).take (len*sz)):=by
          rw [dropN_eq,takeN_some];exact ⟨by simp only [List.length_drop];omega,rfl⟩
         refine ⟨(cs.drop (off*sz)).take (len*sz),by simp only [rdSlice,h3,ht],by simp only [List.length_take,List.length_drop];omega,fun v hv=>h6 v (List.mem_of_mem_drop (List.mem_of_mem_take hv)),fun i hi=> ?_,fun i j a v hi ha hv=> ?_⟩
         · have hb2:(i+1)*sz<=len*sz:=Nat.mul_le_mul_right _ hi
           rw [Nat.add_mul,Nat.one_mul] at hb2
           simp only [elemF,List.length_take,List.length_drop,Nat.add_mul];omega
         · simp only [elemF,List.getElem?_take,List.getElem?_drop] at ha hv
           split at ha
           · rename_i hj
             have hb2:(i+1)*sz<=len*sz:=Nat.mul_le_mul_right _ hi
             rw [Nat.add_mul,Nat.one_mul] at hb2
             rw [if_pos (by omega)] at hv
             refine (h5.free hno).2 _ a v ha ?_
             rw [<-hv];congr 1;rw [Nat.add_mul];omega
           · cases ha
     · subst h3
       exact ⟨[],rfl,.nil⟩
   · rename_i st n' sz'' f' t hown
     cases hb3:Nat.beq sz sz'' with
     | false=>rw [hb3] at hr;cases hr
     | true=>
     rw [hb3] at hr
     simp only [cond_true,Option.some.injEq,Prod.mk.injEq] at hr
     have:=Nat.eq_of_beq_eq_true hb3;subst this
     obtain ⟨rfl,rfl,rfl⟩:=hr
     have hlen:=hps.cons.1
     rcases sl_inv hx with ⟨eid,h1,h2,hlc,rfl⟩ | ⟨h1,h2,h3,_,_,rfl⟩
     · obtain ⟨b,h3,h4⟩:=hs.blk hown h2
       cases h4 with
       | arr _ _ _ _ cs par k1 k2 k3 k4=>
         have hm:off*sz+len*sz<=n'*sz:=by rw [<-Nat.add_mul];exact Nat.mul_le_mul_right _ hlen
         have ht:takeN (len*sz) (dropN (off*sz) cs)=some ((cs.drop (off*sz)).take (len*sz)):=by
          rw [dropN_eq,takeN_some];exact ⟨by simp only [List.length_drop];omega,rfl⟩
         refine ⟨(cs.drop (off*sz)).take (len*sz),by simp only [rdSlice,h3,ht],by simp only [List.length_take,List.length_drop];omega,fun v hv=>k2 v (List.mem_of_mem_drop (List.mem_of_mem_take hv)),fun i hi=>k3 _ (by omega),fun i j a v hi ha hv=> ?_⟩
         have hj:j<sz:=by have:=(List.getElem?_eq_some_iff.1 ha).1;rwa [k3 _ (by omega)] at this
         have hb2:(i+1)*sz<=len*sz:=Nat.mul_le_mul_right _ hi
         rw [Nat.add_mul,Nat.one_mul] at hb2
         simp only [List.getElem?_take,List.getElem?_drop] at hv
         rw [if_pos (by omega)] at hv
         refine k4 (off+i) j a v (by omega) ha ?_
         rw [<-hv];congr 1;rw [Nat.add_mul];omega
     · subst h3
       exact ⟨[],rfl,.nil⟩
   · cases hr
 · cases hr
theorem ArrIs.write {h:T Blk} {n m sz o:Nat} {f k:Nat->List SV} {cs ds:List Value} (ha:ArrIs h g n sz f cs) (hb:ArrIs h g m sz k ds) (hfit:o+m<=n):
 ∃cs',writeN cs (o*sz) ds=some cs'/\ArrIs h g n sz (fun i=>bif Nat.blt i o then f i else bif Nat.blt i (o+m) then k (i-o) else f i) cs':=by
 have hm:o*sz+m*sz<=n*sz:=by rw [<-Nat.add_mul];exact Nat.mul_le_mul_right _ hfit
 have hl:=ha.len
 have hd:=hb.len
 refine ⟨cs.take (o*sz)++ds++cs.drop (o*sz+ds.length),(writeN_some _ _ _ _).2 ⟨by omega,rfl⟩,by simp only [List.length_append,List.length_take,List.length_drop];omega,fun v hv=> ?_,fun i hi=> ?_,fun i j a v hi h1 h2=> ?_⟩
 · rcases List.mem_append.1 hv with hv | hv
   · rcases List.mem_append.1 hv with hv | hv
     · exact ha.one v (List.mem_of_mem_take hv)
     · exact hb.one v hv
   · exact ha.one v (List.mem_of_mem_drop hv)
 · by_cases c1:i<o
   · simp only [blt_true c1,cond_true];exact ha.szs i hi
   · have e1:Nat.blt i o=false:=not_ble (by omega)
     by_cases c2:i<o+m
     · simp only [e1,cond_false,blt_true c2,cond_true];exact hb.szs _ (by omega)
     · have e2:Nat.blt i (o+m)=false:=not_ble (by omega)
       simp only [e1,e2,cond_false];exact ha.szs i hi
 · have hlen1:(cs.take (o*sz)).length=o*sz:=by simp only [List.length_take];omega
   have hi2:(i+1)*sz<=n*sz:=Nat.mul_le_mul_right _ hi
   rw [Nat.add_mul,Nat.one_mul] at hi2
   have get1:∀q,(cs.take (o*sz)++ds++cs.drop (o*sz+ds.length))[q]? =if q<o*sz then cs[q]? else if q<o*sz+m*sz then ds[q-o*sz]? else cs[q]? :=by
    intro q
    rw [List.append_assoc,List.getElem?_append,hlen1]
    split
    · rw [List.getElem?_take,if_pos (by assumption)]
    · rw [List.getElem?_append]
      by_cases hk:q<o*sz+m*sz
      · rw [if_pos (by omega),if_pos hk]
      · rw [if_neg (by omega),if_neg hk,List.getElem?_drop];congr 1;omega
   rw [get1] at h2
   by_cases c1:i<o
   · simp only [blt_true c1,cond_true] at h1
     have hj:j<sz:=by have:=(List.getElem?_eq_some_iff.1 h1).1;rwa [ha.szs i hi] at this
     have:(i+1)*sz<=o*sz:=Nat.mul_le_mul_right _ c1
     rw [Nat.add_mul,Nat.one_mul] at this
     rw [if_pos (by omega)] at h2
     exact ha.rel i j a v hi h1 h2
   · have e1:Nat.blt i o=false:=not_ble (by omega)
     have hoi:o*sz<=i*sz:=Nat.mul_le_mul_right _ (by omega)
     by_cases c2:i<o+m
     · simp only [e1,cond_false,blt_true c2,cond_true] at h1
       have hj:j<sz:=by have:=(List.getElem?_eq_some_iff.1 h1).1;rwa [hb.szs _ (by omega)] at this
       have:(i+1)*sz<=(o+m)*sz:=Nat.mul_le_mul_right _ c2
       rw [Nat.add_mul,Nat.one_mul,Nat.add_mul] at this
       rw [if_neg (by omega),if_pos (by omega)] at h2
       refine hb.rel (i-o) j a v (by omega) h1 ?_
       rw [<-h2];congr 1;rw [Nat.sub_mul];omega
     · have e2:Nat.blt i (o+m)=false:=not_ble (by omega)
       simp only [e1,e2,cond_false] at h1
       have:(o+m)*sz<=i*sz:=Nat.mul_le_mul_right _ (by omega)
       rw [Nat.add_mul] at this
       rw [if_neg (by omega),if_neg (by omega)] at h2
       exact ha.rel i j a v hi h1 h2
theorem appArr_rel (hs:Sim C σ s g A) {elem:TypeId} {sz bytes n:Nat} {k:Nat->List SV} {new:List Value} {dst:SV} {v:Value} {K:SK} (hx:RV s.heap g σ.next dst v) (hn:ArrIs s.heap g n sz k new)
 (hb1:0<bytes) (hb2:bytes<1048576) (hw:appArrW C σ elem sz bytes dst n k K):OpR C K σ s g A (appendTo s elem sz bytes n new v):=by
 have hone:=oneCells_iff.2 hn.one
 unfold appArrW at hw
 split at hw
 · obtain ⟨h1,h2⟩:=hw
   cases hx
   exact app_nil hs (b:= .arr n sz k elem) (fun e=>e) h1 hb1 hb2 (hn.rb _ _) h2
 · rename_i id sz' off len c op
   split at hw
   · rename_i ps m f hrd
     obtain ⟨hps,hw⟩:=allP_iff.1 hw
     obtain ⟨old,hread,hold⟩:=rdArr_rel hs hx hrd hps
     have hsz:sz'=sz:=by
      simp only [rdArrS] at hrd
      cases hq:Nat.beq sz sz' with
      | false=>rw [hq] at hrd;cases hrd
      | true=>exact (Nat.eq_of_beq_eq_true hq).symm
     subst hsz
     have hml:m=len:=by
      simp only [rdArrS,Nat.beq_refl,cond_true] at hrd
      split at hrd
      · cases hq:(Nat.ble ((off+len)*sz') _&&noOwnL _) with
        | false=>rw [hq] at hrd;cases hrd
        | true=>rw [hq] at hrd;simp only [cond_true,Option.some.injEq,Prod.mk.injEq] at hrd;exact hrd.2.1.symm
      · cases hq:Nat.beq sz' _ with
        | false=>rw [hq] at hrd;cases hrd
        | true=>rw [hq] at hrd;simp only [cond_true,Option.some.injEq,Prod.mk.injEq] at hrd;exact hrd.2.1.symm
      · cases hrd
     subst hml
     cases op with
     | true=>
       simp only [ask] at hw
       obtain ⟨⟨rfl,hw1⟩,hroom,hk⟩:=hw
       split at hw1
       · rename_i st m' szz h' t hown
         obtain ⟨rfl,rfl,rfl⟩:=hw1
         rcases sl_inv hx with ⟨eid,h1,h2,hlc,rfl⟩ | ⟨h1,h2,h3,_,_,rfl⟩
         · obtain ⟨blk,b1,b2,b3,b4,b5⟩:=(hs.own _ _ hown).2.2.1 _ h2
           have hszz:szz=sz':=by
            simp only [rdArrS,Nat.beq_refl,cond_true,hown] at hrd
            cases hq:Nat.beq sz' szz with
            | false=>rw [hq] at hrd;cases hrd
            | true=>exact (Nat.eq_of_beq_eq_true hq).symm
           subst hszz
           cases b2 with
           | arr _ _ _ _ cs par k1 k2 k3 k4=>
             have hcs:old=cs:=by
              simp only [rdSlice,b1] at hread
              split at hread
              · rename_i l hl
                simp only [Option.some.injEq,Prod.mk.injEq] at hread
                rw [dropN_eq,takeN_some] at hl
                rw [<-hread.2,hl.2,Nat.zero_mul,List.drop_zero,<-k1,List.take_length]
              · cases hread
             subst hcs
             have:=app_full (C:=C) hs (elem:=t) (size:=szz) (bytes:=bytes) (n:=n) (len:=c) (b:= .arr (c+n) szz (appF c f k) t) (new:=new) (K:=K) hown h2 b1 k1 hroom hb1 hb2 hone hn.len
              (fun h' g' N' hg par=>((hold.append hn).mono hg).rb _ _) hk
             rwa [<-Nat.zero_mul szz] at this
         · subst h3
           have e:∀i,i<n->appF 0 f k i=k i:=fun i hi=>by unfold appF;rw [show Nat.blt i 0=false from not_ble (by omega)];rfl
           simp only [Nat.zero_add] at hk hroom
           refine app_nil2 hs (id:=id) (b:= .arr n sz' (appF 0 f k) t) (fun e=>e) hroom hb1 hb2 (fun h' g' N' hg=> ?_) hk
           have hn':=hn.mono hg
           exact (⟨hn'.len,hn'.one,fun i hi=>by rw [e i hi];exact hn'.szs i hi,fun i j a v hi h1 h2=>hn'.rel i j a v hi (by rwa [e i hi] at h1) h2⟩:ArrIs h' g' n sz' (appF 0 f k) new).rb _ _
       · exact hw1.elim
     | false=>
       replace hw:=hw
       rw [show ∀t f:Prop,ask false t f=f from fun _ _=>rfl] at hw
       rcases sl_inv hx with ⟨eid,h1,h2,hlc,rfl⟩ | ⟨_,_,_,_,h5,_⟩
       case inr=>cases h5
       have ecap:capOf (2*c+false.toNat)=c:=by unfold capOf;simp
       rw [ask_iff] at hw
       rcases Nat.lt_or_ge c (m+n) with hlt | hge
       · obtain ⟨hroom,hk⟩:=hw.2 (leNB_false.2 hlt)
         have hrd':=hread
         simp only [rdSlice] at hrd'
         split at hrd'
         · rename_i vs e st par hblk
           split at hrd'
           · rename_i l hl
             simp only [Option.some.injEq,Prod.mk.injEq] at hrd'
             obtain ⟨h6,h7⟩:=hrd'
             subst h7
             obtain ⟨s',g1,g2,g3⟩:=grow2_rel hs (c:=c) (need:=m+n) (size:=sz') (elem:=elem) (new:=new) (b:= .arr (m+n) sz' (appF m f k) elem) hblk hl
              (fun h' g' N' hg=>((hold.append hn).mono hg).rb _ _)
             have e2:appendTo s elem sz' bytes n new (.slice (some ⟨eid,off*sz',none⟩) m (2*c+false.toNat))=
              .ok (.value (.slice (some ⟨s.next,0,none⟩) (m+n) (2*(m+n)+1))) s':=by
              simp only [appendTo,ecap,not_ble hlt,cond_false,roomy_of hroom hb1 hb2,cond_true]
              exact g1
             rw [e2]
             exact .val _ _ _ _ _ hk (rv_newS (Nat.lt_succ_self _)) g2 g3
           · cases hrd'
         · cases hrd'
       · have hw2:=hw.1 (leNB_iff.2 hge)
         split at hw2
         · rename_i st m' szz h' t hown
           obtain ⟨hfit,hk⟩:=hw2
           have hszz:szz=sz':=by
            simp only [rdArrS,Nat.beq_refl,cond_true,hown] at hrd
            cases hq:Nat.beq sz' szz with
            | false=>rw [hq] at hrd;cases hrd
            | true=>exact (Nat.eq_of_beq_eq_true hq).symm
           subst hszz
           obtain ⟨blk,b1,b2,b3,b4,b5⟩:=(hs.own _ _ hown).2.2.1 _ h2
           cases b2 with
           | arr _ _ _ _ cs par k1 k2 k3 k4=>
             obtain ⟨cs',w1,w2⟩:=(⟨k1,k2,k3,k4⟩:ArrIs s.heap g m' szz h' cs).write hn hfit
             rw [Nat.add_mul] at w1
             obtain ⟨s',g1,g2,⟨par',g3,g3'⟩,g4⟩:=writeBlk_some (s:=s) b1 w1 hone (fun e=>(b5 eid e).2.2 id _ hown h2)
             obtain ⟨u1,u2⟩:=Sim.upd hs hown h2 b1 g2 g3 g4 (w2.rb _ _) g3'
             have e2:appendTo s elem szz bytes n new (.slice (some ⟨eid,off*szz,none⟩) m (2*c+false.toNat))=
              .ok (.value (.slice (some ⟨eid,off*szz,none⟩) (m+n) (2*c+false.toNat))) s':=by
              simp only [appendTo,ecap,is_ble hge,cond_true,g1]
             rw [e2]
             exact .val _ _ _ _ _ hk (.sl _ _ _ _ _ _ eid (Nat.lt_succ_of_lt h1) h2 hge) u1 u2
         · exact hw2.elim
   · exact hw.elim
 · exact hw.elim
theorem append_rel (hs:Sim C σ s g A) {st xt:TypeId} {dst x:SV} {v w:Value} {K:SK} (hd:RV s.heap g σ.next dst v) (hx:RV s.heap g σ.next x w) (hw:appendW C σ st xt dst x K):
 OpR C K σ s g A (appendA C [st,xt] [v,w] s):=by
 unfold appendW at hw
 split at hw
 · rename_i elem xd hu hxu
   cases hxi:isIntD xd with
   | true=>rw [hxi] at hw;exact hw.elim
   | false=>
   rw [hxi] at hw
   simp only [cond_false] at hw
   split at hw
   · exact hw.elim
   · rename_i ei hei
     cases hz:ei.zero with
     | none=>rw [hz] at hw;exact hw.elim
     | some z=>
     simp only [hz,Option.isSome_some,Bool.not_true,cond_false] at hw
     cases hu8:isU8 C elem with
     | true=>
       rw [hu8] at hw
       simp only [cond_true] at hw
       split at hw
       · rename_i ps ys hrd
         obtain ⟨hps,hw⟩:=allP_iff.1 hw
         cases hb:Nat.beq ei.bytes 1 with
         | false=>rw [hb] at hw;exact hw.elim
         | true=>
         rw [hb] at hw
         simp only [cond_true] at hw
         have hb1:=Nat.eq_of_beq_eq_true hb
         have hs1:ei.size=1:=by
          have:=(u8_inv hu8).2
          unfold Cx.size at this
          unfold Cx.info at hei
          rw [hei] at this
          simpa using this
         have h1:=rdBytes_rel hs hx hrd hps
         have:=appBytes_rel (C:=C) hs hd hw
         simp only [appendA,hu,hxu,hxi,cond_false,hei,hz,hs1,hb1,h1]
         exact this
       · exact hw.elim
     | false=>
       rw [hu8] at hw
       simp only [cond_false] at hw
       split at hw
       · rename_i ps n k hrd
         obtain ⟨hps,hw⟩:=allP_iff.1 hw
         cases hb:(Nat.blt 0 ei.bytes&&Nat.blt ei.bytes 1048576) with
         | false=>rw [hb] at hw;exact hw.elim
         | true=>
         rw [hb] at hw
         simp only [cond_true] at hw
         simp only [Bool.and_eq_true,Nat.blt_eq] at hb
         obtain ⟨cells,h1,h2⟩:=rdArr_rel hs hx hrd hps
         have:=appArr_rel (C:=C) hs hd h2 hb.1 hb.2 hw
         simp only [appendA,hu,hxu,hxi,cond_false,hei,hz,h1]
         exact this
       · exact hw.elim
 · exact hw.elim
end
end Go.Eng
namespace Go.Eng
section
variable {C:Cx} {σ:SS} {s:St} {g:Gh} {A:Nat->Prop}
theorem strVal_eq (m:String):strVal m= .string ⟨⟨strS' m⟩⟩:=by
 simp [strVal,strS']
theorem nilDeref_rel {h:T Blk} {N:Nat}:RV h g N (nilDerefS C) (nilDerefV C):=by
 unfold nilDerefS nilDerefV errV
 rw [strVal_eq]
 exact .ifc _ _ _ (.str _)
theorem zero_cells {N:Nat} {z:List SV} {zs:List Value} (hz:RL s.heap g N z zs) (ho:oneL z=true):∀n,RL s.heap g N (cellsZeroS z n) (cellsZero zs n)
 | 0=> .nil
 | n+1=>hz.append (zero_cells hz ho n)
theorem zero_arr {h:T Blk} {z:List SV} {zs:List Value} (hz:RL h g.frz 0 z zs) (ho:oneL z=true):∀n,ArrIs h g n z.length (fun _=>z) (cellsZero zs n)
 | 0=> .nil
 | n+1=>by
   have h1:ArrIs h g 1 z.length (fun _=>z) zs:=⟨by rw [Nat.one_mul,hz.1],oneL_rel hz ho,fun _ _=>rfl,fun i j a v hi ha hv=>by
    have:i=0:=by omega
    subst this
    rw [Nat.zero_mul,Nat.zero_add] at hv
    exact hz.2 j a v ha hv⟩
   have h2:=h1.append (zero_arr hz ho n)
   have e:appF 1 (fun _=>z) (fun _=>z)=fun _=>z:=by funext i;unfold appF;cases Nat.blt i 1<;>rfl
   rw [e,Nat.add_comm] at h2
   exact h2
theorem zero_bytes:∀n,cellsZero [Value.int .u8 0] n=(List.replicate n (0:UInt8)).map byteV
 | 0=>rfl
 | n+1=>by
   rw [cellsZero,zero_bytes n,List.replicate_succ,List.map_cons]
   rfl
theorem list_slice {t:TypeId} {elem n:Nat} {lo hi mx:Option Value} {a:Option Addr} {len cap:Nat} (hu:C.und t=some (.slice elem)) (hn:C.size elem=some n):
 sliceA C t (.slice a len cap) lo hi mx=match mx with
  | some mv=>bif hi.isSome then
     match boundA (some mv) 0,bounds2 lo hi len with
     | some m,some (h,l)=>cut3 n a cap m h l
     | _,_=>none
    else none
  | none=>match bounds2 lo hi len with
    | some (h,l)=>cut2 n a cap h l
    | none=>none:=by
 simp only [sliceA,hu,hn]
 cases mx<;>rfl
theorem cut2_own {n eid o c hi lo:Nat} {op:Bool} (h1:hi<=c) (h2:lo<=hi):
 (lo=0->cut2 n (some ⟨eid,o,none⟩) (2*c+op.toNat) hi lo=some (.slice (some ⟨eid,o,none⟩) hi (2*c+op.toNat)))/\
 (lo<c->cut2 n (some ⟨eid,o,none⟩) (2*c+op.toNat) hi lo=some (.slice (some ⟨eid,o+lo*n,none⟩) (hi-lo) (2*(c-lo)+op.toNat)))/\
 (lo≠0->c<=lo->cut2 n (some ⟨eid,o,none⟩) (2*c+op.toNat) hi lo=some (match op with
   | true=> .slice (some ⟨eid,o,some (lo*n+1)⟩) 0 1
   | false=> .slice (some ⟨eid,o,none⟩) 0 0)):=by
 have ecap:capOf (2*c+op.toNat)=c:=by unfold capOf;cases op<;>simp<;>omega
 have eopn:opn (2*c+op.toNat)=op:=by
  unfold opn
  cases op with
  | true=>rw [show (2*c+true.toNat)%2=1 from by show (2*c+1)%2=1;omega];rfl
  | false=>rw [show (2*c+false.toNat)%2=0 from by show (2*c+0)%2=0;omega];rfl
 have hc:(Nat.ble hi (capOf (2*c+op.toNat))&&Nat.ble lo hi)=true:=by rw [ecap];simp only [is_ble h1,is_ble h2,Bool.and_self]
 refine ⟨fun h0=> ?_,fun hlt=> ?_,fun h0 hge=> ?_⟩
 · subst h0
   unfold cut2
   rw [hc]
   simp only [cond_true,eopn,ecap,Nat.sub_zero]
   cases op with
   | true=>
     simp only [cond_true,Bool.toNat]
     by_cases hz:0<c
     · simp only [blt_true hz,cond_true,Nat.zero_mul,Nat.add_zero]
     · simp only [show Nat.blt 0 c=false from not_ble (by omega),cond_false,Nat.beq_refl,cond_true]
   | false=>
     simp only [cond_false,Bool.toNat,Nat.zero_mul,Nat.add_zero]
     cases Nat.beq c 0<;>rfl
 · unfold cut2
   rw [hc]
   simp only [cond_true,eopn,ecap]
   cases op with
   | true=>simp only [cond_true,blt_true hlt,Bool.toNat]
   | false=>simp only [cond_false,not_beq (show c≠lo by omega),Bool.toNat,Nat.add_zero]
 · unfold cut2
   rw [hc]
   simp only [cond_true,eopn,ecap]
   have e:hi-lo=0:=by omega
   cases op with
   | true=>simp only [cond_true,show Nat.blt lo c=false from not_ble (by omega),cond_false,not_beq h0]
   | false=>
     have e2:c=lo:=by omega
     subst e2
     simp only [cond_false,Nat.beq_refl,cond_true,e,Nat.sub_self,Nat.mul_zero]
theorem slice_own (hs:Sim C σ s g A) {t:TypeId} {elem id sz off len c:Nat} {op:Bool} {v:Value} {lo hi:Option SV} {lo' hi':Option Value} {K:SK} (hu:C.und t=some (.slice elem)) (hn:C.size elem=some sz)
 (hx:RV s.heap g σ.next (.sl id sz off len c op) v)
 (hlo:(lo=none/\lo'=none)\/∃a w,lo=some a/\lo'=some w/\RV s.heap g σ.next a w) (hhi:(hi=none/\hi'=none)\/∃a w,hi=some a/\hi'=some w/\RV s.heap g σ.next a w)
 (hw:sliceW σ id sz off len c op lo hi K):OpR C K σ s g A (ovalue (sliceA C t v lo' hi' none) s):=by
 unfold sliceW at hw
 split at hw
 · rename_i p a q b e1 e2
   obtain ⟨hps,hw⟩:=allP_iff.1 hw
   have hp:=hps.append
   have h1:=hp.2.cons.1
   have h2:=hp.2.cons.2.cons.1
   have b1':=bound_rel hlo e1 hp.1.append.1
   have b2':=bound_rel hhi e2 hp.1.append.2
   rw [ask_iff] at hw
   rcases sl_inv hx with ⟨eid,g1,g2,g3,rfl⟩ | ⟨g1,g2,rfl,rfl,rfl,rfl⟩
   · rw [list_slice hu hn]
     simp only [bounds_of b1' b2']
     obtain ⟨c1,c2,c3⟩:=cut2_own (n:=sz) (eid:=eid) (o:=off*sz) (op:=op) h1 h2
     by_cases h0:a=0
     · subst h0
       rw [c1 rfl]
       exact .val _ _ _ _ _ (hw.1 (by simp [eqNB])) (.sl _ _ _ _ _ _ eid g1 g2 h1) hs .refl
     · have hw2:=hw.2 (by simp [eqNB,h0])
       rw [ask_iff] at hw2
       by_cases hlt:a<c
       · rw [c2 hlt]
         refine .val _ _ _ _ _ (hw2.1 (by simp [ltNB,hlt])) ?_ hs .refl
         have:=RV.sl (h:=s.heap) (g:=g) (N:=σ.next) id sz (off+a) (b-a) (c-a) op eid g1 g2 (by omega)
         rwa [Nat.add_mul] at this
       · have hw3:=hw2.2 (by simp [ltNB];omega)
         rw [c3 h0 (by omega)]
         cases op with
         | true=>exact .val _ _ _ _ _ hw3 (.empS _ (.inr ⟨eid,_,_,rfl⟩)) hs .refl
         | false=>exact .val _ _ _ _ _ hw3 (.sl id sz off 0 0 false eid g1 g2 (Nat.le_refl _)) hs .refl
   · have hb0:b=0:=by omega
     have ha0:a=0:=by omega
     subst hb0 ha0
     rw [list_slice hu hn]
     simp only [bounds_of b1' b2']
     exact .val (.slice none 0 0) s _ _ _ (hw.1 rfl) (.slN _ _ _ g1 g2) hs .refl
 · exact hw.elim
theorem slice3_own (hs:Sim C σ s g A) {t:TypeId} {elem id sz off len c:Nat} {op:Bool} {v vm:Value} {lo hi:Option SV} {mx:SV} {lo' hi':Option Value} {K:SK} (hu:C.und t=some (.slice elem)) (hn:C.size elem=some sz)
 (hx:RV s.heap g σ.next (.sl id sz off len c op) v) (hm:RV s.heap g σ.next mx vm)
 (hlo:(lo=none/\lo'=none)\/∃a w,lo=some a/\lo'=some w/\RV s.heap g σ.next a w) (hhi:(hi=none/\hi'=none)\/∃a w,hi=some a/\hi'=some w/\RV s.heap g σ.next a w) (his:hi.isSome=hi'.isSome)
 (hhs:hi.isSome=true) (hw:slice3W σ id sz off c op lo hi mx K):OpR C K σ s g A (ovalue (sliceA C t v lo' hi' (some vm)) s):=by
 unfold slice3W at hw
 split at hw
 · rename_i p a q b r m e1 e2 e3
   obtain ⟨hps,hw⟩:=allP_iff.1 hw
   have hp:=hps.append
   have h1:=hp.2.cons.1
   have h2:=hp.2.cons.2.cons.1
   have h3:=hp.2.cons.2.cons.2.cons.1
   have b1':=bound_rel hlo e1 hp.1.append.1.append.1
   have b2':=bound_rel hhi e2 hp.1.append.1.append.2
   have b3':boundA (some vm) 0=some m:=bound_rel (x:=some mx) (v:=some vm) (.inr ⟨mx,vm,rfl,rfl,hm⟩) e3 hp.1.append.2
   have b2'':∀n,boundA hi' n=some b:=fun n=>by
    cases hi' with
    | none=>rw [hhs] at his;cases his
    | some w=>
      unfold boundA at b2' ⊢
      cases w<;>first | exact b2' | (rename_i k z;cases z<;>exact b2')
   rw [ask_iff] at hw
   rcases sl_inv hx with ⟨eid,g1,g2,g3,rfl⟩ | ⟨g1,g2,rfl,rfl,rfl,rfl⟩
   · have ecap:capOf (2*c+op.toNat)=c:=by unfold capOf;cases op<;>simp<;>omega
     have hcc:(Nat.ble m (capOf (2*c+op.toNat))&&(Nat.ble b m&&Nat.ble a b))=true:=by rw [ecap];simp only [is_ble h1,is_ble h2,is_ble h3,Bool.and_self]
     rw [list_slice hu hn]
     have hsome:hi'.isSome=true:=by rw [<-his];exact hhs
     simp only [hsome,cond_true,b3',bounds_of b1' (b2'' len),cut3,hcc]
     by_cases h0:a=0
     · subst h0
       have:=RV.sl (h:=s.heap) (g:=g) (N:=σ.next) id sz off b m false eid g1 g2 (by omega)
       have e:(bif Nat.beq m 0 then off*sz else off*sz+0*sz)=off*sz:=by cases Nat.beq m 0<;>simp
       rw [e]
       exact .val _ _ _ _ _ (hw.1 (by simp [eqNB])) this hs .refl
     · have hw2:=hw.2 (by simp [eqNB,h0])
       rw [ask_iff] at hw2
       by_cases hlt:m=a
       · have hz:b-a=0:=by omega
         subst hlt
         have:=RV.sl (h:=s.heap) (g:=g) (N:=σ.next) id sz off 0 0 false eid g1 g2 (Nat.le_refl _)
         simp only [Nat.beq_refl,cond_true,hz,Nat.sub_self,Nat.mul_zero]
         exact .val _ _ _ _ _ (hw2.1 (by simp [eqNB])) this hs .refl
       · rw [not_beq hlt]
         simp only [cond_false]
         have:=RV.sl (h:=s.heap) (g:=g) (N:=σ.next) id sz (off+a) (b-a) (m-a) false eid g1 g2 (by omega)
         rw [Nat.add_mul] at this
         exact .val _ _ _ _ _ (hw2.2 (by simp [eqNB,hlt])) this hs .refl
   · have hm0:m=0:=by omega
     have hb0:b=0:=by omega
     have ha0:a=0:=by omega
     have:=hp.2.cons.2.cons.2.cons.2.cons.1 rfl
     omega
 · exact hw.elim
end
end Go.Eng
