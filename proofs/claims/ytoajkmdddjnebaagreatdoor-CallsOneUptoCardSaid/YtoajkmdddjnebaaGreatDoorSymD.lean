import Derived.Test.YtoajkmdddjnebaaGreatDoorSymC
set_option linter.unusedSimpArgs false
set_option linter.unusedVariables false
namespace Go.Eng
section
variable {C:Cx} {σ:SS} {s:St} {g:Gh} {A:Nat->Prop}
theorem newPtr_rv {h:T Blk} {N e:Nat} (h1:σ.next<N):RV h (g.set σ.next (some e)) N (.ptr σ.next 0 0 0) (.pointer (some ⟨e,0,none⟩)):=by
 have:=RV.ptr (h:=h) (g:=g.set σ.next (some e)) (N:=N) σ.next 0 0 0 e h1 (Gh.set_same _ _ _)
 simpa using this
theorem new_cells (hs:Sim C σ s g A) {l:List SV} {cs:List Value} {t:TypeId} (hl:RL s.heap g σ.next l cs) (ho:oneL l=true):
 Sim C (σ.new (.cells l t)) (s.new (.cells cs t 0 none)) (g.set σ.next (some s.next)) A/\Xt σ s g A (σ.new (.cells l t)) (s.new (.cells cs t 0 none)) (g.set σ.next (some s.next)) A:=
 hs.new (.cells l cs t none hl (oneL_rel hl ho)) (fun q hq=>by cases hq)
theorem new_sliceB (hs:Sim C σ s g A) {n:Nat} {l:List SV} {cs:List Value} {t:TypeId} (hl:RL s.heap g σ.next l cs) (ho:oneL l=true):
 Sim C (σ.new (sliceB C n l t)) (s.new (.cells cs t 0 none)) (g.set σ.next (some s.next)) A/\Xt σ s g A (σ.new (sliceB C n l t)) (s.new (.cells cs t 0 none)) (g.set σ.next (some s.next)) A:=by
 cases l with
 | cons a r=>exact new_cells hs hl ho
 | nil=>
   obtain rfl:cs=[]:=List.length_eq_zero_iff.1 hl.1.symm
   unfold sliceB
   cases hb:isU8 C t with
   | true=>exact hs.new (.bytes [] t none) (fun q hq=>by cases hq)
   | false=>exact hs.new (.arr 0 n _ t [] none (by simp) (fun v hv=>by cases hv) (fun i hi=>by omega) (fun i j a v hi=>by omega)) (fun q hq=>by cases hq)
theorem makeSlice_rel (hs:Sim C σ s g A) {t:TypeId} {l c:SV} {vl vc:Value} {K:SK} (hl:RV s.heap g σ.next l vl) (hc:RV s.heap g σ.next c vc) (hw:makeSliceW C σ t l c K):
 OpR C K σ s g A (makeSliceA C t vl vc s):=by
 unfold makeSliceW at hw
 split at hw
 · rename_i elem k1 l k2 c hu
   cases hl;cases hc
   split at hw
   · rename_i ei z hei hz
     obtain ⟨h1,h2,h3,h4,h5,h6⟩:=hw
     obtain ⟨l,rfl⟩:=Int.eq_ofNat_of_zero_le h2
     obtain ⟨c,rfl⟩:=Int.eq_ofNat_of_zero_le (Int.le_trans h2 h3)
     simp only [Int.toNat_natCast] at h4 h5 h6
     have h3':l<=c:=Int.ofNat_le.1 h3
     obtain ⟨zv,hz1,hz2⟩:=zero_rel (h:=s.heap) (g:=g) (N:=σ.next) hz
     have hcond:(Nat.ble l c&&Nat.ble (ei.bytes*c) 1099511627776&&Nat.ble c 1099511627776)=true:=by
      simp only [is_ble h3',is_ble (show ei.bytes*c<=1099511627776 from h4),is_ble (show c<=1099511627776 from h5),Bool.and_self]
     have e:makeSliceA C t (.int k1 (l:Int)) (.int k2 (c:Int)) s= .ok (.value (.slice (some ⟨s.next,0,none⟩) l (2*c))) (s.new (.cells (cellsZero (cellsOf' zv) c) elem 0 none)):=by
      show (match C.und t,Value.int k1 (Int.ofNat l),Value.int k2 (Int.ofNat c) with
       | some (.slice elem),.int _ (.ofNat l),.int _ (.ofNat c)=>_
       | _,_,_=>_)=_
      simp only [hu,hei,hz1,hcond,cond_true]
     rw [e]
     have hb:RB s.heap g σ.next (bif isU8 C elem&&isZ8 z then .bytes (List.replicate c 0) elem else .arr c ei.size (fun _=>z) elem) (.cells (cellsZero (cellsOf' zv) c) elem 0 none):=by
      cases hq:(isU8 C elem&&isZ8 z) with
      | true=>
        simp only [cond_true]
        simp only [Bool.and_eq_true] at hq
        have hz8:=hq.2
        unfold isZ8 at hz8
        split at hz8
        · rename_i n
          have hn:=Nat.eq_of_beq_eq_true hz8
          subst hn
          obtain ⟨v,r,e1,e2,e3⟩:=hz2.cons_inv
          have:=e3.nil_inv;subst this
          cases e2
          rw [e1,show Int.ofNat 0=(0:Int) from rfl,zero_bytes]
          exact .bytes _ _ _
        · cases hz8
      | false=>
        simp only [cond_false]
        simp only [Bool.and_eq_true] at h1
        have:=zero_arr (g:=g) (hz2.free h1.2.2) h1.1 c
        rw [Nat.eq_of_beq_eq_true h1.2.1] at this
        exact this.rb _ _
     obtain ⟨k1',k2'⟩:=hs.new hb (fun q hq=>by cases hq)
     refine .val _ _ _ _ _ h6 ?_ k1' k2'
     have:=RV.sl (h:=(s.new (.cells (cellsZero (cellsOf' zv) c) elem 0 none)).heap) (g:=g.set σ.next (some s.next)) (N:=σ.next+1) σ.next ei.size 0 l c false s.next (Nat.lt_succ_self _) (Gh.set_same _ _ _) h3'
     rw [Nat.zero_mul] at this
     exact this
   · exact hw.elim
 · exact hw.elim
theorem call_rel (hs:Sim C σ s g A) {f:SV} {fv:Value} {args:List SV} {vs:List Value} {K:SK} (hf:RV s.heap g σ.next f fv) (ha:RL s.heap g σ.next args vs) (hw:callW f args C σ K):
 ∃d,ofValueA fv vs=some d/\OpR C K σ s g A (invokeA C d.target d.args.toList s):=by
 unfold callW at hw
 split at hw
 · rename_i f first captured
   cases hf with
   | fn _ _ _ va vc h1 h2 h3 h4=>
     refine ⟨_,rfl, ?_⟩
     have:=OpR.enter (C:=C) (s:=s) (g:=g) (A:=A) f _ (va++vs++vc) hw ((RL.append (RL.append ⟨h1,h2⟩ ha) ⟨h3,h4⟩))
     simpa [invokeA] using this
 · cases hf
   exact ⟨_,rfl,.pan _ _ hw nilDeref_rel⟩
 · exact hw.elim
theorem freeze_ok (hs:Sim C σ s g A) {id off len c st:Nat} {op:Bool} {v:Value} {b:List UInt8} {t:TypeId} (hv:RV s.heap g σ.next (.sl id 1 off len c op) v) (ho:σ.own.get id=some ⟨st,.bytes b t⟩)
 (hle:off+len<=b.length):∃g' A',Sim C (σ.drop id) s g' A'/\Xt σ s g A (σ.drop id) s g' A'/\RV s.heap g' (σ.drop id).next (.bytes 1 false (cutL b off len)) v:=by
 rcases sl_inv hv with ⟨eid,h1,h2,h3,rfl⟩ | ⟨h1,h2,rfl,rfl,rfl,rfl⟩
 · obtain ⟨c1,c2,c3,_⟩:=hs.own id _ ho
   obtain ⟨blk,k1,k2,k3,k4,k5⟩:=c3 eid h2
   have hold:∀l o,(σ.drop id).own.get l=some o->l≠id/\σ.own.get l=some o:=fun l o h=>by
    simp only [SS.drop,T.get_del] at h
    split at h
    · cases h
    · exact ⟨by assumption,h⟩
   have hgrow:Grow s.heap g σ.next s.heap ⟨g.ι,fun i=>g.H i\/i=eid,fun i=>g.F i\/i=eid⟩ (σ.drop id).next:=
    ⟨Nat.le_refl _,fun _ _=>rfl,fun _ h=> .inl h,fun _ h=> .inl h,fun _ _=>rfl,fun _ _=>rfl⟩
   refine ⟨⟨g.ι,fun i=>g.H i\/i=eid,fun i=>g.F i\/i=eid⟩,fun i=>A i\/i=eid,⟨fun l o hl=> ?_,fun l l' o o' e h1 h2 h3 h4=>hs.inj l l' o o' e (hold l o h1).2 (hold l' o' h2).2 h3 h4,
    fun i h=>h.imp (hs.HA i) (fun h=>h),fun i h=>h.imp (hs.FH i) (fun h=>h),fun i h=>h.elim (hs.lt i) (fun h=>h ▸ k4),hs.nd.next (fun _ h=> .inl h) fun _ _=>rfl⟩,
    ⟨hgrow,fun _ h=> .inl h,Nat.le_refl _,fun i h=>h.imp (fun h=>h) .inr,fun i h=> ?_,fun l o i hl hi=> .inr ⟨l,o,(hold l o hl).2,hi⟩,fun _ _=>rfl,fun _ _ _ _ _ _=>rfl,fun l o hl _=>(hold l o hl).2⟩, ?_⟩
   · obtain ⟨hne,hl'⟩:=hold l o hl
     obtain ⟨d1,d2,d3,d4⟩:=hs.own l o hl'
     refine ⟨d1,d2,fun e he=> ?_,d4⟩
     obtain ⟨bk,e1,e2,e3,e4,e5⟩:=d3 e he
     refine ⟨bk,e1,e2.mono hgrow, ?_,e4,fun q hq=> ?_⟩
     · rintro (h | rfl)
       · exact e3 h
       · exact hne (hs.inj l id o _ e hl' ho he h2)
     · obtain ⟨f1,f2,f3⟩:=e5 q hq
       refine ⟨?_,f2,fun l' o' hl''=>f3 l' o' (hold l' o' hl'').2⟩
       rintro (h | rfl)
       · exact f1 h
       · exact f3 id _ ho h2
   · rcases h with h | rfl
     · exact .inl h
     · exact .inr (.inr ⟨id,_,ho,h2⟩)
   · cases k2 with
     | bytes _ _ par=>
       have hlen:(cutL b off len).length=len:=by simp only [cutL,List.length_take,List.length_drop];omega
       have:=RV.bytes (h:=s.heap) (g:=⟨g.ι,fun i=>g.H i\/i=eid,fun i=>g.F i\/i=eid⟩) (N:=(σ.drop id).next) 1 false (cutL b off len) eid (off*1) (2*c+op.toNat) (b.map byteV) t 0 par (.inr rfl) k1
        (fun i x hi=>by
          simp only [cutL,List.getElem?_take,List.getElem?_drop] at hi
          split at hi
          · rw [Nat.mul_one,List.getElem?_map,hi];rfl
          · cases hi) (by rw [hlen];unfold capOf;cases op<;>simp<;>omega)
       rwa [hlen] at this
 · obtain ⟨q1,q2⟩:=hs.drop id
   exact ⟨g,A,q1,q2,by rw [show cutL b off 0=[] from by simp [cutL]];exact .bytesN 1⟩
theorem freezeA_ok (hs:Sim C σ s g A) {id sz off len c st m:Nat} {op:Bool} {v:Value} {f:Nat->List SV} {t:TypeId} (hv:RV s.heap g σ.next (.sl id sz off len c op) v) (ho:σ.own.get id=some ⟨st,.arr m sz f t⟩)
 (hle:off+len<=m):∃g' A',Sim C (σ.drop id) s g' A'/\Xt σ s g A (σ.drop id) s g' A'/\RV s.heap g' (σ.drop id).next (.imm 1 false len sz fun i=>f (off+i)) v:=by
 rcases sl_inv hv with ⟨eid,h1,h2,h3,rfl⟩ | ⟨h1,h2,rfl,rfl,rfl,rfl⟩
 · obtain ⟨c1,c2,c3,_⟩:=hs.own id _ ho
   obtain ⟨blk,k1,k2,k3,k4,k5⟩:=c3 eid h2
   have hold:∀l o,(σ.drop id).own.get l=some o->l≠id/\σ.own.get l=some o:=fun l o h=>by
    simp only [SS.drop,T.get_del] at h
    split at h
    · cases h
    · exact ⟨by assumption,h⟩
   have hgrow:Grow s.heap g σ.next s.heap ⟨g.ι,fun i=>g.H i\/i=eid,fun i=>g.F i\/i=eid⟩ (σ.drop id).next:=
    ⟨Nat.le_refl _,fun _ _=>rfl,fun _ h=> .inl h,fun _ h=> .inl h,fun _ _=>rfl,fun _ _=>rfl⟩
   have hgrow':Grow s.heap g.frz 0 s.heap (Gh.frz ⟨g.ι,fun i=>g.H i\/i=eid,fun i=>g.F i\/i=eid⟩) 0:=
    ⟨Nat.le_refl _,fun _ _=>rfl,fun _ h=> .inl h,fun _ h=> .inl h,fun _ _=>rfl,fun _ _=>rfl⟩
   refine ⟨⟨g.ι,fun i=>g.H i\/i=eid,fun i=>g.F i\/i=eid⟩,fun i=>A i\/i=eid,⟨fun l o hl=> ?_,fun l l' o o' e h1 h2 h3 h4=>hs.inj l l' o o' e (hold l o h1).2 (hold l' o' h2).2 h3 h4,
    fun i h=>h.imp (hs.HA i) (fun h=>h),fun i h=>h.imp (hs.FH i) (fun h=>h),fun i h=>h.elim (hs.lt i) (fun h=>h ▸ k4),hs.nd.next (fun _ h=> .inl h) fun _ _=>rfl⟩,
    ⟨hgrow,fun _ h=> .inl h,Nat.le_refl _,fun i h=>h.imp (fun h=>h) .inr,fun i h=> ?_,fun l o i hl hi=> .inr ⟨l,o,(hold l o hl).2,hi⟩,fun _ _=>rfl,fun _ _ _ _ _ _=>rfl,fun l o hl _=>(hold l o hl).2⟩, ?_⟩
   · obtain ⟨hne,hl'⟩:=hold l o hl
     obtain ⟨d1,d2,d3,d4⟩:=hs.own l o hl'
     refine ⟨d1,d2,fun e he=> ?_,d4⟩
     obtain ⟨bk,e1,e2,e3,e4,e5⟩:=d3 e he
     refine ⟨bk,e1,e2.mono hgrow, ?_,e4,fun q hq=> ?_⟩
     · rintro (h | rfl)
       · exact e3 h
       · exact hne (hs.inj l id o _ e hl' ho he h2)
     · obtain ⟨f1,f2,f3⟩:=e5 q hq
       refine ⟨?_,f2,fun l' o' hl''=>f3 l' o' (hold l' o' hl'').2⟩
       rintro (h | rfl)
       · exact f1 h
       · exact f3 id _ ho h2
   · rcases h with h | rfl
     · exact .inl h
     · exact .inr (.inr ⟨id,_,ho,h2⟩)
   · cases k2 with
     | arr _ _ _ _ cs par q1 q2 q3 q4=>
       have hm:off*sz+len*sz<=m*sz:=by rw [<-Nat.add_mul];exact Nat.mul_le_mul_right _ hle
       have hlt:∀i j,i<len->j<sz->off*sz+(i*sz+j)<cs.length:=by
        intro i j hi hj
        have hb2:(i+1)*sz<=len*sz:=Nat.mul_le_mul_right _ hi
        rw [Nat.add_mul,Nat.one_mul] at hb2
        omega
       refine .imm 1 false len sz _ eid (off*sz) _ cs t 0 par (fun i j=>cs.getD (off*sz+(i*sz+j)) undef) (.inr rfl) k1 (by omega) (fun i hi=>q3 _ (by omega)) (fun i j hi hj=> ?_) (fun i j a hi ha=> ?_) (by unfold capOf;cases op<;>simp<;>omega)
       · have:=hlt i j hi hj
         have e5:cs[off*sz+(i*sz+j)]? =some (cs.getD (off*sz+(i*sz+j)) undef):=by rw [List.getElem?_eq_getElem this,List.getD_eq_getElem?_getD,List.getElem?_eq_getElem this];rfl
         exact ⟨e5,q2 _ (List.mem_of_getElem? e5)⟩
       · have hj:j<sz:=by have:=(List.getElem?_eq_some_iff.1 ha).1;rwa [q3 _ (by omega)] at this
         have:=hlt i j hi hj
         refine (q4 (off+i) j a _ (by omega) ha ?_).mono hgrow'
         rw [Nat.add_mul,Nat.add_assoc,List.getElem?_eq_getElem this,List.getD_eq_getElem?_getD,List.getElem?_eq_getElem this];rfl
 · obtain ⟨q1,q2⟩:=hs.drop id
   exact ⟨g,A,q1,q2,.immN 1 sz _⟩
theorem frzV_ok (hs:Sim C σ s g A) {a a':SV} {v:Value} {ps:List Prop} {σ':SS} (hv:RV s.heap g σ.next a v) (h:frzV σ a=(ps,a',σ')) (hps:PS ps) (ho:a.one=true):
 ∃g' A',Sim C σ' s g' A'/\Xt σ s g A σ' s g' A'/\RV s.heap g' σ'.next a' v/\a'.one=true:=by
 have same:(([]:List Prop),a,σ)=(ps,a',σ')->∃g' A',Sim C σ' s g' A'/\Xt σ s g A σ' s g' A'/\RV s.heap g' σ'.next a' v/\a'.one=true:=by
  intro h
  cases h
  exact ⟨g,A,hs,.refl,hv,ho⟩
 unfold frzV at h
 split at h
 · rename_i id sz off len c op
   split at h
   · rename_i st b t hown
     cases hz:Nat.beq sz 1 with
     | false=>rw [hz] at h;exact same h
     | true=>
       have hz':=Nat.eq_of_beq_eq_true hz
       subst hz'
       rw [hz] at h
       simp only [cond_true] at h
       cases h
       obtain ⟨g',A',q1,q2,q3⟩:=freeze_ok hs hv hown hps.cons.1
       exact ⟨g',A',q1,q2,q3,rfl⟩
   · rename_i st m sz' f t hown
     cases hz:Nat.beq sz sz' with
     | false=>rw [hz] at h;exact same h
     | true=>
       have hz':=Nat.eq_of_beq_eq_true hz
       subst hz'
       rw [hz] at h
       simp only [cond_true] at h
       cases h
       obtain ⟨g',A',q1,q2,q3⟩:=freezeA_ok hs hv hown hps.cons.1
       exact ⟨g',A',q1,q2,q3,rfl⟩
   · exact same h
 · exact same h
theorem frzL_ok:∀{l:List SV} {vs:List Value} {σ:SS} {s:St} {g:Gh} {A:Nat->Prop} (hs:Sim C σ s g A) {ps:List Prop} {l':List SV} {σ':SS},RL s.heap g σ.next l vs->frzL σ l=(ps,l',σ')->PS ps->oneL l=true->
 ∃g' A',Sim C σ' s g' A'/\Xt σ s g A σ' s g' A'/\RL s.heap g' σ'.next l' vs/\oneL l'=true
 | [],vs,σ,s,g,A,hs,ps,l',σ',hl,h,hps,ho=>by
   simp only [frzL] at h;cases h
   exact ⟨g,A,hs,.refl,hl,rfl⟩
 | a::r,vs,σ,s,g,A,hs,ps,l',σ',hl,h,hps,ho=>by
   obtain ⟨v,ws,rfl,h1,h2⟩:=hl.cons_inv
   simp only [oneL,Bool.and_eq_true] at ho
   simp only [frzL] at h
   generalize hf:frzV σ a=x at h
   obtain ⟨p,a1,σ1⟩:=x
   simp only at h
   generalize hg:frzL σ1 r=y at h
   obtain ⟨q,r1,σ2⟩:=y
   simp only at h
   cases h
   obtain ⟨g1,A1,s1,x1,v1,o1⟩:=frzV_ok hs h1 hf hps.append.1 ho.1
   obtain ⟨g2,A2,s2,x2,v2,o2⟩:=frzL_ok s1 (h2.mono x1.grow) hg hps.append.2 ho.2
   exact ⟨g2,A2,s2,x1.trans hs x2,.cons (v1.mono x2.grow) v2,by simp only [oneL,o1,o2,Bool.and_self]⟩
theorem op_sound (hs:Sim C σ s g A) {e:SE} {e':E} (he:RE s.heap g σ.next e e') {o:Oper} {K:SK} (hw:opW C e o σ K):
 commSel o.op C e' o s=none/\OpR C K σ s g A (opSel o.op C e' o s):=by
 unfold opW at hw
 split at hw
 · rename_i ps v hv
   obtain ⟨hps,hk⟩:=allP_iff.1 hw
   obtain ⟨w,h1,h2,h3⟩:=val_sound hs he (o:=o) rfl hv hps
   exact ⟨h3,by rw [h1];exact .val w s v σ g hk h2 hs .refl⟩
 · rename_i hv
   split at hw
   · -- pick
     rename_i c a b hop
     split at hw
     · rename_i p cb q a' r b' h1 h2 h3
       obtain ⟨hp,hw⟩:=allP_iff.1 hw
       obtain ⟨vc,g1,g2⟩:=arg_rel he h1 rfl hp
       cases g2
       rw [ask_iff] at hw
       cases cb with
       | true=>
         obtain ⟨hq,hk⟩:=allP_iff.1 (hw.1 rfl)
         obtain ⟨v,g3,g4⟩:=arg_rel he h2 rfl hq
         exact ⟨by rw [hop];rfl,by rw [hop];simp only [opSel,g1,g3,ovalue];exact .val _ _ _ _ _ hk g4 hs .refl⟩
       | false=>
         obtain ⟨hq,hk⟩:=allP_iff.1 (hw.2 rfl)
         obtain ⟨v,g3,g4⟩:=arg_rel he h3 rfl hq
         exact ⟨by rw [hop];rfl,by rw [hop];simp only [opSel,g1,g3,ovalue];exact .val _ _ _ _ _ hk g4 hs .refl⟩
     · exact hw.elim
   · -- alloc
     rename_i t hop
     split at hw
     · rename_i z hz
       obtain ⟨zv,h1,h2⟩:=zero_rel (h:=s.heap) (g:=g) (N:=σ.next) hz
       cases ho:oneL z with
       | false=>rw [ho] at hw;exact hw.elim
       | true=>
       rw [ho] at hw
       obtain ⟨k1,k2⟩:=new_cells hs (t:=t) h2 ho
       exact ⟨by rw [hop];rfl,by rw [hop];simp only [opSel,h1];exact .val _ _ _ _ _ hw (newPtr_rv (Nat.lt_succ_self _)) k1 k2⟩
     · exact hw.elim
   · -- box
     rename_i t x hop
     split at hw
     · rename_i p v n h1 hn
       split at hw
       · rename_i cs hcs
         cases ho:oneL cs with
         | false=>rw [ho] at hw;exact hw.elim
         | true=>
         rw [ho] at hw
         obtain ⟨hp,hk⟩:=allP_iff.1 hw
         obtain ⟨w,h2,h3⟩:=arg_rel he h1 rfl hp
         obtain ⟨k1,k2⟩:=new_cells hs (t:=t) (cells_rel h3 hcs) ho
         exact ⟨by rw [hop];rfl,by rw [hop];simp only [opSel,h2,hn];exact .val _ _ _ _ _ hk (newPtr_rv (Nat.lt_succ_self _)) k1 k2⟩
       · exact hw.elim
     · exact hw.elim
   · -- buildSlice
     rename_i t len parts hop
     split at hw
     · rename_i p ps elem h1 hu
       split at hw
       · rename_i n z hn hz
         split at hw
         · rename_i l hf
           cases hc:(Nat.ble (len*n) 16777216&&oneL l) with
           | false=>rw [hc] at hw;exact hw.elim
           | true=>
           rw [hc] at hw
           simp only [Bool.and_eq_true] at hc
           simp only [cond_true] at hw
           generalize hfz:frzL σ l=fz at hw
           obtain ⟨pz,lz,σz⟩:=fz
           simp only at hw
           obtain ⟨hpp,hk⟩:=allP_iff.1 hw
           have hp:=hpp.append.1
           obtain ⟨qs,h2,h3⟩:=parts_rel he rfl h1 hp
           obtain ⟨zv,h4,h5⟩:=zero_rel (h:=s.heap) (g:=g) (N:=σ.next) hz
           have hzz:∀m,RL s.heap g σ.next (cellsZeroS z m) (cellsZero (cellsOf' zv) m):=by
            intro m
            induction m with
            | zero=>exact .nil
            | succ m ih=>exact h5.append ih
           obtain ⟨r',h6,h7⟩:=fill_rel h3 (hzz len) hf
           obtain ⟨gz,Az,sz1,xz,rz,oz⟩:=frzL_ok hs h7 hfz hpp.append.2 hc.2
           obtain ⟨k1,k2⟩:=new_sliceB (n:=n) sz1 (t:=elem) rz oz
           refine ⟨by rw [hop];rfl, ?_⟩
           rw [hop]
           simp only [opSel,h2,buildSliceA,hu,hn,h4,hc.1,cond_true,h6]
           refine .val _ _ _ _ _ hk ?_ k1 (xz.trans hs k2)
           have:=RV.sl (h:=(s.new (.cells r' elem 0 none)).heap) (g:=gz.set σz.next (some s.next)) (N:=σz.next+1) σz.next n 0 len len false s.next (Nat.lt_succ_self _) (Gh.set_same _ _ _) (Nat.le_refl _)
           rw [Nat.zero_mul] at this
           exact this
         · exact hw.elim
       · exact hw.elim
     · exact hw.elim
   · -- store
     rename_i t a x hop
     split at hw
     · rename_i p a' q v h1 h2
       split at hw
       · rename_i r σ' h3
         obtain ⟨hps,hk⟩:=allP_iff.1 hw
         have hp:=hps.append
         obtain ⟨pv,g1,g2⟩:=arg_rel he h1 rfl hp.1.append.1
         obtain ⟨w,g3,g4⟩:=arg_rel he h2 rfl hp.1.append.2
         unfold storeS at h3
         split at h3
         · rename_i n hn
           split at h3
           · rename_i cs hcs
             cases hc:(Nat.beq cs.length n&&oneL cs) with
             | false=>rw [hc] at h3;cases h3
             | true=>
             rw [hc] at h3
             simp only [cond_true] at h3
             simp only [Bool.and_eq_true] at hc
             have hr:=cells_rel g4 hcs
             obtain ⟨id,off,s',rfl,i1,i2,i3⟩:=store_rel hs g2 hr hc.2 h3 hp.2
             refine ⟨by rw [hop];rfl, ?_⟩
             rw [hop]
             have hl:Nat.beq (cellsOf' w).length n=true:=by rw [<-hr.1];exact hc.1
             simp only [opSel,g1,g3,storeA,hn,hl,cond_true,i1,ostate]
             exact .val _ _ _ _ _ hk (.undef _) i2 i3
           · cases h3
         · cases h3
       · exact hw.elim
     · exact hw.elim
   · -- nilCheck
     rename_i x hop
     split at hw
     all_goals first | (rename_i p h1;obtain ⟨hp,hk⟩:=allP_iff.1 hw;obtain ⟨v,h2,h3⟩:=arg_rel he h1 rfl hp;cases h3;exact ⟨by rw [hop];rfl,by rw [hop];simp only [opSel,h2];exact .pan _ _ hk nilDeref_rel⟩) | exact hw.elim
   · -- convert
     rename_i src dst x hop
     split at hw
     · rename_i p l d el h1 hsd hdd
       cases hu:isU8 C el with
       | false=>rw [hu] at hw;exact hw.elim
       | true=>
       rw [hu] at hw
       obtain ⟨hp,hl,hk⟩:=allP_iff.1 hw
       obtain ⟨v,h2,h3⟩:=arg_rel he h1 rfl hp
       cases h3
       obtain ⟨u1,u2⟩:=u8_inv hu
       obtain ⟨k1,k2⟩:=hs.new (b:= .bytes l el) (blk:= .cells (l.map byteV) el 0 none) (.bytes _ _ _) (fun q hq=>by cases hq)
       refine ⟨by rw [hop];rfl, ?_⟩
       rw [hop]
       have hsz:(⟨⟨l⟩⟩:ByteArray).size=l.length:=rfl
       have hbl:Nat.blt l.length 1099511627776=true:=blt_true hl
       simp only [opSel,h2,convA,hsd,hdd,u1,u2,hsz,hbl,Nat.beq_refl,Bool.and_self,cond_true]
       exact .val _ _ _ _ _ hk (rv_newS (Nat.lt_succ_self _)) k1 k2
     · exact hw.elim
   · -- makeSlice
     rename_i t l c hop
     split at hw
     · rename_i p l' q c' h1 h2
       obtain ⟨hps,hk⟩:=allP_iff.1 hw
       obtain ⟨vl,g1,g2⟩:=arg_rel he h1 rfl hps.append.1
       obtain ⟨vc,g3,g4⟩:=arg_rel he h2 rfl hps.append.2
       exact ⟨by rw [hop];rfl,by rw [hop];simp only [opSel,g1,g3];exact makeSlice_rel hs g2 g4 hk⟩
     · exact hw.elim
   · -- slice
     rename_i t x lo hi mx hop
     split at hw
     · rename_i p id sz off len c op q lo' r hi' w mx' h1 h2 h3 h4
       split at hw
       · rename_i elem hu
         split at hw
         · rename_i n hn
           cases hb:Nat.beq n sz with
           | false=>rw [hb] at hw;exact hw.elim
           | true=>
           rw [hb] at hw
           have:=Nat.eq_of_beq_eq_true hb;subst this
           obtain ⟨hps,hk⟩:=allP_iff.1 hw
           have hp1:=hps.append
           have hp2:=hp1.1.append
           have hp3:=hp2.1.append
           obtain ⟨vx,g1,g2⟩:=arg_rel he h1 rfl hp3.1
           obtain ⟨vlo,g3,g4,_⟩:=opt_rel he h2 rfl hp3.2
           obtain ⟨vhi,g5,g6,g6'⟩:=opt_rel he h3 rfl hp2.2
           obtain ⟨vmx,g7,g8,_⟩:=opt_rel he h4 rfl hp1.2
           refine ⟨by rw [hop];rfl, ?_⟩
           rw [hop]
           simp only [opSel,g1,g3,g5,g7]
           rcases g8 with ⟨rfl,rfl⟩ | ⟨a,wv,rfl,rfl,g9⟩
           · exact slice_own hs hu hn g2 g4 g6 hk
           · simp only at hk
             cases hh:hi'.isSome with
             | false=>rw [hh] at hk;exact hk.elim
             | true=>
               rw [hh] at hk
               exact slice3_own hs hu hn g2 g9 g4 g6 g6' hh hk
         · exact hw.elim
       · exact hw.elim
     · exact hw.elim
   · -- call
     rename_i c hop
     split at hw
     · exact hw.elim
     · rename_i p args h1
       split at hw
       · rename_i hcal
         split at hw
         · rename_i st xt dst x hat
           obtain ⟨hp,hk⟩:=allP_iff.1 hw
           obtain ⟨vs,g1,g2⟩:=argsW_rel he rfl h1 hp
           obtain ⟨v,r,rfl,g3,g4⟩:=g2.cons_inv
           obtain ⟨w,r',rfl,g5,g6⟩:=g4.cons_inv
           have:=g6.nil_inv;subst this
           refine ⟨by rw [hop];rfl, ?_⟩
           rw [hop]
           simp only [opSel,resolveA,g1,hcal,invokeA,builtinA,builtinSel,hat]
           exact append_rel hs g3 g5 hk
         · exact hw.elim
       · rename_i hcal
         obtain ⟨hp,hk⟩:=allP_iff.1 hw
         obtain ⟨vs,g1,g2⟩:=argsW_rel he rfl h1 hp
         refine ⟨by rw [hop];rfl, ?_⟩
         rw [hop]
         simp only [opSel,resolveA,g1,hcal,invokeA,builtinA,builtinSel]
         exact .recover hk
       · exact hw.elim
       · exact hw.elim
       · rename_i f hcal
         split at hw
         · rename_i q f' h2
           obtain ⟨hps,hk⟩:=allP_iff.1 hw
           obtain ⟨vs,g1,g2⟩:=argsW_rel he rfl h1 hps.append.1
           obtain ⟨vf,g3,g4⟩:=arg_rel he h2 rfl hps.append.2
           obtain ⟨d,g5,g6⟩:=call_rel hs g4 g2 hk
           refine ⟨by rw [hop];rfl, ?_⟩
           rw [hop]
           simp only [opSel,resolveA,g1,hcal,g3,g5]
           exact g6
         · exact hw.elim
   · -- defer
     rename_i c hop
     split at hw
     · exact hw.elim
     · rename_i p args h1
       split at hw
       · rename_i f hcal
         split at hw
         · rename_i q f' first captured h2
           obtain ⟨hps,hk⟩:=allP_iff.1 hw
           obtain ⟨vs,g1,g2⟩:=argsW_rel he rfl h1 hps.append.1
           obtain ⟨vf,g3,g4⟩:=arg_rel he h2 rfl hps.append.2
           cases g4 with
           | fn _ _ _ va vc i1 i2 i3 i4=>
             refine ⟨by rw [hop];rfl, ?_⟩
             rw [hop]
             simp only [opSel,resolveA,g1,hcal,g3,ofValueA]
             exact .dfr _ _ hk ⟨vc,va++vs,rfl,⟨i3,i4⟩,RL.append ⟨i1,i2⟩ g2⟩
         · exact hw.elim
       · exact hw.elim
   · -- panic
     rename_i x hop
     split at hw
     · rename_i p t v h1
       obtain ⟨hp,hk⟩:=allP_iff.1 hw
       obtain ⟨w,h2,h3⟩:=arg_rel he h1 rfl hp
       refine ⟨by rw [hop];rfl, ?_⟩
       rw [hop]
       cases h3 with
       | ifc _ _ v' h4=>
         simp only [opSel,h2,panicA]
         exact .pan _ _ hk (.ifc _ _ _ h4)
     · exact hw.elim
   · exact hw.elim
end
end Go.Eng
namespace Go.Eng
section
variable {C:Cx} {σ:SS} {s:St} {g:Gh} {A:Nat->Prop}
structure Wk (s:St) (g:Gh) (A:Nat->Prop) (s':St) (g':Gh) (A':Nat->Prop):Prop where
 sub:∀id,A id->A' id
 snx:s.next<=s'.next
 hm:∀id,g.H id->g'.H id
 fm:∀id,g.F id->g'.F id
 hf:∀id,g'.H id->g.H id\/g'.F id
 prot:∀id,A id->s'.heap.get id=s.heap.get id
theorem Wk.refl {s:St} {g:Gh} {A:Nat->Prop}:Wk s g A s g A:=⟨fun _ h=>h,Nat.le_refl _,fun _ h=>h,fun _ h=>h,fun _ h=> .inl h,fun _ _=>rfl⟩
theorem Wk.trans {s s' s'':St} {g g' g'':Gh} {A A' A'':Nat->Prop} (a:Wk s g A s' g' A') (b:Wk s' g' A' s'' g'' A''):Wk s g A s'' g'' A'':=
 ⟨fun id h=>b.sub id (a.sub id h),Nat.le_trans a.snx b.snx,fun id h=>b.hm id (a.hm id h),fun id h=>b.fm id (a.fm id h),fun id h=>(b.hf id h).elim (fun h=>(a.hf id h).imp (fun x=>x) fun h=>b.fm id h) .inr,
   fun id h=>(b.prot id (a.sub id h)).trans (a.prot id h)⟩
theorem Xt.wk {σ σ':SS} {s s':St} {g g':Gh} {A A':Nat->Prop} (x:Xt σ s g A σ' s' g' A'):Wk s g A s' g' A':=⟨x.sub,x.snx,x.grow.H,x.grow.F,x.hf,x.prot⟩
structure Wx (fl:Bool) (base:List Nat) (σ:SS) (s:St) (g:Gh) (A:Nat->Prop) (σ':SS) (s':St) (g':Gh) (A':Nat->Prop):Prop where
 wk:Wk s g A s' g' A'
 hf2:∀id,g'.F id->g.F id\/s.next<=id\/∃l o,σ.own.get l=some o/\g.ι l=some id
 src:∀l o id,σ'.own.get l=some o->g'.ι l=some id->s.next<=id\/∃l o,σ.own.get l=some o/\g.ι l=some id
 base:∀l,l∈base->l<σ.next->g'.ι l=g.ι l/\l<σ'.next
 xt:fl=true->Xt σ s g A σ' s' g' A'
theorem Xt.wx {fl:Bool} {base:List Nat} {σ σ':SS} {s s':St} {g g':Gh} {A A':Nat->Prop} (x:Xt σ s g A σ' s' g' A'):Wx fl base σ s g A σ' s' g' A':=
 ⟨x.wk,x.hf2,x.src,fun l _ h=>⟨x.grow.ι l h,Nat.lt_of_lt_of_le h x.grow.n⟩,fun _=>x⟩
theorem Wx.refl {fl:Bool} {base:List Nat}:Wx fl base σ s g A σ s g A:=Xt.refl.wx
theorem Wx.trans {fl:Bool} {base:List Nat} {σ' σ'':SS} {s' s'':St} {g' g'':Gh} {A' A'':Nat->Prop} (hs:Sim C σ s g A) (a:Wx fl base σ s g A σ' s' g' A') (b:Wx fl base σ' s' g' A' σ'' s'' g'' A''):
 Wx fl base σ s g A σ'' s'' g'' A'' where
 wk:=a.wk.trans b.wk
 hf2 id h:=by
  rcases b.hf2 id h with h | h | ⟨l,o,h1,h2⟩
  · exact a.hf2 id h
  · exact .inr (.inl (Nat.le_trans a.wk.snx h))
  · exact .inr (a.src l o id h1 h2)
 src l o id h1 h2:=by
  rcases b.src l o id h1 h2 with h | ⟨l',o',h3,h4⟩
  · exact .inl (Nat.le_trans a.wk.snx h)
  · exact a.src l' o' id h3 h4
 base l hl h:=by
  have h1:=a.base l hl h
  have h2:=b.base l hl h1.2
  exact ⟨h2.1.trans h1.1,h2.2⟩
 xt h:=Xt.trans hs (a.xt h) (b.xt h)
def CR (C:Cx) (fl:Bool) (base:List Nat) (k:SKont) (σ:SS) (s:St) (g:Gh) (A:Nat->Prop):COut->Prop
 | .fin x e u s'=>∃sx se su σ' g' A',k sx se su σ'/\RX s'.heap g' σ'.next sx x/\RE s'.heap g' σ'.next se e/\RM s'.heap g' σ'.next su u/\Sim C σ' s' g' A'/\Wx fl base σ s g A σ' s' g' A'
 | .fail=>False
def FR (C:Cx) (kr:KR) (kp:KP) (σ:SS) (s:St) (g:Gh) (A:Nat->Prop):FOut->Prop
 | .returned v u s'=>∃a su σ' g' A',kr a su σ'/\RV s'.heap g' σ'.next a v/\RM s'.heap g' σ'.next su u/\Sim C σ' s' g' A'/\Xt σ s g A σ' s' g' A'
 | .panicked ch u s'=>∃c su σ' g' A',kp c su σ'/\RC s'.heap g' σ'.next c ch/\RM s'.heap g' σ'.next su u/\Sim C σ' s' g' A'/\Xt σ s g A σ' s' g' A'
 | .fail=>False
inductive CallTo (C:Cx) (d:Bool) (f:FuncId) (args:List Value) (u:FrameMode) (s:St):FOut->Prop where
 | body (fn:Func) (out:FOut) (M:Nat):C.funcs.get f=some fn->fn.body.isSome=true->(∀n,M<=n->(recOf C n).call d f args u s=out)->CallTo C d f args u s out
 | ext (v:Value) (s':St):d=false->callFuncA C f args s= .ok (.value v) s'->CallTo C d f args u s (.returned v u s')
structure RecWOk (C:Cx) (rw:SRec):Prop where
 call:∀d f l u σ kr kp,rw.call d f l u σ kr kp->∀s g A args eu,Sim C σ s g A->RL s.heap g σ.next l args->RM s.heap g σ.next u eu->
  ∃out,CallTo C d f args eu s out/\FR C kr kp σ s g A out
 pure:∀f P,rw.pure f=some P->∀x l σ,P.cond x l σ->∀s g A args,Sim C σ s g A->RL s.heap g σ.next l args->
  ∃v s' g' A',CallTo C false f args .run s (.returned v .run s')/\RV s'.heap g' σ.next (P.val x) v/\Sim C σ s' g' A'/\Xt σ s g A σ s' g' A'
theorem enter_of {f:FuncId} {args:List Value} {fn:Func} (h1:C.funcs.get f=some fn) (h2:fn.body.isSome=true):callFuncA C f args s= .ok (.enter f args) s:=by
 unfold callFuncA
 rw [h1]
 cases hb:fn.body with
 | none=>rw [hb] at h2;cases h2
 | some b=>simp only [hb]
theorem put_rel {h:T Blk} {N:Nat} {e e2:SE} {e':E} {d:Option Tmp} {a:SV} {v:Value} (he:RE h g N e e') (hv:RV h g N a v) (hp:e.put d a=some e2):
 ∃e2',e'.put d v=some e2'/\RE h g N e2 e2':=by
 cases d with
 | none=>
   simp only [SE.put,Option.some.injEq] at hp;subst hp
   exact ⟨e',rfl,he⟩
 | some t=>
   obtain ⟨tm,n,ds⟩:=e
   simp only [SE.put] at hp
   cases hb:Nat.blt t n with
   | false=>rw [hb] at hp;cases hp
   | true=>
     rw [hb] at hp
     simp only [cond_true,Option.some.injEq] at hp
     subst hp
     obtain ⟨tm',n',ds'⟩:=e'
     have hn:n'=n:=he.n
     subst hn
     refine ⟨⟨tm'.set t v,n',ds'⟩,by simp only [E.put,hb,cond_true],⟨rfl,fun x a' hx=> ?_,he.defers⟩⟩
     simp only [T.get_set] at hx ⊢
     by_cases e:x=t
     · subst e
       simp only [if_true,Option.some.injEq] at hx ⊢
       subst hx
       exact ⟨v,rfl,hv⟩
     · rw [if_neg e] at hx ⊢
       exact he.tmps x a' hx
theorem RE.setTmp {h:T Blk} {N:Nat} {e:SE} {e':E} {t:Nat} {a:SV} {v:Value} (he:RE h g N e e') (ht:e'.tmps.get t=some v) (hv:RV h g N a v):RE h g N {e with tmps:=e.tmps.set t a} e':=
 ⟨he.n,fun x a' hx=>by
   simp only [T.get_set] at hx
   by_cases e:x=t
   · subst e
     simp only [if_true,Option.some.injEq] at hx
     subst hx
     exact ⟨v,ht,hv⟩
   · rw [if_neg e] at hx;exact he.tmps x a' hx,he.defers⟩
theorem rec_rel {h:T Blk} {N:Nat} {cf:SCf} {su:SMode} {u:FrameMode} (hu:RM h g N su u):∃v u',recA ⟨cf.fn,cf.dfr,none⟩ u=some (v,u')/\RV h g N (recS cf su).1 v/\RM h g N (recS cf su).2 u':=by
 unfold recA recS
 cases cf.dfr with
 | false=>exact ⟨.nilIface,u,rfl,.nilI,hu⟩
 | true=>
   simp only [cond_true]
   cases su with
   | run=>cases u<;>simp only [RM] at hu;exact ⟨.nilIface,.run,rfl,.nilI,trivial⟩
   | returning=>cases u<;>simp only [RM] at hu;exact ⟨.nilIface,.returning,rfl,.nilI,trivial⟩
   | panicking c=>
     cases u<;>simp only [RM] at hu
     rename_i c'
     cases c with
     | nil=>
       cases c' with
       | nil=>exact ⟨.nilIface,_,rfl,.nilI,trivial⟩
       | cons p r=>exact hu.elim
     | cons a r=>
       obtain ⟨a,b⟩:=a
       cases c' with
       | nil=>exact hu.elim
       | cons p r'=>
         obtain ⟨h1,h2,h3,h4⟩:=hu
         obtain ⟨pv,pr,pg⟩:=p
         simp only at h1 h2 h3
         subst h2 h3
         cases pr with
         | false=>exact ⟨pv,_,rfl,h1,h1,rfl,rfl,h4⟩
         | true=>exact ⟨.nilIface,_,rfl,.nilI,h1,rfl,rfl,h4⟩
theorem step'_sound {rw:SRec} (hrec:RecWOk C rw) (hs:Sim C σ s g A) {e:SE} {e':E} {su:SMode} {u:FrameMode} (he:RE s.heap g σ.next e e') (hu:RM s.heap g σ.next su u) {cf:SCf} {ops:List Oper} {o:Oper} {k:SKont}
 (hwant:wantedA ops e' o=some true) (hw:stepW' C rw cf o e su σ k):
 ∃out M,(∀n,M<=n->opStep C (recOf C n) ⟨cf.fn,cf.dfr,none⟩ ops o e' u s=out)/\CR C true [] k σ s g A out:=by
 unfold stepW' at hw
 obtain ⟨hcomm,hop⟩:=op_sound hs he hw
 have putk:∀{a:SV} {v:Value} {su:SMode} {u:FrameMode} {σ':SS} {s':St} {g':Gh} {A':Nat->Prop} {e:SE} {e':E},putW e o.dst a su σ' k->RE s'.heap g' σ'.next e e'->RV s'.heap g' σ'.next a v->RM s'.heap g' σ'.next su u->Sim C σ' s' g' A'->Xt σ s g A σ' s' g' A'->
  ∃e2,e'.put o.dst v=some e2/\CR C true [] k σ s g A (.fin .normal e2 u s'):=by
  intro a v su u σ' s' g' A' e e' hp h1 h2 h3 h4 h5
  unfold putW at hp
  split at hp
  · rename_i e2 hp2
    obtain ⟨e2',g1,g2⟩:=put_rel h1 h2 hp2
    exact ⟨e2',g1,.normal,e2,su,σ',g',A',hp,trivial,g2,h3,h4,h5.wx⟩
  · exact hp.elim
 have hcomm':commA C e' o s=none:=hcomm
 have hopA:opA C e' o s=opSel o.op C e' o s:=rfl
 generalize hr:opSel o.op C e' o s=r at hop
 cases hop with
 | val v s' a σ' g' h1 h2 h3 h4=>
   obtain ⟨e2,g1,g2⟩:=putk (bindS_get (o:=o) (k:=fun v=>putW e o.dst v su σ' k) h1) (he.mono h4.grow) h2 (hu.mono h4.grow) h3 h4
   refine ⟨_,0,fun n _=> ?_,g2⟩
   simp only [opStep,hwant,hcomm',hopA,hr,g1]
 | enter f l args h1 h2=>
   obtain ⟨out,hc,hf⟩:=hrec.call _ _ _ _ _ _ _ h1 s g A args .run hs h2 trivial
   cases hc with
   | body fn out M i1 i2 i3=>
     rw [enter_of i1 i2] at hr
     cases out with
     | fail=>exact hf.elim
     | returned v u' s'=>
       obtain ⟨a,su',σ',g',A',j1,j2,j3,j4,j5⟩:=hf
       obtain ⟨e2,g1,g2⟩:=putk j1 (he.mono j5.grow) j2 (hu.mono j5.grow) j4 j5
       refine ⟨_,M,fun n hn=> ?_,g2⟩
       simp only [opStep,hwant,hcomm',hopA,hr,i3 n hn,g1]
     | panicked ch u' s'=>
       obtain ⟨c,su',σ',g',A',j1,j2,j3,j4,j5⟩:=hf
       refine ⟨.fin (.panic ch) e' u s',M,fun n hn=> ?_,.panic c,e,su,σ',g',A',j1,j2,he.mono j5.grow,hu.mono j5.grow,j4,j5.wx⟩
       simp only [opStep,hwant,hcomm',hopA,hr,i3 n hn]
   | ext v s' i1 i2=>
     rw [i2] at hr
     obtain ⟨a,su',σ',g',A',j1,j2,j3,j4,j5⟩:=hf
     obtain ⟨e2,g1,g2⟩:=putk j1 (he.mono j5.grow) j2 (hu.mono j5.grow) j4 j5
     refine ⟨_,0,fun n _=> ?_,g2⟩
     simp only [opStep,hwant,hcomm',hopA,hr,g1]
 | pan v a h1 h2=>
   refine ⟨.fin (.panic [{v,recovered:=false}]) e' u s,0,fun n _=> ?_,.panic [(a,false)],e,su,σ,g,A,h1,⟨h2,rfl,rfl,trivial⟩,he,hu,hs,.refl⟩
   simp only [opStep,hwant,hcomm',hopA,hr]
 | dfr d d' h1 h2=>
   simp only at h1
   split at h1
   · rename_i e2 hp2
     obtain ⟨e2',g1,g2⟩:=put_rel he (.undef undef) hp2
     refine ⟨.fin .normal {e2' with defers:=d'::e2'.defers} u s,0,fun n _=> ?_,.normal,_,su,σ,g,A,h1,trivial,⟨g2.n,g2.tmps,h2,g2.defers⟩,hu,hs,.refl⟩
     simp only [opStep,hwant,hcomm',hopA,hr,g1]
   · exact h1.elim
 | recover h1=>
   obtain ⟨v,u',g1,g2,g3⟩:=rec_rel (cf:=cf) hu
   obtain ⟨e2,g4,g5⟩:=putk h1 he g2 g3 hs .refl
   refine ⟨_,0,fun n _=> ?_,g5⟩
   simp only [opStep,hwant,hcomm',hopA,hr,g1,g4]
theorem guard_rel {h:T Blk} {N:Nat} {e:SE} {e':E} (he:RE h g N e e') {ops:List Oper} {o:Oper}:
 (guardS ops e o=some none->wantedA ops e' o=some true)/\
 (∀d b vt vf,guardS ops e o=some (some (d,b,vt,vf))->wantedA ops e' o=some b/\(b=true->RE h g N {e with tmps:=e.tmps.set d vt} e')/\(b=false->RE h g N {e with tmps:=e.tmps.set d vf} e')):=by
 unfold guardS wantedA
 constructor
 · intro h1
   split at h1
   · rename_i hg;rw [hg]
   · rename_i j want hg
     split at h1
     · split at h1
       · split at h1
         · cases h1
         · cases h1
         · cases h1
       · cases h1
     · cases h1
 · intro d b vt vf h1
   split at h1
   · cases h1
   · rename_i j want hg
     rw [hg]
     simp only
     split at h1
     · rename_i oj hoj
       rw [hoj]
       simp only
       split at h1
       · rename_i d' hd
         rw [hd]
         simp only
         split at h1
         · rename_i b' hb
           simp only [Option.some.injEq,Prod.mk.injEq] at h1
           obtain ⟨rfl,rfl,rfl,rfl⟩:=h1
           obtain ⟨v,h2,h3⟩:=he.tmps _ _ hb
           cases h3
           rw [h2]
           refine ⟨by cases want<;>cases b'<;>rfl,fun e1=>he.setTmp h2 ?_,fun e1=>he.setTmp h2 ?_⟩
           · have:b'=want:=by cases want<;>cases b'<;>simp at e1 ⊢
             subst this;exact .bool _
           · have:b'= !want:=by cases want<;>cases b'<;>simp at e1 ⊢
             subst this;exact .bool _
         · rename_i g' b' hb
           simp only [Option.some.injEq,Prod.mk.injEq] at h1
           obtain ⟨rfl,rfl,rfl,rfl⟩:=h1
           obtain ⟨v,h2,h3⟩:=he.tmps _ _ hb
           rw [h2]
           cases h3 with
           | may _ _ _ h4 h5=>
             cases g' with
             | true=>
               have:=h4 rfl
               cases this
               refine ⟨by cases want<;>cases b'<;>rfl,fun e1=>he.setTmp h2 ?_,fun e1=>he.setTmp h2 (.may _ _ _ (fun _=> ?_) (fun e=>by cases e))⟩
               · have:b'=want:=by cases want<;>cases b'<;>simp at e1 ⊢
                 subst this;exact .bool _
               · have:b'= !want:=by cases want<;>cases b'<;>simp at e1 ⊢
                 subst this;exact .bool _
             | false=>
               have hv:=h5 rfl
               subst hv
               rw [Bool.and_false]
               exact ⟨rfl,(fun e1=>by cases e1),fun e1=>he.setTmp h2 (.may _ _ _ (fun e=>by cases e) (fun _=>rfl))⟩
         · cases h1
       · cases h1
     · cases h1
end
end Go.Eng
namespace Go.Eng
section
variable {C:Cx} {σ:SS} {s:St} {g:Gh} {A:Nat->Prop}
theorem step_sound {rw:SRec} (hrec:RecWOk C rw) (hs:Sim C σ s g A) {e:SE} {e':E} {su:SMode} {u:FrameMode} (he:RE s.heap g σ.next e e') (hu:RM s.heap g σ.next su u) {cf:SCf} {ops:List Oper} {o:Oper} {k:SKont}
 (hw:stepW C rw cf ops o e su σ k):
 ∃out M,(∀n,M<=n->opStep C (recOf C n) ⟨cf.fn,cf.dfr,none⟩ ops o e' u s=out)/\CR C true [] k σ s g A out:=by
 unfold stepW at hw
 obtain ⟨hg1,hg2⟩:=guard_rel he (ops:=ops) (o:=o)
 split at hw
 · exact hw.elim
 · rename_i hg
   exact step'_sound hrec hs he hu (hg1 hg) hw
 · rename_i d b vt vf hg
   obtain ⟨hwant,ht,hf⟩:=hg2 d b vt vf hg
   have undefk:∀{e:SE} (a:SV),RE s.heap g σ.next e e'->RV s.heap g σ.next a undef->b=false->putW e o.dst a su σ k->∃out M,(∀n,M<=n->opStep C (recOf C n) ⟨cf.fn,cf.dfr,none⟩ ops o e' u s=out)/\CR C true [] k σ s g A out:=by
    intro e a he ha hb hp
    unfold putW at hp
    split at hp
    · rename_i e2 hp2
      obtain ⟨e2',g1,g2⟩:=put_rel he ha hp2
      refine ⟨.fin .normal e2' u s,0,fun n _=> ?_,.normal,e2,su,σ,g,A,hp,trivial,g2,hu,hs,.refl⟩
      rw [hb] at hwant
      simp only [opStep,hwant,g1]
    · exact hp.elim
   split at hw
   · rename_i ps v hv
     obtain ⟨hps,hk⟩:=allP_iff.1 hw
     replace hk:=bindS_get hk
     cases b with
     | true=>
       have hps':PS ps:=fun p hp=>hps (true=true->p) (List.mem_map.2 ⟨p,hp,rfl⟩) rfl
       obtain ⟨w,h1,h2,h3⟩:=val_sound hs he (o:=o) rfl hv hps'
       unfold putW at hk
       split at hk
       · rename_i e2 hp2
         obtain ⟨e2',g1,g2⟩:=put_rel he (.may true v w (fun _=>h2) (fun e=>by cases e)) hp2
         refine ⟨.fin .normal e2' u s,0,fun n _=> ?_,.normal,e2,su,σ,g,A,hk,trivial,g2,hu,hs,.refl⟩
         have hc:commA C e' o s=none:=h3
         have ho:opA C e' o s= .ok (.value w) s:=h1
         simp only [opStep,hwant,hc,ho,g1]
       · exact hk.elim
     | false=>exact undefk _ he (.may false v undef (fun e=>by cases e) (fun _=>rfl)) rfl hk
   · rw [ask_iff] at hw
     cases b with
     | true=>exact step'_sound hrec hs (ht rfl) hu hwant (hw.1 rfl)
     | false=>exact undefk _ (hf rfl) (.undef _) rfl (hw.2 rfl)
theorem CR.trans {fl:Bool} {base:List Nat} {k:SKont} {σ':SS} {s':St} {g':Gh} {A':Nat->Prop} (hs:Sim C σ s g A) (hx:Wx fl base σ s g A σ' s' g' A') {out:COut} (h:CR C fl base k σ' s' g' A' out):CR C fl base k σ s g A out:=by
 cases out with
 | fail=>exact h
 | fin x e u s2=>
   obtain ⟨sx,se,su,σ2,g2,A2,h1,h2,h3,h4,h5,h6⟩:=h
   exact ⟨sx,se,su,σ2,g2,A2,h1,h2,h3,h4,h5,hx.trans hs h6⟩
theorem CR.weak {fl:Bool} {base:List Nat} {k:SKont} {out:COut} (h:CR C true [] k σ s g A out):CR C fl base k σ s g A out:=by
 cases out with
 | fail=>exact h
 | fin x e u s2=>
   obtain ⟨sx,se,su,σ2,g2,A2,h1,h2,h3,h4,h5,h6⟩:=h
   exact ⟨sx,se,su,σ2,g2,A2,h1,h2,h3,h4,h5,(h6.xt rfl).wx⟩
theorem RX.normal_inv {h:T Blk} {N:Nat} {x:X} (hx:RX h g N .normal x):x= .normal:=by cases x<;>simp only [RX] at hx;rfl
theorem RX.other {h:T Blk} {N:Nat} {sx:SX} {x:X} (hx:RX h g N sx x) (hn:sx≠.normal):x≠.normal:=by
 intro e;subst e
 cases sx<;>simp only [RX] at hx
 exact hn rfl
theorem opsW_sound {rw:SRec} (hrec:RecWOk C rw) {cf:SCf} {ops:List Oper}:∀(l:List Oper) {σ:SS} {s:St} {g:Gh} {A:Nat->Prop} (hs:Sim C σ s g A) {e:SE} {e':E} {su:SMode} {u:FrameMode} (he:RE s.heap g σ.next e e') (hu:RM s.heap g σ.next su u) {k:SKont}
 (hw:opsW C rw cf ops l e su σ k),
 ∃out M,(∀n,M<=n->opsA C (recOf C n) ⟨cf.fn,cf.dfr,none⟩ ops l e' u s=out)/\CR C true [] k σ s g A out
 | [],σ,s,g,A,hs,e,e',su,u,he,hu,k,hw=>⟨.fin .normal e' u s,0,fun n _=>rfl,.normal,e,su,σ,g,A,hw,trivial,he,hu,hs,.refl⟩
 | o::r,σ,s,g,A,hs,e,e',su,u,he,hu,k,hw=>by
   unfold opsW at hw
   obtain ⟨out,M,h1,h2⟩:=step_sound hrec hs he hu hw
   cases out with
   | fail=>exact h2.elim
   | fin x e1 u1 s1=>
     obtain ⟨sx,se,su1,σ1,g1,A1,j1,j2,j3,j4,j5,j6⟩:=h2
     cases sx with
     | normal=>
       have:=j2.normal_inv;subst this
       obtain ⟨out2,M2,i1,i2⟩:=opsW_sound hrec r j5 j3 j4 j1
       refine ⟨out2,max M M2,fun n hn=> ?_,i2.trans hs j6⟩
       simp only [opsA,h1 n (by omega),i1 n (by omega)]
     | exit id=>
       refine ⟨.fin x e1 u1 s1,M,fun n hn=> ?_,_,se,su1,σ1,g1,A1,j1,j2,j3,j4,j5,j6⟩
       simp only [opsA,h1 n hn]
       cases x<;>simp only [RX] at j2<;>rfl
     | goto l=>
       refine ⟨.fin x e1 u1 s1,M,fun n hn=> ?_,_,se,su1,σ1,g1,A1,j1,j2,j3,j4,j5,j6⟩
       simp only [opsA,h1 n hn]
       cases x<;>simp only [RX] at j2<;>rfl
     | ret=>
       refine ⟨.fin x e1 u1 s1,M,fun n hn=> ?_,_,se,su1,σ1,g1,A1,j1,j2,j3,j4,j5,j6⟩
       simp only [opsA,h1 n hn]
       cases x<;>simp only [RX] at j2<;>rfl
     | panic c=>
       refine ⟨.fin x e1 u1 s1,M,fun n hn=> ?_,_,se,su1,σ1,g1,A1,j1,j2,j3,j4,j5,j6⟩
       simp only [opsA,h1 n hn]
       cases x<;>simp only [RX] at j2<;>rfl
structure CodeWOk (C:Cx) (fl:Bool) (base:List Nat) (cf:SCf) (c:Code) (body:SE->SMode->SS->SKont->Prop):Prop where
 run:∀{σ:SS} {s:St} {g:Gh} {A:Nat->Prop} {e:SE} {e':E} {su:SMode} {u:FrameMode} {k:SKont},Sim C σ s g A->RE s.heap g σ.next e e'->RM s.heap g σ.next su u->body e su σ k->
  ∃out M,(∀n,M<=n->codeA C (recOf C n) n ⟨cf.fn,cf.dfr,none⟩ c e' u s=out)/\CR C fl base k σ s g A out
theorem inBlock_rel {fl:Bool} {base:List Nat} {id:Nat} {k:SKont} {out:COut} (h:CR C fl base (inBlockW id k) σ s g A out):CR C fl base k σ s g A (inBlockA id out):=by
 cases out with
 | fail=>exact h
 | fin x e u s2=>
   obtain ⟨sx,se,su,σ2,g2,A2,h1,h2,h3,h4,h5,h6⟩:=h
   cases sx with
   | exit j=>
     cases x<;>simp only [RX] at h2
     rename_i j'
     subst h2
     simp only [inBlockW] at h1
     simp only [inBlockA]
     cases hb:Nat.beq j id with
     | true=>rw [hb] at h1;exact ⟨.normal,se,su,σ2,g2,A2,h1,trivial,h3,h4,h5,h6⟩
     | false=>rw [hb] at h1;exact ⟨.exit j,se,su,σ2,g2,A2,h1,rfl,h3,h4,h5,h6⟩
   | normal=>cases x<;>simp only [RX] at h2;exact ⟨.normal,se,su,σ2,g2,A2,h1,trivial,h3,h4,h5,h6⟩
   | goto l=>cases x<;>simp only [RX] at h2;exact ⟨.goto l,se,su,σ2,g2,A2,h1,h2,h3,h4,h5,h6⟩
   | ret=>cases x<;>simp only [RX] at h2;exact ⟨.ret,se,su,σ2,g2,A2,h1,trivial,h3,h4,h5,h6⟩
   | panic c=>cases x<;>simp only [RX] at h2;exact ⟨.panic c,se,su,σ2,g2,A2,h1,h2,h3,h4,h5,h6⟩
theorem seq_rel {fl:Bool} {base:List Nat} {cf:SCf} {a b:Code} {fa fb:SE->SMode->SS->SKont->Prop} (ha:CodeWOk C fl base cf a fa) (hb:CodeWOk C fl base cf b fb):
 CodeWOk C fl base cf (.seq a b) (fun e u σ k=>fa e u σ fun x e u σ=>match x with
  | .normal=>fb e u σ k
  | x=>k x e u σ):=by
 refine ⟨fun {σ s g A e e' su u k} hs he hu hw=> ?_⟩
 obtain ⟨out,M,h1,h2⟩:=ha.run hs he hu hw
 cases out with
 | fail=>exact h2.elim
 | fin x e1 u1 s1=>
   obtain ⟨sx,se,su1,σ1,g1,A1,j1,j2,j3,j4,j5,j6⟩:=h2
   cases sx with
   | normal=>
     have:=j2.normal_inv;subst this
     obtain ⟨out2,M2,i1,i2⟩:=hb.run j5 j3 j4 j1
     refine ⟨out2,max M M2,fun n hn=> ?_,i2.trans hs j6⟩
     simp only [codeA,h1 n (by omega),COut.then,i1 n (by omega)]
   | exit id=>
     have hx:=j2.other (by simp)
     refine ⟨.fin x e1 u1 s1,M,fun n hn=> ?_,_,se,su1,σ1,g1,A1,j1,j2,j3,j4,j5,j6⟩
     simp only [codeA,h1 n hn]
     cases x<;>first | rfl | exact absurd rfl hx
   | goto l=>
     have hx:=j2.other (by simp)
     refine ⟨.fin x e1 u1 s1,M,fun n hn=> ?_,_,se,su1,σ1,g1,A1,j1,j2,j3,j4,j5,j6⟩
     simp only [codeA,h1 n hn]
     cases x<;>first | rfl | exact absurd rfl hx
   | ret=>
     have hx:=j2.other (by simp)
     refine ⟨.fin x e1 u1 s1,M,fun n hn=> ?_,_,se,su1,σ1,g1,A1,j1,j2,j3,j4,j5,j6⟩
     simp only [codeA,h1 n hn]
     cases x<;>first | rfl | exact absurd rfl hx
   | panic c=>
     have hx:=j2.other (by simp)
     refine ⟨.fin x e1 u1 s1,M,fun n hn=> ?_,_,se,su1,σ1,g1,A1,j1,j2,j3,j4,j5,j6⟩
     simp only [codeA,h1 n hn]
     cases x<;>first | rfl | exact absurd rfl hx
theorem iter_rel {fl:Bool} {base:List Nat} {cf:SCf} {b:Code} {fb:SE->SMode->SS->SKont->Prop} (hb:CodeWOk C fl base cf b fb):∀(m:Nat) {σ:SS} {s:St} {g:Gh} {A:Nat->Prop} {e:SE} {e':E} {su:SMode} {u:FrameMode} {k:SKont},Sim C σ s g A->RE s.heap g σ.next e e'->RM s.heap g σ.next su u->
 iterW fb m e su σ k->∃out M,(∀n,M<=n->∀q,M<=q->iterA (codeA C (recOf C n) n ⟨cf.fn,cf.dfr,none⟩ b) q e' u s=out)/\CR C fl base k σ s g A out
 | 0,σ,s,g,A,e,e',su,u,k,hs,he,hu,hw=>hw.elim
 | m+1,σ,s,g,A,e,e',su,u,k,hs,he,hu,hw=>by
   unfold iterW at hw
   obtain ⟨out,M,h1,h2⟩:=hb.run hs he hu hw
   cases out with
   | fail=>exact h2.elim
   | fin x e1 u1 s1=>
     obtain ⟨sx,se,su1,σ1,g1,A1,j1,j2,j3,j4,j5,j6⟩:=h2
     have leave:x≠.normal->∀n,M+1<=n->∀q,M+1<=q->iterA (codeA C (recOf C n) n ⟨cf.fn,cf.dfr,none⟩ b) q e' u s= .fin x e1 u1 s1:=by
      intro hne n hn q hq
      obtain ⟨q,rfl⟩:∃r,q=r+1:=⟨q-1,by omega⟩
      simp only [iterA,h1 n (by omega)]
      cases x<;>first | rfl | exact absurd rfl hne
     cases sx with
     | normal=>
       have:=j2.normal_inv;subst this
       obtain ⟨out2,M2,i1,i2⟩:=iter_rel hb m j5 j3 j4 j1
       refine ⟨out2,max M M2+1,fun n hn q hq=> ?_,i2.trans hs j6⟩
       obtain ⟨q,rfl⟩:∃r,q=r+1:=⟨q-1,by omega⟩
       simp only [iterA,h1 n (by omega)]
       exact i1 n (by omega) q (by omega)
     | exit id=>exact ⟨_,M+1,leave (j2.other (by simp)),_,se,su1,σ1,g1,A1,j1,j2,j3,j4,j5,j6⟩
     | goto l=>exact ⟨_,M+1,leave (j2.other (by simp)),_,se,su1,σ1,g1,A1,j1,j2,j3,j4,j5,j6⟩
     | ret=>exact ⟨_,M+1,leave (j2.other (by simp)),_,se,su1,σ1,g1,A1,j1,j2,j3,j4,j5,j6⟩
     | panic c=>exact ⟨_,M+1,leave (j2.other (by simp)),_,se,su1,σ1,g1,A1,j1,j2,j3,j4,j5,j6⟩
end
end Go.Eng
namespace Go.Eng
section
variable {C:Cx} {σ:SS} {s:St} {g:Gh} {A:Nat->Prop}
structure Good (σ:SS) (ρ:Ren) (fr:List Nat):Prop where
 inj:∀l l' t,renGet ρ l=some (some t)->renGet ρ l'=some (some t)->l=l'
 off:∀l t,renGet ρ l=some (some t)->t ∉ fr
 own:∀t,t∈fr->∃o,σ.own.get t=some o
structure Le (ρ:Ren) (fr:List Nat) (ρ':Ren) (fr':List Nat):Prop where
 ρ:∀l t,renGet ρ l=some t->renGet ρ' l=some t
 fr:∀x,x∈fr->x∈fr'
theorem Le.refl {ρ:Ren} {fr:List Nat}:Le ρ fr ρ fr:=⟨fun _ _ h=>h,fun _ h=>h⟩
theorem Le.trans {ρ ρ' ρ'':Ren} {fr fr' fr'':List Nat} (a:Le ρ fr ρ' fr') (b:Le ρ' fr' ρ'' fr''):Le ρ fr ρ'' fr'':=⟨fun l t h=>b.ρ l t (a.ρ l t h),fun x h=>b.fr x (a.fr x h)⟩
structure Fin (g:Gh) (bor:Bool) (ρ:Ren) (fr:List Nat) (gF:Gh) (N:Nat):Prop where
 ι:∀l t,renGet ρ l=some t->l<N/\gF.ι l=t.bind g.ι
 fr:∀x,x∈fr->∀eid,g.ι x=some eid->gF.H eid/\(bor=false->gF.F eid)
 H:∀id,g.H id->gF.H id
 F:∀id,g.F id->gF.F id
theorem Fin.le {bor:Bool} {ρ ρ':Ren} {fr fr':List Nat} {gF:Gh} {N:Nat} (h:Fin g bor ρ' fr' gF N) (l:Le ρ fr ρ' fr'):Fin g bor ρ fr gF N:=
 ⟨fun x t hx=>h.ι x t (l.ρ x t hx),fun x hx=>h.fr x (l.fr x hx),h.H,h.F⟩
def EntOk (σ:SS) (g:Gh) (bor:Bool) (P:Gh->Nat->Prop) (ρ:Ren) (fr:List Nat) (k:EntK):Prop:=
 Good σ ρ fr->∃ρ' fr',Le ρ fr ρ' fr'/\Good σ ρ' fr'/\k ρ' fr'/\∀gF N,Fin g bor ρ' fr' gF N->P gF N
theorem EntOk.pure {bor:Bool} {P:Gh->Nat->Prop} {ρ:Ren} {fr:List Nat} {k:EntK} (hk:k ρ fr) (h:∀gF N,Fin g bor ρ fr gF N->P gF N):EntOk σ g bor P ρ fr k:=
 fun hg=>⟨ρ,fr,.refl,hg,hk,h⟩
theorem EntOk.bind {bor:Bool} {P Q R:Gh->Nat->Prop} {ρ:Ren} {fr:List Nat} {k k':EntK} (h1:EntOk σ g bor P ρ fr k) (h2:∀ρ fr,k ρ fr->EntOk σ g bor Q ρ fr k') (hR:∀gF N,P gF N->Q gF N->R gF N):EntOk σ g bor R ρ fr k':=by
 intro hg
 obtain ⟨ρ1,fr1,l1,g1,k1,p1⟩:=h1 hg
 obtain ⟨ρ2,fr2,l2,g2,k2,p2⟩:=h2 ρ1 fr1 k1 g1
 exact ⟨ρ2,fr2,l1.trans l2,g2,k2,fun gF N hF=>hR gF N (p1 gF N (hF.le l2)) (p2 gF N hF)⟩
theorem EntOk.mono {bor:Bool} {P Q:Gh->Nat->Prop} {ρ:Ren} {fr:List Nat} {k:EntK} (h1:EntOk σ g bor P ρ fr k) (hR:∀gF N,(∀id,g.H id->gF.H id)->(∀id,g.F id->gF.F id)->P gF N->Q gF N):EntOk σ g bor Q ρ fr k:=by
 intro hg
 obtain ⟨ρ1,fr1,l1,g1,k1,p1⟩:=h1 hg
 exact ⟨ρ1,fr1,l1,g1,k1,fun gF N hF=>hR gF N hF.H hF.F (p1 gF N hF)⟩
theorem renHas_of {ρ:Ren} {n l:Nat} (h:renGet ρ l=some (some n)):renHas ρ n=true:=by
 induction ρ with
 | nil=>simp [renGet] at h
 | cons p r ih=>
   obtain ⟨a,b⟩:=p
   simp only [renGet] at h
   cases hb:Nat.beq a l with
   | true=>
     rw [hb] at h
     simp only [cond_true,Option.some.injEq] at h
     subst h
     simp [renHas,Nat.beq_refl]
   | false=>
     rw [hb] at h
     have:=ih h
     cases b<;>simp [renHas,this]
theorem memN_iff:∀{l:List Nat} {n:Nat},memN n l=true↔n∈l
 | [],n=>by simp [memN]
 | a::r,n=>by
   simp only [memN,Bool.or_eq_true,memN_iff (l:=r),List.mem_cons]
   constructor
   · rintro (h | h)
     · exact .inl (Nat.eq_of_beq_eq_true h).symm
     · exact .inr h
   · rintro (rfl | h)
     · exact .inl (Nat.beq_refl _)
     · exact .inr h
theorem renGet_cons {ρ:Ren} {a l:Nat} {b:Option Nat}:renGet ((a,b)::ρ) l=if a=l then some b else renGet ρ l:=by
 simp only [renGet]
 by_cases h:a=l
 · subst h;rw [Nat.beq_refl];simp
 · rw [not_beq h];simp [h]
theorem bind_ok {bor:Bool} {a:Nat} {b:Option Nat} {ρ:Ren} {fr:List Nat} {k:EntK} (h:bindW a b ρ fr k):EntOk σ g bor (fun gF N=>a<N/\gF.ι a=b.bind g.ι) ρ fr k:=by
 unfold bindW at h
 split at h
 · rename_i b' hb
   obtain ⟨rfl,hk⟩:=h
   exact .pure hk fun gF N hF=>hF.ι a b' hb
 · rename_i hb
   have new:k ((a,b)::ρ) fr->(∀n,b=some n->renHas ρ n=false/\n ∉ fr)->EntOk σ g bor (fun gF N=>a<N/\gF.ι a=b.bind g.ι) ρ fr k:=by
    intro hk hn hg
    refine ⟨(a,b)::ρ,fr,⟨fun l t hl=> ?_,fun _ h=>h⟩,⟨fun l l' t h1 h2=> ?_,fun l t h1=> ?_,hg.own⟩,hk,fun gF N hF=>hF.ι a b (by rw [renGet_cons,if_pos rfl])⟩
    · rw [renGet_cons,if_neg]
      · exact hl
      · rintro rfl;rw [hb] at hl;cases hl
    · rw [renGet_cons] at h1 h2
      split at h1<;>split at h2
      · rename_i e1 e2;rw [<-e1,<-e2]
      · simp only [Option.some.injEq] at h1
        have:=(hn t h1).1
        rw [renHas_of h2] at this;cases this
      · simp only [Option.some.injEq] at h2
        have:=(hn t h2).1
        rw [renHas_of h1] at this;cases this
      · exact hg.inj l l' t h1 h2
    · rw [renGet_cons] at h1
      split at h1
      · simp only [Option.some.injEq] at h1;exact (hn t h1).2
      · exact hg.off l t h1
   cases b with
   | none=>exact new h (fun n h=>by cases h)
   | some n=>
     simp only at h
     cases hc:(renHas ρ n||memN n fr) with
     | true=>rw [hc] at h;exact h.elim
     | false=>
       rw [hc] at h
       simp only [Bool.or_eq_false_iff] at hc
       refine new h (fun m hm=> ?_)
       cases hm
       exact ⟨hc.1,fun hm=>by rw [memN_iff.2 hm] at hc;cases hc.2⟩
theorem frz_ok {bor:Bool} {n:Nat} {o:SO} {ρ:Ren} {fr:List Nat} {k:EntK} (ho:σ.own.get n=some o) (h:frzW n ρ fr k):EntOk σ g bor (fun gF N=>∀eid,g.ι n=some eid->gF.H eid/\(bor=false->gF.F eid)) ρ fr k:=by
 intro hg
 unfold frzW at h
 cases hc:renHas ρ n with
 | true=>rw [hc] at h;exact h.elim
 | false=>
   rw [hc] at h
   refine ⟨ρ,n::fr,⟨fun _ _ h=>h,fun x hx=>List.mem_cons_of_mem _ hx⟩,⟨hg.inj,fun l t h1=> ?_,fun t ht=> ?_⟩,h,fun gF N hF=>hF.fr n (List.mem_cons_self ..)⟩
   · intro hm
     rcases List.mem_cons.1 hm with e | hm
     · subst e;rw [renHas_of h1] at hc;cases hc
     · exact hg.off l t h1 hm
   · rcases List.mem_cons.1 ht with rfl | hm
     · exact ⟨o,ho⟩
     · exact hg.own t hm
theorem leR_in {r r' id:Nat} (hl:leR r r'=true) (hs:Sim C σ s g A) (h:g.In r' id):g.In r id:=by
 cases r with
 | zero=>exact hs.inH r' id h
 | succ r=>
   cases r' with
   | zero=>simp [leR,Nat.beq] at hl
   | succ r'=>exact h
theorem In.up {gF:Gh} {r id:Nat} (h1:∀id,g.H id->gF.H id) (h2:∀id,g.F id->gF.F id) (h:g.In r id):gF.In r id:=by
 cases r with
 | zero=>exact h1 id h
 | succ r=>exact h2 id h
theorem frz_grow {h:T Blk} {gF:Gh} (h1:∀id,g.H id->gF.H id) (h2:∀id,g.F id->gF.F id):Grow h g.frz 0 h gF.frz 0:=
 ⟨Nat.le_refl _,fun l hl=>absurd hl (Nat.not_lt_zero _),h1,h2,fun _ _=>rfl,fun _ _=>rfl⟩
theorem okR_in {bor:Bool} {gF:Gh} {r eid:Nat} (hk:okR bor r=true) (h:gF.H eid/\(bor=false->gF.F eid)):gF.In r eid:=by
 cases r with
 | zero=>exact h.1
 | succ r=>
   cases bor with
   | true=>simp [okR,Nat.beq] at hk
   | false=>exact h.2 rfl
theorem lenF_get {f:Nat->List SV} {sz:Nat}:∀(n i:Nat),lenF f sz n i=true->(flatF f n i).length=n*sz/\∀x j,x<n->j<sz->(flatF f n i)[x*sz+j]? =(f (i+x))[j]? /\(f (i+x)).length=sz
 | 0,i,h=>⟨by simp [flatF],fun x j hx=>by omega⟩
 | n+1,i,h=>by
   simp only [lenF,Bool.and_eq_true] at h
   have h0:=Nat.eq_of_beq_eq_true h.1
   obtain ⟨h1,h2⟩:=lenF_get n (i+1) h.2
   refine ⟨by simp only [flatF,List.length_append,h0,h1,Nat.add_mul,Nat.one_mul];omega,fun x j hx hj=> ?_⟩
   simp only [flatF]
   cases x with
   | zero=>
     rw [Nat.zero_mul,Nat.zero_add,Nat.add_zero,List.getElem?_append_left (by omega)]
     exact ⟨rfl,h0⟩
   | succ x=>
     have:=h2 x j (by omega) hj
     rw [Nat.add_mul,Nat.one_mul,List.getElem?_append_right (by omega),h0]
     rw [show x*sz+sz+j-sz=x*sz+j from by omega,show i+(x+1)=i+1+x from by omega]
     exact this
theorem frz_in {r id:Nat} (h:g.frz.In r id):g.In r id:=by cases r<;>exact h
mutual
theorem leV_rel {h:T Blk} {g:Gh} {N:Nat} (hFH:∀r id,g.In r id->g.H id):∀(a b:SV) (v:Value),leV a b->RV h g N b v->RV h g N a v:=by
 intro a b v hl hv
 have inl:∀{r r' id:Nat},leR r r'=true->g.In r' id->g.In r id:=by
  intro r r' id hr hi
  cases r with
  | zero=>exact hFH r' id hi
  | succ r=>cases r' with
    | zero=>simp [leR,Nat.beq] at hr
    | succ r'=>exact hi
 cases a with
 | int k x=>cases b<;>simp only [leV] at hl;obtain ⟨rfl,rfl⟩:=hl;exact hv
 | bool x=>cases b<;>simp only [leV] at hl;subst hl;exact hv
 | str x=>cases b<;>simp only [leV] at hl;subst hl;exact hv
 | bytes r nn l=>
   cases b<;>simp only [leV] at hl
   case bytes r' nn' l'=>
    obtain ⟨hr,hn,rfl⟩:=hl
    cases hv with
    | bytes _ _ _ id off cap cs e st par h1 h2 h3 h4=>exact .bytes r nn l id off cap cs e st par (inl hr h1) h2 h3 h4
    | bytesE _ _ _ hE=>
      refine .bytesE r nn v ?_
      rcases hE with ⟨id,off,cap,cs,e,st,par,rfl,h1,h2⟩ | ⟨id,off,k,rfl⟩
      · exact .inl ⟨id,off,cap,cs,e,st,par,rfl,inl hr h1,h2⟩
      · exact .inr ⟨id,off,k,rfl⟩
    | bytesN=>
      cases nn with
      | false=>exact .bytesN r
      | true=>exact absurd (hn rfl) (by simp)
   case nilS=>obtain ⟨rfl,rfl⟩:=hl;cases hv;exact .bytesN r
 | imm r nn n sz f=>
   cases b<;>simp only [leV] at hl
   case imm r' nn' n' sz' f'=>
    obtain ⟨hr,hn,rfl,rfl,hff⟩:=hl
    cases hv with
    | imm _ _ _ _ _ id off cap cs e st par vs h1 h2 h3 h4 h5 h6 h7=>
      refine .imm r nn n sz f id off cap cs e st par vs (inl hr h1) h2 h3 (fun i hi=>by rw [leL_len _ _ (hff i hi)];exact h4 i hi) h5 (fun i j a hi ha=> ?_) h7
      have hlen:=leL_len _ _ (hff i hi)
      have hlt:j<(f' i).length:=by rw [<-hlen];exact (List.getElem?_eq_some_iff.1 ha).1
      exact leL_rel (g:=g.frz) (fun r id h=>hFH r id (frz_in h)) (f i) (f' i) (hff i hi) j a _ (vs i j) ha (List.getElem?_eq_getElem hlt) (h6 i j _ hi (List.getElem?_eq_getElem hlt))
    | immE _ _ _ _ _ hE=>
      refine .immE r nn sz f v ?_
      rcases hE with ⟨id,off,cap,cs,e,st,par,rfl,h1,h2⟩ | ⟨id,off,k,rfl⟩
      · exact .inl ⟨id,off,cap,cs,e,st,par,rfl,inl hr h1,h2⟩
      · exact .inr ⟨id,off,k,rfl⟩
    | immN=>
      cases nn with
      | false=>exact .immN r sz f
      | true=>exact absurd (hn rfl) (by simp)
   case nilS=>obtain ⟨rfl,rfl⟩:=hl;cases hv;exact .immN r sz f
 | ifc t x=>
   cases b<;>simp only [leV] at hl
   obtain ⟨rfl,hl⟩:=hl
   cases hv with
   | ifc _ _ u hu=>exact .ifc t x u (leV_rel hFH x _ u hl hu)
 | nilS=>cases b<;>simp only [leV] at hl;exact hv
 | nilP=>cases b<;>simp only [leV] at hl;exact hv
 | nilF=>cases b<;>simp only [leV] at hl;exact hv
 | nilI=>cases b<;>simp only [leV] at hl;exact hv
 | nilM=>cases b<;>simp only [leV] at hl;exact hv
 | _=>simp only [leV] at hl
theorem leL_len:∀(a b:List SV),leL a b->a.length=b.length
 | [],b,hl=>by cases b<;>simp only [leL] at hl;rfl
 | a::x,b,hl=>by
   cases b with
   | nil=>simp only [leL] at hl
   | cons b y=>simp only [leL] at hl;simp [leL_len x y hl.2]
theorem leL_rel {h:T Blk} {g:Gh} {N:Nat} (hFH:∀r id,g.In r id->g.H id):∀(x y:List SV),leL x y->∀(j:Nat) (a b:SV) (v:Value),x[j]? =some a->y[j]? =some b->RV h g N b v->RV h g N a v
 | [],y,hl,j,a,b,v,ha,hb,hv=>by simp at ha
 | a0::x,y,hl,j,a,b,v,ha,hb,hv=>by
   cases y with
   | nil=>simp only [leL] at hl
   | cons b0 y=>
     simp only [leL] at hl
     cases j with
     | zero=>
       simp only [List.getElem?_cons_zero,Option.some.injEq] at ha hb
       subst ha hb
       exact leV_rel hFH a0 b0 v hl.1 hv
     | succ j=>exact leL_rel hFH x y hl.2 j a b v (by simpa using ha) (by simpa using hb) hv
end
theorem frz_inH (hs:Sim C σ s g A):∀r id,g.frz.In r id->g.frz.H id:=fun r id h=>hs.inH r id (frz_in h)
theorem leL_get (hs:Sim C σ s g A) {h:T Blk} {x y:List SV} (hl:leL x y) {j:Nat} {a:SV} {v:Value} (ha:x[j]? =some a) (hy:∀b,y[j]? =some b->RV h g.frz 0 b v):RV h g.frz 0 a v:=by
 have hlen:=leL_len _ _ hl
 have hlt:j<y.length:=by rw [<-hlen];exact (List.getElem?_eq_some_iff.1 ha).1
 exact leL_rel (frz_inH hs) x y hl j a _ v ha (List.getElem?_eq_getElem hlt) (hy _ (List.getElem?_eq_getElem hlt))
mutual
theorem entV_ok (hs:Sim C σ s g A) {bor:Bool}:∀(n:Nat) (a b:SV) (v:Value) (ρ:Ren) (fr:List Nat) (k:EntK),entV σ bor n a b ρ fr k->RV s.heap g σ.next b v->EntOk σ g bor (fun gF N=>RV s.heap gF N a v) ρ fr k
 | 0,a,b,v,ρ,fr,k,h,hv=>by simp only [entV] at h
 | n+1,a,b,v,ρ,fr,k,h,hv=>by
   unfold entV at h
   split at h
   · exact .pure h fun gF N hF=> .undef _
   · split at h
     · cases hv;obtain ⟨rfl,hk⟩:=h;exact .pure hk fun gF N hF=> .bool _
     · exact h.elim
   · split at h
     · rename_i t x _ t' y
       cases hd:decide (t=t') with
       | false=>rw [hd] at h;exact h.elim
       | true=>
         rw [hd] at h
         have:=of_decide_eq_true hd;subst this
         cases hv;obtain ⟨rfl,hk⟩:=h;exact .pure hk fun gF N hF=> .int _ _
     · exact h.elim
   · split at h
     · cases hv;obtain ⟨rfl,hk⟩:=h;exact .pure hk fun gF N hF=> .str _
     · exact h.elim
   · -- bytes
     rename_i r nn l
     split at h
     · rename_i r' nn' l'
       cases hr:leR r r' with
       | false=>rw [hr] at h;exact h.elim
       | true=>
       rw [hr] at h
       obtain ⟨hn,rfl,hk⟩:=h
       refine .pure hk fun gF N hF=> ?_
       cases hv with
       | bytes _ _ _ id off cap cs e st par h1 h2 h3 h4=>exact .bytes r nn l id off cap cs e st par (In.up hF.H hF.F (leR_in hr hs h1)) h2 h3 h4
       | bytesE _ _ _ hE=>
         refine .bytesE r nn v ?_
         rcases hE with ⟨id,off,cap,cs,e,st,par,rfl,h1,h2⟩ | ⟨id,off,k,rfl⟩
         · exact .inl ⟨id,off,cap,cs,e,st,par,rfl,In.up hF.H hF.F (leR_in hr hs h1),h2⟩
         · exact .inr ⟨id,off,k,rfl⟩
       | bytesN=>
         cases nn with
         | false=>exact .bytesN r
         | true=>exact absurd (hn rfl) (by simp)
     · cases hv;obtain ⟨rfl,rfl,hk⟩:=h;exact .pure hk fun gF N hF=> .bytesN _
     · cases hr:Nat.beq r 0 with
       | false=>rw [hr] at h;exact h.elim
       | true=>
       rw [hr] at h
       have:=Nat.eq_of_beq_eq_true hr;subst this
       obtain ⟨rfl,hk⟩:=h
       refine .pure hk fun gF N hF=> ?_
       cases hv with
       | empS _ hE=>
         refine .bytesE 0 nn v ?_
         rcases hE with ⟨id,off,cap,cs,e,st,par,rfl,h1,h2⟩ | ⟨id,off,k,rfl⟩
         · exact .inl ⟨id,off,cap,cs,e,st,par,rfl,hF.H _ h1,h2⟩
         · exact .inr ⟨id,off,k,rfl⟩
     · rename_i id sz off len c op
       split at h
       · rename_i ps l' hrd
         cases hr:okR bor r with
         | false=>rw [hr] at h;exact h.elim
         | true=>
         rw [hr] at h
         obtain ⟨hn,h⟩:=h
         obtain ⟨hps,rfl,hk⟩:=allP_iff.1 h
         have hread:=rdBytes_rel hs hv hrd hps
         have hown:∃o,σ.own.get id=some o:=by
          unfold rdBytesS at hrd
          simp only at hrd
          cases hz:Nat.beq sz 1 with
          | false=>rw [hz] at hrd;cases hrd
          | true=>
            rw [hz] at hrd
            simp only [cond_true] at hrd
            cases ho:σ.own.get id with
            | none=>rw [ho] at hrd;cases hrd
            | some o=>exact ⟨o,rfl⟩
         obtain ⟨o,ho⟩:=hown
         refine (frz_ok ho hk).mono fun gF N hH hF' hf=> ?_
         rcases sl_inv hv with ⟨eid,h1,h2,h3,rfl⟩ | ⟨h1,h2,rfl,rfl,rfl,rfl⟩
         · simp only [rdSlice] at hread
           split at hread
           · rename_i vs e st par hb
             split at hread
             · rename_i l0 hl0
               simp only [Option.some.injEq,Prod.mk.injEq] at hread
               obtain ⟨hlen,rfl⟩:=hread
               subst hlen
               refine .bytes r nn l eid _ _ vs e st par (okR_in hr (hf eid h2)) hb (fun i x hx=> ?_) (by unfold capOf;cases op<;>simp<;>omega)
               rw [dropN_eq,takeN_some,Nat.mul_one] at hl0
               have:(l.map byteV)[i]? =some (byteV x):=by rw [List.getElem?_map,hx];rfl
               rw [hl0.2,List.getElem?_take] at this
               split at this
               · rwa [List.getElem?_drop] at this
               · cases this
             · cases hread
           · cases hread
         · cases nn with
           | true=>(rcases hn rfl rfl with h | h<;>exact absurd rfl h)
           | false=>
             have:l=[]:=by
              simp only [rdSlice,Nat.beq_refl,cond_true,Option.some.injEq,Prod.mk.injEq] at hread
              exact List.length_eq_zero_iff.1 hread.1.symm
             subst this
             exact .bytesN r
       · exact h.elim
     · exact h.elim
   · -- imm
     rename_i r nn m sz f
     split at h
     · rename_i r' nn' m' sz' f'
       cases hr:(leR r r'&&Nat.beq sz sz') with
       | false=>rw [hr] at h;exact h.elim
       | true=>
       rw [hr] at h
       simp only [Bool.and_eq_true] at hr
       have:=Nat.eq_of_beq_eq_true hr.2;subst this
       obtain ⟨hn,rfl,hff,hk⟩:=h
       refine .pure hk fun gF N hF=> ?_
       cases hv with
       | imm _ _ _ _ _ id off cap cs e st par vs h1 h2 h3 h4 h5 h6 h7=>
         exact .imm r nn m sz f id off cap cs e st par vs (In.up hF.H hF.F (leR_in hr.1 hs h1)) h2 h3 (fun i hi=>by rw [leL_len _ _ (hff i hi)];exact h4 i hi) h5
          (fun i j a hi ha=>(leL_get hs (hff i hi) ha (fun b hb=>h6 i j b hi hb)).mono (frz_grow hF.H hF.F)) h7
       | immE _ _ _ _ _ hE=>
         refine .immE r nn sz f v ?_
         rcases hE with ⟨id,off,cap,cs,e,st,par,rfl,h1,h2⟩ | ⟨id,off,k,rfl⟩
         · exact .inl ⟨id,off,cap,cs,e,st,par,rfl,In.up hF.H hF.F (leR_in hr.1 hs h1),h2⟩
         · exact .inr ⟨id,off,k,rfl⟩
       | immN=>
         cases nn with
         | false=>exact .immN r sz f
         | true=>exact absurd (hn rfl) (by simp)
     · cases hv;obtain ⟨rfl,rfl,hk⟩:=h;exact .pure hk fun gF N hF=> .immN _ _ _
     · cases hr:Nat.beq r 0 with
       | false=>rw [hr] at h;exact h.elim
       | true=>
       rw [hr] at h
       have:=Nat.eq_of_beq_eq_true hr;subst this
       obtain ⟨rfl,hk⟩:=h
       refine .pure hk fun gF N hF=> ?_
       cases hv with
       | empS _ hE=>
         refine .immE 0 nn sz f v ?_
         rcases hE with ⟨id,off,cap,cs,e,st,par,rfl,h1,h2⟩ | ⟨id,off,k,rfl⟩
         · exact .inl ⟨id,off,cap,cs,e,st,par,rfl,hF.H _ h1,h2⟩
         · exact .inr ⟨id,off,k,rfl⟩
     · rename_i id sz' off len c op
       cases hr:(okR bor r&&Nat.beq sz sz') with
       | false=>rw [hr] at h;exact h.elim
       | true=>
       rw [hr] at h
       simp only [Bool.and_eq_true] at hr
       have:=Nat.eq_of_beq_eq_true hr.2;subst this
       simp only [cond_true] at h
       split at h
       · rename_i stmp vs t hown
         cases hc:(lenF f sz len 0&&noOwnL (flatF f len 0)) with
         | false=>rw [hc] at h;exact h.elim
         | true=>
         rw [hc] at h
         simp only [Bool.and_eq_true] at hc
         obtain ⟨hn,rfl,h⟩:=h
         split at h
         · rename_i l hl
           rcases sl_inv hv with ⟨eid,h1,h2,h3,rfl⟩ | ⟨h1,h2,rfl,rfl,rfl,rfl⟩
           · obtain ⟨blk,b1,b2⟩:=hs.blk hown h2
             cases b2 with
             | cells _ cs _ par b3 b4=>
               obtain ⟨r',e1,e2⟩:=take_rel b3 hl
               refine (entL_ok hs n (flatF f m 0) l r' ρ fr _ h e2).bind (fun ρ fr hk=>frz_ok hown hk) fun gF N p q=> ?_
               have p':=p.free hc.2
               obtain ⟨len1,len2⟩:=lenF_get m 0 hc.1
               rw [dropN_eq,takeN_some] at e1
               simp only [List.length_drop] at e1
               have hget:∀i j,i<m->j<sz->cs[off*sz+(i*sz+j)]? =some (r'.getD (i*sz+j) undef)/\(r'.getD (i*sz+j) undef).oneCell'=true:=by
                intro i j hi hj
                have hb2:(i+1)*sz<=m*sz:=Nat.mul_le_mul_right _ hi
                rw [Nat.add_mul,Nat.one_mul] at hb2
                have hlt:i*sz+j<r'.length:=by rw [e1.2,List.length_take,List.length_drop];omega
                have h5:r'[i*sz+j]? =some (r'.getD (i*sz+j) undef):=by rw [List.getElem?_eq_getElem hlt,List.getD_eq_getElem?_getD,List.getElem?_eq_getElem hlt];rfl
                have h6:=h5
                rw [e1.2,List.getElem?_take,if_pos (by omega),List.getElem?_drop] at h6
                rw [<-e1.2] at h6
                exact ⟨h6,b4 _ (List.mem_of_getElem? h6)⟩
               refine .imm r nn m sz f eid (off*sz) _ cs t 0 par (fun i j=>r'.getD (i*sz+j) undef) (okR_in hr.1 (q eid h2)) b1 (by omega) (fun i hi=> ?_) hget (fun i j a hi ha=> ?_) (by unfold capOf;cases op<;>simp<;>omega)
               · rcases Nat.eq_zero_or_pos sz with hz | hz
                 · have hall:∀(n i x:Nat),lenF f sz n i=true->x<n->(f (i+x)).length=sz:=by
                    intro n
                    induction n with
                    | zero=>intro i x _ hx;omega
                    | succ n ih=>
                      intro i x hl hx
                      simp only [lenF,Bool.and_eq_true] at hl
                      cases x with
                      | zero=>exact Nat.eq_of_beq_eq_true hl.1
                      | succ x=>rw [show i+(x+1)=i+1+x from by omega];exact ih (i+1) x hl.2 (by omega)
                   have:=hall m 0 i hc.1 hi
                   rwa [Nat.zero_add] at this
                 · have:=(len2 i 0 hi hz).2
                   rwa [Nat.zero_add] at this
               · have hj:j<sz:=by
                  have h7:=(List.getElem?_eq_some_iff.1 ha).1
                  rcases Nat.lt_or_ge j sz with h8 | h8
                  · exact h8
                  · exfalso
                    have hall:∀(n i x:Nat),lenF f sz n i=true->x<n->(f (i+x)).length=sz:=by
                     intro n
                     induction n with
                     | zero=>intro i x _ hx;omega
                     | succ n ih=>
                       intro i x hl hx
                       simp only [lenF,Bool.and_eq_true] at hl
                       cases x with
                       | zero=>exact Nat.eq_of_beq_eq_true hl.1
                       | succ x=>rw [show i+(x+1)=i+1+x from by omega];exact ih (i+1) x hl.2 (by omega)
                    have:=hall m 0 i hc.1 hi
                    rw [Nat.zero_add] at this
                    omega
                 have h9:=(len2 i j hi hj).1
                 rw [Nat.zero_add] at h9
                 have hb2:(i+1)*sz<=m*sz:=Nat.mul_le_mul_right _ hi
                 rw [Nat.add_mul,Nat.one_mul] at hb2
                 have hlt:i*sz+j<r'.length:=by rw [e1.2,List.length_take,List.length_drop];omega
                 refine p'.2 (i*sz+j) a _ (h9.trans ha) ?_
                 rw [List.getElem?_eq_getElem hlt,List.getD_eq_getElem?_getD,List.getElem?_eq_getElem hlt];rfl
           · have hl0:l=[]:=by
              rw [Nat.zero_mul] at hl;simp [takeN] at hl;exact hl
             subst hl0
             have hn':nn=false:=by cases nn with
              | false=>rfl
              | true=>(rcases hn rfl rfl with h | h<;>exact absurd rfl h)
             subst hn'
             refine (entL_ok hs n (flatF f 0 0) [] [] ρ fr _ h .nil).bind (fun ρ fr hk=>frz_ok hown hk) fun gF N p q=> .immN r sz f
         · exact h.elim
       · rename_i stmp m' sz'' f' t hown
         cases hz:Nat.beq sz sz'' with
         | false=>rw [hz] at h;exact h.elim
         | true=>
         rw [hz] at h
         have:=Nat.eq_of_beq_eq_true hz;subst this
         obtain ⟨hn,rfl,hfit,hff,hk⟩:=h
         refine (frz_ok hown hk).mono fun gF N hH hF' hf=> ?_
         rcases sl_inv hv with ⟨eid,h1,h2,h3,rfl⟩ | ⟨h1,h2,rfl,rfl,rfl,rfl⟩
         · obtain ⟨blk,b1,b2⟩:=hs.blk hown h2
           cases b2 with
           | arr _ _ _ _ cs par k1 k2 k3 k4=>
             have hm:off*sz+m*sz<=m'*sz:=by rw [<-Nat.add_mul];exact Nat.mul_le_mul_right _ hfit
             have hlt:∀i j,i<m->j<sz->off*sz+(i*sz+j)<cs.length:=by
              intro i j hi hj
              have hb2:(i+1)*sz<=m*sz:=Nat.mul_le_mul_right _ hi
              rw [Nat.add_mul,Nat.one_mul] at hb2
              omega
             refine .imm r nn m sz f eid (off*sz) _ cs t 0 par (fun i j=>cs.getD (off*sz+(i*sz+j)) undef) (okR_in hr.1 (hf eid h2)) b1 (by omega) (fun i hi=>by rw [leL_len _ _ (hff i hi)];exact k3 _ (by omega)) (fun i j hi hj=> ?_) (fun i j a hi ha=> ?_) (by unfold capOf;cases op<;>simp<;>omega)
             · have:=hlt i j hi hj
               have e5:cs[off*sz+(i*sz+j)]? =some (cs.getD (off*sz+(i*sz+j)) undef):=by rw [List.getElem?_eq_getElem this,List.getD_eq_getElem?_getD,List.getElem?_eq_getElem this];rfl
               exact ⟨e5,k2 _ (List.mem_of_getElem? e5)⟩
             · have hj:j<sz:=by have:=(List.getElem?_eq_some_iff.1 ha).1;rwa [leL_len _ _ (hff i hi),k3 _ (by omega)] at this
               have:=hlt i j hi hj
               refine (leL_get hs (hff i hi) ha fun b hb=>k4 (off+i) j b _ (by omega) hb ?_).mono (frz_grow hH hF')
               rw [Nat.add_mul,Nat.add_assoc,List.getElem?_eq_getElem this,List.getD_eq_getElem?_getD,List.getElem?_eq_getElem this];rfl
         · have hn':nn=false:=by cases nn with
            | false=>rfl
            | true=>(rcases hn rfl rfl with h | h<;>exact absurd rfl h)
           subst hn'
           exact .immN r sz f
       · exact h.elim
     · exact h.elim
   · split at h
     · cases hv;exact .pure h fun gF N hF=> .nilS
     · exact h.elim
   · -- sl
     rename_i id sz off len c op
     split at h
     · rename_i id' sz' off' len' c' op'
       cases hz:Nat.beq sz sz' with
       | false=>rw [hz] at h;exact h.elim
       | true=>
       rw [hz] at h
       have:=Nat.eq_of_beq_eq_true hz;subst this
       obtain ⟨rfl,rfl,rfl,rfl,hk⟩:=h
       refine (bind_ok hk).mono fun gF N hH hF hb=> ?_
       rcases sl_inv hv with ⟨eid,h1,h2,h3,rfl⟩ | ⟨h1,h2,rfl,rfl,rfl,rfl⟩
       · exact .sl id sz off len c op eid hb.1 (by rw [hb.2];simpa using h2) h3
       · exact .slN id sz off hb.1 (by rw [hb.2];simpa using h2)
     · cases hv
       obtain ⟨rfl,rfl,rfl,hk⟩:=h
       exact (bind_ok hk).mono fun gF N hH hF hb=> .slN id sz off hb.1 (by rw [hb.2];rfl)
     · exact h.elim
   · -- ptr
     rename_i id sz i j
     split at h
     · rename_i id' sz' i' j'
       obtain ⟨rfl,rfl,rfl,hk⟩:=h
       refine (bind_ok hk).mono fun gF N hH hF hb=> ?_
       cases hv with
       | ptr _ _ _ _ eid h1 h2=>exact .ptr id sz i j eid hb.1 (by rw [hb.2];simpa using h2)
     · exact h.elim
   · split at h
     · obtain ⟨rfl,hk⟩:=h
       refine .pure hk fun gF N hF=> ?_
       cases hv with
       | ip _ id off cs e st par vs h1 h2 h3 h4 h5=>exact .ip _ id off cs e st par vs (hF.H _ h1) h2 h3 h4 (fun j a v ha hv=>(h5 j a v ha hv).mono (frz_grow hF.H hF.F))
     · exact h.elim
   · split at h
     · cases hv;exact .pure h fun gF N hF=> .nilP
     · exact h.elim
   · split at h
     · cases hv with
       | agg _ vs h1 h2=>exact (entL_ok hs n _ _ vs ρ fr k h ⟨h1,h2⟩).mono fun gF N _ _ hp=> .agg _ vs hp.1 hp.2
     · exact h.elim
   · split at h
     · cases hv with
       | tup _ vs h1 h2=>exact (entL_ok hs n _ _ vs ρ fr k h ⟨h1,h2⟩).mono fun gF N _ _ hp=> .tup _ vs hp.1 hp.2
     · exact h.elim
   · rename_i f x y
     split at h
     · rename_i f' x' y'
       cases hz:Nat.beq f f' with
       | false=>rw [hz] at h;exact h.elim
       | true=>
       rw [hz] at h
       have:=Nat.eq_of_beq_eq_true hz;subst this
       cases hv with
       | fn _ _ _ va vc h1 h2 h3 h4=>
         exact (entL_ok hs n x x' va ρ fr _ h ⟨h1,h2⟩).bind (fun ρ fr hk=>entL_ok hs n y y' vc ρ fr k hk ⟨h3,h4⟩) fun gF N p q=> .fn f x y va vc p.1 p.2 q.1 q.2
     · exact h.elim
   · split at h
     · cases hv;exact .pure h fun gF N hF=> .nilF
     · exact h.elim
   · rename_i t w
     split at h
     · rename_i t' w'
       cases hz:Nat.beq t t' with
       | false=>rw [hz] at h;exact h.elim
       | true=>
       rw [hz] at h
       have:=Nat.eq_of_beq_eq_true hz;subst this
       cases hv with
       | ifc _ _ u hu=>exact (entV_ok hs n w w' u ρ fr k h hu).mono fun gF N _ _ hp=> .ifc t w u hp
     · exact h.elim
   · split at h
     · cases hv;exact .pure h fun gF N hF=> .nilI
     · exact h.elim
   · split at h
     · cases hv;exact .pure h fun gF N hF=> .nilM
     · exact h.elim
   · exact h.elim
theorem entL_ok (hs:Sim C σ s g A) {bor:Bool}:∀(n:Nat) (a b:List SV) (vs:List Value) (ρ:Ren) (fr:List Nat) (k:EntK),entL σ bor n a b ρ fr k->RL s.heap g σ.next b vs->EntOk σ g bor (fun gF N=>RL s.heap gF N a vs) ρ fr k
 | 0,a,b,vs,ρ,fr,k,h,hv=>by simp only [entL] at h
 | n+1,a,b,vs,ρ,fr,k,h,hv=>by
   unfold entL at h
   split at h
   · split at h
     · rw [hv.nil_inv];exact .pure h fun gF N hF=> .nil
     · exact h.elim
   · rename_i a0 x
     split at h
     · rename_i b0 y
       obtain ⟨v,r,rfl,h1,h2⟩:=hv.cons_inv
       exact (entV_ok hs n a0 b0 v ρ fr _ h h1).bind (fun ρ fr hk=>entL_ok hs n x y r ρ fr k hk h2) fun gF N p q=> .cons p q
     · exact h.elim
end
end
end Go.Eng
namespace Go.Eng
section
variable {C:Cx} {σ:SS} {s:St} {g:Gh} {A:Nat->Prop}
theorem entB_ok (hs:Sim C σ s g A) {bor:Bool} {a b:SB} {blk:Blk} {ρ:Ren} {fr:List Nat} {k:EntK} (h:entB σ bor a b ρ fr k) (hb:RB s.heap g σ.next b blk):
 EntOk σ g bor (fun gF N=>RB s.heap gF N a blk) ρ fr k:=by
 unfold entB at h
 split at h
 · rename_i x t y t'
   cases hz:Nat.beq t t' with
   | false=>rw [hz] at h;exact h.elim
   | true=>
   rw [hz] at h
   have:=Nat.eq_of_beq_eq_true hz;subst this
   cases hb with
   | cells _ cs _ par h1 h2=>exact (entL_ok hs entF x y cs ρ fr k h h1).mono fun gF N _ _ hp=> .cells x cs t par hp h2
 · rename_i l t l' t'
   cases hz:Nat.beq t t' with
   | false=>rw [hz] at h;exact h.elim
   | true=>
   rw [hz] at h
   have:=Nat.eq_of_beq_eq_true hz;subst this
   obtain ⟨rfl,hk⟩:=h
   cases hb with
   | bytes _ _ par=>exact .pure hk fun gF N hF=> .bytes l t par
 · rename_i l t y t'
   cases hz:Nat.beq t t' with
   | false=>rw [hz] at h;exact h.elim
   | true=>
   rw [hz] at h
   have:=Nat.eq_of_beq_eq_true hz;subst this
   simp only [cond_true] at h
   split at h
   · rename_i ps l' hl
     obtain ⟨hps,rfl,hk⟩:=allP_iff.1 h
     cases hb with
     | cells _ cs _ par h1 h2=>
       have:=bytesOfS_rel h1 hl hps
       subst this
       exact .pure hk fun gF N hF=> .bytes l t par
   · exact h.elim
 · rename_i m sz f t m' sz' f' t'
   cases hz:(Nat.beq t t'&&Nat.beq sz sz') with
   | false=>rw [hz] at h;exact h.elim
   | true=>
   rw [hz] at h
   simp only [Bool.and_eq_true] at hz
   have e1:=Nat.eq_of_beq_eq_true hz.1
   have e2:=Nat.eq_of_beq_eq_true hz.2
   subst e1 e2
   obtain ⟨rfl,hff,hk⟩:=h
   cases hb with
   | arr _ _ _ _ cs par k1 k2 k3 k4=>
     exact .pure hk fun gF N hF=> .arr m sz f t cs par k1 k2 (fun i hi=>by rw [leL_len _ _ (hff i hi)];exact k3 i hi)
      (fun i j a v hi ha hv=>(leL_get hs (hff i hi) ha fun b hb=>k4 i j b v hi hb hv).mono (frz_grow hF.H hF.F))
 · exact h.elim
def OwnIs (σ:SS) (s:St) (g:Gh) (gF:Gh) (N:Nat) (l:Nat) (b:SB):Prop:=
 (∀eid,gF.ι l=some eid->∃blk,s.heap.get eid=some blk/\RB s.heap gF N b blk)/\(gF.ι l=none->emptyB b)
structure EntO (σ:SS) (s:St) (g:Gh) (bor:Bool) (own:List (Nat×SB)) (ρ:Ren) (fr:List Nat) (k:EntK) (ρ':Ren) (fr':List Nat):Prop where
 le:Le ρ fr ρ' fr'
 good:Good σ ρ' fr'
 k:k ρ' fr'
 ids:∀p,p∈own->∃t,renGet ρ' p.1=some t/\∀l',t=some l'->∃o,σ.own.get l'=some o
 fin:∀gF N,Fin g bor ρ' fr' gF N->∀p,p∈own->OwnIs σ s g gF N p.1 p.2
theorem entB_empty {bor:Bool} {a b:SB} {ρ:Ren} {fr:List Nat} {k:EntK} (h:entB σ bor a b ρ fr k) (hb:emptyB b):emptyB a:=by
 cases a<;>cases b<;>simp only [entB,emptyB] at h hb ⊢
 · cases hz:Nat.beq _ _ with
   | false=>rw [hz] at h;exact h.elim
   | true=>rw [hz] at h;exact h.1.trans hb
 · cases hz:(Nat.beq _ _&&Nat.beq _ _) with
   | false=>rw [hz] at h;exact h.elim
   | true=>rw [hz] at h;exact h.1.trans hb
theorem entO_ok (hs:Sim C σ s g A) {bor:Bool}:∀{own:List (Nat×SB)} {ρ:Ren} {fr:List Nat} {k:EntK},entO σ bor own ρ fr k->Good σ ρ fr->∃ρ' fr',EntO σ s g bor own ρ fr k ρ' fr'
 | [],ρ,fr,k,h,hg=>⟨ρ,fr,.refl,hg,h,(fun p hp=>by cases hp),(fun gF N hF p hp=>by cases hp)⟩
 | (l,b)::r,ρ,fr,k,h,hg=>by
   simp only [entO] at h
   split at h
   · rename_i l' hl
     split at h
     · rename_i o ho
       obtain ⟨c1,c2,c3,c4⟩:=hs.own l' o ho
       cases hi:g.ι l' with
       | some eid=>
         obtain ⟨blk,d1,d2,_⟩:=c3 eid hi
         obtain ⟨ρ1,fr1,l1,g1,k1,p1⟩:=entB_ok hs h d2 hg
         obtain ⟨ρ2,fr2,e⟩:=entO_ok hs k1 g1
         refine ⟨ρ2,fr2,l1.trans e.le,e.good,e.k,fun p hp=> ?_,fun gF N hF p hp=> ?_⟩
         · rcases List.mem_cons.1 hp with rfl | hp
           · exact ⟨some l',e.le.ρ _ _ (l1.ρ _ _ hl),fun l2 h2=>by cases h2;exact ⟨o,ho⟩⟩
           · exact e.ids p hp
         · rcases List.mem_cons.1 hp with rfl | hp
           · have hι:=(hF.ι l (some l') (e.le.ρ _ _ (l1.ρ _ _ hl))).2
             simp only [Option.bind_some,hi] at hι
             refine ⟨fun eid' he=> ?_,fun he=>by rw [hι] at he;cases he⟩
             rw [hι] at he;cases he
             exact ⟨blk,d1,p1 gF N (hF.le e.le)⟩
           · exact e.fin gF N hF p hp
       | none=>
         have hem:=entB_empty h (c4 hi)
         have hk1:∃ρ1 fr1,Le ρ fr ρ1 fr1/\Good σ ρ1 fr1/\entO σ bor r ρ1 fr1 k:=by
          have hb:=c4 hi
          cases hb1:b<;>cases hb2:o.b<;>rw [hb1,hb2] at h<;>simp only [hb1,hb2,entB,emptyB] at h hem hb
          · cases hz:Nat.beq _ _ with
            | false=>rw [hz] at h;exact h.elim
            | true=>rw [hz] at h;exact ⟨ρ,fr,.refl,hg,h.2⟩
          · cases hz:(Nat.beq _ _&&Nat.beq _ _) with
            | false=>rw [hz] at h;exact h.elim
            | true=>rw [hz] at h;exact ⟨ρ,fr,.refl,hg,h.2.2⟩
         obtain ⟨ρ1,fr1,l1,g1,k1⟩:=hk1
         obtain ⟨ρ2,fr2,e⟩:=entO_ok hs k1 g1
         refine ⟨ρ2,fr2,l1.trans e.le,e.good,e.k,fun p hp=> ?_,fun gF N hF p hp=> ?_⟩
         · rcases List.mem_cons.1 hp with rfl | hp
           · exact ⟨some l',e.le.ρ _ _ (l1.ρ _ _ hl),fun l2 h2=>by cases h2;exact ⟨o,ho⟩⟩
           · exact e.ids p hp
         · rcases List.mem_cons.1 hp with rfl | hp
           · have hι:=(hF.ι l (some l') (e.le.ρ _ _ (l1.ρ _ _ hl))).2
             simp only [Option.bind_some,hi] at hι
             exact ⟨(fun eid' he=>by rw [hι] at he;cases he),fun _=>hem⟩
           · exact e.fin gF N hF p hp
     · exact h.elim
   · rename_i hl
     have step:emptyB b->entO σ bor r ρ fr k->∃ρ' fr',EntO σ s g bor ((l,b)::r) ρ fr k ρ' fr':=by
      intro hem hk
      obtain ⟨ρ2,fr2,e⟩:=entO_ok hs hk hg
      refine ⟨ρ2,fr2,e.le,e.good,e.k,fun p hp=> ?_,fun gF N hF p hp=> ?_⟩
      · rcases List.mem_cons.1 hp with rfl | hp
        · exact ⟨none,e.le.ρ _ _ hl,fun l2 h2=>by cases h2⟩
        · exact e.ids p hp
      · rcases List.mem_cons.1 hp with rfl | hp
        · have hι:=(hF.ι l none (e.le.ρ _ _ hl)).2
          simp only [Option.bind_none] at hι
          exact ⟨(fun eid' he=>by rw [hι] at he;cases he),fun _=>hem⟩
        · exact e.fin gF N hF p hp
     split at h
     · exact step h.1 h.2
     · exact step h.1 h.2
     · exact h.elim
   · exact h.elim
theorem entT_ok (hs:Sim C σ s g A) {e:SE} {e':E} (he:RE s.heap g σ.next e e'):∀{l:List (Nat×SV)} {ρ:Ren} {fr:List Nat} {k:EntK},entT σ e l ρ fr k->
 EntOk σ g false (fun gF N=>∀p,p∈l->∃v,e'.tmps.get p.1=some v/\RV s.heap gF N p.2 v) ρ fr k
 | [],ρ,fr,k,h=> .pure h fun gF N hF p hp=>by cases hp
 | (t,v)::r,ρ,fr,k,h=>by
   simp only [entT] at h
   split at h
   · rename_i b hb
     obtain ⟨w,h1,h2⟩:=he.tmps t b hb
     refine (entV_ok hs entF v b w ρ fr _ h h2).bind (fun ρ fr hk=>entT_ok hs he hk) fun gF N p q x hx=> ?_
     rcases List.mem_cons.1 hx with rfl | hx
     · exact ⟨w,h1,p⟩
     · exact q x hx
   · exact h.elim
theorem setsO_get:∀{l:List (Nat×SB)} {t:T SO} {i:Nat} {o:SO},(setsO l t).get i=some o->(∃b,(i,b)∈l/\o=⟨i,b⟩)\/t.get i=some o
 | [],t,i,o,h=> .inr h
 | (l,b)::r,t,i,o,h=>by
   rcases setsO_get (l:=r) h with ⟨b',h1,h2⟩ | h
   · exact .inl ⟨b',List.mem_cons_of_mem _ h1,h2⟩
   · rw [T.get_set] at h
     split at h
     · rename_i e;subst e
       simp only [Option.some.injEq] at h
       exact .inl ⟨b,List.mem_cons_self ..,h.symm⟩
     · exact .inr h
theorem ofList_get {l:List (Nat×SB)} {i:Nat} {o:SO} (h:(SS.ofList l).own.get i=some o):∃b,(i,b)∈l/\o=⟨i,b⟩:=by
 rcases setsO_get h with h | h
 · exact h
 · rw [T.get_nil] at h;cases h
theorem topN_le:∀(l:List (Nat×SB)) (n:Nat),n<=topN l n/\∀p,p∈l->p.1<topN l n
 | [],n=>⟨Nat.le_refl _,fun p h=>by cases h⟩
 | (i,b)::r,n=>by
   simp only [topN]
   cases hb:Nat.ble n i with
   | true=>
     simp only [cond_true]
     have:=topN_le r (i+1)
     rw [Nat.ble_eq] at hb
     refine ⟨by omega,fun p hp=> ?_⟩
     rcases List.mem_cons.1 hp with rfl | hp
     · show i<_;omega
     · exact this.2 p hp
   | false=>
     simp only [cond_false]
     have:=topN_le r n
     have hlt:i<n:=by
      rcases Nat.lt_or_ge i n with h | h
      · exact h
      · rw [is_ble h] at hb;cases hb
     refine ⟨this.1,fun p hp=> ?_⟩
     rcases List.mem_cons.1 hp with rfl | hp
     · show i<_;omega
     · exact this.2 p hp
theorem ofList_lt {l:List (Nat×SB)} {i:Nat} {b:SB} (h:(i,b)∈l):i<(SS.ofList l).next:=(topN_le l 0).2 _ h
theorem setsT_get:∀{l:List (Nat×SV)} {t:T SV} {i:Nat} {a:SV},(setsT l t).get i=some a->(i,a)∈l\/t.get i=some a
 | [],t,i,o,h=> .inr h
 | (l,b)::r,t,i,o,h=>by
   rcases setsT_get (l:=r) h with h1 | h
   · exact .inl (List.mem_cons_of_mem _ h1)
   · rw [T.get_set] at h
     split at h
     · rename_i e
       cases h
       rw [e]
       exact .inl (List.mem_cons_self ..)
     · exact .inr h
theorem renLt_iff:∀{ρ:Ren} {n:Nat},renLt ρ n=true->∀l t,renGet ρ l=some t->l<n
 | [],n,h,l,t,hl=>by simp [renGet] at hl
 | (a,b)::r,n,h,l,t,hl=>by
   simp only [renLt,Bool.and_eq_true] at h
   rw [renGet_cons] at hl
   split at hl
   · rename_i e;subst e;have:=h.1;rw [Nat.blt_eq] at this;exact this
   · exact renLt_iff h.2 l t hl
def newG (g:Gh) (bor:Bool) (ρ:Ren) (fr:List Nat):Gh where
 ι:=fun l=>match renGet ρ l with
  | some t=>t.bind g.ι
  | none=>none
 H:=fun id=>g.H id\/∃x,x∈fr/\g.ι x=some id
 F:=fun id=>g.F id\/(bor=false/\∃x,x∈fr/\g.ι x=some id)
theorem newG_ι {bor:Bool} {ρ:Ren} {fr:List Nat} {l:Nat} {t:Option Nat} (h:renGet ρ l=some t):(newG g bor ρ fr).ι l=t.bind g.ι:=by
 show (match renGet ρ l with
  | some t=>t.bind g.ι
  | none=>none)=_
 rw [h]
theorem newG_fin {bor:Bool} {ρ:Ren} {fr:List Nat} {N:Nat} (h:renLt ρ N=true):Fin g bor ρ fr (newG g bor ρ fr) N where
 ι l t hl:=⟨renLt_iff h l t hl,newG_ι hl⟩
 fr x hx eid he:=⟨.inr ⟨x,hx,he⟩,fun hb=> .inr ⟨hb,x,hx,he⟩⟩
 H id h:= .inl h
 F id h:= .inl h
theorem newState (hs:Sim C σ s g A) {bor:Bool} {ρ:Ren} {fr:List Nat} {own:List (Nat×SB)} (good:Good σ ρ fr) (hids:∀p,p∈own->∃t,renGet ρ p.1=some t/\∀l',t=some l'->∃o,σ.own.get l'=some o)
 (hown:∀p,p∈own->OwnIs σ s g (newG g bor ρ fr) (SS.ofList own).next p.1 p.2) {A':Nat->Prop} (hA:∀id,A' id->A id\/∃x o,σ.own.get x=some o/\g.ι x=some id/\∀l,renGet ρ l≠some (some x))
 (hA2:∀id,A id->A' id) (hA3:∀x,x∈fr->∀id,g.ι x=some id->A' id):
 Sim C (SS.ofList own) s (newG g bor ρ fr) A':=by
 refine ⟨fun l o hl=> ?_,fun l l' o o' eid h1 h2 h3 h4=> ?_,fun id h=> ?_,fun id h=> ?_,fun id h=> ?_,hs.nd.next hA2 fun _ _=>rfl⟩
 · obtain ⟨b,hb,rfl⟩:=ofList_get hl
   obtain ⟨t,ht,ht2⟩:=hids _ hb
   have hlt:=ofList_lt hb
   obtain ⟨w1,w2⟩:=hown _ hb
   refine ⟨hlt,hlt,fun eid he=> ?_,w2⟩
   obtain ⟨blk,d1,d2⟩:=w1 eid he
   have he':∃x o,t=some x/\g.ι x=some eid/\σ.own.get x=some o:=by
    rw [newG_ι ht] at he
    cases t with
    | none=>cases he
    | some x=>obtain ⟨o,ho⟩:=ht2 x rfl;exact ⟨x,o,rfl,he,ho⟩
   obtain ⟨x,o,rfl,hx,ho⟩:=he'
   obtain ⟨blk0,c1,c2,c3,c4,c5⟩:=(hs.own x o ho).2.2.1 eid hx
   rw [d1] at c1;cases c1
   refine ⟨blk,d1,d2,fun ha=> ?_,c4,fun q hq=> ?_⟩
   · rcases hA eid ha with ha | ⟨y,oy,hy1,hy2,hy3⟩
     · exact c3 ha
     · exact hy3 l (by rw [hs.inj y x oy o eid hy1 ho hy2 hx];exact ht)
   · obtain ⟨k1,k2,k3⟩:=c5 q hq
     refine ⟨fun ha=> ?_,k2,fun l' o' hl' hq'=> ?_⟩
     · rcases hA q ha with ha | ⟨y,oy,hy1,hy2,hy3⟩
       · exact k1 ha
       · exact k3 y oy hy1 hy2
     · obtain ⟨b',hb',rfl⟩:=ofList_get hl'
       obtain ⟨t',ht',ht2'⟩:=hids _ hb'
       rw [newG_ι ht'] at hq'
       cases t' with
       | none=>cases hq'
       | some x'=>obtain ⟨o2,ho2⟩:=ht2' x' rfl;exact k3 x' o2 ho2 hq'
 · obtain ⟨b,hb,rfl⟩:=ofList_get h1
   obtain ⟨b',hb',rfl⟩:=ofList_get h2
   obtain ⟨t,ht,ht2⟩:=hids _ hb
   obtain ⟨t',ht',ht2'⟩:=hids _ hb'
   rw [newG_ι ht] at h3
   rw [newG_ι ht'] at h4
   cases t with
   | none=>cases h3
   | some x=>
     cases t' with
     | none=>cases h4
     | some x'=>
       obtain ⟨o1,ho1⟩:=ht2 x rfl
       obtain ⟨o2,ho2⟩:=ht2' x' rfl
       have:=hs.inj x x' o1 o2 eid ho1 ho2 h3 h4
       subst this
       exact good.inj l l' x ht ht'
 · rcases h with h | ⟨x,hx,h⟩
   · exact hA2 id (hs.HA id h)
   · exact hA3 x hx id h
 · rcases h with h | ⟨_,h⟩
   · exact .inl (hs.FH id h)
   · exact .inr h
 · rcases hA id h with h | ⟨x,o,h1,h2,_⟩
   · exact hs.lt id h
   · obtain ⟨_,_,_,_,h3,_⟩:=(hs.own x o h1).2.2.1 id h2
     exact h3
theorem sameRen_get:∀{l:List Nat} {i:Nat},(i∈l->renGet (sameRen l) i=some (some i))/\∀t,renGet (sameRen l) i=some t->t=some i/\i∈l
 | [],i=>⟨fun h=>by (cases h),fun t h=>by simp [sameRen,renGet] at h⟩
 | a::r,i=>by
   have ih:=sameRen_get (l:=r) (i:=i)
   have e:sameRen (a::r)=(a,some a)::sameRen r:=rfl
   rw [e]
   refine ⟨fun h=> ?_,fun t h=> ?_⟩
   · rw [renGet_cons]
     split
     · rename_i e;rw [e]
     · rename_i e
       rcases List.mem_cons.1 h with h | h
       · exact absurd h.symm e
       · exact ih.1 h
   · rw [renGet_cons] at h
     split at h
     · rename_i e;subst e
       simp only [Option.some.injEq] at h
       exact ⟨h.symm,List.mem_cons_self ..⟩
     · exact ⟨(ih.2 t h).1,List.mem_cons_of_mem _ (ih.2 t h).2⟩
theorem sameRen_good (l:List Nat):Good σ (sameRen l) [] where
 inj a b t h1 h2:=by
  have e1:=(sameRen_get.2 _ h1).1
  have e2:=(sameRen_get.2 _ h2).1
  cases e1;cases e2;rfl
 off l t h:=by simp
 own t h:=by cases h
theorem cut_ok (hs:Sim C σ s g A) {base:List Nat} {c:Cut} {x:c.X} {e:SE} {e':E} (he:RE s.heap g σ.next e e') (hd:e.defers=[]) (h:entCut base c x e σ):
 ∃g' A',Sim C (SS.ofList (c.own x)) s g' A'/\RE s.heap g' (SS.ofList (c.own x)).next (SE.ofList e.n (c.tm x)) e'/\Wx false base σ s g A (SS.ofList (c.own x)) s g' A':=by
 unfold entCut at h
 obtain ⟨ρ1,fr1,l1,g1,k1,p1⟩:=entT_ok hs he h (sameRen_good base)
 obtain ⟨ρ2,fr2,e2⟩:=entO_ok hs k1 g1
 have hlt:renLt ρ2 (SS.ofList (c.own x)).next=true:=by
  cases hb:renLt ρ2 (SS.ofList (c.own x)).next with
  | true=>rfl
  | false=>have:=e2.k;rw [hb] at this;exact this.elim
 have hF:=newG_fin (g:=g) (bor:=false) (fr:=fr2) hlt
 refine ⟨newG g false ρ2 fr2,fun id=>A id\/∃x,x∈fr2/\g.ι x=some id, ?_,⟨he.n,fun t a ht=> ?_, ?_⟩,⟨⟨fun _ h=> .inl h,Nat.le_refl _,hF.H,hF.F,fun id h=> ?_,fun _ _=>rfl⟩,fun id h=> ?_,fun l o id hl hi=> ?_,fun l hl hlσ=> ?_,fun h=>by cases h⟩⟩
 · refine newState hs e2.good e2.ids (e2.fin _ _ hF) (fun id h=> ?_) (fun id h=> .inl h) (fun x hx id h=> .inr ⟨x,hx,h⟩)
   rcases h with h | ⟨x,hx,h⟩
   · exact .inl h
   · obtain ⟨o,ho⟩:=e2.good.own x hx
     exact .inr ⟨x,o,ho,h,fun l hl=>e2.good.off l x hl hx⟩
 · rcases setsT_get ht with ht | ht
   · exact p1 _ _ (hF.le e2.le) (t,a) ht
   · rw [T.get_nil] at ht;cases ht
 · have:=he.defers
   rw [hd] at this
   cases hde:e'.defers with
   | nil=>simp only [SE.ofList,RDs]
   | cons d r=>rw [hde] at this;exact this.elim
 · rcases h with h | h
   · exact .inl h
   · exact .inr (.inr ⟨rfl,h⟩)
 · rcases h with h | ⟨_,x,hx,h⟩
   · exact .inl h
   · obtain ⟨o,ho⟩:=e2.good.own x hx
     exact .inr (.inr ⟨x,o,ho,h⟩)
 · obtain ⟨b,hb,rfl⟩:=ofList_get hl
   obtain ⟨t,ht,ht2⟩:=e2.ids _ hb
   rw [newG_ι ht] at hi
   cases t with
   | none=>cases hi
   | some y=>obtain ⟨oy,hy⟩:=ht2 y rfl;exact .inr ⟨y,oy,hy,hi⟩
 · have h3:=e2.le.ρ _ _ (l1.ρ _ _ (sameRen_get.1 hl))
   have:=hF.ι l (some l) h3
   exact ⟨this.2,this.1⟩
end
end Go.Eng
namespace Go.Eng
section
variable {C:Cx} {σ:SS} {s:St} {g:Gh} {A:Nat->Prop}
theorem eqM_rel {h:T Blk} {N:Nat} {h':T Blk} {g':Gh} {N':Nat} {u1 u2:SMode} {u:FrameMode} (he:eqM u1 u2) (hu:RM h g N u1 u):RM h' g' N' u2 u:=by
 cases u1<;>cases u2<;>simp only [eqM] at he<;>cases u<;>simp only [RM] at hu<;>trivial
theorem cutLoop_ok {base:List Nat} {cf:SCf} {c:Cut} {b:Code} {fb:SE->SMode->SS->SKont->Prop} (hb:CodeWOk C false base cf b fb) {nn:Nat} {su:SMode} {k:SKont}
 (hbody:∀x,c.pre x->fb (SE.ofList nn (c.tm x)) su (SS.ofList (c.own x)) fun y e u' σ=>match y with
   | .normal=>(bif Nat.beq e.n nn then True else False)/\eqM u' su/\(match e.defers with
     | []=>True
     | _=>False)/\∃x',c.pre x'/\c.mu x'<c.mu x/\entCut base c x' e σ
   | y=>k y e u' σ):∀(m:Nat) (x:c.X),c.mu x<m->c.pre x->∀{s:St} {g:Gh} {A:Nat->Prop} {e':E} {u:FrameMode},Sim C (SS.ofList (c.own x)) s g A->RE s.heap g (SS.ofList (c.own x)).next (SE.ofList nn (c.tm x)) e'->RM s.heap g (SS.ofList (c.own x)).next su u->
   ∃out M,(∀n,M<=n->∀q,M<=q->iterA (codeA C (recOf C n) n ⟨cf.fn,cf.dfr,none⟩ b) q e' u s=out)/\CR C false base k (SS.ofList (c.own x)) s g A out
 | 0,x,hm,hx,s,g,A,e',u,hs,he,hu=>by omega
 | m+1,x,hm,hx,s,g,A,e',u,hs,he,hu=>by
   obtain ⟨out,M,h1,h2⟩:=hb.run hs he hu (hbody x hx)
   cases out with
   | fail=>exact h2.elim
   | fin x1 e1 u1 s1=>
     obtain ⟨sx,se,su1,σ1,g1,A1,j1,j2,j3,j4,j5,j6⟩:=h2
     have leave:x1≠.normal->∀n,M+1<=n->∀q,M+1<=q->iterA (codeA C (recOf C n) n ⟨cf.fn,cf.dfr,none⟩ b) q e' u s= .fin x1 e1 u1 s1:=by
      intro hne n hn q hq
      obtain ⟨q,rfl⟩:∃r,q=r+1:=⟨q-1,by omega⟩
      simp only [iterA,h1 n (by omega)]
      cases x1<;>first | rfl | exact absurd rfl hne
     cases sx with
     | normal=>
       have:=j2.normal_inv;subst this
       obtain ⟨i0,i1,i2,x',i3,i4,i5⟩:=j1
       have hn:se.n=nn:=by
        cases hq:Nat.beq se.n nn with
        | true=>exact Nat.eq_of_beq_eq_true hq
        | false=>rw [hq] at i0;exact i0.elim
       have hd:se.defers=[]:=by
        cases hq:se.defers with
        | nil=>rfl
        | cons d r=>rw [hq] at i2;exact i2.elim
       obtain ⟨g2,A2,k1,k2,k3⟩:=cut_ok j5 j3 hd i5
       rw [hn] at k2
       obtain ⟨out2,M2,l1,l2⟩:=cutLoop_ok hb hbody m x' (by omega) i3 k1 k2 (eqM_rel i1 j4)
       refine ⟨out2,max M M2+1,fun n hn q hq=> ?_,(l2.trans j5 k3).trans hs j6⟩
       obtain ⟨q,rfl⟩:∃r,q=r+1:=⟨q-1,by omega⟩
       simp only [iterA,h1 n (by omega)]
       exact l1 n (by omega) q (by omega)
     | exit id=>exact ⟨_,M+1,leave (j2.other (by simp)),_,se,su1,σ1,g1,A1,j1,j2,j3,j4,j5,j6⟩
     | goto l=>exact ⟨_,M+1,leave (j2.other (by simp)),_,se,su1,σ1,g1,A1,j1,j2,j3,j4,j5,j6⟩
     | ret=>exact ⟨_,M+1,leave (j2.other (by simp)),_,se,su1,σ1,g1,A1,j1,j2,j3,j4,j5,j6⟩
     | panic c=>exact ⟨_,M+1,leave (j2.other (by simp)),_,se,su1,σ1,g1,A1,j1,j2,j3,j4,j5,j6⟩
theorem RM.keep {h h':T Blk} {g':Gh} {N N':Nat} {su:SMode} {u:FrameMode} (hu:RM h g N su u) (hn:∀c,su≠.panicking c):RM h' g' N' su u:=by
 cases su<;>cases u<;>simp only [RM] at hu<;>first | trivial | exact absurd rfl (hn _)
def DrawWOk (C:Cx) (rw:SRec) (cf:SCf):Prop:=
 ∀{id:Nat} {ops:Array Oper},CodeWOk C true [] cf (.region id ops true) (fun e u σ k=>drawW C rw cf ops.toList e u σ k)
theorem CodeWOk.weak {cf:SCf} {c:Code} {f:SE->SMode->SS->SKont->Prop} (h:CodeWOk C true [] cf c f) (fl:Bool) (base:List Nat):CodeWOk C fl base cf c f:=by
 refine ⟨fun {σ s g A e e' su u k} hs he hu hw=> ?_⟩
 obtain ⟨out,M,h1,h2⟩:=h.run hs he hu hw
 refine ⟨out,M,h1, ?_⟩
 cases out with
 | fail=>exact h2
 | fin x e u s2=>
   obtain ⟨sx,se,su,σ2,g2,A2,h1,h2,h3,h4,h5,h6⟩:=h2
   exact ⟨sx,se,su,σ2,g2,A2,h1,h2,h3,h4,h5,(h6.xt rfl).wx⟩
theorem one_ok {fl:Bool} {base:List Nat} {cf:SCf} {c:Code} {x:X} {sx:SX} (hc:∀n e u s,codeA C (recOf C n) n ⟨cf.fn,cf.dfr,none⟩ c e u s= .fin x e u s) (hx:∀{h:T Blk} {g:Gh} {N:Nat},RX h g N sx x):
 CodeWOk C fl base cf c (fun e u σ k=>k sx e u σ):=by
 refine ⟨fun {σ s g A e e' su u k} hs he hu hw=> ?_⟩
 exact ⟨_,0,fun n _=>hc n e' u s,sx,e,su,σ,g,A,hw,hx,he,hu,hs,.refl⟩
theorem block_ok {fl:Bool} {base:List Nat} {cf:SCf} {id:Nat} {b:Code} {fb:SE->SMode->SS->SKont->Prop} (hb:CodeWOk C fl base cf b fb):CodeWOk C fl base cf (.block id b) (fun e u σ k=>fb e u σ (inBlockW id k)):=by
 refine ⟨fun {σ s g A e e' su u k} hs he hu hw=> ?_⟩
 obtain ⟨out,M,h1,h2⟩:=hb.run hs he hu hw
 exact ⟨inBlockA id out,M,fun n hn=>by simp only [codeA,h1 n hn],inBlock_rel h2⟩
theorem loop_ok {fl:Bool} {base:List Nat} {cf:SCf} {b:Code} {fb:SE->SMode->SS->SKont->Prop} (hb:CodeWOk C fl base cf b fb) (m:Nat):CodeWOk C fl base cf (.loop b) (fun e u σ k=>iterW fb m e u σ k):=by
 refine ⟨fun {σ s g A e e' su u k} hs he hu hw=> ?_⟩
 obtain ⟨out,M,h1,h2⟩:=iter_rel hb m hs he hu hw
 exact ⟨out,M,fun n hn=>by simp only [codeA];exact h1 n hn n hn,h2⟩
theorem cutW_ok {base:List Nat} {cf:SCf} {b:Code} {c:Cut} {fb:SE->SMode->SS->SKont->Prop} (hb:CodeWOk C false base cf b fb):CodeWOk C false base cf b (fun e u σ k=>cutW base c e.n fb e u σ k):=by
 refine ⟨fun {σ s g A e e' su u k} hs he hu hw=> ?_⟩
 unfold cutW at hw
 split at hw
 · rename_i hd
   obtain ⟨⟨x,hx,hent⟩,hbody⟩:=hw
   obtain ⟨hm,hbody⟩:=hbody
   obtain ⟨g2,A2,k1,k2,k3⟩:=cut_ok hs he hd hent
   have hu2:RM s.heap g2 (SS.ofList (c.own x)).next su u:=hu.keep fun c hc=>by subst hc;exact hm
   obtain ⟨out,M,h1,h2⟩:=hb.run k1 k2 hu2 (hbody x hx)
   exact ⟨out,M,h1,h2.trans hs k3⟩
 · exact hw.elim
theorem cutLoopW_ok {base:List Nat} {cf:SCf} {b:Code} {c:Cut} {fb:SE->SMode->SS->SKont->Prop} (hb:CodeWOk C false base cf b fb):CodeWOk C false base cf (.loop b) (fun e u σ k=>cutLoopW base c e.n fb e u σ k):=by
 refine ⟨fun {σ s g A e e' su u k} hs he hu hw=> ?_⟩
 unfold cutLoopW at hw
 split at hw
 · rename_i hd
   obtain ⟨⟨x,hx,hent⟩,hm,hbody⟩:=hw
   obtain ⟨g2,A2,k1,k2,k3⟩:=cut_ok hs he hd hent
   have hu2:RM s.heap g2 (SS.ofList (c.own x)).next su u:=hu.keep fun c hc=>by subst hc;exact hm
   obtain ⟨out,M,h1,h2⟩:=cutLoop_ok hb hbody (c.mu x+1) x (Nat.lt_succ_self _) hx k1 k2 hu2
   exact ⟨out,M,fun n hn=>by simp only [codeA];exact h1 n hn n hn,h2.trans hs k3⟩
 · exact hw.elim
theorem codeW_sound {rw:SRec} (hrec:RecWOk C rw) {cf:SCf} (hdraw:DrawWOk C rw cf) {fl:Bool} {base:List Nat} {An:Nat->Option Cut} (hAn:fl=true->∀id,An id=none) (m:Nat):∀(c:Code),CodeWOk C fl base cf c (codeW C rw base An m cf c)
 | .skip=>one_ok (x:= .normal) (sx:= .normal) (fun n e u s=>rfl) trivial
 | .label _=>one_ok (x:= .normal) (sx:= .normal) (fun n e u s=>rfl) trivial
 | .exit id=>one_ok (x:= .exit id) (sx:= .exit id) (fun n e u s=>rfl) rfl
 | .goto l=>one_ok (x:= .goto l) (sx:= .goto l) (fun n e u s=>rfl) rfl
 | .ret=>one_ok (x:= .ret) (sx:= .ret) (fun n e u s=>rfl) trivial
 | .refuse _=>⟨fun _ _ _ hw=>by simp only [codeW] at hw⟩
 | .rangeFunc _ _ _ _=>⟨fun _ _ _ hw=>by simp only [codeW] at hw⟩
 | .region id ops draw=>by
   cases draw with
   | true=>exact (hdraw (id:=id) (ops:=ops)).weak fl base
   | false=>
     refine CodeWOk.weak ?_ fl base
     refine ⟨fun {σ s g A e e' su u k} hs he hu hw=> ?_⟩
     obtain ⟨out,M,h1,h2⟩:=opsW_sound hrec ops.toList hs he hu hw
     exact ⟨out,M,fun n hn=>by simp only [codeA,cond_false];exact h1 n hn,h2⟩
 | .seq a b=>seq_rel (codeW_sound hrec hdraw hAn m a) (codeW_sound hrec hdraw hAn m b)
 | .cond c a b=>by
   refine ⟨fun {σ s g A e e' su u k} hs he hu hw=> ?_⟩
   simp only [codeW] at hw
   split at hw
   · rename_i t ht
     obtain ⟨v,h1,h2⟩:=eval_rel he ht
     cases h2
     rw [ask_iff] at hw
     cases t with
     | true=>
       obtain ⟨out,M,i1,i2⟩:=(codeW_sound hrec hdraw hAn m a).run hs he hu (hw.1 rfl)
       exact ⟨out,M,fun n hn=>by simp only [codeA,h1];exact i1 n hn,i2⟩
     | false=>
       obtain ⟨out,M,i1,i2⟩:=(codeW_sound hrec hdraw hAn m b).run hs he hu (hw.2 rfl)
       exact ⟨out,M,fun n hn=>by simp only [codeA,h1];exact i1 n hn,i2⟩
   · exact hw.elim
 | .loop b=>loop_ok (codeW_sound hrec hdraw hAn m b) m
 | .scope b=>by
   refine ⟨fun {σ s g A e e' su u k} hs he hu hw=> ?_⟩
   simp only [codeW] at hw
   obtain ⟨out,M,h1,h2⟩:=(codeW_sound hrec hdraw hAn m b).run hs he hu hw
   cases out with
   | fail=>exact h2.elim
   | fin x e1 u1 s1=>
     obtain ⟨sx,se,su1,σ1,g1,A1,j1,j2,j3,j4,j5,j6⟩:=h2
     have hx:∀l,x≠.goto l:=by
      rintro l rfl
      cases sx<;>simp only [RX] at j2
      exact j1
     refine ⟨.fin x e1 u1 s1,M,fun n hn=> ?_,sx,se,su1,σ1,g1,A1, ?_,j2,j3,j4,j5,j6⟩
     · simp only [codeA,h1 n hn]
       cases x<;>first | rfl | exact absurd rfl (hx _)
     · cases sx<;>first | exact j1 | exact j1.elim
 | .block id (.loop b)=>by
   have ih:=codeW_sound (base:=base) hrec hdraw hAn m b
   refine ⟨fun {σ s g A e e' su u k} hs he hu hw=> ?_⟩
   simp only [codeW] at hw
   split at hw
   · rename_i c hc
     cases fl with
     | true=>rw [hAn rfl id] at hc;cases hc
     | false=>
       split at hw
       · exact (block_ok (cutLoopW_ok ih)).run hs he hu hw
       · obtain ⟨r,hw⟩:=hw
         exact (block_ok (cutLoopW_ok ih)).run hs he hu hw
   · exact (block_ok (loop_ok ih m)).run hs he hu hw
 | .block id .skip=>blk hrec hdraw hAn m id .skip (codeW_sound hrec hdraw hAn m .skip) rfl
 | .block id (.label l)=>blk hrec hdraw hAn m id (.label l) (codeW_sound hrec hdraw hAn m (.label l)) rfl
 | .block id (.exit l)=>blk hrec hdraw hAn m id (.exit l) (codeW_sound hrec hdraw hAn m (.exit l)) rfl
 | .block id (.goto l)=>blk hrec hdraw hAn m id (.goto l) (codeW_sound hrec hdraw hAn m (.goto l)) rfl
 | .block id .ret=>blk hrec hdraw hAn m id .ret (codeW_sound hrec hdraw hAn m .ret) rfl
 | .block id (.refuse w)=>blk hrec hdraw hAn m id (.refuse w) (codeW_sound hrec hdraw hAn m (.refuse w)) rfl
 | .block id (.rangeFunc f p a b)=>blk hrec hdraw hAn m id (.rangeFunc f p a b) (codeW_sound hrec hdraw hAn m (.rangeFunc f p a b)) rfl
 | .block id (.region i o d)=>blk hrec hdraw hAn m id (.region i o d) (codeW_sound hrec hdraw hAn m (.region i o d)) rfl
 | .block id (.seq a b)=>blk hrec hdraw hAn m id (.seq a b) (codeW_sound hrec hdraw hAn m (.seq a b)) rfl
 | .block id (.cond c a b)=>blk hrec hdraw hAn m id (.cond c a b) (codeW_sound hrec hdraw hAn m (.cond c a b)) rfl
 | .block id (.scope b)=>blk hrec hdraw hAn m id (.scope b) (codeW_sound hrec hdraw hAn m (.scope b)) rfl
 | .block id (.block i b)=>blk hrec hdraw hAn m id (.block i b) (codeW_sound hrec hdraw hAn m (.block i b)) rfl
where
 blk {rw:SRec} (hrec:RecWOk C rw) {cf:SCf} (hdraw:DrawWOk C rw cf) {fl:Bool} {base:List Nat} {An:Nat->Option Cut} (hAn:fl=true->∀id,An id=none) (m:Nat) (id:Nat) (b:Code) (ih:CodeWOk C fl base cf b (codeW C rw base An m cf b))
     (e:codeW C rw base An m cf (.block id b)=fun e u σ k=>match An id with
       | some c=>cutW base c e.n (codeW C rw base An m cf b) e u σ (inBlockW id k)
       | none=>codeW C rw base An m cf b e u σ (inBlockW id k)):CodeWOk C fl base cf (.block id b) (codeW C rw base An m cf (.block id b)):=by
  rw [e]
  refine ⟨fun {σ s g A e e' su u k} hs he hu hw=> ?_⟩
  cases hc:An id with
  | some c=>
    rw [hc] at hw
    cases fl with
    | true=>rw [hAn rfl id] at hc;cases hc
    | false=>exact (block_ok (cutW_ok ih)).run hs he hu hw
  | none=>
    rw [hc] at hw
    exact (block_ok ih).run hs he hu hw
end
end Go.Eng
