import Derived.Test.YtoajkmdddjnebaaGreatDoorEngED
set_option linter.unusedSimpArgs false
set_option linter.unusedVariables false
namespace Go.Eng
def denP (φ:Phi) (p:PanicEntry):PanicEntry:={p with v:=den φ p.v}
def okChain (D:Nat->Prop) (c:List PanicEntry):Prop:=∀p∈c,Ok D p.v
def denM (φ:Phi):FrameMode->FrameMode
 | .panicking c=> .panicking (c.map (denP φ))
 | m=>m
def okM (D:Nat->Prop):FrameMode->Prop
 | .panicking c=>okChain D c
 | _=>True
def denX (φ:Phi):X->X
 | .panic c=> .panic (c.map (denP φ))
 | x=>x
def okX (D:Nat->Prop):X->Prop
 | .panic c=>okChain D c
 | _=>True
theorem denC_congr {φ ψ:Phi} {D:Nat->Prop} (h:∀i,D i->φ i=ψ i) (c:List PanicEntry) (hc:okChain D c):c.map (denP φ)=c.map (denP ψ):=
 List.map_congr_left fun p hp=>by simp only [denP,den_congr h _ (hc p hp)]
theorem denM_congr {φ ψ:Phi} {D:Nat->Prop} (h:∀i,D i->φ i=ψ i) (m:FrameMode) (hm:okM D m):denM φ m=denM ψ m:=by
 cases m<;>simp only [denM]
 rw [denC_congr h _ hm]
theorem okChain.mono {D D':Nat->Prop} (h:∀i,D i->D' i) {c:List PanicEntry} (hc:okChain D c):okChain D' c:=fun p hp=>Ok.mono h _ (hc p hp)
theorem okM.mono {D D':Nat->Prop} (h:∀i,D i->D' i) {m:FrameMode} (hm:okM D m):okM D' m:=by
 cases m<;>simp only [okM] at hm ⊢
 exact okChain.mono h hm
def csOf (dfr:Bool) (φ:Phi) (u:FrameMode) (cs:List Frame):List Frame:=
 match dfr,cs with
 | true,c::r=>{c with mode:=denM φ u}::r
 | _,cs=>cs
theorem csOf_congr {dfr:Bool} {φ ψ:Phi} {D:Nat->Prop} (h:∀i,D i->φ i=ψ i) {u:FrameMode} (hu:okM D u) (cs:List Frame):csOf dfr φ u cs=csOf dfr ψ u cs:=by
 unfold csOf
 split
 · rw [denM_congr h u hu]
 · rfl
def Inv (C:Cx) (φ:Phi) (D:Nat->Prop) (s:St) (w:World):Prop:=Rel C φ D s.heap w/\∀i,D i->i<s.next
structure BOk (φ:Phi) (D:Nat->Prop) (cf:Cf) (b:Frame):Prop where
 fn:b.fn=cf.fn
 kind:b.kind=if cf.dfr then .deferred else .normal
 round:b.roundOf=cf.round.map fun l=>(φ l).block
 ok:∀l,cf.round=some l->D l
theorem BOk.mono {φ φ':Phi} {D D':Nat->Prop} {cf:Cf} {b:Frame} (h:BOk φ D cf b) (hD:∀i,D i->D' i) (hφ:∀i,D i->φ' i=φ i):BOk φ' D' cf b:=
 ⟨h.fn,h.kind,by
   rw [h.round]
   cases hr:cf.round with
   | none=>rfl
   | some l=>simp [hφ l (h.ok l hr)],fun l hl=>hD l (h.ok l hl)⟩
def Out (C:Cx) (P:Program) (φ:Phi) (D:Nat->Prop) (s:St) (w:World) (m:Machine) (b:Frame) (k:List Item) (dfr:Bool) (cs:List Frame):COut->Prop
 | .fin x e u s'=>∃φ' D' w' a',Inv C φ' D' s' w'/\ERel φ' D' e a'/\okM D' u/\okX D' x/\Ext φ D s.heap w φ' D' s'.heap w'/\Arr P m b k (csOf dfr φ' u cs) (denX φ' x) a' w'
 | .fail=>True
structure RecOk (C:Cx) (P:Program) (r:Rec):Prop where
 call:∀f args s φ D w,Inv C φ D s w->OkL D args->match r.call false f args .run s with
  | .returned v _ s'=>∀cs,∃φ' D' w' fr,Inv C φ' D' s' w'/\Ext φ D s.heap w φ' D' s'.heap w'/\Ok D' v/\
     Steps P (lone (Frame.enter P f (denL φ args).toArray .normal) cs w) (lone fr cs w')/\fr.fn=f/\fr.leaving P w' (.returned (den φ' v))
  | .panicked ch _ s'=>∀cs,∃φ' D' w' fr,Inv C φ' D' s' w'/\Ext φ D s.heap w φ' D' s'.heap w'/\okChain D' ch/\
     Steps P (lone (Frame.enter P f (denL φ args).toArray .normal) cs w) (lone fr cs w')/\fr.fn=f/\fr.leaving P w' (.panicked (ch.map (denP φ')))
  | .fail=>True
 callD:∀f args u s φ D w,Inv C φ D s w->OkL D args->okM D u->match r.call true f args u s with
  | .returned v u' s'=>∀c cs,c.mode=denM φ u->∃φ' D' w' fr,Inv C φ' D' s' w'/\Ext φ D s.heap w φ' D' s'.heap w'/\Ok D' v/\okM D' u'/\
     Steps P (lone (Frame.enter P f (denL φ args).toArray .deferred) (c::cs) w) (lone fr ({c with mode:=denM φ' u'}::cs) w')/\fr.kind= .deferred/\fr.going P w' (.returned (den φ' v))
  | .panicked ch u' s'=>∀c cs,c.mode=denM φ u->∃φ' D' w' fr,Inv C φ' D' s' w'/\Ext φ D s.heap w φ' D' s'.heap w'/\okChain D' ch/\okM D' u'/\
     Steps P (lone (Frame.enter P f (denL φ args).toArray .deferred) (c::cs) w) (lone fr ({c with mode:=denM φ' u'}::cs) w')/\fr.kind= .deferred/\fr.going P w' (.panicked (ch.map (denP φ')))
  | .fail=>True
 round:∀l args s φ D w l' f tm as bd,Inv C φ D s w->NRel φ D s.heap (.round l args) (.round l' f tm as bd)->match r.round l args s with
  | .returned v _ s'=>∀c cs,∃φ' D' w',Inv C φ' D' s' w'/\Ext φ D s.heap w φ' D' s'.heap w'/\Ok D' v/\
     Steps P (lone (Frame.round l' f tm as bd .normal) (c::cs) w) (lone (c.finish (den φ' v)) cs w')
  | .panicked ch _ s'=>∀c cs,∃φ' D' w',Inv C φ' D' s' w'/\Ext φ D s.heap w φ' D' s'.heap w'/\okChain D' ch/\
     Steps P (lone (Frame.round l' f tm as bd .normal) (c::cs) w) (lone (c.raise (ch.map (denP φ'))) cs w')
  | .fail=>True
section
variable {C:Cx} {P:Program} {φ:Phi} {D:Nat->Prop} {s:St} {w:World} {e:E} {a:Act}
theorem After.inv {s':St} {Q:Phi->(Nat->Prop)->World->Prop} (h:After C φ D s w s' Q) (hb:∀i,D i->i<s.next):
 ∃φ' D' w',Inv C φ' D' s' w'/\Ext φ D s.heap w φ' D' s'.heap w'/\Q φ' D' w':=by
 obtain ⟨φ',D',w',h1,h2,h3,h4⟩:=h
 refine ⟨φ',D',w',⟨h1, ?_⟩,h2,h4⟩
 rcases h3 with ⟨rfl,hn⟩ | ⟨rfl,hn⟩
 · intro i hi;rw [hn];exact hb i hi
 · intro i hi
   rw [hn]
   rcases hi with hi | hi
   · have:=hb i hi;omega
   · omega
theorem den_bool_inv {v:Value} {b:Bool} (h:den φ v= .bool b):v= .bool b:=by
 cases v with
 | bool x=>simpa [den] using h
 | pointer q=>cases q<;>simp [den] at h
 | slice q l c=>cases q<;>simp [den] at h
 | map q=>cases q<;>simp [den] at h
 | chan q=>cases q<;>simp [den] at h
 | _=>simp [den] at h
theorem wanted_sound (he:ERel φ D e a) {ops:Array Oper} {o:Oper} {r:Bool} (h:wantedA ops.toList e o=some r):Region.wanted o (yielded ops a.tmps)=r:=by
 unfold wantedA at h
 unfold Region.wanted
 split at h
 · rename_i hg;cases h;rw [hg]
 · rename_i j want hg
   rw [hg]
   simp only
   split at h
   · rename_i oj hj
     rw [nth_eq] at hj
     have hj':ops[j]? =some oj:=by simpa using hj
     split at h
     · rename_i d hd
       split at h
       · rename_i b hb
         cases h
         have:=(he.tmps.2 d _ hb).2
         simp [yielded,hj',hd,this,den]
       · rename_i v hno hb
         cases h
         have:=(he.tmps.2 d _ hb).2
         have hy:yielded ops a.tmps j=none:=by
          simp only [yielded,hj',Option.bind_some,hd,this]
          split
          · rename_i b hq
            have:=den_bool_inv (by simpa using hq)
            exact absurd this (hno b)
          · rfl
         rw [hy];rfl
       · cases h
     · rename_i hd
       cases h
       have hy:yielded ops a.tmps j=none:=by simp [yielded,hj',hd]
       rw [hy];rfl
   · rename_i hj
     cases h
     rw [nth_eq] at hj
     have hj':ops[j]? =none:=by simpa using hj
     have hy:yielded ops a.tmps j=none:=by simp [yielded,hj']
     rw [hy];rfl
theorem exec_defer {ρ:Operand->Value} {o:Oper} {c:Call} {nx:Next} {w w':World} (hc:o.op= .defer c) (h:(execOp ρ o).run P w= .ok nx w'):∃d,nx= .defer d:=by
 simp only [execOp,hc,Sem.run_bind] at h
 cases hq:(resolve ρ c o.type).run P w with
 | ok d w2=>rw [hq] at h;simp at h;exact ⟨d,h.1.symm⟩
 | halt x w2=>rw [hq] at h;simp at h
theorem exec_defer_panic {ρ:Operand->Value} {o:Oper} {c:Call} {v:Value} {w w':World} (hc:o.op= .defer c) (h:(execOp ρ o).run P w= .halt (.panic v) w'):False:=by
 simp only [execOp,hc,Sem.run_bind] at h
 have:∀x w2,(resolve ρ c o.type).run P w= .halt x w2->∃s,x= .stuck s:=by
  intro x w2 hx
  unfold resolve at hx
  split at hx
  · simp at hx
  · simp at hx
  · unfold Deferred.ofValue at hx
    split at hx
    · simp at hx
    · simp at hx
    · simp at hx;exact ⟨_,hx.1.symm⟩
 cases hq:(resolve ρ c o.type).run P w with
 | ok d w2=>rw [hq] at h;simp at h
 | halt x w2=>
   obtain ⟨s,rfl⟩:=this x w2 hq
   rw [hq] at h;simp at h
theorem ERel.deferred (he:ERel φ D e a) {d:Deferred} (hd:OkD D d):ERel φ D {e with defers:=d::e.defers} {a with defers:=denD φ d::a.defers}:=
 ⟨he.tmps,by simp [he.defers],fun d' h=>by
   rcases List.mem_cons.1 h with rfl | h
   · exact hd
   · exact he.ok d' h⟩
theorem opStep_sound (hC:CxOk C P) {rec:Rec} (hrec:RecOk C P rec) {cf:Cf} {ops:Array Oper} {i:Nat} {rest:List Nat} {o:Oper} (ho:ops[i]? =some o) {u:FrameMode} {b:Frame} {k:List Item} {cs:List Frame}
 (hI:Inv C φ D s w) (he:ERel φ D e a) (hu:okM D u) (hB:BOk φ D cf b) (hcs:cf.dfr=true->cs≠[]):
 Out C P φ D s w (lone (fat b a (.inRegion ops (i::rest)::k)) (csOf cf.dfr φ u cs) w) b (.inRegion ops rest::k) cf.dfr cs (opStep C rec cf ops.toList o e u s):=by
 have hr:=hI.1
 have hn:¬D s.next:=fun h=>Nat.lt_irrefl _ (hI.2 _ h)
 have putv:∀(v v':Value) (u':FrameMode) (s':St) (φ':Phi) (D':Nat->Prop) (w':World) (a1:Act) (e1:E),Inv C φ' D' s' w'->Ext φ D s.heap w φ' D' s'.heap w'->ERel φ' D' e1 a1->Ok D' v->v'=den φ' v->okM D' u'->
  Steps P (lone (fat b a (.inRegion ops (i::rest)::k)) (csOf cf.dfr φ u cs) w) (lone (fat b (a1.put o.dst v') (.inRegion ops rest::k)) (csOf cf.dfr φ' u' cs) w')->
  Out C P φ D s w (lone (fat b a (.inRegion ops (i::rest)::k)) (csOf cf.dfr φ u cs) w) b (.inRegion ops rest::k) cf.dfr cs
   (match e1.put o.dst v with | some e=> .fin .normal e u' s' | none=> .fail):=by
  intro v v' u' s' φ' D' w' a1 e1 h1 h2 h3 h4 h5 h6 h7
  cases hp:e1.put o.dst v with
  | none=>trivial
  | some e2=>
    subst h5
    exact ⟨φ',D',w',_,h1,h3.put h4 hp,h6,trivial,h2,h7⟩
 unfold opStep
 split
 · rename_i hwant
   have hw:=wanted_sound he hwant
   split
   · -- communication
     rename_i v s' hcm
     obtain ⟨w',h1,h2,h3,h4,h5⟩:=comm_sound (b:=b) (k:=k) (cs:=csOf cf.dfr φ u cs) (rest:=rest) hC ho hw hr he hcm
     exact putv v (den φ v) u s' φ D w' a e ⟨h1,fun i hi=>by rw [h3];exact hI.2 i hi⟩ h2 he h4 rfl hu (.one h5)
   have hop:=opA_sound hC hr he hn o
   generalize opA C e o s=res at hop
   have hdc:b.roundOf=none\/(∀c,o.op≠.defer c)\/∃c,o.op= .defer c:=by
    cases o.op<;>simp
   split
   · -- a value
     rename_i v s'
     obtain ⟨φ',D',w',h1,h2,nx',hrun,hnr⟩:=After.inv hop hI.2
     have hd:b.roundOf=none\/∀c,o.op≠.defer c:=by
      right;intro c hc
      simp only [execOp,hc,Sem.run_bind] at hrun
      cases hq:(resolve a.eval c o.type).run P w with
      | ok d w2=>rw [hq] at hrun;simp at hrun;rw [<-hrun.1] at hnr;exact hnr.elim
      | halt x w2=>rw [hq] at hrun;simp at hrun
     have hcsφ:csOf cf.dfr φ u cs=csOf cf.dfr φ' u cs:=csOf_congr (fun i hi=>(h2.phi i hi).symm) hu cs
     cases nx' with
     | value v'=>
       refine putv v v' u s' φ' D' w' a e h1 h2 (he.mono h2.dom h2.phi) hnr.1 hnr.2 (okM.mono h2.dom hu) ?_
       rw [<-hcsφ]
       exact .one (go_value ho hw hd hrun)
     | skip=>
       have hv:v=undef:=hnr
       subst hv
       refine putv undef undef u s' φ' D' w' a e h1 h2 (he.mono h2.dom h2.phi) (ok_undef _) (den_undef _).symm (okM.mono h2.dom hu) ?_
       rw [<-hcsφ]
       exact .one (go_opskip ho hw hd hrun)
     | _=>exact hnr.elim
   · -- a call
     rename_i f args s'
     obtain ⟨φ',D',w',h1,h2,nx',hrun,hnr⟩:=After.inv hop hI.2
     have hcsφ:csOf cf.dfr φ u cs=csOf cf.dfr φ' u cs:=csOf_congr (fun i hi=>(h2.phi i hi).symm) hu cs
     cases nx' with
     | enter f' args'=>
       obtain ⟨rfl,hargs,rfl⟩:=hnr
       have hd:b.roundOf=none\/∀c,o.op≠.defer c:= .inr fun c hc=>by obtain ⟨d,hd⟩:=exec_defer hc hrun;cases hd
       have hcall:=hrec.call f' args s' φ' D' w' h1 hargs
       generalize rec.call false f' args .run s'=out at hcall
       have hent:=go_enter (P:=P) (b:=b) (a:=a) (k:=k) (rest:=rest) (cs:=csOf cf.dfr φ u cs) ho hw hd hrun
       cases out with
       | returned v u2 s2=>
         obtain ⟨φ2,D2,w2,fr,g1,g2,g3,g4,g5,g6⟩:=hcall (fat b a (.inRegion ops (i::rest)::k)::csOf cf.dfr φ u cs)
         have hext:=h2.trans g2
         have hcsφ2:csOf cf.dfr φ u cs=csOf cf.dfr φ2 u cs:=csOf_congr (fun i hi=>(hext.phi i hi).symm) hu cs
         refine putv v (den φ2 v) u s2 φ2 D2 w2 a e g1 hext (he.mono hext.dom hext.phi) g3 rfl (okM.mono hext.dom hu) ?_
         have hleave:=step_leave_returned (c:=fat b a (.inRegion ops (i::rest)::k)) (cs:=csOf cf.dfr φ u cs) g6
         rw [finish_fat,ho] at hleave
         rw [<-hcsφ2]
         exact .head hent (g4.trans (.one hleave))
       | panicked ch u2 s2=>
         obtain ⟨φ2,D2,w2,fr,g1,g2,g3,g4,g5,g6⟩:=hcall (fat b a (.inRegion ops (i::rest)::k)::csOf cf.dfr φ u cs)
         have hext:=h2.trans g2
         have hcsφ2:csOf cf.dfr φ u cs=csOf cf.dfr φ2 u cs:=csOf_congr (fun i hi=>(hext.phi i hi).symm) hu cs
         have hleave:=step_leave_panicked (c:=fat b a (.inRegion ops (i::rest)::k)) (cs:=csOf cf.dfr φ u cs) g6
         refine ⟨φ2,D2,w2,a,g1,he.mono hext.dom hext.phi,okM.mono hext.dom hu,g3,hext,.inRegion ops (i::rest)::k, ?_⟩
         rw [<-hcsφ2]
         exact .head hent (g4.trans (.one hleave))
       | fail=>trivial
     | value v'=>exact hnr.elim
     | _=>exact hnr.elim
   · -- a round
     rename_i l args s'
     obtain ⟨φ',D',w',h1,h2,nx',hrun,hnr⟩:=After.inv hop hI.2
     cases nx' with
     | round l' f tm as bd=>
       have hd:b.roundOf=none\/∀c,o.op≠.defer c:= .inr fun c hc=>by obtain ⟨d,hd⟩:=exec_defer hc hrun;cases hd
       have hcall:=hrec.round l args s' φ' D' w' l' f tm as bd h1 hnr
       generalize rec.round l args s'=out at hcall
       have hent:=go_round (P:=P) (b:=b) (a:=a) (k:=k) (rest:=rest) (cs:=csOf cf.dfr φ u cs) ho hw hd hrun
       cases out with
       | returned v u2 s2=>
         obtain ⟨φ2,D2,w2,g1,g2,g3,g4⟩:=hcall (fat b a (.inRegion ops (i::rest)::k)) (csOf cf.dfr φ u cs)
         have hext:=h2.trans g2
         have hcsφ2:csOf cf.dfr φ u cs=csOf cf.dfr φ2 u cs:=csOf_congr (fun i hi=>(hext.phi i hi).symm) hu cs
         refine putv v (den φ2 v) u s2 φ2 D2 w2 a e g1 hext (he.mono hext.dom hext.phi) g3 rfl (okM.mono hext.dom hu) ?_
         rw [finish_fat,ho] at g4
         rw [<-hcsφ2]
         exact .head hent g4
       | panicked ch u2 s2=>
         obtain ⟨φ2,D2,w2,g1,g2,g3,g4⟩:=hcall (fat b a (.inRegion ops (i::rest)::k)) (csOf cf.dfr φ u cs)
         have hext:=h2.trans g2
         have hcsφ2:csOf cf.dfr φ u cs=csOf cf.dfr φ2 u cs:=csOf_congr (fun i hi=>(hext.phi i hi).symm) hu cs
         refine ⟨φ2,D2,w2,a,g1,he.mono hext.dom hext.phi,okM.mono hext.dom hu,g3,hext,.inRegion ops (i::rest)::k, ?_⟩
         rw [<-hcsφ2]
         exact .head hent g4
       | fail=>trivial
     | value v'=>exact hnr.elim
     | _=>exact hnr.elim
   · -- a deferred call
     rename_i d s'
     obtain ⟨φ',D',w',h1,h2,nx',hrun,hnr⟩:=After.inv hop hI.2
     split
     case h_2=>trivial
     rename_i hround
     cases nx' with
     | defer d'=>
       obtain ⟨hok,rfl⟩:=hnr
       have hro:b.roundOf=none:=by rw [hB.round,hround];rfl
       have hgo:=go_defer (P:=P) (b:=b) (a:=a) (k:=k) (rest:=rest) (cs:=csOf cf.dfr φ u cs) ho hw hro hrun
       have hcsφ:csOf cf.dfr φ u cs=csOf cf.dfr φ' u cs:=csOf_congr (fun i hi=>(h2.phi i hi).symm) hu cs
       have he':=he.mono h2.dom h2.phi
       cases hp:e.put o.dst undef with
       | none=>trivial
       | some e2=>
         have h3:=(he'.put (ok_undef _) hp).deferred hok
         have ha:({a.put o.dst (den φ' undef) with defers:=denD φ' d::(a.put o.dst (den φ' undef)).defers}:Act)=({a with defers:=denD φ' d::a.defers}:Act).put o.dst undef:=by
          rw [den_undef]
          cases o.dst<;>rfl
         rw [ha] at h3
         refine ⟨φ',D',w',_,h1,h3,okM.mono h2.dom hu,trivial,h2, ?_⟩
         rw [<-hcsφ]
         exact .one hgo
     | value v'=>exact hnr.elim
     | _=>exact hnr.elim
   · -- recover
     rename_i s'
     obtain ⟨φ',D',w',h1,h2,nx',hrun,hnr⟩:=After.inv hop hI.2
     cases nx' with
     | recover=>
       cases hrec':recA cf u with
       | none=>trivial
       | some p=>
         obtain ⟨v,u'⟩:=p
         unfold recA at hrec'
         split at hrec'
         · cases hrec'
         · rename_i hround
           have hro:b.roundOf=none:=by rw [hB.round,hround];rfl
           have he':=he.mono h2.dom h2.phi
           cases hdf:cf.dfr with
           | false=>
             rw [hdf] at hrec'
             simp only [cond_false,Option.some.injEq,Prod.mk.injEq] at hrec'
             obtain ⟨rfl,rfl⟩:=hrec'
             have hk:b.kind= .normal:=by rw [hB.kind,hdf];rfl
             have:=go_recover_normal (P:=P) (b:=b) (a:=a) (k:=k) (rest:=rest) (cs:=csOf cf.dfr φ u cs) ho hw hk hro hrun
             have hcsφ:csOf cf.dfr φ u cs=csOf cf.dfr φ' u cs:=csOf_congr (fun i hi=>(h2.phi i hi).symm) hu cs
             rw [<-hdf]
             refine putv .nilIface .nilIface u s' φ' D' w' a e h1 h2 he' (by simp [Ok]) (by simp [den]) (okM.mono h2.dom hu) ?_
             rw [<-hcsφ]
             exact .one this
           | true=>
             rw [hdf] at hrec'
             simp only [cond_true] at hrec'
             have hk:b.kind= .deferred:=by rw [hB.kind,hdf];rfl
             have hgo:=go_recover_deferred (P:=P) (b:=b) (a:=a) (k:=k) (rest:=rest) (cs:=csOf cf.dfr φ u cs) ho hw hk hro hrun
             obtain ⟨c,cr,rfl⟩:∃c cr,cs=c::cr:=by
              cases cs with
              | nil=>exact absurd rfl (hcs hdf)
              | cons c cr=>exact ⟨c,cr,rfl⟩
             have hcsφ:csOf cf.dfr φ u (c::cr)=csOf cf.dfr φ' u (c::cr):=csOf_congr (fun i hi=>(h2.phi i hi).symm) hu _
             have hu':=okM.mono h2.dom hu
             rw [<-hdf]
             split at hrec'
             · rename_i pv older
               simp only [Option.some.injEq,Prod.mk.injEq] at hrec'
               obtain ⟨rfl,rfl⟩:=hrec'
               have hpv:Ok D' pv:=hu' _ (List.mem_cons_self ..)
               refine putv pv (den φ' pv) (.panicking ({v:=pv,recovered:=true}::older)) s' φ' D' w' a e h1 h2 he' hpv rfl (by
                intro p hp
                rcases List.mem_cons.1 hp with rfl | hp
                · exact hpv
                · exact hu' p (List.mem_cons_of_mem _ hp)) ?_
               rw [hcsφ,hdf] at hgo ⊢
               simp only [csOf,denM,List.map_cons,denP,recoverD] at hgo
               exact .one hgo
             · rename_i hno
               simp only [Option.some.injEq,Prod.mk.injEq] at hrec'
               obtain ⟨rfl,rfl⟩:=hrec'
               refine putv .nilIface .nilIface u s' φ' D' w' a e h1 h2 he' (by simp [Ok]) (by simp [den]) hu' ?_
               have hnone:recoverD (csOf cf.dfr φ u (c::cr))=none:=by
                rw [hdf]
                simp only [csOf,recoverD]
                split
                · rename_i v' older' hm
                  exfalso
                  cases u with
                  | panicking ch=>
                    cases ch with
                    | nil=>simp [denM] at hm
                    | cons p r=>
                      simp only [denM,List.map_cons,denP,FrameMode.panicking.injEq,List.cons.injEq,PanicEntry.mk.injEq] at hm
                      obtain ⟨⟨hm1,hm2,hm3⟩,_⟩:=hm
                      obtain ⟨pv,pr,pg⟩:=p
                      simp only at hm2 hm3
                      subst hm2;subst hm3
                      exact hno pv r rfl
                  | run=>simp [denM] at hm
                  | returning=>simp [denM] at hm
                · rfl
               rw [hnone] at hgo
               rw [<-hcsφ]
               exact .one hgo
     | value v'=>exact hnr.elim
     | _=>exact hnr.elim
   · -- a panic
     rename_i v s'
     obtain ⟨φ',D',w',h1,h2,hrun,hok⟩:=After.inv hop hI.2
     have hd:b.roundOf=none\/∀c,o.op≠.defer c:= .inr fun c hc=>exec_defer_panic hc hrun
     have hcsφ:csOf cf.dfr φ u cs=csOf cf.dfr φ' u cs:=csOf_congr (fun i hi=>(h2.phi i hi).symm) hu cs
     refine ⟨φ',D',w',a,h1,he.mono h2.dom h2.phi,okM.mono h2.dom hu, ?_,h2,.inRegion ops (i::rest)::k, ?_⟩
     · intro p hp
       simp only [List.mem_singleton] at hp
       subst hp;exact hok
     · rw [<-hcsφ]
       exact .one (go_panic ho hw hd hrun)
   · trivial
 · rename_i hwant
   have hw:=wanted_sound he hwant
   refine putv undef undef u s φ D w a e hI (Ext.refl ..) he (ok_undef _) (den_undef _).symm hu ?_
   have:=go_op_skip (P:=P) (b:=b) (a:=a) (k:=k) (cs:=csOf cf.dfr φ u cs) (w:=w) (ops:=ops) (i:=i) (rest:=rest) (by simp [ho,hw])
   rw [ho] at this
   exact .one this
 · trivial
end
end Go.Eng
namespace Go.Eng
section
variable {C:Cx} {P:Program} {φ:Phi} {D:Nat->Prop} {s:St} {w:World} {e:E} {a:Act}
theorem Out.trans {φ1:Phi} {D1:Nat->Prop} {s1:St} {w1:World} {m m1:Machine} {b:Frame} {k:List Item} {dfr:Bool} {cs:List Frame} {r:COut}
 (hx:Ext φ D s.heap w φ1 D1 s1.heap w1) (hs:Steps P m m1) (h:Out C P φ1 D1 s1 w1 m1 b k dfr cs r):Out C P φ D s w m b k dfr cs r:=by
 cases r with
 | fail=>trivial
 | fin x e u s'=>
   obtain ⟨φ',D',w',a',h1,h2,h3,h4,h5,h6⟩:=h
   exact ⟨φ',D',w',a',h1,h2,h3,h4,hx.trans h5,.of_steps hs h6⟩
theorem ops_sound (hC:CxOk C P) {rec:Rec} (hrec:RecOk C P rec) {cf:Cf} {ops:Array Oper} {b:Frame} {k:List Item} {cs:List Frame} (hcs:cf.dfr=true->cs≠[]):
 ∀(l:List Oper) (i:Nat) (φ:Phi) (D:Nat->Prop) (s:St) (w:World) (e:E) (a:Act) (u:FrameMode),(∀j o,l[j]? =some o->ops[i+j]? =some o)->
  Inv C φ D s w->ERel φ D e a->okM D u->BOk φ D cf b->
  Out C P φ D s w (lone (fat b a (.inRegion ops (List.range' i l.length)::k)) (csOf cf.dfr φ u cs) w) b k cf.dfr cs (opsA C rec cf ops.toList l e u s)
 | [],i,φ,D,s,w,e,a,u,hl,hI,he,hu,hB=>by
   exact ⟨φ,D,w,a,hI,he,hu,trivial,Ext.refl ..,.one go_region_end⟩
 | o::r,i,φ,D,s,w,e,a,u,hl,hI,he,hu,hB=>by
   have ho:ops[i]? =some o:=by simpa using hl 0 o rfl
   have hr':List.range' i (o::r).length=i::List.range' (i+1) r.length:=by simp [List.range']
   rw [hr']
   have hstep:=opStep_sound (rest:=List.range' (i+1) r.length) (k:=k) hC hrec ho hI he hu hB hcs
   simp only [opsA]
   generalize opStep C rec cf ops.toList o e u s=res at hstep
   cases res with
   | fail=>trivial
   | fin x e1 u1 s1=>
     obtain ⟨φ1,D1,w1,a1,h1,h2,h3,h4,h5,h6⟩:=hstep
     cases x with
     | normal=>
       have ih:=ops_sound hC hrec (k:=k) hcs r (i+1) φ1 D1 s1 w1 e1 a1 u1 (fun j o' hj=>by
        have:=hl (j+1) o' (by simpa using hj)
        rw [show i+1+j=i+(j+1) from by omega];exact this) h1 h2 h3 (hB.mono h5.dom h5.phi)
       exact Out.trans h5 h6 ih
     | exit id=>exact ⟨φ1,D1,w1,a1,h1,h2,h3,h4,h5,.pass (i:= .inRegion ops (List.range' (i+1) r.length)) rfl (by simp [denX]) h6⟩
     | goto l'=>exact ⟨φ1,D1,w1,a1,h1,h2,h3,h4,h5,.pass (i:= .inRegion ops (List.range' (i+1) r.length)) rfl (by simp [denX]) h6⟩
     | ret=>exact ⟨φ1,D1,w1,a1,h1,h2,h3,h4,h5,.pass (i:= .inRegion ops (List.range' (i+1) r.length)) rfl (by simp [denX]) h6⟩
     | panic ch=>exact ⟨φ1,D1,w1,a1,h1,h2,h3,h4,h5,.pass (i:= .inRegion ops (List.range' (i+1) r.length)) rfl (by simp [denX]) h6⟩
theorem region_sound (hC:CxOk C P) {rec:Rec} (hrec:RecOk C P rec) {cf:Cf} {id:Nat} {ops:Array Oper} {b:Frame} {k:List Item} {cs:List Frame} {u:FrameMode} (hcs:cf.dfr=true->cs≠[])
 (hI:Inv C φ D s w) (he:ERel φ D e a) (hu:okM D u) (hB:BOk φ D cf b):
 Out C P φ D s w (lone (fat b a (.code (.region id ops false)::k)) (csOf cf.dfr φ u cs) w) b k cf.dfr cs (opsA C rec cf ops.toList ops.toList e u s):=by
 have:=ops_sound hC hrec (k:=k) hcs ops.toList 0 φ D s w e a u (fun j o hj=>by simpa using hj) hI he hu hB
 rw [Array.length_toList,<-List.range_eq_range'] at this
 exact Out.trans (Ext.refl ..) (.one go_region) this
def CodeOk (C:Cx) (P:Program) (rec:Rec) (n:Nat) (c:Code):Prop:=
 ∀(cf:Cf) (φ:Phi) (D:Nat->Prop) (s:St) (w:World) (e:E) (a:Act) (u:FrameMode) (b:Frame) (k:List Item) (cs:List Frame),(cf.dfr=true->cs≠[])->
  Inv C φ D s w->ERel φ D e a->okM D u->BOk φ D cf b->
  Out C P φ D s w (lone (fat b a (.code c::k)) (csOf cf.dfr φ u cs) w) b k cf.dfr cs (codeA C rec n cf c e u s)
theorem loop_sound {rec:Rec} {n:Nat} {body:Code} (hb:CodeOk C P rec n body) {cf:Cf} {b:Frame} {k:List Item} {cs:List Frame} (hcs:cf.dfr=true->cs≠[]):
 ∀(m:Nat) (φ:Phi) (D:Nat->Prop) (s:St) (w:World) (e:E) (a:Act) (u:FrameMode),Inv C φ D s w->ERel φ D e a->okM D u->BOk φ D cf b->
  Out C P φ D s w (lone (fat b a (.code body:: .inLoop body::k)) (csOf cf.dfr φ u cs) w) b k cf.dfr cs (iterA (codeA C rec n cf body) m e u s)
 | 0,φ,D,s,w,e,a,u,_,_,_,_=>trivial
 | m+1,φ,D,s,w,e,a,u,hI,he,hu,hB=>by
   have h:=hb cf φ D s w e a u b (.inLoop body::k) cs hcs hI he hu hB
   simp only [iterA]
   generalize codeA C rec n cf body e u s=res at h
   cases res with
   | fail=>trivial
   | fin x e1 u1 s1=>
     obtain ⟨φ1,D1,w1,a1,h1,h2,h3,h4,h5,h6⟩:=h
     cases x with
     | normal=>
       have ih:=loop_sound hb hcs (k:=k) m φ1 D1 s1 w1 e1 a1 u1 h1 h2 h3 (hB.mono h5.dom h5.phi)
       exact Out.trans h5 (Steps.trans h6 (.one go_inLoop)) ih
     | exit id=>exact ⟨φ1,D1,w1,a1,h1,h2,h3,h4,h5,.pass (i:= .inLoop body) rfl (by simp [denX]) h6⟩
     | goto l'=>exact ⟨φ1,D1,w1,a1,h1,h2,h3,h4,h5,.pass (i:= .inLoop body) rfl (by simp [denX]) h6⟩
     | ret=>exact ⟨φ1,D1,w1,a1,h1,h2,h3,h4,h5,.pass (i:= .inLoop body) rfl (by simp [denX]) h6⟩
     | panic ch=>exact ⟨φ1,D1,w1,a1,h1,h2,h3,h4,h5,.pass (i:= .inLoop body) rfl (by simp [denX]) h6⟩
end
end Go.Eng
namespace Go.Eng
section
variable {C:Cx} {P:Program} {φ:Phi} {D:Nat->Prop} {s:St} {w:World} {e:E} {a:Act} {b:Frame} {k:List Item} {cs:List Frame}
theorem go_rangeFunc {f:Operand} {ps:Array Tmp} {as bd:Code} {l:Nat} {mark:List Deferred} {w1 w2:World} {g:FuncId} {args:Array Value}
 (h1:(Instr.enterLoop b.fn a.tmps ps as bd b.roundOf).run P w= .ok (l,mark) w1)
 (h2:(do let d <-resolve a.eval {callee:= .value f,args:= #[.const (.func (.yield l) #[] #[])],argTypes:= #[]} 0;invoke d.target d.args:Sem Next).run P w1= .ok (.enter g args) w2):
 step P (lone (fat b a (.code (.rangeFunc f ps as bd)::k)) cs w)=
  .next (lone (Frame.enter P g args .normal) (fat b {a with defers:=mark++a.defers} (.inRangeFunc l::k)::cs) w2):=by
 have he:(fun x=>Frame.eval {fn:=b.fn,tmps:=a.tmps,todo:= .inRangeFunc l::k,defers:=mark++a.defers,mode:= .run,kind:=b.kind,roundOf:=b.roundOf} x)=a.eval:=by
  funext x;cases x<;>rfl
 refine step_lone_go ?_
 simp only [stepG,stepG.exec,fat,Sem.runT_eq,h1,GStep.bare_after]
 simp only [stepG.apply]
 have he':Frame.eval {fn:=b.fn,tmps:=a.tmps,todo:= .inRangeFunc l::k,defers:=mark++a.defers,mode:= .run,kind:=b.kind,roundOf:=b.roundOf}=a.eval:=he
 rw [he']
 simp only [Sem.runT_eq,if_true,h2,GStep.bare_after]
 simp
theorem go_endRange {l:Nat} {jump:Option Code} {w':World} (h:(Instr.endLoop l).run P w= .ok jump w'):
 step P (lone (fat b a (.endRangeFunc l::k)) cs w)= .next (lone (fat b a ((jump.map Item.code).toList++k)) cs w'):=by
 refine step_lone_go ?_
 simp only [stepG,stepG.exec,fat,Sem.runT_eq,h,GStep.bare_after]
 simp
theorem finish_range {l:Nat} {v:Value}:(fat b a (.inRangeFunc l::k)).finish v=fat b a (.endRangeFunc l::k):=by simp [Frame.finish,fat]
theorem Inv.newObj {φ:Phi} {D:Nat->Prop} {s:St} {w:World} (hI:Inv C φ D s w) {o:Obj} {bk:Blk}
 (hb:∀(φ':Phi) (D':Nat->Prop) (w':World),(∀i,D i->D' i)->(∀i,D i->φ' i=φ i)->w'.heap[w.heap.size]? =some o->BlkIs C φ' D' w' ⟨w.heap.size,0,0,none⟩ bk):
 ∃φ' D',Inv C φ' D' (s.new bk) {w with heap:=w.heap.push o}/\Ext φ D s.heap w φ' D' (s.new bk).heap {w with heap:=w.heap.push o}/\φ' s.next=⟨w.heap.size,0,0,none⟩/\D' s.next:=by
 have hn:¬D s.next:=fun h=>Nat.lt_irrefl _ (hI.2 _ h)
 have hφ:∀i,D i->updPhi φ s.next ⟨w.heap.size,0,0,none⟩ i=φ i:=fun i hi=>by
  unfold updPhi;rw [if_neg];intro e;subst e;exact hn hi
 obtain ⟨h1,h2⟩:=hI.1.new (w':={w with heap:=w.heap.push o}) hn rfl rfl rfl rfl (hb (updPhi φ s.next ⟨w.heap.size,0,0,none⟩) (addD D s.next) _ (fun _ h=> .inl h) hφ (by simp))
 refine ⟨_,_,⟨h1, ?_⟩,h2,by simp [updPhi],.inr rfl⟩
 intro i hi
 simp only [St.new]
 rcases hi with hi | hi
 · have:=hI.2 i hi;omega
 · omega
theorem rangeFunc_sound (hC:CxOk C P) {rec:Rec} (hrec:RecOk C P rec) {cf:Cf} {f:Operand} {ps:Array Tmp} {as bd:Code} {u:FrameMode} (hcs:cf.dfr=true->cs≠[])
 (hI:Inv C φ D s w) (he:ERel φ D e a) (hu:okM D u) (hB:BOk φ D cf b):
 Out C P φ D s w (lone (fat b a (.code (.rangeFunc f ps as bd)::k)) (csOf cf.dfr φ u cs) w) b k cf.dfr cs (rangeFuncA C rec cf f ps as bd e u s):=by
 generalize hg:rangeFuncA C rec cf f ps as bd e u s=out
 unfold rangeFuncA at hg
 split at hg
 · subst hg;trivial
 rename_i fv hfv
 split at hg
 · subst hg;trivial
 rename_i d e' s1 hset
 have first:∃φ1 D1 w1 dl mark,Inv C φ1 D1 s1 w1/\Ext φ D s.heap w φ1 D1 s1.heap w1/\D1 d/\(φ1 d).block=dl/\ERel φ1 D1 e' {a with defers:=mark++a.defers}/\
  (∀(fn:FuncId) (tm:Array Value),(Instr.enterLoop fn tm ps as bd b.roundOf).run P w=
    .ok (w1.heap.size,mark) {w1 with heap:=w1.heap.push (.loop {state:= .ready,pending:=none,fn,tmps:=tm,params:=ps,assign:=as,body:=bd,defers:=dl})}):=by
  split at hset
  · rename_i hround
    cases hset
    obtain ⟨φ1,D1,h1,h2,h3,h4⟩:=hI.newObj (o:= .deferred (some [])) (bk:= .deferred (some [])) (fun φ' D' w' _ _ h=>⟨(fun l hl d hd=>by cases hl;cases hd),h⟩)
    refine ⟨φ1,D1,_,w.heap.size,[{target:= .collected w.heap.size,args:= #[]}],h1,h2,h4,by rw [h3], ?_, ?_⟩
    · have he1:=he.mono h2.dom h2.phi
      have:=he1.deferred (d:={target:= .collected s.next,args:= #[]}) ⟨h4,trivial⟩
      have hden:denD φ1 {target:= .collected s.next,args:= #[]}={target:= .collected w.heap.size,args:= #[]}:=by
       simp [denD,denTarget,h3,denA,denL]
      rw [hden] at this
      exact this
    · intro fn tm
      have hro:b.roundOf=none:=by rw [hB.round,hround];rfl
      simp only [hro,Instr.enterLoop,Sem.run_bind,run_newObj,Result.andThen_ok,Sem.run_pure]
  · rename_i l hround
    split at hset
    case h_2=>cases hset
    rename_i r hl
    cases hset
    obtain ⟨hDl,tm0,htm0,hobj⟩:=hI.1.blk l _ hl
    refine ⟨φ,D,w,(φ r.defers).block,[],hI,Ext.refl ..,hDl,rfl,by simpa using he, ?_⟩
    intro fn tm
    have hro:b.roundOf=some (φ l).block:=by rw [hB.round,hround];rfl
    simp only [hro,Instr.enterLoop,Instr.getLoop,Sem.run_bind,run_getObj hobj (by intro _ _ _ h;cases h),run_newObj,Result.andThen_ok,Sem.run_pure]
 obtain ⟨φ1,D1,w1,dl,mark,hI1,hx1,hDd,hdl,he1,henter⟩:=first
 have he0:=he.mono hx1.dom hx1.phi
 obtain ⟨φ2,D2,hI2,hx2,hp2,hD2⟩:=hI1.newObj (o:= .loop {state:= .ready,pending:=none,fn:=b.fn,tmps:=a.tmps,params:=ps,assign:=as,body:=bd,defers:=dl})
  (bk:= .loop {state:= .ready,pending:=none,fn:=cf.fn,tmps:=e.tmps,ntm:=e.n,params:=ps,assign:=as,body:=bd,defers:=d})
  (fun φ' D' w' hD hφ h=>⟨hD _ hDd,a.tmps,he0.tmps.mono hD hφ,by rw [h,hφ _ hDd,hdl,hB.fn]⟩)
 have hx12:=hx1.trans hx2
 simp only at hg
 split at hg
 case h_2=>subst hg;trivial
 rename_i dd hdd
 have hfv':=eval_sound hC hI.1 he hfv
 have hfv2:a.eval f=den φ2 fv/\Ok D2 fv:=⟨by rw [hfv'.1,den_congr (fun i hi=>(hx12.phi i hi).symm) fv hfv'.2],Ok.mono hx12.dom fv hfv'.2⟩
 have hres:(resolve a.eval {callee:= .value f,args:= #[.const (.func (.yield w1.heap.size) #[] #[])],argTypes:= #[]} 0).run P {w1 with heap:=w1.heap.push (.loop {state:= .ready,pending:=none,fn:=b.fn,tmps:=a.tmps,params:=ps,assign:=as,body:=bd,defers:=dl})}= .ok (denD φ2 dd) {w1 with heap:=w1.heap.push (.loop {state:= .ready,pending:=none,fn:=b.fn,tmps:=a.tmps,params:=ps,assign:=as,body:=bd,defers:=dl})}/\OkD D2 dd:=by
  unfold ofValueA at hdd
  have hy:(#[Operand.const (.func (.yield w1.heap.size) #[] #[])].map a.eval)= #[.func (.yield w1.heap.size) #[] #[]]:=by simp [Act.eval]
  have hyd:den φ2 (.func (.yield s1.next) #[] #[])= .func (.yield w1.heap.size) #[] #[]:=by simp [den,denFn,hp2,denA,denL]
  have hyo:Ok D2 (.func (.yield s1.next) #[] #[]):=by simp only [Ok,okFn,OkA,OkL];exact ⟨hD2,trivial,trivial⟩
  split at hdd
  · rename_i fn first cap
    cases hdd
    have hk:=hfv2.2
    simp only [Ok] at hk
    refine ⟨?_,⟨hk.1,hk.2.2⟩, ?_⟩
    · simp only [resolve,hy,hfv2.1,den,Deferred.ofValue,Sem.run_pure,denD,denTarget]
      congr 2
      rw [denA_list,<-hyd]
      simp [denA,denL_map]
    · simp only [OkA]
      rw [OkA_iff] at hk
      rw [OkL_iff]
      intro x hx
      rcases List.mem_append.1 hx with hx | hx
      · exact hk.2.1 x hx
      · simp only [List.mem_singleton] at hx;subst hx;exact hyo
  · cases hdd
    refine ⟨?_,trivial, ?_⟩
    · simp only [resolve,hy,hfv2.1,den,Deferred.ofValue,Sem.run_pure,denD,denTarget]
      congr 2
      rw [<-hyd]
      simp [denA,denL_map]
    · simp only [OkA,OkL];exact ⟨hyo,trivial⟩
  · cases hdd
 obtain ⟨hres,hokd⟩:=hres
 have hn2:¬D2 (s1.new (.loop {state:= .ready,pending:=none,fn:=cf.fn,tmps:=e.tmps,ntm:=e.n,params:=ps,assign:=as,body:=bd,defers:=d})).next:=fun h=>Nat.lt_irrefl _ (hI2.2 _ h)
 have hinv:=invoke_sound hC hI2.1 hn2 hokd
 generalize invokeA C dd.target dd.args.toList (s1.new (.loop {state:= .ready,pending:=none,fn:=cf.fn,tmps:=e.tmps,ntm:=e.n,params:=ps,assign:=as,body:=bd,defers:=d}))=res at hinv hg
 split at hg
 case h_2=>subst hg;trivial
 rename_i g args s3
 obtain ⟨φ3,D3,w3,hI3,hx3,nx',hrun,hnr⟩:=After.inv hinv hI2.2
 cases nx' with
 | enter g' args'=>
   obtain ⟨rfl,hargs,rfl⟩:=hnr
   have hx13:=hx12.trans hx3
   have hgo:=go_rangeFunc (P:=P) (b:=b) (a:=a) (k:=k) (cs:=csOf cf.dfr φ u cs) (f:=f) (henter b.fn a.tmps) (by simp only [Sem.run_bind,hres,Result.andThen_ok];exact hrun)
   have hcall:=hrec.call g' args s3 φ3 D3 w3 hI3 hargs
   generalize rec.call false g' args .run s3=out' at hcall hg
   cases out' with
   | fail=>subst hg;trivial
   | panicked ch u2 s4=>
     subst hg
     obtain ⟨φ4,D4,w4,fr,q1,q2,q3,q4,q5,q6⟩:=hcall (fat b {a with defers:=mark++a.defers} (.inRangeFunc w1.heap.size::k)::csOf cf.dfr φ u cs)
     have hx14:=hx13.trans q2
     have hx4:Ext φ1 D1 s1.heap w1 φ4 D4 s4.heap w4:=(hx2.trans hx3).trans q2
     have hleave:=step_leave_panicked (c:=fat b {a with defers:=mark++a.defers} (.inRangeFunc w1.heap.size::k)) (cs:=csOf cf.dfr φ u cs) q6
     refine ⟨φ4,D4,w4,{a with defers:=mark++a.defers},q1,he1.mono hx4.dom hx4.phi,okM.mono hx14.dom hu,q3,hx14,.inRangeFunc w1.heap.size::k, ?_⟩
     rw [<-csOf_congr (fun i hi=>(hx14.phi i hi).symm) hu cs]
     exact .head hgo (q4.trans (.one hleave))
   | returned v u2 s4=>
     obtain ⟨φ4,D4,w4,fr,q1,q2,q3,q4,q5,q6⟩:=hcall (fat b {a with defers:=mark++a.defers} (.inRangeFunc w1.heap.size::k)::csOf cf.dfr φ u cs)
     have hx14:=hx13.trans q2
     have hx4:Ext φ1 D1 s1.heap w1 φ4 D4 s4.heap w4:=(hx2.trans hx3).trans q2
     have hleave:=step_leave_returned (c:=fat b {a with defers:=mark++a.defers} (.inRangeFunc w1.heap.size::k)) (cs:=csOf cf.dfr φ u cs) q6
     rw [finish_range] at hleave
     have hp4:(φ4 s1.next).block=w1.heap.size:=by
      have:=(hx3.trans q2).phi s1.next hD2
      rw [this,hp2]
     simp only at hg
     split at hg
     case h_2=>subst hg;trivial
     rename_i r hl
     obtain ⟨hDr,tm,htm,hobj⟩:=q1.1.blk s1.next _ hl
     have hset:=q1.1.setObj (o:= .loop {state:= .exhausted,pending:=r.pending,fn:=r.fn,tmps:=tm,params:=r.params,assign:=r.assign,body:=r.body,defers:=(φ4 r.defers).block}) hl rfl rfl rfl
      (b':= .loop {r with state:= .exhausted}) ⟨hDr,tm,htm,setB_same (heap_lt hobj)⟩
     have hend:r.state≠.busy->(Instr.endLoop w1.heap.size).run P w4= .ok r.pending (setB w4 (φ4 s1.next).block (.loop {state:= .exhausted,pending:=r.pending,fn:=r.fn,tmps:=tm,params:=r.params,assign:=r.assign,body:=r.body,defers:=(φ4 r.defers).block})):=by
      intro hbusy
      have hbf:(r.state==LoopState.busy)=false:=by
       cases hrs:r.state<;>first | rfl | (exact absurd hrs hbusy)
      rw [<-hp4]
      simp only [Instr.endLoop,Instr.getLoop,Sem.run_bind,run_getObj hobj (by intro _ _ _ h;cases h),Result.andThen_ok,Sem.run_pure,hbf,Bool.false_eq_true,if_false,run_setObj hobj (by intro _ _ _ h;cases h)]
     have fin:r.state≠.busy->∀(x:X),(r.pending=none/\x= .normal)\/(∃c,r.pending=some c/\exitOf c=some x)->
      Out C P φ D s w (lone (fat b a (.code (.rangeFunc f ps as bd)::k)) (csOf cf.dfr φ u cs) w) b k cf.dfr cs (.fin x e' u {s4 with heap:=s4.heap.set s1.next (.loop {r with state:= .exhausted})}):=by
      intro hbusy x hx
      have hx5:Ext φ D s.heap w φ4 D4 (s4.heap.set s1.next (.loop {r with state:= .exhausted})) _:=hx14.trans hset.2
      have hsteps:=Steps.head hgo (q4.trans ((Steps.one hleave).trans (.one (go_endRange (b:=b) (a:={a with defers:=mark++a.defers}) (k:=k) (cs:=csOf cf.dfr φ u cs) (hend hbusy)))))
      have hcsφ:csOf cf.dfr φ u cs=csOf cf.dfr φ4 u cs:=csOf_congr (fun i hi=>(hx5.phi i hi).symm) hu cs
      refine ⟨φ4,D4,_,{a with defers:=mark++a.defers},⟨hset.1,q1.2⟩,he1.mono hx4.dom hx4.phi,okM.mono hx5.dom hu, ?_,hx5, ?_⟩
      · rcases hx with ⟨_,rfl⟩ | ⟨c,_,hc⟩
        · trivial
        · cases c<;>simp [exitOf] at hc<;>subst hc<;>trivial
      · rw [<-hcsφ]
        rcases hx with ⟨hp,rfl⟩ | ⟨c,hp,hc⟩
        · have hj:(r.pending.map Item.code).toList++k=k:=by rw [hp];rfl
          rw [hj] at hsteps;exact hsteps
        · have hj:(r.pending.map Item.code).toList++k= .code c::k:=by rw [hp];rfl
          rw [hj] at hsteps
          cases c<;>simp [exitOf] at hc<;>subst hc
          · exact ⟨k,rfl,hsteps⟩
          · exact ⟨k,rfl,hsteps⟩
          · exact ⟨k,hsteps⟩
     split at hg
     · subst hg;trivial
     · rename_i hbusy
       split at hg
       · rename_i hp
         subst hg
         exact fin (fun h=>hbusy h) .normal (.inl ⟨hp,rfl⟩)
       · rename_i c hp
         split at hg
         · rename_i x hx
           subst hg
           exact fin (fun h=>hbusy h) x (.inr ⟨c,hp,hx⟩)
         · subst hg;trivial
 | value v'=>exact hnr.elim
 | _=>exact hnr.elim
end
end Go.Eng
namespace Go.Eng
section
variable {C:Cx} {P:Program}
def DrawOk (C:Cx) (P:Program) (rec:Rec):Prop:=
 ∀(cf:Cf) (φ:Phi) (D:Nat->Prop) (s:St) (w:World) (e:E) (a:Act) (u:FrameMode) (b:Frame) (k:List Item) (cs:List Frame) (id:Nat) (ops:Array Oper),(cf.dfr=true->cs≠[])->
  Inv C φ D s w->ERel φ D e a->okM D u->BOk φ D cf b->
  Out C P φ D s w (lone (fat b a (.code (.region id ops true)::k)) (csOf cf.dfr φ u cs) w) b k cf.dfr cs (drawnA C rec ops.toList e u s)
theorem code_sound (hC:CxOk C P) {rec:Rec} (hrec:RecOk C P rec) (hdraw:DrawOk C P rec) (n:Nat):∀(c:Code),CodeOk C P rec n c
 | .skip=>fun cf φ D s w e a u b k cs hcs hI he hu hB=>⟨φ,D,w,a,hI,he,hu,trivial,Ext.refl ..,.one go_skip⟩
 | .label l=>fun cf φ D s w e a u b k cs hcs hI he hu hB=>⟨φ,D,w,a,hI,he,hu,trivial,Ext.refl ..,.one go_label⟩
 | .region id ops d=>fun cf φ D s w e a u b k cs hcs hI he hu hB=>by
   cases d with
   | false=>exact region_sound hC hrec hcs hI he hu hB
   | true=>exact hdraw cf φ D s w e a u b k cs id ops hcs hI he hu hB
 | .seq x y=>fun cf φ D s w e a u b k cs hcs hI he hu hB=>by
   have h:=code_sound hC hrec hdraw n x cf φ D s w e a u b (.code y::k) cs hcs hI he hu hB
   simp only [codeA,COut.then]
   generalize codeA C rec n cf x e u s=res at h
   cases res with
   | fail=>trivial
   | fin x1 e1 u1 s1=>
     obtain ⟨φ1,D1,w1,a1,h1,h2,h3,h4,h5,h6⟩:=h
     have h6':=Arr.of_steps (.one go_seq) h6
     cases x1 with
     | normal=>
       have ih:=code_sound hC hrec hdraw n y cf φ1 D1 s1 w1 e1 a1 u1 b k cs hcs h1 h2 h3 (hB.mono h5.dom h5.phi)
       exact Out.trans h5 h6' ih
     | exit id=>exact ⟨φ1,D1,w1,a1,h1,h2,h3,h4,h5,.pass (i:= .code y) rfl (by simp [denX]) h6'⟩
     | goto l'=>exact ⟨φ1,D1,w1,a1,h1,h2,h3,h4,h5,.pass (i:= .code y) rfl (by simp [denX]) h6'⟩
     | ret=>exact ⟨φ1,D1,w1,a1,h1,h2,h3,h4,h5,.pass (i:= .code y) rfl (by simp [denX]) h6'⟩
     | panic ch=>exact ⟨φ1,D1,w1,a1,h1,h2,h3,h4,h5,.pass (i:= .code y) rfl (by simp [denX]) h6'⟩
 | .cond c x y=>fun cf φ D s w e a u b k cs hcs hI he hu hB=>by
   simp only [codeA]
   split
   · rename_i hc
     have hev:=(eval_sound hC hI.1 he hc).1
     have h:=code_sound hC hrec hdraw n x cf φ D s w e a u b k cs hcs hI he hu hB
     exact Out.trans (Ext.refl ..) (.one (go_cond (t:=true) (by rw [hev];simp [den]))) h
   · rename_i hc
     have hev:=(eval_sound hC hI.1 he hc).1
     have h:=code_sound hC hrec hdraw n y cf φ D s w e a u b k cs hcs hI he hu hB
     exact Out.trans (Ext.refl ..) (.one (go_cond (t:=false) (by rw [hev];simp [den]))) h
   · trivial
 | .block id x=>fun cf φ D s w e a u b k cs hcs hI he hu hB=>by
   have h:=code_sound hC hrec hdraw n x cf φ D s w e a u b (.inBlock id::k) cs hcs hI he hu hB
   simp only [codeA]
   generalize codeA C rec n cf x e u s=res at h
   cases res with
   | fail=>trivial
   | fin x1 e1 u1 s1=>
     obtain ⟨φ1,D1,w1,a1,h1,h2,h3,h4,h5,h6⟩:=h
     have h6':=Arr.of_steps (.one go_block) h6
     cases x1 with
     | normal=>exact ⟨φ1,D1,w1,a1,h1,h2,h3,h4,h5,Steps.trans h6' (.one go_inBlock)⟩
     | exit j=>
       obtain ⟨kk,hk,hs⟩:=h6'
       simp only [inBlockA]
       cases hj:Nat.beq j id with
       | true=>
         rw [beq_iff] at hj
         subst hj
         refine ⟨φ1,D1,w1,a1,h1,h2,h3,trivial,h5,Steps.trans hs (.one (go_exit ?_))⟩
         rw [hk];simp [exitTo]
       | false=>
         have hj':=beq_false hj
         refine ⟨φ1,D1,w1,a1,h1,h2,h3,trivial,h5,kk, ?_,hs⟩
         rw [hk]
         have:(id==j)=false:=by simp;exact fun h=>hj' h.symm
         simp [exitTo,this]
     | goto l'=>
       obtain ⟨kk,hk,hs⟩:=h6'
       exact ⟨φ1,D1,w1,a1,h1,h2,h3,h4,h5,kk,by rw [hk];simp [gotoIn],hs⟩
     | ret=>exact ⟨φ1,D1,w1,a1,h1,h2,h3,h4,h5,h6'⟩
     | panic ch=>exact ⟨φ1,D1,w1,a1,h1,h2,h3,h4,h5,h6'⟩
 | .loop x=>fun cf φ D s w e a u b k cs hcs hI he hu hB=>
   Out.trans (Ext.refl ..) (.one go_loop) (loop_sound (code_sound hC hrec hdraw n x) hcs n φ D s w e a u hI he hu hB)
 | .rangeFunc f ps as bd=>fun cf φ D s w e a u b k cs hcs hI he hu hB=>rangeFunc_sound hC hrec hcs hI he hu hB
 | .exit id=>fun cf φ D s w e a u b k cs hcs hI he hu hB=>⟨φ,D,w,a,hI,he,hu,trivial,Ext.refl ..,k,rfl,.refl ..⟩
 | .scope x=>fun cf φ D s w e a u b k cs hcs hI he hu hB=>by
   have h:=code_sound hC hrec hdraw n x cf φ D s w e a u b (.inScope x::k) cs hcs hI he hu hB
   simp only [codeA]
   generalize codeA C rec n cf x e u s=res at h
   cases res with
   | fail=>trivial
   | fin x1 e1 u1 s1=>
     obtain ⟨φ1,D1,w1,a1,h1,h2,h3,h4,h5,h6⟩:=h
     have h6':=Arr.of_steps (.one go_scope) h6
     cases x1 with
     | normal=>exact ⟨φ1,D1,w1,a1,h1,h2,h3,h4,h5,Steps.trans h6' (.one go_inScope)⟩
     | exit j=>
       obtain ⟨kk,hk,hs⟩:=h6'
       exact ⟨φ1,D1,w1,a1,h1,h2,h3,h4,h5,kk,by rw [hk];simp [exitTo],hs⟩
     | goto l'=>trivial
     | ret=>exact ⟨φ1,D1,w1,a1,h1,h2,h3,h4,h5,h6'⟩
     | panic ch=>exact ⟨φ1,D1,w1,a1,h1,h2,h3,h4,h5,h6'⟩
 | .goto l=>fun cf φ D s w e a u b k cs hcs hI he hu hB=>⟨φ,D,w,a,hI,he,hu,trivial,Ext.refl ..,k,rfl,.refl ..⟩
 | .ret=>fun cf φ D s w e a u b k cs hcs hI he hu hB=>⟨φ,D,w,a,hI,he,hu,trivial,Ext.refl ..,k,.refl ..⟩
 | .refuse _=>fun cf φ D s w e a u b k cs hcs hI he hu hB=>trivial
end
end Go.Eng
namespace Go.Eng
section
variable {C:Cx} {P:Program} {φ:Phi} {D:Nat->Prop} {s:St} {w:World} {e:E} {a:Act}
theorem argsT_get:∀(vs:List Value) (i:Nat) (t:T Value) (j:Nat),(argsT vs i t).get j=if i<=j/\j<i+vs.length then vs[j-i]? else t.get j
 | [],i,t,j=>by simp only [argsT,List.length_nil];rw [if_neg (by omega)]
 | v::r,i,t,j=>by
   simp only [argsT,argsT_get r,T.get_set,List.length_cons]
   by_cases h1:i+1<=j/\j<i+1+r.length
   · rw [if_pos h1,if_pos (by omega),show j-i=(j- (i+1))+1 from by omega];simp
   · rw [if_neg h1]
     by_cases h2:j=i
     · subst h2;rw [if_pos rfl,if_pos (by omega)];simp
     · rw [if_neg h2,if_neg (by omega)]
theorem args_rel {args:List Value} {n:Nat} (hn:args.length<=n) (hok:OkL D args):
 TRel φ D (argsT args 0 .nil) n ((denL φ args).toArray++Array.replicate (n- (denL φ args).toArray.size) undef):=by
 refine ⟨by simp [denL_map];omega, ?_⟩
 intro i v hi
 rw [argsT_get] at hi
 split at hi
 · rename_i h
   simp only [Nat.sub_zero] at hi
   refine ⟨(OkL_iff D args).1 hok v (List.mem_of_getElem? hi), ?_⟩
   rw [Array.getElem?_append_left (by simp [denL_map];omega)]
   simp only [List.getElem?_toArray,getElem?_denL,hi];rfl
 · rw [T.get_nil] at hi;cases hi
def resV (tm:Array Value):ResultVar->Sem Value
 | .tmp t=>pure (tm.getD t undef)
 | .cell a t=>do loadVar t (<-asAddr (tm.getD a undef))
theorem results_eq (fn:Func) (tm:Array Value):results fn tm=(do let vs <-fn.results.mapM (resV tm);pure (if h:vs.size=1 then vs[0] else .tuple vs)):=by
 unfold results
 congr 2
theorem results_sound (hC:CxOk C P) (hr:Rel C φ D s.heap w) {tm:Array Value} (ht:TRel φ D e.tmps e.n tm):∀{l:List ResultVar} {vs:List Value},resultsA C e s l=some vs->
 (l.mapM (resV tm)).run P w= .ok (denL φ vs) w/\OkL D vs
 | [],vs,h=>by simp only [resultsA,Option.some.injEq] at h;subst h;exact ⟨by simp [denL],trivial⟩
 | .tmp t::r,vs,h=>by
   simp only [resultsA] at h
   split at h
   · rename_i v hv
     simp only [Option.map_eq_some_iff] at h
     obtain ⟨l,hl,rfl⟩:=h
     obtain ⟨h1,h2⟩:=results_sound hC hr ht hl
     have hv':=ht.2 t v hv
     refine ⟨?_,by simp only [OkL];exact ⟨hv'.1,h2⟩⟩
     have:tm.getD t undef=den φ v:=by rw [Array.getD_eq_getD_getElem?,hv'.2];rfl
     rw [List.mapM_cons]
     simp only [resV,this,Sem.run_bind,Sem.run_pure,Result.andThen_ok,h1,denL]
   · cases h
 | .cell x t::r,vs,h=>by
   simp only [resultsA] at h
   split at h
   · rename_i p hp
     split at h
     · rename_i v hv
       simp only [Option.map_eq_some_iff] at h
       obtain ⟨l,hl,rfl⟩:=h
       obtain ⟨h1,h2⟩:=results_sound hC hr ht hl
       have hp':=ht.2 x p hp
       obtain ⟨id,off,rfl⟩:=loadA_ptr hv
       have hlv:=loadVar_sound (P:=P) hC hr hv
       refine ⟨?_,by simp only [OkL];exact ⟨hlv.2,h2⟩⟩
       have:tm.getD x undef= .pointer (some ⟨(φ id).block,(φ id).off+off,none⟩):=by rw [Array.getD_eq_getD_getElem?,hp'.2];simp [den]
       rw [List.mapM_cons]
       simp only [resV,this,asAddr,Sem.run_bind,Sem.run_pure,Result.andThen_ok,hlv.1,h1,denL]
     · cases h
   · cases h
theorem tuple_den (φ:Phi) (vs:List Value):den φ (tupleOf vs)=if h:(denL φ vs).toArray.size=1 then (denL φ vs).toArray[0] else .tuple (denL φ vs).toArray:=by
 match vs with
 | []=>simp [tupleOf,den,denA,denL]
 | [v]=>simp [tupleOf,denL]
 | v::u::r=>simp [tupleOf,den,denA,denL]
theorem tuple_ok {vs:List Value} (h:OkL D vs):Ok D (tupleOf vs):=by
 match vs,h with
 | [],_=>simp [tupleOf,Ok,OkA,OkL]
 | [v],h=>simp only [OkL] at h;exact h.1
 | v::u::r,h=>simp only [tupleOf,Ok,OkA];exact h
theorem results_run (hC:CxOk C P) (hr:Rel C φ D s.heap w) {fn:Func} {tm:Array Value} (ht:TRel φ D e.tmps e.n tm) {vs:List Value} (h:resultsA C e s fn.results.toList=some vs):
 (results fn tm).run P w= .ok (den φ (tupleOf vs)) w/\Ok D (tupleOf vs):=by
 obtain ⟨h1,h2⟩:=results_sound (P:=P) hC hr ht h
 refine ⟨?_,tuple_ok h2⟩
 rw [tuple_den,results_eq,Array.mapM_eq_mapM_toList]
 simp only [Sem.run_bind,Sem.run_map,h1,Result.andThen_ok,Sem.run_pure]
theorem settle_den (φ:Phi) (m:FrameMode):denM φ (settleA m)=settle (denM φ m):=by
 have hdrop:∀l:List PanicEntry,(l.map (denP φ)).dropWhile (fun p=> !p.goexit)=(l.dropWhile (fun p=> !p.goexit)).map (denP φ):=by
  intro l
  induction l with
  | nil=>rfl
  | cons p r ih=>
    simp only [List.map_cons,List.dropWhile_cons,denP]
    cases hg:p.goexit<;>simp [hg,ih,denP]
 cases m with
 | run=>rfl
 | returning=>rfl
 | panicking ch=>
   cases ch with
   | nil=>rfl
   | cons p r=>
     obtain ⟨v,rc,ge⟩:=p
     cases rc with
     | false=>rfl
     | true=>
       simp only [settleA,denM,List.map_cons,denP,settle,hdrop]
       cases h:r.dropWhile (fun p=> !p.goexit) with
       | nil=>simp [denM]
       | cons q t=>simp [denM]
theorem settle_ok {m:FrameMode} (h:okM D m):okM D (settleA m):=by
 cases m with
 | run=>trivial
 | returning=>trivial
 | panicking ch=>
   cases ch with
   | nil=>exact h
   | cons p r=>
     obtain ⟨v,rc,ge⟩:=p
     cases rc with
     | false=>exact h
     | true=>
       simp only [settleA]
       split
       · trivial
       · rename_i hq
         intro p hp
         have:p∈r:=by
          have:=List.dropWhile_sublist (fun p:PanicEntry=> !p.goexit) (l:=r)
          exact this.subset hp
         exact h p (List.mem_cons_of_mem _ this)
theorem raised_den (φ:Phi) (m:FrameMode) (ch:List PanicEntry):denM φ (raisedA m ch)=raised (denM φ m) (ch.map (denP φ)):=by
 cases m<;>simp [raisedA,denM,raised]
theorem raised_ok {m:FrameMode} {ch:List PanicEntry} (h:okM D m) (hc:okChain D ch):okM D (raisedA m ch):=by
 cases m with
 | panicking old=>
   intro p hp
   rcases List.mem_append.1 hp with hp | hp
   · exact hc p hp
   · exact h p hp
 | _=>exact hc
theorem go_collected {fr:Frame} {cs:List Frame} {r:Nat} {args:Array Value} {ds calls:List Deferred} {w':World} (hm:fr.mode≠.run) (hd:fr.defers={target:= .collected r,args}::ds)
 (h:(Instr.takeDeferred r).run P w= .ok calls w'):step P (lone fr cs w)= .next (lone {fr with defers:=calls++ds} cs w'):=by
 refine step_lone_go ?_
 cases hmode:fr.mode with
 | run=>exact absurd hmode hm
 | returning=>simp only [stepG,hmode,unwind,hd,Sem.runT_eq,h,GStep.bare_after];simp
 | panicking chain=>simp only [stepG,hmode,unwind,hd,Sem.runT_eq,h,GStep.bare_after];simp
theorem go_deferred {fr:Frame} {cs:List Frame} {d:Deferred} {ds:List Deferred} {fv:Fn} {cap:Array Value} {f:FuncId} {args:Array Value} {w':World} (hm:fr.mode≠.run) (hd:fr.defers=d::ds) (ht:d.target= .fn fv cap)
 (hi:(invoke d.target d.args).run P w= .ok (.enter f args) w'):
 step P (lone fr cs w)= .next (lone (Frame.enter P f args .deferred) ({fr with defers:=ds}::cs) w'):=by
 obtain ⟨t,ar⟩:=d
 simp only at ht hi
 subst ht
 refine step_lone_go ?_
 cases hmode:fr.mode with
 | run=>exact absurd hmode hm
 | returning=>simp [stepG,unwind,callDeferred,hmode,hd,hi]
 | panicking chain=>simp [stepG,unwind,callDeferred,hmode,hd,hi]
def LOut (C:Cx) (P:Program) (fn:Func) (u0:FrameMode) (φ:Phi) (D:Nat->Prop) (s:St) (w:World) (fr:Frame) (cs:List Frame):FOut->Prop
 | .returned v u s'=>u=u0/\∃φ' D' w' fr',Inv C φ' D' s' w'/\Ext φ D s.heap w φ' D' s'.heap w'/\Ok D' v/\Steps P (lone fr cs w) (lone fr' cs w')/\fr'.fn=fr.fn/\fr'.kind=fr.kind/\
    fr'.mode= .returning/\fr'.defers=[]/\(results fn fr'.tmps).run P w'= .ok (den φ' v) w'
 | .panicked ch u s'=>u=u0/\∃φ' D' w' fr',Inv C φ' D' s' w'/\Ext φ D s.heap w φ' D' s'.heap w'/\okChain D' ch/\Steps P (lone fr cs w) (lone fr' cs w')/\fr'.fn=fr.fn/\fr'.kind=fr.kind/\
    fr'.mode= .panicking (ch.map (denP φ'))/\fr'.defers=[]
 | .fail=>True
theorem leave_sound (hC:CxOk C P) {rec:Rec} (hrec:RecOk C P rec) {fn:Func} {u0:FrameMode} {e:E} {cs:List Frame}:
 ∀(n:Nat) (ds:List Deferred) (m:FrameMode) (φ:Phi) (D:Nat->Prop) (s:St) (w:World) (fr:Frame),Inv C φ D s w->TRel φ D e.tmps e.n fr.tmps->fr.mode=denM φ m->okM D m->
  fr.defers=ds.map (denD φ)->(∀d∈ds,OkD D d)->LOut C P fn u0 φ D s w fr cs (leaveA C rec fn u0 e n ds m s)
 | 0,ds,m,φ,D,s,w,fr,_,_,_,_,_,_=>trivial
 | n+1,[],m,φ,D,s,w,fr,hI,ht,hm,hok,hd,hdok=>by
   simp only [leaveA]
   cases m with
   | run=>trivial
   | returning=>
     simp only
     cases hres:resultsA C e s fn.results.toList with
     | none=>trivial
     | some vs=>
       obtain ⟨h1,h2⟩:=results_run (P:=P) hC hI.1 ht hres
       exact ⟨rfl,φ,D,w,fr,hI,Ext.refl ..,h2,.refl ..,rfl,rfl,hm,by simpa using hd,h1⟩
   | panicking ch=>exact ⟨rfl,φ,D,w,fr,hI,Ext.refl ..,hok,.refl ..,rfl,rfl,hm,by simpa using hd⟩
 | n+1,d::ds,m,φ,D,s,w,fr,hI,ht,hm,hok,hd,hdok=>by
   simp only [leaveA]
   cases hnr:notRun m with
   | false=>trivial
   | true=>
     simp only [cond_true]
     have hmr:fr.mode≠.run:=by rw [hm];cases m<;>simp [notRun,denM] at hnr ⊢
     have hd1:=hdok d (List.mem_cons_self ..)
     have hds:∀d'∈ds,OkD D d':=fun d' h=>hdok d' (List.mem_cons_of_mem _ h)
     obtain ⟨target,args⟩:=d
     cases target with
     | collected r=>
       simp only
       split
       case h_2=>trivial
       rename_i calls hr
       obtain ⟨hcok,hobj⟩:=hI.1.blk r _ hr
       have hcok':=hcok calls rfl
       have hset:=hI.1.setObj (o:= .deferred none) hr rfl rfl rfl (b':= .deferred none) ⟨fun l hl=>(by cases hl),setB_same (heap_lt hobj)⟩
       have htake:(Instr.takeDeferred (φ r).block).run P w= .ok (calls.map (denD φ)) (setB w (φ r).block (.deferred none)):=by
        simp only [Instr.takeDeferred,Sem.run_bind,run_getObj hobj (by intro _ _ _ h;cases h),Result.andThen_ok,Option.map_some,run_setObj hobj (by intro _ _ _ h;cases h),Sem.run_pure]
       have hstep:=go_collected (P:=P) (cs:=cs) (ds:=ds.map (denD φ)) (args:=denA φ args) hmr (by rw [hd];rfl) htake
       have ih:=leave_sound hC hrec (fn:=fn) (u0:=u0) (e:=e) (cs:=cs) n (calls++ds) m φ D {s with heap:=s.heap.set r (.deferred none)} _ {fr with defers:=calls.map (denD φ)++ds.map (denD φ)} ⟨hset.1,hI.2⟩ ht hm hok (by simp)
        (fun d' h=>by rcases List.mem_append.1 h with h | h;exact hcok' d' h;exact hds d' h)
       revert ih
       generalize leaveA C rec fn u0 e n (calls++ds) m {s with heap:=s.heap.set r (.deferred none)}=out
       intro ih
       cases out with
       | fail=>trivial
       | returned v u s'=>
         obtain ⟨h0,φ',D',w',fr',g1,g2,g3,g4,g5⟩:=ih
         exact ⟨h0,φ',D',w',fr',g1,hset.2.trans g2,g3,.head hstep g4,g5⟩
       | panicked ch u s'=>
         obtain ⟨h0,φ',D',w',fr',g1,g2,g3,g4,g5⟩:=ih
         exact ⟨h0,φ',D',w',fr',g1,hset.2.trans g2,g3,.head hstep g4,g5⟩
     | fn fv cap=>
       simp only
       have hn:¬D s.next:=fun h=>Nat.lt_irrefl _ (hI.2 _ h)
       have hinv:=invoke_sound (P:=P) hC hI.1 hn hd1
       simp only at hinv
       generalize invokeA C (.fn fv cap) args.toList s=res at hinv
       split
       case h_2=>trivial
       rename_i f args' s1
       obtain ⟨φ1,D1,w1,hI1,hx1,nx',hrun,hnr'⟩:=After.inv hinv hI.2
       cases nx' with
       | enter f' args''=>
         obtain ⟨rfl,hargs,rfl⟩:=hnr'
         have hstep:=go_deferred (P:=P) (cs:=cs) (ds:=ds.map (denD φ)) hmr (by rw [hd];rfl) rfl hrun
         have hcall:=hrec.callD f' args' m s1 φ1 D1 w1 hI1 hargs (okM.mono hx1.dom hok)
         generalize rec.call true f' args' m s1=out' at hcall
         have hmode:({fr with defers:=ds.map (denD φ)}:Frame).mode=denM φ1 m:=by rw [<-denM_congr (fun i hi=>(hx1.phi i hi).symm) m hok];exact hm
         cases out' with
         | fail=>trivial
         | returned v u' s2=>
           obtain ⟨φ2,D2,w2,fr2,q1,q2,q3,q4,q5,q6,q7⟩:=hcall _ cs hmode
           have hx2:=hx1.trans q2
           have hgo:=step_going_returned (c:={{fr with defers:=ds.map (denD φ)} with mode:=denM φ2 u'}) (cs:=cs) q6 q7
           have ih:=leave_sound hC hrec (fn:=fn) (u0:=u0) (e:=e) (cs:=cs) n ds (settleA u') φ2 D2 s2 w2 {{{fr with defers:=ds.map (denD φ)} with mode:=denM φ2 u'} with mode:=settle (denM φ2 u')} q1 (ht.mono hx2.dom hx2.phi) (settle_den φ2 u').symm (settle_ok q4)
            (List.map_congr_left fun d' h=>(denD_congr (fun i hi=>(hx2.phi i hi).symm) d' (hds d' h))) (fun d' h=>OkD.mono hx2.dom d' (hds d' h))
           simp only
           revert ih
           generalize leaveA C rec fn u0 e n ds (settleA u') s2=out
           intro ih
           have hsteps:=Steps.head hstep (q5.trans (.one hgo))
           cases out with
           | fail=>trivial
           | returned v u s'=>
             obtain ⟨h0,φ',D',w',fr',g1,g2,g3,g4,g5⟩:=ih
             exact ⟨h0,φ',D',w',fr',g1,hx2.trans g2,g3,hsteps.trans g4,g5⟩
           | panicked ch u s'=>
             obtain ⟨h0,φ',D',w',fr',g1,g2,g3,g4,g5⟩:=ih
             exact ⟨h0,φ',D',w',fr',g1,hx2.trans g2,g3,hsteps.trans g4,g5⟩
         | panicked ch u' s2=>
           obtain ⟨φ2,D2,w2,fr2,q1,q2,q3,q4,q5,q6,q7⟩:=hcall _ cs hmode
           have hx2:=hx1.trans q2
           have hgo:=step_going_panicked (c:={{fr with defers:=ds.map (denD φ)} with mode:=denM φ2 u'}) (cs:=cs) q7
           have ih:=leave_sound hC hrec (fn:=fn) (u0:=u0) (e:=e) (cs:=cs) n ds (raisedA u' ch) φ2 D2 s2 w2 {{{fr with defers:=ds.map (denD φ)} with mode:=denM φ2 u'} with mode:=raised (denM φ2 u') (ch.map (denP φ2))} q1 (ht.mono hx2.dom hx2.phi) (raised_den φ2 u' ch).symm (raised_ok q4 q3)
            (List.map_congr_left fun d' h=>(denD_congr (fun i hi=>(hx2.phi i hi).symm) d' (hds d' h))) (fun d' h=>OkD.mono hx2.dom d' (hds d' h))
           simp only
           revert ih
           generalize leaveA C rec fn u0 e n ds (raisedA u' ch) s2=out
           intro ih
           have hsteps:=Steps.head hstep (q5.trans (.one hgo))
           cases out with
           | fail=>trivial
           | returned v u s'=>
             obtain ⟨h0,φ',D',w',fr',g1,g2,g3,g4,g5⟩:=ih
             exact ⟨h0,φ',D',w',fr',g1,hx2.trans g2,g3,hsteps.trans g4,g5⟩
           | panicked ch2 u s'=>
             obtain ⟨h0,φ',D',w',fr',g1,g2,g3,g4,g5⟩:=ih
             exact ⟨h0,φ',D',w',fr',g1,hx2.trans g2,g3,hsteps.trans g4,g5⟩
       | value v'=>exact hnr'.elim
       | _=>exact hnr'.elim
     | _=>trivial
end
end Go.Eng
namespace Go.Eng
section
variable {C:Cx} {P:Program} {φ:Phi} {D:Nat->Prop} {s:St} {w:World} {e:E} {a:Act}
theorem enter_fat {f:FuncId} {fn:Func} {c:Code} (args:Array Value) (kind:CallKind) (hf:P.funcs[f]? =some fn) (hb:fn.body=some c):
 Frame.enter P f args kind=fat {fn:=f,tmps:= #[],todo:=[],defers:=[],mode:= .run,kind:=kind} {tmps:=args++Array.replicate (fn.ntmps-args.size) undef,defers:=[]} [.code c]:=by
 simp [Frame.enter,fat,hf,hb]
theorem go_leave_end {b:Frame} {cs:List Frame} (h:b.roundOf=none):step P (lone (fat b a []) cs w)= .next (lone {fat b a [] with mode:= .returning} cs w):=
 step_lone_go (by simp [stepG,stepG.exec,fat,h])
theorem go_leave_ret {b:Frame} {cs:List Frame} {kk:List Item} (h:b.roundOf=none):step P (lone (fat b a (.code .ret::kk)) cs w)= .next (lone {fat b a (.code .ret::kk) with mode:= .returning} cs w):=
 step_lone_go (by simp [stepG,stepG.exec,fat,h])
def CallOut (C:Cx) (P:Program) (f:FuncId) (dfr:Bool) (φ:Phi) (D:Nat->Prop) (s:St) (w:World) (m:Machine) (cs:List Frame):FOut->Prop
 | .returned v u' s'=>∃φ' D' w' fr,Inv C φ' D' s' w'/\Ext φ D s.heap w φ' D' s'.heap w'/\Ok D' v/\okM D' u'/\
    Steps P m (lone fr (csOf dfr φ' u' cs) w')/\fr.fn=f/\fr.kind=(if dfr then .deferred else .normal)/\
    fr.mode= .returning/\fr.defers=[]/\∃fn,P.funcs[f]? =some fn/\(results fn fr.tmps).run P w'= .ok (den φ' v) w'
 | .panicked ch u' s'=>∃φ' D' w' fr,Inv C φ' D' s' w'/\Ext φ D s.heap w φ' D' s'.heap w'/\okChain D' ch/\okM D' u'/\
    Steps P m (lone fr (csOf dfr φ' u' cs) w')/\fr.fn=f/\fr.kind=(if dfr then .deferred else .normal)/\
    fr.mode= .panicking (ch.map (denP φ'))/\fr.defers=[]/\∃fn,P.funcs[f]? =some fn
 | .fail=>True
theorem call_out (hC:CxOk C P) {rec:Rec} (hrec:RecOk C P rec) (hdraw:DrawOk C P rec) (n:Nat) (dfr:Bool) (f:FuncId) (args:List Value) (u:FrameMode) (s:St) (φ:Phi) (D:Nat->Prop) (w:World)
 (hI:Inv C φ D s w) (hargs:OkL D args) (hu:okM D u) (cs:List Frame) (hcs:dfr=true->cs≠[]):
 CallOut C P f dfr φ D s w (lone (Frame.enter P f (denL φ args).toArray (if dfr then .deferred else .normal)) (csOf dfr φ u cs) w) cs (callA C rec n dfr f args u s):=by
 generalize hout:callA C rec n dfr f args u s=out
 unfold callA at hout
 split at hout
 · subst hout;trivial
 rename_i fn hfn
 have hf:=hC.func f fn hfn
 split at hout
 · subst hout;trivial
 rename_i c hc
 cases hle:Nat.ble args.length fn.ntmps with
 | false=>rw [hle] at hout;subst hout;trivial
 | true=>
   rw [hle] at hout
   simp only [cond_true] at hout
   have hlen:args.length<=fn.ntmps:=Nat.le_of_ble_eq_true hle
   rw [enter_fat (denL φ args).toArray (if dfr then .deferred else .normal) hf hc]
   generalize hb:({fn:=f,tmps:= #[],todo:=[],defers:=[],mode:= .run,kind:=if dfr then .deferred else .normal}:Frame)=b
   have hbf:b.fn=f:=by rw [<-hb]
   have hbk:b.kind=if dfr then .deferred else .normal:=by rw [<-hb]
   have hbr:b.roundOf=none:=by rw [<-hb]
   have hB:BOk φ D ⟨f,dfr,none⟩ b:=⟨hbf,hbk,hbr,by intro l h;cases h⟩
   have he:ERel φ D {tmps:=argsT args 0 .nil,n:=fn.ntmps,defers:=[]} {tmps:=(denL φ args).toArray++Array.replicate (fn.ntmps- (denL φ args).toArray.size) undef,defers:=[]}:=
    ⟨args_rel hlen hargs,rfl,by intro d h;cases h⟩
   have hbody:=code_sound hC hrec hdraw n c ⟨f,dfr,none⟩ φ D s w _ _ u b [] cs hcs hI he hu hB
   generalize codeA C rec n ⟨f,dfr,none⟩ c {tmps:=argsT args 0 .nil,n:=fn.ntmps,defers:=[]} u s=res at hbody hout
   cases res with
   | fail=>simp only at hout;subst hout;trivial
   | fin x e1 u1 s1=>
     obtain ⟨φ1,D1,w1,a1,h1,h2,h3,h4,h5,h6⟩:=hbody
     have start:∀m,(∃todo,Steps P (lone (fat b {tmps:=(denL φ args).toArray++Array.replicate (fn.ntmps- (denL φ args).toArray.size) undef,defers:=[]} [.code c]) (csOf dfr φ u cs) w)
           (lone {fat b a1 todo with mode:=denM φ1 m} (csOf dfr φ1 u1 cs) w1))->okM D1 m->out=leaveA C rec fn u1 e1 n e1.defers m s1->
      CallOut C P f dfr φ D s w (lone (fat b {tmps:=(denL φ args).toArray++Array.replicate (fn.ntmps- (denL φ args).toArray.size) undef,defers:=[]} [.code c]) (csOf dfr φ u cs) w) cs out:=by
      intro m ⟨todo,hst⟩ hm hleq
      have hl:=leave_sound hC hrec (fn:=fn) (u0:=u1) (e:=e1) (cs:=csOf dfr φ1 u1 cs) n e1.defers m φ1 D1 s1 w1 {fat b a1 todo with mode:=denM φ1 m} h1 h2.tmps rfl hm
       (by rw [show ({fat b a1 todo with mode:=denM φ1 m}:Frame).defers=a1.defers from rfl,h2.defers]) h2.ok
      rw [<-hleq] at hl
      cases out with
      | fail=>trivial
      | returned v u' s'=>
        obtain ⟨rfl,φ',D',w',fr',q1,q2,q3,q4,q5,q6,q7,q8,q9⟩:=hl
        have hx:=h5.trans q2
        refine ⟨φ',D',w',fr',q1,hx,q3,okM.mono q2.dom h3, ?_,q5.trans hbf,q6.trans hbk,q7,q8,fn,hf,q9⟩
        rw [<-csOf_congr (fun i hi=>(q2.phi i hi).symm) h3 cs]
        exact hst.trans q4
      | panicked ch u' s'=>
        obtain ⟨rfl,φ',D',w',fr',q1,q2,q3,q4,q5,q6,q7,q8⟩:=hl
        have hx:=h5.trans q2
        refine ⟨φ',D',w',fr',q1,hx,q3,okM.mono q2.dom h3, ?_,q5.trans hbf,q6.trans hbk,q7,q8,fn,hf⟩
        rw [<-csOf_congr (fun i hi=>(q2.phi i hi).symm) h3 cs]
        exact hst.trans q4
     cases x with
     | normal=>exact start .returning ⟨[],Steps.trans h6 (.one (go_leave_end hbr))⟩ trivial hout.symm
     | ret=>
       obtain ⟨kk,h6⟩:=h6
       exact start .returning ⟨_,h6.trans (.one (go_leave_ret hbr))⟩ trivial hout.symm
     | panic ch=>
       obtain ⟨todo,h6⟩:=h6
       exact start (.panicking ch) ⟨todo,h6⟩ h4 hout.symm
     | exit id=>subst hout;trivial
     | goto l=>subst hout;trivial
theorem go_begin {b:Frame} {cs:List Frame} {k:List Item} {l:Nat} {r:Loop} (hl:w.heap[l]? =some (.loop r)) (hs:r.state= .ready) (hb:b.roundOf=some l):
 step P (lone (fat b a (.beginRound::k)) cs w)= .next (lone (fat b a k) cs (setB w l (.loop {r with state:= .busy}))):=by
 have hrun:(Instr.beginRound l).run P w= .ok () (setB w l (.loop {r with state:= .busy})):=by
  simp only [Instr.beginRound,Instr.getLoop,Sem.run_bind,run_getObj hl (by intro _ _ _ h;cases h),Result.andThen_ok,Sem.run_pure,run_setObj hl (by intro _ _ _ h;cases h),hs]
 refine step_lone_go ?_
 simp only [stepG,stepG.exec,fat,hb,Option.elim_some,stepG.apply,Sem.runT_eq,if_true,Sem.run_bind,hrun,Result.andThen_ok,Sem.run_pure,GStep.bare_after]
 simp [Frame.finish]
theorem run_endRound {l:Nat} {r:Loop} (hl:w.heap[l]? =some (.loop r)) (jump:Option Code):
 (Instr.endRound l jump).run P w= .ok (.bool jump.isNone) (setB w l (.loop {r with state:=if jump.isNone then .ready else .done,pending:=jump})):=by
 simp only [Instr.endRound,Instr.getLoop,Sem.run_bind,run_getObj hl (by intro _ _ _ h;cases h),Result.andThen_ok,Sem.run_pure,run_setObj hl (by intro _ _ _ h;cases h)]
def leavesWith:List Item->Option Code->Prop
 | [],j=>j=none
 | .code .ret::_,j=>j=some .ret
 | .code (.exit id)::k,j=>exitTo id k=none/\j=some (.exit id)
 | .code (.goto l)::k,j=>gotoIn l k=none/\j=some (.goto l)
 | _,_=>False
theorem go_round_end {b c:Frame} {cs:List Frame} {k:List Item} {l:Nat} {r:Loop} {j:Option Code} (hl:w.heap[l]? =some (.loop r)) (hb:b.roundOf=some l) (hk:b.kind= .normal) (hj:leavesWith k j):
 step P (lone (fat b a k) (c::cs) w)= .next (lone (c.finish (.bool j.isNone)) cs (setB w l (.loop {r with state:=if j.isNone then .ready else .done,pending:=j}))):=by
 refine step_lone_go ?_
 unfold leavesWith at hj
 split at hj
 · subst hj
   simp only [stepG,stepG.exec,fat,hb,Sem.runT_eq,run_endRound hl,GStep.bare_after]
   simp [doReturn,hk]
 · subst hj
   simp only [stepG,stepG.exec,fat,hb,Sem.runT_eq,run_endRound hl,GStep.bare_after]
   simp [doReturn,hk]
 · obtain ⟨h,rfl⟩:=hj
   simp only [stepG,stepG.exec,fat,hb,h,Option.elim_none,Sem.runT_eq,run_endRound hl,GStep.bare_after]
   simp [doReturn,hk]
 · obtain ⟨h,rfl⟩:=hj
   simp only [stepG,stepG.exec,fat,hb,h,Option.elim_none,Sem.runT_eq,run_endRound hl,GStep.bare_after]
   simp [doReturn,hk]
 · exact hj.elim
def RoundOut (C:Cx) (P:Program) (φ:Phi) (D:Nat->Prop) (s:St) (w:World) (m:Machine) (c:Frame) (cs:List Frame):FOut->Prop
 | .returned v _ s'=>∃φ' D' w',Inv C φ' D' s' w'/\Ext φ D s.heap w φ' D' s'.heap w'/\Ok D' v/\Steps P m (lone (c.finish (den φ' v)) cs w')
 | .panicked ch _ s'=>∃φ' D' w',Inv C φ' D' s' w'/\Ext φ D s.heap w φ' D' s'.heap w'/\okChain D' ch/\Steps P m (lone (c.raise (ch.map (denP φ'))) cs w')
 | .fail=>True
theorem round_out (hC:CxOk C P) {rec:Rec} (hrec:RecOk C P rec) (hdraw:DrawOk C P rec) (n:Nat) (l:Nat) (args:List Value) (s:St) (φ:Phi) (D:Nat->Prop) (w:World) (l':Nat) (f:FuncId) (tm:Array Value) (as bd:Code)
 (hI:Inv C φ D s w) (hnr:NRel φ D s.heap (.round l args) (.round l' f tm as bd)) (c:Frame) (cs:List Frame):
 RoundOut C P φ D s w (lone (Frame.round l' f tm as bd .normal) (c::cs) w) c cs (roundA C rec n l args s):=by
 obtain ⟨rfl,hDl,r,hl,rfl,rfl,rfl,hpar⟩:=hnr
 generalize hout:roundA C rec n l args s=out
 unfold roundA at hout
 rw [hl] at hout
 simp only at hout
 cases hlen:(Nat.beq args.length r.params.size&&(C.funcs.get r.fn).isSome) with
 | false=>rw [hlen] at hout;subst hout;trivial
 | true=>
   rw [hlen] at hout
   simp only [cond_true] at hout
   rw [Bool.and_eq_true] at hlen
   have hlen1:=Nat.eq_of_beq_eq_true hlen.1
   obtain ⟨fn,hfn⟩:=Option.isSome_iff_exists.1 hlen.2
   have hf:=hC.func _ _ hfn
   generalize hb:({fn:=r.fn,tmps:= #[],todo:=[],defers:=[],mode:= .run,kind:= .normal,roundOf:=some (φ l).block}:Frame)=b
   have hbf:b.fn=r.fn:=by rw [<-hb]
   have hbk:b.kind= .normal:=by rw [<-hb]
   have hbr:b.roundOf=some (φ l).block:=by rw [<-hb]
   have hfr:Frame.round (φ l).block r.fn tm r.assign r.body .normal=fat b {tmps:=tm,defers:=[]} [.code r.assign,.beginRound,.code r.body]:=by
    rw [<-hb];rfl
   rw [hfr]
   have hB:BOk φ D ⟨r.fn,false,some l⟩ b:=⟨hbf,hbk,hbr,by intro l' h;cases h;exact hDl⟩
   have he:ERel φ D {tmps:=paramsT r.params.toList args r.tmps,n:=r.ntm,defers:=[]} {tmps:=tm,defers:=[]}:=⟨hpar hlen1,rfl,by intro d h;cases h⟩
   have hcode:=code_sound hC hrec hdraw n r.assign ⟨r.fn,false,some l⟩ φ D s w _ _ .run b [.beginRound,.code r.body] (c::cs) (by intro h;cases h) hI he trivial hB
   generalize codeA C rec n ⟨r.fn,false,some l⟩ r.assign {tmps:=paramsT r.params.toList args r.tmps,n:=r.ntm,defers:=[]} .run s=res at hcode hout
   split at hout
   case h_2=>subst hout;trivial
   rename_i e1 u1 s1
   obtain ⟨φ1,D1,w1,a1,h1,h2,h3,h4,h5,h6⟩:=hcode
   split at hout
   case h_2=>subst hout;trivial
   rename_i r1 hl1
   split at hout
   case h_2=>subst hout;trivial
   rename_i hready
   obtain ⟨hDr,tm1,htm1,hobj1⟩:=h1.1.blk l _ hl1
   have hp1:φ1 l=φ l:=h5.phi l hDl
   have hset1:=h1.1.setObj (o:= .loop {state:= .busy,pending:=r1.pending,fn:=r1.fn,tmps:=tm1,params:=r1.params,assign:=r1.assign,body:=r1.body,defers:=(φ1 r1.defers).block}) hl1 rfl rfl rfl
    (b':= .loop {r1 with state:= .busy}) ⟨hDr,tm1,htm1,setB_same (heap_lt hobj1)⟩
   have hstep1:=go_begin (P:=P) (a:=a1) (b:=b) (cs:=c::cs) (k:=[.code r.body]) hobj1 hready (by rw [hbr,hp1])
   have hB1:=hB.mono (h5.trans hset1.2).dom (h5.trans hset1.2).phi
   have hcode2:=code_sound hC hrec hdraw n r.body ⟨r.fn,false,some l⟩ φ1 D1 {s1 with heap:=s1.heap.set l (.loop {r1 with state:= .busy})} _ e1 a1 .run b [] (c::cs) (by intro h;cases h)
    ⟨hset1.1,h1.2⟩ h2 trivial hB1
   generalize codeA C rec n ⟨r.fn,false,some l⟩ r.body e1 .run {s1 with heap:=s1.heap.set l (.loop {r1 with state:= .busy})}=res2 at hcode2 hout
   have hsteps1:Steps P (lone (fat b {tmps:=tm,defers:=[]} [.code r.assign,.beginRound,.code r.body]) (c::cs) w) _:=Steps.trans h6 (.one hstep1)
   cases res2 with
   | fail=>simp only at hout;subst hout;trivial
   | fin x e2 u2 s2=>
     obtain ⟨φ2,D2,w2,a2,g1,g2,g3,g4,g5,g6⟩:=hcode2
     have hx2:=(h5.trans hset1.2).trans g5
     have hp2:φ2 l=φ l:=hx2.phi l hDl
     by_cases hpx:∃ch,x= .panic ch
     · obtain ⟨ch,rfl⟩:=hpx
       simp only at hout
       split at hout
       case h_2=>subst hout;trivial
       rename_i hnd
       subst hout
       obtain ⟨todo,g6⟩:=g6
       refine ⟨φ2,D2,w2,g1,hx2,g4,hsteps1.trans (g6.trans (.one ?_))⟩
       refine step_leave_panicked ⟨rfl, ?_,fn,by rw [show ({fat b a2 todo with mode:= .panicking (ch.map (denP φ2))}:Frame).fn=b.fn from rfl,hbf];exact hf⟩
       show a2.defers=[]
       rw [g2.defers,hnd];rfl
     · -- the round's own end
       have fin:∀(r2:LoopA) (j:Option Code) (k:List Item),s2.heap.get l=some (.loop r2)->leavesWith k j->
        Steps P (lone (fat b a1 [.code r.body]) (c::cs) (setB w1 (φ1 l).block (.loop {state:= .busy,pending:=r1.pending,fn:=r1.fn,tmps:=tm1,params:=r1.params,assign:=r1.assign,body:=r1.body,defers:=(φ1 r1.defers).block}))) (lone (fat b a2 k) (c::cs) w2)->
        ∃φ' D' w',Inv C φ' D' {s2 with heap:=s2.heap.set l (.loop {r2 with state:=if j.isNone then .ready else .done,pending:=j})} w'/\
         Ext φ D s.heap w φ' D' (s2.heap.set l (.loop {r2 with state:=if j.isNone then .ready else .done,pending:=j})) w'/\
         Steps P (lone (fat b {tmps:=tm,defers:=[]} [.code r.assign,.beginRound,.code r.body]) (c::cs) w) (lone (c.finish (.bool j.isNone)) cs w'):=by
        intro r2 j k hl2 hj hst
        obtain ⟨hDr2,tm2,htm2,hobj2⟩:=g1.1.blk l _ hl2
        have hset2:=g1.1.setObj (o:= .loop {state:=if j.isNone then .ready else .done,pending:=j,fn:=r2.fn,tmps:=tm2,params:=r2.params,assign:=r2.assign,body:=r2.body,defers:=(φ2 r2.defers).block}) hl2 rfl rfl rfl
         (b':= .loop {r2 with state:=if j.isNone then .ready else .done,pending:=j}) ⟨hDr2,tm2,htm2,setB_same (heap_lt hobj2)⟩
        exact ⟨φ2,D2,_,⟨hset2.1,g1.2⟩,hx2.trans hset2.2,hsteps1.trans (hst.trans (.one (go_round_end hobj2 (by rw [hbr,hp2]) hbk hj)))⟩
       cases x with
       | panic ch=>exact absurd ⟨ch,rfl⟩ hpx
       | normal=>
         simp only at hout
         split at hout
         case h_2=>subst hout;trivial
         rename_i r2 hl2
         subst hout
         obtain ⟨φ',D',w',q1,q2,q3⟩:=fin r2 none [] hl2 rfl g6
         exact ⟨φ',D',w',q1,q2,trivial,q3⟩
       | exit id=>
         simp only [codeOf] at hout
         split at hout
         case h_2=>subst hout;trivial
         rename_i r2 hl2
         subst hout
         obtain ⟨kk,hk,g6⟩:=g6
         obtain ⟨φ',D',w',q1,q2,q3⟩:=fin r2 (some (.exit id)) (.code (.exit id)::kk) hl2 ⟨hk,rfl⟩ g6
         exact ⟨φ',D',w',q1,q2,trivial,q3⟩
       | goto lb=>
         simp only [codeOf] at hout
         split at hout
         case h_2=>subst hout;trivial
         rename_i r2 hl2
         subst hout
         obtain ⟨kk,hk,g6⟩:=g6
         obtain ⟨φ',D',w',q1,q2,q3⟩:=fin r2 (some (.goto lb)) (.code (.goto lb)::kk) hl2 ⟨hk,rfl⟩ g6
         exact ⟨φ',D',w',q1,q2,trivial,q3⟩
       | ret=>
         simp only [codeOf] at hout
         split at hout
         case h_2=>subst hout;trivial
         rename_i r2 hl2
         subst hout
         obtain ⟨kk,g6⟩:=g6
         obtain ⟨φ',D',w',q1,q2,q3⟩:=fin r2 (some .ret) (.code .ret::kk) hl2 rfl g6
         exact ⟨φ',D',w',q1,q2,trivial,q3⟩
theorem rec_step (hC:CxOk C P) {rec:Rec} (hrec:RecOk C P rec) (hdraw:DrawOk C P rec) (n:Nat):RecOk C P {call:=callA C rec n,round:=roundA C rec n} where
 call:=by
  intro f args s φ D w hI hargs
  have h:=fun cs=>call_out hC hrec hdraw n false f args .run s φ D w hI hargs trivial cs (by intro h;cases h)
  simp only
  generalize callA C rec n false f args .run s=out at h ⊢
  cases out with
  | fail=>trivial
  | returned v u' s'=>
    intro cs
    obtain ⟨φ',D',w',fr,q1,q2,q3,q4,q5,q6,q7,q8,q9,q10⟩:=h cs
    exact ⟨φ',D',w',fr,q1,q2,q3,q5,q6,q8,q9,q7,by rw [q6];exact q10⟩
  | panicked ch u' s'=>
    intro cs
    obtain ⟨φ',D',w',fr,q1,q2,q3,q4,q5,q6,q7,q8,q9,q10⟩:=h cs
    exact ⟨φ',D',w',fr,q1,q2,q3,q5,q6,q8,q9,by rw [q6];exact q10⟩
 callD:=by
  intro f args u s φ D w hI hargs hu
  have h:=fun c cs=>call_out hC hrec hdraw n true f args u s φ D w hI hargs hu (c::cs) (by intro _ h;cases h)
  simp only
  generalize callA C rec n true f args u s=out at h ⊢
  cases out with
  | fail=>trivial
  | returned v u' s'=>
    intro c cs hc
    obtain ⟨φ',D',w',fr,q1,q2,q3,q4,q5,q6,q7,q8,q9,q10⟩:=h c cs
    have:csOf true φ u (c::cs)=c::cs:=by simp only [csOf,<-hc]
    rw [this] at q5
    exact ⟨φ',D',w',fr,q1,q2,q3,q4,q5,q7,q8,q9,by rw [q6];exact q10⟩
  | panicked ch u' s'=>
    intro c cs hc
    obtain ⟨φ',D',w',fr,q1,q2,q3,q4,q5,q6,q7,q8,q9,q10⟩:=h c cs
    have:csOf true φ u (c::cs)=c::cs:=by simp only [csOf,<-hc]
    rw [this] at q5
    exact ⟨φ',D',w',fr,q1,q2,q3,q4,q5,q7,q8,q9,by rw [q6];exact q10⟩
 round:=by
  intro l args s φ D w l' f tm as bd hI hnr
  have h:=fun c cs=>round_out hC hrec hdraw n l args s φ D w l' f tm as bd hI hnr c cs
  simp only
  generalize roundA C rec n l args s=out at h ⊢
  cases out with
  | fail=>trivial
  | returned v u' s'=>exact h
  | panicked ch u' s'=>exact h
theorem below_rel {φ:Phi} {D:Nat->Prop} {s:St} {w w':World} (hI:Inv C φ D s w) (hb:RowKit.Below w.heap.size w w'):Inv C φ D s w'/\Ext φ D s.heap w φ D s.heap w':=
 ⟨⟨⟨hI.1.dom,fun i b hi=>(hI.1.blk i b hi).mono (fun _ h=>h) (fun _ _=>rfl) (hb.block _ (hI.1.blk i b hi).lt),hI.1.sep,hI.1.glob⟩,hI.2⟩,
   ⟨fun _ h=>h,fun _ _=>rfl,hb.size,hb.os,hb.tape,hb.output,fun k hk _=>hb.block k hk,fun i bi hi hw _=>⟨i,bi,hi,hw,rfl⟩,fun i bi hi _=>⟨i,bi,hi,rfl⟩⟩⟩
theorem numBlk_inv {o:Option Blk} (h:numBlk o=true):∃m r e st par,o=some (.cells (.int .i64 m::r) e st par):=by
 unfold numBlk at h
 split at h
 · exact ⟨_,_,_,_,_,rfl⟩
 · cases h
theorem num_cell {φ:Phi} {D:Nat->Prop} {s:St} {w:World} (hI:Inv C φ D s w) {n:Nat} (hn:n<C.globals) (h:numBlk (s.heap.get n)=true):∃m,w.cell? ⟨n,0,none⟩=some (.int .i64 m):=by
 obtain ⟨m,r,e,st,par,hget⟩:=numBlk_inv h
 obtain ⟨_,c,el,fr,sz,h1,h2,h3,h4,_⟩:=hI.1.blk n _ hget
 have hφ:=(hI.1.glob n hn).2
 rw [hφ] at h1 h4
 have:=h4 0 (.int .i64 m) rfl
 simp only [den] at this
 exact ⟨m,by simp only [World.cell?,h1];simpa using this⟩
theorem strsA_get:∀{l:List Value} {xs:List ByteArray},strsA l=some xs->∀(j:Nat) x,xs[j]? =some x->l[j]? =some (.string x)
 | [],xs,h,j,x,hx=>by cases h;simp at hx
 | v::r,xs,h,j,x,hx=>by
   unfold strsA at h
   split at h
   case h_2=>cases h
   rename_i y
   split at h
   case h_2=>cases h
   rename_i l' hl
   cases h
   cases j with
   | zero=>simpa using hx
   | succ j=>simpa using strsA_get hl j x (by simpa using hx)
theorem joinA_ok (hC:CxOk C P) {φ:Phi} {D:Nat->Prop} {s:St} {w:World} (hI:Inv C φ D s w) {f:Nat} (hf:isJoin C f=true) {args:List Value} (hargs:OkL D args) {v:Value} (h:joinA args s=some v):
 closedB v=true/\Calls P f (denL φ args).toArray w fun e w'=>e= .returned v/\RowKit.Below w.heap.size w w':=by
 unfold joinA at h
 split at h
 case h_2=>cases h
 rename_i b o n c sep
 split at h
 case h_2=>cases h
 rename_i vs el st par hget
 split at h
 case h_2=>cases h
 rename_i l hl
 replace h:=bool_split h;rcases h with ⟨hb,h⟩ | ⟨_,h⟩
 case inr=>cases h
 cases h
 simp only [Bool.and_eq_true,beq_iff,ble_iff,blt_iff] at hb
 obtain ⟨⟨⟨h1,h2⟩,h3⟩,h4⟩:=hb
 subst h1
 refine ⟨rfl, ?_⟩
 obtain ⟨_,cs,el',fr,sz,g1,g2,g3,g4,_⟩:=hI.1.blk b _ hget
 unfold isJoin at hf
 split at hf
 case h_2=>cases hf
 rename_i g hg
 rw [beq_iff] at hf
 subst hf
 have hlt:(φ b).block<w.heap.size:=by
  rw [Array.getElem?_eq_some_iff] at g1
  exact g1.1
 have:=hC.join g hg (φ b).block ((φ b).off+o) (c/2+c%2*(φ b).slack) l sep w (fun j x hx=> ?_) hlt (Nat.le_trans h2 (Nat.le_add_right _ _)) h3 h4
 · simpa [denL,den,spotOf,spOf] using this
 · have e1:=strsA_get hl j x hx
   have e2:vs[o+j]? =some (.string x):=by
    rw [List.getElem?_take] at e1
    split at e1
    · rwa [List.getElem?_drop] at e1
    · cases e1
   have e3:=g4 (o+j) _ e2
   simp only [den] at e3
   simp only [World.cell?,g1]
   simpa [Nat.add_assoc] using e3
theorem rec_sure (hC:CxOk C P) {rec:Rec} {n:Nat} (h:RecOk C P {call:=callA C rec n,round:=roundA C rec n}):RecOk C P {call:=callS C rec n,round:=roundA C rec n} where
 call f args s φ D w hI hargs:=by
  have h0:=h.call f args s φ D w hI hargs
  simp only [callS]
  cases hs:sureA C false f args s with
  | none=>exact h0
  | some v=>
    simp only
    intro cs
    rcases hargs':args with _ | ⟨a,r⟩
    case cons=>
     rw [hargs'] at hs hargs
     simp only [sureA] at hs
     replace hs:=bool_split hs;rcases hs with ⟨hb,hs⟩ | ⟨_,hs⟩
     case inr=>cases hs
     obtain ⟨hv,hcall⟩:=joinA_ok hC hI hb hargs hs
     obtain ⟨e,w',fr,⟨he,hb⟩,h1,h2,h3⟩:=hcall cs
     subst he
     obtain ⟨q1,q2⟩:=below_rel hI hb
     exact ⟨φ,D,w',fr,q1,q2,(closed_den φ D v hv).2,by simpa [Comes] using h1,h2,by rw [(closed_den φ D v hv).1];exact h3⟩
    subst hargs'
    simp only [sureA] at hs
    split at hs
    case h_2=>cases hs
    rename_i v' hv'
    have hcell:v'=v/\∀n,C.need=some n->∃m,w.cell? ⟨n,0,none⟩=some (.int .i64 m):=by
     split at hs
     · rename_i hnd
       cases hs
       exact ⟨rfl,fun n hn=>by rw [hnd] at hn;cases hn⟩
     · rename_i k hnd
       replace hs:=bool_split hs;rcases hs with ⟨hb,hs⟩ | ⟨_,hs⟩
       case inr=>cases hs
       cases hs
       rw [Bool.and_eq_true,blt_iff] at hb
       exact ⟨rfl,fun n hn=>by rw [hnd] at hn;cases hn;exact num_cell hI hb.1 hb.2⟩
    obtain ⟨rfl,hcell⟩:=hcell
    obtain ⟨hv,hcall⟩:=hC.sure f v' hv'
    obtain ⟨e,w',fr,⟨he,hb⟩,h1,h2,h3⟩:=hcall w hcell cs
    subst he
    obtain ⟨q1,q2⟩:=below_rel hI hb
    exact ⟨φ,D,w',fr,q1,q2,(closed_den φ D v' hv).2,by simpa [denL,Comes] using h1,h2,by rw [(closed_den φ D v' hv).1];exact h3⟩
 callD f args u s φ D w hI hargs hu:=by
  have h0:=h.callD f args u s φ D w hI hargs hu
  simpa only [callS,sureA] using h0
 round:=h.round
theorem rec_sound (hC:CxOk C P) (hdraw:∀rec,RecOk C P rec->DrawOk C P rec):∀n,RecOk C P (recOf C n)
 | 0=>⟨fun _ _ _ _ _ _ _ _=>trivial,fun _ _ _ _ _ _ _ _ _ _=>trivial,fun _ _ _ _ _ _ _ _ _ _ _ _ _=>trivial⟩
 | n+1=>rec_sure hC (rec_step hC (rec_sound hC hdraw n) (hdraw _ (rec_sound hC hdraw n)) n)
end
end Go.Eng
